/-
  Texts of FirePlays, laid together by program.
-/
import Derived.Test.YtegejdlglonflaaGreatDoorWZ6
import Derived.Test.YtegejdlglonflaaGreatDoorWZ7
import Derived.Lib.AppendZeros
namespace Go.Proofs.YtegejdlglonflaaGreatDoor
open Go.RowKit Go.Shelf Go.Proofs.Tryz
set_option maxRecDepth 100000
set_option maxHeartbeats 8000000
set_option linter.unusedVariables false
set_option linter.unusedSimpArgs false
namespace MT.PT
def kind:MT.PT->Int| .mk k _ _=>k
mutual
def nodes:MT.PT->Nat
 | .mk _ _ l=>aV l+1
def aV:List MT.PT->Nat
 |[]=>0
 |t::r=>nodes t+aV r
end
mutual
def iZ:MT.PT->Prop
 | .mk k n l=>Shape k n (l.map kind)/\iU l
def iU:List MT.PT->Prop
 |[]=>True
 |t::r=>iZ t/\iU r
end
theorem qY{l:List MT.PT}:iU l↔∀t∈l,t.iZ:=by
 induction l with
 |nil=>simp[iU]
 |cons t r ih=>simp[iU,ih]
def Ok(p:MT.PT):Prop:=p.nodes<=256/\p.iZ
end MT.PT
theorem MT.cu(t:MT):t.plain.nodes=t.nodes:=by
 induction t using MT.ind with
 |h k n a c l ih=>
  simp only[MT.plain,MT.PT.nodes,MT.nodes];congr 1
  induction l with
  |nil=>rfl
  |cons x r ihr=>
   simp only[MT.jD,MT.PT.aV,MT.aV];rw[ih x (by simp),ihr (fun t ht=>ih t (by simp[ht]))]
theorem MT.wW(t:MT):t.plain.kind=t.kind:=by cases t;rfl
theorem MT.gV{k n:Int}{a:Option Addr}{c:Nat}{l:List MT}:(MT.mk k n a c l).plain.iZ↔Shape k n (l.map MT.kind)/\∀t∈l,t.plain.iZ:=by
 simp only[MT.plain,MT.PT.iZ,MT.iM,MT.PT.qY,List.map_map];have e:MT.PT.kind ∘ MT.plain=MT.kind:=funext fun t=>MT.wW t;rw[e];simp
theorem xE:∀(t:MT) (w:World),t.In w->Calls prog 302 #[t.val] w (aI t.plain.iZ w):=by
 intro t;induction t using MT.ind with
 |h k n a c l ih=>
 intro w hin;have Ed:=hdq hin;have GY:=hdq ih;have HS:=hdq (fun W (hW:Touch [] w W)=>wL (.mk k n a c l) W (hin.aO hW));have hlen:=hin.len;simp only[MT.parts]at hlen;clear hin ih;simp only[MT.val,MT.kind,MT.num,MT.sl,MT.addr,MT.parts,MT.cap]at HS|-;have z1:w.heap.size<w.heap.size+1:=by omega
 go_enter func302,ntmps302
 go_wp2_with fail
 refine ah ?_;intro w1 hw1;have BB:=hdq ((BD.nil' w).DN hw1);simp only[nAq,cAq]at BB;refine(HS.o _ BB.o.BN).mono ?_;rintro e w2 ⟨cc,rfl,hcc,ht⟩;have HL2:=hdq (BB.o.touch ht);have D6:=hdq hcc;generalize hb1:w.heap.size=b1 at HL2|-;clear hb1 hw1 BB hcc ht z1 HS;obtain⟨x0,x1,x2,_,_,_,zx,_,_⟩:=HL2.o.c3 0 rfl;cases cc with
 |false=>
  go_wp2;go_ret
  refine aI.no (fun hs=>?_) HL2.o.BN;have :=D6.o.2 (MT.gV.1 hs).1;cases this
 |true=>
  go_wp2_with fail
  go_loopw [11] (fun i wr=>∃(j:Nat),j<=l.length/\i= .int .i64 (j:Int)/\Hid (∀t∈l.take j,t.plain.iZ)/\Hid (BD [] w wr [box b1 58 #[k,n,.slice a l.length c]])) (fun i _=>l.length-(intOf i).toNat)
  case atStart=>exact⟨0,Nat.zero_le _,rfl,by unfold Hid;simp,HL2⟩
  case round=>
   obtain⟨j,hj,rfl,HD,HK⟩:=hrel;clear HL2 x0 x1 x2 zx;obtain⟨x0,x1,x2,_,_,_,zx,_,_⟩:=HK.o.c3 0 rfl;by_cases hjl:j<l.length
   .have Cc:(j:Int)<(l.length:Int):=by omega
    have hj0:(0:Int)<=(j:Int):=by omega
    obtain⟨b,o,rfl,hb,p0,p1,p2⟩:=(Ed.o.aO HK.o.BN).row.cellAt hjl;have HU:=hdq ((Ed.o.aO HK.o.BN).part (List.getElem_mem hjl));have HI:=hdq (GY.o _ (List.getElem_mem hjl));have EI:Hid (l[j]∈l):=List.getElem_mem hjl;have Eh:Hid (l.take (j+1)=l.take j++[l[j]]):=by
     unfold Hid;rw[List.take_add_one,List.getElem?_eq_getElem hjl,Option.toList_some]
    simp only[MT.parts]at p0 p1 p2 HU HI;generalize l[j]=u at p0 p1 p2 HU HI Eh EI;simp only[MT.sl]at p2;clear GY;go_wp2_with fail
    refine ah ?_;intro w3 hw3;have HT3:Hid (Touch [] wr w3):=hw3▸(Touch.refl [] wr).alloc _;refine(HI.o w3 (HU.o.aO HT3.o)).mono ?_;rintro e w4 ⟨cc,rfl,hcc,ht⟩;have BH:=hdq (HK.o.touch (HT3.o.trans' ht));have HC4:=hdq hcc;clear hcc ht hw3 x0 x1 x2 p0 p1 p2;cases cc with
    |false=>
     go_wp2;go_ret
     refine aI.no (fun hs=>?_) BH.o.BN;have :=HC4.o.2 ((MT.gV.1 hs).2 u EI.o);cases this
    |true=>
     go_wp2;go_roundw
     case rel=>
      refine⟨j+1,by omega,by go_num,?_,BH⟩;unfold Hid;rw[Eh.o];intro y hy;rcases List.mem_append.1 hy with hy|hy
      .exact HD.o y hy
      .simp at hy;rw[hy];exact HC4.o.1 (by simp)
     case measure=>simp[intOf];omega
   .have Cc:¬(j:Int)<(l.length:Int):=by omega
    go_wp2;go_ret
    refine aI.yes (MT.gV.2 ⟨D6.o.1 (by simp),?_⟩) HK.o.BN;have h:=HD.o;rw[List.take_of_length_le (by omega)]at h;exact h
theorem wP:∀(t:MT) (w:World),t.In w->Calls prog 261 #[t.val] w (aI t.plain.iZ w):=by
 intro t;induction t using MT.ind with
 |h k n a c l ih=>
 intro w hin;have Ed:=hdq hin;have GY:=hdq ih;have HS:=hdq (fun W (hW:Touch [] w W)=>Bn (.mk k n a c l) W (hin.aO hW));have hlen:=hin.len;simp only[MT.parts]at hlen;clear hin ih;simp only[MT.val,MT.kind,MT.num,MT.sl,MT.addr,MT.parts,MT.cap]at HS|-;have z1:w.heap.size<w.heap.size+1:=by omega
 go_enter func261,ntmps261
 go_wp2_with fail
 refine ah ?_;intro w1 hw1;have BB:=hdq ((BD.nil' w).DN hw1);simp only[nAq,cAq]at BB;refine(HS.o _ BB.o.BN).mono ?_;rintro e w2 ⟨cc,rfl,hcc,ht⟩;have HL2:=hdq (BB.o.touch ht);have D6:=hdq hcc;generalize hb1:w.heap.size=b1 at HL2|-;clear hb1 hw1 BB hcc ht z1 HS;obtain⟨x0,x1,x2,_,_,_,zx,_,_⟩:=HL2.o.c3 0 rfl;cases cc with
 |false=>
  go_wp2;go_ret
  refine aI.no (fun hs=>?_) HL2.o.BN;have :=D6.o.2 (MT.gV.1 hs).1;cases this
 |true=>
  go_wp2_with fail
  go_loopw [3] (fun i wr=>∃(j:Nat),j<=l.length/\i= .int .i64 (j:Int)/\Hid (∀t∈l.take j,t.plain.iZ)/\Hid (BD [] w wr [box b1 58 #[k,n,.slice a l.length c]])) (fun i _=>l.length-(intOf i).toNat)
  case atStart=>exact⟨0,Nat.zero_le _,rfl,by unfold Hid;simp,HL2⟩
  case round=>
   obtain⟨j,hj,rfl,HD,HK⟩:=hrel;clear HL2 x0 x1 x2 zx;obtain⟨x0,x1,x2,_,_,_,zx,_,_⟩:=HK.o.c3 0 rfl;by_cases hjl:j<l.length
   .have Cc:(j:Int)<(l.length:Int):=by omega
    have hj0:(0:Int)<=(j:Int):=by omega
    obtain⟨b,o,rfl,hb,p0,p1,p2⟩:=(Ed.o.aO HK.o.BN).row.cellAt hjl;have HU:=hdq ((Ed.o.aO HK.o.BN).part (List.getElem_mem hjl));have HI:=hdq (GY.o _ (List.getElem_mem hjl));have EI:Hid (l[j]∈l):=List.getElem_mem hjl;have Eh:Hid (l.take (j+1)=l.take j++[l[j]]):=by
     unfold Hid;rw[List.take_add_one,List.getElem?_eq_getElem hjl,Option.toList_some]
    simp only[MT.parts]at p0 p1 p2 HU HI;generalize l[j]=u at p0 p1 p2 HU HI Eh EI;simp only[MT.sl]at p2;clear GY;go_wp2_with fail
    refine ah ?_;intro w3 hw3;have HT3:Hid (Touch [] wr w3):=hw3▸Touch.refl [] wr;refine(HI.o w3 (HU.o.aO HT3.o)).mono ?_;rintro e w4 ⟨cc,rfl,hcc,ht⟩;have BH:=hdq (HK.o.touch (HT3.o.trans' ht));have HC4:=hdq hcc;clear hcc ht hw3 x0 x1 x2 p0 p1 p2;cases cc with
    |false=>
     go_wp2;go_ret
     refine aI.no (fun hs=>?_) BH.o.BN;have :=HC4.o.2 ((MT.gV.1 hs).2 u EI.o);cases this
    |true=>
     go_wp2;go_roundw
     case rel=>
      refine⟨j+1,by omega,by go_num,?_,BH⟩;unfold Hid;rw[Eh.o];intro y hy;rcases List.mem_append.1 hy with hy|hy
      .exact HD.o y hy
      .simp at hy;rw[hy];exact HC4.o.1 (by simp)
     case measure=>simp[intOf];omega
   .have Cc:¬(j:Int)<(l.length:Int):=by omega
    go_wp2;go_ret
    refine aI.yes (MT.gV.2 ⟨D6.o.1 (by simp),?_⟩) HK.o.BN;have h:=HD.o;rw[List.take_of_length_le (by omega)]at h;exact h
theorem aD{P:Program}(w:World){ops:Array Oper}{o:Oper}{a:Act}{K:Act->World->Prop}{Q:Exit->Act->World->Prop}{E:Prop}(hgd:o.guard=none)(s x:Operand)(t:TypeId)(ho:o.op= .call {callee:= .builtin .append,args:=#[s,x],argTypes:=#[t,t]})(e:TypeId)(i:TypeInfo)(z:Value)(size bytes:Nat)(ht:P.underlying t=some (.slice e))(hi:P.info? e=some i)(hz:i.zero=some z)(hsize:i.size=size)(hby:i.bytes=bytes)(hzs:z.cells.size=size)(hsz:0<size)(v:Value)(n:Nat)(xs:List Value)(hs:a.eval s=v)(hown:dZ w e size v n xs)(sa:Option Addr)(m c:Nat)(news:List Value)(hx:a.eval x= .slice sa m c)(hl:news.length=m*size)(hsa:m=0\/∃a,sa=some a/\∀j u,news[j]? =some u->w.cell? (a.add j)=some u)(h1:∀u∈news,u.oneCell'=true)(h63:n+m<=maxLen)(hbytes:(n+m)*bytes<=140737488355328)(h:∀aa cap w',dZ w' e size (.slice aa (n+m) cap) (n+m) (xs++news)->w.grownBy w' v.ownBlock->((Value.slice aa (n+m) cap).ownBlock=v.ownBlock\/(Value.slice aa (n+m) cap).ownBlock=some w.heap.size)->K (a.put o.dst (.slice aa (n+m) cap)) w'):
  if Region.wanted o (yielded ops a.tmps)=true then Oper.wp P o a w K Q else E:=by
 obtain⟨aa,cap,w',hr,h2,h3,h4⟩:=mV (P:=P) w t o.type e i z size bytes ht hi hz hsize hby hzs hsz v n xs hown sa m c news hl hsa h1 h63 hbytes;rw[if_pos (by simp[Region.wanted,hgd])];unfold Oper.wp execOp;simp only[ho,resolve,invoke,builtin,Sem.run_bind,Sem.run_pure,Result.andThen_ok,List.map_toArray,List.map_cons,List.map_nil,hs,hx,hr];exact h aa cap w' h2 h3 h4
theorem cB{P:Program}(w:World){ops:Array Oper}{rest:List Oper}{o:Oper}{a:Act}{Q:Exit->Act->World->Prop}(hgd:o.guard=none)(s x:Operand)(t:TypeId)(ho:o.op= .call {callee:= .builtin .append,args:=#[s,x],argTypes:=#[t,t]})(e:TypeId)(i:TypeInfo)(z:Value)(size bytes:Nat)(ht:P.underlying t=some (.slice e))(hi:P.info? e=some i)(hz:i.zero=some z)(hsize:i.size=size)(hby:i.bytes=bytes)(hzs:z.cells.size=size)(hsz:0<size)(v:Value)(n:Nat)(xs:List Value)(hs:a.eval s=v)(hown:dZ w e size v n xs)(sa:Option Addr)(m c:Nat)(news:List Value)(hx:a.eval x= .slice sa m c)(hl:news.length=m*size)(hsa:m=0\/∃a,sa=some a/\∀j u,news[j]? =some u->w.cell? (a.add j)=some u)(h1:∀u∈news,u.oneCell'=true)(h63:n+m<=maxLen)(hbytes:(n+m)*bytes<=140737488355328)(h:∀aa cap w',dZ w' e size (.slice aa (n+m) cap) (n+m) (xs++news)->w.grownBy w' v.ownBlock->((Value.slice aa (n+m) cap).ownBlock=v.ownBlock\/(Value.slice aa (n+m) cap).ownBlock=some w.heap.size)->wpList P ops Q rest (a.put o.dst (.slice aa (n+m) cap)) w'):
  wpList P ops Q (o::rest) a w:=by
 obtain⟨aa,cap,w',hr,h2,h3,h4⟩:=mV (P:=P) w t o.type e i z size bytes ht hi hz hsize hby hzs hsz v n xs hown sa m c news hl hsa h1 h63 hbytes;exact Lib.wpList_append_run w hgd s x t t ho v _ hs hx _ w' hr (h aa cap w' h2 h3 h4)
theorem vX(l:List MT):∀u∈bg l,u.oneCell'=true:=by
 intro u hu;obtain⟨t,_,hu⟩:=List.mem_flatMap.1 hu;simp only[MT.cells,List.mem_cons,List.not_mem_nil,or_false]at hu;rcases hu with rfl|rfl|rfl<;>rfl
theorem MT.dK.src{w:World}{a:Option Addr}{l:List MT}(h:MT.dK w a l):l.length=0\/∃ad,a=some ad/\∀j u,(bg l)[j]? =some u->w.cell? (ad.add j)=some u:=by
 by_cases hl:l.length=0
 .exact .inl hl
 .obtain⟨b,o,rfl,_,_⟩:=h 0 (by omega)
  refine .inr ⟨_,rfl,fun j u hu=>?_⟩;have hlen:=dw l;obtain⟨hj,_⟩:=List.getElem?_eq_some_iff.1 hu;obtain⟨b',o',he,_,hc⟩:=h (j / 3) (by omega);injection he with he
  injection he with h1 h2
  subst h1 h2;have :=hc (j % 3) (by omega);rw[<-fI l (j / 3) (by omega) (j % 3) (by omega)]at this;rw[show j / 3*3+j % 3=j by omega,hu]at this;rw[Addr.add_lit,<-this];congr 2
  omega
theorem BD.empty{T:List Nat}{w0 w:World}{l:List ai}(h:BD T w0 w l)(e size:Nat):BD T w0 (w.alloc (.cells #[] e)) (l++[aS e size (.slice (some ⟨w.heap.size,0,none⟩) 0 0) 0 []]):=
 h.new (t':=aS e size (.slice (some ⟨w.heap.size,0,none⟩) 0 0) 0 []) ⟨rfl,by simp,.inr ⟨w.heap.size,0,#[],rfl,heap_alloc_new w _,Nat.le_refl _,by simp[maxLen],by simp,by simp⟩⟩ ⟨(Touch.refl [] w).alloc _,fun k hk=> .inr (by simp[sb,Value.ownBlock]at hk;omega)⟩
theorem BD.asRow1{T:List Nat}{w0 w:World}{b:Nat}{u:MT}(h:BD T w0 w [Proofs.YtegejdlglonflaaGreatDoor.box b 58 #[u.kind,u.num,.slice u.addr u.parts.length u.cap]]):BD T w0 w [aS 58 3 (.slice (some ⟨b,0,none⟩) 1 1) 1 (bg [u])]:=by
 obtain⟨f,⟨hf,hb⟩,_,hs⟩:=h.step 0 rfl;subst hf;exact hs w (aS 58 3 (.slice (some ⟨b,0,none⟩) 1 1) 1 (bg [u])) [b] ⟨rfl,rfl,.inr ⟨b,1,_,rfl,hb,Nat.le_refl _,by simp[maxLen],by simp,rfl⟩⟩ (AA.refl _ _)
theorem iX(t:MT)(w:World)(hin:t.In w)(hno:t.nodes<=1048576):Calls prog 34 #[t.val] w fun e w'=>e= .returned (.int .i64 ((min t.nodes 257:Nat):Int))/\Touch [] w w':=by
 have Ed:=hdq hin;have DJ:=hdq hno;obtain⟨i0,hi0,CY,CU,CX⟩:=info_parts uL;clear hin hno;simp only[MT.val,MT.sl];go_enter func34,ntmps34
 go_wp2_with fail
 refine ay ?_;intro w1 hw1;have BB:=hdq ((BD.nil' w).DZ hw1);simp only[nAq,cAq]at BB;have HL2:Hid (BD [] w w1 [aS 58 3 (.slice (some ⟨w.heap.size+1,0,none⟩) 1 1) 1 (bg [t])]):=(BB.o.sel [1] rfl (by decide)).asRow1;clear hw1 BB;go_loopw [3,4] (fun x i wr=>∃(nn:Nat) (l:List MT) (v:Value),x=v/\i= .int .i64 (nn:Int)/\nn<=257/\Hid (MT.aV l+nn=t.nodes)/\Hid (∀u∈l,u.In wr)/\Hid (BD [] w wr [aS 58 3 v l.length (bg l)])) (fun _ i _=>300-(intOf i).toNat)
 case atStart=>exact⟨0,[t],_,rfl,rfl,by omega,by unfold Hid;simp[MT.aV],by unfold Hid;simpa using Ed.o.aO HL2.o.BN,HL2⟩
 case round=>
  obtain⟨nn,l,v,rfl,rfl,hnn,HS,HI,HK⟩:=hrel;clear HL2;obtain⟨va,vc,rfl,_,_⟩:=mP (HK.o.aZ 0 rfl);by_cases hl0:l.length=0
  .obtain rfl:l=[]:=List.eq_nil_of_length_eq_zero hl0
   simp only[List.length_nil];go_wp2;go_ret
   refine⟨pK ?_,HK.o.BN⟩;have :=HS.o;simp only[MT.aV]at this;omega
  .have hl1:(0:Int)<(l.length:Int):=by omega
   have hl2:0<l.length:=by omega
   by_cases hn2:nn<=256
   .have hn3:(nn:Int)<=256:=by omega
    obtain⟨g,cap,cur,hv,_,hc1,hc2,_,_⟩:=gD (HK.o.aZ 0 rfl) hl2;injection hv with hv1 _ hv3
    subst hv1 hv3;obtain⟨p0,p1,p2,_,_,_,zg⟩:=HK.o.zK 0 rfl hl2;match l,hl2 with
    |u::r,_=>
    simp only[List.getElem_cons_zero,Nat.zero_mul,Nat.zero_add,MT.sl,List.length_cons]at p0 p1 p2 HK hl1 hc1|-;go_wp2_with fail
    refine ay ?_;intro w2 hw2;have HL2:=hdq (HK.o.DN hw2);simp only[nAq,cAq]at HL2;generalize hb5:wr.heap.size=b5 at HL2|-;have hT2:Hid (Touch [] wr w2):=hw2▸(Touch.refl [] wr).alloc _;clear hw2 hb5 p0 p1 p2;obtain⟨x0,x1,x2,_,_,_,zx,_,_⟩:=HL2.o.c3 1 rfl;obtain⟨sa,hsa,hsl⟩:=kZ underlying56 hi0 (some ⟨g,0,none⟩) (r.length+1) vc 1 (by omega) (by omega);have HSA:=hdq hsa;clear hsa;simp only[Nat.add_sub_cancel,Int.ofNat_eq_natCast,Int.cast_ofNat_Int]at hsl;have LK:=hdq (HL2.o.drew.empty 58 3);simp only[nAq,cAq]at LK;have HRL:Hid (r.length<=1048576/\r.length+u.parts.length<=1048576):=by
     have h1:=HS.o;have h2:=DJ.o;have h3:=MT.length_le r;have h4:=MT.length_le u.parts;have h5:=MT.ni u;simp only[MT.aV]at h1;exact⟨by omega,by omega⟩
    have HUI:Hid (∀W,Touch [] wr W->∀x∈u::r,x.In W):=fun W hW x hx=>(HI.o x hx).aO hW;have Hf:Hid (Touch [] wr (w2.drew.alloc (.cells #[] 58))):=(hT2.o.drew).alloc _;go_region_held3 (fun w'=>w'.cell? ⟨b5,2,none⟩=some (.slice u.addr u.parts.length u.cap)) (go_keep)
     (first
     |(refine aD _ (by rfl) (.tmp 18) (.tmp 20) 56 (by rfl) 58 i0 _ 3 40 underlying56 hi0 CY CU CX rfl (by decide) (.slice (some ⟨w2.heap.size,0,none⟩) 0 0) 0 [] (by rfl) (LK.o.aZ 2 rfl) sa r.length (vc-1) (bg r) (by rfl) (dw r) (vR (lo:=1) (LK.o.aZ 0 rfl) (by rw[CU]) HSA.o) (vX r) (by simp only[maxLen];have :=HRL.o.1;omega) (by have :=HRL.o.1;omega) ?_;intro a2 c2 w3 hown hgrow hat;simp only[Nat.zero_add,nAq]at hown hat|-;have BF:=hdq (LK.o.bG 2 rfl hgrow hown hat);simp only[sSq,sZq]at BF;have HT3:Hid (Touch [] wr w3):=Hf.o.grown hgrow (fun k hk=> .inr (by simp[Value.ownBlock]at hk;subst hk;exact hT2.o.size));have HA2:Hid (∀k,(Value.slice a2 r.length c2).ownBlock=some k->k∈([]:List Nat)\/wr.heap.size<=k):=fun k hk=> .inr (by have :=hT2.o.size;rcases hat with h|h<;>rw[h]at hk<;>simp[Value.ownBlock]at hk<;>omega);clear hown hgrow hat x0 x1 x2;obtain⟨x0,x1,x2,_,_,_,zx,_,_⟩:=BF.o.c3 1 rfl)
     |(refine aD _ (by rfl) (.tmp 21) (.tmp 23) 56 (by rfl) 58 i0 _ 3 40 underlying56 hi0 CY CU CX rfl (by decide) (.slice a2 r.length c2) r.length (bg r) (by rfl) (BF.o.aZ 2 rfl) u.addr u.parts.length u.cap (bg u.parts) (by rfl) (dw u.parts) (MT.dK.src (HUI.o _ HT3.o u (by simp)).row) (vX u.parts) (by simp only[maxLen];have :=HRL.o.2;omega) (by have :=HRL.o.2;omega) ?_;intro a4 c4 w4 hown hgrow hat;have BH:=hdq (BF.o.bG 2 rfl hgrow hown hat);simp only[sSq,sZq]at BH;have F6:Hid (Touch [] wr w4):=HT3.o.grown hgrow (fun k hk=>HA2.o k hk);clear hown hgrow hat x0 x1 x2;obtain⟨x0,x1,x2,_,_,_,zx,_,_⟩:=BH.o.c3 1 rfl))
    clear x0 x1 x2 hsl;have Ca:Hid (BD [] w w4 [aS 58 3 (.slice a4 (r++u.parts).length c4) (r++u.parts).length (bg (r++u.parts))]):=by
     have h:=BH.o.sel [2] (l':=[_]) rfl (by decide);rw[List.length_append,oV];exact h
    clear BH BF LK HL2;go_wp2;go_roundw
    case rel=>
     refine⟨nn+1,r++u.parts,_,by simp,by go_num,by omega,?_,?_,Ca⟩
     .have h1:=HS.o
      have h2:=MT.ni u;unfold Hid;simp only[MT.aV]at h1;rw[MT.iE];omega
     .unfold Hid
      intro x hx;rcases List.mem_append.1 hx with hx|hx
      .exact HUI.o _ F6.o x (by simp[hx])
      .exact(HUI.o _ F6.o u (by simp)).part hx
    case measure=>simp[intOf];omega
   .have hn3:¬(nn:Int)<=256:=by omega
    go_wp2;go_ret
    refine⟨pK ?_,HK.o.BN⟩;have :=HS.o;have :=MT.length_le l;omega
theorem eG(t:MT):t.val= .agg #[t.kind,t.num,.slice t.addr t.parts.length t.cap]:=rfl
theorem jI(t u:MT)(w:World)(ht:t.In w)(hu:u.In w)(hnt:t.nodes<=1048576)(hnu:u.nodes<=1048576):Calls prog 72 #[t.val,u.val] w (aI (t.nodes<=256/\u.nodes<=256/\t.plain=u.plain) w):=by
 have H1:=hdq (fun W (hW:Touch [] w W)=>iX t W (ht.aO hW) hnt);have H2:=hdq (fun W (hW:Touch [] w W)=>iX u W (hu.aO hW) hnu);have H3:=hdq (fun W (hW:Touch [] w W)=>Ja t u W (ht.aO hW) (hu.aO hW));clear ht hu;have z0:w.heap.size<w.heap.size+1+1:=by omega
 have z1:w.heap.size<w.heap.size+1:=by omega
 simp only[eG]at H1 H2 H3|-;go_enter func72,ntmps72
 go_wp2_with fail
 refine ah ?_;intro w1 hw1;have BB:=hdq ((BD.nil' w).DZ hw1);simp only[nAq,cAq]at BB;refine(H1.o _ BB.o.BN).mono ?_;rintro e w2 ⟨rfl,ht⟩;have HL2:=hdq (BB.o.touch ht);clear ht hw1 BB;generalize hb2:w.heap.size+1=b2 at HL2|-;generalize hb1:w.heap.size=b1 at HL2|-;clear hb2 hb1 z0 z1;obtain⟨x0,x1,x2,_,_,_,zx,_,_⟩:=HL2.o.c3 0 rfl;obtain⟨y0,y1,y2,_,_,_,zy,_,_⟩:=HL2.o.c3 1 rfl;by_cases ht:t.nodes<=256
 .have hx1:((min t.nodes 257:Nat):Int)<=256:=by omega
  go_wp2_with fail
  refine(H2.o _ HL2.o.BN).mono ?_;rintro e w3 ⟨rfl,ht2⟩;have BF:=hdq (HL2.o.touch ht2);clear ht2 HL2 x0 x1 x2 y0 y1 y2;obtain⟨x0,x1,x2,_,_,_,zx,_,_⟩:=BF.o.c3 0 rfl;obtain⟨y0,y1,y2,_,_,_,zy,_,_⟩:=BF.o.c3 1 rfl;by_cases hu:u.nodes<=256
  .have hx2:((min u.nodes 257:Nat):Int)<=256:=by omega
   go_wp2_with fail
   refine(H3.o _ BF.o.BN).mono ?_;rintro e w4 ⟨cc,rfl,hcc,ht2⟩;have BH:=hdq (BF.o.touch ht2);have D6:=hdq hcc;clear ht2 BF x0 x1 x2 y0 y1 y2 hcc;go_wp2;go_ret
   exact⟨_,rfl,by simp[ht,hu,D6.o],BH.o.BN⟩
  .have hx2:¬((min u.nodes 257:Nat):Int)<=256:=by omega
   go_wp2;go_ret
   exact aI.no (by simp[hu]) BF.o.BN
 .have hx1:¬((min t.nodes 257:Nat):Int)<=256:=by omega
  go_wp2;go_ret
  exact aI.no (by simp[ht]) HL2.o.BN
theorem zN(t:MT)(w:World)(ht:t.In w):Calls prog 277 #[t.val] w (aI t.plain.Ok w):=by
 have H1:=hdq (fun W (hW:Touch [] w W)=>rV t W (ht.aO hW));have H3:=hdq (fun W (hW:Touch [] w W)=>xE t W (ht.aO hW));have HN:=hdq (MT.cu t);clear ht;have z1:w.heap.size<w.heap.size+1:=by omega
 simp only[eG]at H1 H3|-;go_enter func277,ntmps277
 go_wp2_with fail
 refine ah ?_;intro w1 hw1;have BB:=hdq ((BD.nil' w).DN hw1);simp only[nAq,cAq]at BB;refine(H1.o _ BB.o.BN).mono ?_;rintro e w2 ⟨rfl,ht⟩;have HL2:=hdq (BB.o.touch ht);clear ht hw1 BB;generalize hb1:w.heap.size=b1 at HL2|-;clear hb1 z1;obtain⟨x0,x1,x2,_,_,_,zx,_,_⟩:=HL2.o.c3 0 rfl;by_cases ht:t.nodes<=256
 .rw[decide_eq_true ht]
  go_wp2_with fail
  refine(H3.o _ HL2.o.BN).mono ?_;rintro e w4 ⟨cc,rfl,hcc,ht2⟩;have BH:=hdq (HL2.o.touch ht2);have D6:=hdq hcc;clear ht2 HL2 x0 x1 x2 hcc;go_wp2;go_ret
  exact⟨_,rfl,by simp[MT.PT.Ok,HN.o,ht,D6.o],BH.o.BN⟩
 .rw[decide_eq_false ht]
  go_wp2;go_ret
  exact aI.no (fun h=>ht (HN.o▸h.1)) HL2.o.BN
theorem sN(t:MT)(w:World)(ht:t.In w)(hnt:t.nodes<=1048576):Calls prog 188 #[t.val] w (aI t.plain.Ok w):=by
 have H1:=hdq (fun W (hW:Touch [] w W)=>iX t W (ht.aO hW) hnt);have H3:=hdq (fun W (hW:Touch [] w W)=>wP t W (ht.aO hW));have HN:=hdq (MT.cu t);clear ht;have z1:w.heap.size<w.heap.size+1:=by omega
 simp only[eG]at H1 H3|-;go_enter func188,ntmps188
 go_wp2_with fail
 refine ah ?_;intro w1 hw1;have BB:=hdq ((BD.nil' w).DN hw1);simp only[nAq,cAq]at BB;refine(H1.o _ BB.o.BN).mono ?_;rintro e w2 ⟨rfl,ht⟩;have HL2:=hdq (BB.o.touch ht);clear ht hw1 BB;generalize hb1:w.heap.size=b1 at HL2|-;clear hb1 z1;obtain⟨x0,x1,x2,_,_,_,zx,_,_⟩:=HL2.o.c3 0 rfl;by_cases ht:t.nodes<=256
 .have hx1:((min t.nodes 257:Nat):Int)<=256:=by omega
  go_wp2_with fail
  refine(H3.o _ HL2.o.BN).mono ?_;rintro e w4 ⟨cc,rfl,hcc,ht2⟩;have BH:=hdq (HL2.o.touch ht2);have D6:=hdq hcc;clear ht2 HL2 x0 x1 x2 hcc;go_wp2;go_ret
  exact⟨_,rfl,by simp[MT.PT.Ok,HN.o,ht,D6.o],BH.o.BN⟩
 .have hx1:¬((min t.nodes 257:Nat):Int)<=256:=by omega
  go_wp2;go_ret
  exact aI.no (fun h=>ht (HN.o▸h.1)) HL2.o.BN
theorem jH(t:MT)(w:World)(ht:t.In w):Calls prog 208 #[t.val] w fun e w'=>(∃z:Int,e= .returned (.int .i64 z)/\(z=0\/z=40)/\(z=0↔t.plain.Ok))/\Touch [] w w':=by
 have H1:=hdq (fun W (hW:Touch [] w W)=>zN t W (ht.aO hW));clear ht;have z1:w.heap.size<w.heap.size+1:=by omega
 simp only[eG]at H1|-;go_enter func208,ntmps208
 go_wp2_with fail
 refine(H1.o _ ((Touch.refl [] w).alloc _)).mono ?_;rintro e w2 ⟨cc,rfl,hcc,ht⟩;have HT:=hdq (((Touch.refl [] w).alloc _).trans' ht);have D6:=hdq hcc;clear ht hcc;cases cc with
 |false=>
  go_wp2;go_ret
  exact⟨⟨_,rfl,by simp,by simpa using D6.o⟩,HT.o⟩
 |true=>
  go_wp2;go_ret
  exact⟨⟨_,rfl,by simp,by simpa using D6.o⟩,HT.o⟩
section
open Go.RowKit
structure ME where
 sync:Int
 thread:Int
 branch:Int
 flag:Int
 v:MT
structure PE where
 sync:Int
 thread:Int
 branch:Int
 flag:Int
 v:MT.PT
namespace ME
def plain(e:ME):PE:=⟨e.sync,e.thread,e.branch,e.flag,e.v.plain⟩
def cells(e:ME):List Value:=[.int .i64 e.sync,.int .i64 e.thread,.int .i64 e.branch,.int .i64 e.flag,.int .i64 e.v.kind,.int .i64 e.v.num,.slice e.v.addr e.v.parts.length e.v.cap]
def val(e:ME):Value:= .agg #[e.sync,e.thread,e.branch,e.flag,e.v.kind,e.v.num,.slice e.v.addr e.v.parts.length e.v.cap]
theorem bH(e:ME):e.cells.length=7:=rfl
def zero:ME:=⟨0,0,0,0,MT.zero⟩
end ME
theorem bB(e:ME):e.val= .agg #[e.sync,e.thread,e.branch,e.flag,e.v.kind,e.v.num,.slice e.v.addr e.v.parts.length e.v.cap]:=rfl
def PE.Ok(p:PE):Prop:=0<=p.sync/\0<=p.thread/\0<=p.branch/\0<=p.flag/\(p.v= .mk 0 0 []\/p.v.Ok)
theorem MT.PT.Nu{k n:Int}{l:List MT.PT}(h:(MT.PT.mk k n l).Ok):k≠0:=by
 rintro rfl;have :=h.2.1;simp[Shape]at this
theorem PE.Ok.nodes{p:PE}(h:p.Ok):p.v.nodes<=256:=by
 rcases h.2.2.2.2 with h|h
 .rw[h];simp[MT.PT.nodes,MT.PT.aV]
 .exact h.1
def aM(l:List ME):List Value:=l.flatMap ME.cells
theorem fU(l:List ME):(aM l).length=l.length*7:=by
 induction l with
 |nil=>rfl
 |cons x l ih=>simp only[aM,List.flatMap_cons,List.length_append,ME.bH,List.length_cons]at ih|-;omega
theorem iC(a b:List ME):aM (a++b)=aM a++aM b:=by simp[aM]
theorem qU(l:List ME)(i:Nat):aM (l.take i)=(aM l).take (i*7):=by
 induction l generalizing i with
 |nil=>simp[aM]
 |cons x l ih=>
  cases i with
  |zero=>simp[aM]
  |succ i=>
   simp only[List.take_succ_cons];have h1:aM (x::l)=x.cells++aM l:=by simp[aM]
   have h2:aM (x::l.take i)=x.cells++aM (l.take i):=by simp[aM]
   rw[h1,h2,ih i,List.take_append,List.take_of_length_le (l:=x.cells) (by rw[ME.bH];omega),ME.bH,show(i+1)*7-7=i*7 by omega]
theorem rA(l:List ME)(i:Nat):aM (l.drop i)=(aM l).drop (i*7):=by
 induction l generalizing i with
 |nil=>simp[aM]
 |cons x l ih=>
  cases i with
  |zero=>simp[aM]
  |succ i=>
   simp only[List.drop_succ_cons];have h1:aM (x::l)=x.cells++aM l:=by simp[aM]
   rw[h1,ih i,List.drop_append,List.drop_of_length_le (l:=x.cells) (by rw[ME.bH];omega),ME.bH,List.nil_append,show(i+1)*7-7=i*7 by omega]
theorem jT(l:List ME)(i:Nat)(hi:i<l.length)(j:Nat)(hj:j<7):(aM l)[i*7+j]? =l[i].cells[j]? :=by
 induction l generalizing i with
 |nil=>simp at hi
 |cons x l ih=>
  simp only[aM,List.flatMap_cons];cases i with
  |zero=>
   rw[List.getElem?_append_left (by simp[ME.bH];omega)];simp
  |succ i=>
   rw[List.getElem?_append_right (by simp[ME.bH];omega)];have :=ih i (by simpa using hi);simp only[ME.bH,List.getElem_cons_succ];rw[show(i+1)*7+j-7=i*7+j from by omega];exact this
theorem qf(l:List ME):∀u∈aM l,u.oneCell'=true:=by
 intro u hu;obtain⟨t,_,hu⟩:=List.mem_flatMap.1 hu;simp only[ME.cells,List.mem_cons,List.not_mem_nil,or_false]at hu;rcases hu with rfl|rfl|rfl|rfl|rfl|rfl|rfl<;>rfl
def yX(w:World)(b o:Nat)(e:ME):Prop:=w.cell? ⟨b,o,none⟩=some (.int .i64 e.sync)/\w.cell? ⟨b,o+1,none⟩=some (.int .i64 e.thread)/\w.cell? ⟨b,o+2,none⟩=some (.int .i64 e.branch)/\w.cell? ⟨b,o+3,none⟩=some (.int .i64 e.flag)/\
 w.cell? ⟨b,o+4,none⟩=some (.int .i64 e.v.kind)/\w.cell? ⟨b,o+5,none⟩=some (.int .i64 e.v.num)/\w.cell? ⟨b,o+6,none⟩=some (.slice e.v.addr e.v.parts.length e.v.cap)
theorem yX.touch{w w':World}{b o:Nat}{e:ME}(h:yX w b o e)(ht:Touch [] w w'):yX w' b o e:=
 ⟨ht.cellOf h.1,ht.cellOf h.2.1,ht.cellOf h.2.2.1,ht.cellOf h.2.2.2.1,ht.cellOf h.2.2.2.2.1,ht.cellOf h.2.2.2.2.2.1,ht.cellOf h.2.2.2.2.2.2⟩
def fo(w:World)(a:Option Addr)(l:List ME):Prop:=∀i (hi:i<l.length),∃b o,a=some ⟨b,o,none⟩/\b<w.heap.size/\yX w b (o+i*7) l[i]
theorem fo.touch{w w':World}{a:Option Addr}{l:List ME}(h:fo w a l)(ht:Touch [] w w'):fo w' a l:=fun i hi=>by
 obtain⟨b,o,ha,hb,he⟩:=h i hi;exact⟨b,o,ha,Nat.lt_of_lt_of_le hb ht.size,he.touch ht⟩
theorem fo.src{w:World}{a:Option Addr}{l:List ME}(h:fo w a l):l.length=0\/∃ad,a=some ad/\∀j u,(aM l)[j]? =some u->w.cell? (ad.add j)=some u:=by
 by_cases hl:l.length=0
 .exact .inl hl
 .obtain⟨b,o,rfl,_,_⟩:=h 0 (by omega)
  refine .inr ⟨_,rfl,fun j u hu=>?_⟩;have hlen:=fU l;obtain⟨hj,_⟩:=List.getElem?_eq_some_iff.1 hu;obtain⟨b',o',he,_,hc⟩:=h (j / 7) (by omega);injection he with he
  injection he with h1 h2
  subst h1 h2;have hg:=jT l (j / 7) (by omega) (j % 7) (by omega);rw[show j / 7*7+j % 7=j by omega,hu]at hg;rw[Addr.add_lit,show o+j=o+j / 7*7+j % 7 by omega];obtain⟨c0,c1,c2,c3,c4,c5,c6⟩:=hc;generalize l[j / 7]=e at *;have hm:j % 7=0\/j % 7=1\/j % 7=2\/j % 7=3\/j % 7=4\/j % 7=5\/j % 7=6:=by omega
  rcases hm with hm|hm|hm|hm|hm|hm|hm<;>rw[hm]at hg|- <;>simp[ME.cells]at hg<;>subst hg<;>assumption
theorem uU{w:World}{e g n cap:Nat}{l:List ME}(hn:l.length=n)(h:dZ w e 7 (.slice (some ⟨g,0,none⟩) n cap) n (aM l)):fo w (some ⟨g,0,none⟩) l:=by
 subst hn;intro i hi;have hl:=fU l;have hc:∀q,q<7->w.cell? ⟨g,0+i*7+q,none⟩=l[i].cells[q]? :=fun q hq=>by
  have hlt:i*7+q<(aM l).length:=by omega
  rw[Nat.zero_add,eT h _ hlt,<-jT l i hi q hq,List.getElem?_eq_getElem hlt]
 exact⟨g,0,rfl,lY h g (by simp[sb,Value.ownBlock]),hc 0 (by omega),hc 1 (by omega),hc 2 (by omega),hc 3 (by omega),hc 4 (by omega),hc 5 (by omega),hc 6 (by omega)⟩
theorem iL{w:World}{e cap:Nat}{a:Option Addr}{l:List ME}(h:dZ w e 7 (.slice a l.length cap) l.length (aM l)):fo w a l:=by
 by_cases hl:l.length=0
 .intro i hi;omega
 .obtain⟨g,cap',cur,hv,_⟩:=gD h (by omega)
  injection hv with h1 _ h3
  subst h1 h3;exact uU rfl h
section
variable {T:List Nat} {w0 w w':World} {l:List ai} {t1 t2 t12:ai}
theorem BD.split(h:BD T w0 w (l++[t12]))(hs:∀f,t12.holds w f->∃f1 f2,t1.holds w f1/\t2.holds w f2/\(∀k∈f1,k∈f)/\(∀k∈f2,k∈f)/\∀k∈f1,k∉f2):BD T w0 w (l++[t1,t2]):=by
 obtain⟨hb,F,h1,h2⟩:=h;have e1:(l++[t12])[l.length]? =some t12:=by simp
 obtain⟨a1,a2⟩:=h1 _ _ e1;obtain⟨f1,f2,b1,b2,s1,s2,dj⟩:=hs _ a1;refine⟨hb,fun i=>if i=l.length then f1 else if i=l.length+1 then f2 else F i,?_,?_⟩
 .intro i t hi
  have hlt:=(List.getElem?_eq_some_iff.1 hi).1;simp only[List.length_append,List.length_cons,List.length_nil]at hlt;by_cases hil:i=l.length
  .subst hil
   simp at hi
   subst hi;simp only[if_true];exact⟨b1,fun k hk=>a2 k (s1 k hk)⟩
  .by_cases hil2:i=l.length+1
   .subst hil2
    simp at hi
    subst hi;simp only[if_neg hil,if_true];exact⟨b2,fun k hk=>a2 k (s2 k hk)⟩
   .simp only[if_neg hil,if_neg hil2]
    exact h1 i t (by rw[List.getElem?_append_left (by omega)]at hi|-;exact hi)
 .intro i j hi hj hij x hx hx2
  dsimp only at hx hx2;simp only[List.length_append,List.length_cons,List.length_nil]at hi hj;have hold:∀m,m<l.length->∀k∈F m,k∉F l.length:=fun m hm k hk=>h2 m l.length (by simp;omega) (by simp) (by omega) k hk;by_cases hil:i=l.length
  .rw[if_pos hil]at hx
   rw[if_neg (by omega)]at hx2;by_cases hj2:j=l.length+1
   .rw[if_pos hj2]at hx2;exact dj x hx hx2
   .rw[if_neg hj2]at hx2;exact hold j (by omega) x hx2 (s1 x hx)
  .rw[if_neg hil]at hx
   by_cases hi2:i=l.length+1
   .rw[if_pos hi2]at hx
    by_cases hjl:j=l.length
    .rw[if_pos hjl]at hx2;exact dj x hx2 hx
    .rw[if_neg hjl,if_neg (by omega)]at hx2;exact hold j (by omega) x hx2 (s2 x hx)
   .rw[if_neg hi2]at hx
    by_cases hjl:j=l.length
    .rw[if_pos hjl]at hx2;exact hold i (by omega) x hx (s1 x hx2)
    .rw[if_neg hjl]at hx2
     by_cases hj2:j=l.length+1
     .rw[if_pos hj2]at hx2;exact hold i (by omega) x hx (s2 x hx2)
     .rw[if_neg hj2]at hx2;exact h2 i j (by simp;omega) (by simp;omega) hij x hx hx2
end
def aQ(g:Nat)(es:List ME):ai where
 holds w fp:=∃v,fp=g::sb v/\Cg w g 358 #[true,v]/\dZ w 65 7 v es.length (aM es)
 keep:=fun⟨v,h1,h2,h3⟩ he=>⟨v,h1,h2.keep (he g (by simp[h1])),nT h3 (fun k hk=>he k (by simp[h1,hk]))⟩
 lt:=fun⟨v,h1,h2,h3⟩ k hk=>by
  subst h1;rcases List.mem_cons.1 hk with rfl|hk
  .exact h2.lt
  .exact lY h3 k hk
section
variable {T:List Nat} {w0 w w':World} {l:List ai} {g:Nat} {es:List ME} {v:Value}
theorem BD.OM(h:BD T w0 w (l++[aQ g es])):∃a cap,es.length<=cap/\cap<=maxLen/\BD T w0 w (l++[Proofs.YtegejdlglonflaaGreatDoor.box g 358 #[true,.slice a es.length cap],aS 65 7 (.slice a es.length cap) es.length (aM es)]):=by
 obtain⟨f,⟨v,h1,h2,h3⟩,_⟩:=h.get l.length (t:=aQ g es) (by simp);obtain⟨a,cap,rfl,hc1,hc2⟩:=mP h3;refine⟨a,cap,hc1,hc2,h.split ?_⟩;rintro f ⟨v',e1,e2,e3⟩;have hv:v'= .slice a es.length cap:=by
  unfold Cg at h2 e2;rw[h2]at e2;injection e2 with e2
  injection e2 with e2 _
  simp at e2
  exact e2.symm
 subst hv;refine⟨[g],sb (.slice a es.length cap),⟨rfl,e2⟩,⟨rfl,e3⟩,by simp[e1],fun k hk=>by simp[e1,hk],?_⟩;intro k hk hk2;simp at hk
 subst hk;rcases e3.2 with ⟨he,_⟩|⟨g',cap',cur,he,hg,_⟩
 .rw[he]at hk2;simp[sb,Value.ownBlock]at hk2
 .rw[he]at hk2
  have :k=g':=by simpa[sb,Value.ownBlock]using hk2
  subst this;unfold Cg at e2;rw[e2]at hg;injection hg with hg
  injection hg with _ ht
  exact absurd ht (by decide)
theorem BD.za(h:BD T w0 w (l++[Proofs.YtegejdlglonflaaGreatDoor.box g 358 #[true,v],aS 65 7 v es.length (aM es)])):BD T w0 w (l++[aQ g es]):=
 h.merge (fun f1 f2 ⟨a1,a2⟩ ⟨b1,b2⟩=>⟨v,by rw[a1,b1];rfl,a2,b2⟩)
theorem BD.q0(h:BD T w0 w l)(i:Nat)(hi:l[i]? =some (aQ g es)):∃a cap,Cg w g 358 #[true,.slice a es.length cap]/\es.length<=cap/\cap<=maxLen/\dZ w 65 7 (.slice a es.length cap) es.length (aM es):=by
 obtain⟨f,⟨v,h1,h2,h3⟩,_⟩:=h.get i hi;obtain⟨a,cap,rfl,hc1,hc2⟩:=mP h3;exact⟨a,cap,h2,hc1,hc2,h3⟩
theorem BD.c7{b t:Nat}(h:BD T w0 w l)(i:Nat){x0 x1 x2 x3 x4 x5 x6:Value}(hi:l[i]? =some (Proofs.YtegejdlglonflaaGreatDoor.box b t #[x0,x1,x2,x3,x4,x5,x6])):w.cell? ⟨b,0,none⟩=some x0/\w.cell? ⟨b,1,none⟩=some x1/\w.cell? ⟨b,2,none⟩=some x2/\w.cell? ⟨b,3,none⟩=some x3/\w.cell? ⟨b,4,none⟩=some x4/\w.cell? ⟨b,5,none⟩=some x5/\w.cell? ⟨b,6,none⟩=some x6/\
  (w.frozen? ⟨b,0,none⟩=false/\w.frozen? ⟨b,1,none⟩=false/\w.frozen? ⟨b,2,none⟩=false/\w.frozen? ⟨b,3,none⟩=false/\w.frozen? ⟨b,4,none⟩=false/\w.frozen? ⟨b,5,none⟩=false/\w.frozen? ⟨b,6,none⟩=false)/\b<w.heap.size/\b<w.heap.size+1/\b<w.heap.size+1+1:=by
 have hb:=h.box i hi;have hl:=hb.lt;exact⟨hb.cell 0,hb.cell 1,hb.cell 2,hb.cell 3,hb.cell 4,hb.cell 5,hb.cell 6,⟨hb.frozen 0,hb.frozen 1,hb.frozen 2,hb.frozen 3,hb.frozen 4,hb.frozen 5,hb.frozen 6⟩,hl,ltq hl,ltq (ltq hl)⟩
end
end
section
def Says(p:Prop)(w:World)(e:Ending)(w':World):Prop:=(∃c:Bool,e= .returned (.bool c)/\(c=true↔p))/\w=w'
theorem pG(g:Nat)(w:World)(hc:w.cell? ⟨g,0,none⟩=some (.bool true)):Calls prog 258 #[g] w fun e w'=>e= .returned (.bool false)/\w=w':=by
 go_enter func258,ntmps258
 go_wp2;all_goals go_ret
 exact⟨rfl,rfl⟩
theorem WT(g:Nat)(w:World)(hc:w.cell? ⟨g,0,none⟩=some (.bool false)):Calls prog 258 #[g] w fun e w'=>e= .returned (.bool true)/\w=w':=by
 go_enter func258,ntmps258
 go_wp2;all_goals go_ret
 exact⟨rfl,rfl⟩
theorem XG(w:World):Calls prog 258 #[.pointer none] w fun e w'=>e= .returned (.bool true)/\w=w':=by
 go_enter func258,ntmps258
 go_wp2;all_goals go_ret
 exact⟨rfl,rfl⟩
theorem ML(g n cap:Nat)(a:Option Addr)(w:World)(hc:w.cell? ⟨g,1,none⟩=some (.slice a n cap)):Calls prog 282 #[g] w fun e w'=>e= .returned (.int .i64 (n:Int))/\w=w':=by
 go_enter func282,ntmps282
 go_wp2;all_goals go_ret
 exact⟨rfl,rfl⟩
theorem OW(g n cap:Nat)(a:Option Addr)(i:Int)(w:World)(hc:w.cell? ⟨g,1,none⟩=some (.slice a n cap)):Calls prog 259 #[g,i] w (Says (0<=i/\i<(n:Int)) w):=by
 go_enter func259,ntmps259
 go_wp2;all_goals go_ret
 all_goals exact⟨⟨_,rfl,by simp;omega⟩,rfl⟩
theorem Bj(e:ME)(w:World):Calls prog 196 #[e.val] w fun en w'=>en= .returned (.agg #[e.sync,e.thread,e.branch,e.flag])/\Touch [] w w':=by
 have z1:w.heap.size<w.heap.size+1:=by omega
 have z2:w.heap.size<w.heap.size+1+1:=by omega
 simp only[bB];go_enter func196,ntmps196
 go_wp2;refine bodyPost_ret (v:= .agg #[e.sync,e.thread,e.branch,e.flag]) (by simp[results,results196,go_sem]) rfl ?_;exact⟨rfl,((Touch.refl [] w).alloc _).alloc _⟩
section
variable (a b c d:Int) (W:World)
theorem idx0:(Instr.index 281 (.agg #[a,b,c,d]) (.int .i64 0)).run prog W= .ok (.int .i64 a) W:=by kernel_rfl
theorem idx1:(Instr.index 281 (.agg #[a,b,c,d]) (.int .i64 1)).run prog W= .ok (.int .i64 b) W:=by kernel_rfl
theorem idx2:(Instr.index 281 (.agg #[a,b,c,d]) (.int .i64 2)).run prog W= .ok (.int .i64 c) W:=by kernel_rfl
theorem idx3:(Instr.index 281 (.agg #[a,b,c,d]) (.int .i64 3)).run prog W= .ok (.int .i64 d) W:=by kernel_rfl
end
attribute [local go_sem] idx0 idx1 idx2 idx3
def ME.nth(e:ME)(j:Nat):Int:=if j=0 then e.sync else if j=1 then e.thread else if j=2 then e.branch else e.flag
theorem MQ(e:ME)(w:World)(he:e.v.In w):Calls prog 281 #[e.val] w (aI e.plain.Ok w):=by
 have HN:=hdq (Bj e);have HC:=hdq (fun W (hW:Touch [] w W)=>jH e.v W (he.aO hW));clear he;simp only[bB,eG]at HN HC|-;have z1:w.heap.size<w.heap.size+1:=by omega
 go_enter func281,ntmps281
 go_wp2_with fail
 refine ah ?_;intro w1 hw1;have BB:=hdq ((BD.nil' w).DN hw1);simp only[nAq,cAq]at BB;refine(HN.o w1).mono ?_;rintro en w2 ⟨rfl,ht⟩;have HL2:=hdq (BB.o.touch ht);generalize hb1:w.heap.size=b1 at HL2|-;clear hb1 hw1 BB ht z1;go_wp2_with fail
 go_loopw [7] (fun x wr=>∃j:Nat,j<=4/\x= .int .i64 (j:Int)/\Hid (∀i,i<j->0<=e.nth i)/\Hid (BD [] w wr [box b1 65 #[e.sync,e.thread,e.branch,e.flag,e.v.kind,e.v.num,.slice e.v.addr e.v.parts.length e.v.cap]])) (fun x _=>4-(intOf x).toNat)
 case atStart=>exact⟨0,by omega,rfl,fun i hi=>by omega,HL2⟩
 case round=>
  obtain⟨j,hj,rfl,HD,HK⟩:=hrel;clear HL2;have hcase:j=0\/j=1\/j=2\/j=3\/j=4:=by omega
  rcases hcase with rfl|rfl|rfl|rfl|rfl
  .have hjj:(0:Int)<4:=by decide
   by_cases hneg:e.sync<0
   .go_wp2
    go_ret
    exact aI.no (fun h=>by have :=h.1;simp only[ME.plain]at this;omega) HK.o.BN
   .go_wp2
    go_roundw
    case rel=>exact⟨0+1,by omega,by go_num,fun i hi=>by
     by_cases h:i<0
     .exact HD.o i h
     .obtain rfl:i=0:=by omega
      simp[ME.nth];omega,HK⟩
    case measure=>simp[intOf]
  .have hjj:(1:Int)<4:=by decide
   by_cases hneg:e.thread<0
   .go_wp2
    go_ret
    exact aI.no (fun h=>by have :=h.2.1;simp only[ME.plain]at this;omega) HK.o.BN
   .go_wp2
    go_roundw
    case rel=>exact⟨1+1,by omega,by go_num,fun i hi=>by
     by_cases h:i<1
     .exact HD.o i h
     .obtain rfl:i=1:=by omega
      simp[ME.nth];omega,HK⟩
    case measure=>simp[intOf]
  .have hjj:(2:Int)<4:=by decide
   by_cases hneg:e.branch<0
   .go_wp2
    go_ret
    exact aI.no (fun h=>by have :=h.2.2.1;simp only[ME.plain]at this;omega) HK.o.BN
   .go_wp2
    go_roundw
    case rel=>exact⟨2+1,by omega,by go_num,fun i hi=>by
     by_cases h:i<2
     .exact HD.o i h
     .obtain rfl:i=2:=by omega
      simp[ME.nth];omega,HK⟩
    case measure=>simp[intOf]
  .have hjj:(3:Int)<4:=by decide
   by_cases hneg:e.flag<0
   .go_wp2
    go_ret
    exact aI.no (fun h=>by have :=h.2.2.2.1;simp only[ME.plain]at this;omega) HK.o.BN
   .go_wp2
    go_roundw
    case rel=>exact⟨3+1,by omega,by go_num,fun i hi=>by
     by_cases h:i<3
     .exact HD.o i h
     .obtain rfl:i=3:=by omega
      simp[ME.nth];omega,HK⟩
    case measure=>simp[intOf]
  .have h0:=HD.o 0 (by omega)
   have h1:=HD.o 1 (by omega);have h2:=HD.o 2 (by omega);have h3:=HD.o 3 (by omega);simp[ME.nth]at h0 h1 h2 h3
   have CW:Hid (0<=e.sync/\0<=e.thread/\0<=e.branch/\0<=e.flag):=⟨h0,h1,h2,h3⟩;clear h0 h1 h2 h3 HD;obtain⟨x0,x1,x2,x3,x4,x5,x6,_,zx,_,_⟩:=HK.o.c7 0 rfl;have EA:=hdq (MT.JX e.v);by_cases hk:e.v.kind=0
   .have hk':(e.v.kind==0)=true:=by simpa using hk
    have HKK:=hdq hk;clear hk;go_wp2;all_goals go_ret
    all_goals refine⟨_,rfl,?_,HK.o.BN⟩
    all_goals simp only[PE.Ok,ME.plain]
    all_goals rw[EA.o]
    all_goals have hno:¬(MT.PT.mk e.v.kind e.v.num (e.v.parts.map MT.plain)).Ok:=fun h=>MT.PT.Nu h HKK.o
    all_goals have hnn:=CW.o
    all_goals have e1:(MT.PT.mk e.v.kind e.v.num (e.v.parts.map MT.plain)=MT.PT.mk 0 0 [])↔(e.v.num=0/\e.v.parts.length=0):=by simp[HKK.o]
    all_goals rw[e1]
    all_goals simp only[hno,or_false,hnn,true_and]
    all_goals first |(simp;omega)|simp[*]
   .have hk':(e.v.kind==0)=false:=by simpa using hk
    have HKK:=hdq hk;clear hk;go_wp2_with fail
    refine(HC.o _ HK.o.BN).mono ?_;rintro en w3 ⟨⟨z,rfl,hz,hzi⟩,ht⟩;have BF:=hdq (HK.o.touch ht);have HZ:=hdq hzi;clear ht hz hzi;go_wp2;go_ret
    refine⟨_,rfl,?_,BF.o.BN⟩;simp only[PE.Ok,ME.plain,beq_iff_eq];rw[HZ.o,EA.o];have hnn:=CW.o;constructor
    .intro h
     exact⟨hnn.1,hnn.2.1,hnn.2.2.1,hnn.2.2.2,.inr h⟩
    .rintro⟨_,_,_,_,h|h⟩
     .simp at h;exact absurd h.1 HKK.o
     .exact h
def Ny(x:ME)(w:World)(e:Ending)(w':World):Prop:=∃x':ME,e= .returned x'.val/\x'.plain=x.plain/\x'.v.In w'/\(∀k∈x'.v.blocks,w.heap.size<=k)/\Touch [] w w'
theorem kM(x:ME)(w:World)(he:x.v.In w)(hn:x.v.nodes<=256):Calls prog 283 #[x.val] w (Ny x w):=by
 have HC:=hdq (fun W (hW:Touch [] w W)=>qG x.v W (he.aO hW) hn);clear he hn;simp only[bB,eG]at HC|-;have z1:w.heap.size<w.heap.size+1:=by omega
 have z2:w.heap.size<w.heap.size+1+1:=by omega
 go_enter func283,ntmps283
 go_wp2_with fail
 refine ah ?_;intro w1 hw1;have BB:=hdq ((BD.nil' w).DZ hw1);simp only[nAq,cAq]at BB;refine(HC.o _ BB.o.BN).mono ?_;rintro en w2 ⟨t',rfl,hpl,hin,hnew,ht⟩;have HL2:=hdq (BB.o.gH (vs:=[t']) ht (by simpa using hin) (by simpa using hnew));simp only[nAq,cAq]at HL2;have LW:Hid (∀k∈t'.blocks,w.heap.size<=k):=fun k hk=>Nat.le_trans BB.o.size (hnew k hk);have EA:=hdq hpl;generalize hb2:w.heap.size+1=b2 at HL2|-;generalize hb1:w.heap.size=b1 at HL2|-;clear hpl hin hnew ht hb1 hb2 z1 z2 hw1 BB;obtain⟨x0,x1,x2,x3,x4,x5,x6,⟨f0,f1,f2,f3,f4,f5,f6⟩,zx,_,_⟩:=HL2.o.c7 0 rfl;obtain⟨y0,y1,y2,y3,y4,y5,y6,⟨g0,g1,g2,g3,g4,g5,g6⟩,zy,_,_⟩:=HL2.o.c7 1 rfl;have n1:=HL2.o.ne 0 1 rfl rfl (by decide);have n2:=Ne.symm n1;simp only[eG];go_wp2;have BF:=hdq (((HL2.o.set 0 rfl 4 (.int .i64 t'.kind)).set 0 rfl 5 (.int .i64 t'.num)).set 0 rfl 6 (.slice t'.addr t'.parts.length t'.cap));simp only[sSq,sZq,sAq]at BF;have BH:=hdq (((((((BF.o.set 1 rfl 0 (.int .i64 x.sync)).set 1 rfl 1 (.int .i64 x.thread)).set 1 rfl 2 (.int .i64 x.branch)).set 1 rfl 3 (.int .i64 x.flag)).set 1 rfl 4 (.int .i64 t'.kind)).set 1 rfl 5 (.int .i64 t'.num)).set 1 rfl 6 (.slice t'.addr t'.parts.length t'.cap));simp only[sSq,sZq,sAq]at BH;obtain⟨q0,q1,q2,q3,q4,q5,q6,_⟩:=BH.o.c7 1 rfl;refine bodyPost_ret (v:=(ME.mk x.sync x.thread x.branch x.flag t').val) (by simp[results,results283,go_sem,q0,q1,q2,q3,q4,q5,q6,bB]) rfl ?_;exact⟨_,rfl,by simp only[ME.plain,EA.o],BH.o.fD 2 rfl t' (by simp),LW.o,BH.o.BN⟩
end
end Go.Proofs.YtegejdlglonflaaGreatDoor
