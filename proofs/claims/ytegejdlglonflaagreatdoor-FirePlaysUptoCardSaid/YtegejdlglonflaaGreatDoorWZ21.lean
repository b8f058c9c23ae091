/-
  Texts of FirePlays, laid together by program.
-/
import Derived.Test.YtegejdlglonflaaGreatDoorWZ20
namespace Go.Proofs.YtegejdlglonflaaGreatDoor
open Go.RowKit Go.Shelf Go.Proofs.Tryz
set_option maxRecDepth 100000
set_option maxHeartbeats 8000000
set_option linter.unusedVariables false
set_option linter.unusedSimpArgs false
def aG(w:World)(a:Option Addr)(size n:Nat)(cs:List Value):Prop:=
 n<=2000000/\∀i,i<n->∃b o,a=some ⟨b,o,none⟩/\b<w.heap.size/\∀j,j<size->w.cell? ⟨b,o+i*size+j,none⟩=cs[i*size+j]?
theorem aG.aW{w w':World}{a:Option Addr}{size n:Nat}{cs:List Value}(h:aG w a size n cs)(ht:Touch [] w w'):aG w' a size n cs:=by
 refine⟨h.1,fun i hi=>?_⟩;obtain⟨b,o,ha,hb,hc⟩:=h.2 i hi;have he:=ht.block b hb (by simp);refine⟨b,o,ha,Nat.lt_of_lt_of_le hb ht.size,fun j hj=>?_⟩;rw[<-hc j hj];exact World.cell?_of_block (a:=⟨b,o+i*size+j,none⟩) he
theorem gX(w:World)(a:Option Addr)(size:Nat)(cs:List Value):aG w a size 0 cs:=⟨by omega,fun i hi=>by omega⟩
theorem iY{w:World}{e size n cap:Nat}{a:Option Addr}{xs:List Value}(h:dZ w e size (.slice a n cap) n xs)(hn:n<=2000000):aG w a size n xs:=by
 refine⟨hn,fun i hi=>?_⟩;have hlen:=h.1;obtain⟨g,cap',cur,hv,hg,_⟩:=gD h (by omega);injection hv with h1 _ h3
 subst h1;refine⟨g,0,rfl,hg.lt,fun j hj=>?_⟩;have hlt:i*size+j<xs.length:=by
  rw[hlen];have :(i+1)*size<=n*size:=Nat.mul_le_mul_right _ hi;rw[Nat.succ_mul]at this;omega
 rw[Nat.zero_add,List.getElem?_eq_getElem hlt];exact eT h _ hlt
theorem rT{α:Type}(f:α->List Value)(m:Nat)(hf:∀a,(f a).length=m)(l:List α)(k:Nat)(hk:k<l.length)(r:Nat)(hr:r<m):(l.flatMap f)[k*m+r]? =(f l[k])[r]? :=by
 induction l generalizing k with
 |nil=>simp at hk
 |cons a l ih=>
  rw[List.flatMap_cons];cases k with
  |zero=>rw[List.getElem?_append_left (by rw[hf];omega)];simp
  |succ k=>
   rw[List.getElem?_append_right (by rw[hf,Nat.succ_mul];omega),hf,show(k+1)*m+r-m=k*m+r from by rw[Nat.succ_mul];omega];exact ih k (by simpa using hk)
theorem rW{α:Type}(f:α->List Value)(m:Nat)(hf:∀a,(f a).length=m)(l:List α):(l.flatMap f).length=l.length*m:=by
 induction l with
 |nil=>simp
 |cons a l ih=>simp[hf,ih,Nat.succ_mul,Nat.add_comm]
theorem aG.at{α:Type}{f:α->List Value}{m:Nat}(hf:∀a,(f a).length=m){w:World}{a:Option Addr}{l:List α}(h:aG w a m l.length (l.flatMap f))(i:Nat)(hi:i<l.length):∃b o,a=some ⟨b,o,none⟩/\b<w.heap.size/\∀j,j<m->w.cell? ⟨b,o+i*m+j,none⟩=(f l[i])[j]? :=by
 obtain⟨b,o,ha,hb,hc⟩:=h.2 i hi;exact⟨b,o,ha,hb,fun j hj=>by rw[hc j hj,rT f m hf l i hi j hj]⟩
structure MC where
 fn:Int
 a:Option Addr
 cap:Nat
 args:List MT
def MC.cells(c:MC):List Value:=[.int .i64 c.fn,.slice c.a c.args.length c.cap]
def MC.val(c:MC):Value:= .agg #[c.fn,.slice c.a c.args.length c.cap]
def MC.plain(c:MC):Int×List MT.PT:=(c.fn,c.args.map MT.plain)
def MC.In(w:World)(c:MC):Prop:=(c.args.length<=2000000/\MT.dK w c.a c.args)/\∀t∈c.args,t.In w/\t.nodes<=256
structure MB where
 kind:Int
 n:Int
 v:MT
 wa:Option Addr
 wc:Nat
 wraps:List MC
 na:Option Addr
 nc:Nat
 aT:List Int
def fq(k:Int):List Value:=[.int .i64 k]
def MB.cells(b:MB):List Value:=[.int .i64 b.kind,.int .i64 b.n,.int .i64 b.v.kind,.int .i64 b.v.num,.slice b.v.addr b.v.parts.length b.v.cap,.slice b.wa b.wraps.length b.wc,.slice b.na b.aT.length b.nc]
def MB.val(b:MB):Value:= .agg #[b.kind,b.n,b.v.kind,b.v.num,.slice b.v.addr b.v.parts.length b.v.cap,.slice b.wa b.wraps.length b.wc,.slice b.na b.aT.length b.nc]
def MB.plain(b:MB):Int×Int×MT.PT×List (Int×List MT.PT)×List Int:=(b.kind,b.n,b.v.plain,b.wraps.map MC.plain,b.aT)
def MB.In(w:World)(b:MB):Prop:=(b.v.In w/\b.v.nodes<=256)/\(aG w b.wa 2 b.wraps.length (b.wraps.flatMap MC.cells)/\∀c∈b.wraps,c.In w)/\aG w b.na 1 b.aT.length (b.aT.flatMap fq)
structure MS where
 thread:Int
 ba:Option Addr
 bc:Nat
 bases:List MB
 ca:Option Addr
 cc:Nat
 conds:List Int
 flag:Int
 parked:Bool
 done:Bool
 branch:Int
 v:MT
 partner:Int
def MS.raw(s:MS):bL:={thread:=s.thread,jr:=s.ba,gm:=s.bases.length,jv:=s.bc,ko:=s.ca,kz:=s.conds.length,jR:=s.cc,flag:=s.flag,parked:=s.parked,done:=s.done,branch:=s.branch,kind:=s.v.kind,num:=s.v.num,lA:=s.v.addr,lN:=s.v.parts.length,lC:=s.v.cap,partner:=s.partner}
def MS.plain(s:MS):Int×List (Int×Int×MT.PT×List (Int×List MT.PT)×List Int)×List Int×Int×Bool×Bool×Int×MT.PT×Int:=(s.thread,s.bases.map MB.plain,s.conds,s.flag,s.parked,s.done,s.branch,s.v.plain,s.partner)
def MS.In(w:World)(s:MS):Prop:=(s.v.In w/\s.v.nodes<=256)/\(aG w s.ba 7 s.bases.length (s.bases.flatMap MB.cells)/\∀b∈s.bases,b.In w)/\aG w s.ca 1 s.conds.length (s.conds.flatMap fq)
section
variable {w w':World}
theorem MT.dK.aW{a:Option Addr}{l:List MT}(h:MT.dK w a l)(ht:Touch [] w w'):MT.dK w' a l:=by
 refine fun i hi=>?_;obtain⟨b,o,ha,hb,hc⟩:=h i hi;have he:=ht.block b hb (by simp);refine⟨b,o,ha,Nat.lt_of_lt_of_le hb ht.size,fun j hj=>?_⟩;rw[<-hc j hj];exact World.cell?_of_block (a:=⟨b,o+i*3+j,none⟩) he
theorem MC.In.aW{c:MC}(h:c.In w)(ht:Touch [] w w'):c.In w':=⟨⟨h.1.1,h.1.2.aW ht⟩,fun t hm=>⟨(h.2 t hm).1.aO ht,(h.2 t hm).2⟩⟩
theorem MB.In.aW{b:MB}(h:b.In w)(ht:Touch [] w w'):b.In w':=⟨⟨h.1.1.aO ht,h.1.2⟩,⟨h.2.1.1.aW ht,fun c hm=>(h.2.1.2 c hm).aW ht⟩,h.2.2.aW ht⟩
theorem MS.In.aW{s:MS}(h:s.In w)(ht:Touch [] w w'):s.In w':=⟨⟨h.1.1.aO ht,h.1.2⟩,⟨h.2.1.1.aW ht,fun b hm=>(h.2.1.2 b hm).aW ht⟩,h.2.2.aW ht⟩
theorem MT.JW{a:Option Addr}{l:List MT}(h:MT.dK w a l)(hn:l.length<=2000000):aG w a 3 l.length (bg l):=by
 refine⟨hn,fun i hi=>?_⟩;obtain⟨b,o,ha,hb,hc⟩:=h i hi;exact⟨b,o,ha,hb,fun j hj=>by rw[hc j hj,fI l i hi j hj]⟩
theorem MT.uJ{a:Option Addr}{l:List MT}(h:aG w a 3 l.length (bg l)):MT.dK w a l:=by
 refine fun i hi=>?_;obtain⟨b,o,ha,hb,hc⟩:=h.2 i hi;exact⟨b,o,ha,hb,fun j hj=>by rw[hc j hj,fI l i hi j hj]⟩
end
theorem BD.lZ{β:Type}{T:List Nat}{w0 w:World}{m:List ai}{P:World->Prop}(p:β->World->Prop)(j:Nat)(d:List β)(hj:m[j]? =some (aA P))(h:BD T w0 w (m++d.flatMap fun b=>[aA (p b)])):
  BD T w0 w (m.set j (aA fun W=>P W/\∀b∈d,p b W)):=by
 obtain⟨n,hn⟩:∃n,d.length=n:=⟨_,rfl⟩;induction n generalizing d m P with
 |zero=>
  obtain rfl:=List.eq_nil_of_length_eq_zero hn;simp only[List.flatMap_nil,List.append_nil]at h;exact h.weaken j hj (fun W hW=>⟨hW,by simp⟩)
 |succ n ih=>
  have hlt:=(List.getElem?_eq_some_iff.1 hj).1;have hne:d≠[]:=by intro hc;simp[hc]at hn
  obtain⟨d',b,rfl⟩:∃d' b,d=d'++[b]:=⟨d.dropLast,d.getLast hne,(List.dropLast_concat_getLast hne).symm⟩;simp only[List.length_append,List.length_cons,List.length_nil,Nat.add_right_cancel_iff]at hn;simp only[List.flatMap_append,List.flatMap_cons,List.flatMap_nil,List.append_nil]at h;rw[<-List.append_assoc]at h;have hj':(m++d'.flatMap fun b=>[aA (p b)])[j]? =some (aA P):=by rw[List.getElem?_append_left hlt];exact hj
  have h1:=h.settle j hj' (Q:=fun W=>P W/\p b W) (fun W f hP hb=>⟨hP,hb.2 W (fun _ _=>rfl)⟩);rw[List.set_append_left _ _ hlt]at h1;have hj2:(m.set j (aA fun W=>P W/\p b W))[j]? =some (aA fun W=>P W/\p b W):=List.getElem?_set_self hlt;have h2:=ih d' hj2 h1 hn;rw[List.set_set]at h2;have h3:=h2.weaken j (List.getElem?_set_self hlt) (Q:=fun W=>P W/\∀c∈d'++[b],p c W) (fun W hW=>⟨hW.1.1,fun c hc=>by
   rcases List.mem_append.1 hc with h|h
   .exact hW.2 c h
   .simp at h;subst h;exact hW.1.2⟩)
  rwa[List.set_set]at h3
def MS.cells(s:MS):List Value:=[.int .i64 s.thread,.slice s.ba s.bases.length s.bc,.slice s.ca s.conds.length s.cc,.int .i64 s.flag,.bool s.parked,.bool s.done,.int .i64 s.branch,.int .i64 s.v.kind,.int .i64 s.v.num,.slice s.v.addr s.v.parts.length s.v.cap,.int .i64 s.partner]
def MS.val(s:MS):Value:= .agg #[s.thread,.slice s.ba s.bases.length s.bc,.slice s.ca s.conds.length s.cc,s.flag,s.parked,s.done,s.branch,s.v.kind,s.v.num,.slice s.v.addr s.v.parts.length s.v.cap,s.partner]
def Ce.cells(x:Ce):List Value:=[.pointer (some ⟨x.c,0,none⟩)]
def Ch.cells(x:Ch):List Value:=[.pointer (some ⟨x.c,0,none⟩)]
def Ce.val(x:Ce):Value:= .pointer (some ⟨x.c,0,none⟩)
def Ch.val(x:Ch):Value:= .pointer (some ⟨x.c,0,none⟩)
def gG{β γ:Type}(T:List Nat)(w:World)(m:List ai)(e size:Nat)(f:β->List Value)(things:β->List ai)(p:β->γ)(l:List β)(en:Ending)(w':World):Prop:=
 ∃(a:Option Addr) (cap:Nat) (ys:List β),en= .returned (.slice a l.length cap)/\ys.map p=l.map p/\BD T w w' (m++(aS e size (.slice a l.length cap) l.length (ys.flatMap f)::ys.flatMap things))
theorem BD.nE{T:List Nat}{w0 w w':World}{m r:List ai}{e size n n':Nat}{v v':Value}{xs xs':List Value}(h:BD T w0 w (m++(aS e size v n xs::r)))(hg:w.grownBy w' v.ownBlock)(ho:dZ w' e size v' n' xs')(hat:v'.ownBlock=v.ownBlock\/v'.ownBlock=some w.heap.size):BD T w0 w' (m++(aS e size v' n' xs'::r)):=by
 have h1:=h.bG m.length (e:=e) (size:=size) (n:=n) (v:=v) (xs:=xs) (by simp) hg ho hat;simpa using h1
theorem BD.Ay{T:List Nat}{w0 w:World}{m r:List ai}{e size n:Nat}{v:Value}{xs:List Value}(h:BD T w0 w (m++(aS e size v n xs::r))):dZ w e size v n xs:=h.aZ m.length (by simp)
theorem jJ{β γ:Type}(p:β->γ)(l:List β)(j:Nat)(hj:j<l.length):(l.take (j+1)).map p=(l.take j).map p++[p l[j]]:=by
 rw[List.take_add_one,List.getElem?_eq_getElem hj,Option.toList_some,List.map_append];rfl
theorem Aw:(prog.info? 58).map (fun i=>(i.zero,i.size,i.bytes))=some (some (.agg #[(),(),True]),3,40):=by kernel_rfl
theorem K8(y:MT):∀u∈y.cells,u.oneCell'=true:=by simp[MT.cells,MT.sl,Value.oneCell']
theorem yD{γ:Type}(p:MT->γ)(things:MT->List ai)(T:List Nat)(w:World)(m:List ai)(a:Option Addr)(cap:Nat)(l:List MT)(D:FuncId)(h:BD T w w m)(hrow:∀W r,BD T w W (m++r)->aG W a 3 l.length (l.flatMap MT.cells))(hen:∀args w,(callFunc D args).run prog w= .ok (.enter D args) w)(hone:∀W r i (hi:i<l.length),BD T w W (m++r)->Calls prog D #[l[i].val] W fun en W'=>∃y,en= .returned y.val/\p y=p l[i]/\BD T w W' (m++(r++things y)))(hlen:l.length<=2000000):
  Calls prog 245 #[.slice a l.length cap,.func (.func D) #[] #[]] w (gG T w m 58 3 MT.cells things p l):=by
 have HRW:=hdq hrow;have D8:=hdq hone;obtain⟨i0,hi0,CY,CU,CX⟩:=info_parts Aw;have BB:=hdq (h.gK 58 3);clear h hrow hone;go_enter func245,ntmps245
 go_wp2_with fail
 go_loopw [5,10] (fun x i wr=>∃(j:Nat) (ys:List MT) (ra:Option Addr) (rc:Nat),j<=l.length/\i= .int .i64 (j:Int)/\x= .slice ra j rc/\ys.length=j/\Hid (ys.map p=(l.take j).map p)/\
  Hid (BD T w wr (m++(aS 58 3 (.slice ra j rc) j (ys.flatMap MT.cells)::ys.flatMap things)))) (fun _ i _=>l.length-(intOf i).toNat)
 case atStart=>exact⟨0,[],none,0,Nat.zero_le _,rfl,rfl,rfl,by unfold Hid;simp,BB⟩
 case round=>
  obtain⟨j,ys,ra,rc,hj,rfl,rfl,hyl,HY,HK⟩:=hrel;clear BB;have hj0:(0:Int)<=(j:Int):=by omega
  by_cases hjl:j<l.length
  .have Cc:(j:Int)<(l.length:Int):=by omega
   obtain⟨b,o,hba,hb,hc⟩:=aG.at (f:=MT.cells) (fun _=>rfl) (HRW.o wr _ HK.o) j hjl;have HO:=hdq (fun W r=>D8.o W r j hjl);have Eh:=hdq (jJ p l j hjl);obtain⟨u,hu⟩:∃u,l[j]=u:=⟨_,rfl⟩;have q0:wr.cell? ⟨b,o+j*3,none⟩=some (.int .i64 u.kind):=(hc 0 (by omega)).trans (by rw[hu];rfl);have q1:wr.cell? ⟨b,o+j*3+1,none⟩=some (.int .i64 u.num):=(hc 1 (by omega)).trans (by rw[hu];rfl);have q2:wr.cell? ⟨b,o+j*3+2,none⟩=some (.slice u.addr u.parts.length u.cap):=(hc 2 (by omega)).trans (by rw[hu];rfl);rw[hu]at Eh;have Fs:Hid (∀W r,BD T w W (m++r)->Calls prog D #[.agg #[u.kind,u.num,.slice u.addr u.parts.length u.cap]] W fun en W'=>∃y:MT,en= .returned (y.val)/\p y=p u/\BD T w W' (m++(r++things y))):=by
    have h:=HO.o;rw[hu]at h;exact h
   clear HO hc;rw[hba];clear hba hu D8 HRW;go_wp2_with fail
   refine ah ?_;intro w2 hw2;have HT2:Hid (Touch [] wr w2):=hw2▸(Touch.refl [] wr).alloc _;have HL2:=hdq (HK.o.touch HT2.o);clear hw2 q0 q1 q2 hb;refine(Fs.o w2 _ HL2.o).mono ?_;rintro en w4 ⟨y,rfl,hpl,hL⟩;have BH:Hid (BD T w w4 (m++(aS 58 3 (.slice ra j rc) j (ys.flatMap MT.cells)::(ys.flatMap things++things y)))):=by simpa using hdq hL
   have EA:=hdq hpl;clear hpl hL HL2 Fs;simp only[MT.val,MT.sl];go_wp2_with (at_builtin;go_must (refine cB _ rfl (.tmp 14) (.tmp 18) 56 rfl 58 i0 _ 3 40 underlying56 hi0 CY CU CX rfl (by decide) (.slice ra j rc) j (ys.flatMap MT.cells) rfl (BH.o.dL _).Ay (some ⟨w4.heap.size,0,none⟩) 1 1 y.cells rfl rfl (.inr ⟨_,rfl,World.news_of_block (heap_alloc_new w4 _)⟩) (K8 y) (by simp only[maxLen];omega) (by omega) ?_);intro a5 c5 w5 hown hgrow hat;refine Hid.o ?_)
   have Ca:Hid (BD T w w5 (m++(aS 58 3 (.slice a5 (j+1) c5) (j+1) ((ys++[y]).flatMap MT.cells)::(ys++[y]).flatMap things))):=by
    have h:=(BH.o.dL _).nE hgrow hown hat;simpa[List.flatMap_append]using hdq h
   clear hown hgrow hat BH;refine hdq ?_;go_wp2;go_roundw
   case rel=>exact⟨j+1,ys++[y],a5,c5,by omega,by go_num,rfl,by simp[hyl],by unfold Hid;rw[List.map_append,HY.o,Eh.o,<-EA.o];rfl,Ca⟩
   case measure=>simp[intOf];omega
  .have Cc:¬(j:Int)<(l.length:Int):=by omega
   obtain rfl:j=l.length:=by omega
   go_wp2;go_ret
   exact⟨ra,rc,ys,rfl,by have :=HY.o;rwa[List.take_length]at this,HK.o⟩
theorem xS:(prog.info? 306).map (fun i=>(i.zero,i.size,i.bytes))=some (some (.agg #[(),True]),2,32):=by kernel_rfl
theorem Ba(y:MC):∀u∈y.cells,u.oneCell'=true:=by simp[MC.cells,Value.oneCell']
theorem vT{γ:Type}(p:MC->γ)(things:MC->List ai)(T:List Nat)(w:World)(m:List ai)(a:Option Addr)(cap:Nat)(l:List MC)(D:FuncId)(h:BD T w w m)(hrow:∀W r,BD T w W (m++r)->aG W a 2 l.length (l.flatMap MC.cells))(hen:∀args w,(callFunc D args).run prog w= .ok (.enter D args) w)(hone:∀W r i (hi:i<l.length),BD T w W (m++r)->Calls prog D #[l[i].val] W fun en W'=>∃y,en= .returned y.val/\p y=p l[i]/\BD T w W' (m++(r++things y)))(hlen:l.length<=2000000):
  Calls prog 243 #[.slice a l.length cap,.func (.func D) #[] #[]] w (gG T w m 306 2 MC.cells things p l):=by
 have HRW:=hdq hrow;have D8:=hdq hone;obtain⟨i0,hi0,CY,CU,CX⟩:=info_parts xS;have BB:=hdq (h.gK 306 2);clear h hrow hone;go_enter func243,ntmps243
 go_wp2_with fail
 go_loopw [5,10] (fun x i wr=>∃(j:Nat) (ys:List MC) (ra:Option Addr) (rc:Nat),j<=l.length/\i= .int .i64 (j:Int)/\x= .slice ra j rc/\ys.length=j/\Hid (ys.map p=(l.take j).map p)/\
  Hid (BD T w wr (m++(aS 306 2 (.slice ra j rc) j (ys.flatMap MC.cells)::ys.flatMap things)))) (fun _ i _=>l.length-(intOf i).toNat)
 case atStart=>exact⟨0,[],none,0,Nat.zero_le _,rfl,rfl,rfl,by unfold Hid;simp,BB⟩
 case round=>
  obtain⟨j,ys,ra,rc,hj,rfl,rfl,hyl,HY,HK⟩:=hrel;clear BB;have hj0:(0:Int)<=(j:Int):=by omega
  by_cases hjl:j<l.length
  .have Cc:(j:Int)<(l.length:Int):=by omega
   obtain⟨b,o,hba,hb,hc⟩:=aG.at (f:=MC.cells) (fun _=>rfl) (HRW.o wr _ HK.o) j hjl;have HO:=hdq (fun W r=>D8.o W r j hjl);have Eh:=hdq (jJ p l j hjl);obtain⟨u,hu⟩:∃u,l[j]=u:=⟨_,rfl⟩;have q0:wr.cell? ⟨b,o+j*2,none⟩=some (.int .i64 u.fn):=(hc 0 (by omega)).trans (by rw[hu];rfl);have q1:wr.cell? ⟨b,o+j*2+1,none⟩=some (.slice u.a u.args.length u.cap):=(hc 1 (by omega)).trans (by rw[hu];rfl);rw[hu]at Eh;have Fs:Hid (∀W r,BD T w W (m++r)->Calls prog D #[.agg #[u.fn,.slice u.a u.args.length u.cap]] W fun en W'=>∃y:MC,en= .returned (y.val)/\p y=p u/\BD T w W' (m++(r++things y))):=by
    have h:=HO.o;rw[hu]at h;exact h
   clear HO hc;rw[hba];clear hba hu D8 HRW;go_wp2_with fail
   refine ah ?_;intro w2 hw2;have HT2:Hid (Touch [] wr w2):=hw2▸(Touch.refl [] wr).alloc _;have HL2:=hdq (HK.o.touch HT2.o);clear hw2 q0 q1 hb;refine(Fs.o w2 _ HL2.o).mono ?_;rintro en w4 ⟨y,rfl,hpl,hL⟩;have BH:Hid (BD T w w4 (m++(aS 306 2 (.slice ra j rc) j (ys.flatMap MC.cells)::(ys.flatMap things++things y)))):=by simpa using hdq hL
   have EA:=hdq hpl;clear hpl hL HL2 Fs;simp only[MC.val];go_wp2_with (at_builtin;go_must (refine cB _ rfl (.tmp 14) (.tmp 18) 112 rfl 306 i0 _ 2 32 underlying112 hi0 CY CU CX rfl (by decide) (.slice ra j rc) j (ys.flatMap MC.cells) rfl (BH.o.dL _).Ay (some ⟨w4.heap.size,0,none⟩) 1 1 y.cells rfl rfl (.inr ⟨_,rfl,World.news_of_block (heap_alloc_new w4 _)⟩) (Ba y) (by simp only[maxLen];omega) (by omega) ?_);intro a5 c5 w5 hown hgrow hat;refine Hid.o ?_)
   have Ca:Hid (BD T w w5 (m++(aS 306 2 (.slice a5 (j+1) c5) (j+1) ((ys++[y]).flatMap MC.cells)::(ys++[y]).flatMap things))):=by
    have h:=(BH.o.dL _).nE hgrow hown hat;simpa[List.flatMap_append]using hdq h
   clear hown hgrow hat BH;refine hdq ?_;go_wp2;go_roundw
   case rel=>exact⟨j+1,ys++[y],a5,c5,by omega,by go_num,rfl,by simp[hyl],by unfold Hid;rw[List.map_append,HY.o,Eh.o,<-EA.o];rfl,Ca⟩
   case measure=>simp[intOf];omega
  .have Cc:¬(j:Int)<(l.length:Int):=by omega
   obtain rfl:j=l.length:=by omega
   go_wp2;go_ret
   exact⟨ra,rc,ys,rfl,by have :=HY.o;rwa[List.take_length]at this,HK.o⟩
theorem xX:(prog.info? 114).map (fun i=>(i.zero,i.size,i.bytes))=some (some (.agg #[(),(),(),(),True,True,True]),7,104):=by kernel_rfl
theorem Ab(y:MB):∀u∈y.cells,u.oneCell'=true:=by simp[MB.cells,Value.oneCell']
theorem ve{γ:Type}(p:MB->γ)(things:MB->List ai)(T:List Nat)(w:World)(m:List ai)(a:Option Addr)(cap:Nat)(l:List MB)(D:FuncId)(h:BD T w w m)(hrow:∀W r,BD T w W (m++r)->aG W a 7 l.length (l.flatMap MB.cells))(hen:∀args w,(callFunc D args).run prog w= .ok (.enter D args) w)(hone:∀W r i (hi:i<l.length),BD T w W (m++r)->Calls prog D #[l[i].val] W fun en W'=>∃y,en= .returned y.val/\p y=p l[i]/\BD T w W' (m++(r++things y)))(hlen:l.length<=2000000):
  Calls prog 160 #[.slice a l.length cap,.func (.func D) #[] #[]] w (gG T w m 114 7 MB.cells things p l):=by
 have HRW:=hdq hrow;have D8:=hdq hone;obtain⟨i0,hi0,CY,CU,CX⟩:=info_parts xX;have BB:=hdq (h.gK 114 7);clear h hrow hone;go_enter func160,ntmps160
 go_wp2_with fail
 go_loopw [5,10] (fun x i wr=>∃(j:Nat) (ys:List MB) (ra:Option Addr) (rc:Nat),j<=l.length/\i= .int .i64 (j:Int)/\x= .slice ra j rc/\ys.length=j/\Hid (ys.map p=(l.take j).map p)/\
  Hid (BD T w wr (m++(aS 114 7 (.slice ra j rc) j (ys.flatMap MB.cells)::ys.flatMap things)))) (fun _ i _=>l.length-(intOf i).toNat)
 case atStart=>exact⟨0,[],none,0,Nat.zero_le _,rfl,rfl,rfl,by unfold Hid;simp,BB⟩
 case round=>
  obtain⟨j,ys,ra,rc,hj,rfl,rfl,hyl,HY,HK⟩:=hrel;clear BB;have hj0:(0:Int)<=(j:Int):=by omega
  by_cases hjl:j<l.length
  .have Cc:(j:Int)<(l.length:Int):=by omega
   obtain⟨b,o,hba,hb,hc⟩:=aG.at (f:=MB.cells) (fun _=>rfl) (HRW.o wr _ HK.o) j hjl;have HO:=hdq (fun W r=>D8.o W r j hjl);have Eh:=hdq (jJ p l j hjl);obtain⟨u,hu⟩:∃u,l[j]=u:=⟨_,rfl⟩;have q0:wr.cell? ⟨b,o+j*7,none⟩=some (.int .i64 u.kind):=(hc 0 (by omega)).trans (by rw[hu];rfl);have q1:wr.cell? ⟨b,o+j*7+1,none⟩=some (.int .i64 u.n):=(hc 1 (by omega)).trans (by rw[hu];rfl);have q2:wr.cell? ⟨b,o+j*7+2,none⟩=some (.int .i64 u.v.kind):=(hc 2 (by omega)).trans (by rw[hu];rfl);have q3:wr.cell? ⟨b,o+j*7+3,none⟩=some (.int .i64 u.v.num):=(hc 3 (by omega)).trans (by rw[hu];rfl);have q4:wr.cell? ⟨b,o+j*7+4,none⟩=some (.slice u.v.addr u.v.parts.length u.v.cap):=(hc 4 (by omega)).trans (by rw[hu];rfl);have q5:wr.cell? ⟨b,o+j*7+5,none⟩=some (.slice u.wa u.wraps.length u.wc):=(hc 5 (by omega)).trans (by rw[hu];rfl);have q6:wr.cell? ⟨b,o+j*7+6,none⟩=some (.slice u.na u.aT.length u.nc):=(hc 6 (by omega)).trans (by rw[hu];rfl);rw[hu]at Eh;have Fs:Hid (∀W r,BD T w W (m++r)->Calls prog D #[.agg #[u.kind,u.n,u.v.kind,u.v.num,.slice u.v.addr u.v.parts.length u.v.cap,.slice u.wa u.wraps.length u.wc,.slice u.na u.aT.length u.nc]] W fun en W'=>∃y:MB,en= .returned (y.val)/\p y=p u/\BD T w W' (m++(r++things y))):=by
    have h:=HO.o;rw[hu]at h;exact h
   clear HO hc;rw[hba];clear hba hu D8 HRW;go_wp2_with fail
   refine ah ?_;intro w2 hw2;have HT2:Hid (Touch [] wr w2):=hw2▸(Touch.refl [] wr).alloc _;have HL2:=hdq (HK.o.touch HT2.o);clear hw2 q0 q1 q2 q3 q4 q5 q6 hb;refine(Fs.o w2 _ HL2.o).mono ?_;rintro en w4 ⟨y,rfl,hpl,hL⟩;have BH:Hid (BD T w w4 (m++(aS 114 7 (.slice ra j rc) j (ys.flatMap MB.cells)::(ys.flatMap things++things y)))):=by simpa using hdq hL
   have EA:=hdq hpl;clear hpl hL HL2 Fs;simp only[MB.val];go_wp2_with (at_builtin;go_must (refine cB _ rfl (.tmp 14) (.tmp 18) 53 rfl 114 i0 _ 7 104 underlying53 hi0 CY CU CX rfl (by decide) (.slice ra j rc) j (ys.flatMap MB.cells) rfl (BH.o.dL _).Ay (some ⟨w4.heap.size,0,none⟩) 1 1 y.cells rfl rfl (.inr ⟨_,rfl,World.news_of_block (heap_alloc_new w4 _)⟩) (Ab y) (by simp only[maxLen];omega) (by omega) ?_);intro a5 c5 w5 hown hgrow hat;refine Hid.o ?_)
   have Ca:Hid (BD T w w5 (m++(aS 114 7 (.slice a5 (j+1) c5) (j+1) ((ys++[y]).flatMap MB.cells)::(ys++[y]).flatMap things))):=by
    have h:=(BH.o.dL _).nE hgrow hown hat;simpa[List.flatMap_append]using hdq h
   clear hown hgrow hat BH;refine hdq ?_;go_wp2;go_roundw
   case rel=>exact⟨j+1,ys++[y],a5,c5,by omega,by go_num,rfl,by simp[hyl],by unfold Hid;rw[List.map_append,HY.o,Eh.o,<-EA.o];rfl,Ca⟩
   case measure=>simp[intOf];omega
  .have Cc:¬(j:Int)<(l.length:Int):=by omega
   obtain rfl:j=l.length:=by omega
   go_wp2;go_ret
   exact⟨ra,rc,ys,rfl,by have :=HY.o;rwa[List.take_length]at this,HK.o⟩
theorem mE:(prog.info? 60).map (fun i=>(i.zero,i.size,i.bytes))=some (some (.agg #[(),True,True,(),false,false,(),(),(),True,()]),11,128):=by kernel_rfl
theorem lT(y:MS):∀u∈y.cells,u.oneCell'=true:=by simp[MS.cells,Value.oneCell']
end Go.Proofs.YtegejdlglonflaaGreatDoor
