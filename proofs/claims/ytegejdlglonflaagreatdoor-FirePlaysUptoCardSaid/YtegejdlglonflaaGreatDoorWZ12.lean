/-
  Texts of FirePlays, laid together by program.
-/
import Derived.Test.YtegejdlglonflaaGreatDoorWZ11
import Derived.WalkSmall
namespace Go.Proofs.YtegejdlglonflaaGreatDoor
open Go.RowKit Go.Shelf Go.Proofs.Tryz
set_option maxRecDepth 100000
set_option maxHeartbeats 8000000
set_option linter.unusedVariables false
set_option linter.unusedSimpArgs false
theorem nD:(prog.info? 65).map (fun i=>(i.zero,i.size,i.bytes))=some (some (.agg #[(),(),(),(),(),(),True]),7,72):=by kernel_rfl
theorem yP(w:World):(Instr.build 356 #[(0,.bool true)]).run prog w= .ok (.agg #[true,True]) w:=run_build w 356 _ _ (by kernel_rfl)
theorem oD(a b:Value)(w:World)(h:prog.built 358 [(0,.agg #[a,b])]=some #[a,b]):(Instr.build 358 #[(0,.agg #[a,b])]).run prog w= .ok (.agg #[a,b]) w:=run_build w 358 _ _ h
theorem Km{T:List Nat}{w0:World}{l:List ai}(w:World)(h:BD T w0 w l):Calls prog 206 #[] w fun e w'=>∃g,e= .returned (.pointer (some ⟨g,0,none⟩))/\BD T w0 w' (l++[aQ g []]):=by
 have hb1:=yP;have hb2:∀W,(Instr.build 358 #[(0,.agg #[true,True])]).run prog W= .ok (.agg #[true,True]) W:=fun W=>oD _ _ W (by kernel_rfl);have H:=hdq h;clear h;go_enter func206,ntmps206
 go_wp2;go_ret
 refine⟨w.heap.size,rfl,?_⟩;have h:=(H.o.alloc 358 #[true,True]).gK 65 7;rw[List.append_assoc]at h;exact BD.za (es:=[]) h
def kK(n:Nat)(xs:List PE)(k:Nat)(err:Int):Prop:=
 (∀i (h:i<xs.length),i<k->xs[i].Ok)/\n+k<=4096/\k<=xs.length/\((err=0/\k=xs.length)\/∃h:k<xs.length,(err=2/\¬xs[k].Ok)\/(err=6/\xs[k].Ok/\n+k=4096))
def Pushed(T:List Nat)(w:World)(g:Nat)(es xs:List ME)(e:Ending)(w':World):Prop:=
 ∃k err ys,e= .returned (.int .i64 err)/\kK es.length (xs.map ME.plain) k err/\ys.map ME.plain=(xs.map ME.plain).take k/\BD T w w' [aQ g (es++ys),bS (ys.map ME.v)]
theorem BD.frameK{T:List Nat}{w0 w:World}{l:List ai}{t:ai}(h:BD T w0 w l)(i:Nat)(hi:l[i]? =some t):
  ∃T',BD T' w w [t]/\(∀k∈T',k∈T\/w0.heap.size<=k)/\(∀W,Touch T' w W->∀j u,j≠i->l[j]? =some u->∃f,u.holds W f)/\∀w' t' rest,BD T' w w' (t'::rest)->BD T w0 w' (l.set i t'++rest):=by
 have hz:=h.size;obtain⟨hb,F,h1,h2⟩:=h;have hi':=(List.getElem?_eq_some_iff.1 hi).1;obtain⟨ha1,ha2⟩:=h1 i t hi;have hL:BD T w0 w l:=⟨hb,F,h1,h2⟩;refine⟨F i,⟨Touch.refl _ _,fun _=>F i,?_,?_⟩,ha2,?_,?_⟩
 .intro j u hj
  cases j with
  |zero=>simp at hj;subst hj;exact⟨ha1,fun k hk=> .inl hk⟩
  |succ j=>simp at hj
 .intro j k hj hk hjk;simp at hj hk;omega
 .intro W hW j u hji hj
  obtain⟨hu,_⟩:=h1 j u hj;have hj':=(List.getElem?_eq_some_iff.1 hj).1;exact⟨F j,u.keep hu (fun k hk=>hW.block k (u.lt hu k hk) (h2 j i hj' hi' hji k hk))⟩
 .rintro w' t' rest ⟨hT,F',h1',h2'⟩
  have hnewF:∀m,m<(t'::rest).length->∀x∈F' m,x∈F i\/w.heap.size<=x:=fun m hm x hx=>(h1' m _ (List.getElem?_eq_getElem hm)).2 x hx;have hoth:∀m,m<l.length->m≠i->∀x∈F m,∀p,p<(t'::rest).length->x∉F' p:=fun m hm EQ x hx p hp hc=>by
   have hlt:=l[m].lt (h1 m l[m] (List.getElem?_eq_getElem hm)).1 x hx;rcases hnewF p hp x hc with h|h
   .exact h2 m i hm hi' EQ x hx h
   .omega
  refine⟨hb.trans hT ha2,fun m=>if m=i then F' 0 else if m<l.length then F m else F' (m-l.length+1),?_,?_⟩
  .intro m u hm
   by_cases hml:m<l.length
   .rw[List.getElem?_append_left (by simpa using hml)]at hm
    by_cases EQ:m=i
    .subst EQ
     rw[List.getElem?_set_self hi']at hm;cases hm
     simp only[if_true];obtain⟨a,b⟩:=h1' 0 t' rfl;exact⟨a,fun k hk=>(b k hk).elim (ha2 k) (fun h=> .inr (by omega))⟩
    .rw[List.getElem?_set_ne (fun e=>EQ e.symm)]at hm
     simp only[if_neg EQ,if_pos hml];obtain⟨hu,hu2⟩:=h1 m u hm;exact⟨u.keep hu (fun k hk=>hT.block k (u.lt hu k hk) (h2 m i hml hi' EQ k hk)),hu2⟩
   .rw[List.getElem?_append_right (by simpa using hml)]at hm
    have EQ:m≠i:=by omega
    simp only[if_neg EQ,if_neg hml];obtain⟨a,b⟩:=h1' (m-l.length+1) u (by simpa using hm);exact⟨a,fun k hk=>(b k hk).elim (ha2 k) (fun h=> .inr (by omega))⟩
  .intro m n hm hn hmn x hx hx2
   dsimp only at hx hx2;simp only[List.length_append,List.length_set]at hm hn;by_cases EQ:m=i
   .rw[if_pos EQ]at hx
    rw[if_neg (by omega)]at hx2;by_cases hnl:n<l.length
    .rw[if_pos hnl]at hx2
     exact hoth n hnl (by omega) x hx2 0 (by simp) hx
    .rw[if_neg hnl]at hx2
     exact h2' 0 (n-l.length+1) (by simp) (by simp;omega) (by omega) x hx hx2
   .rw[if_neg EQ]at hx
    by_cases hni:n=i
    .rw[if_pos hni]at hx2
     by_cases hml:m<l.length
     .rw[if_pos hml]at hx
      exact hoth m hml EQ x hx 0 (by simp) hx2
     .rw[if_neg hml]at hx
      exact h2' 0 (m-l.length+1) (by simp) (by simp;omega) (by omega) x hx2 hx
    .rw[if_neg hni]at hx2
     by_cases hml:m<l.length
     .rw[if_pos hml]at hx
      by_cases hnl:n<l.length
      .rw[if_pos hnl]at hx2;exact h2 m n hml hnl hmn x hx hx2
      .rw[if_neg hnl]at hx2;exact hoth m hml EQ x hx (n-l.length+1) (by simp;omega) hx2
     .rw[if_neg hml]at hx
      by_cases hnl:n<l.length
      .rw[if_pos hnl]at hx2;exact hoth n hnl hni x hx2 (m-l.length+1) (by simp;omega) hx
      .rw[if_neg hnl]at hx2;exact h2' (m-l.length+1) (n-l.length+1) (by simp;omega) (by simp;omega) (by omega) x hx hx2
theorem BD.yZ{T:List Nat}{w0 w:World}{g n:Nat}{v:Value}{L:List ME}{vs:List MT}{rest:List ai}(hn:L.length=n)(h:BD T w0 w (Proofs.YtegejdlglonflaaGreatDoor.box g 358 #[true,v]::aS 65 7 v n (aM L)::bS vs::rest)):BD T w0 w [aQ g L,bS vs]:=by
 subst hn;have h1:BD T w0 w ([bS vs]++[Proofs.YtegejdlglonflaaGreatDoor.box g 358 #[true,v],aS 65 7 v L.length (aM L)]):=h.sel [2,0,1] rfl (by decide);exact h1.za.sel [1,0] rfl (by decide)
theorem Push_q(T:List Nat)(w:World)(g:Nat)(es xs:List ME)(a:Option Addr)(cap:Nat)(h:BD T w w [aQ g es])(hsrc:∀W,Touch T w W->fo W a xs/\∀x∈xs,x.v.In W)(hn:xs.length<=1099511627776)(hes:es.length<=4096):
  Calls prog 212 #[g,.slice a xs.length cap] w (Pushed T w g es xs):=by
 obtain⟨qa,qc,hqc1,hqc2,h1⟩:=BD.OM (l:=[]) h;have BB:=hdq h1.yS;simp only[nAq,cAq]at BB;have HSRC:=hdq hsrc;clear h h1 hsrc hqc1 hqc2;obtain⟨q0,q1,_,_,zq,_,_⟩:=BB.o.c2 0 rfl;go_enter func212,ntmps212
 go_wp2;refine bT 0 rfl ?_;go_wp2_with fail
 refine(pG g w q0).mono ?_;rintro e w' ⟨rfl,rfl⟩;go_wp2_with fail
 go_loopw [5,12] (fun er i wr=>∃(j:Nat) (ys:List ME) (qa:Option Addr) (qc:Nat),j<=xs.length/\i= .int .i64 (j:Int)/\er= .int .i64 0/\es.length+j<=4096/\(es++ys).length=es.length+j/\Hid (ys.map ME.plain=(xs.map ME.plain).take j)/\Hid (∀i (h:i<(xs.map ME.plain).length),i<j->(xs.map ME.plain)[i].Ok)/\
  Hid (BD T w wr [box g 358 #[true,.slice qa (es.length+j) qc],aS 65 7 (.slice qa (es.length+j) qc) (es.length+j) (aM (es++ys)),bS (ys.map ME.v)])) (fun _ i _=>xs.length-(intOf i).toNat)
 case atStart=>exact⟨0,[],qa,qc,Nat.zero_le _,rfl,rfl,by omega,by simp,by unfold Hid;simp,by unfold Hid;intro i _ h;omega,by simpa using BB⟩
 case round=>
  obtain⟨j,ys,qa,qc,hj,rfl,rfl,hj2,hyl,HY,HO,HK⟩:=hrel;clear BB q0 q1 zq;have hj0:(0:Int)<=(j:Int):=by omega
  by_cases hjl:j<xs.length
  .have Cc:(j:Int)<(xs.length:Int):=by omega
   obtain⟨b,o,rfl,hb,p0,p1,p2,p3,p4,p5,p6⟩:=(HSRC.o wr HK.o.BN).1 j hjl;have HI:=hdq ((HSRC.o wr HK.o.BN).2 _ (List.getElem_mem hjl));have Jy:Hid ((xs.map ME.plain)[j]? =some xs[j].plain):=by unfold Hid;simp[hjl]
   generalize xs[j]=x at p0 p1 p2 p3 p4 p5 p6 HI Jy;go_wp2_with fail
   refine ah ?_;intro w2 hw2;have HL2:=hdq (HK.o.DN hw2);have HT2:Hid (Touch [] wr w2):=hw2▸(Touch.refl [] wr).alloc _;simp only[nAq,cAq]at HL2;generalize EF:wr.heap.size=b7 at HL2|-;clear hw2 EF p0 p1 p2 p3 p4 p5 p6 hb;refine(MQ x w2 (HI.o.aO HT2.o)).mono ?_;rintro e w3 ⟨cc,rfl,hcc,ht⟩;have BF:=hdq (HL2.o.touch ht);have HT3:=hdq (HT2.o.trans' ht);have D6:=hdq hcc;clear hcc ht HL2 HT2;cases cc with
   |false=>
    go_wp2;go_step3
    refine⟨rfl,?_⟩;go_wp2;refine dO ?_;go_ret
    refine⟨j,2,ys,rfl,⟨HO.o,by omega,by simp;omega,.inr ⟨by simp;omega,.inl ⟨rfl,?_⟩⟩⟩,HY.o,?_⟩
    .have h:=Jy.o
     rw[List.getElem?_eq_getElem (by simp;omega)]at h;injection h with h
     rw[h];intro hok;have :=D6.o.2 hok;cases this
    .exact BF.o.yZ hyl
   |true=>
    obtain⟨q0,q1,KY,LF,zq,_,_⟩:=BF.o.c2 0 rfl;go_wp2_with fail
    refine(ML g _ _ _ w3 q1).mono ?_;rintro e w' ⟨rfl,rfl⟩;by_cases hfull:es.length+j=4096
    .have hf1:(4096:Int)<=((es.length+j:Nat):Int):=by omega
     go_wp2;go_step3
     refine⟨rfl,?_⟩;go_wp2;refine dO ?_;go_ret
     refine⟨j,6,ys,rfl,⟨HO.o,by omega,by simp;omega,.inr ⟨by simp;omega,.inr ⟨rfl,?_,hfull⟩⟩⟩,HY.o,?_⟩
     .have h:=Jy.o
      rw[List.getElem?_eq_getElem (by simp;omega)]at h;injection h with h
      rw[h];exact D6.o.1 (by simp)
     .exact BF.o.yZ hyl
    .have hf1:¬(4096:Int)<=((es.length+j:Nat):Int):=by omega
     obtain⟨i0,hi0,CY,CU,CX⟩:=info_parts nD;have HXN:Hid (x.v.nodes<=256):=by
      have h1:=(D6.o.1 (by simp)).nodes;simp only[ME.plain,MT.cu]at h1;exact h1
     have HXI:=hdq (HI.o.aO HT3.o);obtain⟨x0,x1,x2,x3,x4,x5,x6,_,zx,_,_⟩:=BF.o.c7 3 rfl;go_wp2_with fail
     go_region_law (first
      |(refine aD _ rfl (.tmp 29) (.tmp 32) 34 rfl 65 i0 _ 7 72 underlying34 hi0 CY CU CX rfl (by decide) (.slice qa (es.length+j) qc) (es.length+j) (aM (es++ys)) (by simp[Act.eval]) ((BH.o.dL _).aZ 1 rfl) (some ⟨w4.heap.size,0,none⟩) 1 1 x'.cells (by simp[Act.eval]) rfl (.inr ⟨_,rfl,World.news_of_block (heap_alloc_new w4 _)⟩) (by have :=qf [x'];simpa[aM]using this) (by simp only[maxLen];omega) (by omega) ?_;intro a5 c5 w5 hown hgrow hat;have Ca:=hdq ((BH.o.dL _).bG 1 rfl hgrow hown hat);simp only[sSq,sZq]at Ca;clear hown hgrow hat q0 q1 KY LF zq;obtain⟨q0,q1,KY,LF,zq,_,_⟩:=Ca.o.c2 0 rfl)
      |(go_simp;refine(kM x w3.drew (HXI.o.aO (Touch.refl [] w3).drew) HXN.o).mono ?_;rintro e w4 ⟨x',rfl,hpl,hin,hnew,ht⟩;have BH:=hdq (BF.o.drew.gH (vs:=[x'.v]) ht (by simpa using hin) (by simpa using hnew));simp only[nAq,cAq]at BH;have EA:=hdq hpl;clear hpl hin hnew ht q0 q1 KY LF zq x0 x1 x2 x3 x4 x5 x6 zx;obtain⟨q0,q1,KY,LF,zq,_,_⟩:=BH.o.c2 0 rfl;simp only[bB]))
     all_goals
      have Db:Hid (BD T w (w5.setCell ⟨g,1,none⟩ (.slice a5 (es.length+j+1) c5)) [box g 358 #[true,.slice a5 (es.length+(j+1)) c5],aS 65 7 (.slice a5 (es.length+(j+1)) c5) (es.length+(j+1)) (aM (es++(ys++[x']))),bS ((ys++[x']).map ME.v)]):=by
       have h:=Ca.o.set 0 rfl 1 (.slice a5 (es.length+j+1) c5);simp only[sSq,sZq,sAq]at h;have h2:=BD.ql (l:=[_,_]) (h.sel [0,1,2,4] rfl (by decide));rw[<-List.append_assoc,iC,List.map_append];exact h2
      have HY6:Hid ((ys++[x']).map ME.plain=(xs.map ME.plain).take (j+1)):=by
       unfold Hid;rw[List.take_add_one,Jy.o,List.map_append,HY.o,<-EA.o];rfl
      have HO6:Hid (∀i (h:i<(xs.map ME.plain).length),i<j+1->(xs.map ME.plain)[i].Ok):=by
       unfold Hid;intro i h hi;by_cases hij:i<j
       .exact HO.o i h hij
       .obtain rfl:i=j:=by omega
        have h2:=Jy.o;rw[List.getElem?_eq_getElem h]at h2;injection h2 with h2
        rw[h2];exact D6.o.1 (by simp)
      have hyl6:(es++(ys++[x'])).length=es.length+(j+1):=by simp at hyl|-;omega
      clear Ca BH BF q0 q1 KY LF zq;go_wp2;go_roundw
      case rel=>exact⟨j+1,ys++[x'],a5,c5,by omega,by go_num,rfl,by omega,hyl6,HY6,HO6,Db⟩
      case measure=>simp[intOf];omega
  .have Cc:¬(j:Int)<(xs.length:Int):=by omega
   obtain rfl:j=xs.length:=by omega
   go_wp2;go_step3
   go_wp2;refine fO ?_;go_ret
   refine⟨xs.length,0,ys,rfl,⟨HO.o,by omega,by simp,.inl ⟨rfl,by simp⟩⟩,HY.o,?_⟩;exact HK.o.yZ hyl
def eB(er:Int):Value:= .iface 249 (.agg #[er])
def aX(er:Int):List PanicEntry:=[{v:=eB er,recovered:=false}]
theorem sW(er:Int)(w:World):(Instr.build 249 #[(0,.int .i64 er)]).run prog w= .ok (.agg #[er]) w:=run_build w 249 _ _ (by kernel_rfl)
theorem require_ok(w:World)(er:Int):Calls prog 106 #[true,er] w fun e w'=>e= .returned (.tuple #[])/\w=w':=by
 go_enter func106,ntmps106
 go_wp2;go_end0
 exact⟨rfl,rfl⟩
theorem aY(w:World)(er:Int):Calls prog 106 #[false,er] w fun e w'=>e= .panicked (aX er)/\w=w':=by
 have hb:=sW er;go_enter func106,ntmps106
 go_wp2;exact⟨rfl,rfl,rfl⟩
theorem l8(u:TypeId)(v:Value)(w:World):(binOp .neq 20 (.iface u v) .nilIface).run prog w= .ok (.bool true) w:=by kernel_rfl
theorem dS(er:Int)(w:World):(Instr.typeAssert (.iface 249 (.agg #[er])) 20 249 true).run prog w= .ok (.tuple #[.agg #[er],true]) w:=by kernel_rfl
def Ends(e:Ending)(v:Value)(er:Int)(z:Value):Prop:=(er=0/\e= .returned v)\/(v=z/\e= .panicked (aX er))
theorem qX(T:List Nat)(w0 w:World)(l:List ai)(p q:Nat)(v:Int)(FP er:Int)(h:BD T w0 w (box p 3 #[v]::box q 67 #[FP]::l)):
  CallsD prog 204 #[p,q] (.panicking (aX er)) w fun e u' w'=>e= .returned (.tuple #[])/\u'= .panicking [{v:=eB er,recovered:=true}]/\BD T w0 w' (box p 3 #[()]::box q 67 #[er]::l):=by
 have HL:=hdq h;clear h;refine callsD_of_wpS func204 rfl fun c₀ cs hu=>?_;apply wpS_seq
 apply wpS_region
 simp[wpOpsS,go_sem,recoverD,hu,ntmps204,Exit.thenS,aX]
 apply wpS_seq
 apply wpS_region
 have hq:=l8 249 (.agg #[er]);simp[wpOpsS,go_sem,Exit.thenS,eB,hq]
 refine wpS_cond (t:=true) (by simp[Act.eval,Array.replicate]) ?_;simp only[if_true];refine wpS_of_wp ?_;simp only[Array.replicate_succ,Array.replicate_zero,List.push_toArray,List.append_toArray,sAq,sZq,sSq,nAq,cAq];have GZ:=dS er;obtain⟨p0,p1,zp,CK,CO⟩:=HL.o.c1 0 rfl;obtain⟨q0,q1,zq,Fb,Fg⟩:=HL.o.c1 1 rfl;have hpq:=HL.o.ne 0 1 rfl rfl (by decide);have F9:=Ne.symm hpq;clear hu hq;go_wp2_with fail
 go_region
 all_goals
  have BF:=hdq ((((HL.o.set 0 rfl 0 (.int .i64 0)).set 1 rfl 0 (.int .i64 er)).alloc 249 #[er]).drew);have BH:=hdq (BD.aF (l:=[_,_]++l) BF.o);exact⟨rfl,_,rfl,.tuple #[],results_none rfl _ _ _,rfl,rfl,BH.o⟩
theorem qw(w:World)(p q:Addr):CallsD prog 204 #[.pointer (some p),.pointer (some q)] .returning w fun e u' w'=>e= .returned (.tuple #[])/\u'= .returning/\w=w':=by
 refine callsD_of_wpS func204 rfl fun c₀ cs hu=>?_;apply wpS_seq
 apply wpS_region
 simp[wpOpsS,go_sem,recoverD,hu,ntmps204,Exit.thenS]
 apply wpS_seq
 apply wpS_region
 have hq:∀w,(binOp .neq 20 .nilIface .nilIface).run prog w= .ok (.bool false) w:=fun w=>by kernel_rfl
 simp[wpOpsS,go_sem,Exit.thenS,hq]
 refine wpS_cond (t:=false) (by simp[Act.eval,Array.replicate]) ?_;simp only[Bool.false_eq_true,if_false];refine wpS_of_wp (wp_skip ?_);cases c₀
 simp_all [bodyPostS,results,results204]
theorem lH(T:List Nat)(w0 w:World)(l:List ai)(D:FuncId)(caps:Array Value)(R:Int->Int->List ai->Prop)(h:BD T w0 w l)(hen:∀args w,(callFunc D args).run prog w= .ok (.enter D args) w)(hd:∀T' W,BD T' W W l->Calls prog D caps W fun e w'=>∃(v:Int) (er:Int) (l':List ai),Ends e (.int .i64 v) er (.int .i64 0)/\R v er l'/\BD T' W w' l'):
  Calls prog 104 #[.func (.func D) #[] caps] w fun e w'=>∃(v:Int) (er:Int) (l':List ai),e= .returned (.tuple #[v,er])/\R v er l'/\BD T w0 w' l':=by
 have Ep:= @mfq;have BG:=hdq h;have HD:=hdq hd;clear h hd;go_enter_defers func104,ntmps104
 go_wp2_with fail
 refine ah ?_;intro w1 hw1;have BB:=hdq (BG.o.DZ hw1);generalize hq:w.heap.size+1=q at BB|-;generalize hp:w.heap.size=p at BB|-;clear hw1 hq hp BG;obtain⟨T',hF,hb⟩:=BD.aN (m:=l) (r:=[box p 3 #[()],box q 67 #[()]]) (by simpa using BB.o);refine(HD.o T' _ hF).mono ?_;rintro e w2 ⟨v,er,l',he,hR,hL⟩;have HL2:=hdq (BD.aB (a:=[]) (b:=l') (c:=[box p 3 #[()],box q 67 #[()]]) (by simpa using hb _ _ hL));simp only[nAq,cAq]at HL2;have HR:=hdq hR;clear hL hR hF hb BB HD;rcases he with ⟨rfl,rfl⟩|⟨hv,rfl⟩
 .obtain⟨p0,p1,zp,_,_⟩:=HL2.o.c1 0 rfl
  obtain⟨q0,q1,zq,_,_⟩:=HL2.o.c1 1 rfl;have hpq:=HL2.o.ne 0 1 rfl rfl (by decide);have F9:=Ne.symm hpq;have BF:=hdq ((HL2.o.set 0 rfl 0 (.int .i64 v)).set 1 rfl 0 (.int .i64 0));simp only[sSq,sZq,sAq]at BF;dsimp only;go_wp2_with fail
  refine leaves_cons (f:=204) (args:=#[.pointer (some ⟨p,0,none⟩),.pointer (some ⟨q,0,none⟩)]) (by simp) (by simp[go_sem]) ?_;refine(qw _ _ _).mono ?_;rintro e u' w'' ⟨rfl,rfl,rfl⟩;obtain⟨r0,_,_,_,_⟩:=BF.o.c1 0 rfl;obtain⟨r1,_,_,_,_⟩:=BF.o.c1 1 rfl;refine⟨.tuple #[v,()],by simp[results,results104,go_sem,r0,r1],v,0,l',rfl,HR.o,?_⟩;exact BF.o.aB (a:=[]) (b:=[_,_]) (c:=l') |>.aF
 .injection hv with _ hv
  subst hv;dsimp only;refine leaves_cons (f:=204) (args:=#[.pointer (some ⟨p,0,none⟩),.pointer (some ⟨q,0,none⟩)]) (by simp) (by simp[go_sem]) ?_;refine(qX T w0 w2 l' p q (0) 0 er HL2.o).mono ?_;rintro e u' w'' ⟨rfl,rfl,hL⟩;have BF:=hdq hL;obtain⟨r0,_,_,_,_⟩:=BF.o.c1 0 rfl;obtain⟨r1,_,_,_,_⟩:=BF.o.c1 1 rfl;refine⟨.tuple #[(),er],by simp[results,results104,go_sem,r0,r1],0,er,l',rfl,HR.o,?_⟩;exact BD.aF (BD.aB (a:=[]) (b:=[_,_]) (c:=l') BF.o)
theorem oN(T:List Nat)(w0 w:World)(l:List ai)(p q:Nat)(v:Int)(FP er:Int)(h:BD T w0 w (box p 67 #[v]::box q 67 #[FP]::l)):
  CallsD prog 280 #[p,q] (.panicking (aX er)) w fun e u' w'=>e= .returned (.tuple #[])/\u'= .panicking [{v:=eB er,recovered:=true}]/\BD T w0 w' (box p 67 #[()]::box q 67 #[er]::l):=by
 have HL:=hdq h;clear h;refine callsD_of_wpS func280 rfl fun c₀ cs hu=>?_;apply wpS_seq
 apply wpS_region
 simp[wpOpsS,go_sem,recoverD,hu,ntmps280,Exit.thenS,aX]
 apply wpS_seq
 apply wpS_region
 have hq:=l8 249 (.agg #[er]);simp[wpOpsS,go_sem,Exit.thenS,eB,hq]
 refine wpS_cond (t:=true) (by simp[Act.eval,Array.replicate]) ?_;simp only[if_true];refine wpS_of_wp ?_;simp only[Array.replicate_succ,Array.replicate_zero,List.push_toArray,List.append_toArray,sAq,sZq,sSq,nAq,cAq];have GZ:=dS er;obtain⟨p0,p1,zp,CK,CO⟩:=HL.o.c1 0 rfl;obtain⟨q0,q1,zq,Fb,Fg⟩:=HL.o.c1 1 rfl;have hpq:=HL.o.ne 0 1 rfl rfl (by decide);have F9:=Ne.symm hpq;clear hu hq;go_wp2_with fail
 go_region
 all_goals
  have BF:=hdq ((((HL.o.set 0 rfl 0 (.int .i64 0)).set 1 rfl 0 (.int .i64 er)).alloc 249 #[er]).drew);have BH:=hdq (BD.aF (l:=[_,_]++l) BF.o);exact⟨rfl,_,rfl,.tuple #[],results_none rfl _ _ _,rfl,rfl,BH.o⟩
theorem nJ(w:World)(p q:Addr):CallsD prog 280 #[.pointer (some p),.pointer (some q)] .returning w fun e u' w'=>e= .returned (.tuple #[])/\u'= .returning/\w=w':=by
 refine callsD_of_wpS func280 rfl fun c₀ cs hu=>?_;apply wpS_seq
 apply wpS_region
 simp[wpOpsS,go_sem,recoverD,hu,ntmps280,Exit.thenS]
 apply wpS_seq
 apply wpS_region
 have hq:∀w,(binOp .neq 20 .nilIface .nilIface).run prog w= .ok (.bool false) w:=fun w=>by kernel_rfl
 simp[wpOpsS,go_sem,Exit.thenS,hq]
 refine wpS_cond (t:=false) (by simp[Act.eval,Array.replicate]) ?_;simp only[Bool.false_eq_true,if_false];refine wpS_of_wp (wp_skip ?_);cases c₀
 simp_all [bodyPostS,results,results280]
theorem l7(T:List Nat)(w0 w:World)(l:List ai)(D:FuncId)(caps:Array Value)(R:Int->Int->List ai->Prop)(h:BD T w0 w l)(hen:∀args w,(callFunc D args).run prog w= .ok (.enter D args) w)(hd:∀T' W,BD T' W W l->Calls prog D caps W fun e w'=>∃(v:Int) (er:Int) (l':List ai),Ends e (.int .i64 v) er (.int .i64 0)/\R v er l'/\BD T' W w' l'):
  Calls prog 211 #[.func (.func D) #[] caps] w fun e w'=>∃(v:Int) (er:Int) (l':List ai),e= .returned (.tuple #[v,er])/\R v er l'/\BD T w0 w' l':=by
 have Ep:= @mfq;have BG:=hdq h;have HD:=hdq hd;clear h hd;go_enter_defers func211,ntmps211
 go_wp2_with fail
 refine ah ?_;intro w1 hw1;have BB:=hdq (BG.o.DZ hw1);generalize hq:w.heap.size+1=q at BB|-;generalize hp:w.heap.size=p at BB|-;clear hw1 hq hp BG;obtain⟨T',hF,hb⟩:=BD.aN (m:=l) (r:=[box p 67 #[()],box q 67 #[()]]) (by simpa using BB.o);refine(HD.o T' _ hF).mono ?_;rintro e w2 ⟨v,er,l',he,hR,hL⟩;have HL2:=hdq (BD.aB (a:=[]) (b:=l') (c:=[box p 67 #[()],box q 67 #[()]]) (by simpa using hb _ _ hL));simp only[nAq,cAq]at HL2;have HR:=hdq hR;clear hL hR hF hb BB HD;rcases he with ⟨rfl,rfl⟩|⟨hv,rfl⟩
 .obtain⟨p0,p1,zp,_,_⟩:=HL2.o.c1 0 rfl
  obtain⟨q0,q1,zq,_,_⟩:=HL2.o.c1 1 rfl;have hpq:=HL2.o.ne 0 1 rfl rfl (by decide);have F9:=Ne.symm hpq;have BF:=hdq ((HL2.o.set 0 rfl 0 (.int .i64 v)).set 1 rfl 0 (.int .i64 0));simp only[sSq,sZq,sAq]at BF;dsimp only;go_wp2_with fail
  refine leaves_cons (f:=280) (args:=#[.pointer (some ⟨p,0,none⟩),.pointer (some ⟨q,0,none⟩)]) (by simp) (by simp[go_sem]) ?_;refine(nJ _ _ _).mono ?_;rintro e u' w'' ⟨rfl,rfl,rfl⟩;obtain⟨r0,_,_,_,_⟩:=BF.o.c1 0 rfl;obtain⟨r1,_,_,_,_⟩:=BF.o.c1 1 rfl;refine⟨.tuple #[v,()],by simp[results,results211,go_sem,r0,r1],v,0,l',rfl,HR.o,?_⟩;exact BF.o.aB (a:=[]) (b:=[_,_]) (c:=l') |>.aF
 .injection hv with _ hv
  subst hv;dsimp only;refine leaves_cons (f:=280) (args:=#[.pointer (some ⟨p,0,none⟩),.pointer (some ⟨q,0,none⟩)]) (by simp) (by simp[go_sem]) ?_;refine(oN T w0 w2 l' p q (0) 0 er HL2.o).mono ?_;rintro e u' w'' ⟨rfl,rfl,hL⟩;have BF:=hdq hL;obtain⟨r0,_,_,_,_⟩:=BF.o.c1 0 rfl;obtain⟨r1,_,_,_,_⟩:=BF.o.c1 1 rfl;refine⟨.tuple #[(),er],by simp[results,results211,go_sem,r0,r1],0,er,l',rfl,HR.o,?_⟩;exact BD.aF (BD.aB (a:=[]) (b:=[_,_]) (c:=l') BF.o)
theorem qP(T:List Nat)(w0 w:World)(l:List ai)(p q:Nat)(v:Int)(FP er:Int)(h:BD T w0 w (box p 131 #[v]::box q 67 #[FP]::l)):
  CallsD prog 229 #[p,q] (.panicking (aX er)) w fun e u' w'=>e= .returned (.tuple #[])/\u'= .panicking [{v:=eB er,recovered:=true}]/\BD T w0 w' (box p 131 #[()]::box q 67 #[er]::l):=by
 have HL:=hdq h;clear h;refine callsD_of_wpS func229 rfl fun c₀ cs hu=>?_;apply wpS_seq
 apply wpS_region
 simp[wpOpsS,go_sem,recoverD,hu,ntmps229,Exit.thenS,aX]
 apply wpS_seq
 apply wpS_region
 have hq:=l8 249 (.agg #[er]);simp[wpOpsS,go_sem,Exit.thenS,eB,hq]
 refine wpS_cond (t:=true) (by simp[Act.eval,Array.replicate]) ?_;simp only[if_true];refine wpS_of_wp ?_;simp only[Array.replicate_succ,Array.replicate_zero,List.push_toArray,List.append_toArray,sAq,sZq,sSq,nAq,cAq];have GZ:=dS er;obtain⟨p0,p1,zp,CK,CO⟩:=HL.o.c1 0 rfl;obtain⟨q0,q1,zq,Fb,Fg⟩:=HL.o.c1 1 rfl;have hpq:=HL.o.ne 0 1 rfl rfl (by decide);have F9:=Ne.symm hpq;clear hu hq;go_wp2_with fail
 go_region
 all_goals
  have BF:=hdq ((((HL.o.set 0 rfl 0 (.int .i64 0)).set 1 rfl 0 (.int .i64 er)).alloc 249 #[er]).drew);have BH:=hdq (BD.aF (l:=[_,_]++l) BF.o);exact⟨rfl,_,rfl,.tuple #[],results_none rfl _ _ _,rfl,rfl,BH.o⟩
theorem o9(w:World)(p q:Addr):CallsD prog 229 #[.pointer (some p),.pointer (some q)] .returning w fun e u' w'=>e= .returned (.tuple #[])/\u'= .returning/\w=w':=by
 refine callsD_of_wpS func229 rfl fun c₀ cs hu=>?_;apply wpS_seq
 apply wpS_region
 simp[wpOpsS,go_sem,recoverD,hu,ntmps229,Exit.thenS]
 apply wpS_seq
 apply wpS_region
 have hq:∀w,(binOp .neq 20 .nilIface .nilIface).run prog w= .ok (.bool false) w:=fun w=>by kernel_rfl
 simp[wpOpsS,go_sem,Exit.thenS,hq]
 refine wpS_cond (t:=false) (by simp[Act.eval,Array.replicate]) ?_;simp only[Bool.false_eq_true,if_false];refine wpS_of_wp (wp_skip ?_);cases c₀
 simp_all [bodyPostS,results,results229]
theorem j3(T:List Nat)(w0 w:World)(l:List ai)(D:FuncId)(caps:Array Value)(R:Int->Int->List ai->Prop)(h:BD T w0 w l)(hen:∀args w,(callFunc D args).run prog w= .ok (.enter D args) w)(hd:∀T' W,BD T' W W l->Calls prog D caps W fun e w'=>∃(v:Int) (er:Int) (l':List ai),Ends e (.int .i64 v) er (.int .i64 0)/\R v er l'/\BD T' W w' l'):
  Calls prog 136 #[.func (.func D) #[] caps] w fun e w'=>∃(v:Int) (er:Int) (l':List ai),e= .returned (.tuple #[v,er])/\R v er l'/\BD T w0 w' l':=by
 have Ep:= @mfq;have BG:=hdq h;have HD:=hdq hd;clear h hd;go_enter_defers func136,ntmps136
 go_wp2_with fail
 refine ah ?_;intro w1 hw1;have BB:=hdq (BG.o.DZ hw1);generalize hq:w.heap.size+1=q at BB|-;generalize hp:w.heap.size=p at BB|-;clear hw1 hq hp BG;obtain⟨T',hF,hb⟩:=BD.aN (m:=l) (r:=[box p 131 #[()],box q 67 #[()]]) (by simpa using BB.o);refine(HD.o T' _ hF).mono ?_;rintro e w2 ⟨v,er,l',he,hR,hL⟩;have HL2:=hdq (BD.aB (a:=[]) (b:=l') (c:=[box p 131 #[()],box q 67 #[()]]) (by simpa using hb _ _ hL));simp only[nAq,cAq]at HL2;have HR:=hdq hR;clear hL hR hF hb BB HD;rcases he with ⟨rfl,rfl⟩|⟨hv,rfl⟩
 .obtain⟨p0,p1,zp,_,_⟩:=HL2.o.c1 0 rfl
  obtain⟨q0,q1,zq,_,_⟩:=HL2.o.c1 1 rfl;have hpq:=HL2.o.ne 0 1 rfl rfl (by decide);have F9:=Ne.symm hpq;have BF:=hdq ((HL2.o.set 0 rfl 0 (.int .i64 v)).set 1 rfl 0 (.int .i64 0));simp only[sSq,sZq,sAq]at BF;dsimp only;go_wp2_with fail
  refine leaves_cons (f:=229) (args:=#[.pointer (some ⟨p,0,none⟩),.pointer (some ⟨q,0,none⟩)]) (by simp) (by simp[go_sem]) ?_;refine(o9 _ _ _).mono ?_;rintro e u' w'' ⟨rfl,rfl,rfl⟩;obtain⟨r0,_,_,_,_⟩:=BF.o.c1 0 rfl;obtain⟨r1,_,_,_,_⟩:=BF.o.c1 1 rfl;refine⟨.tuple #[v,()],by simp[results,results136,go_sem,r0,r1],v,0,l',rfl,HR.o,?_⟩;exact BF.o.aB (a:=[]) (b:=[_,_]) (c:=l') |>.aF
 .injection hv with _ hv
  subst hv;dsimp only;refine leaves_cons (f:=229) (args:=#[.pointer (some ⟨p,0,none⟩),.pointer (some ⟨q,0,none⟩)]) (by simp) (by simp[go_sem]) ?_;refine(qP T w0 w2 l' p q (0) 0 er HL2.o).mono ?_;rintro e u' w'' ⟨rfl,rfl,hL⟩;have BF:=hdq hL;obtain⟨r0,_,_,_,_⟩:=BF.o.c1 0 rfl;obtain⟨r1,_,_,_,_⟩:=BF.o.c1 1 rfl;refine⟨.tuple #[(),er],by simp[results,results136,go_sem,r0,r1],0,er,l',rfl,HR.o,?_⟩;exact BD.aF (BD.aB (a:=[]) (b:=[_,_]) (c:=l') BF.o)
theorem qE(T:List Nat)(w0 w:World)(l:List ai)(p q:Nat)(v:Bool)(FP er:Int)(h:BD T w0 w (box p 4 #[v]::box q 67 #[FP]::l)):
  CallsD prog 175 #[p,q] (.panicking (aX er)) w fun e u' w'=>e= .returned (.tuple #[])/\u'= .panicking [{v:=eB er,recovered:=true}]/\BD T w0 w' (box p 4 #[false]::box q 67 #[er]::l):=by
 have HL:=hdq h;clear h;refine callsD_of_wpS func175 rfl fun c₀ cs hu=>?_;apply wpS_seq
 apply wpS_region
 simp[wpOpsS,go_sem,recoverD,hu,ntmps175,Exit.thenS,aX]
 apply wpS_seq
 apply wpS_region
 have hq:=l8 249 (.agg #[er]);simp[wpOpsS,go_sem,Exit.thenS,eB,hq]
 refine wpS_cond (t:=true) (by simp[Act.eval,Array.replicate]) ?_;simp only[if_true];refine wpS_of_wp ?_;simp only[Array.replicate_succ,Array.replicate_zero,List.push_toArray,List.append_toArray,sAq,sZq,sSq,nAq,cAq];have GZ:=dS er;obtain⟨p0,p1,zp,CK,CO⟩:=HL.o.c1 0 rfl;obtain⟨q0,q1,zq,Fb,Fg⟩:=HL.o.c1 1 rfl;have hpq:=HL.o.ne 0 1 rfl rfl (by decide);have F9:=Ne.symm hpq;clear hu hq;go_wp2_with fail
 go_region
 all_goals
  have BF:=hdq ((((HL.o.set 0 rfl 0 (.bool false)).set 1 rfl 0 (.int .i64 er)).alloc 249 #[er]).drew);have BH:=hdq (BD.aF (l:=[_,_]++l) BF.o);exact⟨rfl,_,rfl,.tuple #[],results_none rfl _ _ _,rfl,rfl,BH.o⟩
theorem oP(w:World)(p q:Addr):CallsD prog 175 #[.pointer (some p),.pointer (some q)] .returning w fun e u' w'=>e= .returned (.tuple #[])/\u'= .returning/\w=w':=by
 refine callsD_of_wpS func175 rfl fun c₀ cs hu=>?_;apply wpS_seq
 apply wpS_region
 simp[wpOpsS,go_sem,recoverD,hu,ntmps175,Exit.thenS]
 apply wpS_seq
 apply wpS_region
 have hq:∀w,(binOp .neq 20 .nilIface .nilIface).run prog w= .ok (.bool false) w:=fun w=>by kernel_rfl
 simp[wpOpsS,go_sem,Exit.thenS,hq]
 refine wpS_cond (t:=false) (by simp[Act.eval,Array.replicate]) ?_;simp only[Bool.false_eq_true,if_false];refine wpS_of_wp (wp_skip ?_);cases c₀
 simp_all [bodyPostS,results,results175]
theorem iK(T:List Nat)(w0 w:World)(l:List ai)(D:FuncId)(caps:Array Value)(R:Bool->Int->List ai->Prop)(h:BD T w0 w l)(hen:∀args w,(callFunc D args).run prog w= .ok (.enter D args) w)(hd:∀T' W,BD T' W W l->Calls prog D caps W fun e w'=>∃(v:Bool) (er:Int) (l':List ai),Ends e (.bool v) er (.bool false)/\R v er l'/\BD T' W w' l'):
  Calls prog 73 #[.func (.func D) #[] caps] w fun e w'=>∃(v:Bool) (er:Int) (l':List ai),e= .returned (.tuple #[v,er])/\R v er l'/\BD T w0 w' l':=by
 have Ep:= @mfq;have BG:=hdq h;have HD:=hdq hd;clear h hd;go_enter_defers func73,ntmps73
 go_wp2_with fail
 refine ah ?_;intro w1 hw1;have BB:=hdq (BG.o.DZ hw1);generalize hq:w.heap.size+1=q at BB|-;generalize hp:w.heap.size=p at BB|-;clear hw1 hq hp BG;obtain⟨T',hF,hb⟩:=BD.aN (m:=l) (r:=[box p 4 #[false],box q 67 #[()]]) (by simpa using BB.o);refine(HD.o T' _ hF).mono ?_;rintro e w2 ⟨v,er,l',he,hR,hL⟩;have HL2:=hdq (BD.aB (a:=[]) (b:=l') (c:=[box p 4 #[false],box q 67 #[()]]) (by simpa using hb _ _ hL));simp only[nAq,cAq]at HL2;have HR:=hdq hR;clear hL hR hF hb BB HD;rcases he with ⟨rfl,rfl⟩|⟨hv,rfl⟩
 .obtain⟨p0,p1,zp,_,_⟩:=HL2.o.c1 0 rfl
  obtain⟨q0,q1,zq,_,_⟩:=HL2.o.c1 1 rfl;have hpq:=HL2.o.ne 0 1 rfl rfl (by decide);have F9:=Ne.symm hpq;have BF:=hdq ((HL2.o.set 0 rfl 0 (.bool v)).set 1 rfl 0 (.int .i64 0));simp only[sSq,sZq,sAq]at BF;dsimp only;go_wp2_with fail
  refine leaves_cons (f:=175) (args:=#[.pointer (some ⟨p,0,none⟩),.pointer (some ⟨q,0,none⟩)]) (by simp) (by simp[go_sem]) ?_;refine(oP _ _ _).mono ?_;rintro e u' w'' ⟨rfl,rfl,rfl⟩;obtain⟨r0,_,_,_,_⟩:=BF.o.c1 0 rfl;obtain⟨r1,_,_,_,_⟩:=BF.o.c1 1 rfl;refine⟨.tuple #[v,()],by simp[results,results73,go_sem,r0,r1],v,0,l',rfl,HR.o,?_⟩;exact BF.o.aB (a:=[]) (b:=[_,_]) (c:=l') |>.aF
 .injection hv with hv
  subst hv;dsimp only;refine leaves_cons (f:=175) (args:=#[.pointer (some ⟨p,0,none⟩),.pointer (some ⟨q,0,none⟩)]) (by simp) (by simp[go_sem]) ?_;refine(qE T w0 w2 l' p q (false) 0 er HL2.o).mono ?_;rintro e u' w'' ⟨rfl,rfl,hL⟩;have BF:=hdq hL;obtain⟨r0,_,_,_,_⟩:=BF.o.c1 0 rfl;obtain⟨r1,_,_,_,_⟩:=BF.o.c1 1 rfl;refine⟨.tuple #[false,er],by simp[results,results73,go_sem,r0,r1],false,er,l',rfl,HR.o,?_⟩;exact BD.aF (BD.aB (a:=[]) (b:=[_,_]) (c:=l') BF.o)
end Go.Proofs.YtegejdlglonflaaGreatDoor
