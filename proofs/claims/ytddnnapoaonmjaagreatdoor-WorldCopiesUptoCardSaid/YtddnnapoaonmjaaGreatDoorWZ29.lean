/-
  Texts of WorldCopies, laid together by program.
-/
import Derived.Test.YtddnnapoaonmjaaGreatDoorWZ28
namespace Go.Proofs.YtddnnapoaonmjaaGreatDoor
open Go.RowKit Go.Shelf Go.Proofs.Tryz
set_option maxRecDepth 100000
set_option maxHeartbeats 8000000
set_option linter.unusedVariables false
set_option linter.unusedSimpArgs false
def Rh(xs:List Value)(o:Nat):List Value->List Value
 |[]=>xs
 |u::us=>Rh (xs.set o u) (o+1) us
def setCells(w:World)(g o:Nat):List Value->World
 |[]=>w
 |u::us=>setCells (w.setCell ⟨g,o,none⟩ u) g (o+1) us
theorem BD.Vt{T:List Nat}{w0 w:World}{l:List ai}(h:BD T w0 w l)(i:Nat){e size g n cap:Nat}{xs:List Value}(hi:l[i]? =some (aS e size (.slice (some ⟨g,0,none⟩) n cap) n xs))(o:Nat)(us:List Value):
  BD T w0 (setCells w g o us) (l.set i (aS e size (.slice (some ⟨g,0,none⟩) n cap) n (Rh xs o us))):=by
 induction us generalizing w l xs o with
 |nil=>
  have hl:=List.getElem?_eq_some_iff.1 hi;rw[show Rh xs o []=xs from rfl,<-hl.2,List.set_getElem_self];exact h
 |cons u us ih=>
  have h1:=ih (h.pI i hi o u) (xs:=xs.set o u) (by rw[List.getElem?_set_self (List.getElem?_eq_some_iff.1 hi).1]) (o+1);rw[List.set_set]at h1;exact h1
theorem VH(us:List Value)(xs:List Value)(o j:Nat)(hl:o+us.length<=xs.length):(Rh xs o us)[j]? =if o<=j/\j<o+us.length then us[j-o]? else xs[j]? :=by
 induction us generalizing xs o with
 |nil=>rw[if_neg (by simp)];rfl
 |cons u us ih=>
  simp only[List.length_cons]at hl|-;rw[Rh,ih _ _ (by rw[List.length_set];omega)];by_cases h1:o+1<=j/\j<o+1+us.length
  .rw[if_pos h1,if_pos (by omega),show j-o=(j-(o+1))+1 from by omega,List.getElem?_cons_succ]
  .rw[if_neg h1]
   by_cases h2:o=j
   .subst h2
    rw[if_pos (by omega),Nat.sub_self,List.getElem?_cons_zero,List.getElem?_set_self (by omega)]
   .rw[if_neg (by omega),List.getElem?_set_ne h2]
theorem SF{α:Type}(f:α->List Value)(m:Nat)(hm:0<m)(hf:∀a,(f a).length=m)(l:List α)(k:Nat)(hk:k<l.length)(x:α):Rh (l.flatMap f) (k*m) (f x)=(l.set k x).flatMap f:=by
 have hlen:=rW f m hf;have hkm:k*m+m<=l.length*m:=by rw[<-Nat.succ_mul];exact Nat.mul_le_mul_right _ hk
 refine List.ext_getElem? fun j=>?_;rw[VH _ _ _ _ (by rw[hlen,hf];omega),hf];by_cases hj:j<l.length*m
 .have hq:j / m<l.length:=Nat.div_lt_of_lt_mul (by rw[Nat.mul_comm];exact hj)
  have hr:j % m<m:=Nat.mod_lt _ hm;have hjj:j=j / m*m+j % m:=by rw[Nat.mul_comm];exact(Nat.div_add_mod j m).symm
  rw[hjj,rT f m hf (l.set k x) (j / m) (by rw[List.length_set];exact hq) _ hr];by_cases he:k=j / m
  .rw[if_pos (by rw[<-he];omega)]
   simp only[he,List.getElem_set_self];congr 1
   omega
  .rw[if_neg (fun hh=>he (by
    have h1:k*m<(j / m+1)*m:=by rw[Nat.succ_mul];omega
    have h2:j / m*m<(k+1)*m:=by rw[Nat.succ_mul];omega
    have :=Nat.lt_of_mul_lt_mul_right h1;have :=Nat.lt_of_mul_lt_mul_right h2;omega)),rT f m hf l (j / m) hq _ hr,List.getElem_set_ne he]
 .rw[if_neg (by omega),List.getElem?_eq_none (by rw[hlen];omega),List.getElem?_eq_none (by rw[hlen,List.length_set];omega)]
theorem Vq(T:List Nat)(w:World)(v:RV)(P:World->Prop)(cs:List Value)(k:Nat)(xc:Int)(xa:Option Addr)(xn xk:Nat)(ya:Option Addr)(yn yk:Nat)(h:BD T w w [aA P])(hP:∀W,P W->aG W v.ha 3 v.hn cs)(hcl:cs.length=v.hn*3)(hone:∀u∈cs,u.oneCell'=true)(hnn:v.hn<=100000)(hk:k<v.hn):
  Calls prog 234 #[v.val,(k:Int),.agg #[xc,.slice xa xn xk,.slice ya yn yk]] w fun e w'=>∃(a:Option Addr) (c:Nat),e= .returned ({v with ha:=a,hc:=c}:RV).val/\BD T w w' [aA fun W=>P W/\aG W a 3 v.hn (Rh cs (k*3) [.int .i64 xc,.slice xa xn xk,.slice ya yn yk])]:=by
 obtain⟨i0,hi0,CY,CU,CX⟩:=info_parts KD;have hb:∀W,(Instr.buildSlice 34 0 #[]).run prog W= .ok (.slice (some ⟨W.heap.size,0,none⟩) 0 0) (W.alloc (.cells #[] 75)):=fun W=>by kernel_rfl
 have HP:=hdq hP;have DW:=hdq hcl;have D8:=hdq hone;have CW:=hdq hnn;have HK:=hdq hk;have hk0:(0:Int)<=(k:Int):=by omega
 have hk1:(k:Int)<(v.hn:Int):=by omega
 have BG:=hdq h;simp only[RV.val];go_enter func234,ntmps234
 go_upto_region 1 with fail
 refine ay ?_;intro w1 hw1;have BB:=hdq (BG.o.UX hw1);simp only[nAq,cAq]at BB;generalize Yk:w.heap.size+1+1=b6 at BB|-;generalize Yq:w.heap.size+1=b5 at BB|-;generalize XB:w.heap.size=b3 at BB|-;obtain⟨p0,p1,p2,p3,p4,p5,⟨RF,Ro,fp2,RD,Ru,Rz⟩,zp,_,_⟩:=BB.o.c6 1 rfl;have HL2:=hdq (BB.o.empty 75 3);simp only[nAq,cAq]at HL2;go_wp2_with (at_builtin;go_must (refine cB _ rfl (.tmp 7) (.tmp 9) 34 rfl 75 i0 _ 3 56 underlying34 hi0 CY CU CX rfl (by decide) (.slice (some ⟨w1.heap.size,0,none⟩) 0 0) 0 [] rfl (HL2.o.aZ 4 rfl) v.ha v.hn v.hc cs rfl DW.o (aG.iI (HP.o _ (HL2.o.still 0 rfl)) DW.o (by omega)) D8.o (by simp only[maxLen];have :=CW.o;omega) (by have :=CW.o;omega) ?_);intro a5 c5 w5 hown hgrow hat;refine Hid.o ?_)
 simp only[Nat.zero_add,nAq]at hown hat|-;have BF:=hdq (HL2.o.bG 4 rfl hgrow hown hat);simp only[sSq,sZq]at BF;have hf:=gD (BF.o.aZ 4 rfl) (by have :=HK.o;omega);obtain⟨g,cp,_,hga,_⟩:=hf;injection hga with hga _ hcp
 subst hga;subst hcp;refine hdq ?_;obtain⟨p0,p1,p2,p3,p4,p5,⟨RF,Ro,fp2,RD,Ru,Rz⟩,zp,_,_⟩:=BF.o.c6 1 rfl;go_upto_region 2 with fail
 refine ay ?_;intro w6 LM;have BH:=hdq ((BF.o.set 1 rfl 3 (.slice (some ⟨g,0,none⟩) v.hn c5)).toW LM);simp only[sSq,sZq,sAq]at BH;obtain⟨p0,p1,p2,p3,p4,p5,⟨RF,Ro,fp2,RD,Ru,Rz⟩,zp,_,_⟩:=BH.o.c6 1 rfl;have hbx:=BH.o.box 2 rfl;have x0:=hbx.cell 0;have x1:=hbx.cell 1;have x2:=hbx.cell 2;have zx:=hbx.lt;have hr:=BH.o.aZ 4 rfl;have HR:=hdq hr;have y0:=eT HR.o (k*3) (by have :=DW.o;have :=HK.o;omega);have g0:=ji HR.o (k*3);have y1:=eT HR.o (k*3+1) (by have :=DW.o;have :=HK.o;omega);have g1:=ji HR.o (k*3+1);have y2:=eT HR.o (k*3+2) (by have :=DW.o;have :=HK.o;omega);have g2:=ji HR.o (k*3+2);go_upto_region 3 with fail
 refine ay ?_;intro w7 hw7;have Ca:=hdq ((BH.o.Vt 4 rfl (k*3) [.int .i64 xc,.slice xa xn xk,.slice ya yn yk]).toW hw7);simp only[sSq,sZq]at Ca;obtain⟨p0,p1,p2,p3,p4,p5,⟨RF,Ro,fp2,RD,Ru,Rz⟩,zp,_,_⟩:=Ca.o.c6 1 rfl;obtain⟨q0,q1,q2,q3,q4,q5,⟨KY,LF,Tj,SY,Tw,Ty⟩,zq,_,_⟩:=Ca.o.c6 3 rfl;have n1:=Ca.o.ne 1 3 rfl rfl (by decide);have n2:=Ne.symm n1;have Db:=hdq ((((((Ca.o.set 3 rfl 0 (.slice v.ca v.cn v.cc)).set 3 rfl 1 (.int .i64 v.most)).set 3 rfl 2 (.slice v.la v.ln v.lc)).set 3 rfl 3 (.slice (some ⟨g,0,none⟩) v.hn c5)).set 3 rfl 4 (.slice v.oa v.on v.oc)).set 3 rfl 5 (.slice v.sa v.sn v.sc));simp only[sSq,sZq,sAq]at Db;go_wp2;refine aP ?_;intro w8 hw8;have C8:=hdq (Db.o.toW hw8);obtain⟨q0,q1,q2,q3,q4,q5,_,_,_,_⟩:=C8.o.c6 3 rfl;refine bodyPost_ret (v:= .agg #[.slice v.ca v.cn v.cc,v.most,.slice v.la v.ln v.lc,.slice (some ⟨g,0,none⟩) v.hn c5,.slice v.oa v.on v.oc,.slice v.sa v.sn v.sc]) (by simp[results,results234,go_sem,q0,q1,q2,q3,q4,q5]) rfl ?_;have h9:BD T w w8 [aA P,aS 75 3 (.slice (some ⟨g,0,none⟩) v.hn c5) v.hn (Rh cs (k*3) [.int .i64 xc,.slice xa xn xk,.slice ya yn yk])]:=C8.o.sel [0,4] rfl (by decide);exact⟨some ⟨g,0,none⟩,⟨c5,rfl⟩,h9.settle (l:=[_]) 0 rfl (fun W f Yl hf=>⟨Yl,mg hf.2 rfl (by decide) (by have :=CW.o;omega)⟩)⟩
theorem XT(T:List Nat)(w:World)(v:RV)(P:World->Prop)(cs:List Value)(k:Nat)(xc:Int)(xa:Option Addr)(xn xk:Nat)(h:BD T w w [aA P])(hP:∀W,P W->aG W v.oa 2 v.on cs)(hcl:cs.length=v.on*2)(hone:∀u∈cs,u.oneCell'=true)(hnn:v.on<=100000)(hk:k<v.on):
  Calls prog 240 #[v.val,(k:Int),.agg #[xc,.slice xa xn xk]] w fun e w'=>∃(a:Option Addr) (c:Nat),e= .returned ({v with oa:=a,oc:=c}:RV).val/\BD T w w' [aA fun W=>P W/\aG W a 2 v.on (Rh cs (k*2) [.int .i64 xc,.slice xa xn xk])]:=by
 obtain⟨i0,hi0,CY,CU,CX⟩:=info_parts Kr;have hb:∀W,(Instr.buildSlice 35 0 #[]).run prog W= .ok (.slice (some ⟨W.heap.size,0,none⟩) 0 0) (W.alloc (.cells #[] 284)):=fun W=>by kernel_rfl
 have HP:=hdq hP;have DW:=hdq hcl;have D8:=hdq hone;have CW:=hdq hnn;have HK:=hdq hk;have hk0:(0:Int)<=(k:Int):=by omega
 have hk1:(k:Int)<(v.on:Int):=by omega
 have BG:=hdq h;simp only[RV.val];go_enter func240,ntmps240
 go_upto_region 1 with fail
 refine ay ?_;intro w1 hw1;have BB:=hdq (BG.o.UX hw1);simp only[nAq,cAq]at BB;generalize Yk:w.heap.size+1+1=b6 at BB|-;generalize Yq:w.heap.size+1=b5 at BB|-;generalize XB:w.heap.size=b3 at BB|-;obtain⟨p0,p1,p2,p3,p4,p5,⟨RF,Ro,fp2,RD,Ru,Rz⟩,zp,_,_⟩:=BB.o.c6 1 rfl;have HL2:=hdq (BB.o.empty 284 2);simp only[nAq,cAq]at HL2;go_wp2_with (at_builtin;go_must (refine cB _ rfl (.tmp 7) (.tmp 9) 35 rfl 284 i0 _ 2 32 underlying35 hi0 CY CU CX rfl (by decide) (.slice (some ⟨w1.heap.size,0,none⟩) 0 0) 0 [] rfl (HL2.o.aZ 4 rfl) v.oa v.on v.oc cs rfl DW.o (aG.iI (HP.o _ (HL2.o.still 0 rfl)) DW.o (by omega)) D8.o (by simp only[maxLen];have :=CW.o;omega) (by have :=CW.o;omega) ?_);intro a5 c5 w5 hown hgrow hat;refine Hid.o ?_)
 simp only[Nat.zero_add,nAq]at hown hat|-;have BF:=hdq (HL2.o.bG 4 rfl hgrow hown hat);simp only[sSq,sZq]at BF;have hf:=gD (BF.o.aZ 4 rfl) (by have :=HK.o;omega);obtain⟨g,cp,_,hga,_⟩:=hf;injection hga with hga _ hcp
 subst hga;subst hcp;refine hdq ?_;obtain⟨p0,p1,p2,p3,p4,p5,⟨RF,Ro,fp2,RD,Ru,Rz⟩,zp,_,_⟩:=BF.o.c6 1 rfl;go_upto_region 2 with fail
 refine ay ?_;intro w6 LM;have BH:=hdq ((BF.o.set 1 rfl 4 (.slice (some ⟨g,0,none⟩) v.on c5)).toW LM);simp only[sSq,sZq,sAq]at BH;obtain⟨p0,p1,p2,p3,p4,p5,⟨RF,Ro,fp2,RD,Ru,Rz⟩,zp,_,_⟩:=BH.o.c6 1 rfl;have hbx:=BH.o.box 2 rfl;have x0:=hbx.cell 0;have x1:=hbx.cell 1;have zx:=hbx.lt;have hr:=BH.o.aZ 4 rfl;have HR:=hdq hr;have y0:=eT HR.o (k*2) (by have :=DW.o;have :=HK.o;omega);have g0:=ji HR.o (k*2);have y1:=eT HR.o (k*2+1) (by have :=DW.o;have :=HK.o;omega);have g1:=ji HR.o (k*2+1);go_upto_region 3 with fail
 refine ay ?_;intro w7 hw7;have Ca:=hdq ((BH.o.Vt 4 rfl (k*2) [.int .i64 xc,.slice xa xn xk]).toW hw7);simp only[sSq,sZq]at Ca;obtain⟨p0,p1,p2,p3,p4,p5,⟨RF,Ro,fp2,RD,Ru,Rz⟩,zp,_,_⟩:=Ca.o.c6 1 rfl;obtain⟨q0,q1,q2,q3,q4,q5,⟨KY,LF,Tj,SY,Tw,Ty⟩,zq,_,_⟩:=Ca.o.c6 3 rfl;have n1:=Ca.o.ne 1 3 rfl rfl (by decide);have n2:=Ne.symm n1;have Db:=hdq ((((((Ca.o.set 3 rfl 0 (.slice v.ca v.cn v.cc)).set 3 rfl 1 (.int .i64 v.most)).set 3 rfl 2 (.slice v.la v.ln v.lc)).set 3 rfl 3 (.slice v.ha v.hn v.hc)).set 3 rfl 4 (.slice (some ⟨g,0,none⟩) v.on c5)).set 3 rfl 5 (.slice v.sa v.sn v.sc));simp only[sSq,sZq,sAq]at Db;go_wp2;refine aP ?_;intro w8 hw8;have C8:=hdq (Db.o.toW hw8);obtain⟨q0,q1,q2,q3,q4,q5,_,_,_,_⟩:=C8.o.c6 3 rfl;refine bodyPost_ret (v:= .agg #[.slice v.ca v.cn v.cc,v.most,.slice v.la v.ln v.lc,.slice v.ha v.hn v.hc,.slice (some ⟨g,0,none⟩) v.on c5,.slice v.sa v.sn v.sc]) (by simp[results,results240,go_sem,q0,q1,q2,q3,q4,q5]) rfl ?_;have h9:BD T w w8 [aA P,aS 284 2 (.slice (some ⟨g,0,none⟩) v.on c5) v.on (Rh cs (k*2) [.int .i64 xc,.slice xa xn xk])]:=C8.o.sel [0,4] rfl (by decide);exact⟨some ⟨g,0,none⟩,⟨c5,rfl⟩,h9.settle (l:=[_]) 0 rfl (fun W f Yl hf=>⟨Yl,mg hf.2 rfl (by decide) (by have :=CW.o;omega)⟩)⟩
theorem Xr(T:List Nat)(w:World)(v:RV)(P:World->Prop)(cs:List Value)(k:Nat)(y:bL)(h:BD T w w [aA P])(hP:∀W,P W->aG W v.sa 11 v.sn cs)(hcl:cs.length=v.sn*11)(hone:∀u∈cs,u.oneCell'=true)(hnn:v.sn<=100000)(hk:k<v.sn):
  Calls prog 249 #[v.val,(k:Int),.agg #[y.thread,.slice y.jr y.gm y.jv,.slice y.ko y.kz y.jR,y.flag,y.parked,y.done,y.branch,y.kind,y.num,.slice y.lA y.lN y.lC,y.partner]] w fun e w'=>∃(a:Option Addr) (c:Nat),e= .returned ({v with sa:=a,sc:=c}:RV).val/\BD T w w' [aA fun W=>P W/\aG W a 11 v.sn (Rh cs (k*11) [.int .i64 y.thread,.slice y.jr y.gm y.jv,.slice y.ko y.kz y.jR,.int .i64 y.flag,.bool y.parked,.bool y.done,.int .i64 y.branch,.int .i64 y.kind,.int .i64 y.num,.slice y.lA y.lN y.lC,.int .i64 y.partner])]:=by
 obtain⟨i0,hi0,CY,CU,CX⟩:=info_parts mE;have hb:∀W,(Instr.buildSlice 36 0 #[]).run prog W= .ok (.slice (some ⟨W.heap.size,0,none⟩) 0 0) (W.alloc (.cells #[] 61)):=fun W=>by kernel_rfl
 have HP:=hdq hP;have DW:=hdq hcl;have D8:=hdq hone;have CW:=hdq hnn;have HK:=hdq hk;have hk0:(0:Int)<=(k:Int):=by omega
 have hk1:(k:Int)<(v.sn:Int):=by omega
 have BG:=hdq h;simp only[RV.val];go_enter func249,ntmps249
 go_upto_region 1 with fail
 refine ay ?_;intro w1 hw1;have BB:=hdq (BG.o.UX hw1);simp only[nAq,cAq]at BB;generalize Yk:w.heap.size+1+1=b6 at BB|-;generalize Yq:w.heap.size+1=b5 at BB|-;generalize XB:w.heap.size=b3 at BB|-;obtain⟨p0,p1,p2,p3,p4,p5,⟨RF,Ro,fp2,RD,Ru,Rz⟩,zp,_,_⟩:=BB.o.c6 1 rfl;have HL2:=hdq (BB.o.empty 61 11);simp only[nAq,cAq]at HL2;go_wp2_with (at_builtin;go_must (refine cB _ rfl (.tmp 7) (.tmp 9) 36 rfl 61 i0 _ 11 128 underlying36 hi0 CY CU CX rfl (by decide) (.slice (some ⟨w1.heap.size,0,none⟩) 0 0) 0 [] rfl (HL2.o.aZ 4 rfl) v.sa v.sn v.sc cs rfl DW.o (aG.iI (HP.o _ (HL2.o.still 0 rfl)) DW.o (by omega)) D8.o (by simp only[maxLen];have :=CW.o;omega) (by have :=CW.o;omega) ?_);intro a5 c5 w5 hown hgrow hat;refine Hid.o ?_)
 simp only[Nat.zero_add,nAq]at hown hat|-;have BF:=hdq (HL2.o.bG 4 rfl hgrow hown hat);simp only[sSq,sZq]at BF;have hf:=gD (BF.o.aZ 4 rfl) (by have :=HK.o;omega);obtain⟨g,cp,_,hga,_⟩:=hf;injection hga with hga _ hcp
 subst hga;subst hcp;refine hdq ?_;obtain⟨p0,p1,p2,p3,p4,p5,⟨RF,Ro,fp2,RD,Ru,Rz⟩,zp,_,_⟩:=BF.o.c6 1 rfl;go_upto_region 2 with fail
 refine ay ?_;intro w6 LM;have BH:=hdq ((BF.o.set 1 rfl 5 (.slice (some ⟨g,0,none⟩) v.sn c5)).toW LM);simp only[sSq,sZq,sAq]at BH;obtain⟨p0,p1,p2,p3,p4,p5,⟨RF,Ro,fp2,RD,Ru,Rz⟩,zp,_,_⟩:=BH.o.c6 1 rfl;have hbx:=BH.o.box 2 rfl;have x0:=hbx.cell 0;have x1:=hbx.cell 1;have x2:=hbx.cell 2;have x3:=hbx.cell 3;have x4:=hbx.cell 4;have x5:=hbx.cell 5;have x6:=hbx.cell 6;have x7:=hbx.cell 7;have x8:=hbx.cell 8;have x9:=hbx.cell 9;have x10:=hbx.cell 10;have zx:=hbx.lt;have hr:=BH.o.aZ 4 rfl;have HR:=hdq hr;have y0:=eT HR.o (k*11) (by have :=DW.o;have :=HK.o;omega);have g0:=ji HR.o (k*11);have y1:=eT HR.o (k*11+1) (by have :=DW.o;have :=HK.o;omega);have g1:=ji HR.o (k*11+1);have y2:=eT HR.o (k*11+2) (by have :=DW.o;have :=HK.o;omega);have g2:=ji HR.o (k*11+2);have y3:=eT HR.o (k*11+3) (by have :=DW.o;have :=HK.o;omega);have g3:=ji HR.o (k*11+3);have y4:=eT HR.o (k*11+4) (by have :=DW.o;have :=HK.o;omega);have g4:=ji HR.o (k*11+4);have y5:=eT HR.o (k*11+5) (by have :=DW.o;have :=HK.o;omega);have g5:=ji HR.o (k*11+5);have y6:=eT HR.o (k*11+6) (by have :=DW.o;have :=HK.o;omega);have g6:=ji HR.o (k*11+6);have y7:=eT HR.o (k*11+7) (by have :=DW.o;have :=HK.o;omega);have g7:=ji HR.o (k*11+7);have y8:=eT HR.o (k*11+8) (by have :=DW.o;have :=HK.o;omega);have g8:=ji HR.o (k*11+8);have y9:=eT HR.o (k*11+9) (by have :=DW.o;have :=HK.o;omega);have g9:=ji HR.o (k*11+9);have YO:=eT HR.o (k*11+10) (by have :=DW.o;have :=HK.o;omega);have g10:=ji HR.o (k*11+10);go_upto_region 3 with fail
 refine ay ?_;intro w7 hw7;have Ca:=hdq ((BH.o.Vt 4 rfl (k*11) [.int .i64 y.thread,.slice y.jr y.gm y.jv,.slice y.ko y.kz y.jR,.int .i64 y.flag,.bool y.parked,.bool y.done,.int .i64 y.branch,.int .i64 y.kind,.int .i64 y.num,.slice y.lA y.lN y.lC,.int .i64 y.partner]).toW hw7);simp only[sSq,sZq]at Ca;obtain⟨p0,p1,p2,p3,p4,p5,⟨RF,Ro,fp2,RD,Ru,Rz⟩,zp,_,_⟩:=Ca.o.c6 1 rfl;obtain⟨q0,q1,q2,q3,q4,q5,⟨KY,LF,Tj,SY,Tw,Ty⟩,zq,_,_⟩:=Ca.o.c6 3 rfl;have n1:=Ca.o.ne 1 3 rfl rfl (by decide);have n2:=Ne.symm n1;have Db:=hdq ((((((Ca.o.set 3 rfl 0 (.slice v.ca v.cn v.cc)).set 3 rfl 1 (.int .i64 v.most)).set 3 rfl 2 (.slice v.la v.ln v.lc)).set 3 rfl 3 (.slice v.ha v.hn v.hc)).set 3 rfl 4 (.slice v.oa v.on v.oc)).set 3 rfl 5 (.slice (some ⟨g,0,none⟩) v.sn c5));simp only[sSq,sZq,sAq]at Db;go_wp2;refine aP ?_;intro w8 hw8;have C8:=hdq (Db.o.toW hw8);obtain⟨q0,q1,q2,q3,q4,q5,_,_,_,_⟩:=C8.o.c6 3 rfl;refine bodyPost_ret (v:= .agg #[.slice v.ca v.cn v.cc,v.most,.slice v.la v.ln v.lc,.slice v.ha v.hn v.hc,.slice v.oa v.on v.oc,.slice (some ⟨g,0,none⟩) v.sn c5]) (by simp[results,results249,go_sem,q0,q1,q2,q3,q4,q5]) rfl ?_;have h9:BD T w w8 [aA P,aS 61 11 (.slice (some ⟨g,0,none⟩) v.sn c5) v.sn (Rh cs (k*11) [.int .i64 y.thread,.slice y.jr y.gm y.jv,.slice y.ko y.kz y.jR,.int .i64 y.flag,.bool y.parked,.bool y.done,.int .i64 y.branch,.int .i64 y.kind,.int .i64 y.num,.slice y.lA y.lN y.lC,.int .i64 y.partner])]:=C8.o.sel [0,4] rfl (by decide);exact⟨some ⟨g,0,none⟩,⟨c5,rfl⟩,h9.settle (l:=[_]) 0 rfl (fun W f Yl hf=>⟨Yl,mg hf.2 rfl (by decide) (by have :=CW.o;omega)⟩)⟩
structure Rb where
 cell:Nat
 a1:Option Addr
 k1:Nat
 es1:List ME
 a2:Option Addr
 k2:Nat
 es2:List ME
def Rb.cells(c:Rb):List Value:=[.int .i64 (c.cell:Int),.slice c.a1 c.es1.length c.k1,.slice c.a2 c.es2.length c.k2]
def Rb.pl(c:Rb):Int×List PE×List PE:=((c.cell:Int),c.es1.map ME.plain,c.es2.map ME.plain)
structure RH where
 cell:Nat
 a:Option Addr
 k:Nat
 es:List ME
def RH.cells(c:RH):List Value:=[.int .i64 (c.cell:Int),.slice c.a c.es.length c.k]
def RH.pl(c:RH):Int×Int×List PE:=((c.cell:Int),(c.cell:Int)+1,c.es.map ME.plain)
def T9(W:World)(a:Option Addr)(k:Nat)(es:List ME):Prop:=es.length<=k/\fo W a es/\∀e∈es,e.v.In W/\e.v.nodes<=256
structure RW where
 v:RV
 s:Ar
 BI:List Rb
 cos:List RH
 sys:List MS
def RW.th(r:RW)(L:PL):ai:=Pt L (.slice r.v.ca r.v.cn r.v.cc) (.slice r.v.la r.v.ln r.v.lc) r.s
structure RW.On(r:RW)(W:World):Prop where
 h:aG W r.v.ha 3 r.v.hn (r.BI.flatMap Rb.cells)
 o:aG W r.v.oa 2 r.v.on (r.cos.flatMap RH.cells)
 n:aG W r.v.sa 11 r.v.sn (r.sys.flatMap MS.cells)
 ch:∀c∈r.BI,T9 W c.a1 c.k1 c.es1/\T9 W c.a2 c.k2 c.es2
 co:∀c∈r.cos,T9 W c.a c.k c.es
 sy:∀m∈r.sys,m.In W
structure RW.Fits(r:RW):Prop where
 m:r.v.most=(r.s.most:Int)
 h:r.v.hn=r.BI.length
 o:r.v.on=r.cos.length
 n:r.v.sn=r.sys.length
structure Rel(x:WS)(ms:List MS)(r:RW):Prop where
 s:x.s=r.s
 h:x.BI.map Ce.pl=r.BI.map Rb.pl
 o:x.cos.map Ch.pl=r.cos.map RH.pl
 n:ms.map MS.plain=r.sys.map MS.plain
theorem Uw(c:Rb):c.cells.length=3:=rfl
theorem UE(c:RH):c.cells.length=2:=rfl
theorem Vv(m:MS):m.cells.length=11:=rfl
theorem RW.Fits.hc{r:RW}(h:r.Fits):(r.BI.flatMap Rb.cells).length=r.v.hn*3:=by rw[rW _ 3 Uw,h.h]
theorem RW.Fits.oc{r:RW}(h:r.Fits):(r.cos.flatMap RH.cells).length=r.v.on*2:=by rw[rW _ 2 UE,h.o]
theorem RW.Fits.nc{r:RW}(h:r.Fits):(r.sys.flatMap MS.cells).length=r.v.sn*11:=by rw[rW _ 11 Vv,h.n]
theorem Sj{α:Type}(f:α->List Value)(hf:∀a,∀u∈f a,u.oneCell'=true)(l:List α):∀u∈l.flatMap f,u.oneCell'=true:=fun u hu=>by
 obtain⟨a,_,hu⟩:=List.mem_flatMap.1 hu;exact hf a u hu
theorem V3(c:Rb):∀u∈c.cells,u.oneCell'=true:=by simp[Rb.cells,Value.oneCell']
theorem VY(c:RH):∀u∈c.cells,u.oneCell'=true:=by simp[RH.cells,Value.oneCell']
theorem WS.Yh(x:WS):(x.ts).Perm (aA x.P::x.rest):=by
 have e:x.ts=[x.h0,arena x.ga x.s,aA x.P]++([aS 118 1 (.slice x.a1 x.BI.length x.c1) x.BI.length (bP x.BI),aS 122 1 (.slice x.a2 x.cos.length x.c2) x.cos.length (bK x.cos),aS 61 11 (.slice x.a3 x.sys.length x.c3) x.sys.length (aU x.sys)]++(x.BI.flatMap Ce.ts++x.cos.flatMap Ch.ts)):=rfl;have er:x.rest=[x.h0,arena x.ga x.s]++([aS 118 1 (.slice x.a1 x.BI.length x.c1) x.BI.length (bP x.BI),aS 122 1 (.slice x.a2 x.cos.length x.c2) x.cos.length (bK x.cos),aS 61 11 (.slice x.a3 x.sys.length x.c3) x.sys.length (aU x.sys)]++(x.BI.flatMap Ce.ts++x.cos.flatMap Ch.ts)):=rfl;rw[e,er];simp only[cAq,nAq];exact List.Perm.trans (List.Perm.cons _ (List.Perm.swap _ _ _)) (List.Perm.swap _ _ _)
theorem RS{f:FuncId}{args:Array Value}{x:WS}{r:RW}{L:PL}(R:Ending->RW->(World->Prop)->Prop)(h:∀T w,BD T w w [r.th L,aA x.P]->Calls prog f args w fun e w'=>∃(r':RW) (L':PL) (Q:World->Prop),(∀y∈L,y∈L')/\R e r' Q/\(∀W,Q W->x.P W)/\BD T w w' [r'.th L',aA Q]):
  Does f args (x.ts++[r.th L]) fun e m'=>∃(r':RW) (L':PL) (Q:World->Prop),(∀y∈L,y∈L')/\R e r' Q/\(∀W,Q W->x.P W)/\m'=({x with P:=Q}:WS).ts++[r'.th L']:=by
 intro T w hL;have hp:(x.ts++[r.th L]).Perm ([r.th L,aA x.P]++x.rest):=by
  refine List.perm_append_comm.trans ?_;exact x.Yh.cons _
 have h2:=BD.perm hp [] (by simpa using hL);simp only[nAq]at h2;obtain⟨T',hF,hb⟩:=h2.aN;refine(h T' w hF).mono ?_;rintro e w' ⟨r',L',Q,Qy,hR,hQ,hL'⟩;refine⟨_,⟨r',L',Q,Qy,hR,hQ,rfl⟩,?_⟩;have h3:=hb _ _ hL';have hp2:([r'.th L',aA Q]++x.rest).Perm (({x with P:=Q}:WS).ts++[r'.th L']):=by
  refine List.Perm.trans ?_ List.perm_append_comm;exact(({x with P:=Q}:WS).Yh.symm).cons _
 have h4:=BD.perm hp2 [] (by simpa using h3);simpa using h4
def Qk(W:World)(a:Option Addr)(i:Nat)(us:List Value):Prop:=∃b o,a=some ⟨b,o,none⟩/\b<W.heap.size/\∀j u,us[j]? =some u->W.cell? ⟨b,o+i+j,none⟩=some u
theorem Px{P:World->Prop}{w:World}{a:Option Addr}{i:Nat}{us:List Value}(h:∀W,P W->Qk W a i us)(hw:P w):∃b o,a=some ⟨b,o,none⟩/\∀W,P W->b<W.heap.size/\∀j u,us[j]? =some u->W.cell? ⟨b,o+i+j,none⟩=some u:=by
 obtain⟨b,o,hb,_,_⟩:=h w hw;refine⟨b,o,hb,fun W hW=>?_⟩;obtain⟨b',o',hb',h1,h2⟩:=h W hW;rw[hb]at hb';injection hb' with hb'
 injection hb' with e1 e2
 subst e1 e2;exact⟨h1,h2⟩
theorem WC(T:List Nat)(w:World)(v:RV)(P:World->Prop)(k:Nat)(s:Int)(e:ME)(c:Rb)(h:BD T w w [aA P])(hk:k<v.hn)(hs:s=1\/s=2)(hP:∀W,P W->Qk W v.ha (k*3) [.int .i64 (c.cell:Int),.slice c.a1 c.es1.length c.k1,.slice c.a2 c.es2.length c.k2]){R1:Int->Rb->(World->Prop)->Prop}(hc:∀T W,BD T W W [aA P]->Calls prog 235 #[.agg #[(c.cell:Int),.slice c.a1 c.es1.length c.k1,.slice c.a2 c.es2.length c.k2],s,e.val] W fun en w'=>∃Q rest,(∃(err:Int) (c':Rb),en= .returned (.tuple #[.agg #[(c'.cell:Int),.slice c'.a1 c'.es1.length c'.k1,.slice c'.a2 c'.es2.length c'.k2],.int .i64 err])/\R1 err c' Q)/\BD T W w' (aA Q::rest)){R2:Int->Rb->Option Addr->Nat->(World->Prop)->Prop}(hR0:∀err c' Q,R1 err c' Q->∀W,Q W->P W)(hu:∀(err:Int) (c':Rb) (Q:World->Prop) T W,R1 err c' Q->BD T W W [aA Q]->Calls prog 234 #[v.val,(k:Int),.agg #[(c'.cell:Int),.slice c'.a1 c'.es1.length c'.k1,.slice c'.a2 c'.es2.length c'.k2]] W fun en w'=>∃Q' rest,(∃(a:Option Addr) (n:Nat),en= .returned ({v with ha:=a,hc:=n}:RV).val/\R2 err c' a n Q')/\BD T W w' (aA Q'::rest)):
  Calls prog 156 #[v.val,(k:Int),s,e.val] w fun en w'=>∃(err:Int) (c':Rb) (a:Option Addr) (n:Nat) (Q:World->Prop),en= .returned (.tuple #[({v with ha:=a,hc:=n}:RV).val,.int .i64 err])/\R2 err c' a n Q/\BD T w w' [aA Q]:=by
 obtain⟨b,o,hb,hB⟩:=Px hP (h.still 0 rfl);have hC:=aam fun W=>Sv v W k hk;have hl1:=aas fun W hW=>(hB W hW).2;have hk0:(0:Int)<=(k:Int):=by omega
 have hk1:(k:Int)<(v.hn:Int):=by omega
 have hO:=abF fun W=>iQ W s;have ho:(bM s==0)=false:=by unfold bM;rcases hs with rfl|rfl<;>rfl
 generalize bM s=oo at hO ho;have hc':=aax (H:=fun x Q=>R1 x.1 x.2 Q) (vf:=fun x:Int×Rb=> .tuple #[.agg #[(x.2.cell:Int),.slice x.2.a1 x.2.es1.length x.2.k1,.slice x.2.a2 x.2.es2.length x.2.k2],.int .i64 x.1]) hc fun e Q ⟨er,c',he,hR⟩=>⟨(er,c'),hR,he⟩;have hu':=fun er c' Q (hR:R1 er c' Q)=>aax (H:=fun x Q'=>R2 er c' x.1 x.2 Q') (vf:=fun x:Option Addr×Nat=>({v with ha:=x.1,hc:=x.2}:RV).val) (hu er c' Q · · hR ·) fun e Q' ⟨a,n,he,hR⟩=>⟨(a,n),hR,he⟩;refine aai.aaT (R:=xq (fun x:Int×Rb×Option Addr×Nat×(World->Prop)=>R2 x.1 x.2.1 x.2.2.1 x.2.2.2.1 x.2.2.2.2) (fun x=> .tuple #[({v with ha:=x.2.2.1,hc:=x.2.2.2.1}:RV).val,.int .i64 x.1]) fun x=>[[aA x.2.2.2.2]]) h ?_ fun e w' Y ⟨x,hx,he,hY⟩ hl=>⟨_,_,_,_,_,he,hx,by rw[hY]at hl;exact hl⟩;simp only[RV.val,hb,bB]at hC hc' hu'|-;refine aai.go func156 ntmps156 ?_;refine go3 fun _ _ _=>?_;refine cr hO fun _ _=>?_;refine go ?_;refine cr hC fun _ _=>?_;refine go ?_;refine W.rgd ?_;repeat (refine' rgk ?_;rotate_left)
 refine rgz 0 ?_ ?_;refine go ?_;refine cr hc' fun⟨⟨er,c'⟩,Q⟩ hR=>?_;refine go1 fun _=>?_;refine cr (hu' er c' Q hR) fun⟨⟨a,n⟩,Q'⟩ hR2=>?_;refine go ?_;refine W.abg ?_;exact⟨(er,c',a,n,Q'),hR2,rfl,rfl⟩
 kernel_rfl
theorem Wi(T:List Nat)(w:World)(v:RV)(P:World->Prop)(k:Nat)(e:ME)(c:RH)(h:BD T w w [aA P])(hk:k<v.on)(hP:∀W,P W->Qk W v.oa (k*2) [.int .i64 (c.cell:Int),.slice c.a c.es.length c.k]){R1:Int->RH->(World->Prop)->Prop}(hc:∀T W,BD T W W [aA P]->Calls prog 239 #[.agg #[(c.cell:Int),.slice c.a c.es.length c.k],e.val] W fun en w'=>∃Q rest,(∃(err:Int) (c':RH),en= .returned (.tuple #[.agg #[(c'.cell:Int),.slice c'.a c'.es.length c'.k],.int .i64 err])/\R1 err c' Q)/\BD T W w' (aA Q::rest)){R2:Int->RH->Option Addr->Nat->(World->Prop)->Prop}(hR0:∀err c' Q,R1 err c' Q->∀W,Q W->P W)(hu:∀(err:Int) (c':RH) (Q:World->Prop) T W,R1 err c' Q->BD T W W [aA Q]->Calls prog 240 #[v.val,(k:Int),.agg #[(c'.cell:Int),.slice c'.a c'.es.length c'.k]] W fun en w'=>∃Q' rest,(∃(a:Option Addr) (n:Nat),en= .returned ({v with oa:=a,oc:=n}:RV).val/\R2 err c' a n Q')/\BD T W w' (aA Q'::rest)):
  Calls prog 161 #[v.val,(k:Int),e.val] w fun en w'=>∃(err:Int) (c':RH) (a:Option Addr) (n:Nat) (Q:World->Prop),en= .returned (.tuple #[({v with oa:=a,oc:=n}:RV).val,.int .i64 err])/\R2 err c' a n Q/\BD T w w' [aA Q]:=by
 obtain⟨b,o,hb,hB⟩:=Px hP (h.still 0 rfl);have hC:=aam fun W=>Q6 v W k hk;have hl1:=aas fun W hW=>(hB W hW).2;have hk0:(0:Int)<=(k:Int):=by omega
 have hk1:(k:Int)<(v.on:Int):=by omega
 have hc':=aax (H:=fun x Q=>R1 x.1 x.2 Q) (vf:=fun x:Int×RH=> .tuple #[.agg #[(x.2.cell:Int),.slice x.2.a x.2.es.length x.2.k],.int .i64 x.1]) hc fun e Q ⟨er,c',he,hR⟩=>⟨(er,c'),hR,he⟩;have hu':=fun er c' Q (hR:R1 er c' Q)=>aax (H:=fun x Q'=>R2 er c' x.1 x.2 Q') (vf:=fun x:Option Addr×Nat=>({v with oa:=x.1,oc:=x.2}:RV).val) (hu er c' Q · · hR ·) fun e Q' ⟨a,n,he,hR⟩=>⟨(a,n),hR,he⟩;refine aai.aaT (R:=xq (fun x:Int×RH×Option Addr×Nat×(World->Prop)=>R2 x.1 x.2.1 x.2.2.1 x.2.2.2.1 x.2.2.2.2) (fun x=> .tuple #[({v with oa:=x.2.2.1,oc:=x.2.2.2.1}:RV).val,.int .i64 x.1]) fun x=>[[aA x.2.2.2.2]]) h ?_ fun e w' Y ⟨x,hx,he,hY⟩ hl=>⟨_,_,_,_,_,he,hx,by rw[hY]at hl;exact hl⟩;simp only[RV.val,hb,bB]at hC hc' hu'|-;refine aai.go func161 ntmps161 ?_;refine go3 fun _ _ _=>?_;refine cr hC fun _ _=>?_;refine go ?_;refine W.rgd ?_;repeat (refine' rgk ?_;rotate_left)
 refine rgz 0 ?_ ?_;refine go ?_;refine cr hc' fun⟨⟨er,c'⟩,Q⟩ hR=>?_;refine go1 fun _=>?_;refine cr (hu' er c' Q hR) fun⟨⟨a,n⟩,Q'⟩ hR2=>?_;refine go ?_;refine W.abg ?_;exact⟨(er,c',a,n,Q'),hR2,rfl,rfl⟩
 kernel_rfl
theorem WB(T:List Nat)(w:World)(v:RV)(P:World->Prop)(k:Nat)(s i:Int)(c:Rb)(h:BD T w w [aA P])(hk:k<v.hn)(hs:s=1\/s=2)(hP:∀W,P W->Qk W v.ha (k*3) [.int .i64 (c.cell:Int),.slice c.a1 c.es1.length c.k1,.slice c.a2 c.es2.length c.k2]){R:ME->Bool->Prop}(hc:∀W,P W->Calls prog 232 #[.agg #[(c.cell:Int),.slice c.a1 c.es1.length c.k1,.slice c.a2 c.es2.length c.k2],s,i] W fun en w'=>∃y d,en= .returned (.tuple #[y.val,.bool d])/\R y d/\Touch [] W w'):
  Calls prog 154 #[v.val,(k:Int),s,i] w fun en w'=>∃y d,en= .returned (.tuple #[y.val,.bool d,()])/\R y d/\BD T w w' [aA P]:=by
 obtain⟨b,o,hb,hB⟩:=Px hP (h.still 0 rfl);have hC:=aam fun W=>Sv v W k hk;have hl1:=aas fun W hW=>(hB W hW).2;have hk0:(0:Int)<=(k:Int):=by omega
 have hk1:(k:Int)<(v.hn:Int):=by omega
 have hO:=abF fun W=>iQ W s;have ho:(bM s==0)=false:=by unfold bM;rcases hs with rfl|rfl<;>rfl
 generalize bM s=oo at hO ho;have hc':=aa1 (H:=fun x=>R x.1 x.2) (vf:=fun x:ME×Bool=> .tuple #[x.1.val,.bool x.2]) (R:=fun en=>∃y d,en= .returned (.tuple #[y.val,.bool d])/\R y d) (fun w hw=>(hc w hw).mono fun e w' ⟨y,d,he,hR,ht⟩=>⟨⟨y,d,he,hR⟩,ht⟩) fun e ⟨y,d,he,hR⟩=>⟨(y,d),hR,he⟩;refine aai.aaT (R:=xq (fun x:ME×Bool=>R x.1 x.2) (fun x=> .tuple #[x.1.val,.bool x.2,()]) fun _=>[[aA P]]) h ?_ fun e w' Y ⟨x,hx,he,hY⟩ hl=>⟨_,_,he,hx,by rw[hY]at hl;exact hl⟩;simp only[RV.val,hb,bB]at hC hc'|-;refine aai.go func154 ntmps154 ?_;refine go2 fun _ _=>?_;refine cr hO fun _ _=>?_;refine go ?_;refine cr hC fun _ _=>?_;refine go ?_;refine cr hc' fun⟨y,d⟩ hR=>?_;refine go1 fun _=>?_;refine W.abg ?_;exact⟨(y,d),hR,rfl,rfl⟩
theorem WH(T:List Nat)(w:World)(v:RV)(P:World->Prop)(k:Nat)(s i:Int)(c:Rb)(h:BD T w w [aA P])(hk:k<v.hn)(hs:s=1\/s=2)(hP:∀W,P W->Qk W v.ha (k*3) [.int .i64 (c.cell:Int),.slice c.a1 c.es1.length c.k1,.slice c.a2 c.es2.length c.k2]){R1:ME->Bool->Rb->(World->Prop)->Prop}(hc:∀T W,BD T W W [aA P]->Calls prog 233 #[.agg #[(c.cell:Int),.slice c.a1 c.es1.length c.k1,.slice c.a2 c.es2.length c.k2],s,i] W fun en w'=>∃Q rest,(∃(y:ME) (d:Bool) (c':Rb),en= .returned (.tuple #[.agg #[(c'.cell:Int),.slice c'.a1 c'.es1.length c'.k1,.slice c'.a2 c'.es2.length c'.k2],y.val,d])/\R1 y d c' Q)/\BD T W w' (aA Q::rest)){R2:ME->Bool->Rb->Option Addr->Nat->(World->Prop)->Prop}(hu:∀(y:ME) (d:Bool) (c':Rb) (Q:World->Prop) T W,R1 y d c' Q->BD T W W [aA Q]->Calls prog 234 #[v.val,(k:Int),.agg #[(c'.cell:Int),.slice c'.a1 c'.es1.length c'.k1,.slice c'.a2 c'.es2.length c'.k2]] W fun en w'=>∃Q' rest,(∃(a:Option Addr) (n:Nat),en= .returned ({v with ha:=a,hc:=n}:RV).val/\R2 y d c' a n Q')/\BD T W w' (aA Q'::rest)):
  Calls prog 155 #[v.val,(k:Int),s,i] w fun en w'=>∃(y:ME) (d:Bool) (c':Rb) (a:Option Addr) (n:Nat) (Q:World->Prop),en= .returned (.tuple #[({v with ha:=a,hc:=n}:RV).val,y.val,d,()])/\R2 y d c' a n Q/\BD T w w' [aA Q]:=by
 obtain⟨b,o,hb,hB⟩:=Px hP (h.still 0 rfl);have hC:=aam fun W=>Sv v W k hk;have hl1:=aas fun W hW=>(hB W hW).2;have hk0:(0:Int)<=(k:Int):=by omega
 have hk1:(k:Int)<(v.hn:Int):=by omega
 have hO:=abF fun W=>iQ W s;have ho:(bM s==0)=false:=by unfold bM;rcases hs with rfl|rfl<;>rfl
 generalize bM s=oo at hO ho;have hc':=aax (H:=fun x Q=>R1 x.1 x.2.1 x.2.2 Q) (vf:=fun x:ME×Bool×Rb=> .tuple #[.agg #[(x.2.2.cell:Int),.slice x.2.2.a1 x.2.2.es1.length x.2.2.k1,.slice x.2.2.a2 x.2.2.es2.length x.2.2.k2],x.1.val,.bool x.2.1]) hc fun e Q ⟨y,d,c',he,hR⟩=>⟨(y,d,c'),hR,he⟩;have hu':=fun y d c' Q (hR:R1 y d c' Q)=>aax (H:=fun x Q'=>R2 y d c' x.1 x.2 Q') (vf:=fun x:Option Addr×Nat=>({v with ha:=x.1,hc:=x.2}:RV).val) (hu y d c' Q · · hR ·) fun e Q' ⟨a,n,he,hR⟩=>⟨(a,n),hR,he⟩;refine aai.aaT (R:=xq (fun x:ME×Bool×Rb×Option Addr×Nat×(World->Prop)=>R2 x.1 x.2.1 x.2.2.1 x.2.2.2.1 x.2.2.2.2.1 x.2.2.2.2.2) (fun x=> .tuple #[({v with ha:=x.2.2.2.1,hc:=x.2.2.2.2.1}:RV).val,x.1.val,.bool x.2.1,()]) fun x=>[[aA x.2.2.2.2.2]]) h ?_ fun e w' Y ⟨x,hx,he,hY⟩ hl=>⟨_,_,_,_,_,_,he,hx,by rw[hY]at hl;exact hl⟩;simp only[RV.val,hb,bB]at hC hc' hu'|-;refine aai.go func155 ntmps155 ?_;refine go3 fun _ _ _=>?_;refine cr hO fun _ _=>?_;refine go ?_;refine cr hC fun _ _=>?_;refine go ?_;refine cr hc' fun⟨⟨y,d,c'⟩,Q⟩ hR=>?_;refine go2 fun _ _=>?_;refine W.rgd ?_;repeat (refine' rgk ?_;rotate_left)
 refine rgz 0 ?_ ?_;refine go ?_;refine cr (hu' y d c' Q hR) fun⟨⟨a,n⟩,Q'⟩ hR2=>?_;refine go ?_;refine W.abg ?_;exact⟨(y,d,c',a,n,Q'),hR2,rfl,rfl⟩
 kernel_rfl
theorem WQ(T:List Nat)(w:World)(v:RV)(P:World->Prop)(k:Nat)(c:RH)(h:BD T w w [aA P])(hk:k<v.on)(hP:∀W,P W->Qk W v.oa (k*2) [.int .i64 (c.cell:Int),.slice c.a c.es.length c.k]){R1:ME->Bool->RH->(World->Prop)->Prop}(hc:∀T W,BD T W W [aA P]->Calls prog 241 #[.agg #[(c.cell:Int),.slice c.a c.es.length c.k]] W fun en w'=>∃Q rest,(∃(y:ME) (d:Bool) (c':RH),en= .returned (.tuple #[.agg #[(c'.cell:Int),.slice c'.a c'.es.length c'.k],y.val,d])/\R1 y d c' Q)/\BD T W w' (aA Q::rest)){R2:ME->Bool->RH->Option Addr->Nat->(World->Prop)->Prop}(hu:∀(y:ME) (d:Bool) (c':RH) (Q:World->Prop) T W,R1 y d c' Q->BD T W W [aA Q]->Calls prog 240 #[v.val,(k:Int),.agg #[(c'.cell:Int),.slice c'.a c'.es.length c'.k]] W fun en w'=>∃Q' rest,(∃(a:Option Addr) (n:Nat),en= .returned ({v with oa:=a,oc:=n}:RV).val/\R2 y d c' a n Q')/\BD T W w' (aA Q'::rest)):
  Calls prog 162 #[v.val,(k:Int)] w fun en w'=>∃(y:ME) (d:Bool) (c':RH) (a:Option Addr) (n:Nat) (Q:World->Prop),en= .returned (.tuple #[({v with oa:=a,oc:=n}:RV).val,y.val,d,()])/\R2 y d c' a n Q/\BD T w w' [aA Q]:=by
 obtain⟨b,o,hb,hB⟩:=Px hP (h.still 0 rfl);have hC:=aam fun W=>Q6 v W k hk;have hl1:=aas fun W hW=>(hB W hW).2;have hk0:(0:Int)<=(k:Int):=by omega
 have hk1:(k:Int)<(v.on:Int):=by omega
 have hc':=aax (H:=fun x Q=>R1 x.1 x.2.1 x.2.2 Q) (vf:=fun x:ME×Bool×RH=> .tuple #[.agg #[(x.2.2.cell:Int),.slice x.2.2.a x.2.2.es.length x.2.2.k],x.1.val,.bool x.2.1]) hc fun e Q ⟨y,d,c',he,hR⟩=>⟨(y,d,c'),hR,he⟩;have hu':=fun y d c' Q (hR:R1 y d c' Q)=>aax (H:=fun x Q'=>R2 y d c' x.1 x.2 Q') (vf:=fun x:Option Addr×Nat=>({v with oa:=x.1,oc:=x.2}:RV).val) (hu y d c' Q · · hR ·) fun e Q' ⟨a,n,he,hR⟩=>⟨(a,n),hR,he⟩;refine aai.aaT (R:=xq (fun x:ME×Bool×RH×Option Addr×Nat×(World->Prop)=>R2 x.1 x.2.1 x.2.2.1 x.2.2.2.1 x.2.2.2.2.1 x.2.2.2.2.2) (fun x=> .tuple #[({v with oa:=x.2.2.2.1,oc:=x.2.2.2.2.1}:RV).val,x.1.val,.bool x.2.1,()]) fun x=>[[aA x.2.2.2.2.2]]) h ?_ fun e w' Y ⟨x,hx,he,hY⟩ hl=>⟨_,_,_,_,_,_,he,hx,by rw[hY]at hl;exact hl⟩;simp only[RV.val,hb,bB]at hC hc' hu'|-;refine aai.go func162 ntmps162 ?_;refine go3 fun _ _ _=>?_;refine cr hC fun _ _=>?_;refine go ?_;refine cr hc' fun⟨⟨y,d,c'⟩,Q⟩ hR=>?_;refine go2 fun _ _=>?_;refine W.rgd ?_;repeat (refine' rgk ?_;rotate_left)
 refine rgz 0 ?_ ?_;refine go ?_;refine cr (hu' y d c' Q hR) fun⟨⟨a,n⟩,Q'⟩ hR2=>?_;refine go ?_;refine W.abg ?_;exact⟨(y,d,c',a,n,Q'),hR2,rfl,rfl⟩
 kernel_rfl
theorem WX(T:List Nat)(w:World)(v:RV)(P:World->Prop)(k:Nat)(c:MS)(h:BD T w w [aA P])(hk:k<v.sn)(hP:∀W,P W->Qk W v.sa (k*11) [.int .i64 c.thread,.slice c.ba c.bases.length c.bc,.slice c.ca c.conds.length c.cc,.int .i64 c.flag,.bool c.parked,.bool c.done,.int .i64 c.branch,.int .i64 c.v.kind,.int .i64 c.v.num,.slice c.v.addr c.v.parts.length c.v.cap,.int .i64 c.partner]){R2:Option Addr->Nat->(World->Prop)->Prop}(hu:∀T W,BD T W W [aA P]->Calls prog 249 #[v.val,(k:Int),.agg #[c.thread,.slice c.ba c.bases.length c.bc,.slice c.ca c.conds.length c.cc,c.flag,false,c.done,c.branch,c.v.kind,c.v.num,.slice c.v.addr c.v.parts.length c.v.cap,c.partner]] W fun en w'=>∃Q' rest,(∃(a:Option Addr) (n:Nat),en= .returned ({v with sa:=a,sc:=n}:RV).val/\R2 a n Q')/\BD T W w' (aA Q'::rest)):
  Calls prog 170 #[v.val,(k:Int)] w fun en w'=>∃(a:Option Addr) (n:Nat) (Q:World->Prop),en= .returned (.tuple #[({v with sa:=a,sc:=n}:RV).val,()])/\R2 a n Q/\BD T w w' [aA Q]:=by
 obtain⟨b,o,hb,hB⟩:=Px hP (h.still 0 rfl);have hC:=aam fun W=>PN v W k hk;have hl1:=aas fun W hW=>(hB W hW).2;have hk0:(0:Int)<=(k:Int):=by omega
 have hk1:(k:Int)<(v.sn:Int):=by omega
 have hu':=aax (H:=fun x Q'=>R2 x.1 x.2 Q') (vf:=fun x:Option Addr×Nat=>({v with sa:=x.1,sc:=x.2}:RV).val) hu fun e Q' ⟨a,n,he,hR⟩=>⟨(a,n),hR,he⟩;refine aai.aaT (R:=xq (fun x:Option Addr×Nat×(World->Prop)=>R2 x.1 x.2.1 x.2.2) (fun x=> .tuple #[({v with sa:=x.1,sc:=x.2.1}:RV).val,()]) fun x=>[[aA x.2.2]]) h ?_ fun e w' Y ⟨x,hx,he,hY⟩ hl=>⟨_,_,_,he,hx,by rw[hY]at hl;exact hl⟩;simp only[RV.val,hb]at hC hu'|-;refine aai.go func170 ntmps170 ?_;refine go2 fun _ _=>?_;refine cr hC fun _ _=>?_;refine go1 fun _=>?_;refine cr hu' fun⟨⟨a,n⟩,Q'⟩ hR2=>?_;refine go ?_;refine W.abg ?_;exact⟨(a,n,Q'),hR2,rfl,rfl⟩
theorem UQ(T:List Nat)(w:World)(v:RV)(P:World->Prop)(k:Nat)(c:MS)(br pt:Int)(u:MT)(h:BD T w w [aA P])(hk:k<v.sn)(hbr:0<=br/\br<(c.bases.length:Int))(hpt: -1<=pt/\pt<(v.sn:Int))(hd:c.done=false)(hP:∀W,P W->Qk W v.sa (k*11) [.int .i64 c.thread,.slice c.ba c.bases.length c.bc,.slice c.ca c.conds.length c.cc,.int .i64 c.flag,.bool c.parked,.bool c.done,.int .i64 c.branch,.int .i64 c.v.kind,.int .i64 c.v.num,.slice c.v.addr c.v.parts.length c.v.cap,.int .i64 c.partner])(hr:∀W,P W->Calls prog 248 #[u.val] W fun en w'=>en= .returned (.bool true)/\Touch [] W w'){R2:Option Addr->Nat->(World->Prop)->Prop}(hu:∀T W,BD T W W [aA P]->Calls prog 249 #[v.val,(k:Int),.agg #[c.thread,.slice c.ba c.bases.length c.bc,.slice c.ca c.conds.length c.cc,c.flag,c.parked,true,br,u.kind,u.num,.slice u.addr u.parts.length u.cap,pt]] W fun en w'=>∃Q' rest,(∃(a:Option Addr) (n:Nat),en= .returned ({v with sa:=a,sc:=n}:RV).val/\R2 a n Q')/\BD T W w' (aA Q'::rest)):
  Calls prog 168 #[v.val,(k:Int),br,u.val,pt] w fun en w'=>∃(a:Option Addr) (n:Nat) (Q:World->Prop),en= .returned (.tuple #[({v with sa:=a,sc:=n}:RV).val,()])/\R2 a n Q/\BD T w w' [aA Q]:=by
 obtain⟨b,o,hb,hB⟩:=Px hP (h.still 0 rfl);have hC:=aam fun W=>PN v W k hk;have hl1:=aas fun W hW=>(hB W hW).2;have hk0:(0:Int)<=(k:Int):=by omega
 have hk1:(k:Int)<(v.sn:Int):=by omega
 have hr':=aa1 (H:=fun _:Unit=>True) (vf:=fun _=> .bool true) hr fun e he=>⟨(),trivial,he⟩;have hu':=aax (H:=fun x Q'=>R2 x.1 x.2 Q') (vf:=fun x:Option Addr×Nat=>({v with sa:=x.1,sc:=x.2}:RV).val) hu fun e Q' ⟨a,n,he,hR⟩=>⟨(a,n),hR,he⟩;refine aai.aaT (R:=xq (fun x:Option Addr×Nat×(World->Prop)=>R2 x.1 x.2.1 x.2.2) (fun x=> .tuple #[({v with sa:=x.1,sc:=x.2.1}:RV).val,()]) fun x=>[[aA x.2.2]]) h ?_ fun e w' Y ⟨x,hx,he,hY⟩ hl=>⟨_,_,_,he,hx,by rw[hY]at hl;exact hl⟩;have d1:decide (br<0)=false:=decide_eq_false (by omega);have d2:decide ((c.bases.length:Int)<=br)=false:=decide_eq_false (by omega);have d3:decide (pt< -1)=false:=decide_eq_false (by omega);have d4:decide ((v.sn:Int)<=pt)=false:=decide_eq_false (by omega);simp only[RV.val,MT.val,MT.sl,hb,hd]at hC hu' hr' hl1|-;refine aai.go func168 ntmps168 ?_;refine go3 fun _ _ _=>?_;refine cr hC fun _ _=>?_;refine go1 fun _=>?_;refine cr hr' fun _ _=>?_;refine go ?_;refine W.rgd ?_;repeat (refine' rgk ?_;rotate_left)
 refine rgz 0 ?_ ?_;refine go ?_;refine cr hu' fun⟨⟨a,n⟩,Q'⟩ hR2=>?_;refine go ?_;refine W.abg ?_;exact⟨(a,n,Q'),hR2,rfl,rfl⟩
 kernel_rfl
theorem Wm(T:List Nat)(w:World)(v:RV)(P:World->Prop)(k:Nat)(c:MS)(br pt:Int)(u:MT)(h:BD T w w [aA P])(hk:k<v.sn)(hx:br<0)(hP:∀W,P W->Qk W v.sa (k*11) [.int .i64 c.thread,.slice c.ba c.bases.length c.bc,.slice c.ca c.conds.length c.cc,.int .i64 c.flag,.bool c.parked,.bool c.done,.int .i64 c.branch,.int .i64 c.v.kind,.int .i64 c.v.num,.slice c.v.addr c.v.parts.length c.v.cap,.int .i64 c.partner])
:
  Calls prog 168 #[v.val,(k:Int),br,u.val,pt] w fun en w'=>en= .returned (.tuple #[v.val,(2:Int)])/\BD T w w' [aA P]:=by
 obtain⟨b,o,hb,hB⟩:=Px hP (h.still 0 rfl);have hC:=aam fun W=>PN v W k hk;have hl1:=aas fun W hW=>(hB W hW).2;have hk0:(0:Int)<=(k:Int):=by omega
 have hk1:(k:Int)<(v.sn:Int):=by omega
 refine aai.aaT (R:=xq (fun _:Unit=>True) (fun _=> .tuple #[v.val,(2:Int)]) fun _=>[[aA P]]) h ?_ fun e w' Y ⟨x,hx,he,hY⟩ hl=>⟨he,by rw[hY]at hl;exact hl⟩;have d1:decide (br<0)=true:=decide_eq_true (by omega);simp only[RV.val,MT.val,MT.sl,hb]at hC hl1|-;refine aai.go func168 ntmps168 ?_;refine go3 fun _ _ _=>?_;refine cr hC fun _ _=>?_;refine go1 fun _=>?_;refine W.abg ?_;exact⟨(),trivial,rfl,rfl⟩
theorem WJ(T:List Nat)(w:World)(v:RV)(P:World->Prop)(k:Nat)(c:MS)(br pt:Int)(u:MT)(h:BD T w w [aA P])(hk:k<v.sn)(hx:0<=br/\(c.bases.length:Int)<=br)(hP:∀W,P W->Qk W v.sa (k*11) [.int .i64 c.thread,.slice c.ba c.bases.length c.bc,.slice c.ca c.conds.length c.cc,.int .i64 c.flag,.bool c.parked,.bool c.done,.int .i64 c.branch,.int .i64 c.v.kind,.int .i64 c.v.num,.slice c.v.addr c.v.parts.length c.v.cap,.int .i64 c.partner])
:
  Calls prog 168 #[v.val,(k:Int),br,u.val,pt] w fun en w'=>en= .returned (.tuple #[v.val,(2:Int)])/\BD T w w' [aA P]:=by
 obtain⟨b,o,hb,hB⟩:=Px hP (h.still 0 rfl);have hC:=aam fun W=>PN v W k hk;have hl1:=aas fun W hW=>(hB W hW).2;have hk0:(0:Int)<=(k:Int):=by omega
 have hk1:(k:Int)<(v.sn:Int):=by omega
 refine aai.aaT (R:=xq (fun _:Unit=>True) (fun _=> .tuple #[v.val,(2:Int)]) fun _=>[[aA P]]) h ?_ fun e w' Y ⟨x,hx,he,hY⟩ hl=>⟨he,by rw[hY]at hl;exact hl⟩;have d1:decide (br<0)=false:=decide_eq_false (by omega);have d2:decide ((c.bases.length:Int)<=br)=true:=decide_eq_true (by omega);simp only[RV.val,MT.val,MT.sl,hb]at hC hl1|-;refine aai.go func168 ntmps168 ?_;refine go3 fun _ _ _=>?_;refine cr hC fun _ _=>?_;refine go1 fun _=>?_;refine W.abg ?_;exact⟨(),trivial,rfl,rfl⟩
theorem Wp(T:List Nat)(w:World)(v:RV)(P:World->Prop)(k:Nat)(c:MS)(br pt:Int)(u:MT)(h:BD T w w [aA P])(hk:k<v.sn)(hx:0<=br/\br<(c.bases.length:Int))(hP:∀W,P W->Qk W v.sa (k*11) [.int .i64 c.thread,.slice c.ba c.bases.length c.bc,.slice c.ca c.conds.length c.cc,.int .i64 c.flag,.bool c.parked,.bool c.done,.int .i64 c.branch,.int .i64 c.v.kind,.int .i64 c.v.num,.slice c.v.addr c.v.parts.length c.v.cap,.int .i64 c.partner])(hr:∀W,P W->Calls prog 248 #[u.val] W fun en w'=>en= .returned (.bool false)/\Touch [] W w'):
  Calls prog 168 #[v.val,(k:Int),br,u.val,pt] w fun en w'=>en= .returned (.tuple #[v.val,(2:Int)])/\BD T w w' [aA P]:=by
 obtain⟨b,o,hb,hB⟩:=Px hP (h.still 0 rfl);have hC:=aam fun W=>PN v W k hk;have hl1:=aas fun W hW=>(hB W hW).2;have hk0:(0:Int)<=(k:Int):=by omega
 have hk1:(k:Int)<(v.sn:Int):=by omega
 have hr':=aa1 (H:=fun _:Unit=>True) (vf:=fun _=> .bool false) hr fun e he=>⟨(),trivial,he⟩;refine aai.aaT (R:=xq (fun _:Unit=>True) (fun _=> .tuple #[v.val,(2:Int)]) fun _=>[[aA P]]) h ?_ fun e w' Y ⟨x,hx,he,hY⟩ hl=>⟨he,by rw[hY]at hl;exact hl⟩;have d1:decide (br<0)=false:=decide_eq_false (by omega);have d2:decide ((c.bases.length:Int)<=br)=false:=decide_eq_false (by omega);simp only[RV.val,MT.val,MT.sl,hb]at hC hr' hl1|-;refine aai.go func168 ntmps168 ?_;refine go3 fun _ _ _=>?_;refine cr hC fun _ _=>?_;refine go1 fun _=>?_;refine cr hr' fun _ _=>?_;refine go ?_;refine W.abg ?_;exact⟨(),trivial,rfl,rfl⟩
theorem WE(T:List Nat)(w:World)(v:RV)(P:World->Prop)(k:Nat)(c:MS)(br pt:Int)(u:MT)(h:BD T w w [aA P])(hk:k<v.sn)(hx:(0<=br/\br<(c.bases.length:Int))/\pt< -1)(hP:∀W,P W->Qk W v.sa (k*11) [.int .i64 c.thread,.slice c.ba c.bases.length c.bc,.slice c.ca c.conds.length c.cc,.int .i64 c.flag,.bool c.parked,.bool c.done,.int .i64 c.branch,.int .i64 c.v.kind,.int .i64 c.v.num,.slice c.v.addr c.v.parts.length c.v.cap,.int .i64 c.partner])(hr:∀W,P W->Calls prog 248 #[u.val] W fun en w'=>en= .returned (.bool true)/\Touch [] W w'):
  Calls prog 168 #[v.val,(k:Int),br,u.val,pt] w fun en w'=>en= .returned (.tuple #[v.val,(2:Int)])/\BD T w w' [aA P]:=by
 obtain⟨b,o,hb,hB⟩:=Px hP (h.still 0 rfl);have hC:=aam fun W=>PN v W k hk;have hl1:=aas fun W hW=>(hB W hW).2;have hk0:(0:Int)<=(k:Int):=by omega
 have hk1:(k:Int)<(v.sn:Int):=by omega
 have hr':=aa1 (H:=fun _:Unit=>True) (vf:=fun _=> .bool true) hr fun e he=>⟨(),trivial,he⟩;refine aai.aaT (R:=xq (fun _:Unit=>True) (fun _=> .tuple #[v.val,(2:Int)]) fun _=>[[aA P]]) h ?_ fun e w' Y ⟨x,hx,he,hY⟩ hl=>⟨he,by rw[hY]at hl;exact hl⟩;have d1:decide (br<0)=false:=decide_eq_false (by omega);have d2:decide ((c.bases.length:Int)<=br)=false:=decide_eq_false (by omega);have d3:decide (pt< -1)=true:=decide_eq_true (by omega);simp only[RV.val,MT.val,MT.sl,hb]at hC hr' hl1|-;refine aai.go func168 ntmps168 ?_;refine go3 fun _ _ _=>?_;refine cr hC fun _ _=>?_;refine go1 fun _=>?_;refine cr hr' fun _ _=>?_;refine go ?_;refine W.abg ?_;exact⟨(),trivial,rfl,rfl⟩
theorem WM(T:List Nat)(w:World)(v:RV)(P:World->Prop)(k:Nat)(c:MS)(br pt:Int)(u:MT)(h:BD T w w [aA P])(hk:k<v.sn)(hx:(0<=br/\br<(c.bases.length:Int))/\ -1<=pt/\(v.sn:Int)<=pt)(hP:∀W,P W->Qk W v.sa (k*11) [.int .i64 c.thread,.slice c.ba c.bases.length c.bc,.slice c.ca c.conds.length c.cc,.int .i64 c.flag,.bool c.parked,.bool c.done,.int .i64 c.branch,.int .i64 c.v.kind,.int .i64 c.v.num,.slice c.v.addr c.v.parts.length c.v.cap,.int .i64 c.partner])(hr:∀W,P W->Calls prog 248 #[u.val] W fun en w'=>en= .returned (.bool true)/\Touch [] W w'):
  Calls prog 168 #[v.val,(k:Int),br,u.val,pt] w fun en w'=>en= .returned (.tuple #[v.val,(2:Int)])/\BD T w w' [aA P]:=by
 obtain⟨b,o,hb,hB⟩:=Px hP (h.still 0 rfl);have hC:=aam fun W=>PN v W k hk;have hl1:=aas fun W hW=>(hB W hW).2;have hk0:(0:Int)<=(k:Int):=by omega
 have hk1:(k:Int)<(v.sn:Int):=by omega
 have hr':=aa1 (H:=fun _:Unit=>True) (vf:=fun _=> .bool true) hr fun e he=>⟨(),trivial,he⟩;refine aai.aaT (R:=xq (fun _:Unit=>True) (fun _=> .tuple #[v.val,(2:Int)]) fun _=>[[aA P]]) h ?_ fun e w' Y ⟨x,hx,he,hY⟩ hl=>⟨he,by rw[hY]at hl;exact hl⟩;have d1:decide (br<0)=false:=decide_eq_false (by omega);have d2:decide ((c.bases.length:Int)<=br)=false:=decide_eq_false (by omega);have d3:decide (pt< -1)=false:=decide_eq_false (by omega);have d4:decide ((v.sn:Int)<=pt)=true:=decide_eq_true (by omega);simp only[RV.val,MT.val,MT.sl,hb]at hC hr' hl1|-;refine aai.go func168 ntmps168 ?_;refine go3 fun _ _ _=>?_;refine cr hC fun _ _=>?_;refine go1 fun _=>?_;refine cr hr' fun _ _=>?_;refine go ?_;refine W.abg ?_;exact⟨(),trivial,rfl,rfl⟩
theorem UM(T:List Nat)(w:World)(v:RV)(P:World->Prop)(k:Nat)(c:MS)(br pt:Int)(u:MT)(h:BD T w w [aA P])(hk:k<v.sn)(hbr:0<=br/\br<(c.bases.length:Int))(hpt: -1<=pt/\pt<(v.sn:Int))(hd:c.done=true)(hP:∀W,P W->Qk W v.sa (k*11) [.int .i64 c.thread,.slice c.ba c.bases.length c.bc,.slice c.ca c.conds.length c.cc,.int .i64 c.flag,.bool c.parked,.bool c.done,.int .i64 c.branch,.int .i64 c.v.kind,.int .i64 c.v.num,.slice c.v.addr c.v.parts.length c.v.cap,.int .i64 c.partner])(hr:∀W,P W->Calls prog 248 #[u.val] W fun en w'=>en= .returned (.bool true)/\Touch [] W w'):
  Calls prog 168 #[v.val,(k:Int),br,u.val,pt] w fun en w'=>en= .returned (.tuple #[v.val,(160:Int)])/\BD T w w' [aA P]:=by
 obtain⟨b,o,hb,hB⟩:=Px hP (h.still 0 rfl);have hC:=aam fun W=>PN v W k hk;have hl1:=aas fun W hW=>(hB W hW).2;have hk0:(0:Int)<=(k:Int):=by omega
 have hk1:(k:Int)<(v.sn:Int):=by omega
 have hr':=aa1 (H:=fun _:Unit=>True) (vf:=fun _=> .bool true) hr fun e he=>⟨(),trivial,he⟩;refine aai.aaT (R:=xq (fun _:Unit=>True) (fun _=> .tuple #[v.val,(160:Int)]) fun _=>[[aA P]]) h ?_ fun e w' Y ⟨x,hx,he,hY⟩ hl=>⟨he,by rw[hY]at hl;exact hl⟩;have d1:decide (br<0)=false:=decide_eq_false (by omega);have d2:decide ((c.bases.length:Int)<=br)=false:=decide_eq_false (by omega);have d3:decide (pt< -1)=false:=decide_eq_false (by omega);have d4:decide ((v.sn:Int)<=pt)=false:=decide_eq_false (by omega);simp only[RV.val,MT.val,MT.sl,hb,hd]at hC hr' hl1|-;refine aai.go func168 ntmps168 ?_;refine go3 fun _ _ _=>?_;refine cr hC fun _ _=>?_;refine go1 fun _=>?_;refine cr hr' fun _ _=>?_;refine go ?_;refine W.abg ?_;exact⟨(),trivial,rfl,rfl⟩
theorem WN(T:List Nat)(w:World)(v:RV)(P:World->Prop)(k:Nat)(c:MS)(was:Int)(t0:ai)(h:BD T w w [t0,aA P])(hk:k<v.sn)(hP:∀W,P W->Qk W v.sa (k*11) [.int .i64 c.thread,.slice c.ba c.bases.length c.bc,.slice c.ca c.conds.length c.cc,.int .i64 c.flag,.bool c.parked,.bool c.done,.int .i64 c.branch,.int .i64 c.v.kind,.int .i64 c.v.num,.slice c.v.addr c.v.parts.length c.v.cap,.int .i64 c.partner]){R1:RV->ai->Prop}(hs:∀x t,R1 x t->PG v x)(hl:∀T W,BD T W W [t0,aA P]->Calls prog 167 #[v.val,(k:Int)] W fun en w'=>∃(x:RV) (t:ai),en= .returned (.tuple #[x.val,was,()])/\R1 x t/\BD T W w' [t,aA P]){R2:RV->ai->Option Addr->Nat->(World->Prop)->Prop}(hu:∀x t T W,R1 x t->BD T W W [aA P]->Calls prog 249 #[x.val,(k:Int),.agg #[c.thread,.slice c.ba c.bases.length c.bc,.slice c.ca c.conds.length c.cc,c.flag,.bool (was != 2),c.done,c.branch,c.v.kind,c.v.num,.slice c.v.addr c.v.parts.length c.v.cap,c.partner]] W fun en w'=>∃Q' rest,(∃(a:Option Addr) (n:Nat),en= .returned ({x with sa:=a,sc:=n}:RV).val/\R2 x t a n Q')/\BD T W w' (aA Q'::rest)):
  Calls prog 169 #[v.val,(k:Int)] w fun en w'=>∃(x:RV) (t:ai) (a:Option Addr) (n:Nat) (Q:World->Prop),en= .returned (.tuple #[({x with sa:=a,sc:=n}:RV).val,.bool (was != 2),()])/\R2 x t a n Q/\BD T w w' [t,aA Q]:=by
 obtain⟨b,o,hb,hB⟩:=Px hP (h.still 1 rfl);have hC:=aam fun W=>PN v W k hk;have hl1:=aas fun W hW=>(hB W hW).2;have hk0:(0:Int)<=(k:Int):=by omega
 have hk1:(k:Int)<(v.sn:Int):=by omega
 have hc':aai prog 167 #[v.val,(k:Int)] [[t0],[aA P]] (xq (fun x:RV×ai=>R1 x.1 x.2) (fun x=> .tuple #[x.1.val,was,()]) fun x=>[[x.2],[aA P]]):=fun T w hL=>(hl T w hL).mono fun e w' ⟨x,t,he,hR,hL'⟩=>⟨[[t],[aA P]],rfl,⟨(x,t),hR,he,rfl⟩,hL'⟩;have hu':=fun x t (hR:R1 x t)=>aax (H:=fun y Q'=>R2 x t y.1 y.2 Q') (vf:=fun y:Option Addr×Nat=>({x with sa:=y.1,sc:=y.2}:RV).val) (hu x t · · hR ·) fun e Q' ⟨a,n,he,hR⟩=>⟨(a,n),hR,he⟩;have hg:aai prog 169 #[v.val,(k:Int)] [[t0],[aA P]] (xq (fun x:RV×ai×Option Addr×Nat×(World->Prop)=>R2 x.1 x.2.1 x.2.2.1 x.2.2.2.1 x.2.2.2.2) (fun x=> .tuple #[({x.1 with sa:=x.2.2.1,sc:=x.2.2.2.1}:RV).val,.bool (was != 2),()]) fun x=>[[x.2.1],[aA x.2.2.2.2]]):=by
  simp only[RV.val]at hc' hu'|-;refine aai.go func169 ntmps169 ?_;refine go2 fun _ _=>?_;refine cr hc' fun⟨x,t⟩ hR=>?_;obtain⟨e1,e2,e3,e4,e5,e6,e7,e8,e9,e10⟩:=hs x t hR;obtain⟨xca,xcn,xcc,xmost,xla,xln,xlc,xha,xhn,xhc,xoa,xon,xoc,xsa,xsn,xsc⟩:=x;dsimp only at e1 e2 e3 e4 e5 e6 e7 e8 e9 e10;subst e1 e2 e3 e4 e5 e6 e7 e8 e9 e10;have hu2:=hu' _ t hR;simp only[hb]at hu2|-;refine go2 fun _ _=>?_;refine W.rgd ?_;repeat (refine' rgk ?_;rotate_left)
  refine rgz 0 ?_ ?_;refine go ?_;refine cr hu2 fun⟨⟨a,n⟩,Q'⟩ hR2=>?_;refine go ?_;refine W.abg ?_;exact⟨(_,t,a,n,Q'),hR2,rfl,rfl⟩
  kernel_rfl
 refine(hg T w h).mono fun e w' ⟨Y,_,⟨x,hx,he,hY⟩,hl⟩=>⟨_,_,_,_,_,he,hx,by rw[hY]at hl;exact hl⟩
theorem VI(T:List Nat)(w:World)(v:RV)(P:World->Prop)(k j:Nat)(c:MS)(q:MB)(h:BD T w w [aA P])(hk:k<v.sn)(hj:j<c.bases.length)(hP:∀W,P W->Qk W v.sa (k*11) [.int .i64 c.thread,.slice c.ba c.bases.length c.bc,.slice c.ca c.conds.length c.cc,.int .i64 c.flag,.bool c.parked,.bool c.done,.int .i64 c.branch,.int .i64 c.v.kind,.int .i64 c.v.num,.slice c.v.addr c.v.parts.length c.v.cap,.int .i64 c.partner])(hQ:∀W,P W->Qk W c.ba (j*7) [.int .i64 q.kind,.int .i64 q.n,.int .i64 q.v.kind,.int .i64 q.v.num,.slice q.v.addr q.v.parts.length q.v.cap,.slice q.wa q.wraps.length q.wc,.slice q.na q.aT.length q.nc]):
  Calls prog 171 #[v.val,(k:Int),(j:Int)] w fun en w'=>en= .returned (.tuple #[.agg #[(k:Int),c.thread,(j:Int),c.flag,q.v.kind,q.v.num,.slice q.v.addr q.v.parts.length q.v.cap],()])/\BD T w w' [aA P]:=by
 obtain⟨b2,o2,hb2,hB2⟩:=Px hQ (h.still 0 rfl);have hl2:=aas fun W hW=>(hB2 W hW).2;obtain⟨b,o,hb,hB⟩:=Px hP (h.still 0 rfl);have hC:=aam fun W=>PN v W k hk;have hl1:=aas fun W hW=>(hB W hW).2;have hk0:(0:Int)<=(k:Int):=by omega
 have hk1:(k:Int)<(v.sn:Int):=by omega
 have hl3:=acT hl2 2 3 (us':=[.int .i64 q.v.kind,.int .i64 q.v.num,.slice q.v.addr q.v.parts.length q.v.cap]) rfl;have hj0:(0:Int)<=(j:Int):=by omega
 have hj1:(j:Int)<(c.bases.length:Int):=by omega
 have d1:decide ((j:Int)<0)=false:=decide_eq_false (by omega);have d2:decide ((c.bases.length:Int)<=(j:Int))=false:=decide_eq_false (by omega);have d3:decide (c.bases.length<=j)=false:=decide_eq_false (by omega);refine aai.aaT (R:=xq (fun _:Unit=>True) (fun _=> .tuple #[.agg #[(k:Int),c.thread,(j:Int),c.flag,q.v.kind,q.v.num,.slice q.v.addr q.v.parts.length q.v.cap],()]) fun _=>[[aA P]]) h ?_ fun e w' Y ⟨x,hx,he,hY⟩ hl=>⟨he,by rw[hY]at hl;exact hl⟩;simp only[RV.val,hb,hb2]at hC hl1|-;refine aai.go func171 ntmps171 ?_;refine go2 fun _ _=>?_;refine cr hC fun _ _=>?_;refine go1 fun _=>?_;refine W.rgd ?_;repeat (refine' rgk ?_;rotate_left)
 refine rgz 0 ?_ ?_;refine go ?_;refine W.abg ?_;exact⟨(),trivial,rfl,rfl⟩
 kernel_rfl
theorem XZ(T:List Nat)(w:World)(v:RV)(P:World->Prop)(k:Nat)(br:Int)(c:MS)(h:BD T w w [aA P])(hk:k<v.sn)(hx:br<0)(hP:∀W,P W->Qk W v.sa (k*11) [.int .i64 c.thread,.slice c.ba c.bases.length c.bc,.slice c.ca c.conds.length c.cc,.int .i64 c.flag,.bool c.parked,.bool c.done,.int .i64 c.branch,.int .i64 c.v.kind,.int .i64 c.v.num,.slice c.v.addr c.v.parts.length c.v.cap,.int .i64 c.partner]):
  Calls prog 171 #[v.val,(k:Int),br] w fun en w'=>en= .returned (.tuple #[.agg #[(),(),(),(),(),(),True],(2:Int)])/\BD T w w' [aA P]:=by
 obtain⟨b,o,hb,hB⟩:=Px hP (h.still 0 rfl);have hC:=aam fun W=>PN v W k hk;have hl1:=aas fun W hW=>(hB W hW).2;have hk0:(0:Int)<=(k:Int):=by omega
 have hk1:(k:Int)<(v.sn:Int):=by omega
 refine aai.aaT (R:=xq (fun _:Unit=>True) (fun _=> .tuple #[.agg #[(),(),(),(),(),(),True],(2:Int)]) fun _=>[[aA P]]) h ?_ fun e w' Y ⟨x,hx,he,hY⟩ hl=>⟨he,by rw[hY]at hl;exact hl⟩;have d1:decide (br<0)=true:=decide_eq_true (by omega);simp only[RV.val,hb]at hC hl1|-;refine aai.go func171 ntmps171 ?_;refine go2 fun _ _=>?_;refine cr hC fun _ _=>?_;refine go1 fun _=>?_;refine W.abg ?_;exact⟨(),trivial,rfl,rfl⟩
theorem Xj(T:List Nat)(w:World)(v:RV)(P:World->Prop)(k:Nat)(br:Int)(c:MS)(h:BD T w w [aA P])(hk:k<v.sn)(hx:0<=br/\(c.bases.length:Int)<=br)(hP:∀W,P W->Qk W v.sa (k*11) [.int .i64 c.thread,.slice c.ba c.bases.length c.bc,.slice c.ca c.conds.length c.cc,.int .i64 c.flag,.bool c.parked,.bool c.done,.int .i64 c.branch,.int .i64 c.v.kind,.int .i64 c.v.num,.slice c.v.addr c.v.parts.length c.v.cap,.int .i64 c.partner]):
  Calls prog 171 #[v.val,(k:Int),br] w fun en w'=>en= .returned (.tuple #[.agg #[(),(),(),(),(),(),True],(2:Int)])/\BD T w w' [aA P]:=by
 obtain⟨b,o,hb,hB⟩:=Px hP (h.still 0 rfl);have hC:=aam fun W=>PN v W k hk;have hl1:=aas fun W hW=>(hB W hW).2;have hk0:(0:Int)<=(k:Int):=by omega
 have hk1:(k:Int)<(v.sn:Int):=by omega
 refine aai.aaT (R:=xq (fun _:Unit=>True) (fun _=> .tuple #[.agg #[(),(),(),(),(),(),True],(2:Int)]) fun _=>[[aA P]]) h ?_ fun e w' Y ⟨x,hx,he,hY⟩ hl=>⟨he,by rw[hY]at hl;exact hl⟩;have d1:decide (br<0)=false:=decide_eq_false (by omega);have d2:decide ((c.bases.length:Int)<=br)=true:=decide_eq_true (by omega);simp only[RV.val,hb]at hC hl1|-;refine aai.go func171 ntmps171 ?_;refine go2 fun _ _=>?_;refine cr hC fun _ _=>?_;refine go1 fun _=>?_;refine W.abg ?_;exact⟨(),trivial,rfl,rfl⟩
theorem Xm(T:List Nat)(w:World)(v:RV)(P:World->Prop)(k:Nat)(was no:Int)(hno:no≠0)(t0:ai)(h:BD T w w [t0,aA P]){R1:RV->ai->Prop}(hl:∀T W,BD T W W [t0,aA P]->Calls prog 167 #[v.val,(k:Int)] W fun en w'=>∃(x:RV) (t:ai),en= .returned (.tuple #[x.val,was,no])/\R1 x t/\BD T W w' [t,aA P]):
  Calls prog 169 #[v.val,(k:Int)] w fun en w'=>∃(x:RV) (t:ai),en= .returned (.tuple #[x.val,false,no])/\R1 x t/\BD T w w' [t,aA P]:=by
 have hc':aai prog 167 #[v.val,(k:Int)] [[t0],[aA P]] (xq (fun x:RV×ai=>R1 x.1 x.2) (fun x=> .tuple #[x.1.val,was,no]) fun x=>[[x.2],[aA P]]):=fun T w hL=>(hl T w hL).mono fun e w' ⟨x,t,he,hR,hL'⟩=>⟨[[t],[aA P]],rfl,⟨(x,t),hR,he,rfl⟩,hL'⟩;have hg:aai prog 169 #[v.val,(k:Int)] [[t0],[aA P]] (xq (fun x:RV×ai=>R1 x.1 x.2) (fun x=> .tuple #[x.1.val,false,no]) fun x=>[[x.2],[aA P]]):=by
  have hn1:(no != 0)=true:=by simpa using hno
  simp only[RV.val]at hc'|-;refine aai.go func169 ntmps169 ?_;refine go2 fun _ _=>?_;refine cr hc' fun⟨x,t⟩ hR=>?_;refine go1 fun _=>?_;refine W.abg ?_;exact⟨(x,t),hR,rfl,rfl⟩
 exact(hg T w h).mono fun e w' ⟨Y,_,⟨x,hx,he,hY⟩,hl⟩=>⟨_,_,he,hx,by rw[hY]at hl;exact hl⟩
end Go.Proofs.YtddnnapoaonmjaaGreatDoor
