/-
  Texts of FirePlays, laid together by program.
-/
import Derived.Test.YtegejdlglonflaaGreatDoorWZ31
import Derived.Test.YtegejdlglonflaaGreatDoorWZ33
namespace Go.Proofs.YtegejdlglonflaaGreatDoor
open Go.RowKit Go.Shelf Go.Proofs.Tryz
set_option maxRecDepth 100000
set_option maxHeartbeats 8000000
set_option linter.unusedVariables false
set_option linter.unusedSimpArgs false
def Rh(xs:List Value)(o:Nat):List Value->List Value
 |[]=>xs
 |u::us=>Rh (xs.set o u) (o+1) us
def setCells(w:World)(g o:Nat):List Value->World
 |[]=>w
 |u::us=>setCells (w.setCell ⟨g,o,none⟩ u) g (o+1) us
theorem BD.Vt{T:List Nat}{w0 w:World}{l:List ai}(h:BD T w0 w l)(i:Nat){e size g n cap:Nat}{xs:List Value}(hi:l[i]? =some (aS e size (.slice (some ⟨g,0,none⟩) n cap) n xs))(o:Nat)(us:List Value):
  BD T w0 (setCells w g o us) (l.set i (aS e size (.slice (some ⟨g,0,none⟩) n cap) n (Rh xs o us))):=by
 induction us generalizing w l xs o with
 |nil=>
  have hl:=List.getElem?_eq_some_iff.1 hi;rw[show Rh xs o []=xs from rfl,<-hl.2,List.set_getElem_self];exact h
 |cons u us ih=>
  have h1:=ih (h.pI i hi o u) (xs:=xs.set o u) (by rw[List.getElem?_set_self (List.getElem?_eq_some_iff.1 hi).1]) (o+1);rw[List.set_set]at h1;exact h1
theorem VH(us:List Value)(xs:List Value)(o j:Nat)(hl:o+us.length<=xs.length):(Rh xs o us)[j]? =if o<=j/\j<o+us.length then us[j-o]? else xs[j]? :=by
 induction us generalizing xs o with
 |nil=>rw[if_neg (by simp)];rfl
 |cons u us ih=>
  simp only[List.length_cons]at hl|-;rw[Rh,ih _ _ (by rw[List.length_set];omega)];by_cases h1:o+1<=j/\j<o+1+us.length
  .rw[if_pos h1,if_pos (by omega),show j-o=(j-(o+1))+1 from by omega,List.getElem?_cons_succ]
  .rw[if_neg h1]
   by_cases h2:o=j
   .subst h2
    rw[if_pos (by omega),Nat.sub_self,List.getElem?_cons_zero,List.getElem?_set_self (by omega)]
   .rw[if_neg (by omega),List.getElem?_set_ne h2]
theorem SF{α:Type}(f:α->List Value)(m:Nat)(hm:0<m)(hf:∀a,(f a).length=m)(l:List α)(k:Nat)(hk:k<l.length)(x:α):Rh (l.flatMap f) (k*m) (f x)=(l.set k x).flatMap f:=by
 have hlen:=rW f m hf;have hkm:k*m+m<=l.length*m:=by rw[<-Nat.succ_mul];exact Nat.mul_le_mul_right _ hk
 refine List.ext_getElem? fun j=>?_;rw[VH _ _ _ _ (by rw[hlen,hf];omega),hf];by_cases hj:j<l.length*m
 .have hq:j / m<l.length:=Nat.div_lt_of_lt_mul (by rw[Nat.mul_comm];exact hj)
  have hr:j % m<m:=Nat.mod_lt _ hm;have hjj:j=j / m*m+j % m:=by rw[Nat.mul_comm];exact(Nat.div_add_mod j m).symm
  rw[hjj,rT f m hf (l.set k x) (j / m) (by rw[List.length_set];exact hq) _ hr];by_cases he:k=j / m
  .rw[if_pos (by rw[<-he];omega)]
   simp only[he,List.getElem_set_self];congr 1
   omega
  .rw[if_neg (fun hh=>he (by
    have h1:k*m<(j / m+1)*m:=by rw[Nat.succ_mul];omega
    have h2:j / m*m<(k+1)*m:=by rw[Nat.succ_mul];omega
    have :=Nat.lt_of_mul_lt_mul_right h1;have :=Nat.lt_of_mul_lt_mul_right h2;omega)),rT f m hf l (j / m) hq _ hr,List.getElem_set_ne he]
 .rw[if_neg (by omega),List.getElem?_eq_none (by rw[hlen];omega),List.getElem?_eq_none (by rw[hlen,List.length_set];omega)]
theorem Vq(T:List Nat)(w:World)(v:RV)(P:World->Prop)(cs:List Value)(k:Nat)(xc:Int)(xa:Option Addr)(xn xk:Nat)(ya:Option Addr)(yn yk:Nat)(h:BD T w w [aA P])(hP:∀W,P W->aG W v.ha 3 v.hn cs)(hcl:cs.length=v.hn*3)(hone:∀u∈cs,u.oneCell'=true)(hnn:v.hn<=100000)(hk:k<v.hn):
  Calls prog 225 #[v.val,(k:Int),.agg #[xc,.slice xa xn xk,.slice ya yn yk]] w fun e w'=>∃(a:Option Addr) (c:Nat),e= .returned ({v with ha:=a,hc:=c}:RV).val/\BD T w w' [aA fun W=>P W/\aG W a 3 v.hn (Rh cs (k*3) [.int .i64 xc,.slice xa xn xk,.slice ya yn yk])]:=by
 obtain⟨i0,hi0,CY,CU,CX⟩:=info_parts KD;have hb:∀W,(Instr.buildSlice 43 0 #[]).run prog W= .ok (.slice (some ⟨W.heap.size,0,none⟩) 0 0) (W.alloc (.cells #[] 185)):=fun W=>by kernel_rfl
 have HP:=hdq hP;have DW:=hdq hcl;have D8:=hdq hone;have CW:=hdq hnn;have HK:=hdq hk;have hk0:(0:Int)<=(k:Int):=by omega
 have hk1:(k:Int)<(v.hn:Int):=by omega
 have BG:=hdq h;clear h hP hcl hone hnn hk;simp only[RV.val];go_enter func225,ntmps225
 go_upto_region 1 with fail
 refine ay ?_;intro w1 hw1;have BB:=hdq (BG.o.UX hw1);simp only[nAq,cAq]at BB;generalize Yk:w.heap.size+1+1=b6 at BB|-;generalize Yq:w.heap.size+1=b5 at BB|-;generalize XB:w.heap.size=b3 at BB|-;clear hw1 Yk Yq XB BG;obtain⟨p0,p1,p2,p3,p4,p5,⟨RF,Ro,fp2,RD,Ru,Rz⟩,zp,_,_⟩:=BB.o.c6 1 rfl;have HL2:=hdq (BB.o.empty 185 3);simp only[nAq,cAq]at HL2;go_wp2_with (at_builtin;go_must (refine cB _ rfl (.tmp 7) (.tmp 9) 43 rfl 185 i0 _ 3 56 underlying43 hi0 CY CU CX rfl (by decide) (.slice (some ⟨w1.heap.size,0,none⟩) 0 0) 0 [] rfl (HL2.o.aZ 4 rfl) v.ha v.hn v.hc cs rfl DW.o (aG.iI (HP.o _ (HL2.o.still 0 rfl)) DW.o (by omega)) D8.o (by simp only[maxLen];have :=CW.o;omega) (by have :=CW.o;omega) ?_);intro a5 c5 w5 hown hgrow hat;refine Hid.o ?_)
 simp only[Nat.zero_add,nAq]at hown hat|-;have BF:=hdq (HL2.o.bG 4 rfl hgrow hown hat);simp only[sSq,sZq]at BF;have hf:=gD (BF.o.aZ 4 rfl) (by have :=HK.o;omega);obtain⟨g,cp,_,hga,_⟩:=hf;injection hga with hga _ hcp
 subst hga;subst hcp;clear hown hgrow hat BB HL2 p0 RF p1 Ro p2 fp2 p3 RD p4 Ru p5 Rz zp;refine hdq ?_;obtain⟨p0,p1,p2,p3,p4,p5,⟨RF,Ro,fp2,RD,Ru,Rz⟩,zp,_,_⟩:=BF.o.c6 1 rfl;go_upto_region 2 with fail
 refine ay ?_;intro w6 LM;have BH:=hdq ((BF.o.set 1 rfl 3 (.slice (some ⟨g,0,none⟩) v.hn c5)).toW LM);simp only[sSq,sZq,sAq]at BH;clear LM BF p0 RF p1 Ro p2 fp2 p3 RD p4 Ru p5 Rz zp;obtain⟨p0,p1,p2,p3,p4,p5,⟨RF,Ro,fp2,RD,Ru,Rz⟩,zp,_,_⟩:=BH.o.c6 1 rfl;have hbx:=BH.o.box 2 rfl;have x0:=hbx.cell 0;have x1:=hbx.cell 1;have x2:=hbx.cell 2;have zx:=hbx.lt;clear hbx;have hr:=BH.o.aZ 4 rfl;have HR:=hdq hr;clear hr;have y0:=eT HR.o (k*3) (by have :=DW.o;have :=HK.o;omega);have g0:=ji HR.o (k*3);have y1:=eT HR.o (k*3+1) (by have :=DW.o;have :=HK.o;omega);have g1:=ji HR.o (k*3+1);have y2:=eT HR.o (k*3+2) (by have :=DW.o;have :=HK.o;omega);have g2:=ji HR.o (k*3+2);go_upto_region 3 with fail
 refine ay ?_;intro w7 hw7;have Ca:=hdq ((BH.o.Vt 4 rfl (k*3) [.int .i64 xc,.slice xa xn xk,.slice ya yn yk]).toW hw7);simp only[sSq,sZq]at Ca;clear hw7 BH HR p0 RF p1 Ro p2 fp2 p3 RD p4 Ru p5 Rz zp zx x0 y0 g0 x1 y1 g1 x2 y2 g2;obtain⟨p0,p1,p2,p3,p4,p5,⟨RF,Ro,fp2,RD,Ru,Rz⟩,zp,_,_⟩:=Ca.o.c6 1 rfl;obtain⟨q0,q1,q2,q3,q4,q5,⟨KY,LF,Tj,SY,Tw,Ty⟩,zq,_,_⟩:=Ca.o.c6 3 rfl;have n1:=Ca.o.ne 1 3 rfl rfl (by decide);have n2:=Ne.symm n1;have Db:=hdq ((((((Ca.o.set 3 rfl 0 (.slice v.ca v.cn v.cc)).set 3 rfl 1 (.int .i64 v.most)).set 3 rfl 2 (.slice v.la v.ln v.lc)).set 3 rfl 3 (.slice (some ⟨g,0,none⟩) v.hn c5)).set 3 rfl 4 (.slice v.oa v.on v.oc)).set 3 rfl 5 (.slice v.sa v.sn v.sc));simp only[sSq,sZq,sAq]at Db;clear Ca;go_wp2;refine aP ?_;intro w8 hw8;have C8:=hdq (Db.o.toW hw8);clear hw8 Db p0 RF q0 KY p1 Ro q1 LF p2 fp2 q2 Tj p3 RD q3 SY p4 Ru q4 Tw p5 Rz q5 Ty;obtain⟨q0,q1,q2,q3,q4,q5,_,_,_,_⟩:=C8.o.c6 3 rfl;refine bodyPost_ret (v:= .agg #[.slice v.ca v.cn v.cc,v.most,.slice v.la v.ln v.lc,.slice (some ⟨g,0,none⟩) v.hn c5,.slice v.oa v.on v.oc,.slice v.sa v.sn v.sc]) (by simp[results,results225,go_sem,q0,q1,q2,q3,q4,q5]) rfl ?_;have h9:BD T w w8 [aA P,aS 185 3 (.slice (some ⟨g,0,none⟩) v.hn c5) v.hn (Rh cs (k*3) [.int .i64 xc,.slice xa xn xk,.slice ya yn yk])]:=C8.o.sel [0,4] rfl (by decide);exact⟨some ⟨g,0,none⟩,⟨c5,rfl⟩,h9.settle (l:=[_]) 0 rfl (fun W f Yl hf=>⟨Yl,mg hf.2 rfl (by decide) (by have :=CW.o;omega)⟩)⟩
theorem XT(T:List Nat)(w:World)(v:RV)(P:World->Prop)(cs:List Value)(k:Nat)(xc:Int)(xa:Option Addr)(xn xk:Nat)(h:BD T w w [aA P])(hP:∀W,P W->aG W v.oa 2 v.on cs)(hcl:cs.length=v.on*2)(hone:∀u∈cs,u.oneCell'=true)(hnn:v.on<=100000)(hk:k<v.on):
  Calls prog 186 #[v.val,(k:Int),.agg #[xc,.slice xa xn xk]] w fun e w'=>∃(a:Option Addr) (c:Nat),e= .returned ({v with oa:=a,oc:=c}:RV).val/\BD T w w' [aA fun W=>P W/\aG W a 2 v.on (Rh cs (k*2) [.int .i64 xc,.slice xa xn xk])]:=by
 obtain⟨i0,hi0,CY,CU,CX⟩:=info_parts Kr;have hb:∀W,(Instr.buildSlice 44 0 #[]).run prog W= .ok (.slice (some ⟨W.heap.size,0,none⟩) 0 0) (W.alloc (.cells #[] 38)):=fun W=>by kernel_rfl
 have HP:=hdq hP;have DW:=hdq hcl;have D8:=hdq hone;have CW:=hdq hnn;have HK:=hdq hk;have hk0:(0:Int)<=(k:Int):=by omega
 have hk1:(k:Int)<(v.on:Int):=by omega
 have BG:=hdq h;clear h hP hcl hone hnn hk;simp only[RV.val];go_enter func186,ntmps186
 go_upto_region 1 with fail
 refine ay ?_;intro w1 hw1;have BB:=hdq (BG.o.UX hw1);simp only[nAq,cAq]at BB;generalize Yk:w.heap.size+1+1=b6 at BB|-;generalize Yq:w.heap.size+1=b5 at BB|-;generalize XB:w.heap.size=b3 at BB|-;clear hw1 Yk Yq XB BG;obtain⟨p0,p1,p2,p3,p4,p5,⟨RF,Ro,fp2,RD,Ru,Rz⟩,zp,_,_⟩:=BB.o.c6 1 rfl;have HL2:=hdq (BB.o.empty 38 2);simp only[nAq,cAq]at HL2;go_wp2_with (at_builtin;go_must (refine cB _ rfl (.tmp 7) (.tmp 9) 44 rfl 38 i0 _ 2 32 underlying44 hi0 CY CU CX rfl (by decide) (.slice (some ⟨w1.heap.size,0,none⟩) 0 0) 0 [] rfl (HL2.o.aZ 4 rfl) v.oa v.on v.oc cs rfl DW.o (aG.iI (HP.o _ (HL2.o.still 0 rfl)) DW.o (by omega)) D8.o (by simp only[maxLen];have :=CW.o;omega) (by have :=CW.o;omega) ?_);intro a5 c5 w5 hown hgrow hat;refine Hid.o ?_)
 simp only[Nat.zero_add,nAq]at hown hat|-;have BF:=hdq (HL2.o.bG 4 rfl hgrow hown hat);simp only[sSq,sZq]at BF;have hf:=gD (BF.o.aZ 4 rfl) (by have :=HK.o;omega);obtain⟨g,cp,_,hga,_⟩:=hf;injection hga with hga _ hcp
 subst hga;subst hcp;clear hown hgrow hat BB HL2 p0 RF p1 Ro p2 fp2 p3 RD p4 Ru p5 Rz zp;refine hdq ?_;obtain⟨p0,p1,p2,p3,p4,p5,⟨RF,Ro,fp2,RD,Ru,Rz⟩,zp,_,_⟩:=BF.o.c6 1 rfl;go_upto_region 2 with fail
 refine ay ?_;intro w6 LM;have BH:=hdq ((BF.o.set 1 rfl 4 (.slice (some ⟨g,0,none⟩) v.on c5)).toW LM);simp only[sSq,sZq,sAq]at BH;clear LM BF p0 RF p1 Ro p2 fp2 p3 RD p4 Ru p5 Rz zp;obtain⟨p0,p1,p2,p3,p4,p5,⟨RF,Ro,fp2,RD,Ru,Rz⟩,zp,_,_⟩:=BH.o.c6 1 rfl;have hbx:=BH.o.box 2 rfl;have x0:=hbx.cell 0;have x1:=hbx.cell 1;have zx:=hbx.lt;clear hbx;have hr:=BH.o.aZ 4 rfl;have HR:=hdq hr;clear hr;have y0:=eT HR.o (k*2) (by have :=DW.o;have :=HK.o;omega);have g0:=ji HR.o (k*2);have y1:=eT HR.o (k*2+1) (by have :=DW.o;have :=HK.o;omega);have g1:=ji HR.o (k*2+1);go_upto_region 3 with fail
 refine ay ?_;intro w7 hw7;have Ca:=hdq ((BH.o.Vt 4 rfl (k*2) [.int .i64 xc,.slice xa xn xk]).toW hw7);simp only[sSq,sZq]at Ca;clear hw7 BH HR p0 RF p1 Ro p2 fp2 p3 RD p4 Ru p5 Rz zp zx x0 y0 g0 x1 y1 g1;obtain⟨p0,p1,p2,p3,p4,p5,⟨RF,Ro,fp2,RD,Ru,Rz⟩,zp,_,_⟩:=Ca.o.c6 1 rfl;obtain⟨q0,q1,q2,q3,q4,q5,⟨KY,LF,Tj,SY,Tw,Ty⟩,zq,_,_⟩:=Ca.o.c6 3 rfl;have n1:=Ca.o.ne 1 3 rfl rfl (by decide);have n2:=Ne.symm n1;have Db:=hdq ((((((Ca.o.set 3 rfl 0 (.slice v.ca v.cn v.cc)).set 3 rfl 1 (.int .i64 v.most)).set 3 rfl 2 (.slice v.la v.ln v.lc)).set 3 rfl 3 (.slice v.ha v.hn v.hc)).set 3 rfl 4 (.slice (some ⟨g,0,none⟩) v.on c5)).set 3 rfl 5 (.slice v.sa v.sn v.sc));simp only[sSq,sZq,sAq]at Db;clear Ca;go_wp2;refine aP ?_;intro w8 hw8;have C8:=hdq (Db.o.toW hw8);clear hw8 Db p0 RF q0 KY p1 Ro q1 LF p2 fp2 q2 Tj p3 RD q3 SY p4 Ru q4 Tw p5 Rz q5 Ty;obtain⟨q0,q1,q2,q3,q4,q5,_,_,_,_⟩:=C8.o.c6 3 rfl;refine bodyPost_ret (v:= .agg #[.slice v.ca v.cn v.cc,v.most,.slice v.la v.ln v.lc,.slice v.ha v.hn v.hc,.slice (some ⟨g,0,none⟩) v.on c5,.slice v.sa v.sn v.sc]) (by simp[results,results186,go_sem,q0,q1,q2,q3,q4,q5]) rfl ?_;have h9:BD T w w8 [aA P,aS 38 2 (.slice (some ⟨g,0,none⟩) v.on c5) v.on (Rh cs (k*2) [.int .i64 xc,.slice xa xn xk])]:=C8.o.sel [0,4] rfl (by decide);exact⟨some ⟨g,0,none⟩,⟨c5,rfl⟩,h9.settle (l:=[_]) 0 rfl (fun W f Yl hf=>⟨Yl,mg hf.2 rfl (by decide) (by have :=CW.o;omega)⟩)⟩
theorem Xr(T:List Nat)(w:World)(v:RV)(P:World->Prop)(cs:List Value)(k:Nat)(y:bL)(h:BD T w w [aA P])(hP:∀W,P W->aG W v.sa 11 v.sn cs)(hcl:cs.length=v.sn*11)(hone:∀u∈cs,u.oneCell'=true)(hnn:v.sn<=100000)(hk:k<v.sn):
  Calls prog 155 #[v.val,(k:Int),.agg #[y.thread,.slice y.jr y.gm y.jv,.slice y.ko y.kz y.jR,y.flag,y.parked,y.done,y.branch,y.kind,y.num,.slice y.lA y.lN y.lC,y.partner]] w fun e w'=>∃(a:Option Addr) (c:Nat),e= .returned ({v with sa:=a,sc:=c}:RV).val/\BD T w w' [aA fun W=>P W/\aG W a 11 v.sn (Rh cs (k*11) [.int .i64 y.thread,.slice y.jr y.gm y.jv,.slice y.ko y.kz y.jR,.int .i64 y.flag,.bool y.parked,.bool y.done,.int .i64 y.branch,.int .i64 y.kind,.int .i64 y.num,.slice y.lA y.lN y.lC,.int .i64 y.partner])]:=by
 obtain⟨i0,hi0,CY,CU,CX⟩:=info_parts mE;have hb:∀W,(Instr.buildSlice 45 0 #[]).run prog W= .ok (.slice (some ⟨W.heap.size,0,none⟩) 0 0) (W.alloc (.cells #[] 60)):=fun W=>by kernel_rfl
 have HP:=hdq hP;have DW:=hdq hcl;have D8:=hdq hone;have CW:=hdq hnn;have HK:=hdq hk;have hk0:(0:Int)<=(k:Int):=by omega
 have hk1:(k:Int)<(v.sn:Int):=by omega
 have BG:=hdq h;clear h hP hcl hone hnn hk;simp only[RV.val];go_enter func155,ntmps155
 go_upto_region 1 with fail
 refine ay ?_;intro w1 hw1;have BB:=hdq (BG.o.UX hw1);simp only[nAq,cAq]at BB;generalize Yk:w.heap.size+1+1=b6 at BB|-;generalize Yq:w.heap.size+1=b5 at BB|-;generalize XB:w.heap.size=b3 at BB|-;clear hw1 Yk Yq XB BG;obtain⟨p0,p1,p2,p3,p4,p5,⟨RF,Ro,fp2,RD,Ru,Rz⟩,zp,_,_⟩:=BB.o.c6 1 rfl;have HL2:=hdq (BB.o.empty 60 11);simp only[nAq,cAq]at HL2;go_wp2_with (at_builtin;go_must (refine cB _ rfl (.tmp 7) (.tmp 9) 45 rfl 60 i0 _ 11 128 underlying45 hi0 CY CU CX rfl (by decide) (.slice (some ⟨w1.heap.size,0,none⟩) 0 0) 0 [] rfl (HL2.o.aZ 4 rfl) v.sa v.sn v.sc cs rfl DW.o (aG.iI (HP.o _ (HL2.o.still 0 rfl)) DW.o (by omega)) D8.o (by simp only[maxLen];have :=CW.o;omega) (by have :=CW.o;omega) ?_);intro a5 c5 w5 hown hgrow hat;refine Hid.o ?_)
 simp only[Nat.zero_add,nAq]at hown hat|-;have BF:=hdq (HL2.o.bG 4 rfl hgrow hown hat);simp only[sSq,sZq]at BF;have hf:=gD (BF.o.aZ 4 rfl) (by have :=HK.o;omega);obtain⟨g,cp,_,hga,_⟩:=hf;injection hga with hga _ hcp
 subst hga;subst hcp;clear hown hgrow hat BB HL2 p0 RF p1 Ro p2 fp2 p3 RD p4 Ru p5 Rz zp;refine hdq ?_;obtain⟨p0,p1,p2,p3,p4,p5,⟨RF,Ro,fp2,RD,Ru,Rz⟩,zp,_,_⟩:=BF.o.c6 1 rfl;go_upto_region 2 with fail
 refine ay ?_;intro w6 LM;have BH:=hdq ((BF.o.set 1 rfl 5 (.slice (some ⟨g,0,none⟩) v.sn c5)).toW LM);simp only[sSq,sZq,sAq]at BH;clear LM BF p0 RF p1 Ro p2 fp2 p3 RD p4 Ru p5 Rz zp;obtain⟨p0,p1,p2,p3,p4,p5,⟨RF,Ro,fp2,RD,Ru,Rz⟩,zp,_,_⟩:=BH.o.c6 1 rfl;have hbx:=BH.o.box 2 rfl;have x0:=hbx.cell 0;have x1:=hbx.cell 1;have x2:=hbx.cell 2;have x3:=hbx.cell 3;have x4:=hbx.cell 4;have x5:=hbx.cell 5;have x6:=hbx.cell 6;have x7:=hbx.cell 7;have x8:=hbx.cell 8;have x9:=hbx.cell 9;have x10:=hbx.cell 10;have zx:=hbx.lt;clear hbx;have hr:=BH.o.aZ 4 rfl;have HR:=hdq hr;clear hr;have y0:=eT HR.o (k*11) (by have :=DW.o;have :=HK.o;omega);have g0:=ji HR.o (k*11);have y1:=eT HR.o (k*11+1) (by have :=DW.o;have :=HK.o;omega);have g1:=ji HR.o (k*11+1);have y2:=eT HR.o (k*11+2) (by have :=DW.o;have :=HK.o;omega);have g2:=ji HR.o (k*11+2);have y3:=eT HR.o (k*11+3) (by have :=DW.o;have :=HK.o;omega);have g3:=ji HR.o (k*11+3);have y4:=eT HR.o (k*11+4) (by have :=DW.o;have :=HK.o;omega);have g4:=ji HR.o (k*11+4);have y5:=eT HR.o (k*11+5) (by have :=DW.o;have :=HK.o;omega);have g5:=ji HR.o (k*11+5);have y6:=eT HR.o (k*11+6) (by have :=DW.o;have :=HK.o;omega);have g6:=ji HR.o (k*11+6);have y7:=eT HR.o (k*11+7) (by have :=DW.o;have :=HK.o;omega);have g7:=ji HR.o (k*11+7);have y8:=eT HR.o (k*11+8) (by have :=DW.o;have :=HK.o;omega);have g8:=ji HR.o (k*11+8);have y9:=eT HR.o (k*11+9) (by have :=DW.o;have :=HK.o;omega);have g9:=ji HR.o (k*11+9);have YO:=eT HR.o (k*11+10) (by have :=DW.o;have :=HK.o;omega);have g10:=ji HR.o (k*11+10);go_upto_region 3 with fail
 refine ay ?_;intro w7 hw7;have Ca:=hdq ((BH.o.Vt 4 rfl (k*11) [.int .i64 y.thread,.slice y.jr y.gm y.jv,.slice y.ko y.kz y.jR,.int .i64 y.flag,.bool y.parked,.bool y.done,.int .i64 y.branch,.int .i64 y.kind,.int .i64 y.num,.slice y.lA y.lN y.lC,.int .i64 y.partner]).toW hw7);simp only[sSq,sZq]at Ca;clear hw7 BH HR p0 RF p1 Ro p2 fp2 p3 RD p4 Ru p5 Rz zp zx x0 y0 g0 x1 y1 g1 x2 y2 g2 x3 y3 g3 x4 y4 g4 x5 y5 g5 x6 y6 g6 x7 y7 g7 x8 y8 g8 x9 y9 g9 x10 YO g10;obtain⟨p0,p1,p2,p3,p4,p5,⟨RF,Ro,fp2,RD,Ru,Rz⟩,zp,_,_⟩:=Ca.o.c6 1 rfl;obtain⟨q0,q1,q2,q3,q4,q5,⟨KY,LF,Tj,SY,Tw,Ty⟩,zq,_,_⟩:=Ca.o.c6 3 rfl;have n1:=Ca.o.ne 1 3 rfl rfl (by decide);have n2:=Ne.symm n1;have Db:=hdq ((((((Ca.o.set 3 rfl 0 (.slice v.ca v.cn v.cc)).set 3 rfl 1 (.int .i64 v.most)).set 3 rfl 2 (.slice v.la v.ln v.lc)).set 3 rfl 3 (.slice v.ha v.hn v.hc)).set 3 rfl 4 (.slice v.oa v.on v.oc)).set 3 rfl 5 (.slice (some ⟨g,0,none⟩) v.sn c5));simp only[sSq,sZq,sAq]at Db;clear Ca;go_wp2;refine aP ?_;intro w8 hw8;have C8:=hdq (Db.o.toW hw8);clear hw8 Db p0 RF q0 KY p1 Ro q1 LF p2 fp2 q2 Tj p3 RD q3 SY p4 Ru q4 Tw p5 Rz q5 Ty;obtain⟨q0,q1,q2,q3,q4,q5,_,_,_,_⟩:=C8.o.c6 3 rfl;refine bodyPost_ret (v:= .agg #[.slice v.ca v.cn v.cc,v.most,.slice v.la v.ln v.lc,.slice v.ha v.hn v.hc,.slice v.oa v.on v.oc,.slice (some ⟨g,0,none⟩) v.sn c5]) (by simp[results,results155,go_sem,q0,q1,q2,q3,q4,q5]) rfl ?_;have h9:BD T w w8 [aA P,aS 60 11 (.slice (some ⟨g,0,none⟩) v.sn c5) v.sn (Rh cs (k*11) [.int .i64 y.thread,.slice y.jr y.gm y.jv,.slice y.ko y.kz y.jR,.int .i64 y.flag,.bool y.parked,.bool y.done,.int .i64 y.branch,.int .i64 y.kind,.int .i64 y.num,.slice y.lA y.lN y.lC,.int .i64 y.partner])]:=C8.o.sel [0,4] rfl (by decide);exact⟨some ⟨g,0,none⟩,⟨c5,rfl⟩,h9.settle (l:=[_]) 0 rfl (fun W f Yl hf=>⟨Yl,mg hf.2 rfl (by decide) (by have :=CW.o;omega)⟩)⟩
structure Rb where
 cell:Nat
 a1:Option Addr
 k1:Nat
 es1:List ME
 a2:Option Addr
 k2:Nat
 es2:List ME
def Rb.cells(c:Rb):List Value:=[.int .i64 (c.cell:Int),.slice c.a1 c.es1.length c.k1,.slice c.a2 c.es2.length c.k2]
def Rb.pl(c:Rb):Int×List PE×List PE:=((c.cell:Int),c.es1.map ME.plain,c.es2.map ME.plain)
structure RH where
 cell:Nat
 a:Option Addr
 k:Nat
 es:List ME
def RH.cells(c:RH):List Value:=[.int .i64 (c.cell:Int),.slice c.a c.es.length c.k]
def RH.pl(c:RH):Int×Int×List PE:=((c.cell:Int),(c.cell:Int)+1,c.es.map ME.plain)
def T9(W:World)(a:Option Addr)(k:Nat)(es:List ME):Prop:=es.length<=k/\fo W a es/\∀e∈es,e.v.In W/\e.v.nodes<=256
structure RW where
 v:RV
 s:Ar
 BI:List Rb
 cos:List RH
 sys:List MS
def RW.th(r:RW)(L:PL):ai:=Pt L (.slice r.v.ca r.v.cn r.v.cc) (.slice r.v.la r.v.ln r.v.lc) r.s
structure RW.On(r:RW)(W:World):Prop where
 h:aG W r.v.ha 3 r.v.hn (r.BI.flatMap Rb.cells)
 o:aG W r.v.oa 2 r.v.on (r.cos.flatMap RH.cells)
 n:aG W r.v.sa 11 r.v.sn (r.sys.flatMap MS.cells)
 ch:∀c∈r.BI,T9 W c.a1 c.k1 c.es1/\T9 W c.a2 c.k2 c.es2
 co:∀c∈r.cos,T9 W c.a c.k c.es
 sy:∀m∈r.sys,m.In W
structure RW.Fits(r:RW):Prop where
 m:r.v.most=(r.s.most:Int)
 h:r.v.hn=r.BI.length
 o:r.v.on=r.cos.length
 n:r.v.sn=r.sys.length
structure Rel(x:WS)(ms:List MS)(r:RW):Prop where
 s:x.s=r.s
 h:x.BI.map Ce.pl=r.BI.map Rb.pl
 o:x.cos.map Ch.pl=r.cos.map RH.pl
 n:ms.map MS.plain=r.sys.map MS.plain
theorem Uw(c:Rb):c.cells.length=3:=rfl
theorem UE(c:RH):c.cells.length=2:=rfl
theorem Vv(m:MS):m.cells.length=11:=rfl
theorem RW.Fits.hc{r:RW}(h:r.Fits):(r.BI.flatMap Rb.cells).length=r.v.hn*3:=by rw[rW _ 3 Uw,h.h]
theorem RW.Fits.oc{r:RW}(h:r.Fits):(r.cos.flatMap RH.cells).length=r.v.on*2:=by rw[rW _ 2 UE,h.o]
theorem RW.Fits.nc{r:RW}(h:r.Fits):(r.sys.flatMap MS.cells).length=r.v.sn*11:=by rw[rW _ 11 Vv,h.n]
theorem Sj{α:Type}(f:α->List Value)(hf:∀a,∀u∈f a,u.oneCell'=true)(l:List α):∀u∈l.flatMap f,u.oneCell'=true:=fun u hu=>by
 obtain⟨a,_,hu⟩:=List.mem_flatMap.1 hu;exact hf a u hu
theorem V3(c:Rb):∀u∈c.cells,u.oneCell'=true:=by simp[Rb.cells,Value.oneCell']
theorem VY(c:RH):∀u∈c.cells,u.oneCell'=true:=by simp[RH.cells,Value.oneCell']
theorem WS.Yh(x:WS):(x.ts).Perm (aA x.P::x.rest):=by
 have e:x.ts=[x.h0,arena x.ga x.s,aA x.P]++([aS 193 1 (.slice x.a1 x.BI.length x.c1) x.BI.length (bP x.BI),aS 158 1 (.slice x.a2 x.cos.length x.c2) x.cos.length (bK x.cos),aS 60 11 (.slice x.a3 x.sys.length x.c3) x.sys.length (aU x.sys)]++(x.BI.flatMap Ce.ts++x.cos.flatMap Ch.ts)):=rfl;have er:x.rest=[x.h0,arena x.ga x.s]++([aS 193 1 (.slice x.a1 x.BI.length x.c1) x.BI.length (bP x.BI),aS 158 1 (.slice x.a2 x.cos.length x.c2) x.cos.length (bK x.cos),aS 60 11 (.slice x.a3 x.sys.length x.c3) x.sys.length (aU x.sys)]++(x.BI.flatMap Ce.ts++x.cos.flatMap Ch.ts)):=rfl;rw[e,er];simp only[cAq,nAq];exact List.Perm.trans (List.Perm.cons _ (List.Perm.swap _ _ _)) (List.Perm.swap _ _ _)
theorem RS{f:FuncId}{args:Array Value}{x:WS}{r:RW}{L:PL}(R:Ending->RW->(World->Prop)->Prop)(h:∀T w,BD T w w [r.th L,aA x.P]->Calls prog f args w fun e w'=>∃(r':RW) (L':PL) (Q:World->Prop),(∀y∈L,y∈L')/\R e r' Q/\(∀W,Q W->x.P W)/\BD T w w' [r'.th L',aA Q]):
  Does f args (x.ts++[r.th L]) fun e m'=>∃(r':RW) (L':PL) (Q:World->Prop),(∀y∈L,y∈L')/\R e r' Q/\(∀W,Q W->x.P W)/\m'=({x with P:=Q}:WS).ts++[r'.th L']:=by
 intro T w hL;have hp:(x.ts++[r.th L]).Perm ([r.th L,aA x.P]++x.rest):=by
  refine List.perm_append_comm.trans ?_;exact x.Yh.cons _
 have h2:=BD.perm hp [] (by simpa using hL);simp only[nAq]at h2;obtain⟨T',hF,hb⟩:=h2.aN;refine(h T' w hF).mono ?_;rintro e w' ⟨r',L',Q,Qy,hR,hQ,hL'⟩;refine⟨_,⟨r',L',Q,Qy,hR,hQ,rfl⟩,?_⟩;have h3:=hb _ _ hL';have hp2:([r'.th L',aA Q]++x.rest).Perm (({x with P:=Q}:WS).ts++[r'.th L']):=by
  refine List.Perm.trans ?_ List.perm_append_comm;exact(({x with P:=Q}:WS).Yh.symm).cons _
 have h4:=BD.perm hp2 [] (by simpa using h3);simpa using h4
def Ar.val(s:Ar)(c:Int):Nat:=s.C.getD c.toNat 0
structure abN(s s':Ar)(a:Int)(v:Nat):Prop where
 c:s'.C.length=s.C.length
 m:s'.most=s.most
 l:s'.L.length<=s.L.length+1
 v:s'.val a=v
 o:∀c,0<=c->c≠a->s'.val c=s.val c
theorem abN.refl(s:Ar)(a:Int):abN s s a (s.val a):=⟨rfl,rfl,by omega,rfl,fun _ _ _=>rfl⟩
theorem adv(s:Ar)(op:Nat)(a:Int)(D9:Nat->Nat×Bool)(h:0<=a/\a<(s.C.length:Int)):abN s (s.iw op a D9).1 a (if(D9 (s.val a)).2 then(D9 (s.val a)).1 else s.val a)/\(s.iw op a D9).2.1.old=s.val a/\(s.iw op a D9).2.1.did=(D9 (s.val a)).2/\(s.iw op a D9).2.2=0:=by
 unfold Ar.iw;rw[if_pos h];refine⟨⟨by simp[Ar.acc],rfl,by simp[Ar.acc],?_,fun c hc hca=>?_⟩,rfl,rfl,rfl⟩
 .have :a.toNat<s.C.length:=by omega
  simp[Ar.val,Ar.acc,List.getD_eq_getElem?_getD,List.getElem?_set_self this]
 .have :a.toNat≠c.toNat:=by omega
  simp[Ar.val,Ar.acc,List.getD_eq_getElem?_getD,List.getElem?_set_ne this]
section
variable {x:WS} {n:Nat}
theorem ahI(h:n<x.BI.length)(hr:0<=x.BI[n].cell/\x.BI[n].cell<(x.s.C.length:Int)):abN x.s (x.fQ n).2.2 x.BI[n].cell (if x.s.val x.BI[n].cell=0 then 1 else x.s.val x.BI[n].cell):=by
 obtain⟨h1,h2,h3,h4⟩:=adv x.s 3 _ (eH 0 1) hr;have e:(x.fQ n).2.2=(x.s.iw 3 x.BI[n].cell (eH 0 1)).1:=by
  unfold WS.fQ;rw[gI h];simp only[Option.map_some,rB,dM,Ar.swap,h4,if_true]
 rw[e];simpa[eH]using h1
theorem agK(h:n<x.BI.length)(hr:0<=x.BI[n].cell/\x.BI[n].cell<(x.s.C.length:Int)):∃v,abN x.s (x.eF n).2 x.BI[n].cell v:=by
 obtain⟨h1,h2,h3,h4⟩:=adv x.s 3 _ (eH 1 0) hr;have e:(x.eF n).2=(x.s.iw 3 x.BI[n].cell (eH 1 0)).1:=by
  unfold WS.eF;rw[gI h];rfl
 rw[e];exact⟨_,h1⟩
theorem aeP(h:n<x.cos.length)(hr:0<=x.cos[n].a/\x.cos[n].a<(x.s.C.length:Int)):(x.cK n).1=(x.s.val x.cos[n].a==0)/\(x.cK n).2.1=0/\abN x.s (x.cK n).2.2 x.cos[n].a (if x.s.val x.cos[n].a=0 then 1 else x.s.val x.cos[n].a):=by
 obtain⟨h1,h2,h3,h4⟩:=adv x.s 3 _ (eH 0 1) hr;have e:x.cK n=((x.s.iw 3 x.cos[n].a (eH 0 1)).2.1.did,0,(x.s.iw 3 x.cos[n].a (eH 0 1)).1):=by
  unfold WS.cK;rw[gI h];simp only[Option.map_some,rB,dM,Ar.swap,h4,if_true]
 rw[e];exact⟨h3,rfl,by simpa[eH]using h1⟩
theorem afj(h:n<x.cos.length)(hr:0<=x.cos[n].a/\x.cos[n].a<(x.s.C.length:Int))(h1:x.s.val x.cos[n].a=1):(x.bZ n).1=0/\abN x.s (x.bZ n).2 x.cos[n].a 0:=by
 obtain⟨h5,h2,h3,h4⟩:=adv x.s 3 _ (eH 1 0) hr;have e:x.bZ n=((x.s.wH x.cos[n].a:Int),(x.s.iw 3 x.cos[n].a (eH 1 0)).1):=by
  unfold WS.bZ;rw[gI h];rfl
 rw[e];refine⟨?_,by simpa[eH,h1]using h5⟩;simp[Ar.wH,Ar.swap,h4,h3,eH,h1]
theorem afP(h:n<x.cos.length)(hr:0<=x.cos[n].f/\x.cos[n].f<(x.s.C.length:Int)):(x.eY n).1=decide (x.s.val x.cos[n].f≠0)/\(x.eY n).2.1=0/\abN x.s (x.eY n).2.2 x.cos[n].f (x.s.val x.cos[n].f):=by
 obtain⟨h1,h2,h3,h4⟩:=adv x.s 1 _ j6 hr;have e:x.eY n=(decide ((x.s.iw 1 x.cos[n].f j6).2.1.old≠0),0,(x.s.iw 1 x.cos[n].f j6).1):=by
  unfold WS.eY;rw[gI h];simp only[Option.map_some,rB,fH,Ar.load,h4,if_true,decide_true,Bool.true_and];rfl
 rw[e];exact⟨by rw[h2],rfl,by simpa[j6]using h1⟩
theorem agl(h:n<x.cos.length)(hr:0<=x.cos[n].f/\x.cos[n].f<(x.s.C.length:Int)):(x.s.val x.cos[n].f=0->(x.ja n).1=0)/\abN x.s (x.ja n).2 x.cos[n].f (if x.s.val x.cos[n].f=0 then 1 else x.s.val x.cos[n].f):=by
 obtain⟨h1,h2,h3,h4⟩:=adv x.s 3 _ (eH 0 1) hr;have e:(x.ja n).2=(x.s.iw 3 x.cos[n].f (eH 0 1)).1:=by
  unfold WS.ja;rw[gI h];rfl
 refine⟨fun h0=>?_,by rw[e];simpa[eH]using h1⟩;unfold WS.ja;rw[gI h];simp[rE,iA,Ar.swap,h4,h3,eH,h0]
theorem afq(h:n<x.sys.length)(hr:0<=x.sys[n].flag/\x.sys[n].flag<(x.s.C.length:Int))(h2:x.s.val x.sys[n].flag<=2):(x.gL n).1=(x.s.val x.sys[n].flag:Int)/\(x.gL n).2.1=0/\abN x.s (x.gL n).2.2 x.sys[n].flag (if x.s.val x.sys[n].flag=0 then 2 else x.s.val x.sys[n].flag):=by
 obtain⟨h1,h3,h4,h5⟩:=adv x.s 3 _ (eH 0 2) hr;have e:x.gL n=((x.s.val x.sys[n].flag:Int),0,(x.s.iw 3 x.sys[n].flag (eH 0 2)).1):=by
  unfold WS.gL;rw[gI h];have :¬2<x.s.val x.sys[n].flag:=by omega
  simp[rF,eu,Ar.swap,h3,h5,bE,this]
 rw[e];exact⟨rfl,rfl,by simpa[eH]using h1⟩
theorem ahl(h:n<x.sys.length)(hr:0<=x.sys[n].flag/\x.sys[n].flag<(x.s.C.length:Int))(h2:x.s.val x.sys[n].flag<=2):abN x.s (x.fK n).2.2 x.sys[n].flag (if x.s.val x.sys[n].flag=0 then 1 else x.s.val x.sys[n].flag):=by
 obtain⟨h1,h3,h4,h5⟩:=adv x.s 3 _ (eH 0 1) hr;have e:(x.fK n).2.2=(x.s.iw 3 x.sys[n].flag (eH 0 1)).1:=by
  unfold WS.fK;rw[gI h];have :¬2<x.s.val x.sys[n].flag:=by omega
  simp[rF,eu,Ar.swap,h3,h5,bE,this]
 rw[e];simpa[eH]using h1
theorem agi(h:n<x.sys.length)(hr:0<=x.sys[n].flag/\x.sys[n].flag<(x.s.C.length:Int))(h2:x.s.val x.sys[n].flag<=2):(x.iH n).1=(x.s.val x.sys[n].flag:Int)/\(x.iH n).2.1=0/\abN x.s (x.iH n).2.2 x.sys[n].flag (x.s.val x.sys[n].flag):=by
 obtain⟨h1,h3,h4,h5⟩:=adv x.s 1 _ j6 hr;have e:x.iH n=((x.s.val x.sys[n].flag:Int),0,(x.s.iw 1 x.sys[n].flag j6).1):=by
  unfold WS.iH;rw[gI h];have :¬2<x.s.val x.sys[n].flag:=by omega
  simp[rF,fT,Ar.load,h3,h5,bE,this]
 rw[e];exact⟨rfl,rfl,by simpa[j6]using h1⟩
theorem af4(h:n<x.sys.length)(hr:0<=x.sys[n].flag/\x.sys[n].flag<(x.s.C.length:Int)):abN x.s (x.dX n).2 x.sys[n].flag 0:=by
 obtain⟨h1,h3,h4,h5⟩:=adv x.s 2 _ (jK 0) hr;have e:(x.dX n).2=(x.s.iw 2 x.sys[n].flag (jK 0)).1:=by
  unfold WS.dX;rw[gI h];rfl
 rw[e];simpa[jK]using h1
end
inductive pE where
 |ch (n:Nat)
 |ca (n:Nat)
 |cf (n:Nat)
 |fl (n:Nat)
def adQ(own:Int->pE)(s:Ar)(c:Int)(o:pE):Prop:=own c=o/\0<=c/\c<(s.C.length:Int)
structure o5(own:Int->pE)(cl:Bool)(cd:Int)(la lf b:Nat)(x:WS)(ms:List MS):Prop where
 sys:x.sys=ms.map MS.raw
 ch:∀n (h:n<x.BI.length),adQ own x.s x.BI[n].cell (.ch n)
 ca:∀n (h:n<x.cos.length),adQ own x.s x.cos[n].a (.ca n)
 cf:∀n (h:n<x.cos.length),adQ own x.s x.cos[n].f (.cf n)
 sf:∀n (h:n<ms.length),adQ own x.s ms[n].flag (.fl n)
 lk:∀n (h:n<x.cos.length),(n:Int)=cd->x.s.val x.cos[n].a=la
 fr:∀n (h:n<x.cos.length),(n:Int)=cd->x.s.val x.cos[n].f=lf
 f2:∀n (h:n<ms.length),x.s.val ms[n].flag<=2
 fd:∀n (h:n<ms.length),ms[n].done=true↔x.s.val ms[n].flag=2
 fc:cl=false->∀n (h:n<ms.length),x.s.val ms[n].flag≠1
 en:∀n (h:n<x.cos.length),∀e∈x.cos[n].es,∃(k:Nat) (hk:k<ms.length),e.sync=(k:Int)/\0<=e.branch/\e.branch<(ms[k].bases.length:Int)
 q:∀n (h:n<x.cos.length),x.cos[n].es.length<=b
 lg:x.s.L.length<=4*b
section
variable {own:Int->pE} {cl:Bool} {cd:Int} {la lf b:Nat} {x:WS} {ms:List MS} {s':Ar} {a:Int} {v:Nat}
theorem adQ.tn{c:Int}{o:pE}(h:adQ own x.s c o)(t:abN x.s s' a v):adQ own s' c o:=⟨h.1,h.2.1,by rw[t.c];exact h.2.2⟩
theorem abN.other{s:Ar}{c:Int}{o:pE}(t:abN s s' a v)(h:adQ own s c o)(ho:own a≠o):s'.val c=s.val c:=t.o c h.2.1 (fun e=>ho (e▸h.1))
theorem o5.tnC(h:o5 own cl cd la lf b x ms)(t:abN x.s s' a v)(h1:∀n,own a≠ .ca n)(h2:∀n,own a≠ .fl n)(h3:∀n:Nat,(n:Int)=cd->own a≠ .cf n){k:Nat}(hk:b+1<=k):o5 own cl cd la lf k (x.ar s') ms where
 sys:=h.sys
 ch n hn:=(h.ch n hn).tn t
 ca n hn:=(h.ca n hn).tn t
 cf n hn:=(h.cf n hn).tn t
 sf n hn:=(h.sf n hn).tn t
 lk n hn e:=(t.other (h.ca n hn) (h1 n)).trans (h.lk n hn e)
 fr n hn e:=(t.other (h.cf n hn) (h3 n e)).trans (h.fr n hn e)
 f2 n hn:=by have :=t.other (h.sf n hn) (h2 n);show s'.val _<=2;rw[this];exact h.f2 n hn
 fd n hn:=by have :=t.other (h.sf n hn) (h2 n);show _↔s'.val _=2;rw[this];exact h.fd n hn
 fc hc n hn:=by have :=t.other (h.sf n hn) (h2 n);show s'.val _≠1;rw[this];exact h.fc hc n hn
 en:=h.en
 q n hn:=Nat.le_trans (h.q n hn) (by omega)
 lg:=by have :=t.l;have :=h.lg;show s'.L.length<=_;omega
theorem o5.tnF(h:o5 own cl cd la lf b x ms)(n:Nat)(hn:n<ms.length)(ha:ms[n].flag=a)(t:abN x.s s' a v)(hv:v<=2/\(v=2↔x.s.val a=2)/\(cl=false->v≠1)){k:Nat}(hk:b+1<=k):o5 own cl cd la lf k (x.ar s') ms:=by
 have hs:=h.sf n hn;rw[ha]at hs;have key:∀m (hm:m<ms.length),(m=n/\s'.val ms[m].flag=v)\/(m≠n/\s'.val ms[m].flag=x.s.val ms[m].flag):=fun m hm=>by
  by_cases hmn:m=n
  .subst hmn;exact .inl ⟨rfl,by rw[ha];exact t.v⟩
  .exact .inr ⟨hmn,t.other (h.sf m hm) (by rw[hs.1];intro e;injection e with e;exact hmn e.symm)⟩
 have hkn:∀m,own a≠ .ca m:=fun m=>by rw[hs.1];exact fun e=>by cases e
 have hkf:∀m,own a≠ .cf m:=fun m=>by rw[hs.1];exact fun e=>by cases e
 refine⟨h.sys,fun n hn=>(h.ch n hn).tn t,fun n hn=>(h.ca n hn).tn t,fun n hn=>(h.cf n hn).tn t,fun n hn=>(h.sf n hn).tn t,fun n hn e=>(t.other (h.ca n hn) (hkn n)).trans (h.lk n hn e),fun n hn e=>(t.other (h.cf n hn) (hkf n)).trans (h.fr n hn e),fun m hm=>?_,fun m hm=>?_,fun hc m hm=>?_,h.en,fun n hn=>Nat.le_trans (h.q n hn) (by omega),?_⟩
 .show s'.val _<=2
  rcases key m hm with ⟨_,e⟩|⟨_,e⟩<;>rw[e]
  .exact hv.1
  .exact h.f2 m hm
 .show _↔s'.val _=2
  rcases key m hm with ⟨rfl,e⟩|⟨_,e⟩<;>rw[e]
  .rw[hv.2.1,<-ha];exact h.fd m hm
  .exact h.fd m hm
 .show s'.val _≠1
  rcases key m hm with ⟨_,e⟩|⟨_,e⟩<;>rw[e]
  .exact hv.2.2 hc
  .exact h.fc hc m hm
 .have :=t.l;have :=h.lg;show s'.L.length<=_;omega
theorem o5.more(h:o5 own cl cd la lf b x ms){k:Nat}(hk:b<=k):o5 own cl cd la lf k x ms:=
 ⟨h.sys,h.ch,h.ca,h.cf,h.sf,h.lk,h.fr,h.f2,h.fd,h.fc,h.en,fun n hn=>Nat.le_trans (h.q n hn) hk,by have :=h.lg;omega⟩
theorem o5.know(h:o5 own cl cd la lf b x ms)(P:World->Prop):o5 own cl cd la lf b {x with P:=P} ms:=⟨h.sys,h.ch,h.ca,h.cf,h.sf,h.lk,h.fr,h.f2,h.fd,h.fc,h.en,h.q,h.lg⟩
theorem o5.oQ(h:o5 own cl cd la lf b x ms)(n:Nat)(hn:n<x.BI.length)(y:Ce)(hy:y.cell=x.BI[n].cell)(P:World->Prop):o5 own cl cd la lf b (x.oQ n y P) ms:=by
 refine⟨h.sys,fun m hm=>?_,h.ca,h.cf,h.sf,h.lk,h.fr,h.f2,h.fd,h.fc,h.en,h.q,h.lg⟩;have hm':m<x.BI.length:=by simpa[WS.oQ]using hm
 have e:(x.oQ n y P).BI[m].cell=x.BI[m].cell:=by
  simp only[WS.oQ,List.getElem_set];split
  .rename_i hnm;subst hnm;exact hy
  .rfl
 rw[e];exact h.ch m hm'
theorem o5.jM(h:o5 own cl cd la lf b x ms)(n:Nat)(hn:n<x.cos.length)(y:Ch)(hy:y.a=x.cos[n].a/\y.f=x.cos[n].f)(P:World->Prop){k:Nat}(hk:b<=k)(hq:y.es.length<=k)(he:∀e∈y.es,∃(k:Nat) (hk:k<ms.length),e.sync=(k:Int)/\0<=e.branch/\e.branch<(ms[k].bases.length:Int)):o5 own cl cd la lf k (x.jM n y P) ms:=by
 have e:∀m (hm:m<(x.jM n y P).cos.length),∃hm':m<x.cos.length,(x.jM n y P).cos[m].a=x.cos[m].a/\(x.jM n y P).cos[m].f=x.cos[m].f/\((x.jM n y P).cos[m].es=y.es\/(x.jM n y P).cos[m].es=x.cos[m].es):=fun m hm=>by
  have hm':m<x.cos.length:=by simpa[WS.jM]using hm
  refine⟨hm',?_⟩;simp only[WS.jM,List.getElem_set];split
  .rename_i hnm;subst hnm;exact⟨hy.1,hy.2,.inl rfl⟩
  .exact⟨rfl,rfl,.inr rfl⟩
 refine⟨h.sys,h.ch,fun m hm=>?_,fun m hm=>?_,h.sf,fun m hm=>?_,fun m hm=>?_,h.f2,h.fd,h.fc,fun m hm=>?_,fun m hm=>?_,?_⟩
 .obtain⟨hm',h1,h2,h3⟩:=e m hm;rw[h1];exact h.ca m hm'
 .obtain⟨hm',h1,h2,h3⟩:=e m hm;rw[h2];exact h.cf m hm'
 .obtain⟨hm',h1,h2,h3⟩:=e m hm;rw[h1];exact h.lk m hm'
 .obtain⟨hm',h1,h2,h3⟩:=e m hm;rw[h2];exact h.fr m hm'
 .obtain⟨hm',h1,h2,h3⟩:=e m hm
  rcases h3 with h3|h3<;>rw[h3]
  .exact he
  .exact h.en m hm'
 .obtain⟨hm',h1,h2,h3⟩:=e m hm
  rcases h3 with h3|h3<;>rw[h3]
  .exact hq
  .exact Nat.le_trans (h.q m hm') hk
 .have :=h.lg;show x.s.L.length<=_;omega
theorem o5.eP(h:o5 own cl cd la lf b x ms)(n:Nat)(hn:n<ms.length)(m:MS)(h1:m.flag=ms[n].flag)(h2:m.done=ms[n].done)(h3:m.bases.length=ms[n].bases.length):o5 own cl cd la lf b (x.eP n m.raw) (ms.set n m):=by
 have e:∀k (hk:k<(ms.set n m).length),∃hk':k<ms.length,(ms.set n m)[k].flag=ms[k].flag/\(ms.set n m)[k].done=ms[k].done/\(ms.set n m)[k].bases.length=ms[k].bases.length:=fun k hk=>by
  have hk':k<ms.length:=by simpa using hk
  refine⟨hk',?_⟩;simp only[List.getElem_set];split
  .rename_i hnm;subst hnm;exact⟨h1,h2,h3⟩
  .exact⟨rfl,rfl,rfl⟩
 refine⟨by simp only[WS.eP,h.sys,List.map_set],h.ch,h.ca,h.cf,fun k hk=>?_,h.lk,h.fr,fun k hk=>?_,fun k hk=>?_,fun hc k hk=>?_,fun k hk e' he=>?_,h.q,h.lg⟩
 .obtain⟨hk',e1,e2,e3⟩:=e k hk;rw[e1];exact h.sf k hk'
 .obtain⟨hk',e1,e2,e3⟩:=e k hk;rw[e1];exact h.f2 k hk'
 .obtain⟨hk',e1,e2,e3⟩:=e k hk;rw[e1,e2];exact h.fd k hk'
 .obtain⟨hk',e1,e2,e3⟩:=e k hk;rw[e1];exact h.fc hc k hk'
 .obtain⟨j,hj,a1,a2,a3⟩:=h.en k hk e' he
  have hj':j<(ms.set n m).length:=by simpa using hj
  obtain⟨_,e1,e2,e3⟩:=e j hj';exact⟨j,hj',a1,a2,by rw[e3];exact a3⟩
theorem o5.done(h:o5 own cl cd la lf b x ms)(n:Nat)(hn:n<ms.length)(h0:x.s.val ms[n].flag=0)(t:abN x.s s' ms[n].flag 2)(P:World->Prop)(m:MS)(h1:m.flag=ms[n].flag)(h2:m.done=true)(h3:m.bases.length=ms[n].bases.length){k:Nat}(hk:b+1<=k):o5 own cl cd la lf k (({x.ar s' with P:=P}:WS).eP n m.raw) (ms.set n m):=by
 have hs:=h.sf n hn;have e:∀k (hk:k<(ms.set n m).length),∃hk':k<ms.length,(ms.set n m)[k].flag=ms[k].flag/\(ms.set n m)[k].bases.length=ms[k].bases.length/\((k=n/\(ms.set n m)[k].done=true/\s'.val ms[k].flag=2)\/(k≠n/\(ms.set n m)[k].done=ms[k].done/\s'.val ms[k].flag=x.s.val ms[k].flag)):=fun k hk=>by
  have hk':k<ms.length:=by simpa using hk
  refine⟨hk',?_⟩;simp only[List.getElem_set];split
  .rename_i hnm;subst hnm;exact⟨h1,h3,.inl ⟨rfl,h2,t.v⟩⟩
  .rename_i hnm
   exact⟨rfl,rfl,.inr ⟨fun e=>hnm e.symm,rfl,t.other (h.sf k hk') (by rw[hs.1];intro e;injection e with e;exact hnm e)⟩⟩
 have hkn:∀m,own ms[n].flag≠ .ca m:=fun m=>by rw[hs.1];exact fun e=>by cases e
 have hkf:∀m,own ms[n].flag≠ .cf m:=fun m=>by rw[hs.1];exact fun e=>by cases e
 refine⟨by simp only[WS.eP,WS.ar,h.sys,List.map_set],fun n hn=>(h.ch n hn).tn t,fun n hn=>(h.ca n hn).tn t,fun n hn=>(h.cf n hn).tn t,fun k hk=>?_,fun n hn e=>(t.other (h.ca n hn) (hkn n)).trans (h.lk n hn e),fun n hn e=>(t.other (h.cf n hn) (hkf n)).trans (h.fr n hn e),fun k hk=>?_,fun k hk=>?_,fun hc k hk=>?_,fun k hk e' he=>?_,fun n hn=>Nat.le_trans (h.q n hn) (by omega),?_⟩
 .obtain⟨hk',e1,e2,e3⟩:=e k hk;rw[e1];exact(h.sf k hk').tn t
 .obtain⟨hk',e1,e2,e3⟩:=e k hk
  show s'.val _<=2
  rw[e1];rcases e3 with ⟨_,_,e4⟩|⟨_,_,e4⟩<;>rw[e4]
  .omega
  .exact h.f2 k hk'
 .obtain⟨hk',e1,e2,e3⟩:=e k hk
  show _↔s'.val _=2
  rw[e1];rcases e3 with ⟨_,e5,e4⟩|⟨_,e5,e4⟩<;>rw[e4,e5]
  .simp
  .exact h.fd k hk'
 .obtain⟨hk',e1,e2,e3⟩:=e k hk
  show s'.val _≠1
  rw[e1];rcases e3 with ⟨_,_,e4⟩|⟨_,_,e4⟩<;>rw[e4]
  .omega
  .exact h.fc hc k hk'
 .obtain⟨j,hj,a1,a2,a3⟩:=h.en k hk e' he
  have hj':j<(ms.set n m).length:=by simpa using hj
  obtain⟨_,e1,e2,_⟩:=e j hj';exact⟨j,hj',a1,a2,by rw[e2];exact a3⟩
 .have :=t.l;have :=h.lg;show s'.L.length<=_;omega
end
end Go.Proofs.YtegejdlglonflaaGreatDoor
