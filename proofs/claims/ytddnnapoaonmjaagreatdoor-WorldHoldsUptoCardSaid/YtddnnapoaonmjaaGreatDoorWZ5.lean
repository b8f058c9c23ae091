/-
  Texts 5 of 5 that WorldHolds rests on, laid together and made smaller by program.
-/
import Derived.Test.YtddnnapoaonmjaaGreatDoorWZ4
import Derived.Test.YtddnnapoaonmjaaGreatDoorRows
import Derived.Deep.Slices
import Derived.Deep.Fields
import Derived.ChangeSame
import Derived.ProofKit
import Derived.OpenShut
import Derived.Deep.Cut
import Derived.Deep.CutRange
namespace Go.Proofs.YtddnnapoaonmjaaGreatDoor
open Go.RowKit Go.Shelf
set_option maxRecDepth 100000
set_option maxHeartbeats 8000000
set_option linter.unusedVariables false
set_option linter.unusedSimpArgs false
theorem Ke(T:List Nat)(w:World)(v:RV)(s:Ar)(P:World->Prop)(cs:List Value)(h:BD T w w [di (.slice v.ca v.cn v.cc) (.slice v.la v.ln v.lc) s,aA P])(hm:v.most=(s.most:Int))(hP:∀W,P W->aG W v.oa 2 v.on cs)(hcl:cs.length=v.on*2)(hone:∀u∈cs,u.oneCell'=true)(hnn:v.on<=100000)(hok:s.C.length+2<=s.most):
  Calls Tryz.prog 150 #[v.val] w fun e w'=>∃v':RV,e= .returned (.tuple #[v'.val,.int .i64 (v.on:Int),.int .i64 0])/\gJ 1 v v'/\BD T w w' [di (.slice v'.ca v'.cn v'.cc) (.slice v'.la v'.ln v'.lc) (s.au 2).1,aA fun W=>P W/\aG W v'.oa 2 (v.on+1) (cs++[.int .i64 (s.C.length:Int),.slice none 0 0])]:=by
 obtain⟨i0,hi0,CY,CU,CX⟩:=info_parts Kr;have HP:=hdq hP;have DW:=hdq hcl;have D8:=hdq hone;have CW:=hdq hnn;have EC:=hdq hok;have N9:Hid (IntKind.i64.wrap (v.on:Int)=(v.on:Int)):=by
  have :=CW.out;exact hdq (IntWalk.i64_in _ (by omega))
 have hen:=xk h;obtain⟨hcn,hln⟩:=hen;have BG:=hdq h;clear h hP hcl hone hnn hok;have F3:Hid (∀(W:World) (a:Option Addr) (c:Nat) (CR:Option Addr) (CP:Nat) (Dc:Option Addr) (Df:Nat),BD T w W [di (.slice CR (s.au 2).1.C.length CP) (.slice Dc (s.au 2).1.L.length Df) (s.au 2).1,aA P,aS 284 2 (.slice a (v.on+1) c) (v.on+1) (cs++[.int .i64 (s.C.length:Int),.slice none 0 0])]->∃v':RV,Ending.returned (.tuple #[.agg #[.slice CR (s.au 2).1.C.length CP,.int .i64 (s.most:Int),.slice Dc (s.au 2).1.L.length Df,.slice v.ha v.hn v.hc,.slice a (v.on+1) c,.slice v.sa v.sn v.sc],.int .i64 (v.on:Int),.int .i64 0])= .returned (.tuple #[v'.val,.int .i64 (v.on:Int),.int .i64 0])/\gJ 1 v v'/\BD T w W [di (.slice v'.ca v'.cn v'.cc) (.slice v'.la v'.ln v'.lc) (s.au 2).1,aA fun W=>P W/\aG W v'.oa 2 (v.on+1) (cs++[.int .i64 (s.C.length:Int),.slice none 0 0])]):=by
  refine hdq (fun W a c CR CP Dc Df hL=>⟨{v with ca:=CR,cn:=(s.au 2).1.C.length,cc:=CP,la:=Dc,ln:=(s.au 2).1.L.length,lc:=Df,oa:=a,on:=v.on+1,oc:=c},?_,?_,?_⟩)
  .simp only[RV.val,hm]
  .simp[gJ]
  .exact(hL.settle (l:=[_,_]) 1 rfl (fun W f hPW hf=>⟨hPW,mg hf.2 rfl (by decide) (by have :=CW.out;omega)⟩))
 have F4:Hid (BD T w w [di (.slice v.ca s.C.length v.cc) (.slice v.la s.L.length v.lc) s,aA P]):=by rw[hcn,hln]at BG;exact BG
 clear BG;unfold RV.val;rw[hm,hcn,hln];go_enter Tryz.func150,Tryz.ntmps150
 go_wp2_with fail
 refine ah ?_;intro w1 hw1;have BB:=hdq (F4.out.DZ hw1);simp only[nAq,cAq]at BB;generalize hb2:w.heap.size+1=b2 at BB|-;generalize hb1:w.heap.size=b1 at BB|-;clear hw1 hb2 hb1 F4;refine(BB.out.mO (E:=fun CQ Dk=> .tuple #[bI CQ s.most Dk,.agg #[.int .i64 (s.C.length:Int),.slice none 0 0],.int .i64 0]) 0 rfl (fun T h=>Av T _ _ _ s h EC.out)).mono ?_;rintro e w2 ⟨CQ,Dk,rfl,hL⟩;obtain⟨CR,CP,rfl,_,_⟩:=aK (hL.bF 0 rfl).Dh;obtain⟨Dc,Df,rfl,_,_⟩:=aK (hL.bF 0 rfl).log;have HL2:=hdq hL;simp only[sZq,sSq]at HL2;clear hL BB;generalize hr:(s.au 2).1=r at HL2 F3|-;have HRR:=hdq hr;clear hr;unfold bI;go_upto_region 4 with fail
 refine ay ?_;intro w3 hw3;have BF:=hdq (HL2.out.DZ hw3);simp only[nAq,cAq]at BF;generalize hb6:w2.heap.size+1=b6 at BF|-;generalize hb5:w2.heap.size=b5 at BF|-;clear hw3 hb6 hb5 HL2;refine Code.wp_mono (Q:=qA (Na (Mg b1 b2) (fun a c W=>Hid (BD T w W [di (.slice CR r.C.length CP) (.slice Dc r.L.length Df) r,aA P,box b1 38 #[.slice CR r.C.length CP,.int .i64 (s.most:Int),.slice Dc r.L.length Df,.slice v.ha v.hn v.hc,.slice a (v.on+1) c,.slice v.sa v.sn v.sc],box b2 38 #[.slice none 0 0,.int .i64 0,.slice none 0 0,.slice none 0 0,.slice none 0 0,.slice none 0 0],aS 284 2 (.slice a (v.on+1) c) (v.on+1) (cs++[.int .i64 (s.C.length:Int),.slice none 0 0])])))) ?hrest ?Fv
 case hrest=>
  intro ex A V hex;cases ex<;>first |exact hex.elim|skip
  obtain⟨ad,cd,u,rfl,HX⟩:=hex;clear BF;simp only[Mg];go_upto_region 5 with fail
  have BM:=hdq HX.out.drew;clear HX;obtain⟨p0,p1,p2,p3,p4,p5,⟨f0,f1,f2,f3,f4,f5⟩,zp,_,_⟩:=BM.out.c6 2 rfl;refine hrq (S:=fun w'=>w'.cell? ⟨b1,0,none⟩=some (.slice CR r.C.length CP)/\w'.cell? ⟨b1,1,none⟩=some (.int .i64 (s.most:Int))/\w'.cell? ⟨b1,2,none⟩=some (.slice Dc r.L.length Df)/\w'.cell? ⟨b1,3,none⟩=some (.slice v.ha v.hn v.hc)/\w'.cell? ⟨b1,4,none⟩=some (.slice ad (v.on+1) cd)/\w'.cell? ⟨b1,5,none⟩=some (.slice v.sa v.sn v.sc)) fun hHeld=>?_;refine nmq BM hHeld fun wq HX hHeld=>?_;clear BM p0 p1 p2 p3 p4 p5 f0 f1 f2 f3 f4 f5 zp;obtain⟨p0,p1,p2,p3,p4,p5,⟨f0,f1,f2,f3,f4,f5⟩,zp,_,_⟩:=HX.out.c6 2 rfl;refine tkq 0 29 ?_;refine tkq 1 30 ?_;refine tkq 2 31 ?_;refine tkq 3 32 ?_;refine tkq 4 33 ?_;refine DU (m:=[]) 5 3 HX rfl (fun _ h9=>?_) fun w5 HY hHeld=>?_
  .obtain⟨p0,p1,p2,p3,p4,p5,_,_,_,_⟩:=h9.c6 2 rfl
   exact⟨p0,p1,p2,p3,p4,p5⟩
  clear p0 p1 p2 p3 p4 p5 f0 f1 f2 f3 f4 f5 zp;obtain⟨p0,p1,p2,p3,p4,p5,⟨f0,f1,f2,f3,f4,f5⟩,zp,_,_⟩:=HY.out.c6 2 rfl;clear hHeld;refine opq 6 fun hHeld=>?_;clear hHeld;refine opq 7 fun hHeld=>?_;refine dxq HY fun wy HW=>?_;clear hHeld HY HX p0 p1 p2 p3 p4 p5 f0 f1 f2 f3 f4 f5 zp;obtain⟨q0,q1,q2,q3,q4,q5,_,_,_,_⟩:=HW.out.c6 3 rfl;go_wp2;refine bodyPost_ret (v:= .tuple #[.agg #[.slice CR r.C.length CP,.int .i64 (s.most:Int),.slice Dc r.L.length Df,.slice v.ha v.hn v.hc,.slice ad (v.on+1) cd,.slice v.sa v.sn v.sc],.int .i64 (v.on:Int),.int .i64 0]) (by simp[results,Tryz.results150,go_sem,q0,q1,q2,q3,q4,q5,N9.out]) rfl ?_;obtain⟨v9,h91,h92,O4⟩:=F3.out _ ad cd CR CP Dc Df (HW.out.sel [0,1,4] rfl (by decide));exact⟨v9,h91,h92,by first |exact O4|(rw[HRR.out];exact O4)⟩
 case Fv=>
  apply xU
  case h=>
   intro HM;have BM:=hdq BF.out.drew;obtain⟨p0,p1,p2,p3,p4,p5,⟨f0,f1,f2,f3,f4,f5⟩,zp,_,_⟩:=BM.out.c6 2 rfl;obtain⟨q0,q1,q2,_,_,_,zq,_,_⟩:=BM.out.c3 4 rfl;obtain⟨r0,r1,_,_,zr,_,_⟩:=BM.out.c2 5 rfl;refine hrq (S:=fun w'=>w'.cell? ⟨b5,0,none⟩=some (.slice CR r.C.length CP)/\w'.cell? ⟨b5,1,none⟩=some (.int .i64 (s.most:Int))/\w'.cell? ⟨b5,2,none⟩=some (.slice Dc r.L.length Df)/\w'.cell? ⟨b6,0,none⟩=some (.int .i64 (s.C.length:Int))/\w'.cell? ⟨b6,1,none⟩=some (.slice none 0 0)) fun hHeld=>?_;refine nmq BM hHeld fun w4 BH hHeld=>?_;clear BM p0 p1 p2 p3 p4 p5 f0 f1 f2 f3 f4 f5 zp q0 q1 q2 zq r0 r1 zr;obtain⟨p0,p1,p2,p3,p4,p5,⟨f0,f1,f2,f3,f4,f5⟩,zp,_,_⟩:=BH.out.c6 2 rfl;obtain⟨q0,q1,q2,_,_,_,zq,_,_⟩:=BH.out.c3 4 rfl;obtain⟨r0,r1,_,_,zr,_,_⟩:=BH.out.c2 5 rfl;refine tkq 0 19 ?_;refine tkq 2 21 ?_;refine tkq 5 24 ?_;refine wpAnyH_ready (rs:=[1,3,6]) (by kernel_rfl) (by simp) ?_;refine AllReadyH.cons rfl (fun K hK=>?_) (AllReadyH.cons rfl (fun K hK=>?_) (AllReadyH.cons rfl (fun K hK=>?_) AllReadyH.nil))
   .go_simp
    have Cf:=hdq (BH.out.empty 284 2);simp only[cAq,nAq]at Cf;generalize I7:w4.alloc (.cells #[] 284)=GL at Cf|-;generalize Hw:w4.heap.size=g10 at Cf|-;clear I7 Hw BH hHeld p0 p1 p2 p3 p4 p5 f0 f1 f2 f3 f4 f5 zp q0 q1 q2 zq r0 r1 zr;obtain⟨p0,p1,p2,p3,p4,p5,⟨f0,f1,f2,f3,f4,f5⟩,zp,_,_⟩:=Cf.out.c6 2 rfl;obtain⟨q0,q1,q2,_,_,_,zq,_,_⟩:=Cf.out.c3 4 rfl;obtain⟨r0,r1,_,_,zr,_,_⟩:=Cf.out.c2 5 rfl;refine kpq hK.out fun hHeld=>?_;clear hK K;refine wpAnyH_ready (rs:=[3,6]) (by kernel_rfl) (by simp) ?_;refine AllReadyH.cons rfl (fun K hK=>?_) (AllReadyH.cons rfl (fun K hK=>?_) AllReadyH.nil)
    .go_simp
     clear hHeld;refine kpq hK.out fun hHeld=>?_;clear hK K;refine tkq 8 27 ?_;refine wpAnyH_ready (rs:=[4,6]) (by kernel_rfl) (by simp) ?_;refine AllReadyH.cons rfl (fun K hK=>?_) (AllReadyH.cons rfl (fun K hK=>?_) AllReadyH.nil)
     .refine aD _ (by rfl) (.tmp 20) (.tmp 22) 35 (by rfl) 284 i0 _ 2 32 Tryz.underlying35 hi0 CY CU CX rfl (by decide) (.slice (some ⟨g10,0,none⟩) 0 0) 0 [] (by rfl) (Cf.out.aZ 6 rfl) v.oa v.on v.oc cs (by rfl) DW.out (aG.iI (HP.out _ (Cf.out.still 1 rfl)) DW.out (by omega)) D8.out (by simp only[maxLen];have :=CW.out;omega) (by have :=CW.out;omega) ?_
      intro a12 c12 LQ hown hgrow hat;simp only[Nat.zero_add,nAq]at hown hat|-;have DL:=hdq (Cf.out.bG 6 rfl hgrow hown hat);simp only[sSq,sZq]at DL;clear hown hgrow hat Cf hHeld p0 p1 p2 p3 p4 p5 f0 f1 f2 f3 f4 f5 zp q0 q1 q2 zq r0 r1 zr;obtain⟨p0,p1,p2,p3,p4,p5,⟨f0,f1,f2,f3,f4,f5⟩,zp,_,_⟩:=DL.out.c6 2 rfl;obtain⟨q0,q1,q2,_,_,_,zq,_,_⟩:=DL.out.c3 4 rfl;obtain⟨r0,r1,_,_,zr,_,_⟩:=DL.out.c2 5 rfl;refine kpq hK.out fun hHeld=>?_;clear hK K;refine rdq 6 rfl fun K hK=>?_;go_simp;have DI:=hdq (DL.out.alloc 284 #[.int .i64 (s.C.length:Int),.slice none 0 0]);simp only[cAq,nAq]at DI;generalize J4:LQ.alloc (.cells #[.int .i64 (s.C.length:Int),.slice none 0 0] 284)=w13 at DI|-;generalize I6:LQ.heap.size=g13 at DI|-;clear J4 I6 DL hHeld p0 p1 p2 p3 p4 p5 f0 f1 f2 f3 f4 f5 zp q0 q1 q2 zq r0 r1 zr;obtain⟨p0,p1,p2,p3,p4,p5,⟨f0,f1,f2,f3,f4,f5⟩,zp,_,_⟩:=DI.out.c6 2 rfl;obtain⟨q0,q1,q2,_,_,_,zq,_,_⟩:=DI.out.c3 4 rfl;obtain⟨r0,r1,_,_,zr,_,_⟩:=DI.out.c2 5 rfl;refine kpq hK.out fun hHeld=>?_;clear hK K;exact HM g10 a12 c12 g13 w13 (hdq (DI.out.iF 0 1 2 3 4 5 6 7 rfl rfl rfl rfl rfl rfl rfl rfl (by decide))) hHeld
     .go_simp
      have Dn:=hdq (Cf.out.alloc 284 #[.int .i64 (s.C.length:Int),.slice none 0 0]);simp only[cAq,nAq]at Dn;generalize KQ:GL.alloc (.cells #[.int .i64 (s.C.length:Int),.slice none 0 0] 284)=w14 at Dn|-;generalize IV:GL.heap.size=g14 at Dn|-;clear KQ IV Cf hHeld p0 p1 p2 p3 p4 p5 f0 f1 f2 f3 f4 f5 zp q0 q1 q2 zq r0 r1 zr;obtain⟨p0,p1,p2,p3,p4,p5,⟨f0,f1,f2,f3,f4,f5⟩,zp,_,_⟩:=Dn.out.c6 2 rfl;obtain⟨q0,q1,q2,_,_,_,zq,_,_⟩:=Dn.out.c3 4 rfl;obtain⟨r0,r1,_,_,zr,_,_⟩:=Dn.out.c2 5 rfl;refine kpq hK.out fun hHeld=>?_;clear hK K;refine rdq 4 rfl fun K hK=>?_;refine aD _ (by rfl) (.tmp 20) (.tmp 22) 35 (by rfl) 284 i0 _ 2 32 Tryz.underlying35 hi0 CY CU CX rfl (by decide) (.slice (some ⟨g10,0,none⟩) 0 0) 0 [] (by rfl) (Dn.out.aZ 6 rfl) v.oa v.on v.oc cs (by rfl) DW.out (aG.iI (HP.out _ (Dn.out.still 1 rfl)) DW.out (by omega)) D8.out (by simp only[maxLen];have :=CW.out;omega) (by have :=CW.out;omega) ?_;intro a15 c15 w15 hown hgrow hat;simp only[Nat.zero_add,nAq]at hown hat|-;have Ew:=hdq (Dn.out.bG 6 rfl hgrow hown hat);simp only[sSq,sZq]at Ew;clear hown hgrow hat Dn hHeld p0 p1 p2 p3 p4 p5 f0 f1 f2 f3 f4 f5 zp q0 q1 q2 zq r0 r1 zr;obtain⟨p0,p1,p2,p3,p4,p5,⟨f0,f1,f2,f3,f4,f5⟩,zp,_,_⟩:=Ew.out.c6 2 rfl;obtain⟨q0,q1,q2,_,_,_,zq,_,_⟩:=Ew.out.c3 4 rfl;obtain⟨r0,r1,_,_,zr,_,_⟩:=Ew.out.c2 5 rfl;refine kpq hK.out fun hHeld=>?_;clear hK K;exact HM g10 a15 c15 g14 w15 (hdq (Ew.out.iF 0 1 2 3 4 5 6 7 rfl rfl rfl rfl rfl rfl rfl rfl (by decide))) hHeld
    .go_simp
     have Dx:=hdq (Cf.out.alloc 284 #[.int .i64 (s.C.length:Int),.slice none 0 0]);simp only[cAq,nAq]at Dx;generalize hw16:GL.alloc (.cells #[.int .i64 (s.C.length:Int),.slice none 0 0] 284)=w16 at Dx|-;generalize H8:GL.heap.size=g16 at Dx|-;clear hw16 H8 Cf hHeld p0 p1 p2 p3 p4 p5 f0 f1 f2 f3 f4 f5 zp q0 q1 q2 zq r0 r1 zr;obtain⟨p0,p1,p2,p3,p4,p5,⟨f0,f1,f2,f3,f4,f5⟩,zp,_,_⟩:=Dx.out.c6 2 rfl;obtain⟨q0,q1,q2,_,_,_,zq,_,_⟩:=Dx.out.c3 4 rfl;obtain⟨r0,r1,_,_,zr,_,_⟩:=Dx.out.c2 5 rfl;refine kpq hK.out fun hHeld=>?_;clear hK K;clear hHeld;refine opq 3 fun hHeld=>?_;refine tkq 8 27 ?_;refine rdq 4 rfl fun K hK=>?_;refine aD _ (by rfl) (.tmp 20) (.tmp 22) 35 (by rfl) 284 i0 _ 2 32 Tryz.underlying35 hi0 CY CU CX rfl (by decide) (.slice (some ⟨g10,0,none⟩) 0 0) 0 [] (by rfl) (Dx.out.aZ 6 rfl) v.oa v.on v.oc cs (by rfl) DW.out (aG.iI (HP.out _ (Dx.out.still 1 rfl)) DW.out (by omega)) D8.out (by simp only[maxLen];have :=CW.out;omega) (by have :=CW.out;omega) ?_;intro a18 c18 w18 hown hgrow hat;simp only[Nat.zero_add,nAq]at hown hat|-;have Et:=hdq (Dx.out.bG 6 rfl hgrow hown hat);simp only[sSq,sZq]at Et;clear hown hgrow hat Dx hHeld p0 p1 p2 p3 p4 p5 f0 f1 f2 f3 f4 f5 zp q0 q1 q2 zq r0 r1 zr;obtain⟨p0,p1,p2,p3,p4,p5,⟨f0,f1,f2,f3,f4,f5⟩,zp,_,_⟩:=Et.out.c6 2 rfl;obtain⟨q0,q1,q2,_,_,_,zq,_,_⟩:=Et.out.c3 4 rfl;obtain⟨r0,r1,_,_,zr,_,_⟩:=Et.out.c2 5 rfl;refine kpq hK.out fun hHeld=>?_;clear hK K;exact HM g10 a18 c18 g16 w18 (hdq (Et.out.iF 0 1 2 3 4 5 6 7 rfl rfl rfl rfl rfl rfl rfl rfl (by decide))) hHeld
   .go_simp
    clear hHeld;refine kpq hK.out fun hHeld=>?_;clear hK K;refine tkq 8 27 ?_;refine wpAnyH_ready (rs:=[1,6]) (by kernel_rfl) (by simp) ?_;refine AllReadyH.cons rfl (fun K hK=>?_) (AllReadyH.cons rfl (fun K hK=>?_) AllReadyH.nil)
    .go_simp
     have CS:=hdq (BH.out.empty 284 2);simp only[cAq,nAq]at CS;generalize Js:w4.alloc (.cells #[] 284)=Nc at CS|-;generalize Iy:w4.heap.size=g20 at CS|-;clear Js Iy BH hHeld p0 p1 p2 p3 p4 p5 f0 f1 f2 f3 f4 f5 zp q0 q1 q2 zq r0 r1 zr;obtain⟨p0,p1,p2,p3,p4,p5,⟨f0,f1,f2,f3,f4,f5⟩,zp,_,_⟩:=CS.out.c6 2 rfl;obtain⟨q0,q1,q2,_,_,_,zq,_,_⟩:=CS.out.c3 4 rfl;obtain⟨r0,r1,_,_,zr,_,_⟩:=CS.out.c2 5 rfl;refine kpq hK.out fun hHeld=>?_;clear hK K;refine wpAnyH_ready (rs:=[4,6]) (by kernel_rfl) (by simp) ?_;refine AllReadyH.cons rfl (fun K hK=>?_) (AllReadyH.cons rfl (fun K hK=>?_) AllReadyH.nil)
     .refine aD _ (by rfl) (.tmp 20) (.tmp 22) 35 (by rfl) 284 i0 _ 2 32 Tryz.underlying35 hi0 CY CU CX rfl (by decide) (.slice (some ⟨g20,0,none⟩) 0 0) 0 [] (by rfl) (CS.out.aZ 6 rfl) v.oa v.on v.oc cs (by rfl) DW.out (aG.iI (HP.out _ (CS.out.still 1 rfl)) DW.out (by omega)) D8.out (by simp only[maxLen];have :=CW.out;omega) (by have :=CW.out;omega) ?_
      intro a21 c21 Nz hown hgrow hat;simp only[Nat.zero_add,nAq]at hown hat|-;have Eg:=hdq (CS.out.bG 6 rfl hgrow hown hat);simp only[sSq,sZq]at Eg;clear hown hgrow hat CS hHeld p0 p1 p2 p3 p4 p5 f0 f1 f2 f3 f4 f5 zp q0 q1 q2 zq r0 r1 zr;obtain⟨p0,p1,p2,p3,p4,p5,⟨f0,f1,f2,f3,f4,f5⟩,zp,_,_⟩:=Eg.out.c6 2 rfl;obtain⟨q0,q1,q2,_,_,_,zq,_,_⟩:=Eg.out.c3 4 rfl;obtain⟨r0,r1,_,_,zr,_,_⟩:=Eg.out.c2 5 rfl;refine kpq hK.out fun hHeld=>?_;clear hK K;refine rdq 6 rfl fun K hK=>?_;go_simp;have D7:=hdq (Eg.out.alloc 284 #[.int .i64 (s.C.length:Int),.slice none 0 0]);simp only[cAq,nAq]at D7;generalize Kc:Nz.alloc (.cells #[.int .i64 (s.C.length:Int),.slice none 0 0] 284)=w22 at D7|-;generalize K9:Nz.heap.size=g22 at D7|-;clear Kc K9 Eg hHeld p0 p1 p2 p3 p4 p5 f0 f1 f2 f3 f4 f5 zp q0 q1 q2 zq r0 r1 zr;obtain⟨p0,p1,p2,p3,p4,p5,⟨f0,f1,f2,f3,f4,f5⟩,zp,_,_⟩:=D7.out.c6 2 rfl;obtain⟨q0,q1,q2,_,_,_,zq,_,_⟩:=D7.out.c3 4 rfl;obtain⟨r0,r1,_,_,zr,_,_⟩:=D7.out.c2 5 rfl;refine kpq hK.out fun hHeld=>?_;clear hK K;exact HM g20 a21 c21 g22 w22 (hdq (D7.out.iF 0 1 2 3 4 5 6 7 rfl rfl rfl rfl rfl rfl rfl rfl (by decide))) hHeld
     .go_simp
      have Dv:=hdq (CS.out.alloc 284 #[.int .i64 (s.C.length:Int),.slice none 0 0]);simp only[cAq,nAq]at Dv;generalize Ky:Nc.alloc (.cells #[.int .i64 (s.C.length:Int),.slice none 0 0] 284)=w23 at Dv|-;generalize KU:Nc.heap.size=g23 at Dv|-;clear Ky KU CS hHeld p0 p1 p2 p3 p4 p5 f0 f1 f2 f3 f4 f5 zp q0 q1 q2 zq r0 r1 zr;obtain⟨p0,p1,p2,p3,p4,p5,⟨f0,f1,f2,f3,f4,f5⟩,zp,_,_⟩:=Dv.out.c6 2 rfl;obtain⟨q0,q1,q2,_,_,_,zq,_,_⟩:=Dv.out.c3 4 rfl;obtain⟨r0,r1,_,_,zr,_,_⟩:=Dv.out.c2 5 rfl;refine kpq hK.out fun hHeld=>?_;clear hK K;refine rdq 4 rfl fun K hK=>?_;refine aD _ (by rfl) (.tmp 20) (.tmp 22) 35 (by rfl) 284 i0 _ 2 32 Tryz.underlying35 hi0 CY CU CX rfl (by decide) (.slice (some ⟨g20,0,none⟩) 0 0) 0 [] (by rfl) (Dv.out.aZ 6 rfl) v.oa v.on v.oc cs (by rfl) DW.out (aG.iI (HP.out _ (Dv.out.still 1 rfl)) DW.out (by omega)) D8.out (by simp only[maxLen];have :=CW.out;omega) (by have :=CW.out;omega) ?_;intro a24 c24 w24 hown hgrow hat;simp only[Nat.zero_add,nAq]at hown hat|-;have Ez:=hdq (Dv.out.bG 6 rfl hgrow hown hat);simp only[sSq,sZq]at Ez;clear hown hgrow hat Dv hHeld p0 p1 p2 p3 p4 p5 f0 f1 f2 f3 f4 f5 zp q0 q1 q2 zq r0 r1 zr;obtain⟨p0,p1,p2,p3,p4,p5,⟨f0,f1,f2,f3,f4,f5⟩,zp,_,_⟩:=Ez.out.c6 2 rfl;obtain⟨q0,q1,q2,_,_,_,zq,_,_⟩:=Ez.out.c3 4 rfl;obtain⟨r0,r1,_,_,zr,_,_⟩:=Ez.out.c2 5 rfl;refine kpq hK.out fun hHeld=>?_;clear hK K;exact HM g20 a24 c24 g23 w24 (hdq (Ez.out.iF 0 1 2 3 4 5 6 7 rfl rfl rfl rfl rfl rfl rfl rfl (by decide))) hHeld
    .go_simp
     have DV:=hdq (BH.out.alloc 284 #[.int .i64 (s.C.length:Int),.slice none 0 0]);simp only[cAq,nAq]at DV;generalize Jd:w4.alloc (.cells #[.int .i64 (s.C.length:Int),.slice none 0 0] 284)=Mh at DV|-;generalize Ia:w4.heap.size=g25 at DV|-;clear Jd Ia BH hHeld p0 p1 p2 p3 p4 p5 f0 f1 f2 f3 f4 f5 zp q0 q1 q2 zq r0 r1 zr;obtain⟨p0,p1,p2,p3,p4,p5,⟨f0,f1,f2,f3,f4,f5⟩,zp,_,_⟩:=DV.out.c6 2 rfl;obtain⟨q0,q1,q2,_,_,_,zq,_,_⟩:=DV.out.c3 4 rfl;obtain⟨r0,r1,_,_,zr,_,_⟩:=DV.out.c2 5 rfl;refine kpq hK.out fun hHeld=>?_;clear hK K;refine rdq 1 rfl fun K hK=>?_;go_simp;have Dy:=hdq (DV.out.empty 284 2);simp only[cAq,nAq]at Dy;generalize Jh:Mh.alloc (.cells #[] 284)=w26 at Dy|-;generalize Lf:Mh.heap.size=OP at Dy|-;clear Jh Lf DV hHeld p0 p1 p2 p3 p4 p5 f0 f1 f2 f3 f4 f5 zp q0 q1 q2 zq r0 r1 zr;obtain⟨p0,p1,p2,p3,p4,p5,⟨f0,f1,f2,f3,f4,f5⟩,zp,_,_⟩:=Dy.out.c6 2 rfl;obtain⟨q0,q1,q2,_,_,_,zq,_,_⟩:=Dy.out.c3 4 rfl;obtain⟨r0,r1,_,_,zr,_,_⟩:=Dy.out.c2 5 rfl;refine kpq hK.out fun hHeld=>?_;clear hK K;refine rdq 4 rfl fun K hK=>?_;refine aD _ (by rfl) (.tmp 20) (.tmp 22) 35 (by rfl) 284 i0 _ 2 32 Tryz.underlying35 hi0 CY CU CX rfl (by decide) (.slice (some ⟨OP,0,none⟩) 0 0) 0 [] (by rfl) (Dy.out.aZ 7 rfl) v.oa v.on v.oc cs (by rfl) DW.out (aG.iI (HP.out _ (Dy.out.still 1 rfl)) DW.out (by omega)) D8.out (by simp only[maxLen];have :=CW.out;omega) (by have :=CW.out;omega) ?_;intro a27 c27 w27 hown hgrow hat;simp only[Nat.zero_add,nAq]at hown hat|-;have Es:=hdq (Dy.out.bG 7 rfl hgrow hown hat);simp only[sSq,sZq]at Es;clear hown hgrow hat Dy hHeld p0 p1 p2 p3 p4 p5 f0 f1 f2 f3 f4 f5 zp q0 q1 q2 zq r0 r1 zr;obtain⟨p0,p1,p2,p3,p4,p5,⟨f0,f1,f2,f3,f4,f5⟩,zp,_,_⟩:=Es.out.c6 2 rfl;obtain⟨q0,q1,q2,_,_,_,zq,_,_⟩:=Es.out.c3 4 rfl;obtain⟨r0,r1,_,_,zr,_,_⟩:=Es.out.c2 5 rfl;refine kpq hK.out fun hHeld=>?_;clear hK K;exact HM OP a27 c27 g25 w27 (hdq (Es.out.iF 0 1 2 3 4 5 7 6 rfl rfl rfl rfl rfl rfl rfl rfl (by decide))) hHeld
   .go_simp
    have Dz:=hdq (BH.out.alloc 284 #[.int .i64 (s.C.length:Int),.slice none 0 0]);simp only[cAq,nAq]at Dz;generalize Kw:w4.alloc (.cells #[.int .i64 (s.C.length:Int),.slice none 0 0] 284)=GV at Dz|-;generalize Jt:w4.heap.size=O1 at Dz|-;clear Kw Jt BH hHeld p0 p1 p2 p3 p4 p5 f0 f1 f2 f3 f4 f5 zp q0 q1 q2 zq r0 r1 zr;obtain⟨p0,p1,p2,p3,p4,p5,⟨f0,f1,f2,f3,f4,f5⟩,zp,_,_⟩:=Dz.out.c6 2 rfl;obtain⟨q0,q1,q2,_,_,_,zq,_,_⟩:=Dz.out.c3 4 rfl;obtain⟨r0,r1,_,_,zr,_,_⟩:=Dz.out.c2 5 rfl;refine kpq hK.out fun hHeld=>?_;clear hK K;refine wpAnyH_ready (rs:=[1,3]) (by kernel_rfl) (by simp) ?_;refine AllReadyH.cons rfl (fun K hK=>?_) (AllReadyH.cons rfl (fun K hK=>?_) AllReadyH.nil)
    .go_simp
     have Dm:=hdq (Dz.out.empty 284 2);simp only[cAq,nAq]at Dm;generalize J2:GV.alloc (.cells #[] 284)=w29 at Dm|-;generalize IL:GV.heap.size=OL at Dm|-;clear J2 IL Dz hHeld p0 p1 p2 p3 p4 p5 f0 f1 f2 f3 f4 f5 zp q0 q1 q2 zq r0 r1 zr;obtain⟨p0,p1,p2,p3,p4,p5,⟨f0,f1,f2,f3,f4,f5⟩,zp,_,_⟩:=Dm.out.c6 2 rfl;obtain⟨q0,q1,q2,_,_,_,zq,_,_⟩:=Dm.out.c3 4 rfl;obtain⟨r0,r1,_,_,zr,_,_⟩:=Dm.out.c2 5 rfl;refine kpq hK.out fun hHeld=>?_;clear hK K;clear hHeld;refine opq 3 fun hHeld=>?_;refine tkq 8 27 ?_;refine rdq 4 rfl fun K hK=>?_;refine aD _ (by rfl) (.tmp 20) (.tmp 22) 35 (by rfl) 284 i0 _ 2 32 Tryz.underlying35 hi0 CY CU CX rfl (by decide) (.slice (some ⟨OL,0,none⟩) 0 0) 0 [] (by rfl) (Dm.out.aZ 7 rfl) v.oa v.on v.oc cs (by rfl) DW.out (aG.iI (HP.out _ (Dm.out.still 1 rfl)) DW.out (by omega)) D8.out (by simp only[maxLen];have :=CW.out;omega) (by have :=CW.out;omega) ?_;intro a31 c31 w31 hown hgrow hat;simp only[Nat.zero_add,nAq]at hown hat|-;have Ey:=hdq (Dm.out.bG 7 rfl hgrow hown hat);simp only[sSq,sZq]at Ey;clear hown hgrow hat Dm hHeld p0 p1 p2 p3 p4 p5 f0 f1 f2 f3 f4 f5 zp q0 q1 q2 zq r0 r1 zr;obtain⟨p0,p1,p2,p3,p4,p5,⟨f0,f1,f2,f3,f4,f5⟩,zp,_,_⟩:=Ey.out.c6 2 rfl;obtain⟨q0,q1,q2,_,_,_,zq,_,_⟩:=Ey.out.c3 4 rfl;obtain⟨r0,r1,_,_,zr,_,_⟩:=Ey.out.c2 5 rfl;refine kpq hK.out fun hHeld=>?_;clear hK K;exact HM OL a31 c31 O1 w31 (hdq (Ey.out.iF 0 1 2 3 4 5 7 6 rfl rfl rfl rfl rfl rfl rfl rfl (by decide))) hHeld
    .go_simp
     clear hHeld;refine kpq hK.out fun hHeld=>?_;clear hK K;refine tkq 8 27 ?_;refine rdq 1 rfl fun K hK=>?_;go_simp;have Dw:=hdq (Dz.out.empty 284 2);simp only[cAq,nAq]at Dw;generalize K4:GV.alloc (.cells #[] 284)=w33 at Dw|-;generalize KZ:GV.heap.size=OV at Dw|-;clear K4 KZ Dz hHeld p0 p1 p2 p3 p4 p5 f0 f1 f2 f3 f4 f5 zp q0 q1 q2 zq r0 r1 zr;obtain⟨p0,p1,p2,p3,p4,p5,⟨f0,f1,f2,f3,f4,f5⟩,zp,_,_⟩:=Dw.out.c6 2 rfl;obtain⟨q0,q1,q2,_,_,_,zq,_,_⟩:=Dw.out.c3 4 rfl;obtain⟨r0,r1,_,_,zr,_,_⟩:=Dw.out.c2 5 rfl;refine kpq hK.out fun hHeld=>?_;clear hK K;refine rdq 4 rfl fun K hK=>?_;refine aD _ (by rfl) (.tmp 20) (.tmp 22) 35 (by rfl) 284 i0 _ 2 32 Tryz.underlying35 hi0 CY CU CX rfl (by decide) (.slice (some ⟨OV,0,none⟩) 0 0) 0 [] (by rfl) (Dw.out.aZ 7 rfl) v.oa v.on v.oc cs (by rfl) DW.out (aG.iI (HP.out _ (Dw.out.still 1 rfl)) DW.out (by omega)) D8.out (by simp only[maxLen];have :=CW.out;omega) (by have :=CW.out;omega) ?_;intro a34 c34 w34 hown hgrow hat;simp only[Nat.zero_add,nAq]at hown hat|-;have Eu:=hdq (Dw.out.bG 7 rfl hgrow hown hat);simp only[sSq,sZq]at Eu;clear hown hgrow hat Dw hHeld p0 p1 p2 p3 p4 p5 f0 f1 f2 f3 f4 f5 zp q0 q1 q2 zq r0 r1 zr;obtain⟨p0,p1,p2,p3,p4,p5,⟨f0,f1,f2,f3,f4,f5⟩,zp,_,_⟩:=Eu.out.c6 2 rfl;obtain⟨q0,q1,q2,_,_,_,zq,_,_⟩:=Eu.out.c3 4 rfl;obtain⟨r0,r1,_,_,zr,_,_⟩:=Eu.out.c2 5 rfl;refine kpq hK.out fun hHeld=>?_;clear hK K;exact HM OV a34 c34 O1 w34 (hdq (Eu.out.iF 0 1 2 3 4 5 7 6 rfl rfl rfl rfl rfl rfl rfl rfl (by decide))) hHeld
  case k=>
   intro g1m am cm g6m wm Fx hHeld;obtain⟨p0,p1,p2,p3,p4,p5,⟨f0,f1,f2,f3,f4,f5⟩,zp,_,_⟩:=Fx.out.c6 2 rfl;obtain⟨q0,q1,q2,_,_,_,zq,_,_⟩:=Fx.out.c3 4 rfl;obtain⟨r0,r1,_,_,zr,_,_⟩:=Fx.out.c2 5 rfl;refine rdq 7 rfl fun K hK=>?_;refine aD _ (by rfl) (.tmp 23) (.tmp 25) 35 (by rfl) 284 i0 _ 2 32 Tryz.underlying35 hi0 CY CU CX rfl (by decide) (.slice am v.on cm) v.on cs (by rfl) (Fx.out.aZ 6 rfl) (some ⟨g6m,0,none⟩) 1 1 [.int .i64 (s.C.length:Int),.slice none 0 0] (by rfl) rfl (.inr ⟨_,rfl,xC (Fx.out.box 7 rfl)⟩) (by simp[Value.oneCell']) (by simp only[maxLen];have :=CW.out;omega) (by have :=CW.out;omega) ?_;intro a35 c35 w35 hown hgrow hat;have Ee:=hdq (Fx.out.bG 6 rfl hgrow hown hat);simp only[sSq,sZq]at Ee;clear hown hgrow hat Fx hHeld p0 p1 p2 p3 p4 p5 f0 f1 f2 f3 f4 f5 zp q0 q1 q2 zq r0 r1 zr;obtain⟨p0,p1,p2,p3,p4,p5,⟨f0,f1,f2,f3,f4,f5⟩,zp,_,_⟩:=Ee.out.c6 2 rfl;obtain⟨q0,q1,q2,_,_,_,zq,_,_⟩:=Ee.out.c3 4 rfl;obtain⟨r0,r1,_,_,zr,_,_⟩:=Ee.out.c2 5 rfl;refine kpq hK.out fun hHeld=>?_;clear hK K;refine rdq 9 rfl fun K hK=>?_;go_simp;have FH:=hdq (((Ee.out.set 2 rfl 0 (.slice CR r.C.length CP)).set 2 rfl 1 (.int .i64 (s.most:Int))).set 2 rfl 2 (.slice Dc r.L.length Df));simp only[sSq,sZq,sAq]at FH;clear hHeld Ee p0 p1 p2 p3 p4 p5 f0 f1 f2 f3 f4 f5 zp q0 q1 q2 zq r0 r1 zr;obtain⟨p0,p1,p2,p3,p4,p5,⟨f0,f1,f2,f3,f4,f5⟩,zp,_,_⟩:=FH.out.c6 2 rfl;obtain⟨q0,q1,q2,_,_,_,zq,_,_⟩:=FH.out.c3 4 rfl;obtain⟨r0,r1,_,_,zr,_,_⟩:=FH.out.c2 5 rfl;refine kpq hK.out fun hHeld=>?_;clear hK K;refine nmq FH hHeld fun ws Ga hHeld=>?_;clear FH p0 p1 p2 p3 p4 p5 f0 f1 f2 f3 f4 f5 zp q0 q1 q2 zq r0 r1 zr;obtain⟨p0,p1,p2,p3,p4,p5,⟨f0,f1,f2,f3,f4,f5⟩,zp,_,_⟩:=Ga.out.c6 2 rfl;obtain⟨q0,q1,q2,_,_,_,zq,_,_⟩:=Ga.out.c3 4 rfl;obtain⟨r0,r1,_,_,zr,_,_⟩:=Ga.out.c2 5 rfl;refine tkq 10 28 ?_;refine rdq 11 rfl fun K hK=>?_;go_simp;have FT:=hdq (Ga.out.set 2 rfl 4 (.slice a35 (v.on+1) c35));simp only[sSq,sZq,sAq]at FT;clear hHeld Ga p0 p1 p2 p3 p4 p5 f0 f1 f2 f3 f4 f5 zp q0 q1 q2 zq r0 r1 zr;obtain⟨p0,p1,p2,p3,p4,p5,⟨f0,f1,f2,f3,f4,f5⟩,zp,_,_⟩:=FT.out.c6 2 rfl;obtain⟨q0,q1,q2,_,_,_,zq,_,_⟩:=FT.out.c3 4 rfl;obtain⟨r0,r1,_,_,zr,_,_⟩:=FT.out.c2 5 rfl;refine kpq hK.out fun hHeld=>?_;clear hK K;refine dnq ?_;refine ax (Q:=qA _) ?_;intro wz hwz;have HZ:=hdq (FT.out.toW (by with_reducible exact hwz));clear hwz hHeld FT p0 p1 p2 p3 p4 p5 f0 f1 f2 f3 f4 f5 zp q0 q1 q2 zq r0 r1 zr;have HX:=hdq (HZ.out.J7 0 1 2 3 6 rfl rfl rfl rfl rfl (by decide));clear HZ;exact oh _ _ (by kernel_rfl) HX
theorem zW(T:List Nat)(w:World)(v:RV)(s:Ar)(P:World->Prop)(cs:List Value)(th:Int)(ba:Option Addr)(bases:List MB)(bc:Nat)(ca:Option Addr)(conds:List Int)(cc:Nat)(h:BD T w w [di (.slice v.ca v.cn v.cc) (.slice v.la v.ln v.lc) s,aA P])(hm:v.most=(s.most:Int))(hP:∀W,P W->aG W v.sa 11 v.sn cs)(hcl:cs.length=v.sn*11)(hone:∀u∈cs,u.oneCell'=true)(hnn:v.sn<=100000)(hok:s.C.length+1<=s.most)(hA:∀W,P W->iJ W ba bases ca conds)(hbig:∀b∈bases,b.Big)(hright:nM v.hn v.on th bases conds):
  Calls Tryz.prog 151 #[v.val,.int .i64 th,.slice ba bases.length bc,.slice ca conds.length cc] w fun e w'=>∃v':RV,e= .returned (.tuple #[v'.val,.int .i64 (v.sn:Int),.int .i64 0])/\gJ 2 v v'/\BD T w w' [di (.slice v'.ca v'.cn v'.cc) (.slice v'.la v'.ln v'.lc) (s.au 1).1,aA fun W=>P W/\aG W v'.sa 11 (v.sn+1) (cs++[.int .i64 th,.slice ba bases.length bc,.slice ca conds.length cc,.int .i64 (s.C.length:Int),.bool false,.bool false,.int .i64 0,.int .i64 0,.int .i64 0,.slice none 0 0,.int .i64 0])]:=by
 obtain⟨i0,hi0,CY,CU,CX⟩:=info_parts mE;have HP:=hdq hP;have DW:=hdq hcl;have D8:=hdq hone;have CW:=hdq hnn;have EC:=hdq hok;have N9:Hid (IntKind.i64.wrap (v.sn:Int)=(v.sn:Int)):=by
  have :=CW.out;exact hdq (IntWalk.i64_in _ (by omega))
 have hen:=xk h;obtain⟨hcn,hln⟩:=hen;have BG:=hdq h;clear h hP hcl hone hnn hok;have F3:Hid (∀(W:World) (a:Option Addr) (c:Nat) (CR:Option Addr) (CP:Nat) (Dc:Option Addr) (Df:Nat),BD T w W [di (.slice CR (s.au 1).1.C.length CP) (.slice Dc (s.au 1).1.L.length Df) (s.au 1).1,aA P,aS 61 11 (.slice a (v.sn+1) c) (v.sn+1) (cs++[.int .i64 th,.slice ba bases.length bc,.slice ca conds.length cc,.int .i64 (s.C.length:Int),.bool false,.bool false,.int .i64 0,.int .i64 0,.int .i64 0,.slice none 0 0,.int .i64 0])]->∃v':RV,Ending.returned (.tuple #[.agg #[.slice CR (s.au 1).1.C.length CP,.int .i64 (s.most:Int),.slice Dc (s.au 1).1.L.length Df,.slice v.ha v.hn v.hc,.slice v.oa v.on v.oc,.slice a (v.sn+1) c],.int .i64 (v.sn:Int),.int .i64 0])= .returned (.tuple #[v'.val,.int .i64 (v.sn:Int),.int .i64 0])/\gJ 2 v v'/\BD T w W [di (.slice v'.ca v'.cn v'.cc) (.slice v'.la v'.ln v'.lc) (s.au 1).1,aA fun W=>P W/\aG W v'.sa 11 (v.sn+1) (cs++[.int .i64 th,.slice ba bases.length bc,.slice ca conds.length cc,.int .i64 (s.C.length:Int),.bool false,.bool false,.int .i64 0,.int .i64 0,.int .i64 0,.slice none 0 0,.int .i64 0])]):=by
  refine hdq (fun W a c CR CP Dc Df hL=>⟨{v with ca:=CR,cn:=(s.au 1).1.C.length,cc:=CP,la:=Dc,ln:=(s.au 1).1.L.length,lc:=Df,sa:=a,sn:=v.sn+1,sc:=c},?_,?_,?_⟩)
  .simp only[RV.val,hm]
  .simp[gJ]
  .exact(hL.settle (l:=[_,_]) 1 rfl (fun W f hPW hf=>⟨hPW,mg hf.2 rfl (by decide) (by have :=CW.out;omega)⟩))
 have HR:=hdq (fun W (hW:P W)=>zD v W th ba bases bc ca conds cc (hA W hW) hbig);have HRO:=hdq hright;clear hA hbig hright;have F4:Hid (BD T w w [di (.slice v.ca s.C.length v.cc) (.slice v.la s.L.length v.lc) s,aA P]):=by rw[hcn,hln]at BG;exact BG
 clear BG;unfold RV.val at HR|-;rw[hm,hcn,hln]at HR|-;go_enter Tryz.func151,Tryz.ntmps151
 go_wp2_with fail
 refine ah ?_;intro w1 hw1;have BB:=hdq (F4.out.DZ hw1);simp only[nAq,cAq]at BB;generalize Kj:w.heap.size+1=b8 at BB|-;generalize hb4:w.heap.size=b4 at BB|-;clear hw1 Kj hb4 F4;refine(HR.out _ (BB.out.still 1 rfl)).mono ?_;rintro e w1b ⟨b,rfl,hb,ht⟩;obtain rfl:b=true:=hb.2 HRO.out;have HL1b:=hdq (BB.out.touch ht);clear ht hb BB HR;obtain⟨p0,p1,p2,p3,p4,p5,⟨f0,f1,f2,f3,f4,f5⟩,zp,_,_⟩:=HL1b.out.c6 2 rfl;go_wp2_with fail
 have hA1:(s.au 1).2.1=s.C.length/\(s.au 1).2.2=0:=by
  have :=EC.out;unfold Ar.au;rw[if_neg (by omega),if_neg (by omega)];exact⟨rfl,rfl⟩
 clear p0 p1 p2 p3 p4 p5 f0 f1 f2 f3 f4 f5 zp;refine(HL1b.out.mO (E:=fun CQ Dk=> .tuple #[bI CQ s.most Dk,.int .i64 ((s.au 1).2.1:Int),.int .i64 ((s.au 1).2.2:Int)]) 0 rfl (fun T h=>rNew12 T _ _ _ s h)).mono ?_;rintro e w2 ⟨CQ,Dk,rfl,hL⟩;rw[hA1.1,hA1.2];clear hA1;obtain⟨CR,CP,rfl,_,_⟩:=aK (hL.bF 0 rfl).Dh;obtain⟨Dc,Df,rfl,_,_⟩:=aK (hL.bF 0 rfl).log;have HL2:=hdq hL;simp only[sZq,sSq]at HL2;clear hL HL1b;generalize hr:(s.au 1).1=r at HL2 F3|-;have HRR:=hdq hr;clear hr;unfold bI;go_upto_region 6 with fail
 refine ay ?_;intro w3 hw3;have BF:=hdq (HL2.out.DN hw3);simp only[nAq,cAq]at BF;generalize hb11:w2.heap.size=b11 at BF|-;clear hw3 hb11 HL2;have hbs:∀W,(Instr.build 61 #[(0,.int .i64 th),(1,.slice ba bases.length bc),(2,.slice ca conds.length cc),(3,.int .i64 (s.C.length:Int))]).run Tryz.prog W= .ok (.agg #[.int .i64 th,.slice ba bases.length bc,.slice ca conds.length cc,.int .i64 (s.C.length:Int),.bool false,.bool false,.int .i64 0,.int .i64 0,.int .i64 0,.slice none 0 0,.int .i64 0]) W:=fun W=>run_build W 61 _ _ (by kernel_rfl);refine Code.wp_mono (Q:=qA (Na (frBB b4 b8) (fun a c W=>Hid (BD T w W [di (.slice CR r.C.length CP) (.slice Dc r.L.length Df) r,aA P,box b4 38 #[.slice CR r.C.length CP,.int .i64 (s.most:Int),.slice Dc r.L.length Df,.slice v.ha v.hn v.hc,.slice v.oa v.on v.oc,.slice a (v.sn+1) c],box b8 38 #[.slice none 0 0,.int .i64 0,.slice none 0 0,.slice none 0 0,.slice none 0 0,.slice none 0 0],aS 61 11 (.slice a (v.sn+1) c) (v.sn+1) (cs++[.int .i64 th,.slice ba bases.length bc,.slice ca conds.length cc,.int .i64 (s.C.length:Int),.bool false,.bool false,.int .i64 0,.int .i64 0,.int .i64 0,.slice none 0 0,.int .i64 0])])))) ?hrest ?Fv
 case hrest=>
  intro ex A V hex;cases ex<;>first |exact hex.elim|skip
  obtain⟨ad,cd,u,rfl,HX⟩:=hex;clear BF;simp only[frBB];go_upto_region 7 with fail
  have BM:=hdq HX.out.drew;clear HX;obtain⟨p0,p1,p2,p3,p4,p5,⟨f0,f1,f2,f3,f4,f5⟩,zp,_,_⟩:=BM.out.c6 2 rfl;refine hrq (S:=fun w'=>w'.cell? ⟨b4,0,none⟩=some (.slice CR r.C.length CP)/\w'.cell? ⟨b4,1,none⟩=some (.int .i64 (s.most:Int))/\w'.cell? ⟨b4,2,none⟩=some (.slice Dc r.L.length Df)/\w'.cell? ⟨b4,3,none⟩=some (.slice v.ha v.hn v.hc)/\w'.cell? ⟨b4,4,none⟩=some (.slice v.oa v.on v.oc)/\w'.cell? ⟨b4,5,none⟩=some (.slice ad (v.sn+1) cd)) fun hHeld=>?_;refine nmq BM hHeld fun wq HX hHeld=>?_;clear BM p0 p1 p2 p3 p4 p5 f0 f1 f2 f3 f4 f5 zp;obtain⟨p0,p1,p2,p3,p4,p5,⟨f0,f1,f2,f3,f4,f5⟩,zp,_,_⟩:=HX.out.c6 2 rfl;refine tkq 0 46 ?_;refine tkq 1 47 ?_;refine tkq 2 48 ?_;refine tkq 3 49 ?_;refine tkq 4 50 ?_;refine DU (m:=[]) 5 3 HX rfl (fun _ h9=>?_) fun w5 HY hHeld=>?_
  .obtain⟨p0,p1,p2,p3,p4,p5,_,_,_,_⟩:=h9.c6 2 rfl
   exact⟨p0,p1,p2,p3,p4,p5⟩
  clear p0 p1 p2 p3 p4 p5 f0 f1 f2 f3 f4 f5 zp;obtain⟨p0,p1,p2,p3,p4,p5,⟨f0,f1,f2,f3,f4,f5⟩,zp,_,_⟩:=HY.out.c6 2 rfl;clear hHeld;refine opq 6 fun hHeld=>?_;clear hHeld;refine opq 7 fun hHeld=>?_;refine dxq HY fun wy HW=>?_;clear hHeld HY HX p0 p1 p2 p3 p4 p5 f0 f1 f2 f3 f4 f5 zp;obtain⟨q0,q1,q2,q3,q4,q5,_,_,_,_⟩:=HW.out.c6 3 rfl;go_wp2;refine bodyPost_ret (v:= .tuple #[.agg #[.slice CR r.C.length CP,.int .i64 (s.most:Int),.slice Dc r.L.length Df,.slice v.ha v.hn v.hc,.slice v.oa v.on v.oc,.slice ad (v.sn+1) cd],.int .i64 (v.sn:Int),.int .i64 0]) (by simp[results,Tryz.results151,go_sem,q0,q1,q2,q3,q4,q5,N9.out]) rfl ?_;obtain⟨v9,h91,h92,O4⟩:=F3.out _ ad cd CR CP Dc Df (HW.out.sel [0,1,4] rfl (by decide));exact⟨v9,h91,h92,by first |exact O4|(rw[HRR.out];exact O4)⟩
 case Fv=>
  apply xU
  case h=>
   intro HM;have BM:=hdq BF.out.drew;obtain⟨p0,p1,p2,p3,p4,p5,⟨f0,f1,f2,f3,f4,f5⟩,zp,_,_⟩:=BM.out.c6 2 rfl;obtain⟨q0,q1,q2,_,_,_,zq,_,_⟩:=BM.out.c3 4 rfl;refine hrq (S:=fun w'=>w'.cell? ⟨b11,0,none⟩=some (.slice CR r.C.length CP)/\w'.cell? ⟨b11,1,none⟩=some (.int .i64 (s.most:Int))/\w'.cell? ⟨b11,2,none⟩=some (.slice Dc r.L.length Df)) fun hHeld=>?_;refine nmq BM hHeld fun w4 BH hHeld=>?_;clear BM p0 p1 p2 p3 p4 p5 f0 f1 f2 f3 f4 f5 zp q0 q1 q2 zq;obtain⟨p0,p1,p2,p3,p4,p5,⟨f0,f1,f2,f3,f4,f5⟩,zp,_,_⟩:=BH.out.c6 2 rfl;obtain⟨q0,q1,q2,_,_,_,zq,_,_⟩:=BH.out.c3 4 rfl;refine tkq 0 32 ?_;refine tkq 2 34 ?_;refine tkq 5 37 ?_;refine tkq 6 38 ?_;refine tkq 7 39 ?_;refine tkq 8 40 ?_;refine tkq 9 41 ?_;refine wpAnyH_ready (rs:=[1,3,10]) (by kernel_rfl) (by simp) ?_;refine AllReadyH.cons rfl (fun K hK=>?_) (AllReadyH.cons rfl (fun K hK=>?_) (AllReadyH.cons rfl (fun K hK=>?_) AllReadyH.nil))
   .go_simp
    have Cf:=hdq (BH.out.empty 61 11);simp only[cAq,nAq]at Cf;generalize I7:w4.alloc (.cells #[] 61)=GL at Cf|-;generalize Hw:w4.heap.size=g10 at Cf|-;clear I7 Hw BH hHeld p0 p1 p2 p3 p4 p5 f0 f1 f2 f3 f4 f5 zp q0 q1 q2 zq;obtain⟨p0,p1,p2,p3,p4,p5,⟨f0,f1,f2,f3,f4,f5⟩,zp,_,_⟩:=Cf.out.c6 2 rfl;obtain⟨q0,q1,q2,_,_,_,zq,_,_⟩:=Cf.out.c3 4 rfl;refine kpq hK.out fun hHeld=>?_;clear hK K;refine wpAnyH_ready (rs:=[3,10]) (by kernel_rfl) (by simp) ?_;refine AllReadyH.cons rfl (fun K hK=>?_) (AllReadyH.cons rfl (fun K hK=>?_) AllReadyH.nil)
    .go_simp
     clear hHeld;refine kpq hK.out fun hHeld=>?_;clear hK K;refine tkq 12 44 ?_;refine wpAnyH_ready (rs:=[4,10]) (by kernel_rfl) (by simp) ?_;refine AllReadyH.cons rfl (fun K hK=>?_) (AllReadyH.cons rfl (fun K hK=>?_) AllReadyH.nil)
     .refine aD _ (by rfl) (.tmp 33) (.tmp 35) 36 (by rfl) 61 i0 _ 11 128 Tryz.underlying36 hi0 CY CU CX rfl (by decide) (.slice (some ⟨g10,0,none⟩) 0 0) 0 [] (by rfl) (Cf.out.aZ 5 rfl) v.sa v.sn v.sc cs (by rfl) DW.out (aG.iI (HP.out _ (Cf.out.still 1 rfl)) DW.out (by omega)) D8.out (by simp only[maxLen];have :=CW.out;omega) (by have :=CW.out;omega) ?_
      intro a12 c12 LQ hown hgrow hat;simp only[Nat.zero_add,nAq]at hown hat|-;have DL:=hdq (Cf.out.bG 5 rfl hgrow hown hat);simp only[sSq,sZq]at DL;clear hown hgrow hat Cf hHeld p0 p1 p2 p3 p4 p5 f0 f1 f2 f3 f4 f5 zp q0 q1 q2 zq;obtain⟨p0,p1,p2,p3,p4,p5,⟨f0,f1,f2,f3,f4,f5⟩,zp,_,_⟩:=DL.out.c6 2 rfl;obtain⟨q0,q1,q2,_,_,_,zq,_,_⟩:=DL.out.c3 4 rfl;refine kpq hK.out fun hHeld=>?_;clear hK K;refine rdq 10 rfl fun K hK=>?_;go_simp;have DI:=hdq (DL.out.alloc 61 #[.int .i64 th,.slice ba bases.length bc,.slice ca conds.length cc,.int .i64 (s.C.length:Int),.bool false,.bool false,.int .i64 0,.int .i64 0,.int .i64 0,.slice none 0 0,.int .i64 0]);simp only[cAq,nAq]at DI;generalize J4:LQ.alloc (.cells #[.int .i64 th,.slice ba bases.length bc,.slice ca conds.length cc,.int .i64 (s.C.length:Int),.bool false,.bool false,.int .i64 0,.int .i64 0,.int .i64 0,.slice none 0 0,.int .i64 0] 61)=w13 at DI|-;generalize I6:LQ.heap.size=g13 at DI|-;clear J4 I6 DL hHeld p0 p1 p2 p3 p4 p5 f0 f1 f2 f3 f4 f5 zp q0 q1 q2 zq;obtain⟨p0,p1,p2,p3,p4,p5,⟨f0,f1,f2,f3,f4,f5⟩,zp,_,_⟩:=DI.out.c6 2 rfl;obtain⟨q0,q1,q2,_,_,_,zq,_,_⟩:=DI.out.c3 4 rfl;refine kpq hK.out fun hHeld=>?_;clear hK K;exact HM g10 a12 c12 g13 w13 (hdq (DI.out.oC 0 1 2 3 4 5 6 rfl rfl rfl rfl rfl rfl rfl (by decide))) hHeld
     .go_simp
      have Dn:=hdq (Cf.out.alloc 61 #[.int .i64 th,.slice ba bases.length bc,.slice ca conds.length cc,.int .i64 (s.C.length:Int),.bool false,.bool false,.int .i64 0,.int .i64 0,.int .i64 0,.slice none 0 0,.int .i64 0]);simp only[cAq,nAq]at Dn;generalize KQ:GL.alloc (.cells #[.int .i64 th,.slice ba bases.length bc,.slice ca conds.length cc,.int .i64 (s.C.length:Int),.bool false,.bool false,.int .i64 0,.int .i64 0,.int .i64 0,.slice none 0 0,.int .i64 0] 61)=w14 at Dn|-;generalize IV:GL.heap.size=g14 at Dn|-;clear KQ IV Cf hHeld p0 p1 p2 p3 p4 p5 f0 f1 f2 f3 f4 f5 zp q0 q1 q2 zq;obtain⟨p0,p1,p2,p3,p4,p5,⟨f0,f1,f2,f3,f4,f5⟩,zp,_,_⟩:=Dn.out.c6 2 rfl;obtain⟨q0,q1,q2,_,_,_,zq,_,_⟩:=Dn.out.c3 4 rfl;refine kpq hK.out fun hHeld=>?_;clear hK K;refine rdq 4 rfl fun K hK=>?_;refine aD _ (by rfl) (.tmp 33) (.tmp 35) 36 (by rfl) 61 i0 _ 11 128 Tryz.underlying36 hi0 CY CU CX rfl (by decide) (.slice (some ⟨g10,0,none⟩) 0 0) 0 [] (by rfl) (Dn.out.aZ 5 rfl) v.sa v.sn v.sc cs (by rfl) DW.out (aG.iI (HP.out _ (Dn.out.still 1 rfl)) DW.out (by omega)) D8.out (by simp only[maxLen];have :=CW.out;omega) (by have :=CW.out;omega) ?_;intro a15 c15 w15 hown hgrow hat;simp only[Nat.zero_add,nAq]at hown hat|-;have Ew:=hdq (Dn.out.bG 5 rfl hgrow hown hat);simp only[sSq,sZq]at Ew;clear hown hgrow hat Dn hHeld p0 p1 p2 p3 p4 p5 f0 f1 f2 f3 f4 f5 zp q0 q1 q2 zq;obtain⟨p0,p1,p2,p3,p4,p5,⟨f0,f1,f2,f3,f4,f5⟩,zp,_,_⟩:=Ew.out.c6 2 rfl;obtain⟨q0,q1,q2,_,_,_,zq,_,_⟩:=Ew.out.c3 4 rfl;refine kpq hK.out fun hHeld=>?_;clear hK K;exact HM g10 a15 c15 g14 w15 (hdq (Ew.out.oC 0 1 2 3 4 5 6 rfl rfl rfl rfl rfl rfl rfl (by decide))) hHeld
    .go_simp
     have Dx:=hdq (Cf.out.alloc 61 #[.int .i64 th,.slice ba bases.length bc,.slice ca conds.length cc,.int .i64 (s.C.length:Int),.bool false,.bool false,.int .i64 0,.int .i64 0,.int .i64 0,.slice none 0 0,.int .i64 0]);simp only[cAq,nAq]at Dx;generalize hw16:GL.alloc (.cells #[.int .i64 th,.slice ba bases.length bc,.slice ca conds.length cc,.int .i64 (s.C.length:Int),.bool false,.bool false,.int .i64 0,.int .i64 0,.int .i64 0,.slice none 0 0,.int .i64 0] 61)=w16 at Dx|-;generalize H8:GL.heap.size=g16 at Dx|-;clear hw16 H8 Cf hHeld p0 p1 p2 p3 p4 p5 f0 f1 f2 f3 f4 f5 zp q0 q1 q2 zq;obtain⟨p0,p1,p2,p3,p4,p5,⟨f0,f1,f2,f3,f4,f5⟩,zp,_,_⟩:=Dx.out.c6 2 rfl;obtain⟨q0,q1,q2,_,_,_,zq,_,_⟩:=Dx.out.c3 4 rfl;refine kpq hK.out fun hHeld=>?_;clear hK K;clear hHeld;refine opq 3 fun hHeld=>?_;refine tkq 12 44 ?_;refine rdq 4 rfl fun K hK=>?_;refine aD _ (by rfl) (.tmp 33) (.tmp 35) 36 (by rfl) 61 i0 _ 11 128 Tryz.underlying36 hi0 CY CU CX rfl (by decide) (.slice (some ⟨g10,0,none⟩) 0 0) 0 [] (by rfl) (Dx.out.aZ 5 rfl) v.sa v.sn v.sc cs (by rfl) DW.out (aG.iI (HP.out _ (Dx.out.still 1 rfl)) DW.out (by omega)) D8.out (by simp only[maxLen];have :=CW.out;omega) (by have :=CW.out;omega) ?_;intro a18 c18 w18 hown hgrow hat;simp only[Nat.zero_add,nAq]at hown hat|-;have Et:=hdq (Dx.out.bG 5 rfl hgrow hown hat);simp only[sSq,sZq]at Et;clear hown hgrow hat Dx hHeld p0 p1 p2 p3 p4 p5 f0 f1 f2 f3 f4 f5 zp q0 q1 q2 zq;obtain⟨p0,p1,p2,p3,p4,p5,⟨f0,f1,f2,f3,f4,f5⟩,zp,_,_⟩:=Et.out.c6 2 rfl;obtain⟨q0,q1,q2,_,_,_,zq,_,_⟩:=Et.out.c3 4 rfl;refine kpq hK.out fun hHeld=>?_;clear hK K;exact HM g10 a18 c18 g16 w18 (hdq (Et.out.oC 0 1 2 3 4 5 6 rfl rfl rfl rfl rfl rfl rfl (by decide))) hHeld
   .go_simp
    clear hHeld;refine kpq hK.out fun hHeld=>?_;clear hK K;refine tkq 12 44 ?_;refine wpAnyH_ready (rs:=[1,10]) (by kernel_rfl) (by simp) ?_;refine AllReadyH.cons rfl (fun K hK=>?_) (AllReadyH.cons rfl (fun K hK=>?_) AllReadyH.nil)
    .go_simp
     have CS:=hdq (BH.out.empty 61 11);simp only[cAq,nAq]at CS;generalize Js:w4.alloc (.cells #[] 61)=Nc at CS|-;generalize Iy:w4.heap.size=g20 at CS|-;clear Js Iy BH hHeld p0 p1 p2 p3 p4 p5 f0 f1 f2 f3 f4 f5 zp q0 q1 q2 zq;obtain⟨p0,p1,p2,p3,p4,p5,⟨f0,f1,f2,f3,f4,f5⟩,zp,_,_⟩:=CS.out.c6 2 rfl;obtain⟨q0,q1,q2,_,_,_,zq,_,_⟩:=CS.out.c3 4 rfl;refine kpq hK.out fun hHeld=>?_;clear hK K;refine wpAnyH_ready (rs:=[4,10]) (by kernel_rfl) (by simp) ?_;refine AllReadyH.cons rfl (fun K hK=>?_) (AllReadyH.cons rfl (fun K hK=>?_) AllReadyH.nil)
     .refine aD _ (by rfl) (.tmp 33) (.tmp 35) 36 (by rfl) 61 i0 _ 11 128 Tryz.underlying36 hi0 CY CU CX rfl (by decide) (.slice (some ⟨g20,0,none⟩) 0 0) 0 [] (by rfl) (CS.out.aZ 5 rfl) v.sa v.sn v.sc cs (by rfl) DW.out (aG.iI (HP.out _ (CS.out.still 1 rfl)) DW.out (by omega)) D8.out (by simp only[maxLen];have :=CW.out;omega) (by have :=CW.out;omega) ?_
      intro a21 c21 Nz hown hgrow hat;simp only[Nat.zero_add,nAq]at hown hat|-;have Eg:=hdq (CS.out.bG 5 rfl hgrow hown hat);simp only[sSq,sZq]at Eg;clear hown hgrow hat CS hHeld p0 p1 p2 p3 p4 p5 f0 f1 f2 f3 f4 f5 zp q0 q1 q2 zq;obtain⟨p0,p1,p2,p3,p4,p5,⟨f0,f1,f2,f3,f4,f5⟩,zp,_,_⟩:=Eg.out.c6 2 rfl;obtain⟨q0,q1,q2,_,_,_,zq,_,_⟩:=Eg.out.c3 4 rfl;refine kpq hK.out fun hHeld=>?_;clear hK K;refine rdq 10 rfl fun K hK=>?_;go_simp;have D7:=hdq (Eg.out.alloc 61 #[.int .i64 th,.slice ba bases.length bc,.slice ca conds.length cc,.int .i64 (s.C.length:Int),.bool false,.bool false,.int .i64 0,.int .i64 0,.int .i64 0,.slice none 0 0,.int .i64 0]);simp only[cAq,nAq]at D7;generalize Kc:Nz.alloc (.cells #[.int .i64 th,.slice ba bases.length bc,.slice ca conds.length cc,.int .i64 (s.C.length:Int),.bool false,.bool false,.int .i64 0,.int .i64 0,.int .i64 0,.slice none 0 0,.int .i64 0] 61)=w22 at D7|-;generalize K9:Nz.heap.size=g22 at D7|-;clear Kc K9 Eg hHeld p0 p1 p2 p3 p4 p5 f0 f1 f2 f3 f4 f5 zp q0 q1 q2 zq;obtain⟨p0,p1,p2,p3,p4,p5,⟨f0,f1,f2,f3,f4,f5⟩,zp,_,_⟩:=D7.out.c6 2 rfl;obtain⟨q0,q1,q2,_,_,_,zq,_,_⟩:=D7.out.c3 4 rfl;refine kpq hK.out fun hHeld=>?_;clear hK K;exact HM g20 a21 c21 g22 w22 (hdq (D7.out.oC 0 1 2 3 4 5 6 rfl rfl rfl rfl rfl rfl rfl (by decide))) hHeld
     .go_simp
      have Dv:=hdq (CS.out.alloc 61 #[.int .i64 th,.slice ba bases.length bc,.slice ca conds.length cc,.int .i64 (s.C.length:Int),.bool false,.bool false,.int .i64 0,.int .i64 0,.int .i64 0,.slice none 0 0,.int .i64 0]);simp only[cAq,nAq]at Dv;generalize Ky:Nc.alloc (.cells #[.int .i64 th,.slice ba bases.length bc,.slice ca conds.length cc,.int .i64 (s.C.length:Int),.bool false,.bool false,.int .i64 0,.int .i64 0,.int .i64 0,.slice none 0 0,.int .i64 0] 61)=w23 at Dv|-;generalize KU:Nc.heap.size=g23 at Dv|-;clear Ky KU CS hHeld p0 p1 p2 p3 p4 p5 f0 f1 f2 f3 f4 f5 zp q0 q1 q2 zq;obtain⟨p0,p1,p2,p3,p4,p5,⟨f0,f1,f2,f3,f4,f5⟩,zp,_,_⟩:=Dv.out.c6 2 rfl;obtain⟨q0,q1,q2,_,_,_,zq,_,_⟩:=Dv.out.c3 4 rfl;refine kpq hK.out fun hHeld=>?_;clear hK K;refine rdq 4 rfl fun K hK=>?_;refine aD _ (by rfl) (.tmp 33) (.tmp 35) 36 (by rfl) 61 i0 _ 11 128 Tryz.underlying36 hi0 CY CU CX rfl (by decide) (.slice (some ⟨g20,0,none⟩) 0 0) 0 [] (by rfl) (Dv.out.aZ 5 rfl) v.sa v.sn v.sc cs (by rfl) DW.out (aG.iI (HP.out _ (Dv.out.still 1 rfl)) DW.out (by omega)) D8.out (by simp only[maxLen];have :=CW.out;omega) (by have :=CW.out;omega) ?_;intro a24 c24 w24 hown hgrow hat;simp only[Nat.zero_add,nAq]at hown hat|-;have Ez:=hdq (Dv.out.bG 5 rfl hgrow hown hat);simp only[sSq,sZq]at Ez;clear hown hgrow hat Dv hHeld p0 p1 p2 p3 p4 p5 f0 f1 f2 f3 f4 f5 zp q0 q1 q2 zq;obtain⟨p0,p1,p2,p3,p4,p5,⟨f0,f1,f2,f3,f4,f5⟩,zp,_,_⟩:=Ez.out.c6 2 rfl;obtain⟨q0,q1,q2,_,_,_,zq,_,_⟩:=Ez.out.c3 4 rfl;refine kpq hK.out fun hHeld=>?_;clear hK K;exact HM g20 a24 c24 g23 w24 (hdq (Ez.out.oC 0 1 2 3 4 5 6 rfl rfl rfl rfl rfl rfl rfl (by decide))) hHeld
    .go_simp
     have DV:=hdq (BH.out.alloc 61 #[.int .i64 th,.slice ba bases.length bc,.slice ca conds.length cc,.int .i64 (s.C.length:Int),.bool false,.bool false,.int .i64 0,.int .i64 0,.int .i64 0,.slice none 0 0,.int .i64 0]);simp only[cAq,nAq]at DV;generalize Jd:w4.alloc (.cells #[.int .i64 th,.slice ba bases.length bc,.slice ca conds.length cc,.int .i64 (s.C.length:Int),.bool false,.bool false,.int .i64 0,.int .i64 0,.int .i64 0,.slice none 0 0,.int .i64 0] 61)=Mh at DV|-;generalize Ia:w4.heap.size=g25 at DV|-;clear Jd Ia BH hHeld p0 p1 p2 p3 p4 p5 f0 f1 f2 f3 f4 f5 zp q0 q1 q2 zq;obtain⟨p0,p1,p2,p3,p4,p5,⟨f0,f1,f2,f3,f4,f5⟩,zp,_,_⟩:=DV.out.c6 2 rfl;obtain⟨q0,q1,q2,_,_,_,zq,_,_⟩:=DV.out.c3 4 rfl;refine kpq hK.out fun hHeld=>?_;clear hK K;refine rdq 1 rfl fun K hK=>?_;go_simp;have Dy:=hdq (DV.out.empty 61 11);simp only[cAq,nAq]at Dy;generalize Jh:Mh.alloc (.cells #[] 61)=w26 at Dy|-;generalize Lf:Mh.heap.size=OP at Dy|-;clear Jh Lf DV hHeld p0 p1 p2 p3 p4 p5 f0 f1 f2 f3 f4 f5 zp q0 q1 q2 zq;obtain⟨p0,p1,p2,p3,p4,p5,⟨f0,f1,f2,f3,f4,f5⟩,zp,_,_⟩:=Dy.out.c6 2 rfl;obtain⟨q0,q1,q2,_,_,_,zq,_,_⟩:=Dy.out.c3 4 rfl;refine kpq hK.out fun hHeld=>?_;clear hK K;refine rdq 4 rfl fun K hK=>?_;refine aD _ (by rfl) (.tmp 33) (.tmp 35) 36 (by rfl) 61 i0 _ 11 128 Tryz.underlying36 hi0 CY CU CX rfl (by decide) (.slice (some ⟨OP,0,none⟩) 0 0) 0 [] (by rfl) (Dy.out.aZ 6 rfl) v.sa v.sn v.sc cs (by rfl) DW.out (aG.iI (HP.out _ (Dy.out.still 1 rfl)) DW.out (by omega)) D8.out (by simp only[maxLen];have :=CW.out;omega) (by have :=CW.out;omega) ?_;intro a27 c27 w27 hown hgrow hat;simp only[Nat.zero_add,nAq]at hown hat|-;have Es:=hdq (Dy.out.bG 6 rfl hgrow hown hat);simp only[sSq,sZq]at Es;clear hown hgrow hat Dy hHeld p0 p1 p2 p3 p4 p5 f0 f1 f2 f3 f4 f5 zp q0 q1 q2 zq;obtain⟨p0,p1,p2,p3,p4,p5,⟨f0,f1,f2,f3,f4,f5⟩,zp,_,_⟩:=Es.out.c6 2 rfl;obtain⟨q0,q1,q2,_,_,_,zq,_,_⟩:=Es.out.c3 4 rfl;refine kpq hK.out fun hHeld=>?_;clear hK K;exact HM OP a27 c27 g25 w27 (hdq (Es.out.oC 0 1 2 3 4 6 5 rfl rfl rfl rfl rfl rfl rfl (by decide))) hHeld
   .go_simp
    have Dz:=hdq (BH.out.alloc 61 #[.int .i64 th,.slice ba bases.length bc,.slice ca conds.length cc,.int .i64 (s.C.length:Int),.bool false,.bool false,.int .i64 0,.int .i64 0,.int .i64 0,.slice none 0 0,.int .i64 0]);simp only[cAq,nAq]at Dz;generalize Kw:w4.alloc (.cells #[.int .i64 th,.slice ba bases.length bc,.slice ca conds.length cc,.int .i64 (s.C.length:Int),.bool false,.bool false,.int .i64 0,.int .i64 0,.int .i64 0,.slice none 0 0,.int .i64 0] 61)=GV at Dz|-;generalize Jt:w4.heap.size=O1 at Dz|-;clear Kw Jt BH hHeld p0 p1 p2 p3 p4 p5 f0 f1 f2 f3 f4 f5 zp q0 q1 q2 zq;obtain⟨p0,p1,p2,p3,p4,p5,⟨f0,f1,f2,f3,f4,f5⟩,zp,_,_⟩:=Dz.out.c6 2 rfl;obtain⟨q0,q1,q2,_,_,_,zq,_,_⟩:=Dz.out.c3 4 rfl;refine kpq hK.out fun hHeld=>?_;clear hK K;refine wpAnyH_ready (rs:=[1,3]) (by kernel_rfl) (by simp) ?_;refine AllReadyH.cons rfl (fun K hK=>?_) (AllReadyH.cons rfl (fun K hK=>?_) AllReadyH.nil)
    .go_simp
     have Dm:=hdq (Dz.out.empty 61 11);simp only[cAq,nAq]at Dm;generalize J2:GV.alloc (.cells #[] 61)=w29 at Dm|-;generalize IL:GV.heap.size=OL at Dm|-;clear J2 IL Dz hHeld p0 p1 p2 p3 p4 p5 f0 f1 f2 f3 f4 f5 zp q0 q1 q2 zq;obtain⟨p0,p1,p2,p3,p4,p5,⟨f0,f1,f2,f3,f4,f5⟩,zp,_,_⟩:=Dm.out.c6 2 rfl;obtain⟨q0,q1,q2,_,_,_,zq,_,_⟩:=Dm.out.c3 4 rfl;refine kpq hK.out fun hHeld=>?_;clear hK K;clear hHeld;refine opq 3 fun hHeld=>?_;refine tkq 12 44 ?_;refine rdq 4 rfl fun K hK=>?_;refine aD _ (by rfl) (.tmp 33) (.tmp 35) 36 (by rfl) 61 i0 _ 11 128 Tryz.underlying36 hi0 CY CU CX rfl (by decide) (.slice (some ⟨OL,0,none⟩) 0 0) 0 [] (by rfl) (Dm.out.aZ 6 rfl) v.sa v.sn v.sc cs (by rfl) DW.out (aG.iI (HP.out _ (Dm.out.still 1 rfl)) DW.out (by omega)) D8.out (by simp only[maxLen];have :=CW.out;omega) (by have :=CW.out;omega) ?_;intro a31 c31 w31 hown hgrow hat;simp only[Nat.zero_add,nAq]at hown hat|-;have Ey:=hdq (Dm.out.bG 6 rfl hgrow hown hat);simp only[sSq,sZq]at Ey;clear hown hgrow hat Dm hHeld p0 p1 p2 p3 p4 p5 f0 f1 f2 f3 f4 f5 zp q0 q1 q2 zq;obtain⟨p0,p1,p2,p3,p4,p5,⟨f0,f1,f2,f3,f4,f5⟩,zp,_,_⟩:=Ey.out.c6 2 rfl;obtain⟨q0,q1,q2,_,_,_,zq,_,_⟩:=Ey.out.c3 4 rfl;refine kpq hK.out fun hHeld=>?_;clear hK K;exact HM OL a31 c31 O1 w31 (hdq (Ey.out.oC 0 1 2 3 4 6 5 rfl rfl rfl rfl rfl rfl rfl (by decide))) hHeld
    .go_simp
     clear hHeld;refine kpq hK.out fun hHeld=>?_;clear hK K;refine tkq 12 44 ?_;refine rdq 1 rfl fun K hK=>?_;go_simp;have Dw:=hdq (Dz.out.empty 61 11);simp only[cAq,nAq]at Dw;generalize K4:GV.alloc (.cells #[] 61)=w33 at Dw|-;generalize KZ:GV.heap.size=OV at Dw|-;clear K4 KZ Dz hHeld p0 p1 p2 p3 p4 p5 f0 f1 f2 f3 f4 f5 zp q0 q1 q2 zq;obtain⟨p0,p1,p2,p3,p4,p5,⟨f0,f1,f2,f3,f4,f5⟩,zp,_,_⟩:=Dw.out.c6 2 rfl;obtain⟨q0,q1,q2,_,_,_,zq,_,_⟩:=Dw.out.c3 4 rfl;refine kpq hK.out fun hHeld=>?_;clear hK K;refine rdq 4 rfl fun K hK=>?_;refine aD _ (by rfl) (.tmp 33) (.tmp 35) 36 (by rfl) 61 i0 _ 11 128 Tryz.underlying36 hi0 CY CU CX rfl (by decide) (.slice (some ⟨OV,0,none⟩) 0 0) 0 [] (by rfl) (Dw.out.aZ 6 rfl) v.sa v.sn v.sc cs (by rfl) DW.out (aG.iI (HP.out _ (Dw.out.still 1 rfl)) DW.out (by omega)) D8.out (by simp only[maxLen];have :=CW.out;omega) (by have :=CW.out;omega) ?_;intro a34 c34 w34 hown hgrow hat;simp only[Nat.zero_add,nAq]at hown hat|-;have Eu:=hdq (Dw.out.bG 6 rfl hgrow hown hat);simp only[sSq,sZq]at Eu;clear hown hgrow hat Dw hHeld p0 p1 p2 p3 p4 p5 f0 f1 f2 f3 f4 f5 zp q0 q1 q2 zq;obtain⟨p0,p1,p2,p3,p4,p5,⟨f0,f1,f2,f3,f4,f5⟩,zp,_,_⟩:=Eu.out.c6 2 rfl;obtain⟨q0,q1,q2,_,_,_,zq,_,_⟩:=Eu.out.c3 4 rfl;refine kpq hK.out fun hHeld=>?_;clear hK K;exact HM OV a34 c34 O1 w34 (hdq (Eu.out.oC 0 1 2 3 4 6 5 rfl rfl rfl rfl rfl rfl rfl (by decide))) hHeld
  case k=>
   intro g1m am cm g6m wm Fx hHeld;obtain⟨p0,p1,p2,p3,p4,p5,⟨f0,f1,f2,f3,f4,f5⟩,zp,_,_⟩:=Fx.out.c6 2 rfl;obtain⟨q0,q1,q2,_,_,_,zq,_,_⟩:=Fx.out.c3 4 rfl;refine rdq 11 rfl fun K hK=>?_;refine aD _ (by rfl) (.tmp 36) (.tmp 42) 36 (by rfl) 61 i0 _ 11 128 Tryz.underlying36 hi0 CY CU CX rfl (by decide) (.slice am v.sn cm) v.sn cs (by rfl) (Fx.out.aZ 5 rfl) (some ⟨g6m,0,none⟩) 1 1 [.int .i64 th,.slice ba bases.length bc,.slice ca conds.length cc,.int .i64 (s.C.length:Int),.bool false,.bool false,.int .i64 0,.int .i64 0,.int .i64 0,.slice none 0 0,.int .i64 0] (by rfl) rfl (.inr ⟨_,rfl,xC (Fx.out.box 6 rfl)⟩) (by simp[Value.oneCell']) (by simp only[maxLen];have :=CW.out;omega) (by have :=CW.out;omega) ?_;intro a35 c35 w35 hown hgrow hat;have Ee:=hdq (Fx.out.bG 5 rfl hgrow hown hat);simp only[sSq,sZq]at Ee;clear hown hgrow hat Fx hHeld p0 p1 p2 p3 p4 p5 f0 f1 f2 f3 f4 f5 zp q0 q1 q2 zq;obtain⟨p0,p1,p2,p3,p4,p5,⟨f0,f1,f2,f3,f4,f5⟩,zp,_,_⟩:=Ee.out.c6 2 rfl;obtain⟨q0,q1,q2,_,_,_,zq,_,_⟩:=Ee.out.c3 4 rfl;refine kpq hK.out fun hHeld=>?_;clear hK K;refine rdq 13 rfl fun K hK=>?_;go_simp;have FH:=hdq (((Ee.out.set 2 rfl 0 (.slice CR r.C.length CP)).set 2 rfl 1 (.int .i64 (s.most:Int))).set 2 rfl 2 (.slice Dc r.L.length Df));simp only[sSq,sZq,sAq]at FH;clear hHeld Ee p0 p1 p2 p3 p4 p5 f0 f1 f2 f3 f4 f5 zp q0 q1 q2 zq;obtain⟨p0,p1,p2,p3,p4,p5,⟨f0,f1,f2,f3,f4,f5⟩,zp,_,_⟩:=FH.out.c6 2 rfl;obtain⟨q0,q1,q2,_,_,_,zq,_,_⟩:=FH.out.c3 4 rfl;refine kpq hK.out fun hHeld=>?_;clear hK K;refine nmq FH hHeld fun ws Ga hHeld=>?_;clear FH p0 p1 p2 p3 p4 p5 f0 f1 f2 f3 f4 f5 zp q0 q1 q2 zq;obtain⟨p0,p1,p2,p3,p4,p5,⟨f0,f1,f2,f3,f4,f5⟩,zp,_,_⟩:=Ga.out.c6 2 rfl;obtain⟨q0,q1,q2,_,_,_,zq,_,_⟩:=Ga.out.c3 4 rfl;refine tkq 14 45 ?_;refine rdq 15 rfl fun K hK=>?_;go_simp;have FT:=hdq (Ga.out.set 2 rfl 5 (.slice a35 (v.sn+1) c35));simp only[sSq,sZq,sAq]at FT;clear hHeld Ga p0 p1 p2 p3 p4 p5 f0 f1 f2 f3 f4 f5 zp q0 q1 q2 zq;obtain⟨p0,p1,p2,p3,p4,p5,⟨f0,f1,f2,f3,f4,f5⟩,zp,_,_⟩:=FT.out.c6 2 rfl;obtain⟨q0,q1,q2,_,_,_,zq,_,_⟩:=FT.out.c3 4 rfl;refine kpq hK.out fun hHeld=>?_;clear hK K;refine dnq ?_;refine ax (Q:=qA _) ?_;intro wz hwz;have HZ:=hdq (FT.out.toW (by with_reducible exact hwz));clear hwz hHeld FT p0 p1 p2 p3 p4 p5 f0 f1 f2 f3 f4 f5 zp q0 q1 q2 zq;have HX:=hdq (HZ.out.J7 0 1 2 3 5 rfl rfl rfl rfl rfl (by decide));clear HZ;exact oh _ _ (by kernel_rfl) HX
def One(s s':Ar):Prop:=s'.C.length=s.C.length/\s'.most=s.most/\(s'=s\/s'.L.length=s.L.length+1)
theorem One.refl(s:Ar):One s s:=⟨rfl,rfl,.inl rfl⟩
theorem eO(s:Ar)(op:Nat)(at_:Int)(D9:Nat->Nat×Bool):One s (s.iw op at_ D9).1:=by
 unfold Ar.iw;split
 .exact⟨by simp[Ar.acc],rfl,.inr (by simp[Ar.acc])⟩
 .exact One.refl s
theorem yB(s:Ar){α:Type}(o:Option α)(f:α->Bool×Nat×Ar)(h:∀a,One s (f a).2.2):One s (rB s (o.map f)).2.2:=by
 cases o with
 |none=>exact One.refl s
 |some a=>
  simp only[Option.map_some,rB];split
  .exact h a
  .exact h a
theorem qo(s:Ar){α:Type}(o:Option α)(f:α->Nat×Ar)(h:∀a,One s (f a).2):One s (rE s (o.map f)).2:=by
 cases o with
 |none=>exact One.refl s
 |some a=>exact h a
theorem yG(s:Ar){α:Type}(o:Option α)(f:α->Nat×Nat×Ar)(h:∀a,One s (f a).2.2):One s (rF s (o.map f)).2.2:=by
 cases o with
 |none=>exact One.refl s
 |some a=>
  simp only[Option.map_some,rF];split
  .exact h a
  .exact h a
theorem mW(x:WS)(k:Int):One x.s (x.fQ k).2.2:=yB _ _ _ fun _=>eO _ _ _ _
theorem uD(x:WS)(k:Int):One x.s (x.cK k).2.2:=yB _ _ _ fun _=>eO _ _ _ _
theorem si(x:WS)(k:Int):One x.s (x.eY k).2.2:=yB _ _ _ fun _=>eO _ _ _ _
theorem pV(x:WS)(k:Int):One x.s (x.eF k).2:=qo _ _ _ fun _=>eO _ _ _ _
theorem qQ(x:WS)(k:Int):One x.s (x.bZ k).2:=qo _ _ _ fun _=>eO _ _ _ _
theorem vv(x:WS)(k:Int):One x.s (x.ja k).2:=qo _ _ _ fun _=>eO _ _ _ _
theorem Bh(x:WS)(k:Int):One x.s (x.fK k).2.2:=yG _ _ _ fun _=>eO _ _ _ _
theorem wu(x:WS)(k:Int):One x.s (x.gL k).2.2:=yG _ _ _ fun _=>eO _ _ _ _
theorem LC(x:WS)(k:Int):One x.s (x.iH k).2.2:=yG _ _ _ fun _=>eO _ _ _ _
theorem vI(x:WS)(k:Int):One x.s (x.dX k).2:=qo _ _ _ fun _=>eO _ _ _ _
theorem yA(x:WS)(k:Int):One x.s (x.fG k).2:=qo _ _ _ fun _=>eO _ _ _ _
structure WS.Fair(x:WS)(ms:List MS):Prop where
 good:x.Good ms
 Hr:x.s.C.length=x.BI.length+2*x.cos.length+x.sys.length
 fits:x.s.C.length<=x.s.most
 most:x.s.most<=65536
def qB(a:BO):Prop:=4<=a.what/\a.what<=21/\¬(6<=a.what/\a.what<=8)/\a.what≠13/\a.what≠14/\a.what≠20
structure bq(a:BO)(x:WS)(ms:List MS)(x':WS)(ms':List MS):Prop where
 fair:x'.Fair ms'
 most:x'.s.most=x.s.most
 log:x'.s.L.length=x.s.L.length\/(x'.s.L.length=x.s.L.length+1/\qB a)
 sys:∀k (h:k<ms.length),∃h':k<ms'.length,ms'[k].plain=ms[k].plain\/((k:Int)=a.a/\20<=a.what/\a.what<=22)
 knows:∀W,x'.P W->x.P W
theorem bq.refl{a:BO}{x:WS}{ms:List MS}(h:x.Fair ms):bq a x ms x ms:=⟨h,rfl,.inl rfl,fun k hk=>⟨hk,.inl rfl⟩,fun _ h=>h⟩
theorem bq.ar{a:BO}{x:WS}{ms:List MS}{s:Ar}(h:x.Fair ms)(h1:One x.s s)(ha:qB a):bq a x ms (x.ar s) ms:=by
 obtain⟨g1,g2,g3⟩:=h1;refine⟨⟨⟨h.good.sides,h.good.vals,h.good.sys,h.good.cont,h.good.q1,h.good.q2,h.good.l1,h.good.l2,h.good.l3⟩,?_,?_,?_⟩,g2,?_,fun k hk=>⟨hk,.inl rfl⟩,fun _ h=>h⟩
 .show s.C.length=_;rw[g1];exact h.Hr
 .show s.C.length<=s.most;rw[g1,g2];exact h.fits
 .show s.most<=_;rw[g2];exact h.most
 .show s.L.length=_\/(s.L.length=_/\_)
  rcases g3 with rfl|g3
  .exact .inl rfl
  .exact .inr ⟨g3,ha⟩
theorem bq.knew{a:BO}{x:WS}{ms:List MS}(Q:World->Prop)(h:x.Fair ms):bq a x ms (x.knows Q) ms:=
 ⟨⟨h.good.knows Q,h.Hr,h.fits,h.most⟩,rfl,.inl rfl,fun k hk=>⟨hk,.inl rfl⟩,fun _ h=>h.1⟩
theorem uQ{y:ME}(h:y.plain.Ok):y.v.nodes<=256:=by
 rcases h.2.2.2.2 with h|h
 .have :y.v.plain.nodes=1:=by rw[show y.v.plain=y.plain.v from rfl,h];simp[MT.PT.nodes,MT.PT.aV]
  rw[MT.cu]at this;omega
 .exact lJ h
theorem mD{n kk:Nat}{e:ME}{ys:List ME}{er:Int}(h1:ys.map ME.plain=[e.plain].take kk)(h2:kK n [e.plain] kk er):n+ys.length<=4096/\∀y∈ys,y.v.nodes<=256:=by
 have hl:ys.length=min kk 1:=by have :=congrArg List.length h1;simpa using this
 refine⟨by have :=h2.2.1;omega,fun y hy=>?_⟩;have hk:0<kk:=by
  have :0<ys.length:=List.length_pos_of_mem hy;omega
 have hy2:y.plain∈[e.plain].take kk:=by rw[<-h1];exact List.mem_map_of_mem hy
 have hy3:y.plain=e.plain:=by simpa using List.mem_of_mem_take hy2
 have hok:e.plain.Ok:=h2.1 0 (by simp) hk;exact uQ (by rw[hy3];exact hok)
theorem lW{x:WS}{ms:List MS}(h:x.Fair ms)(n:Nat)(hn:n<x.BI.length)(y:Ce)(P:World->Prop)(hP:∀W,P W->x.P W)(hy:∀W,P W->bD W y.es1/\bD W y.es2)(hq:y.es1.length<=4096/\y.es2.length<=4096):(x.oQ n y P).Fair ms:=by
 refine⟨⟨fun W hW=>h.good.sides W (hP W hW),fun W hW=>⟨fun c hc=>?_,(h.good.vals W (hP W hW)).2⟩,h.good.sys,fun W hW=>h.good.cont W (hP W hW),fun m hm=>?_,h.good.q2,?_,h.good.l2,h.good.l3⟩,?_,h.fits,h.most⟩
 .rcases List.mem_or_eq_of_mem_set hc with hc|rfl
  .exact(h.good.vals W (hP W hW)).1 c hc
  .exact hy W hW
 .have hm':m<x.BI.length:=by simpa[WS.oQ]using hm
  by_cases hmn:n=m
  .subst hmn;simp only[WS.oQ,List.getElem_set_self];exact hq
  .simp only[WS.oQ,List.getElem_set_ne hmn];exact h.good.q1 m hm'
 .simpa[WS.oQ]using h.good.l1
 .show x.s.C.length=(x.BI.set n y).length+2*x.cos.length+x.sys.length
  rw[List.length_set];exact h.Hr
theorem rR{x:WS}{ms:List MS}(h:x.Fair ms)(n:Nat)(hn:n<x.cos.length)(y:Ch)(P:World->Prop)(hP:∀W,P W->x.P W)(hy:∀W,P W->bD W y.es)(hq:y.es.length<=4096):(x.jM n y P).Fair ms:=by
 refine⟨⟨fun W hW=>h.good.sides W (hP W hW),fun W hW=>⟨(h.good.vals W (hP W hW)).1,fun c hc=>?_⟩,h.good.sys,fun W hW=>h.good.cont W (hP W hW),h.good.q1,fun m hm=>?_,h.good.l1,?_,h.good.l3⟩,?_,h.fits,h.most⟩
 .rcases List.mem_or_eq_of_mem_set hc with hc|rfl
  .exact(h.good.vals W (hP W hW)).2 c hc
  .exact hy W hW
 .have hm':m<x.cos.length:=by simpa[WS.jM]using hm
  by_cases hmn:n=m
  .subst hmn;simp only[WS.jM,List.getElem_set_self];exact hq
  .simp only[WS.jM,List.getElem_set_ne hmn];exact h.good.q2 m hm'
 .simpa[WS.jM]using h.good.l2
 .show x.s.C.length=x.BI.length+2*(x.cos.set n y).length+x.sys.length
  rw[List.length_set];exact h.Hr
theorem gU{a:BO}{x x':WS}{ms:List MS}(h:x'.Fair ms)(hs:x'.s=x.s)(hP:∀W,x'.P W->x.P W):bq a x ms x' ms:=⟨h,by rw[hs],.inl (by rw[hs]),fun k hk=>⟨hk,.inl rfl⟩,hP⟩
theorem jU{W:World}{es:List ME}(h:bD W es)(i:Nat)(b:Bool):bD W (if b=true then es.eraseIdx i else es):=by
 split
 .exact fun e he=>h e (List.mem_of_mem_eraseIdx he)
 .exact h
theorem nG(es:List ME)(i n:Nat)(b:Bool)(h:es.length<=n):(if b=true then es.eraseIdx i else es).length<=n:=by
 split
 .exact Nat.le_trans (List.length_eraseIdx_le _ _) h
 .exact h
theorem mG{a:BO}{x x':WS}{ms:List MS}{k s er:Int}{e:ME}(h:x.Fair ms)(hp:lX x k s e er x'):bq a x ms x' ms:=by
 rcases hp with ⟨_,_,rfl⟩|⟨_,_,_,rfl⟩|⟨n,hn,kk,ys,rfl,h1,h2⟩
 .exact bq.refl h
 .exact bq.refl h
 .rcases h2 with ⟨_,h2,rfl⟩|⟨_,h2,rfl⟩
  .obtain⟨f1,f2⟩:=mD h1 h2
   refine gU (lW h n hn _ _ (fun W hW=>hW.1) (fun W hW=>⟨fun y hy=>?_,((h.good.vals W hW.1).1 _ (List.getElem_mem hn)).2⟩) ⟨by simpa using f1,(h.good.q1 n hn).2⟩) rfl (fun W hW=>hW.1);rcases List.mem_append.1 hy with hy|hy
   .exact((h.good.vals W hW.1).1 _ (List.getElem_mem hn)).1 y hy
   .exact⟨hW.2 y hy,f2 y hy⟩
  .obtain⟨f1,f2⟩:=mD h1 h2
   refine gU (lW h n hn _ _ (fun W hW=>hW.1) (fun W hW=>⟨((h.good.vals W hW.1).1 _ (List.getElem_mem hn)).1,fun y hy=>?_⟩) ⟨(h.good.q1 n hn).1,by simpa using f1⟩) rfl (fun W hW=>hW.1);rcases List.mem_append.1 hy with hy|hy
   .exact((h.good.vals W hW.1).1 _ (List.getElem_mem hn)).2 y hy
   .exact⟨hW.2 y hy,f2 y hy⟩
theorem yt{a:BO}{x x':WS}{ms:List MS}{k er:Int}{e:ME}(h:x.Fair ms)(hp:nu x k e er x'):bq a x ms x' ms:=by
 rcases hp with ⟨_,_,rfl⟩|⟨n,hn,kk,ys,rfl,h1,h2,rfl⟩
 .exact bq.refl h
 .obtain⟨f1,f2⟩:=mD h1 h2
  refine gU (rR h n hn _ _ (fun W hW=>hW.1) (fun W hW y hy=>?_) (by simpa using f1)) rfl (fun W hW=>hW.1);rcases List.mem_append.1 hy with hy|hy
  .exact(h.good.vals W hW.1).2 _ (List.getElem_mem hn) y hy
  .exact⟨hW.2 y hy,f2 y hy⟩
theorem xh{a:BO}{x x':WS}{ms:List MS}{k er:Int}{v:aL}(h:x.Fair ms)(hp:lS x k v er x'):bq a x ms x' ms:=by
 rcases hp with ⟨_,_,_,rfl⟩|⟨n,hn,y,b,rfl,_,_,_,rfl⟩
 .exact bq.refl h
 .exact gU (rR h n hn _ _ (fun W hW=>hW) (fun W hW=>jU ((h.good.vals W hW).2 _ (List.getElem_mem hn)) _ _) (nG _ _ _ _ (h.good.q2 n hn))) rfl (fun W hW=>hW)
theorem yK{a:BO}{x x':WS}{ms:List MS}{k s i er:Int}{v:aL}(h:x.Fair ms)(hp:jN x k s i v er x'):bq a x ms x' ms:=by
 rcases hp with ⟨_,_,_,rfl⟩|⟨_,_,_,_,rfl⟩|⟨n,hn,y,b,rfl,_,_,h2⟩
 .exact bq.refl h
 .exact bq.refl h
 .rcases h2 with ⟨_,_,rfl⟩|⟨_,_,rfl⟩
  .exact gU (lW h n hn _ _ (fun W hW=>hW) (fun W hW=>⟨jU ((h.good.vals W hW).1 _ (List.getElem_mem hn)).1 _ _,((h.good.vals W hW).1 _ (List.getElem_mem hn)).2⟩) ⟨nG _ _ _ _ (h.good.q1 n hn).1,(h.good.q1 n hn).2⟩) rfl (fun W hW=>hW)
  .exact gU (lW h n hn _ _ (fun W hW=>hW) (fun W hW=>⟨((h.good.vals W hW).1 _ (List.getElem_mem hn)).1,jU ((h.good.vals W hW).1 _ (List.getElem_mem hn)).2 _ _⟩) ⟨(h.good.q1 n hn).1,nG _ _ _ _ (h.good.q1 n hn).2⟩) rfl (fun W hW=>hW)
theorem qd{a:BO}{x x':WS}{ms:List MS}{k s i er:Int}{v:aL}(h:x.Fair ms)(hp:j4 x k s i v er x'):bq a x ms x' ms:=by
 rcases hp with ⟨_,_,_,rfl⟩|⟨_,_,_,_,rfl⟩|⟨n,hn,y,b,rfl,_,_,h2⟩
 .exact bq.refl h
 .exact bq.refl h
 .rcases h2 with ⟨_,_,rfl⟩|⟨_,_,rfl⟩
  .exact bq.knew _ h
  .exact bq.knew _ h
theorem oL{a:BO}{x x':WS}{ms:List MS}{k br er:Int}{v:dP}(h:x.Fair ms)(hp:jo x ms k br v er x'):bq a x ms x' ms:=by
 rcases hp with ⟨_,_,_,rfl⟩|⟨n,hn,rfl,h2⟩
 .exact bq.refl h
 .rcases h2 with ⟨_,_,_,rfl⟩|⟨j,hj,v',_,_,_,_,rfl⟩
  .exact bq.refl h
  .exact bq.knew _ h
theorem jO(s:Ar)(n:Nat)(h:s.C.length+n<=s.most):(s.au (n:Int)).1={s with C:=s.C++List.replicate n 0}:=by
 unfold Ar.au;rw[if_neg (by omega),if_neg (by omega)];simp
theorem mJ{a:BO}{x x':WS}{ms:List MS}{v er:Int}(h:x.Fair ms)(hp:jG x v er x'):bq a x ms x' ms:=by
 rcases hp with ⟨h1,_,_,c,M,q1,q2,aa,cap,rfl⟩|⟨_,_,_,rfl⟩
 .have hA:=jO x.s 1 h1
  have hbal:=h.Hr;have Fj:=h.most;refine⟨⟨⟨h.good.sides,fun W hW=>⟨fun y hy=>?_,(h.good.vals W hW).2⟩,h.good.sys,h.good.cont,fun n hn=>?_,h.good.q2,?_,h.good.l2,h.good.l3⟩,?_,?_,?_⟩,?_,.inl ?_,fun k hk=>⟨hk,.inl rfl⟩,fun _ h=>h⟩
  .rcases List.mem_append.1 hy with hy|hy
   .exact(h.good.vals W hW).1 y hy
   .obtain rfl:=List.mem_singleton.1 hy
    exact⟨fun e he=>(List.not_mem_nil he).elim,fun e he=>(List.not_mem_nil he).elim⟩
  .simp only[WS.sI]at hn|-
   by_cases hnn:n<x.BI.length
   .rw[List.getElem_append_left hnn];exact h.good.q1 n hnn
   .rw[List.getElem_append_right (by omega)];simp
  .simp only[WS.sI,List.length_append,List.length_singleton];omega
  .show(x.s.au ((1:Nat):Int)).1.C.length=(x.BI++[_]).length+2*x.cos.length+x.sys.length
   rw[hA];simp;omega
  .show(x.s.au ((1:Nat):Int)).1.C.length<=(x.s.au ((1:Nat):Int)).1.most
   rw[hA];simpa using h1
  .show(x.s.au ((1:Nat):Int)).1.most<=_
   rw[hA];exact Fj
  .show(x.s.au ((1:Nat):Int)).1.most=_
   rw[hA]
  .show(x.s.au ((1:Nat):Int)).1.L.length=_
   rw[hA]
 .exact bq.refl h
theorem mF{a:BO}{x x':WS}{ms:List MS}{v er:Int}(h:x.Fair ms)(hp:jE x v er x'):bq a x ms x' ms:=by
 rcases hp with ⟨h1,_,_,c,q,aa,cap,rfl⟩|⟨_,_,_,rfl⟩
 .have hA:=jO x.s 2 h1
  have hbal:=h.Hr;have Fj:=h.most;refine⟨⟨⟨h.good.sides,fun W hW=>⟨(h.good.vals W hW).1,fun y hy=>?_⟩,h.good.sys,h.good.cont,h.good.q1,fun n hn=>?_,h.good.l1,?_,h.good.l3⟩,?_,?_,?_⟩,?_,.inl ?_,fun k hk=>⟨hk,.inl rfl⟩,fun _ h=>h⟩
  .rcases List.mem_append.1 hy with hy|hy
   .exact(h.good.vals W hW).2 y hy
   .obtain rfl:=List.mem_singleton.1 hy
    exact fun e he=>(List.not_mem_nil he).elim
  .simp only[WS.sV]at hn|-
   by_cases hnn:n<x.cos.length
   .rw[List.getElem_append_left hnn];exact h.good.q2 n hnn
   .rw[List.getElem_append_right (by omega)];simp
  .simp only[WS.sV,List.length_append,List.length_singleton];omega
  .show(x.s.au ((2:Nat):Int)).1.C.length=x.BI.length+2*(x.cos++[_]).length+x.sys.length
   rw[hA];simp;omega
  .show(x.s.au ((2:Nat):Int)).1.C.length<=(x.s.au ((2:Nat):Int)).1.most
   rw[hA];simpa using h1
  .show(x.s.au ((2:Nat):Int)).1.most<=_
   rw[hA];exact Fj
  .show(x.s.au ((2:Nat):Int)).1.most=_
   rw[hA]
  .show(x.s.au ((2:Nat):Int)).1.L.length=_
   rw[hA]
 .exact bq.refl h
theorem kQ{a:BO}{x x':WS}{ms:List MS}{th v er:Int}{bases:List MB}{conds:List Int}(h:x.Fair ms)(hp:mq x th bases conds v er x'):∃ms',bq a x ms x' ms':=by
 rcases hp with ⟨_,_,_,rfl⟩|⟨_,_,_,_,rfl⟩|⟨_,h1,_,_,s',aa,c,hpl,rfl⟩
 .exact⟨ms,bq.refl h⟩
 .exact⟨ms,bq.refl h⟩
 .have hA:=jO x.s 1 h1
  have hbal:=h.Hr;have Fj:=h.most;have hsl:x.sys.length=ms.length:=by rw[h.good.sys];simp
  refine⟨ms++[s'],⟨⟨fun W hW=>h.good.sides W hW.1,fun W hW=>h.good.vals W hW.1,?_,fun W hW m hm=>?_,h.good.q1,h.good.q2,h.good.l1,h.good.l2,?_⟩,?_,?_,?_⟩,?_,.inl ?_,fun k hk=>⟨by simp;omega,.inl ?_⟩,fun _ h=>h.1⟩
  .show x.sys++[s'.raw]=(ms++[s']).map MS.raw
   rw[List.map_append,h.good.sys];rfl
  .rcases List.mem_append.1 hm with hm|hm
   .exact h.good.cont W hW.1 m hm
   .obtain rfl:=List.mem_singleton.1 hm
    exact hW.2
  .show(x.sys++[s'.raw]).length<=_
   simp only[List.length_append,List.length_singleton];omega
  .show(x.s.au ((1:Nat):Int)).1.C.length=x.BI.length+2*x.cos.length+(x.sys++[s'.raw]).length
   rw[hA];simp;omega
  .show(x.s.au ((1:Nat):Int)).1.C.length<=(x.s.au ((1:Nat):Int)).1.most
   rw[hA];simpa using h1
  .show(x.s.au ((1:Nat):Int)).1.most<=_
   rw[hA];exact Fj
  .show(x.s.au ((1:Nat):Int)).1.most=_
   rw[hA]
  .show(x.s.au ((1:Nat):Int)).1.L.length=_
   rw[hA]
  .rw[List.getElem_append_left hk]
theorem NY{x:WS}{ms:List MS}(hs:x.sys=ms.map MS.raw)(n:Nat)(m:MS):x.sys.set n m.raw=(ms.set n m).map MS.raw:=by rw[hs,List.map_set]
theorem lq{a:BO}{x y:WS}{ms:List MS}(n:Nat)(hn:n<ms.length)(m:MS)(h:x.Fair ms)(hy:y.Fair ms)(hs:bq a x ms y ms)(hna:(n:Int)=a.a/\20<=a.what/\a.what<=22)(hin:∀W,y.P W->m.In W):bq a x ms (y.eP n m.raw) (ms.set n m):=by
 refine⟨⟨⟨hy.good.sides,hy.good.vals,NY hy.good.sys n m,fun W hW u hu=>?_,hy.good.q1,hy.good.q2,hy.good.l1,hy.good.l2,?_⟩,?_,hy.fits,hy.most⟩,hs.most,hs.log,fun k hk=>⟨by simpa using hk,?_⟩,hs.knows⟩
 .rcases List.mem_or_eq_of_mem_set hu with hu|rfl
  .exact hy.good.cont W hW u hu
  .exact hin W hW
 .show(y.sys.set n m.raw).length<=_
  rw[List.length_set];exact hy.good.l3
 .show y.s.C.length=y.BI.length+2*y.cos.length+(y.sys.set n m.raw).length
  rw[List.length_set];exact hy.Hr
 .by_cases hkn:n=k
  .subst hkn;exact .inr hna
  .rw[List.getElem_set_ne hkn];exact .inl rfl
theorem yx{x:WS}{ms:List MS}(hs:x.sys=ms.map MS.raw)(n:Nat)(hn:n<x.sys.length):∃hm:n<ms.length,x.sys[n]=ms[n].raw:=by
 have hm:n<ms.length:=by rw[hs]at hn;simpa using hn
 refine⟨hm,?_⟩;have :x.sys[n]? =(ms.map MS.raw)[n]? :=by rw[hs]
 rw[List.getElem?_eq_getElem hn,List.getElem?_map,List.getElem?_eq_getElem hm]at this;simpa using this
theorem wM{a:BO}{x x':WS}{ms:List MS}{er:Int}(h:x.Fair ms)(ha:a.what=22)(hp:wG x a.a er x'):∃ms',bq a x ms x' ms':=by
 rcases hp with ⟨_,_,rfl⟩|⟨n,hn,hna,_,rfl⟩
 .exact⟨ms,bq.refl h⟩
 .obtain⟨hm,e1⟩:=yx h.good.sys n hn
  refine⟨ms.set n {ms[n]with parked:=false},?_⟩;rw[e1];exact lq n hm {ms[n]with parked:=false} h h (bq.refl h) ⟨hna.symm,by omega,by omega⟩ (fun W hW=>by have hc:=h.good.cont W hW _ (List.getElem_mem hm);exact hc)
theorem mI{a:BO}{x x':WS}{ms:List MS}{v:Bool}{er:Int}(h:x.Fair ms)(ha:a.what=21)(hp:jk x a.a v er x'):∃ms',bq a x ms x' ms':=by
 have hmay:qB a:=⟨by omega,by omega,by omega,by omega,by omega,by omega⟩;rcases hp with ⟨_,_,_,rfl⟩|⟨n,hn,r,hna,rfl,h2⟩
 .exact⟨ms,bq.refl h⟩
 .have ho:One x.s (fT x.s x.sys[n].flag).2.2:=eO _ _ _ _
  rcases h2 with ⟨_,_,_,rfl⟩|⟨_,_,_,rfl⟩
  .exact⟨ms,bq.ar h ho hmay⟩
  .have hs:=bq.ar h ho hmay
   obtain⟨hm,e1⟩:=yx h.good.sys n hn;generalize (((fT x.s x.sys[n].flag).1:Int) != 2)=b;refine⟨ms.set n {ms[n]with parked:=b},?_⟩;have e2:({x.sys[n]with parked:=b}:bL)=MS.raw {ms[n]with parked:=b}:=by rw[e1];rfl
   rw[e2];exact lq n hm {ms[n]with parked:=b} h hs.fair hs ⟨hna.symm,by omega,by omega⟩ (fun W hW=>by have hc:=h.good.cont W hW _ (List.getElem_mem hm);exact hc)
theorem jS{a:BO}{x x':WS}{ms:List MS}{br pt er:Int}{v:MT}(h:x.Fair ms)(ha:a.what=20)(hp:gN x a.a br v pt er x'):∃ms',bq a x ms x' ms':=by
 rcases hp with ⟨_,_,rfl⟩|⟨n,hn,hna,h2⟩
 .exact⟨ms,bq.refl h⟩
 .rcases h2 with ⟨_,_,rfl⟩|⟨⟨_,hok,_⟩,⟨_,_,rfl⟩|⟨_,_,v',hv,rfl⟩⟩
  .exact⟨ms,bq.refl h⟩
  .exact⟨ms,bq.refl h⟩
  .obtain⟨hm,e1⟩:=yx h.good.sys n hn
   have hs:bq a x ms (x.knows (fun W=>∀t∈[v'],t.In W)) ms:=bq.knew _ h;refine⟨ms.set n {ms[n]with done:=true,branch:=br,v:=v',partner:=pt},?_⟩;have e2:x.sys[n].qN br v' pt=MS.raw {ms[n]with done:=true,branch:=br,v:=v',partner:=pt}:=by rw[e1];rfl
   rw[e2];refine lq n hm _ h hs.fair hs ⟨hna.symm,by omega,by omega⟩ (fun W hW=>?_);have hc:=h.good.cont W hW.1 _ (List.getElem_mem hm);exact⟨⟨hW.2 v' (List.mem_singleton.2 rfl),lJ (by rw[hv];exact hok)⟩,hc.2⟩
theorem yO{a:BO}{x y:WS}{ms ms':List MS}{Q:World->Prop}(h:x.Fair ms)(hP:y.P=(x.knows Q).P)(hg:y.Good ms')(hs:y.s=x.s)(h1:y.BI.map Ce.pl=x.BI.map Ce.pl)(h2:y.cos.map Ch.pl=x.cos.map Ch.pl)(h3:ms'.map MS.plain=ms.map MS.plain):bq a x ms y ms':=by
 have e1:y.BI.length=x.BI.length:=by have :=congrArg List.length h1;simpa using this
 have e2:y.cos.length=x.cos.length:=by have :=congrArg List.length h2;simpa using this
 have e3:ms'.length=ms.length:=by have :=congrArg List.length h3;simpa using this
 have e4:y.sys.length=x.sys.length:=by rw[hg.sys,h.good.sys];simp[e3]
 refine⟨⟨hg,by rw[hs,e1,e2,e4];exact h.Hr,by rw[hs];exact h.fits,by rw[hs];exact h.most⟩,by rw[hs],.inl (by rw[hs]),fun k hk=>⟨by omega,.inl ?_⟩,fun W hW=>by rw[hP]at hW;exact hW.1⟩;have :=congrArg (fun l=>l[k]?) h3;simp only[List.getElem?_map]at this;rw[List.getElem?_eq_getElem hk,List.getElem?_eq_getElem (by omega:k<ms'.length)]at this;simpa using this
theorem zi{x x':WS}{k s er:Int}{e:ME}(hp:lX x k s e er x'):x'.wb=x.wb:=by
 rcases hp with ⟨_,_,rfl⟩|⟨_,_,_,rfl⟩|⟨n,hn,kk,ys,rfl,h1,⟨_,_,rfl⟩|⟨_,_,rfl⟩⟩<;>rfl
theorem Nw{x x':WS}{k er:Int}{e:ME}(hp:nu x k e er x'):x'.wb=x.wb:=by
 rcases hp with ⟨_,_,rfl⟩|⟨n,hn,kk,ys,rfl,h1,h2,rfl⟩<;>rfl
theorem MI{x x':WS}{k er:Int}{v:aL}(hp:lS x k v er x'):x'.wb=x.wb:=by
 rcases hp with ⟨_,_,_,rfl⟩|⟨n,hn,y,b,rfl,_,_,_,rfl⟩<;>rfl
theorem MJ{x x':WS}{k s i er:Int}{v:aL}(hp:jN x k s i v er x'):x'.wb=x.wb:=by
 rcases hp with ⟨_,_,_,rfl⟩|⟨_,_,_,_,rfl⟩|⟨n,hn,y,b,rfl,_,_,⟨_,_,rfl⟩|⟨_,_,rfl⟩⟩<;>rfl
theorem zl{x x':WS}{k s i er:Int}{v:aL}(hp:j4 x k s i v er x'):x'.wb=x.wb:=by
 rcases hp with ⟨_,_,_,rfl⟩|⟨_,_,_,_,rfl⟩|⟨n,hn,y,b,rfl,_,_,⟨_,_,rfl⟩|⟨_,_,rfl⟩⟩<;>rfl
theorem vk{x x':WS}{ms:List MS}{k br er:Int}{v:dP}(hp:jo x ms k br v er x'):x'.wb=x.wb:=by
 rcases hp with ⟨_,_,_,rfl⟩|⟨n,hn,rfl,⟨_,_,_,rfl⟩|⟨j,hj,v',_,_,_,_,rfl⟩⟩<;>rfl
theorem zH{x x':WS}{v er:Int}(hp:jG x v er x'):x'.wb=x.wb:=by
 rcases hp with ⟨_,_,_,_,_,_,_,_,_,rfl⟩|⟨_,_,_,rfl⟩<;>rfl
theorem yQ{x x':WS}{v er:Int}(hp:jE x v er x'):x'.wb=x.wb:=by
 rcases hp with ⟨_,_,_,_,_,_,_,rfl⟩|⟨_,_,_,rfl⟩<;>rfl
theorem vC{x x':WS}{th v er:Int}{bases:List MB}{conds:List Int}(hp:mq x th bases conds v er x'):x'.wb=x.wb:=by
 rcases hp with ⟨_,_,_,rfl⟩|⟨_,_,_,_,rfl⟩|⟨_,_,_,_,_,_,_,_,rfl⟩<;>rfl
theorem Mf{x x':WS}{k er:Int}(hp:wG x k er x'):x'.wb=x.wb:=by
 rcases hp with ⟨_,_,rfl⟩|⟨n,hn,_,_,rfl⟩<;>rfl
theorem zG{x x':WS}{k er:Int}{v:Bool}(hp:jk x k v er x'):x'.wb=x.wb:=by
 rcases hp with ⟨_,_,_,rfl⟩|⟨n,hn,r,_,_,⟨_,_,_,rfl⟩|⟨_,_,_,rfl⟩⟩<;>rfl
theorem rM{x x':WS}{k br pt er:Int}{v:MT}(hp:gN x k br v pt er x'):x'.wb=x.wb:=by
 rcases hp with ⟨_,_,rfl⟩|⟨n,hn,_,⟨_,_,rfl⟩|⟨_,⟨_,_,rfl⟩|⟨_,_,_,_,rfl⟩⟩⟩<;>rfl
theorem bC:ME.zero.v.nodes<=1048576:=by simp[ME.zero,MT.zero,MT.nodes,MT.aV]
theorem sP{W:World}{es:List ME}{i:Int}{y:ME}{b:Bool}(ha:AtR (es.map ME.plain) i y b)(h:bD W es):y.v.nodes<=1048576:=by
 rcases ha with ⟨_,_,hg⟩|⟨_,_,rfl⟩
 .obtain⟨e,he,hp⟩:=List.mem_map.1 (List.mem_of_getElem? hg)
  have h1:=(h e he).2;have h2:e.v.plain=y.v.plain:=congrArg PE.v hp;have h3:=congrArg MT.PT.nodes h2;rw[MT.cu,MT.cu]at h3;omega
 .exact bC
theorem xu{x x':WS}{ms:List MS}{k er:Int}{v:aL}(h:x.Fair ms)(hp:lS x k v er x'):∃(y:ME) (b:Bool),v=aL.of y b/\∀W,x'.P W->y.v.In W/\y.v.nodes<=1048576:=by
 rcases hp with ⟨_,rfl,_,rfl⟩|⟨n,hn,y,b,rfl,ha,rfl,_,rfl⟩
 .exact⟨ME.zero,false,rfl,fun W _=>⟨MT.dQ W,bC⟩⟩
 .exact⟨y,b,rfl,fun W hW=>ha.inq (p:=fun r=>r.v.In W/\r.v.nodes<=1048576) ⟨MT.dQ W,bC⟩ (fun r hr=>by have h9:=(h.good.vals W hW).2 _ (List.getElem_mem hn) r hr;exact⟨h9.1,by have :=h9.2;omega⟩)⟩
theorem xL{x x':WS}{ms:List MS}{k s i er:Int}{v:aL}(h:x.Fair ms)(hp:jN x k s i v er x'):∃(y:ME) (b:Bool),v=aL.of y b/\∀W,x'.P W->y.v.In W/\y.v.nodes<=1048576:=by
 rcases hp with ⟨_,rfl,_,rfl⟩|⟨_,_,rfl,_,rfl⟩|⟨n,hn,y,b,rfl,_,rfl,⟨_,ha,rfl⟩|⟨_,ha,rfl⟩⟩
 .exact⟨ME.zero,false,rfl,fun W _=>⟨MT.dQ W,bC⟩⟩
 .exact⟨ME.zero,false,rfl,fun W _=>⟨MT.dQ W,bC⟩⟩
 .exact⟨y,b,rfl,fun W hW=>ha.inq (p:=fun r=>r.v.In W/\r.v.nodes<=1048576) ⟨MT.dQ W,bC⟩ (fun r hr=>by have h9:=((h.good.vals W hW).1 _ (List.getElem_mem hn)).1 r hr;exact⟨h9.1,by have :=h9.2;omega⟩)⟩
 .exact⟨y,b,rfl,fun W hW=>ha.inq (p:=fun r=>r.v.In W/\r.v.nodes<=1048576) ⟨MT.dQ W,bC⟩ (fun r hr=>by have h9:=((h.good.vals W hW).1 _ (List.getElem_mem hn)).2 r hr;exact⟨h9.1,by have :=h9.2;omega⟩)⟩
theorem wX{x x':WS}{ms:List MS}{k s i er:Int}{v:aL}(h:x.Fair ms)(hp:j4 x k s i v er x'):∃(y:ME) (b:Bool),v=aL.of y b/\∀W,x'.P W->y.v.In W/\y.v.nodes<=1048576:=by
 rcases hp with ⟨_,rfl,_,rfl⟩|⟨_,_,rfl,_,rfl⟩|⟨n,hn,y,b,rfl,_,rfl,⟨_,ha,rfl⟩|⟨_,ha,rfl⟩⟩
 .exact⟨ME.zero,false,rfl,fun W _=>⟨MT.dQ W,bC⟩⟩
 .exact⟨ME.zero,false,rfl,fun W _=>⟨MT.dQ W,bC⟩⟩
 .exact⟨y,b,rfl,fun W hW=>⟨hW.2 y.v (List.mem_singleton.2 rfl),sP ha ((h.good.vals W hW.1).1 _ (List.getElem_mem hn)).1⟩⟩
 .exact⟨y,b,rfl,fun W hW=>⟨hW.2 y.v (List.mem_singleton.2 rfl),sP ha ((h.good.vals W hW.1).1 _ (List.getElem_mem hn)).2⟩⟩
theorem vM{x x':WS}{ms:List MS}{k br er:Int}{v:dP}(hp:jo x ms k br v er x'):∃(y:ME),v=⟨y.sync,y.thread,y.branch,y.flag,y.v.kind,y.v.num,y.v.addr,y.v.parts.length,y.v.cap⟩/\∀W,x'.P W->y.v.In W/\y.v.nodes<=1048576:=by
 rcases hp with ⟨_,_,rfl,rfl⟩|⟨n,hn,rfl,⟨_,_,rfl,rfl⟩|⟨j,hj,v',_,_,_,rfl,rfl⟩⟩
 .exact⟨ME.zero,rfl,fun W _=>⟨MT.dQ W,bC⟩⟩
 .exact⟨ME.zero,rfl,fun W _=>⟨MT.dQ W,bC⟩⟩
 .exact⟨⟨_,_,_,_,v'⟩,rfl,fun W hW=>⟨hW.2.1,by have h9:v'.nodes<=256:=hW.2.2;show v'.nodes<=1048576;omega⟩⟩
def WS.fJ(x:WS)(P:World->Prop):WS:={x with P:=P}
theorem WS.Good.fJ{x:WS}{ms:List MS}(h:x.Good ms)(P:World->Prop)(hP:∀W,P W->x.P W):(x.fJ P).Good ms:=
 ⟨fun W hW=>h.sides W (hP W hW),fun W hW=>h.vals W (hP W hW),h.sys,fun W hW=>h.cont W (hP W hW),h.q1,h.q2,h.l1,h.l2,h.l3⟩
theorem WS.Fair.fJ{x:WS}{ms:List MS}(h:x.Fair ms)(P:World->Prop)(hP:∀W,P W->x.P W):(x.fJ P).Fair ms:=⟨h.good.fJ P hP,h.Hr,h.fits,h.most⟩
theorem BD.OQ{T:List Nat}{w0 w:World}{x y:WS}{r:List ai}(h:BD T w0 w (x.ts++y.rest++r))(hP:y.P=x.P):BD T w0 w (y.ts++x.rest++r):=by
 have e:∀z:WS,z.ts=[z.h0,arena z.ga z.s,aA z.P]++([aS 118 1 (.slice z.a1 z.BI.length z.c1) z.BI.length (bP z.BI),aS 122 1 (.slice z.a2 z.cos.length z.c2) z.cos.length (bK z.cos),aS 61 11 (.slice z.a3 z.sys.length z.c3) z.sys.length (aU z.sys)]++(z.BI.flatMap Ce.ts++z.cos.flatMap Ch.ts)):=fun z=>rfl;have er:∀z:WS,z.rest=[z.h0,arena z.ga z.s]++([aS 118 1 (.slice z.a1 z.BI.length z.c1) z.BI.length (bP z.BI),aS 122 1 (.slice z.a2 z.cos.length z.c2) z.cos.length (bK z.cos),aS 61 11 (.slice z.a3 z.sys.length z.c3) z.sys.length (aU z.sys)]++(z.BI.flatMap Ce.ts++z.cos.flatMap Ch.ts)):=fun z=>rfl;have e3:∀z:WS,(z.ts).Perm (aA z.P::z.rest):=fun z=>by
  rw[e,er];simp only[cAq,nAq];exact List.Perm.trans (List.Perm.cons _ (List.Perm.swap _ _ _)) (List.Perm.swap _ _ _)
 have hp:(x.ts++y.rest++r).Perm (y.ts++x.rest++r):=by
  refine List.Perm.append_right r ?_;refine((e3 x).append_right _).trans ?_;refine List.Perm.trans ?_ ((e3 y).append_right _).symm;rw[hP];simp only[cAq];exact List.perm_append_comm.cons _
 exact BD.perm hp [] (by simpa using h)
def aH(most:Nat):RV:=⟨none,0,0,(most:Int),none,0,0,none,0,0,none,0,0,none,0,0⟩
structure cZ(x:WS)(ms:List MS)(a:BO):Prop where
 fair:x.Fair ms
 mem:∀W,x.P W->a.Mem W
 few:x.s.L.length<1000000
 big:∀b∈a.bases,b.Big
def bU(a:BO)(x:WS)(ms:List MS)(m2:List ai):Prop:=∃(x':WS) (ms':List MS),bq a x ms x' ms'/\x'.wb=x.wb/\m2=x'.ts
def dB(a:BO)(x:WS)(ms:List MS)(e:Ending)(m2:List ai):Prop:=∃(o:RV) (fine:Bool),e= .returned (.tuple #[.agg #[.slice o.ca o.cn o.cc,.int .i64 o.most,.slice o.la o.ln o.lc,.slice o.ha o.hn o.hc,.slice o.oa o.on o.oc,.slice o.sa o.sn o.sc],.bool fine])/\bU a x ms m2
theorem WS.zA(x:WS):(x.ts).Perm (aA x.P::x.rest):=by
 have e:x.ts=[x.h0,arena x.ga x.s,aA x.P]++([aS 118 1 (.slice x.a1 x.BI.length x.c1) x.BI.length (bP x.BI),aS 122 1 (.slice x.a2 x.cos.length x.c2) x.cos.length (bK x.cos),aS 61 11 (.slice x.a3 x.sys.length x.c3) x.sys.length (aU x.sys)]++(x.BI.flatMap Ce.ts++x.cos.flatMap Ch.ts)):=rfl;have er:x.rest=[x.h0,arena x.ga x.s]++([aS 118 1 (.slice x.a1 x.BI.length x.c1) x.BI.length (bP x.BI),aS 122 1 (.slice x.a2 x.cos.length x.c2) x.cos.length (bK x.cos),aS 61 11 (.slice x.a3 x.sys.length x.c3) x.sys.length (aU x.sys)]++(x.BI.flatMap Ce.ts++x.cos.flatMap Ch.ts)):=rfl;rw[e,er];simp only[cAq,nAq];exact List.Perm.trans (List.Perm.cons _ (List.Perm.swap _ _ _)) (List.Perm.swap _ _ _)
theorem kR{f:FuncId}{args:Array Value}{x:WS}{most:Nat}(hm:most<=65536)(R:Ending->Prop)(h:∀T w,BD T w w [di (.slice none 0 0) (.slice none 0 0) ⟨[],most,[]⟩,aA x.P]->Calls Tryz.prog f args w fun e w'=>R e/\∃(Q:World->Prop) (vc vl:Value) (s':Ar),(∀W,Q W->x.P W)/\BD T w w' [di vc vl s',aA Q]):
  Does f args x.ts fun e m'=>R e/\m'=x.ts:=by
 intro T w hL;have h1:=Io hL most hm;have hp:(x.ts++[di (.slice none 0 0) (.slice none 0 0) ⟨[],most,[]⟩]).Perm ([di (.slice none 0 0) (.slice none 0 0) ⟨[],most,[]⟩,aA x.P]++x.rest):=by
  refine List.perm_append_comm.trans ?_;exact x.zA.cons _
 have h2:=BD.perm hp [] h1;simp only[nAq]at h2;obtain⟨T',hF,hb⟩:=h2.aN;refine(h T' w hF).mono ?_;rintro e w' ⟨hR,Q,vc,vl,s',hQ,hL'⟩;refine⟨x.ts,⟨hR,rfl⟩,?_⟩;have h3:=(hb _ _ hL').weaken (Q:=x.P) 1 rfl hQ;simp only[cAq,nAq,sSq,sZq]at h3;have hp2:(di vc vl s'::aA x.P::x.rest).Perm (x.ts++[di vc vl s']):=by
  refine List.Perm.trans ?_ List.perm_append_comm;exact x.zA.symm.cons _
 have h4:=BD.perm hp2 [] h3;simp only[nAq]at h4;exact BD.aF h4
theorem K6(x:WS)(most:Nat)(h1:1<=most)(h2:most<=65536):Does 149 #[(aH most).val] x.ts fun e m1=>(∃(o:RV) (got no:Int),e= .returned (.tuple #[o.val,.int .i64 got,.int .i64 no]))/\m1=x.ts:=by
 simp only[RV.val]at *;refine kR h2 (fun e=>∃(o:RV) (got no:Int),e= .returned (.tuple #[.agg #[.slice o.ca o.cn o.cc,.int .i64 o.most,.slice o.la o.ln o.lc,.slice o.ha o.hn o.hc,.slice o.oa o.on o.oc,.slice o.sa o.sn o.sc],.int .i64 got,.int .i64 no])) fun T w hL=>?_;refine(KM T w (aH most) ⟨[],most,[]⟩ x.P [] hL rfl (fun W _=>gX _ _ _ _) rfl (by simp) (by show 0<=100000;omega) (by simpa using h1)).mono ?_;rintro e w' ⟨v',rfl,_,hL'⟩;exact⟨⟨v',_,_,rfl⟩,_,_,_,_,fun W hW=>hW.1,hL'⟩
theorem Iu(x:WS)(most:Nat)(h1:1<=most)(h2:most<=65536):Does 150 #[(aH most).val] x.ts fun e m1=>(∃(o:RV) (got no:Int),e= .returned (.tuple #[o.val,.int .i64 got,.int .i64 no]))/\m1=x.ts:=by
 simp only[RV.val]at *;by_cases h:2<=most
 .refine kR h2 (fun e=>∃(o:RV) (got no:Int),e= .returned (.tuple #[.agg #[.slice o.ca o.cn o.cc,.int .i64 o.most,.slice o.la o.ln o.lc,.slice o.ha o.hn o.hc,.slice o.oa o.on o.oc,.slice o.sa o.sn o.sc],.int .i64 got,.int .i64 no])) fun T w hL=>?_
  refine(Ke T w (aH most) ⟨[],most,[]⟩ x.P [] hL rfl (fun W _=>gX _ _ _ _) rfl (by simp) (by show 0<=100000;omega) (by simpa using h)).mono ?_;rintro e w' ⟨v',rfl,_,hL'⟩;exact⟨⟨v',_,_,rfl⟩,_,_,_,_,fun W hW=>hW.1,hL'⟩
 .refine(bA (fun w=>AB (aH most) w (by simp only[aH];omega) (by simp only[aH];omega) (by simp only[aH];omega))).mono ?_
  rintro e m1 ⟨rfl,rfl⟩;exact⟨⟨aH most,_,_,rfl⟩,rfl⟩
theorem Bp(x:WS)(a:BO)(hA:∀W,x.P W->a.Mem W)(hbig:∀b∈a.bases,b.Big)(most:Nat)(h1:1<=most)(h2:most<=65536):Does 151 #[(aH most).val,.int .i64 a.a,.slice a.ba a.bases.length a.bc,.slice a.ca a.conds.length a.cc] x.ts fun e m1=>(∃(o:RV) (got no:Int),e= .returned (.tuple #[o.val,.int .i64 got,.int .i64 no]))/\m1=x.ts:=by
 simp only[RV.val]at *;by_cases h:nM 0 0 a.a a.bases a.conds
 .refine kR h2 (fun e=>∃(o:RV) (got no:Int),e= .returned (.tuple #[.agg #[.slice o.ca o.cn o.cc,.int .i64 o.most,.slice o.la o.ln o.lc,.slice o.ha o.hn o.hc,.slice o.oa o.on o.oc,.slice o.sa o.sn o.sc],.int .i64 got,.int .i64 no])) fun T w hL=>?_
  refine(zW T w (aH most) ⟨[],most,[]⟩ x.P [] a.a a.ba a.bases a.bc a.ca a.conds a.cc hL rfl (fun W _=>gX _ _ _ _) rfl (by simp) (by show 0<=100000;omega) (by simpa using h1) (fun W hW=>(hA W hW).2.2) hbig h).mono ?_;rintro e w' ⟨v',rfl,_,hL'⟩;exact⟨⟨v',_,_,rfl⟩,_,_,_,_,fun W hW=>hW.1,hL'⟩
 .intro T w hL
  refine(Aq (aH most) w a.a a.ba a.bases a.bc a.ca a.conds a.cc (hA w (hL.still 2 rfl)).2.2 hbig h).mono ?_;rintro e w' ⟨rfl,ht⟩;exact⟨x.ts,⟨⟨aH most,_,_,rfl⟩,rfl⟩,hL.touch ht⟩
theorem w_chan(x:WS)(ms:List MS)(a:BO)(most:Nat)(h1:1<=most)(h2:most<=65536)(h:cZ x ms a)(hw:a.what=0):Does 60 #[.pointer (some ⟨x.wb,0,none⟩),(aH most).val,a.val] x.ts (dB a x ms):=by
 simp only[RV.val,BO.val]at *;refine(JG x.wb (aH most) a x.ts (fun _ _ _ _ _ m2=>bU a x ms m2) hw ?_).mono (fun e m2 ⟨o,fine,he,_,_,_,_,_,hR⟩=>⟨o,fine,he,hR⟩);refine(K6 x most h1 h2).mono ?_;rintro e m1 ⟨⟨o,got,no,rfl⟩,rfl⟩;refine⟨o,got,no,rfl,?_⟩;intro T w hL;refine(IA T w x hL h.fair.good.sides (by have :=h.fair.good.l1;omega)).mono ?_;rintro e w' ⟨v,er,x',rfl,hp,hL⟩;exact⟨_,⟨v,er,rfl,x',ms,mJ h.fair hp,zH hp,rfl⟩,hL⟩
theorem w_cond(x:WS)(ms:List MS)(a:BO)(most:Nat)(h1:1<=most)(h2:most<=65536)(h:cZ x ms a)(hw:a.what=1):Does 60 #[.pointer (some ⟨x.wb,0,none⟩),(aH most).val,a.val] x.ts (dB a x ms):=by
 simp only[RV.val,BO.val]at *;refine(JV x.wb (aH most) a x.ts (fun _ _ _ _ _ m2=>bU a x ms m2) hw ?_).mono (fun e m2 ⟨o,fine,he,_,_,_,_,_,hR⟩=>⟨o,fine,he,hR⟩);refine(Iu x most h1 h2).mono ?_;rintro e m1 ⟨⟨o,got,no,rfl⟩,rfl⟩;refine⟨o,got,no,rfl,?_⟩;intro T w hL;refine(Lc T w x hL (by have :=h.fair.good.l2;omega)).mono ?_;rintro e w' ⟨v,er,x',rfl,hp,hL⟩;exact⟨_,⟨v,er,rfl,x',ms,mF h.fair hp,yQ hp,rfl⟩,hL⟩
theorem OA(x:WS)(ms:List MS)(a:BO)(most:Nat)(h1:1<=most)(h2:most<=65536)(h:cZ x ms a)(hw:a.what=2\/a.what=3):Does 60 #[.pointer (some ⟨x.wb,0,none⟩),(aH most).val,a.val] x.ts (dB a x ms):=by
 simp only[RV.val,BO.val]at *;refine(Bu x.wb (aH most) a x.ts (fun _ _ _ _ _ m2=>bU a x ms m2) hw ?_).mono (fun e m2 ⟨o,fine,he,_,_,_,_,_,hR⟩=>⟨o,fine,he,hR⟩);refine(Bp x a h.mem h.big most h1 h2).mono ?_;rintro e m1 ⟨⟨o,got,no,rfl⟩,rfl⟩;refine⟨o,got,no,rfl,?_⟩;intro T w hL;refine(uo T w x a.a a.ba a.bases a.bc a.ca a.conds a.cc hL (fun W hW=>(h.mem W hW).2.2) h.fair.good.l3).mono ?_;rintro e w' ⟨v,er,x',rfl,hp,hL⟩;obtain⟨ms',hs⟩:=kQ (a:=a) h.fair hp;exact⟨_,⟨v,er,rfl,x',ms',hs,vC hp,rfl⟩,hL⟩
theorem w_lock(x:WS)(ms:List MS)(a:BO)(most:Nat)(h1:1<=most)(h2:most<=65536)(h:cZ x ms a)(hw:a.what=4):Does 61 #[.pointer (some ⟨x.wb,0,none⟩),(aH most).val,a.val] x.ts (dB a x ms):=by
 simp only[RV.val,BO.val]at *;refine(KG x.wb (aH most) a x.ts (fun _ _ _ _ _ m2=>bU a x ms m2) hw ?_).mono (fun e m2 ⟨o,fine,he,_,_,_,_,_,hR⟩=>⟨o,fine,he,hR⟩);refine(bA (fun w=>Ol (aH most) w a.a (show ¬(0<=a.a/\a.a<((0:Nat):Int)) by omega))).mono ?_;rintro e m1 ⟨rfl,rfl⟩;refine⟨aH most,false,4,rfl,?_⟩;intro T w hL;refine(ul T w x a.a hL h.few).mono ?_;rintro e w' ⟨rfl,hL⟩;exact⟨_,⟨_,_,rfl,_,ms,bq.ar h.fair (mW x a.a) ⟨by omega,by omega,by omega,by omega,by omega,by omega⟩,rfl,rfl⟩,hL⟩
theorem LJ(x:WS)(ms:List MS)(a:BO)(most:Nat)(h1:1<=most)(h2:most<=65536)(h:cZ x ms a)(hw:a.what=5):Does 61 #[.pointer (some ⟨x.wb,0,none⟩),(aH most).val,a.val] x.ts (dB a x ms):=by
 simp only[RV.val,BO.val]at *;refine(yM x.wb (aH most) a x.ts (fun _ _ _ m2=>bU a x ms m2) hw ?_).mono (fun e m2 ⟨o,fine,he,_,_,_,hR⟩=>⟨o,fine,he,hR⟩);refine(bA (fun w=>zL (aH most) w a.a (show ¬(0<=a.a/\a.a<((0:Nat):Int)) by omega))).mono ?_;rintro e m1 ⟨rfl,rfl⟩;refine⟨aH most,4,rfl,?_⟩;intro T w hL;refine(vP T w x a.a hL h.few).mono ?_;rintro e w' ⟨rfl,hL⟩;exact⟨_,⟨_,rfl,_,ms,bq.ar h.fair (pV x a.a) ⟨by omega,by omega,by omega,by omega,by omega,by omega⟩,rfl,rfl⟩,hL⟩
theorem wU(x:WS)(ms:List MS)(a:BO)(most:Nat)(h1:1<=most)(h2:most<=65536)(h:cZ x ms a)(hw:a.what=9):Does 62 #[.pointer (some ⟨x.wb,0,none⟩),(aH most).val,a.val] x.ts (dB a x ms):=by
 simp only[RV.val,BO.val]at *;refine(tN x.wb (aH most) a x.ts (fun _ _ _ _ _ m2=>bU a x ms m2) hw ?_).mono (fun e m2 ⟨o,fine,he,_,_,_,_,_,hR⟩=>⟨o,fine,he,hR⟩);refine(bA (fun w=>uT (aH most) w a.a (show ¬(0<=a.a/\a.a<((0:Nat):Int)) by omega))).mono ?_;rintro e m1 ⟨rfl,rfl⟩;refine⟨aH most,false,4,rfl,?_⟩;intro T w hL;refine(xZ T w x a.a hL h.few).mono ?_;rintro e w' ⟨rfl,hL⟩;exact⟨_,⟨_,_,rfl,_,ms,bq.ar h.fair (uD x a.a) ⟨by omega,by omega,by omega,by omega,by omega,by omega⟩,rfl,rfl⟩,hL⟩
theorem uE(x:WS)(ms:List MS)(a:BO)(most:Nat)(h1:1<=most)(h2:most<=65536)(h:cZ x ms a)(hw:a.what=10):Does 62 #[.pointer (some ⟨x.wb,0,none⟩),(aH most).val,a.val] x.ts (dB a x ms):=by
 simp only[RV.val,BO.val]at *;refine(qK x.wb (aH most) a x.ts (fun _ _ _ m2=>bU a x ms m2) hw ?_).mono (fun e m2 ⟨o,fine,he,_,_,_,hR⟩=>⟨o,fine,he,hR⟩);refine(bA (fun w=>rD (aH most) w a.a (show ¬(0<=a.a/\a.a<((0:Nat):Int)) by omega))).mono ?_;rintro e m1 ⟨rfl,rfl⟩;refine⟨aH most,4,rfl,?_⟩;intro T w hL;refine(tK T w x a.a hL h.few).mono ?_;rintro e w' ⟨rfl,hL⟩;exact⟨_,⟨_,rfl,_,ms,bq.ar h.fair (qQ x a.a) ⟨by omega,by omega,by omega,by omega,by omega,by omega⟩,rfl,rfl⟩,hL⟩
theorem LZ(x:WS)(ms:List MS)(a:BO)(most:Nat)(h1:1<=most)(h2:most<=65536)(h:cZ x ms a)(hw:a.what=11):Does 62 #[.pointer (some ⟨x.wb,0,none⟩),(aH most).val,a.val] x.ts (dB a x ms):=by
 simp only[RV.val,BO.val]at *;refine(AP x.wb (aH most) a x.ts (fun _ _ _ _ _ m2=>bU a x ms m2) hw ?_).mono (fun e m2 ⟨o,fine,he,_,_,_,_,_,hR⟩=>⟨o,fine,he,hR⟩);refine(bA (fun w=>JO (aH most) w a.a (show ¬(0<=a.a/\a.a<((0:Nat):Int)) by omega))).mono ?_;rintro e m1 ⟨rfl,rfl⟩;refine⟨aH most,false,4,rfl,?_⟩;intro T w hL;refine(zJ T w x a.a hL h.few).mono ?_;rintro e w' ⟨rfl,hL⟩;exact⟨_,⟨_,_,rfl,_,ms,bq.ar h.fair (si x a.a) ⟨by omega,by omega,by omega,by omega,by omega,by omega⟩,rfl,rfl⟩,hL⟩
theorem w_fire(x:WS)(ms:List MS)(a:BO)(most:Nat)(h1:1<=most)(h2:most<=65536)(h:cZ x ms a)(hw:a.what=12):Does 62 #[.pointer (some ⟨x.wb,0,none⟩),(aH most).val,a.val] x.ts (dB a x ms):=by
 simp only[RV.val,BO.val]at *;refine(JL x.wb (aH most) a x.ts (fun _ _ _ m2=>bU a x ms m2) hw ?_).mono (fun e m2 ⟨o,fine,he,_,_,_,hR⟩=>⟨o,fine,he,hR⟩);refine(bA (fun w=>Nn (aH most) w a.a (show ¬(0<=a.a/\a.a<((0:Nat):Int)) by omega))).mono ?_;rintro e m1 ⟨rfl,rfl⟩;refine⟨aH most,4,rfl,?_⟩;intro T w hL;refine(Kh T w x a.a hL h.few).mono ?_;rintro e w' ⟨rfl,hL⟩;exact⟨_,⟨_,rfl,_,ms,bq.ar h.fair (vv x a.a) ⟨by omega,by omega,by omega,by omega,by omega,by omega⟩,rfl,rfl⟩,hL⟩
theorem Mw(x:WS)(ms:List MS)(a:BO)(most:Nat)(h1:1<=most)(h2:most<=65536)(h:cZ x ms a)(hw:a.what=15):Does 63 #[.pointer (some ⟨x.wb,0,none⟩),(aH most).val,a.val] x.ts (dB a x ms):=by
 simp only[RV.val,BO.val]at *;refine(zX x.wb (aH most) a x.ts (fun _ _ _ _ _ m2=>bU a x ms m2) hw ?_).mono (fun e m2 ⟨o,fine,he,_,_,_,_,_,hR⟩=>⟨o,fine,he,hR⟩);refine(bA (fun w=>Ki (aH most) w a.a (show ¬(0<=a.a/\a.a<((0:Nat):Int)) by omega))).mono ?_;rintro e m1 ⟨rfl,rfl⟩;refine⟨aH most,0,4,rfl,?_⟩;intro T w hL;refine(Oq T w x a.a hL h.few).mono ?_;rintro e w' ⟨rfl,hL⟩;exact⟨_,⟨_,_,rfl,_,ms,bq.ar h.fair (Bh x a.a) ⟨by omega,by omega,by omega,by omega,by omega,by omega⟩,rfl,rfl⟩,hL⟩
theorem Bd(x:WS)(ms:List MS)(a:BO)(most:Nat)(h1:1<=most)(h2:most<=65536)(h:cZ x ms a)(hw:a.what=16):Does 63 #[.pointer (some ⟨x.wb,0,none⟩),(aH most).val,a.val] x.ts (dB a x ms):=by
 simp only[RV.val,BO.val]at *;refine(vN x.wb (aH most) a x.ts (fun _ _ _ m2=>bU a x ms m2) hw ?_).mono (fun e m2 ⟨o,fine,he,_,_,_,hR⟩=>⟨o,fine,he,hR⟩);refine(bA (fun w=>wI (aH most) w a.a (show ¬(0<=a.a/\a.a<((0:Nat):Int)) by omega))).mono ?_;rintro e m1 ⟨rfl,rfl⟩;refine⟨aH most,4,rfl,?_⟩;intro T w hL;refine(Ah T w x a.a hL h.few).mono ?_;rintro e w' ⟨rfl,hL⟩;exact⟨_,⟨_,rfl,_,ms,bq.ar h.fair (vI x a.a) ⟨by omega,by omega,by omega,by omega,by omega,by omega⟩,rfl,rfl⟩,hL⟩
theorem w_take(x:WS)(ms:List MS)(a:BO)(most:Nat)(h1:1<=most)(h2:most<=65536)(h:cZ x ms a)(hw:a.what=17):Does 63 #[.pointer (some ⟨x.wb,0,none⟩),(aH most).val,a.val] x.ts (dB a x ms):=by
 simp only[RV.val,BO.val]at *;refine(Kq x.wb (aH most) a x.ts (fun _ _ _ _ _ m2=>bU a x ms m2) hw ?_).mono (fun e m2 ⟨o,fine,he,_,_,_,_,_,hR⟩=>⟨o,fine,he,hR⟩);refine(bA (fun w=>NP (aH most) w a.a (show ¬(0<=a.a/\a.a<((0:Nat):Int)) by omega))).mono ?_;rintro e m1 ⟨rfl,rfl⟩;refine⟨aH most,0,4,rfl,?_⟩;intro T w hL;refine(J3 T w x a.a hL h.few).mono ?_;rintro e w' ⟨rfl,hL⟩;exact⟨_,⟨_,_,rfl,_,ms,bq.ar h.fair (wu x a.a) ⟨by omega,by omega,by omega,by omega,by omega,by omega⟩,rfl,rfl⟩,hL⟩
theorem Le(x:WS)(ms:List MS)(a:BO)(most:Nat)(h1:1<=most)(h2:most<=65536)(h:cZ x ms a)(hw:a.what=18):Does 63 #[.pointer (some ⟨x.wb,0,none⟩),(aH most).val,a.val] x.ts (dB a x ms):=by
 simp only[RV.val,BO.val]at *;refine(yH x.wb (aH most) a x.ts (fun _ _ _ m2=>bU a x ms m2) hw ?_).mono (fun e m2 ⟨o,fine,he,_,_,_,hR⟩=>⟨o,fine,he,hR⟩);refine(bA (fun w=>Br (aH most) w a.a (show ¬(0<=a.a/\a.a<((0:Nat):Int)) by omega))).mono ?_;rintro e m1 ⟨rfl,rfl⟩;refine⟨aH most,4,rfl,?_⟩;intro T w hL;refine(KI T w x a.a hL h.few).mono ?_;rintro e w' ⟨rfl,hL⟩;exact⟨_,⟨_,rfl,_,ms,bq.ar h.fair (yA x a.a) ⟨by omega,by omega,by omega,by omega,by omega,by omega⟩,rfl,rfl⟩,hL⟩
theorem w_look(x:WS)(ms:List MS)(a:BO)(most:Nat)(h1:1<=most)(h2:most<=65536)(h:cZ x ms a)(hw:a.what=19):Does 63 #[.pointer (some ⟨x.wb,0,none⟩),(aH most).val,a.val] x.ts (dB a x ms):=by
 simp only[RV.val,BO.val]at *;refine(Iq x.wb (aH most) a x.ts (fun _ _ _ _ _ m2=>bU a x ms m2) hw ?_).mono (fun e m2 ⟨o,fine,he,_,_,_,_,_,hR⟩=>⟨o,fine,he,hR⟩);refine(bA (fun w=>zk (aH most) w a.a (show ¬(0<=a.a/\a.a<((0:Nat):Int)) by omega))).mono ?_;rintro e m1 ⟨rfl,rfl⟩;refine⟨aH most,0,4,rfl,?_⟩;intro T w hL;refine(Look_w T w x a.a hL h.few).mono ?_;rintro e w' ⟨rfl,hL⟩;exact⟨_,⟨_,_,rfl,_,ms,bq.ar h.fair (LC x a.a) ⟨by omega,by omega,by omega,by omega,by omega,by omega⟩,rfl,rfl⟩,hL⟩
theorem w_peek(x:WS)(ms:List MS)(a:BO)(most:Nat)(h1:1<=most)(h2:most<=65536)(h:cZ x ms a)(hw:a.what=6):Does 61 #[.pointer (some ⟨x.wb,0,none⟩),(aH most).val,a.val] x.ts (dB a x ms):=by
 simp only[RV.val,BO.val]at *;refine(Lm x.wb (aH most) a x.ts (fun _ _ _ _ _ _ m2=>bU a x ms m2) hw ?_).mono (fun e m2 ⟨fine,he,_,_,_,_,_,_,_,hR⟩=>⟨aH most,fine,he,hR⟩);have hside:Does 154 #[.agg #[.slice (aH most).ca (aH most).cn (aH most).cc,.int .i64 (aH most).most,.slice (aH most).la (aH most).ln (aH most).lc,.slice (aH most).ha (aH most).hn (aH most).hc,.slice (aH most).oa (aH most).on (aH most).oc,.slice (aH most).sa (aH most).sn (aH most).sc],.int .i64 a.a,.int .i64 a.side,.int .i64 a.b] x.ts (fun e m1=>(∃er,e= .returned (.tuple #[.agg #[.int .i64 ME.zero.sync,.int .i64 ME.zero.thread,.int .i64 ME.zero.branch,.int .i64 ME.zero.flag,.int .i64 ME.zero.v.kind,.int .i64 ME.zero.v.num,.slice ME.zero.v.addr ME.zero.v.parts.length ME.zero.v.cap],.bool false,.int .i64 er]))/\m1=x.ts):=by
  by_cases hs:a.side=1\/a.side=2
  .refine(bA (fun w=>M0 (aH most) w a.a a.side a.b hs (show ¬(0<=a.a/\a.a<((0:Nat):Int)) by omega))).mono ?_
   rintro e m1 ⟨rfl,rfl⟩;exact⟨⟨_,rfl⟩,rfl⟩
  .refine(bA (fun w=>IC (aH most) w a.a a.side a.b hs)).mono ?_
   rintro e m1 ⟨rfl,rfl⟩;exact⟨⟨_,rfl⟩,rfl⟩
 refine hside.mono ?_;rintro e m1 ⟨⟨FP,rfl⟩,rfl⟩;refine⟨ME.zero,false,FP,rfl,?_⟩;intro T w hL;refine(KC T w x a.a a.side a.b hL h.fair.good.sides h.fair.good.vals).mono ?_;rintro e w' ⟨v,er,x',rfl,hp,hL⟩;obtain⟨y,bb,rfl,hin⟩:=wX h.fair hp;exact⟨_,⟨y,bb,er,rfl,⟨2,x'.P,rfl,fun W hW=>⟨⟨MT.dQ W,bC⟩,hin W hW⟩⟩,x',ms,qd h.fair hp,zl hp,rfl⟩,hL⟩
theorem w_drop(x:WS)(ms:List MS)(a:BO)(most:Nat)(h1:1<=most)(h2:most<=65536)(h:cZ x ms a)(hw:a.what=7):Does 61 #[.pointer (some ⟨x.wb,0,none⟩),(aH most).val,a.val] x.ts (dB a x ms):=by
 simp only[RV.val,BO.val]at *;refine(JU x.wb (aH most) a x.ts (fun _ _ _ _ _ _ _ m2=>bU a x ms m2) hw ?_).mono (fun e m2 ⟨o,fine,he,_,_,_,_,_,_,_,hR⟩=>⟨o,fine,he,hR⟩);have hside:Does 155 #[.agg #[.slice (aH most).ca (aH most).cn (aH most).cc,.int .i64 (aH most).most,.slice (aH most).la (aH most).ln (aH most).lc,.slice (aH most).ha (aH most).hn (aH most).hc,.slice (aH most).oa (aH most).on (aH most).oc,.slice (aH most).sa (aH most).sn (aH most).sc],.int .i64 a.a,.int .i64 a.side,.int .i64 a.b] x.ts (fun e m1=>(∃er,e= .returned (.tuple #[.agg #[.slice (aH most).ca (aH most).cn (aH most).cc,.int .i64 (aH most).most,.slice (aH most).la (aH most).ln (aH most).lc,.slice (aH most).ha (aH most).hn (aH most).hc,.slice (aH most).oa (aH most).on (aH most).oc,.slice (aH most).sa (aH most).sn (aH most).sc],.agg #[.int .i64 ME.zero.sync,.int .i64 ME.zero.thread,.int .i64 ME.zero.branch,.int .i64 ME.zero.flag,.int .i64 ME.zero.v.kind,.int .i64 ME.zero.v.num,.slice ME.zero.v.addr ME.zero.v.parts.length ME.zero.v.cap],.bool false,.int .i64 er]))/\m1=x.ts):=by
  by_cases hs:a.side=1\/a.side=2
  .refine(bA (fun w=>MW (aH most) w a.a a.side a.b hs (show ¬(0<=a.a/\a.a<((0:Nat):Int)) by omega))).mono ?_
   rintro e m1 ⟨rfl,rfl⟩;exact⟨⟨_,rfl⟩,rfl⟩
  .refine(bA (fun w=>Jq (aH most) w a.a a.side a.b hs)).mono ?_
   rintro e m1 ⟨rfl,rfl⟩;exact⟨⟨_,rfl⟩,rfl⟩
 refine hside.mono ?_;rintro e m1 ⟨⟨FP,rfl⟩,rfl⟩;refine⟨aH most,ME.zero,false,FP,rfl,?_⟩;intro T w hL;refine(Drop_w T w x a.a a.side a.b hL h.fair.good.sides h.fair.good.q1).mono ?_;rintro e w' ⟨v,er,x',rfl,hp,hL⟩;obtain⟨y,bb,rfl,hin⟩:=xL h.fair hp;exact⟨_,⟨y,bb,er,rfl,⟨2,x'.P,rfl,fun W hW=>⟨⟨MT.dQ W,bC⟩,hin W hW⟩⟩,x',ms,yK h.fair hp,MJ hp,rfl⟩,hL⟩
theorem w_push(x:WS)(ms:List MS)(a:BO)(most:Nat)(h1:1<=most)(h2:most<=65536)(h:cZ x ms a)(hw:a.what=8):Does 61 #[.pointer (some ⟨x.wb,0,none⟩),(aH most).val,a.val] x.ts (dB a x ms):=by
 simp only[RV.val,BO.val]at *;refine(IE x.wb (aH most) a x.ts (fun _ _ _ m2=>bU a x ms m2) hw ?_).mono (fun e m2 ⟨o,fine,he,_,_,_,hR⟩=>⟨o,fine,he,hR⟩);have hside:Does 156 #[.agg #[.slice (aH most).ca (aH most).cn (aH most).cc,.int .i64 (aH most).most,.slice (aH most).la (aH most).ln (aH most).lc,.slice (aH most).ha (aH most).hn (aH most).hc,.slice (aH most).oa (aH most).on (aH most).oc,.slice (aH most).sa (aH most).sn (aH most).sc],.int .i64 a.a,.int .i64 a.side,.agg #[.int .i64 a.e.sync,.int .i64 a.e.thread,.int .i64 a.e.branch,.int .i64 a.e.flag,.int .i64 a.e.v.kind,.int .i64 a.e.v.num,.slice a.e.v.addr a.e.v.parts.length a.e.v.cap]] x.ts (fun e m1=>(∃er,e= .returned (.tuple #[.agg #[.slice (aH most).ca (aH most).cn (aH most).cc,.int .i64 (aH most).most,.slice (aH most).la (aH most).ln (aH most).lc,.slice (aH most).ha (aH most).hn (aH most).hc,.slice (aH most).oa (aH most).on (aH most).oc,.slice (aH most).sa (aH most).sn (aH most).sc],.int .i64 er]))/\m1=x.ts):=by
  by_cases hs:a.side=1\/a.side=2
  .refine(bA (fun w=>NQ (aH most) w a.a a.side a.e hs (show ¬(0<=a.a/\a.a<((0:Nat):Int)) by omega))).mono ?_
   rintro e m1 ⟨rfl,rfl⟩;exact⟨⟨_,rfl⟩,rfl⟩
  .refine(bA (fun w=>Ju (aH most) w a.a a.side a.e hs)).mono ?_
   rintro e m1 ⟨rfl,rfl⟩;exact⟨⟨_,rfl⟩,rfl⟩
 refine hside.mono ?_;rintro e m1 ⟨⟨FP,rfl⟩,rfl⟩;refine⟨aH most,FP,rfl,?_⟩;intro T w hL;refine(KW T w x a.a a.side a.e hL h.fair.good.sides (fun W hW=>(h.mem W hW).1) h.fair.good.q1).mono ?_;rintro e w' ⟨er,x',rfl,hp,hL⟩;exact⟨_,⟨er,rfl,x',ms,mG h.fair hp,zi hp,rfl⟩,hL⟩
theorem w_wait(x:WS)(ms:List MS)(a:BO)(most:Nat)(h1:1<=most)(h2:most<=65536)(h:cZ x ms a)(hw:a.what=13):Does 62 #[.pointer (some ⟨x.wb,0,none⟩),(aH most).val,a.val] x.ts (dB a x ms):=by
 simp only[RV.val,BO.val]at *;refine(Lb x.wb (aH most) a x.ts (fun _ _ _ m2=>bU a x ms m2) hw ?_).mono (fun e m2 ⟨o,fine,he,_,_,_,hR⟩=>⟨o,fine,he,hR⟩);refine(bA (fun w=>OD (aH most) w a.a a.e (show ¬(0<=a.a/\a.a<((0:Nat):Int)) by omega))).mono ?_;rintro e m1 ⟨rfl,rfl⟩;refine⟨aH most,4,rfl,?_⟩;intro T w hL;refine(Wait_w T w x a.a a.e hL (fun W hW=>(h.mem W hW).1) h.fair.good.q2).mono ?_;rintro e w' ⟨er,x',rfl,hp,hL⟩;exact⟨_,⟨er,rfl,x',ms,yt h.fair hp,Nw hp,rfl⟩,hL⟩
theorem w_next(x:WS)(ms:List MS)(a:BO)(most:Nat)(h1:1<=most)(h2:most<=65536)(h:cZ x ms a)(hw:a.what=14):Does 62 #[.pointer (some ⟨x.wb,0,none⟩),(aH most).val,a.val] x.ts (dB a x ms):=by
 simp only[RV.val,BO.val]at *;refine(JI x.wb (aH most) a x.ts (fun _ _ _ _ _ _ _ m2=>bU a x ms m2) hw ?_).mono (fun e m2 ⟨o,fine,he,_,_,_,_,_,_,_,hR⟩=>⟨o,fine,he,hR⟩);refine(bA (fun w=>L8 (aH most) w a.a (show ¬(0<=a.a/\a.a<((0:Nat):Int)) by omega))).mono ?_;rintro e m1 ⟨rfl,rfl⟩;refine⟨aH most,ME.zero,false,4,rfl,?_⟩;intro T w hL;refine(Next_w T w x a.a hL h.fair.good.q2).mono ?_;rintro e w' ⟨v,er,x',rfl,hp,hL⟩;obtain⟨y,bb,rfl,hin⟩:=xu h.fair hp;exact⟨_,⟨y,bb,er,rfl,⟨2,x'.P,rfl,fun W hW=>⟨⟨MT.dQ W,bC⟩,hin W hW⟩⟩,x',ms,xh h.fair hp,MI hp,rfl⟩,hL⟩
theorem IK(x:WS)(ms:List MS)(a:BO)(most:Nat)(h1:1<=most)(h2:most<=65536)(h:cZ x ms a)(hw:a.what=20):Does 63 #[.pointer (some ⟨x.wb,0,none⟩),(aH most).val,a.val] x.ts (dB a x ms):=by
 simp only[RV.val,BO.val]at *;refine(yL x.wb (aH most) a x.ts (fun _ _ _ m2=>bU a x ms m2) hw ?_).mono (fun e m2 ⟨o,fine,he,_,_,_,hR⟩=>⟨o,fine,he,hR⟩);refine(bA (fun w=>Ap (aH most) w a.a a.b a.v a.c (show ¬(0<=a.a/\a.a<((0:Nat):Int)) by omega))).mono ?_;rintro e m1 ⟨rfl,rfl⟩;refine⟨aH most,4,rfl,?_⟩;intro T w hL;refine(qz T w x a.a a.b a.v a.c hL (fun W hW=>(h.mem W hW).2.1) (by have :=h.fair.good.l3;omega)).mono ?_;rintro e w' ⟨er,x',rfl,hp,hL⟩;obtain⟨ms',hs⟩:=jS h.fair hw hp;exact⟨_,⟨er,rfl,x',ms',hs,rM hp,rfl⟩,hL⟩
theorem w_park(x:WS)(ms:List MS)(a:BO)(most:Nat)(h1:1<=most)(h2:most<=65536)(h:cZ x ms a)(hw:a.what=21):Does 63 #[.pointer (some ⟨x.wb,0,none⟩),(aH most).val,a.val] x.ts (dB a x ms):=by
 simp only[RV.val,BO.val]at *;refine(KF x.wb (aH most) a x.ts (fun _ _ _ _ _ m2=>bU a x ms m2) hw ?_).mono (fun e m2 ⟨o,fine,he,_,_,_,_,_,hR⟩=>⟨o,fine,he,hR⟩);refine(bA (fun w=>Nt (aH most) w a.a (show ¬(0<=a.a/\a.a<((0:Nat):Int)) by omega))).mono ?_;rintro e m1 ⟨rfl,rfl⟩;refine⟨aH most,false,4,rfl,?_⟩;intro T w hL;refine(Jz T w x a.a hL h.few).mono ?_;rintro e w' ⟨v,er,x',rfl,hp,hL⟩;obtain⟨ms',hs⟩:=mI h.fair hw hp;exact⟨_,⟨v,er,rfl,x',ms',hs,zG hp,rfl⟩,hL⟩
theorem w_wake(x:WS)(ms:List MS)(a:BO)(most:Nat)(h1:1<=most)(h2:most<=65536)(h:cZ x ms a)(hw:a.what=22):Does 63 #[.pointer (some ⟨x.wb,0,none⟩),(aH most).val,a.val] x.ts (dB a x ms):=by
 simp only[RV.val,BO.val]at *;refine(J5 x.wb (aH most) a x.ts (fun _ _ _ m2=>bU a x ms m2) hw ?_).mono (fun e m2 ⟨o,fine,he,_,_,_,hR⟩=>⟨o,fine,he,hR⟩);refine(bA (fun w=>Ot (aH most) w a.a (show ¬(0<=a.a/\a.a<((0:Nat):Int)) by omega))).mono ?_;rintro e m1 ⟨rfl,rfl⟩;refine⟨aH most,4,rfl,?_⟩;intro T w hL;refine(Wake_w T w x a.a hL (by have :=h.fair.good.l3;omega)).mono ?_;rintro e w' ⟨er,x',rfl,hp,hL⟩;obtain⟨ms',hs⟩:=wM h.fair hw hp;exact⟨_,⟨er,rfl,x',ms',hs,Mf hp,rfl⟩,hL⟩
theorem MU(x:WS)(ms:List MS)(a:BO)(most:Nat)(h1:1<=most)(h2:most<=65536)(h:cZ x ms a)(hw:a.what=23):Does 63 #[.pointer (some ⟨x.wb,0,none⟩),(aH most).val,a.val] x.ts (dB a x ms):=by
 simp only[RV.val,BO.val]at *;refine(AQ x.wb (aH most) a x.ts (fun _ _ _ _ m2=>bU a x ms m2) hw ?_).mono (fun e m2 ⟨fine,he,_,_,_,_,_,hR⟩=>⟨aH most,fine,he,hR⟩);refine(bA (fun w=>JY (aH most) w a.a a.b (show ¬(0<=a.a/\a.a<((0:Nat):Int)) by omega))).mono ?_;rintro e m1 ⟨rfl,rfl⟩;refine⟨ME.zero,4,rfl,?_⟩;intro T w hL;refine(zn T w x ms a.a a.b hL h.fair.good.sys h.fair.good.cont).mono ?_;rintro e w' ⟨v,er,x',rfl,hp,hL⟩;obtain⟨y,rfl,hin⟩:=vM hp;exact⟨_,⟨y,er,rfl,⟨2,x'.P,rfl,fun W hW=>⟨⟨MT.dQ W,bC⟩,hin W hW⟩⟩,x',ms,oL h.fair hp,vk hp,rfl⟩,hL⟩
def ActZ(a:BO)(x:WS)(ms:List MS)(p:Option Addr)(o:RV)(fine:Bool)(m2:List ai):Prop:=∃(x':WS) (ms':List MS),bq a x ms x' ms'/\p=some ⟨x'.wb,0,none⟩/\m2=x'.ts
theorem pO{a:BO}{x:WS}{ms:List MS}{e:Ending}{m2:List ai}(h:dB a x ms e m2):∃(o:RV) (fine:Bool),e= .returned (.tuple #[.agg #[.slice o.ca o.cn o.cc,.int .i64 o.most,.slice o.la o.ln o.lc,.slice o.ha o.hn o.hc,.slice o.oa o.on o.oc,.slice o.sa o.sn o.sc],.bool fine])/\ActZ a x ms (some ⟨x.wb,0,none⟩) o fine m2:=by
 obtain⟨o,fine,he,x',ms',h1,h2,h3⟩:=h;exact⟨o,fine,he,x',ms',h1,by rw[h2],h3⟩
theorem act_w(x:WS)(ms:List MS)(a:BO)(most:Nat)(h1:1<=most)(h2:most<=65536)(h:cZ x ms a):Does 14 #[.pointer (some ⟨x.wb,0,none⟩),(aH most).val,a.val] x.ts fun e m2=>∃(p:Option Addr) (o:RV) (fine:Bool),e= .returned (.tuple #[.pointer p,o.val,.bool fine])/\ActZ a x ms p o fine m2:=by
 simp only[RV.val,BO.val]at *;refine act16 x.wb (aH most) a x.ts (ActZ a x ms) ?_ ?_ ?_ ?_ ?_
 .intro hr
  refine Does.mono ?_ (fun e m2 hA=>pO hA);have hc:a.what=0\/a.what=1\/(a.what=2\/a.what=3):=by omega
  rcases hc with hc|hc|hc
  .exact w_chan x ms a most h1 h2 h hc
  .exact w_cond x ms a most h1 h2 h hc
  .exact OA x ms a most h1 h2 h hc
 .intro hr
  refine Does.mono ?_ (fun e m2 hA=>pO hA);have hc:a.what=4\/a.what=5\/a.what=6\/a.what=7\/a.what=8:=by omega
  rcases hc with hc|hc|hc|hc|hc
  .exact w_lock x ms a most h1 h2 h hc
  .exact LJ x ms a most h1 h2 h hc
  .exact w_peek x ms a most h1 h2 h hc
  .exact w_drop x ms a most h1 h2 h hc
  .exact w_push x ms a most h1 h2 h hc
 .intro hr
  refine Does.mono ?_ (fun e m2 hA=>pO hA);have hc:a.what=9\/a.what=10\/a.what=11\/a.what=12\/a.what=13\/a.what=14:=by omega
  rcases hc with hc|hc|hc|hc|hc|hc
  .exact wU x ms a most h1 h2 h hc
  .exact uE x ms a most h1 h2 h hc
  .exact LZ x ms a most h1 h2 h hc
  .exact w_fire x ms a most h1 h2 h hc
  .exact w_wait x ms a most h1 h2 h hc
  .exact w_next x ms a most h1 h2 h hc
 .intro hr
  refine Does.mono ?_ (fun e m2 hA=>pO hA);have hc:a.what=15\/a.what=16\/a.what=17\/a.what=18\/a.what=19\/a.what=20\/a.what=21\/a.what=22\/a.what=23:=by omega
  rcases hc with hc|hc|hc|hc|hc|hc|hc|hc|hc
  .exact Mw x ms a most h1 h2 h hc
  .exact Bd x ms a most h1 h2 h hc
  .exact w_take x ms a most h1 h2 h hc
  .exact Le x ms a most h1 h2 h hc
  .exact w_look x ms a most h1 h2 h hc
  .exact IK x ms a most h1 h2 h hc
  .exact w_park x ms a most h1 h2 h hc
  .exact w_wake x ms a most h1 h2 h hc
  .exact MU x ms a most h1 h2 h hc
 .intro hr T w hL
  refine(K3 T w x ms hL h.fair.good).mono ?_;rintro e w' ⟨Q,y,ms',rfl,hP,hg,hs,e1,e2,e3,hL'⟩;refine⟨y.ts,⟨_,rfl,y,ms',yO h.fair hP hg hs e1 e2 e3,rfl,rfl⟩,?_⟩;have h5:=BD.OQ (x:=x.knows Q) (y:=y) (r:=[]) (by rw[List.append_nil];exact hL') hP;rw[List.append_nil]at h5;exact BD.aF h5
structure Eb(x:WS)(ms:List MS)(es:List PE)(s:Ar)(d:Bool):Prop where
 fair:x.Fair ms
 ar:x.s=s
 ch:∃c M q1 q2 l,x.BI=[⟨c,0,M,q1,q2,[],l⟩]/\l.map ME.plain=es
 co:∃c q,x.cos=[⟨c,1,2,q,[]⟩]
 sy:∃y,x.sys=[y]/\y.flag=3/\y.done=d/\y.gm=1
def kA(n:Int):BO:=⟨n,0,0,0,0,ME.zero,none,0,[],none,0,[],MT.zero⟩
theorem may_kA:qB (kA 4):=⟨by decide,by decide,by decide,by decide,by decide,by decide⟩
section
variable {x:WS} {ms:List MS} {es:List PE} {s:Ar} {d:Bool}
theorem Eb.to(h:Eb x ms es s d)(s':Ar)(h1:One x.s s'):Eb (x.ar s') ms es s' d:=
 ⟨(bq.ar (a:=kA 4) h.fair h1 may_kA).fair,rfl,h.ch,h.co,h.sy⟩
theorem Eb.know(h:Eb x ms es s d)(Q:World->Prop):Eb (x.knows Q) ms es s d:=
 ⟨(bq.knew (a:=kA 4) Q h.fair).fair,h.ar,h.ch,h.co,h.sy⟩
theorem Eb.lock(h:Eb x ms es s d):x.fQ 0=rB s (some (dM s 0)):=by
 obtain⟨c,M,q1,q2,l,e,_⟩:=h.ch;unfold WS.fQ;rw[h.ar,e];rfl
theorem Eb.II(h:Eb x ms es s d):x.fQ 1=(false,4,s):=by
 obtain⟨c,M,q1,q2,l,e,_⟩:=h.ch;unfold WS.fQ;rw[h.ar,e];rfl
theorem Eb.unlock(h:Eb x ms es s d):x.eF 0=rE s (some (bY s 0)):=by
 obtain⟨c,M,q1,q2,l,e,_⟩:=h.ch;unfold WS.eF;rw[h.ar,e];rfl
theorem Eb.take(h:Eb x ms es s d):x.gL 0=rF s (some (eu s 3 2)):=by
 obtain⟨y,e,hf,_⟩:=h.sy;unfold WS.gL;rw[h.ar,e];show rF s (some (eu s y.flag 2))=_
 rw[hf]
theorem Eb.fire(h:Eb x ms es s d):x.ja 0=rE s (some (iA s 2)):=by
 obtain⟨c,q,e⟩:=h.co;unfold WS.ja;rw[h.ar,e];rfl
theorem Eb.fired(h:Eb x ms es s d):x.eY 0=rB s (some (fH s 2)):=by
 obtain⟨c,q,e⟩:=h.co;unfold WS.eY;rw[h.ar,e];rfl
theorem Eb.bases(h:Eb x ms es s d):∃m,ms=[m]/\x.sys=[m.raw]/\m.bases.length=1/\m.flag=3/\m.done=d:=by
 obtain⟨y,e,hf,hd,hb⟩:=h.sy;have h1:=h.fair.good.sys;have h2:ms.length=1:=by have :=congrArg List.length h1;rw[e]at this;simpa using this.symm
 match ms,h2,h1 with
 |[m],_,h1=>
  rw[e]at h1;have h3:y=m.raw:=by simpa using h1
  exact⟨m,rfl,by rw[e,h3],by rw[h3]at hb;exact hb,by rw[h3]at hf;exact hf,by rw[h3]at hd;exact hd⟩
end
theorem k_new{wb ga:Nat}{P:World->Prop}(hS:∀W,P W->bJ W):(WS.empty wb ga 8 P).Fair []:=
 ⟨⟨hS,fun W _=>⟨fun c hc=>(List.not_mem_nil hc).elim,fun c hc=>(List.not_mem_nil hc).elim⟩,rfl,fun W _ m hm=>(List.not_mem_nil hm).elim,fun n hn=>(Nat.not_lt_zero _ hn).elim,fun n hn=>(Nat.not_lt_zero _ hn).elim,Nat.zero_le _,Nat.zero_le _,Nat.zero_le _⟩,rfl,(show(0:Nat)<=8 by omega),(show(8:Nat)<=65536 by omega)⟩
theorem k_chan{x x':WS}{v er:Int}(h:x.Fair [])(hs:x.s=⟨[],8,[]⟩)(h1:x.BI=[])(h2:x.cos=[])(h3:x.sys=[])(hp:jG x v er x'):v=0/\er=0/\x'.Fair []/\x'.s=⟨[0],8,[]⟩/\(∃c M q1 q2,x'.BI=[⟨c,0,M,q1,q2,[],[]⟩])/\x'.cos=[]/\x'.sys=[]:=by
 have hf:=(mJ (a:=kA 0) h hp).fair;rcases hp with ⟨_,rfl,rfl,c,M,q1,q2,a,cap,rfl⟩|⟨hn,_⟩
 .refine⟨by rw[h1];rfl,rfl,hf,?_,⟨c,M,q1,q2,?_⟩,h2,h3⟩
  .show(x.s.au 1).1=_
   rw[hs];rfl
  .show x.BI++[_]=_
   rw[h1,hs];rfl
 .rw[hs]at hn;exact absurd (by decide) hn
theorem k_cond{x x':WS}{v er:Int}(h:x.Fair [])(hs:x.s=⟨[0],8,[]⟩)(h1:∃c M q1 q2,x.BI=[⟨c,0,M,q1,q2,[],[]⟩])(h2:x.cos=[])(h3:x.sys=[])(hp:jE x v er x'):v=0/\er=0/\x'.Fair []/\x'.s=⟨[0,0,0],8,[]⟩/\(∃c M q1 q2,x'.BI=[⟨c,0,M,q1,q2,[],[]⟩])/\(∃c q,x'.cos=[⟨c,1,2,q,[]⟩])/\x'.sys=[]:=by
 have hf:=(mF (a:=kA 1) h hp).fair;rcases hp with ⟨_,rfl,rfl,c,q,a,cap,rfl⟩|⟨hn,_⟩
 .refine⟨by rw[h2];rfl,rfl,hf,?_,h1,⟨c,q,?_⟩,h3⟩
  .show(x.s.au 2).1=_
   rw[hs];rfl
  .show x.cos++[_]=_
   rw[h2,hs];rfl
 .rw[hs]at hn;exact absurd (by decide) hn
theorem Bc(c:Int):(fu c).v.E8:=⟨rfl,rfl,rfl⟩
theorem MX{n1 n2:Nat}{c:Int}(h:0<=c/\c<(n1:Int)):eD n1 n2 [] (fu c):=
 ⟨.inr (.inl ⟨rfl,h,Bc c⟩),(show(0:Nat)<=32 by omega),(show(0:Nat)<=32 by omega),fun m hm=>(List.not_mem_nil hm).elim,fun k hk=>(List.not_mem_nil hk).elim⟩
theorem NA{n1 n2:Nat}{c:Int}(h:¬(0<=c/\c<(n1:Int))):¬eD n1 n2 [] (fu c):=by
 rintro⟨hk,_⟩;rcases hk with ⟨h1,_⟩|⟨_,h2,_⟩|⟨h1,_⟩|⟨h1,_⟩|⟨h1,_⟩
 .exact absurd h1 (show ¬(6:Int)=5 by omega)
 .exact h h2
 .exact absurd h1 (show ¬(6:Int)=7 by omega)
 .exact absurd h1 (show ¬(6:Int)=8 by omega)
 .exact absurd h1 (show ¬(6:Int)=13 by omega)
theorem JJ(n:Nat):Ac n []:=⟨fun t h=>(Nat.not_lt_zero _ h).elim,fun s t hs=>(Nat.not_lt_zero _ hs).elim⟩
theorem Mq{x x':WS}{v er:Int}(h:x.Fair [])(hs:x.s=⟨[0,0,0],8,[]⟩)(h1:∃c M q1 q2,x.BI=[⟨c,0,M,q1,q2,[],[]⟩])(h2:∃c q,x.cos=[⟨c,1,2,q,[]⟩])(h3:x.sys=[])(hp:mq x 0 [fu 0] [] v er x'):
  v=0/\er=0/\∃m,Eb x' [m] [] ⟨[0,0,0,0],8,[]⟩ false/\m.plain=(0,[(fu 0).plain],[],3,false,false,0,MT.zero.plain,0):=by
 obtain⟨c,M,q1,q2,e1⟩:=h1;obtain⟨c',q,e2⟩:=h2;have hok:ou x 0 [fu 0] []:=⟨by omega,JJ _,by decide,fun b hb=>by
  obtain rfl:=List.mem_singleton.1 hb;rw[e1,e2];exact MX ⟨by omega,(show(0:Int)<((1:Nat):Int) by omega)⟩⟩
 obtain⟨ms',hst⟩:=kQ (a:=kA 2) h hp;have hf:=hst.fair;rcases hp with ⟨hn,_⟩|⟨_,hn,_⟩|⟨_,h8,rfl,rfl,s',a,cc,hpl,rfl⟩
 .exact absurd hok hn
 .rw[hs]at hn;exact absurd (by decide) hn
 .have hsy:x.sys++[s'.raw]=[s'.raw]:=by rw[h3];rfl
  have hf2:WS.Fair ((WS.knows {x with s:=(x.s.au 1).1} (fun W=>s'.In W)).uY s'.raw a cc) [s']:=by
   have hA:=jO x.s 1 h8;have hbal:=h.Hr;have Fj:=h.most;refine⟨⟨fun W hW=>h.good.sides W hW.1,fun W hW=>h.good.vals W hW.1,hsy,fun W hW m hm=>?_,h.good.q1,h.good.q2,h.good.l1,h.good.l2,?_⟩,?_,?_,?_⟩
   .obtain rfl:=List.mem_singleton.1 hm
    exact hW.2
   .show(x.sys++[s'.raw]).length<=_
    rw[hsy];exact(show(1:Nat)<=100000 by omega)
   .show(x.s.au ((1:Nat):Int)).1.C.length=x.BI.length+2*x.cos.length+(x.sys++[s'.raw]).length
    rw[hA];simp;omega
   .show(x.s.au ((1:Nat):Int)).1.C.length<=(x.s.au ((1:Nat):Int)).1.most
    rw[hA];simpa using h8
   .show(x.s.au ((1:Nat):Int)).1.most<=_
    rw[hA];exact Fj
  have p4:s'.flag=3:=by
   have :=congrArg (fun p=>p.2.2.2.1) hpl;rw[hs]at this;exact this
  have p6:s'.done=false:=congrArg (fun p=>p.2.2.2.2.2.1) hpl;have p2:s'.bases.length=1:=by
   have :=congrArg (fun p=>p.2.1.length) hpl;simpa[MS.plain]using this
  refine⟨by rw[h3];rfl,rfl,s',⟨hf2,?_,⟨c,M,q1,q2,[],e1,rfl⟩,⟨c',q,e2⟩,⟨s'.raw,hsy,p4,p6,p2⟩⟩,by rw[hpl,hs];rfl⟩;show(x.s.au 1).1=_
  rw[hs];rfl
theorem Eb.wT{x x':WS}{ms:List MS}{es:List PE}{s:Ar}{d:Bool}{v er:Int}(h:Eb x ms es s d)(hp:mq x 0 [fu 1] [] v er x'):v=0/\er=2/\x'=x:=by
 obtain⟨c,M,q1,q2,l,e1,_⟩:=h.ch;have hno:¬ou x 0 [fu 1] []:=fun hb=>by
  have :=hb.2.2.2 (fu 1) (List.mem_singleton.2 rfl);rw[e1]at this;exact NA (by simp) this
 rcases hp with ⟨_,h1,h2,h3⟩|⟨hok,_⟩|⟨hok,_⟩
 .exact⟨h2,h1,h3⟩
 .exact absurd hok hno
 .exact absurd hok hno
def kE(v:MT):ME:=⟨0,0,0,3,v⟩
def pE:PE:=⟨0,0,0,3,.mk 0 0 []⟩
theorem Eb.entry{x x':WS}{m:MS}{es:List PE}{s:Ar}{d:Bool}{v:dP}{er:Int}(h:Eb x [m] es s d)(hpl:m.plain=(0,[(fu 0).plain],[],3,false,false,0,MT.zero.plain,0))(hp:jo x [m] 0 0 v er x'):
  er=0/\∃u:MT,v.val=(kE u).val/\(kE u).plain=pE/\Eb x' [m] es s d/\(∀W,x'.P W->u.In W)/\x'.wb=x.wb:=by
 have hwb:=vk hp;rcases hp with ⟨hn,_⟩|⟨n,hn,hn0,h2⟩
 .exact absurd ⟨by omega,(show(0:Int)<((1:Nat):Int) by omega)⟩ hn
 .have hn1:n=0:=by omega
  subst hn1;have pb:m.bases.map MB.plain=[(fu 0).plain]:=congrArg (fun p=>p.2.1) hpl;have pl:m.bases.length=1:=by have :=congrArg List.length pb;simpa using this
  have pt:m.thread=0:=congrArg (fun p=>p.1) hpl;have pf:m.flag=3:=congrArg (fun p=>p.2.2.2.1) hpl;rcases h2 with ⟨hno,_⟩|⟨j,hj,v',hj0,rfl,hv',rfl,rfl⟩
  .refine absurd ⟨by omega,?_⟩ hno
   show(0:Int)<(m.bases.length:Int)
   rw[pl];decide
  .have hj1:j=0:=by omega
   subst hj1;have hvz:v'.plain= .mk 0 0 []:=by
    rw[hv'];have h4:(m.bases.map MB.plain)[0]? =some (fu 0).plain:=by rw[pb];rfl
    rw[List.getElem?_map]at h4;have h5:m.bases[0]? =some m.bases[0]:=List.getElem?_eq_getElem hj;rw[h5]at h4;have h6:m.bases[0].plain=(fu 0).plain:=Option.some.inj h4;have h7:=congrArg (fun p=>p.2.2.1) h6;exact h7
   refine⟨rfl,v',?_,?_,h.know _,fun W hW=>hW.2.1,rfl⟩
   .show dP.val (dP.of 0 m 0 v')=_
    simp only[dP.val,dP.of,ME.val,kE,pt,pf]
   .simp only[ME.plain,kE,pE,hvz]
theorem Eb.push{x x':WS}{ms:List MS}{s:Ar}{d:Bool}{e:ME}{er:Int}(h:Eb x ms [] s d)(he:e.plain=pE)(hp:lX x 0 2 e er x'):er=0/\Eb x' ms [pE] s d/\x'.wb=x.wb:=by
 have hwb:=zi hp;have hf:=(mG (a:=kA 8) h.fair hp).fair;obtain⟨c,M,q1,q2,l,e1,hl⟩:=h.ch;have hl0:l=[]:=by simpa using hl
 subst hl0;rcases hp with ⟨hn,_⟩|⟨_,hn,_⟩|⟨n,hn,kk,ys,hn0,hys,h2⟩
 .exact absurd (.inr rfl) hn
 .refine absurd ⟨by omega,?_⟩ hn
  rw[e1];exact(show(0:Int)<((1:Nat):Int) by omega)
 .have hn1:n=0:=by omega
  subst hn1;rcases h2 with ⟨h1,_⟩|⟨_,hr,rfl⟩
  .exact absurd h1 (by decide)
  .have hok:e.plain.Ok:=by rw[he];exact⟨by decide,by decide,by decide,by decide,.inl rfl⟩
   have hes0:x.BI[0].es2=[]:=by simp only[e1,List.getElem_cons_zero]
   have hk:er=0/\kk=1:=by
    rcases hr.2.2.2 with ⟨h5,h6⟩|⟨h5,⟨_,h6⟩|⟨_,_,h6⟩⟩
    .exact⟨h5,h6⟩
    .have :kk=0:=by simpa using h5
     subst this;exact absurd hok h6
    .have h7:kk<1:=h5
     rw[hes0]at h6;simp at h6;omega
   obtain⟨rfl,rfl⟩:=hk;refine⟨rfl,⟨hf,h.ar,⟨c,M,q1,q2,ys,?_,?_⟩,h.co,h.sy⟩,hwb⟩
   .show x.BI.set 0 _=_
    rw[hes0];simp only[e1,List.getElem_cons_zero,sZq,nAq]
   .rw[hys,he];rfl
theorem Eb.peek{x x':WS}{ms:List MS}{s:Ar}{d:Bool}{v:aL}{er:Int}(h:Eb x ms [pE] s d)(hp:j4 x 0 2 0 v er x'):er=0/\v.is=true/\v.sync=0/\Eb x' ms [pE] s d/\x'.wb=x.wb:=by
 have hwb:=zl hp;obtain⟨c,M,q1,q2,l,e1,hl⟩:=h.ch;rcases hp with ⟨hn,_⟩|⟨_,hn,_⟩|⟨n,hn,y,b,hn0,rfl,rfl,h2⟩
 .exact absurd (.inr rfl) hn
 .refine absurd ⟨by omega,?_⟩ hn
  rw[e1];exact(show(0:Int)<((1:Nat):Int) by omega)
 .have hn1:n=0:=by omega
  subst hn1;rcases h2 with ⟨h1,_⟩|⟨_,hr,rfl⟩
  .exact absurd h1 (by decide)
  .have hes:x.BI[0].es2=l:=by simp only[e1,List.getElem_cons_zero]
   rw[hes,hl]at hr;rcases hr with ⟨rfl,_,hg⟩|⟨_,hn,_⟩
   .have hy:pE=y.plain:=by simpa using hg
    have hy2:y.sync=0:=(congrArg PE.sync hy).symm;exact⟨rfl,rfl,hy2,h.know _,rfl⟩
   .exact absurd ⟨by omega,by decide⟩ hn
def five:MT:= .mk 2 5 none 0 []
theorem zm:five.plain.Ok:=by
 refine⟨by decide,?_⟩;simp[five,MT.plain,MT.jD,MT.PT.iZ,MT.PT.iU,Shape]
theorem Eb.commit{x x':WS}{ms:List MS}{es:List PE}{s:Ar}{er:Int}(h:Eb x ms es s false)(hp:gN x 0 0 five (-1) er x'):er=0/\(∃ms',Eb x' ms' es s true)/\x'.wb=x.wb:=by
 have hwb:=rM hp;obtain⟨ms',hst⟩:=jS (a:=kA 20) h.fair rfl hp;have hf:=hst.fair;obtain⟨y,e,hfl,hd,hb⟩:=h.sy;rcases hp with ⟨hn,_⟩|⟨n,hn,hn0,h2⟩
 .refine absurd ⟨by omega,?_⟩ hn
  rw[e];exact(show(0:Int)<((1:Nat):Int) by omega)
 .have hn1:n=0:=by omega
  subst hn1;have e0:x.sys[0]=y:=by simp only[e,List.getElem_cons_zero]
  rw[e0]at h2;have hargs:(0<=(0:Int)/\(0:Int)<(y.gm:Int))/\five.plain.Ok/\(-1<=(-1:Int)/\(-1:Int)<(x.sys.length:Int)):=⟨⟨by omega,by rw[hb];decide⟩,zm,by omega,by omega⟩;rcases h2 with ⟨hno,_⟩|⟨_,⟨hdd,_⟩|⟨_,rfl,v',_,rfl⟩⟩
  .exact absurd hargs hno
  .rw[hd]at hdd;exact absurd hdd (by decide)
  .refine⟨rfl,⟨ms',hf,h.ar,h.ch,h.co,⟨y.qN 0 v' (-1),?_,hfl,rfl,hb⟩⟩,hwb⟩
   show x.sys.set 0 _=_
   rw[e];rfl
theorem Eb.uh{x x':WS}{ms:List MS}{es:List PE}{s:Ar}{er:Int}(h:Eb x ms es s true)(hp:gN x 0 0 five (-1) er x'):er=160/\x'=x:=by
 obtain⟨y,e,hfl,hd,hb⟩:=h.sy;rcases hp with ⟨hn,_⟩|⟨n,hn,hn0,h2⟩
 .refine absurd ⟨by omega,?_⟩ hn
  rw[e];exact(show(0:Int)<((1:Nat):Int) by omega)
 .have hn1:n=0:=by omega
  subst hn1;have e0:x.sys[0]=y:=by simp only[e,List.getElem_cons_zero]
  rw[e0]at h2;have hargs:(0<=(0:Int)/\(0:Int)<(y.gm:Int))/\five.plain.Ok/\(-1<=(-1:Int)/\(-1:Int)<(x.sys.length:Int)):=⟨⟨by omega,by rw[hb];decide⟩,zm,by omega,by omega⟩;rcases h2 with ⟨hno,_⟩|⟨_,⟨_,h5,h6⟩|⟨hdd,_⟩⟩
  .exact absurd hargs hno
  .exact⟨h5,h6⟩
  .rw[hd]at hdd;exact absurd hdd (by decide)
theorem Eb.park{x x':WS}{ms:List MS}{es:List PE}{s s':Ar}{d v:Bool}{er:Int}(h:Eb x ms es s d)(hl:fT s 3=(2,0,s'))(hp:jk x 0 v er x'):v=false/\er=0/\(∃ms',Eb x' ms' es s' d)/\x'.wb=x.wb:=by
 have hwb:=zG hp;obtain⟨ms',hst⟩:=mI (a:=kA 21) h.fair rfl hp;have hf:=hst.fair;obtain⟨y,e,hfl,hd,hb⟩:=h.sy;rcases hp with ⟨hn,_⟩|⟨n,hn,r,hn0,hr,h2⟩
 .refine absurd ⟨by omega,?_⟩ hn
  rw[e];exact(show(0:Int)<((1:Nat):Int) by omega)
 .have hn1:n=0:=by omega
  subst hn1;have e0:x.sys[0]=y:=by simp only[e,List.getElem_cons_zero]
  rw[e0]at h2;rw[e0,h.ar,hfl,hl]at hr;subst hr;rcases h2 with ⟨hno,_⟩|⟨_,rfl,rfl,rfl⟩
  .exact absurd rfl hno
  .refine⟨rfl,rfl,⟨ms',hf,rfl,h.ch,h.co,⟨{y with parked:=false},?_,hfl,hd,hb⟩⟩,hwb⟩
   show x.sys.set 0 _=_
   rw[e];rfl
def KS(T:List Nat)(w0 w:World)(wb:Nat)(P0:World->Prop)(es:List PE)(s:Ar)(d:Bool)(r:List ai):Prop:=∃(x:WS) (ms:List MS),x.wb=wb/\Eb x ms es s d/\(∀W,x.P W->P0 W)/\BD T w0 w (x.ts++r)
section
variable {T:List Nat} {w0 w w':World} {wb:Nat} {P0 Q:World->Prop} {es:List PE} {s s':Ar} {d:Bool} {r:List ai}
theorem KS.al(h:KS T w0 w wb P0 es s d r){cs:Array Value}{t:Nat}(e:w.alloc (.cells cs t)=w'):KS T w0 w' wb P0 es s d (r++[box w.heap.size t cs]):=by
 obtain⟨x,ms,h1,h2,h3,h4⟩:=h;exact⟨x,ms,h1,h2,h3,h4.av e⟩
theorem KS.toW(h:KS T w0 w wb P0 es s d r)(e:w=w'):KS T w0 w' wb P0 es s d r:=e▸h
theorem KS.touch(h:KS T w0 w wb P0 es s d r)(ht:Touch [] w w'):KS T w0 w' wb P0 es s d r:=by
 obtain⟨x,ms,h1,h2,h3,h4⟩:=h;exact⟨x,ms,h1,h2,h3,h4.touch ht⟩
theorem KS.set(h:KS T w0 w wb P0 es s d r)(i:Nat){b t:Nat}{cs:Array Value}(hi:r[i]? =some (box b t cs))(j:Nat)(v:Value):KS T w0 (w.setCell ⟨b,j,none⟩ v) wb P0 es s d (r.set i (box b t (cs.setIfInBounds j v))):=by
 obtain⟨x,ms,h1,h2,h3,h4⟩:=h;exact⟨x,ms,h1,h2,h3,h4.af i hi j v⟩
theorem KS.box(h:KS T w0 w wb P0 es s d r)(i:Nat){b t:Nat}{cs:Array Value}(hi:r[i]? =some (Proofs.YtddnnapoaonmjaaGreatDoor.box b t cs)):Cg w b t cs:=by
 obtain⟨x,ms,h1,h2,h3,h4⟩:=h;exact h4.aC i hi
theorem KS.ne(h:KS T w0 w wb P0 es s d r)(i j:Nat){b b' t t':Nat}{cs cs':Array Value}(hi:r[i]? =some (Proofs.YtddnnapoaonmjaaGreatDoor.box b t cs))(hj:r[j]? =some (Proofs.YtddnnapoaonmjaaGreatDoor.box b' t' cs'))(hij:i≠j):b≠b':=by
 obtain⟨x,ms,h1,h2,h3,h4⟩:=h;exact h4.bN i j hi hj hij
theorem KS.drew(h:KS T w0 w wb P0 es s d r):KS T w0 w.drew wb P0 es s d r:=by
 obtain⟨x,ms,h1,h2,h3,h4⟩:=h;exact⟨x,ms,h1,h2,h3,h4.drew⟩
theorem KS.now(h:KS T w0 w wb P0 es s d r):P0 w:=by
 obtain⟨x,ms,h1,h2,h3,h4⟩:=h;exact h3 w (h4.still 2 rfl)
theorem KS.BN(h:KS T w0 w wb P0 es s d r)(ho:∀W,P0 W->Gi w0 W):Touch [] w0 w:=by
 have hn:=h.now;obtain⟨x,ms,h1,h2,h3,h4⟩:=h;exact h4.lg (ho _ hn)
theorem KS.lock(h:KS T w0 w wb P0 es s d r)(hn:s.L.length<1000000)(v:Bool)(er:Int)(h1:rB s (some (dM s 0))=(v,er,s')):Calls Tryz.prog 24 #[.pointer (some ⟨wb,0,none⟩),.int .i64 0] w fun e w'=>e= .returned (.tuple #[.bool v,.int .i64 er])/\KS T w0 w' wb P0 es s' d r:=by
 obtain⟨x,ms,rfl,hK,hP,hL⟩:=h;have hr:x.fQ 0=_:=(hK.lock).trans h1;obtain⟨T',hF,hb⟩:=hL.aN;refine(ul T' w x 0 hF (by rw[hK.ar];exact hn)).mono ?_;rintro e w' ⟨rfl,hL'⟩;have ho:=mW x 0;rw[hr]at hL' ho|-;exact⟨rfl,x.ar s',ms,rfl,hK.to s' ho,hP,hb _ _ hL'⟩
theorem KS.unlock(h:KS T w0 w wb P0 es s d r)(hn:s.L.length<1000000)(er:Int)(h1:rE s (some (bY s 0))=(er,s')):Calls Tryz.prog 25 #[.pointer (some ⟨wb,0,none⟩),.int .i64 0] w fun e w'=>e= .returned (.int .i64 er)/\KS T w0 w' wb P0 es s' d r:=by
 obtain⟨x,ms,rfl,hK,hP,hL⟩:=h;have hr:x.eF 0=_:=(hK.unlock).trans h1;obtain⟨T',hF,hb⟩:=hL.aN;refine(vP T' w x 0 hF (by rw[hK.ar];exact hn)).mono ?_;rintro e w' ⟨rfl,hL'⟩;have ho:=pV x 0;rw[hr]at hL' ho|-;exact⟨rfl,x.ar s',ms,rfl,hK.to s' ho,hP,hb _ _ hL'⟩
theorem KS.take(h:KS T w0 w wb P0 es s d r)(hn:s.L.length<1000000)(v er:Int)(h1:rF s (some (eu s 3 2))=(v,er,s')):Calls Tryz.prog 37 #[.pointer (some ⟨wb,0,none⟩),.int .i64 0] w fun e w'=>e= .returned (.tuple #[.int .i64 v,.int .i64 er])/\KS T w0 w' wb P0 es s' d r:=by
 obtain⟨x,ms,rfl,hK,hP,hL⟩:=h;have hr:x.gL 0=_:=(hK.take).trans h1;obtain⟨T',hF,hb⟩:=hL.aN;refine(J3 T' w x 0 hF (by rw[hK.ar];exact hn)).mono ?_;rintro e w' ⟨rfl,hL'⟩;have ho:=wu x 0;rw[hr]at hL' ho|-;exact⟨rfl,x.ar s',ms,rfl,hK.to s' ho,hP,hb _ _ hL'⟩
theorem KS.fire(h:KS T w0 w wb P0 es s d r)(hn:s.L.length<1000000)(er:Int)(h1:rE s (some (iA s 2))=(er,s')):Calls Tryz.prog 32 #[.pointer (some ⟨wb,0,none⟩),.int .i64 0] w fun e w'=>e= .returned (.int .i64 er)/\KS T w0 w' wb P0 es s' d r:=by
 obtain⟨x,ms,rfl,hK,hP,hL⟩:=h;have hr:x.ja 0=_:=(hK.fire).trans h1;obtain⟨T',hF,hb⟩:=hL.aN;refine(Kh T' w x 0 hF (by rw[hK.ar];exact hn)).mono ?_;rintro e w' ⟨rfl,hL'⟩;have ho:=vv x 0;rw[hr]at hL' ho|-;exact⟨rfl,x.ar s',ms,rfl,hK.to s' ho,hP,hb _ _ hL'⟩
theorem KS.fired(h:KS T w0 w wb P0 es s d r)(hn:s.L.length<1000000)(v:Bool)(er:Int)(h1:rB s (some (fH s 2))=(v,er,s')):Calls Tryz.prog 31 #[.pointer (some ⟨wb,0,none⟩),.int .i64 0] w fun e w'=>e= .returned (.tuple #[.bool v,.int .i64 er])/\KS T w0 w' wb P0 es s' d r:=by
 obtain⟨x,ms,rfl,hK,hP,hL⟩:=h;have hr:x.eY 0=_:=(hK.fired).trans h1;obtain⟨T',hF,hb⟩:=hL.aN;refine(zJ T' w x 0 hF (by rw[hK.ar];exact hn)).mono ?_;rintro e w' ⟨rfl,hL'⟩;have ho:=si x 0;rw[hr]at hL' ho|-;exact⟨rfl,x.ar s',ms,rfl,hK.to s' ho,hP,hb _ _ hL'⟩
theorem KS.II(h:KS T w0 w wb P0 es s d r)(hn:s.L.length<1000000):Calls Tryz.prog 24 #[.pointer (some ⟨wb,0,none⟩),.int .i64 1] w fun e w'=>e= .returned (.tuple #[.bool false,.int .i64 4])/\KS T w0 w' wb P0 es s d r:=by
 obtain⟨x,ms,rfl,hK,hP,hL⟩:=h;have hr:=hK.II;obtain⟨T',hF,hb⟩:=hL.aN;refine(ul T' w x 1 hF (by rw[hK.ar];exact hn)).mono ?_;rintro e w' ⟨rfl,hL'⟩;have ho:=mW x 1;rw[hr]at hL' ho|-;exact⟨rfl,x.ar s,ms,rfl,hK.to s ho,hP,hb _ _ hL'⟩
theorem KS.push(h:KS T w0 w wb P0 es s d r)(e:ME)(he:e.plain=pE)(hv:∀W,P0 W->e.v.In W)(hes:es=[]):Calls Tryz.prog 28 #[.pointer (some ⟨wb,0,none⟩),.int .i64 0,.int .i64 2,e.val] w fun e' w'=>e'= .returned (.int .i64 0)/\KS T w0 w' wb P0 [pE] s d r:=by
 subst hes;obtain⟨x,ms,rfl,hK,hP,hL⟩:=h;obtain⟨T',hF,hb⟩:=hL.aN;refine(KW T' w x 0 2 e hF hK.fair.good.sides (fun W hW=>hv W (hP W hW)) hK.fair.good.q1).mono ?_;rintro e' w' ⟨er,x',rfl,hp,hL'⟩;have hk:=(mG (a:=kA 8) hK.fair hp).knows;obtain⟨rfl,hK',hwb⟩:=hK.push he hp;exact⟨rfl,x',ms,hwb,hK',fun W hW=>hP W (hk W hW),hb _ _ hL'⟩
theorem KS.peek(h:KS T w0 w wb P0 es s d r)(hes:es=[pE]):Calls Tryz.prog 26 #[.pointer (some ⟨wb,0,none⟩),.int .i64 0,.int .i64 2,.int .i64 0] w fun e w'=>(∃(t b f k n:Int) (a:Option Addr) (l c:Nat),e= .returned (.tuple #[.agg #[.int .i64 0,.int .i64 t,.int .i64 b,.int .i64 f,.int .i64 k,.int .i64 n,.slice a l c],.bool true,.int .i64 0]))/\KS T w0 w' wb P0 [pE] s d r:=by
 subst hes;obtain⟨x,ms,rfl,hK,hP,hL⟩:=h;obtain⟨T',hF,hb⟩:=hL.aN;refine(KC T' w x 0 2 0 hF hK.fair.good.sides hK.fair.good.vals).mono ?_;rintro e w' ⟨v,er,x',rfl,hp,hL'⟩;have hk:=(qd (a:=kA 6) hK.fair hp).knows;obtain⟨rfl,hi,hs,hK',hwb⟩:=hK.peek hp;exact⟨⟨_,_,_,_,_,_,_,_,by unfold aL.ent;rw[hi,hs]⟩,x',ms,hwb,hK',fun W hW=>hP W (hk W hW),hb _ _ hL'⟩
theorem KS.park(h:KS T w0 w wb P0 es s d r)(hn:s.L.length<1000000)(h1:fT s 3=(2,0,s')):Calls Tryz.prog 41 #[.pointer (some ⟨wb,0,none⟩),.int .i64 0] w fun e w'=>e= .returned (.tuple #[.bool false,.int .i64 0])/\KS T w0 w' wb P0 es s' d r:=by
 obtain⟨x,ms,rfl,hK,hP,hL⟩:=h;obtain⟨T',hF,hb⟩:=hL.aN;refine(Jz T' w x 0 hF (by rw[hK.ar];exact hn)).mono ?_;rintro e w' ⟨v,er,x',rfl,hp,hL'⟩;obtain⟨msq,hst⟩:=mI (a:=kA 21) hK.fair rfl hp;obtain⟨rfl,rfl,⟨ms',hK'⟩,hwb⟩:=hK.park h1 hp;exact⟨rfl,x',ms',hwb,hK',fun W hW=>hP W (hst.knows W hW),hb _ _ hL'⟩
theorem KS.commit(h:KS T w0 w wb P0 es s d r)(hd:d=false):Calls Tryz.prog 40 #[.pointer (some ⟨wb,0,none⟩),.int .i64 0,.int .i64 0,.agg #[.int .i64 2,.int .i64 5,.slice none 0 0],.int .i64 (-1)] w fun e w'=>e= .returned (.int .i64 0)/\KS T w0 w' wb P0 es s true r:=by
 subst hd;obtain⟨x,ms,rfl,hK,hP,hL⟩:=h;obtain⟨T',hF,hb⟩:=hL.aN;refine(qz T' w x 0 0 five (-1) hF (fun W _=>?_) (by have :=hK.fair.good.l3;omega)).mono ?_
 .exact⟨⟨by decide,fun i hi=>(Nat.not_lt_zero _ hi).elim⟩,MT.lU.2 (fun t ht=>(List.not_mem_nil ht).elim)⟩
 rintro e w' ⟨er,x',rfl,hp,hL'⟩;obtain⟨msq,hst⟩:=jS (a:=kA 20) hK.fair rfl hp;obtain⟨rfl,⟨ms',hK'⟩,hwb⟩:=hK.commit hp;exact⟨rfl,x',ms',hwb,hK',fun W hW=>hP W (hst.knows W hW),hb _ _ hL'⟩
theorem KS.uh(h:KS T w0 w wb P0 es s d r)(hd:d=true):Calls Tryz.prog 40 #[.pointer (some ⟨wb,0,none⟩),.int .i64 0,.int .i64 0,.agg #[.int .i64 2,.int .i64 5,.slice none 0 0],.int .i64 (-1)] w fun e w'=>e= .returned (.int .i64 160)/\KS T w0 w' wb P0 es s true r:=by
 subst hd;obtain⟨x,ms,rfl,hK,hP,hL⟩:=h;obtain⟨T',hF,hb⟩:=hL.aN;refine(qz T' w x 0 0 five (-1) hF (fun W _=>?_) (by have :=hK.fair.good.l3;omega)).mono ?_
 .exact⟨⟨by decide,fun i hi=>(Nat.not_lt_zero _ hi).elim⟩,MT.lU.2 (fun t ht=>(List.not_mem_nil ht).elim)⟩
 rintro e w' ⟨er,x',rfl,hp,hL'⟩;obtain⟨rfl,rfl⟩:=hK.uh hp;exact⟨rfl,x',ms,rfl,hK,hP,hb _ _ hL'⟩
theorem KS.wT(h:KS T w0 w wb P0 es s d r)(ba:Option Addr)(bc:Nat)(hA:∀W,P0 W->iJ W ba [fu 1] none []):Calls Tryz.prog 23 #[.pointer (some ⟨wb,0,none⟩),.int .i64 0,.slice ba 1 bc,.slice none 0 0] w fun e w'=>e= .returned (.tuple #[.int .i64 0,.int .i64 2])/\KS T w0 w' wb P0 es s d r:=by
 obtain⟨x,ms,rfl,hK,hP,hL⟩:=h;obtain⟨T',hF,hb⟩:=hL.aN;refine(uo T' w x 0 ba [fu 1] bc none [] 0 hF (fun W hW=>hA W (hP W hW)) hK.fair.good.l3).mono ?_;rintro e w' ⟨v,er,x',rfl,hp,hL'⟩;obtain⟨rfl,rfl,rfl⟩:=hK.wT hp;exact⟨rfl,x',ms,rfl,hK,hP,hb _ _ hL'⟩
theorem KS.know(h:KS T w0 w wb P0 es s d r)(hj:BD [] w w' [aA Q]):KS T w0 w' wb (fun W=>P0 W/\Q W) es s d r:=by
 obtain⟨x,ms,rfl,hK,hP,hL⟩:=h;exact⟨x.knows Q,ms,rfl,hK.know Q,fun W hW=>⟨hP W hW.1,hW.2⟩,(hL.join hj).settle 2 rfl (fun W f hp hf=>⟨hp,hf.2 W (fun _ _=>rfl)⟩)⟩
end
def KE(T:List Nat)(w0 w:World)(wb:Nat)(P0:World->Prop)(s:Ar)(r:List ai):Prop:=∃(x:WS) (m:MS),x.wb=wb/\Eb x [m] [] s false/\m.plain=(0,[(fu 0).plain],[],3,false,false,0,MT.zero.plain,0)/\(∀W,x.P W->P0 W)/\BD T w0 w (x.ts++r)
section
variable {T:List Nat} {w0 w w':World} {wb:Nat} {P0:World->Prop} {s s':Ar} {r:List ai}
theorem KE.lock(h:KE T w0 w wb P0 s r)(hn:s.L.length<1000000)(v:Bool)(er:Int)(h1:rB s (some (dM s 0))=(v,er,s')):Calls Tryz.prog 24 #[.pointer (some ⟨wb,0,none⟩),.int .i64 0] w fun e w'=>e= .returned (.tuple #[.bool v,.int .i64 er])/\KE T w0 w' wb P0 s' r:=by
 obtain⟨x,m,rfl,hK,hpl,hP,hL⟩:=h;have hr:x.fQ 0=_:=(hK.lock).trans h1;obtain⟨T',hF,hb⟩:=hL.aN;refine(ul T' w x 0 hF (by rw[hK.ar];exact hn)).mono ?_;rintro e w' ⟨rfl,hL'⟩;have ho:=mW x 0;rw[hr]at hL' ho|-;exact⟨rfl,x.ar s',m,rfl,hK.to s' ho,hpl,hP,hb _ _ hL'⟩
theorem KE.cells(h:KE T w0 w wb P0 s r):Calls Tryz.prog 12 #[.pointer (some ⟨wb,0,none⟩)] w fun e w'=>e= .returned (.tuple #[.int .i64 (s.C.length:Int),.int .u64 (s.L.length:Int)])/\KE T w0 w' wb P0 s r:=by
 obtain⟨x,m,rfl,hK,hpl,hP,hL⟩:=h;refine hL.wQ.mono ?_;rintro e w' ⟨rfl,ht⟩;exact⟨by rw[hK.ar],x,m,rfl,hK,hpl,hP,hL.touch ht⟩
theorem KE.entry(h:KE T w0 w wb P0 s r):Calls Tryz.prog 43 #[.pointer (some ⟨wb,0,none⟩),.int .i64 0,.int .i64 0] w fun e w'=>∃u:MT,e= .returned (.tuple #[.agg #[.int .i64 0,.int .i64 0,.int .i64 0,.int .i64 3,.int .i64 u.kind,.int .i64 u.num,.slice u.addr u.parts.length u.cap],.int .i64 0])/\(kE u).plain=pE/\KS T w0 w' wb (fun W=>P0 W/\u.In W) [] s false r:=by
 obtain⟨x,m,rfl,hK,hpl,hP,hL⟩:=h;obtain⟨T',hF,hb⟩:=hL.aN;refine(zn T' w x [m] 0 0 hF hK.fair.good.sys hK.fair.good.cont).mono ?_;rintro e w' ⟨v,er,x',rfl,hp,hL'⟩;have hk:=(oL (a:=kA 23) hK.fair hp).knows;obtain⟨rfl,u,hv,hu,hK',hin,hwb⟩:=hK.entry hpl hp;exact⟨u,by rw[hv];rfl,hu,x',[m],hwb,hK',fun W hW=>⟨hP W (hk W hW),hin W hW⟩,hb _ _ hL'⟩
end
def KN(n:Nat)(T:List Nat)(w0 w:World)(wb:Nat)(P0:World->Prop):Prop:=∃(x:WS),x.wb=wb/\x.Fair []/\x.s=⟨List.replicate n 0,8,[]⟩/\(if n=0 then x.BI=[]else ∃c M q1 q2,x.BI=[⟨c,0,M,q1,q2,[],[]⟩])/\(if n<=1 then x.cos=[]else ∃c q,x.cos=[⟨c,1,2,q,[]⟩])/\x.sys=[]/\(∀W,x.P W->P0 W)/\BD T w0 w x.ts
section
variable {T:List Nat} {w0 w w':World} {wb:Nat} {P0:World->Prop}
theorem KN.chan(h:KN 0 T w0 w wb P0):Calls Tryz.prog 21 #[.pointer (some ⟨wb,0,none⟩)] w fun e w'=>e= .returned (.tuple #[.int .i64 0,.int .i64 0])/\KN 1 T w0 w' wb P0:=by
 obtain⟨x,rfl,hF,hs,h1,h2,h3,hP,hL⟩:=h;obtain⟨T',hF',hb⟩:=BD.aN (r:=[]) (by rw[List.append_nil];exact hL);refine(IA T' w x hF' hF.good.sides (by have :=hF.good.l1;omega)).mono ?_;rintro e w' ⟨v,er,x',rfl,hp,hL'⟩;have hk:=(mJ (a:=kA 0) hF hp).knows;have hwb:=zH hp;obtain⟨rfl,rfl,g1,g2,g3,g4,g5⟩:=k_chan hF hs h1 h2 h3 hp;exact⟨rfl,x',hwb,g1,g2,g3,g4,g5,fun W hW=>hP W (hk W hW),by have :=hb _ _ hL';rwa[List.append_nil]at this⟩
theorem KN.cond(h:KN 1 T w0 w wb P0):Calls Tryz.prog 22 #[.pointer (some ⟨wb,0,none⟩)] w fun e w'=>e= .returned (.tuple #[.int .i64 0,.int .i64 0])/\KN 3 T w0 w' wb P0:=by
 obtain⟨x,rfl,hF,hs,h1,h2,h3,hP,hL⟩:=h;obtain⟨T',hF',hb⟩:=BD.aN (r:=[]) (by rw[List.append_nil];exact hL);refine(Lc T' w x hF' (by have :=hF.good.l2;omega)).mono ?_;rintro e w' ⟨v,er,x',rfl,hp,hL'⟩;have hk:=(mF (a:=kA 1) hF hp).knows;have hwb:=yQ hp;obtain⟨rfl,rfl,g1,g2,g3,g4,g5⟩:=k_cond hF hs h1 h2 h3 hp;exact⟨rfl,x',hwb,g1,g2,g3,g4,g5,fun W hW=>hP W (hk W hW),by have :=hb _ _ hL';rwa[List.append_nil]at this⟩
theorem KN.know(h:KN 3 T w0 w wb P0){Q:World->Prop}{w':World}(hj:BD [] w w' [aA Q]):KN 3 T w0 w' wb (fun W=>P0 W/\Q W):=by
 obtain⟨x,rfl,hF,hs,h1,h2,h3,hP,hL⟩:=h;exact⟨x.knows Q,rfl,(bq.knew (a:=kA 4) Q hF).fair,hs,h1,h2,h3,fun W hW=>⟨hP W hW.1,hW.2⟩,(hL.join hj).settle 2 rfl (fun W f hp hf=>⟨hp,hf.2 W (fun _ _=>rfl)⟩)⟩
theorem KN.begin(h:KN 3 T w0 w wb P0)(ba:Option Addr)(bc:Nat)(hA:∀W,P0 W->iJ W ba [fu 0] none []):Calls Tryz.prog 23 #[.pointer (some ⟨wb,0,none⟩),.int .i64 0,.slice ba 1 bc,.slice none 0 0] w fun e w'=>e= .returned (.tuple #[.int .i64 0,.int .i64 0])/\KE T w0 w' wb P0 ⟨[0,0,0,0],8,[]⟩ []:=by
 obtain⟨x,rfl,hF,hs,h1,h2,h3,hP,hL⟩:=h;obtain⟨T',hF',hb⟩:=BD.aN (r:=[]) (by rw[List.append_nil];exact hL);refine(uo T' w x 0 ba [fu 0] bc none [] 0 hF' (fun W hW=>hA W (hP W hW)) (by rw[h3];exact Nat.zero_le _)).mono ?_;rintro e w' ⟨v,er,x',rfl,hp,hL'⟩;obtain⟨msq,hst⟩:=kQ (a:=kA 2) hF hp;have hwb:=vC hp;obtain⟨rfl,rfl,m,g1,g2⟩:=Mq hF hs h1 h2 h3 hp;exact⟨rfl,x',m,hwb,g1,g2,fun W hW=>hP W (hst.knows W hW),hb _ _ hL'⟩
end
def kL{β γ:Type}(p:β->γ)(l m:List β)(w:World):Ending->World->Prop:=aI (l.map p=m.map p) w
theorem pz{β γ:Type}(p:β->γ){l m:List β}(i:Nat)(h1:i<l.length)(h2:i<m.length)(h:p l[i]≠p m[i]):l.map p≠m.map p:=fun he=>h (by
 have :=congrArg (fun x=>x[i]?) he;simp only[List.getElem?_map,List.getElem?_eq_getElem h1,List.getElem?_eq_getElem h2,Option.map_some,Option.some.injEq]at this;exact this)
theorem mY{β γ:Type}(p:β->γ){l m:List β}(hl:l.length=m.length)(h:∀i (h1:i<l.length) (h2:i<m.length),p l[i]=p m[i]):l.map p=m.map p:=by
 apply List.ext_getElem
 .simpa using hl
 .intro i h1 h2
  simp only[List.getElem_map];exact h i (by simpa using h1) (by simpa using h2)
theorem IQ(w:World)(a:Option Addr)(c:Nat)(l:List MT)(a':Option Addr)(c':Nat)(m:List MT)(h1:aG w a 3 l.length (l.flatMap MT.cells))(h2:aG w a' 3 m.length (m.flatMap MT.cells))(hone:∀W i (hi:i<l.length) (hi':i<m.length),Touch [] w W->Calls Tryz.prog 69 #[l[i].val,m[i].val] W (aI (l[i].plain=m[i].plain) W)):Calls Tryz.prog 292 #[.slice a l.length c,.slice a' m.length c'] w (kL MT.plain l m w):=by
 have H1:=hdq h1;have H2:=hdq h2;have HO:=hdq hone;have hb1:=h1.1;have hb2:=h2.1;have DJ:Hid (l.map MT.plain≠m.map MT.plain->∀W,Touch [] w W->kL MT.plain l m w (.returned (.bool false)) W):=fun h W hW=>⟨false,rfl,by simpa using h,hW⟩;have Dj:Hid (l.map MT.plain=m.map MT.plain->∀W,Touch [] w W->kL MT.plain l m w (.returned (.bool true)) W):=fun h W hW=>⟨true,rfl,by simpa using h,hW⟩;clear h1 h2 hone;go_enter Tryz.func292,Tryz.ntmps292
 by_cases hlen:l.length=m.length
 .have hl2:((l.length:Int) != (m.length:Int))=false:=by simp[hlen]
  have HLEN:Hid (l.length=m.length):=hlen;clear hlen;go_wp2;go_loopw [5] (fun p wr=>∃j:Nat,p= .int .i64 (j:Int)/\j<=l.length/\Hid (Touch [] w wr)/\Hid (∀i (g1:i<l.length) (g2:i<m.length),i<j->l[i].plain=m[i].plain)) (fun p _=>l.length-(intOf p).toNat)
  case atStart=>exact⟨0,rfl,Nat.zero_le _,Touch.refl _ _,fun i g1 g2 h0=>absurd h0 (Nat.not_lt_zero _)⟩
  case round=>
   obtain⟨j,rfl,hj,HT,HA⟩:=hrel;have hj0:(0:Int)<=(j:Int):=by omega
   by_cases hjl:j<l.length
   .have Cc:(j:Int)<(l.length:Int):=by omega
    have hjm:j<m.length:=by have :=HLEN.out;omega
    have hjm':(j:Int)<(m.length:Int):=by omega
    obtain⟨b1,o1,hba,hbb,hx⟩:=aG.at (f:=MT.cells) (fun _=>rfl) (H1.out.aW HT.out) j hjl;obtain⟨b2,o2,DF,hbb',hy⟩:=aG.at (f:=MT.cells) (fun _=>rfl) (H2.out.aW HT.out) j hjm;have HC:=hdq (fun W (hW:Touch [] wr W)=>HO.out W j hjl hjm (HT.out.trans' hW));have HN:=hdq (pz MT.plain j hjl hjm);have HJ:Hid (l[j].plain=m[j].plain->∀i (g1:i<l.length) (g2:i<m.length),i<j+1->l[i].plain=m[i].plain):=fun h i g1 g2 hi=>by
     by_cases hij:i=j
     .subst hij;exact h
     .exact HA.out i g1 g2 (by omega)
    obtain⟨u1,hu1⟩:∃u,l[j]=u:=⟨_,rfl⟩;obtain⟨u2,hu2⟩:∃u,m[j]=u:=⟨_,rfl⟩;have x0:wr.cell? ⟨b1,o1+j*3,none⟩=some (.int .i64 u1.kind):=(hx 0 (by omega)).trans (by rw[hu1];rfl);have x1:wr.cell? ⟨b1,o1+j*3+1,none⟩=some (.int .i64 u1.num):=(hx 1 (by omega)).trans (by rw[hu1];rfl);have x2:wr.cell? ⟨b1,o1+j*3+2,none⟩=some (.slice u1.addr u1.parts.length u1.cap):=(hx 2 (by omega)).trans (by rw[hu1];rfl);have y0:wr.cell? ⟨b2,o2+j*3,none⟩=some (.int .i64 u2.kind):=(hy 0 (by omega)).trans (by rw[hu2];rfl);have y1:wr.cell? ⟨b2,o2+j*3+1,none⟩=some (.int .i64 u2.num):=(hy 1 (by omega)).trans (by rw[hu2];rfl);have y2:wr.cell? ⟨b2,o2+j*3+2,none⟩=some (.slice u2.addr u2.parts.length u2.cap):=(hy 2 (by omega)).trans (by rw[hu2];rfl);rw[hu1,hu2]at HC HN HJ;rw[hba,DF];clear hx hy hu1 hu2;have FD:=hdq hba;have HBA':=hdq DF;clear hba DF;have BZ:=hdq (Touch.refl [] wr).drew;go_wp2_with fail
    refine hrq (S:=fun w'=>w'.cell? ⟨b1,o1+j*3,none⟩=some (.int .i64 u1.kind)/\w'.cell? ⟨b1,o1+j*3+1,none⟩=some (.int .i64 u1.num)/\w'.cell? ⟨b1,o1+j*3+2,none⟩=some (.slice u1.addr u1.parts.length u1.cap)/\w'.cell? ⟨b2,o2+j*3,none⟩=some (.int .i64 u2.kind)/\w'.cell? ⟨b2,o2+j*3+1,none⟩=some (.int .i64 u2.num)/\w'.cell? ⟨b2,o2+j*3+2,none⟩=some (.slice u2.addr u2.parts.length u2.cap)) fun hHeld=>?_;refine tkq 0 17 ?_;refine tkq 1 18 ?_;refine tkq 2 19 ?_;refine tkq 3 20 ?_;refine tkq 4 21 ?_;refine tkq 5 22 ?_;refine tkq 6 23 ?_;refine tkq 7 24 ?_;refine rdq 8 rfl fun K hK=>?_;go_simp;refine(HC.out _ BZ.out).mono ?_;rintro en w2 ⟨cb,rfl,hcb,ht⟩;have ht2:=BZ.out.trans' ht;have HT2:=hdq (HT.out.trans' ht2);have x0:=ht2.cellOf x0;have y0:=ht2.cellOf y0;have x1:=ht2.cellOf x1;have y1:=ht2.cellOf y1;have x2:=ht2.cellOf x2;have y2:=ht2.cellOf y2;clear ht ht2 HC BZ hHeld;cases cb with
    |true=>
     have HA2:=hdq (HJ.out (hcb.1 rfl));clear hcb HJ HN HA;go_simp;refine kpq hK.out fun hHeld=>?_;clear hK K;refine tkq 9 26 ?_;refine dnq ?_;clear hHeld;go_wp2;go_roundw
     case rel=>exact⟨j+1,by go_num,by omega,HT2,HA2⟩
     case measure=>simp[intOf];omega
    |false=>
     have he:=DJ.out (HN.out (fun h=>by have :=hcb.2 h;simp at this)) w2 HT2.out;have HE:=hdq he;clear he hcb HJ HN HA;go_simp;refine kpq hK.out fun hHeld=>?_;clear hK K;refine tkq 9 26 ?_;refine dnq ?_;clear hHeld;go_wp2;go_ret
     exact HE.out
   .have Cc:¬(j:Int)<(l.length:Int):=by omega
    have HE:=hdq (Dj.out (mY MT.plain HLEN.out (fun i g1 g2=>HA.out i g1 g2 (by omega))) wr HT.out);go_wp2;go_ret
    exact HE.out
 .have hl2:((l.length:Int) != (m.length:Int))=true:=by simp;omega
  have HE:=hdq (DJ.out (fun h=>hlen (by have :=congrArg List.length h;simpa using this)) w (Touch.refl _ _));go_wp2;go_ret
  exact HE.out
theorem JM(w:World)(a:Option Addr)(c:Nat)(l:List Int)(a':Option Addr)(c':Nat)(m:List Int)(h1:aG w a 1 l.length (l.flatMap fq))(h2:aG w a' 1 m.length (m.flatMap fq)):
  Calls Tryz.prog 68 #[.slice a l.length c,.slice a' m.length c'] w (kL id l m w):=by
 have H1:=hdq h1;have H2:=hdq h2;have hb1:=h1.1;have hb2:=h2.1;have DJ:Hid (l.map id≠m.map id->∀W,Touch [] w W->kL id l m w (.returned (.bool false)) W):=fun h W hW=>⟨false,rfl,by simpa using h,hW⟩;have Dj:Hid (l.map id=m.map id->∀W,Touch [] w W->kL id l m w (.returned (.bool true)) W):=fun h W hW=>⟨true,rfl,by simpa using h,hW⟩;clear h1 h2;go_enter Tryz.func68,Tryz.ntmps68
 by_cases hlen:l.length=m.length
 .have hl2:((l.length:Int) != (m.length:Int))=false:=by simp[hlen]
  have HLEN:Hid (l.length=m.length):=hlen;clear hlen;go_wp2;go_loopw [5] (fun p wr=>∃j:Nat,p= .int .i64 (j:Int)/\j<=l.length/\Hid (Touch [] w wr)/\Hid (∀i (g1:i<l.length) (g2:i<m.length),i<j->l[i]=m[i])) (fun p _=>l.length-(intOf p).toNat)
  case atStart=>exact⟨0,rfl,Nat.zero_le _,Touch.refl _ _,fun i g1 g2 h0=>absurd h0 (Nat.not_lt_zero _)⟩
  case round=>
   obtain⟨j,rfl,hj,HT,HA⟩:=hrel;have hj0:(0:Int)<=(j:Int):=by omega
   by_cases hjl:j<l.length
   .have Cc:(j:Int)<(l.length:Int):=by omega
    have hjm:j<m.length:=by have :=HLEN.out;omega
    have hjm':(j:Int)<(m.length:Int):=by omega
    obtain⟨b1,o1,hba,hbb,hx⟩:=aG.at (f:=fq) (fun _=>rfl) (H1.out.aW HT.out) j hjl;obtain⟨b2,o2,DF,hbb',hy⟩:=aG.at (f:=fq) (fun _=>rfl) (H2.out.aW HT.out) j hjm;have HN:Hid (l[j]≠m[j]->l.map id≠m.map id):=pz id j hjl hjm;have HJ:Hid (l[j]=m[j]->∀i (g1:i<l.length) (g2:i<m.length),i<j+1->l[i]=m[i]):=fun h i g1 g2 hi=>by
     by_cases hij:i=j
     .subst hij;exact h
     .exact HA.out i g1 g2 (by omega)
    have x0:=hx 0 Nat.one_pos;have y0:=hy 0 Nat.one_pos;obtain⟨u1,hu1⟩:∃u,l[j]=u:=⟨_,rfl⟩;obtain⟨u2,hu2⟩:∃u,m[j]=u:=⟨_,rfl⟩;rw[hu1,Nat.mul_one,Nat.add_zero]at x0;rw[hu2,Nat.mul_one,Nat.add_zero]at y0;have x0':wr.cell? ⟨b1,o1+j,none⟩=some (.int .i64 u1):=x0;have y0':wr.cell? ⟨b2,o2+j,none⟩=some (.int .i64 u2):=y0;rw[hu1,hu2]at HN HJ;rw[hba,DF];clear hx hy hu1 hu2 x0 y0;have FD:=hdq hba;have HBA':=hdq DF;clear hba DF;have LX:=hdq (HT.out.trans' (Touch.refl [] wr).drew);by_cases hq:u1=u2
    .have hb0:(u1 != u2)=false:=by simp[hq]
     have HA2:=hdq (HJ.out hq);go_wp2_with fail
     refine hrq (S:=fun w'=>w'.cell? ⟨b1,o1+j,none⟩=some (.int .i64 u1)/\w'.cell? ⟨b2,o2+j,none⟩=some (.int .i64 u2)) fun hHeld=>?_;clear hq HJ HN HA;refine tkq 0 17 ?_;refine tkq 1 18 ?_;refine tkq 2 19 ?_;refine tkq 3 20 ?_;refine tkq 4 21 ?_;refine tkq 5 22 ?_;refine tkq 6 23 ?_;refine tkq 7 24 ?_;refine tkq 8 25 ?_;refine dnq ?_;clear hHeld;(try rw[hb0])
     go_wp2;go_roundw
     case rel=>exact⟨j+1,by go_num,by omega,LX,HA2⟩
     case measure=>simp[intOf];omega
    .have hb0:(u1 != u2)=true:=by simp[hq]
     have HE:=hdq (DJ.out (HN.out hq) _ LX.out);go_wp2_with fail
     refine hrq (S:=fun w'=>w'.cell? ⟨b1,o1+j,none⟩=some (.int .i64 u1)/\w'.cell? ⟨b2,o2+j,none⟩=some (.int .i64 u2)) fun hHeld=>?_;clear HJ HN HA;refine tkq 0 17 ?_;refine tkq 1 18 ?_;refine tkq 2 19 ?_;refine tkq 3 20 ?_;refine tkq 4 21 ?_;refine tkq 5 22 ?_;refine tkq 6 23 ?_;refine tkq 7 24 ?_;refine tkq 8 25 ?_;refine dnq ?_;clear hHeld;(try rw[hb0])
     go_wp2;go_ret
     exact HE.out
   .have Cc:¬(j:Int)<(l.length:Int):=by omega
    have HE:=hdq (Dj.out (mY id HLEN.out (fun i g1 g2=>HA.out i g1 g2 (by omega))) wr HT.out);go_wp2;go_ret
    exact HE.out
 .have hl2:((l.length:Int) != (m.length:Int))=true:=by simp;omega
  have HE:=hdq (DJ.out (fun h=>hlen (by have :=congrArg List.length h;simpa using this)) w (Touch.refl _ _));go_wp2;go_ret
  exact HE.out
theorem pU(t u:MT)(w:World)(ht:t.In w/\t.nodes<=256)(hu:u.In w/\u.nodes<=256):Calls Tryz.prog 69 #[t.val,u.val] w (aI (t.plain=u.plain) w):=
 (jI t u w ht.1 hu.1 (by omega) (by omega)).mono fun e w' ⟨c,he,hc,h⟩=>⟨c,he,hc.trans (by simp[ht.2,hu.2]),h⟩
def pJ(p q:MC)(w:World):Ending->World->Prop:=aI (p.plain=q.plain) w
theorem Af(p q:MC)(w:World)(hp:p.In w)(hq:q.In w):Calls Tryz.prog 281 #[p.val,q.val] w (pJ p q w):=by
 have FW:Hid (∀W,Touch [] w W->Calls Tryz.prog 292 #[.slice p.a p.args.length p.cap,.slice q.a q.args.length q.cap] W (aI (p.args.map MT.plain=q.args.map MT.plain) W)):=fun W hW=>by
  have hp:=hp.aW hW;have hq:=hq.aW hW;exact IQ W p.a p.cap p.args q.a q.cap q.args (MT.JW hp.1.2 hp.1.1) (MT.JW hq.1.2 hq.1.1) (fun W2 i g1 g2 h2=>pU _ _ W2 ⟨(hp.2 _ (List.getElem_mem g1)).1.aO h2,(hp.2 _ (List.getElem_mem g1)).2⟩ ⟨(hq.2 _ (List.getElem_mem g2)).1.aO h2,(hq.2 _ (List.getElem_mem g2)).2⟩)
 have hiff:p.plain=q.plain↔(p.fn=q.fn)/\(p.args.map MT.plain=q.args.map MT.plain):=by
  simp only[MC.plain,Prod.mk.injEq,List.map_id_fun,id_eq]
 have HN0:Hid (¬(p.fn=q.fn)->∀W,Touch [] w W->pJ p q w (.returned (.bool false)) W):=fun hn W hW=>⟨false,rfl,by simp only[Bool.false_eq_true,false_iff];exact fun h0=>have h:=hiff.1 h0;hn h.1,hW⟩;have FR:Hid (¬(p.args.map MT.plain=q.args.map MT.plain)->∀W,Touch [] w W->pJ p q w (.returned (.bool false)) W):=fun hn W hW=>⟨false,rfl,by simp only[Bool.false_eq_true,false_iff];exact fun h0=>have h:=hiff.1 h0;hn h.2,hW⟩;have Dj:Hid ((p.fn=q.fn)/\(p.args.map MT.plain=q.args.map MT.plain)->∀W,Touch [] w W->pJ p q w (.returned (.bool true)) W):=fun h W hW=>⟨true,rfl,by simp only[true_iff];exact hiff.2 h,hW⟩;clear hp hq hiff;simp only[MC.val];go_enter Tryz.func281,Tryz.ntmps281
 go_upto_region 1 with fail
 refine ay ?_;intro w1 hw1;have BB:=hdq ((BD.nil' w).DZ hw1);simp only[nAq]at BB;generalize hb2:w.heap.size+1=b2 at BB|-;generalize hb1:w.heap.size=b1 at BB|-;clear hw1 hb2 hb1;obtain⟨x0,x1,_,_,zx,_,_⟩:=BB.out.c2 0 rfl;obtain⟨y0,y1,_,_,zy,_,_⟩:=BB.out.c2 1 rfl;by_cases hk0:p.fn=q.fn
 .have ek0:(p.fn==q.fn)=true:=by simp[hk0]
  have HK0:=hdq hk0;clear hk0;go_wp2_with fail
  refine(FW.out _ BB.out.BN).mono ?_;rintro e w2 ⟨c1,rfl,hc1,ht⟩;have HL2:=hdq (BB.out.touch ht);clear ht;clear x0 x1 zx y0 y1 zy;obtain⟨x0,x1,_,_,zx,_,_⟩:=HL2.out.c2 0 rfl;obtain⟨y0,y1,_,_,zy,_,_⟩:=HL2.out.c2 1 rfl;cases c1 with
  |true=>
   have O3:=hdq (hc1.1 rfl);clear hc1;have HE:=hdq (Dj.out ⟨HK0.out,O3.out⟩ w2 HL2.out.BN);go_wp2;go_ret
   exact HE.out
  |false=>
   have HE:=hdq (FR.out (fun h=>by have :=hc1.2 h;simp at this) w2 HL2.out.BN);go_wp2;go_ret
   exact HE.out
 .have ek0:(p.fn==q.fn)=false:=by simp[hk0]
  have HE:=hdq (HN0.out hk0 w1 BB.out.BN);go_wp2;go_ret
  exact HE.out
theorem rH{p q:Prop}{w w':World}{e:Ending}(h:aI p w e w')(hpq:p↔q):aI q w e w':=by
 obtain⟨c,he,hc,h2⟩:=h;exact⟨c,he,hc.trans hpq,h2⟩
theorem Bz(w:World)(a:Option Addr)(c:Nat)(l:List MC)(a':Option Addr)(c':Nat)(m:List MC)(h1:aG w a 2 l.length (l.flatMap MC.cells))(h2:aG w a' 2 m.length (m.flatMap MC.cells))(hone:∀W i (hi:i<l.length) (hi':i<m.length),Touch [] w W->Calls Tryz.prog 281 #[l[i].val,m[i].val] W (aI (l[i].plain=m[i].plain) W)):Calls Tryz.prog 250 #[.slice a l.length c,.slice a' m.length c'] w (kL MC.plain l m w):=by
 have H1:=hdq h1;have H2:=hdq h2;have HO:=hdq hone;have hb1:=h1.1;have hb2:=h2.1;have DJ:Hid (l.map MC.plain≠m.map MC.plain->∀W,Touch [] w W->kL MC.plain l m w (.returned (.bool false)) W):=fun h W hW=>⟨false,rfl,by simpa using h,hW⟩;have Dj:Hid (l.map MC.plain=m.map MC.plain->∀W,Touch [] w W->kL MC.plain l m w (.returned (.bool true)) W):=fun h W hW=>⟨true,rfl,by simpa using h,hW⟩;clear h1 h2 hone;go_enter Tryz.func250,Tryz.ntmps250
 by_cases hlen:l.length=m.length
 .have hl2:((l.length:Int) != (m.length:Int))=false:=by simp[hlen]
  have HLEN:Hid (l.length=m.length):=hlen;clear hlen;go_wp2;go_loopw [5] (fun p wr=>∃j:Nat,p= .int .i64 (j:Int)/\j<=l.length/\Hid (Touch [] w wr)/\Hid (∀i (g1:i<l.length) (g2:i<m.length),i<j->l[i].plain=m[i].plain)) (fun p _=>l.length-(intOf p).toNat)
  case atStart=>exact⟨0,rfl,Nat.zero_le _,Touch.refl _ _,fun i g1 g2 h0=>absurd h0 (Nat.not_lt_zero _)⟩
  case round=>
   obtain⟨j,rfl,hj,HT,HA⟩:=hrel;have hj0:(0:Int)<=(j:Int):=by omega
   by_cases hjl:j<l.length
   .have Cc:(j:Int)<(l.length:Int):=by omega
    have hjm:j<m.length:=by have :=HLEN.out;omega
    have hjm':(j:Int)<(m.length:Int):=by omega
    obtain⟨b1,o1,hba,hbb,hx⟩:=aG.at (f:=MC.cells) (fun _=>rfl) (H1.out.aW HT.out) j hjl;obtain⟨b2,o2,DF,hbb',hy⟩:=aG.at (f:=MC.cells) (fun _=>rfl) (H2.out.aW HT.out) j hjm;have HC:=hdq (fun W (hW:Touch [] wr W)=>HO.out W j hjl hjm (HT.out.trans' hW));have HN:=hdq (pz MC.plain j hjl hjm);have HJ:Hid (l[j].plain=m[j].plain->∀i (g1:i<l.length) (g2:i<m.length),i<j+1->l[i].plain=m[i].plain):=fun h i g1 g2 hi=>by
     by_cases hij:i=j
     .subst hij;exact h
     .exact HA.out i g1 g2 (by omega)
    obtain⟨u1,hu1⟩:∃u,l[j]=u:=⟨_,rfl⟩;obtain⟨u2,hu2⟩:∃u,m[j]=u:=⟨_,rfl⟩;have x0:wr.cell? ⟨b1,o1+j*2,none⟩=some (.int .i64 u1.fn):=(hx 0 (by omega)).trans (by rw[hu1];rfl);have x1:wr.cell? ⟨b1,o1+j*2+1,none⟩=some (.slice u1.a u1.args.length u1.cap):=(hx 1 (by omega)).trans (by rw[hu1];rfl);have y0:wr.cell? ⟨b2,o2+j*2,none⟩=some (.int .i64 u2.fn):=(hy 0 (by omega)).trans (by rw[hu2];rfl);have y1:wr.cell? ⟨b2,o2+j*2+1,none⟩=some (.slice u2.a u2.args.length u2.cap):=(hy 1 (by omega)).trans (by rw[hu2];rfl);rw[hu1,hu2]at HC HN HJ;rw[hba,DF];clear hx hy hu1 hu2;have FD:=hdq hba;have HBA':=hdq DF;clear hba DF;have BZ:=hdq (Touch.refl [] wr).drew;go_wp2_with fail
    refine hrq (S:=fun w'=>w'.cell? ⟨b1,o1+j*2,none⟩=some (.int .i64 u1.fn)/\w'.cell? ⟨b1,o1+j*2+1,none⟩=some (.slice u1.a u1.args.length u1.cap)/\w'.cell? ⟨b2,o2+j*2,none⟩=some (.int .i64 u2.fn)/\w'.cell? ⟨b2,o2+j*2+1,none⟩=some (.slice u2.a u2.args.length u2.cap)) fun hHeld=>?_;refine tkq 0 17 ?_;refine tkq 1 18 ?_;refine tkq 2 19 ?_;refine tkq 3 20 ?_;refine tkq 4 21 ?_;refine tkq 5 22 ?_;refine tkq 6 23 ?_;refine tkq 7 24 ?_;refine rdq 8 rfl fun K hK=>?_;go_simp;refine(HC.out _ BZ.out).mono ?_;rintro en w2 ⟨cb,rfl,hcb,ht⟩;have ht2:=BZ.out.trans' ht;have HT2:=hdq (HT.out.trans' ht2);have x0:=ht2.cellOf x0;have y0:=ht2.cellOf y0;have x1:=ht2.cellOf x1;have y1:=ht2.cellOf y1;clear ht ht2 HC BZ hHeld;cases cb with
    |true=>
     have HA2:=hdq (HJ.out (hcb.1 rfl));clear hcb HJ HN HA;go_simp;refine kpq hK.out fun hHeld=>?_;clear hK K;refine tkq 9 26 ?_;refine dnq ?_;clear hHeld;go_wp2;go_roundw
     case rel=>exact⟨j+1,by go_num,by omega,HT2,HA2⟩
     case measure=>simp[intOf];omega
    |false=>
     have he:=DJ.out (HN.out (fun h=>by have :=hcb.2 h;simp at this)) w2 HT2.out;have HE:=hdq he;clear he hcb HJ HN HA;go_simp;refine kpq hK.out fun hHeld=>?_;clear hK K;refine tkq 9 26 ?_;refine dnq ?_;clear hHeld;go_wp2;go_ret
     exact HE.out
   .have Cc:¬(j:Int)<(l.length:Int):=by omega
    have HE:=hdq (Dj.out (mY MC.plain HLEN.out (fun i g1 g2=>HA.out i g1 g2 (by omega))) wr HT.out);go_wp2;go_ret
    exact HE.out
 .have hl2:((l.length:Int) != (m.length:Int))=true:=by simp;omega
  have HE:=hdq (DJ.out (fun h=>hlen (by have :=congrArg List.length h;simpa using this)) w (Touch.refl _ _));go_wp2;go_ret
  exact HE.out
def jP(p q:MB)(w:World):Ending->World->Prop:=aI (p.plain=q.plain) w
theorem AZ(p q:MB)(w:World)(hp:p.In w)(hq:q.In w):Calls Tryz.prog 175 #[p.val,q.val] w (jP p q w):=by
 have Ma:Hid (∀W,Touch [] w W->Calls Tryz.prog 69 #[.agg #[.int .i64 p.v.kind,.int .i64 p.v.num,.slice p.v.addr p.v.parts.length p.v.cap],.agg #[.int .i64 q.v.kind,.int .i64 q.v.num,.slice q.v.addr q.v.parts.length q.v.cap]] W (aI (p.v.plain=q.v.plain) W)):=fun W hW=>by
  have hp:=hp.aW hW;have hq:=hq.aW hW;exact pU p.v q.v W hp.1 hq.1
 have HC3:Hid (∀W,Touch [] w W->Calls Tryz.prog 250 #[.slice p.wa p.wraps.length p.wc,.slice q.wa q.wraps.length q.wc] W (aI (p.wraps.map MC.plain=q.wraps.map MC.plain) W)):=fun W hW=>by
  have hp:=hp.aW hW;have hq:=hq.aW hW;exact Bz W p.wa p.wc p.wraps q.wa q.wc q.wraps hp.2.1.1 hq.2.1.1 (fun W2 i g1 g2 h2=>Af _ _ W2 ((hp.2.1.2 _ (List.getElem_mem g1)).aW h2) ((hq.2.1.2 _ (List.getElem_mem g2)).aW h2))
 have HC4:Hid (∀W,Touch [] w W->Calls Tryz.prog 68 #[.slice p.na p.aT.length p.nc,.slice q.na q.aT.length q.nc] W (aI (p.aT=q.aT) W)):=fun W hW=>by
  have hp:=hp.aW hW;have hq:=hq.aW hW;exact(JM W p.na p.nc p.aT q.na q.nc q.aT hp.2.2 hq.2.2).mono fun e w' h=>rH h (by simp) 
 have hiff:p.plain=q.plain↔(p.kind=q.kind)/\(p.n=q.n)/\(p.v.plain=q.v.plain)/\(p.wraps.map MC.plain=q.wraps.map MC.plain)/\(p.aT=q.aT):=by
  simp only[MB.plain,Prod.mk.injEq,List.map_id_fun,id_eq]
 have HN0:Hid (¬(p.kind=q.kind)->∀W,Touch [] w W->jP p q w (.returned (.bool false)) W):=fun hn W hW=>⟨false,rfl,by simp only[Bool.false_eq_true,false_iff];exact fun h0=>have h:=hiff.1 h0;hn h.1,hW⟩;have FR:Hid (¬(p.n=q.n)->∀W,Touch [] w W->jP p q w (.returned (.bool false)) W):=fun hn W hW=>⟨false,rfl,by simp only[Bool.false_eq_true,false_iff];exact fun h0=>have h:=hiff.1 h0;hn h.2.1,hW⟩;have Gy:Hid (¬(p.v.plain=q.v.plain)->∀W,Touch [] w W->jP p q w (.returned (.bool false)) W):=fun hn W hW=>⟨false,rfl,by simp only[Bool.false_eq_true,false_iff];exact fun h0=>have h:=hiff.1 h0;hn h.2.2.1,hW⟩;have HN3:Hid (¬(p.wraps.map MC.plain=q.wraps.map MC.plain)->∀W,Touch [] w W->jP p q w (.returned (.bool false)) W):=fun hn W hW=>⟨false,rfl,by simp only[Bool.false_eq_true,false_iff];exact fun h0=>have h:=hiff.1 h0;hn h.2.2.2.1,hW⟩;have HN4:Hid (¬(p.aT=q.aT)->∀W,Touch [] w W->jP p q w (.returned (.bool false)) W):=fun hn W hW=>⟨false,rfl,by simp only[Bool.false_eq_true,false_iff];exact fun h0=>have h:=hiff.1 h0;hn h.2.2.2.2,hW⟩;have Dj:Hid ((p.kind=q.kind)/\(p.n=q.n)/\(p.v.plain=q.v.plain)/\(p.wraps.map MC.plain=q.wraps.map MC.plain)/\(p.aT=q.aT)->∀W,Touch [] w W->jP p q w (.returned (.bool true)) W):=fun h W hW=>⟨true,rfl,by simp only[true_iff];exact hiff.2 h,hW⟩;clear hp hq hiff;simp only[MB.val];go_enter Tryz.func175,Tryz.ntmps175
 go_upto_region 1 with fail
 refine ay ?_;intro w1 hw1;have BB:=hdq ((BD.nil' w).DZ hw1);simp only[nAq]at BB;generalize hb2:w.heap.size+1=b2 at BB|-;generalize hb1:w.heap.size=b1 at BB|-;clear hw1 hb2 hb1;obtain⟨x0,x1,x2,x3,x4,x5,x6,_,zx,_,_⟩:=BB.out.c7 0 rfl;obtain⟨y0,y1,y2,y3,y4,y5,y6,_,zy,_,_⟩:=BB.out.c7 1 rfl;by_cases hk0:p.kind=q.kind
 .have ek0:(p.kind==q.kind)=true:=by simp[hk0]
  have HK0:=hdq hk0;clear hk0;by_cases hk1:p.n=q.n
  .have ek1:(p.n==q.n)=true:=by simp[hk1]
   have O3:=hdq hk1;clear hk1;go_wp2_with fail
   refine(Ma.out _ BB.out.BN).mono ?_;rintro e w2 ⟨c2,rfl,hc2,ht⟩;have HL2:=hdq (BB.out.touch ht);clear ht;clear x0 x1 x2 x3 x4 x5 x6 zx y0 y1 y2 y3 y4 y5 y6 zy;obtain⟨x0,x1,x2,x3,x4,x5,x6,_,zx,_,_⟩:=HL2.out.c7 0 rfl;obtain⟨y0,y1,y2,y3,y4,y5,y6,_,zy,_,_⟩:=HL2.out.c7 1 rfl;cases c2 with
   |true=>
    have HK2:=hdq (hc2.1 rfl);clear hc2;go_wp2_with fail
    refine(HC3.out _ HL2.out.BN).mono ?_;rintro e w3 ⟨c3,rfl,hc3,ht⟩;have BF:=hdq (HL2.out.touch ht);clear ht;clear x0 x1 x2 x3 x4 x5 x6 zx y0 y1 y2 y3 y4 y5 y6 zy;obtain⟨x0,x1,x2,x3,x4,x5,x6,_,zx,_,_⟩:=BF.out.c7 0 rfl;obtain⟨y0,y1,y2,y3,y4,y5,y6,_,zy,_,_⟩:=BF.out.c7 1 rfl;cases c3 with
    |true=>
     have HK3:=hdq (hc3.1 rfl);clear hc3;go_wp2_with fail
     refine(HC4.out _ BF.out.BN).mono ?_;rintro e w4 ⟨c4,rfl,hc4,ht⟩;have BH:=hdq (BF.out.touch ht);clear ht;clear x0 x1 x2 x3 x4 x5 x6 zx y0 y1 y2 y3 y4 y5 y6 zy;obtain⟨x0,x1,x2,x3,x4,x5,x6,_,zx,_,_⟩:=BH.out.c7 0 rfl;obtain⟨y0,y1,y2,y3,y4,y5,y6,_,zy,_,_⟩:=BH.out.c7 1 rfl;cases c4 with
     |true=>
      have HK4:=hdq (hc4.1 rfl);clear hc4;have HE:=hdq (Dj.out ⟨HK0.out,O3.out,HK2.out,HK3.out,HK4.out⟩ w4 BH.out.BN);go_wp2;go_ret
      exact HE.out
     |false=>
      have HE:=hdq (HN4.out (fun h=>by have :=hc4.2 h;simp at this) w4 BH.out.BN);clear hc4;go_wp2;go_ret
      exact HE.out
    |false=>
     have HE:=hdq (HN3.out (fun h=>by have :=hc3.2 h;simp at this) w3 BF.out.BN);clear hc3;go_wp2;go_ret
     exact HE.out
   |false=>
    have HE:=hdq (Gy.out (fun h=>by have :=hc2.2 h;simp at this) w2 HL2.out.BN);clear hc2;go_wp2;go_ret
    exact HE.out
  .have ek1:(p.n==q.n)=false:=by simp[hk1]
   have HE:=hdq (FR.out hk1 w1 BB.out.BN);go_wp2;go_ret
   exact HE.out
 .have ek0:(p.kind==q.kind)=false:=by simp[hk0]
  have HE:=hdq (HN0.out hk0 w1 BB.out.BN);go_wp2;go_ret
  exact HE.out
theorem AL(w:World)(a:Option Addr)(c:Nat)(l:List MB)(a':Option Addr)(c':Nat)(m:List MB)(h1:aG w a 7 l.length (l.flatMap MB.cells))(h2:aG w a' 7 m.length (m.flatMap MB.cells))(hone:∀W i (hi:i<l.length) (hi':i<m.length),Touch [] w W->Calls Tryz.prog 175 #[l[i].val,m[i].val] W (aI (l[i].plain=m[i].plain) W)):Calls Tryz.prog 67 #[.slice a l.length c,.slice a' m.length c'] w (kL MB.plain l m w):=by
 have H1:=hdq h1;have H2:=hdq h2;have HO:=hdq hone;have hb1:=h1.1;have hb2:=h2.1;have DJ:Hid (l.map MB.plain≠m.map MB.plain->∀W,Touch [] w W->kL MB.plain l m w (.returned (.bool false)) W):=fun h W hW=>⟨false,rfl,by simpa using h,hW⟩;have Dj:Hid (l.map MB.plain=m.map MB.plain->∀W,Touch [] w W->kL MB.plain l m w (.returned (.bool true)) W):=fun h W hW=>⟨true,rfl,by simpa using h,hW⟩;clear h1 h2 hone;go_enter Tryz.func67,Tryz.ntmps67
 by_cases hlen:l.length=m.length
 .have hl2:((l.length:Int) != (m.length:Int))=false:=by simp[hlen]
  have HLEN:Hid (l.length=m.length):=hlen;clear hlen;go_wp2;go_loopw [5] (fun p wr=>∃j:Nat,p= .int .i64 (j:Int)/\j<=l.length/\Hid (Touch [] w wr)/\Hid (∀i (g1:i<l.length) (g2:i<m.length),i<j->l[i].plain=m[i].plain)) (fun p _=>l.length-(intOf p).toNat)
  case atStart=>exact⟨0,rfl,Nat.zero_le _,Touch.refl _ _,fun i g1 g2 h0=>absurd h0 (Nat.not_lt_zero _)⟩
  case round=>
   obtain⟨j,rfl,hj,HT,HA⟩:=hrel;have hj0:(0:Int)<=(j:Int):=by omega
   by_cases hjl:j<l.length
   .have Cc:(j:Int)<(l.length:Int):=by omega
    have hjm:j<m.length:=by have :=HLEN.out;omega
    have hjm':(j:Int)<(m.length:Int):=by omega
    obtain⟨b1,o1,hba,hbb,hx⟩:=aG.at (f:=MB.cells) (fun _=>rfl) (H1.out.aW HT.out) j hjl;obtain⟨b2,o2,DF,hbb',hy⟩:=aG.at (f:=MB.cells) (fun _=>rfl) (H2.out.aW HT.out) j hjm;have HC:=hdq (fun W (hW:Touch [] wr W)=>HO.out W j hjl hjm (HT.out.trans' hW));have HN:=hdq (pz MB.plain j hjl hjm);have HJ:Hid (l[j].plain=m[j].plain->∀i (g1:i<l.length) (g2:i<m.length),i<j+1->l[i].plain=m[i].plain):=fun h i g1 g2 hi=>by
     by_cases hij:i=j
     .subst hij;exact h
     .exact HA.out i g1 g2 (by omega)
    obtain⟨u1,hu1⟩:∃u,l[j]=u:=⟨_,rfl⟩;obtain⟨u2,hu2⟩:∃u,m[j]=u:=⟨_,rfl⟩;have x0:wr.cell? ⟨b1,o1+j*7,none⟩=some (.int .i64 u1.kind):=(hx 0 (by omega)).trans (by rw[hu1];rfl);have x1:wr.cell? ⟨b1,o1+j*7+1,none⟩=some (.int .i64 u1.n):=(hx 1 (by omega)).trans (by rw[hu1];rfl);have x2:wr.cell? ⟨b1,o1+j*7+2,none⟩=some (.int .i64 u1.v.kind):=(hx 2 (by omega)).trans (by rw[hu1];rfl);have x3:wr.cell? ⟨b1,o1+j*7+3,none⟩=some (.int .i64 u1.v.num):=(hx 3 (by omega)).trans (by rw[hu1];rfl);have x4:wr.cell? ⟨b1,o1+j*7+4,none⟩=some (.slice u1.v.addr u1.v.parts.length u1.v.cap):=(hx 4 (by omega)).trans (by rw[hu1];rfl);have x5:wr.cell? ⟨b1,o1+j*7+5,none⟩=some (.slice u1.wa u1.wraps.length u1.wc):=(hx 5 (by omega)).trans (by rw[hu1];rfl);have x6:wr.cell? ⟨b1,o1+j*7+6,none⟩=some (.slice u1.na u1.aT.length u1.nc):=(hx 6 (by omega)).trans (by rw[hu1];rfl);have y0:wr.cell? ⟨b2,o2+j*7,none⟩=some (.int .i64 u2.kind):=(hy 0 (by omega)).trans (by rw[hu2];rfl);have y1:wr.cell? ⟨b2,o2+j*7+1,none⟩=some (.int .i64 u2.n):=(hy 1 (by omega)).trans (by rw[hu2];rfl);have y2:wr.cell? ⟨b2,o2+j*7+2,none⟩=some (.int .i64 u2.v.kind):=(hy 2 (by omega)).trans (by rw[hu2];rfl);have y3:wr.cell? ⟨b2,o2+j*7+3,none⟩=some (.int .i64 u2.v.num):=(hy 3 (by omega)).trans (by rw[hu2];rfl);have y4:wr.cell? ⟨b2,o2+j*7+4,none⟩=some (.slice u2.v.addr u2.v.parts.length u2.v.cap):=(hy 4 (by omega)).trans (by rw[hu2];rfl);have y5:wr.cell? ⟨b2,o2+j*7+5,none⟩=some (.slice u2.wa u2.wraps.length u2.wc):=(hy 5 (by omega)).trans (by rw[hu2];rfl);have y6:wr.cell? ⟨b2,o2+j*7+6,none⟩=some (.slice u2.na u2.aT.length u2.nc):=(hy 6 (by omega)).trans (by rw[hu2];rfl);rw[hu1,hu2]at HC HN HJ;rw[hba,DF];clear hx hy hu1 hu2;have FD:=hdq hba;have HBA':=hdq DF;clear hba DF;have BZ:=hdq (Touch.refl [] wr).drew;go_wp2_with fail
    refine hrq (S:=fun w'=>w'.cell? ⟨b1,o1+j*7,none⟩=some (.int .i64 u1.kind)/\w'.cell? ⟨b1,o1+j*7+1,none⟩=some (.int .i64 u1.n)/\w'.cell? ⟨b1,o1+j*7+2,none⟩=some (.int .i64 u1.v.kind)/\w'.cell? ⟨b1,o1+j*7+3,none⟩=some (.int .i64 u1.v.num)/\w'.cell? ⟨b1,o1+j*7+4,none⟩=some (.slice u1.v.addr u1.v.parts.length u1.v.cap)/\w'.cell? ⟨b1,o1+j*7+5,none⟩=some (.slice u1.wa u1.wraps.length u1.wc)/\w'.cell? ⟨b1,o1+j*7+6,none⟩=some (.slice u1.na u1.aT.length u1.nc)/\w'.cell? ⟨b2,o2+j*7,none⟩=some (.int .i64 u2.kind)/\w'.cell? ⟨b2,o2+j*7+1,none⟩=some (.int .i64 u2.n)/\w'.cell? ⟨b2,o2+j*7+2,none⟩=some (.int .i64 u2.v.kind)/\w'.cell? ⟨b2,o2+j*7+3,none⟩=some (.int .i64 u2.v.num)/\w'.cell? ⟨b2,o2+j*7+4,none⟩=some (.slice u2.v.addr u2.v.parts.length u2.v.cap)/\w'.cell? ⟨b2,o2+j*7+5,none⟩=some (.slice u2.wa u2.wraps.length u2.wc)/\w'.cell? ⟨b2,o2+j*7+6,none⟩=some (.slice u2.na u2.aT.length u2.nc)) fun hHeld=>?_;refine tkq 0 17 ?_;refine tkq 1 18 ?_;refine tkq 2 19 ?_;refine tkq 3 20 ?_;refine tkq 4 21 ?_;refine tkq 5 22 ?_;refine tkq 6 23 ?_;refine tkq 7 24 ?_;refine rdq 8 rfl fun K hK=>?_;go_simp;refine(HC.out _ BZ.out).mono ?_;rintro en w2 ⟨cb,rfl,hcb,ht⟩;have ht2:=BZ.out.trans' ht;have HT2:=hdq (HT.out.trans' ht2);have x0:=ht2.cellOf x0;have y0:=ht2.cellOf y0;have x1:=ht2.cellOf x1;have y1:=ht2.cellOf y1;have x2:=ht2.cellOf x2;have y2:=ht2.cellOf y2;have x3:=ht2.cellOf x3;have y3:=ht2.cellOf y3;have x4:=ht2.cellOf x4;have y4:=ht2.cellOf y4;have x5:=ht2.cellOf x5;have y5:=ht2.cellOf y5;have x6:=ht2.cellOf x6;have y6:=ht2.cellOf y6;clear ht ht2 HC BZ hHeld;cases cb with
    |true=>
     have HA2:=hdq (HJ.out (hcb.1 rfl));clear hcb HJ HN HA;go_simp;refine kpq hK.out fun hHeld=>?_;clear hK K;refine tkq 9 26 ?_;refine dnq ?_;clear hHeld;go_wp2;go_roundw
     case rel=>exact⟨j+1,by go_num,by omega,HT2,HA2⟩
     case measure=>simp[intOf];omega
    |false=>
     have he:=DJ.out (HN.out (fun h=>by have :=hcb.2 h;simp at this)) w2 HT2.out;have HE:=hdq he;clear he hcb HJ HN HA;go_simp;refine kpq hK.out fun hHeld=>?_;clear hK K;refine tkq 9 26 ?_;refine dnq ?_;clear hHeld;go_wp2;go_ret
     exact HE.out
   .have Cc:¬(j:Int)<(l.length:Int):=by omega
    have HE:=hdq (Dj.out (mY MB.plain HLEN.out (fun i g1 g2=>HA.out i g1 g2 (by omega))) wr HT.out);go_wp2;go_ret
    exact HE.out
 .have hl2:((l.length:Int) != (m.length:Int))=true:=by simp;omega
  have HE:=hdq (DJ.out (fun h=>hlen (by have :=congrArg List.length h;simpa using this)) w (Touch.refl _ _));go_wp2;go_ret
  exact HE.out
def gQ(p q:MS)(w:World):Ending->World->Prop:=aI (p.plain=q.plain) w
theorem Bf(p q:MS)(w:World)(hp:p.In w)(hq:q.In w):Calls Tryz.prog 16 #[p.val,q.val] w (gQ p q w):=by
 have FW:Hid (∀W,Touch [] w W->Calls Tryz.prog 67 #[.slice p.ba p.bases.length p.bc,.slice q.ba q.bases.length q.bc] W (aI (p.bases.map MB.plain=q.bases.map MB.plain) W)):=fun W hW=>by
  have hp:=hp.aW hW;have hq:=hq.aW hW;exact AL W p.ba p.bc p.bases q.ba q.bc q.bases hp.2.1.1 hq.2.1.1 (fun W2 i g1 g2 h2=>AZ _ _ W2 ((hp.2.1.2 _ (List.getElem_mem g1)).aW h2) ((hq.2.1.2 _ (List.getElem_mem g2)).aW h2))
 have Ma:Hid (∀W,Touch [] w W->Calls Tryz.prog 68 #[.slice p.ca p.conds.length p.cc,.slice q.ca q.conds.length q.cc] W (aI (p.conds=q.conds) W)):=fun W hW=>by
  have hp:=hp.aW hW;have hq:=hq.aW hW;exact(JM W p.ca p.cc p.conds q.ca q.cc q.conds hp.2.2 hq.2.2).mono fun e w' h=>rH h (by simp) 
 have HC7:Hid (∀W,Touch [] w W->Calls Tryz.prog 69 #[.agg #[.int .i64 p.v.kind,.int .i64 p.v.num,.slice p.v.addr p.v.parts.length p.v.cap],.agg #[.int .i64 q.v.kind,.int .i64 q.v.num,.slice q.v.addr q.v.parts.length q.v.cap]] W (aI (p.v.plain=q.v.plain) W)):=fun W hW=>by
  have hp:=hp.aW hW;have hq:=hq.aW hW;exact pU p.v q.v W hp.1 hq.1
 have hiff:p.plain=q.plain↔(p.thread=q.thread)/\(p.bases.map MB.plain=q.bases.map MB.plain)/\(p.conds=q.conds)/\(p.flag=q.flag)/\(p.parked=q.parked)/\(p.done=q.done)/\(p.branch=q.branch)/\(p.v.plain=q.v.plain)/\(p.partner=q.partner):=by
  simp only[MS.plain,Prod.mk.injEq,List.map_id_fun,id_eq]
 have HN0:Hid (¬(p.thread=q.thread)->∀W,Touch [] w W->gQ p q w (.returned (.bool false)) W):=fun hn W hW=>⟨false,rfl,by simp only[Bool.false_eq_true,false_iff];exact fun h0=>have h:=hiff.1 h0;hn h.1,hW⟩;have FR:Hid (¬(p.bases.map MB.plain=q.bases.map MB.plain)->∀W,Touch [] w W->gQ p q w (.returned (.bool false)) W):=fun hn W hW=>⟨false,rfl,by simp only[Bool.false_eq_true,false_iff];exact fun h0=>have h:=hiff.1 h0;hn h.2.1,hW⟩;have Gy:Hid (¬(p.conds=q.conds)->∀W,Touch [] w W->gQ p q w (.returned (.bool false)) W):=fun hn W hW=>⟨false,rfl,by simp only[Bool.false_eq_true,false_iff];exact fun h0=>have h:=hiff.1 h0;hn h.2.2.1,hW⟩;have HN3:Hid (¬(p.flag=q.flag)->∀W,Touch [] w W->gQ p q w (.returned (.bool false)) W):=fun hn W hW=>⟨false,rfl,by simp only[Bool.false_eq_true,false_iff];exact fun h0=>have h:=hiff.1 h0;hn h.2.2.2.1,hW⟩;have HN4:Hid (¬(p.parked=q.parked)->∀W,Touch [] w W->gQ p q w (.returned (.bool false)) W):=fun hn W hW=>⟨false,rfl,by simp only[Bool.false_eq_true,false_iff];exact fun h0=>have h:=hiff.1 h0;hn h.2.2.2.2.1,hW⟩;have HN5:Hid (¬(p.done=q.done)->∀W,Touch [] w W->gQ p q w (.returned (.bool false)) W):=fun hn W hW=>⟨false,rfl,by simp only[Bool.false_eq_true,false_iff];exact fun h0=>have h:=hiff.1 h0;hn h.2.2.2.2.2.1,hW⟩;have HN6:Hid (¬(p.branch=q.branch)->∀W,Touch [] w W->gQ p q w (.returned (.bool false)) W):=fun hn W hW=>⟨false,rfl,by simp only[Bool.false_eq_true,false_iff];exact fun h0=>have h:=hiff.1 h0;hn h.2.2.2.2.2.2.1,hW⟩;have HN7:Hid (¬(p.v.plain=q.v.plain)->∀W,Touch [] w W->gQ p q w (.returned (.bool false)) W):=fun hn W hW=>⟨false,rfl,by simp only[Bool.false_eq_true,false_iff];exact fun h0=>have h:=hiff.1 h0;hn h.2.2.2.2.2.2.2.1,hW⟩;have HN8:Hid (¬(p.partner=q.partner)->∀W,Touch [] w W->gQ p q w (.returned (.bool false)) W):=fun hn W hW=>⟨false,rfl,by simp only[Bool.false_eq_true,false_iff];exact fun h0=>have h:=hiff.1 h0;hn h.2.2.2.2.2.2.2.2,hW⟩;have Dj:Hid ((p.thread=q.thread)/\(p.bases.map MB.plain=q.bases.map MB.plain)/\(p.conds=q.conds)/\(p.flag=q.flag)/\(p.parked=q.parked)/\(p.done=q.done)/\(p.branch=q.branch)/\(p.v.plain=q.v.plain)/\(p.partner=q.partner)->∀W,Touch [] w W->gQ p q w (.returned (.bool true)) W):=fun h W hW=>⟨true,rfl,by simp only[true_iff];exact hiff.2 h,hW⟩;clear hp hq hiff;simp only[MS.val];go_enter Tryz.func16,Tryz.ntmps16
 go_upto_region 1 with fail
 refine ay ?_;intro w1 hw1;have BB:=hdq ((BD.nil' w).DZ hw1);simp only[nAq]at BB;generalize hb2:w.heap.size+1=b2 at BB|-;generalize hb1:w.heap.size=b1 at BB|-;clear hw1 hb2 hb1;obtain⟨x0,x1,x2,x3,x4,x5,x6,x7,x8,x9,x10,_,zx,_,_⟩:=BB.out.c11 0 rfl;obtain⟨y0,y1,y2,y3,y4,y5,y6,y7,y8,y9,y10,_,zy,_,_⟩:=BB.out.c11 1 rfl;by_cases hk0:p.thread=q.thread
 .have ek0:(p.thread==q.thread)=true:=by simp[hk0]
  have HK0:=hdq hk0;clear hk0;go_wp2_with fail
  refine(FW.out _ BB.out.BN).mono ?_;rintro e w2 ⟨c1,rfl,hc1,ht⟩;have HL2:=hdq (BB.out.touch ht);clear ht;clear x0 x1 x2 x3 x4 x5 x6 x7 x8 x9 x10 zx y0 y1 y2 y3 y4 y5 y6 y7 y8 y9 y10 zy;obtain⟨x0,x1,x2,x3,x4,x5,x6,x7,x8,x9,x10,_,zx,_,_⟩:=HL2.out.c11 0 rfl;obtain⟨y0,y1,y2,y3,y4,y5,y6,y7,y8,y9,y10,_,zy,_,_⟩:=HL2.out.c11 1 rfl;cases c1 with
  |true=>
   have O3:=hdq (hc1.1 rfl);clear hc1;go_wp2_with fail
   refine(Ma.out _ HL2.out.BN).mono ?_;rintro e w3 ⟨c2,rfl,hc2,ht⟩;have BF:=hdq (HL2.out.touch ht);clear ht;clear x0 x1 x2 x3 x4 x5 x6 x7 x8 x9 x10 zx y0 y1 y2 y3 y4 y5 y6 y7 y8 y9 y10 zy;obtain⟨x0,x1,x2,x3,x4,x5,x6,x7,x8,x9,x10,_,zx,_,_⟩:=BF.out.c11 0 rfl;obtain⟨y0,y1,y2,y3,y4,y5,y6,y7,y8,y9,y10,_,zy,_,_⟩:=BF.out.c11 1 rfl;cases c2 with
   |true=>
    have HK2:=hdq (hc2.1 rfl);clear hc2;by_cases hk3:p.flag=q.flag
    .have ek3:(p.flag==q.flag)=true:=by simp[hk3]
     have HK3:=hdq hk3;clear hk3;by_cases hk4:p.parked=q.parked
     .have ek4:(p.parked==q.parked)=true:=by simp[hk4]
      have HK4:=hdq hk4;clear hk4;by_cases hk5:p.done=q.done
      .have ek5:(p.done==q.done)=true:=by simp[hk5]
       have HK5:=hdq hk5;clear hk5;by_cases Hq:p.branch=q.branch
       .have ek6:(p.branch==q.branch)=true:=by simp[Hq]
        have HK6:=hdq Hq;clear Hq;go_wp2_with fail
        refine(HC7.out _ BF.out.BN).mono ?_;rintro e w4 ⟨c7,rfl,hc7,ht⟩;have BH:=hdq (BF.out.touch ht);clear ht;clear x0 x1 x2 x3 x4 x5 x6 x7 x8 x9 x10 zx y0 y1 y2 y3 y4 y5 y6 y7 y8 y9 y10 zy;obtain⟨x0,x1,x2,x3,x4,x5,x6,x7,x8,x9,x10,_,zx,_,_⟩:=BH.out.c11 0 rfl;obtain⟨y0,y1,y2,y3,y4,y5,y6,y7,y8,y9,y10,_,zy,_,_⟩:=BH.out.c11 1 rfl;cases c7 with
        |true=>
         have HK7:=hdq (hc7.1 rfl);clear hc7;by_cases J6:p.partner=q.partner
         .have ek8:(p.partner==q.partner)=true:=by simp[J6]
          have HK8:=hdq J6;clear J6;have HE:=hdq (Dj.out ⟨HK0.out,O3.out,HK2.out,HK3.out,HK4.out,HK5.out,HK6.out,HK7.out,HK8.out⟩ w4 BH.out.BN);go_wp2;go_ret
          exact HE.out
         .have ek8:(p.partner==q.partner)=false:=by simp[J6]
          have HE:=hdq (HN8.out J6 w4 BH.out.BN);go_wp2;go_ret
          exact HE.out
        |false=>
         have HE:=hdq (HN7.out (fun h=>by have :=hc7.2 h;simp at this) w4 BH.out.BN);clear hc7;go_wp2;go_ret
         exact HE.out
       .have ek6:(p.branch==q.branch)=false:=by simp[Hq]
        have HE:=hdq (HN6.out Hq w3 BF.out.BN);go_wp2;go_ret
        exact HE.out
      .have ek5:(p.done==q.done)=false:=by simp[hk5]
       have HE:=hdq (HN5.out hk5 w3 BF.out.BN);go_wp2;go_ret
       exact HE.out
     .have ek4:(p.parked==q.parked)=false:=by simp[hk4]
      have HE:=hdq (HN4.out hk4 w3 BF.out.BN);go_wp2;go_ret
      exact HE.out
    .have ek3:(p.flag==q.flag)=false:=by simp[hk3]
     have HE:=hdq (HN3.out hk3 w3 BF.out.BN);go_wp2;go_ret
     exact HE.out
   |false=>
    have HE:=hdq (Gy.out (fun h=>by have :=hc2.2 h;simp at this) w3 BF.out.BN);clear hc2;go_wp2;go_ret
    exact HE.out
  |false=>
   have HE:=hdq (FR.out (fun h=>by have :=hc1.2 h;simp at this) w2 HL2.out.BN);clear hc1;go_wp2;go_ret
   exact HE.out
 .have ek0:(p.thread==q.thread)=false:=by simp[hk0]
  have HE:=hdq (HN0.out hk0 w1 BB.out.BN);go_wp2;go_ret
  exact HE.out
section
variable {w W:World}
theorem Gi.lt(ho:Gi w W){b:Nat}(hb:b<w.heap.size):b<W.heap.size:=by
 have :=ho b hb;rw[Array.getElem?_eq_getElem hb]at this;exact(Array.getElem?_eq_some_iff.1 this).1
theorem Gi.cell(ho:Gi w W){b j:Nat}(hb:b<w.heap.size):W.cell? ⟨b,j,none⟩=w.cell? ⟨b,j,none⟩:=by simp[World.cell?,ho b hb]
theorem aG.old{a:Option Addr}{size n:Nat}{cs:List Value}(h:aG w a size n cs)(ho:Gi w W):aG W a size n cs:=by
 refine⟨h.1,fun i hi=>?_⟩;obtain⟨b,o,ha,hb,hc⟩:=h.2 i hi;exact⟨b,o,ha,ho.lt hb,fun j hj=>(ho.cell hb).trans (hc j hj)⟩
theorem MT.dK.old{a:Option Addr}{l:List MT}(h:MT.dK w a l)(ho:Gi w W):MT.dK W a l:=fun i hi=>by
 obtain⟨b,o,ha,hb,hc⟩:=h i hi;exact⟨b,o,ha,ho.lt hb,fun j hj=>(ho.cell hb).trans (hc j hj)⟩
theorem MT.In.qO{t:MT}(h:t.In w)(ho:Gi w W):t.In W:=h.keep (fun k hk=>ho k (h.lt k hk))
theorem MB.Mem.old{b:MB}(h:b.Mem w)(ho:Gi w W):b.Mem W:=
 ⟨h.1.qO ho,⟨h.2.1.1.old ho,fun c hm=>⟨⟨(h.2.1.2 c hm).1.1,(h.2.1.2 c hm).1.2.old ho⟩,fun t htm=>((h.2.1.2 c hm).2 t htm).qO ho⟩⟩,h.2.2.old ho⟩
theorem BO.Mem.old{x:BO}(h:x.Mem w)(ho:Gi w W):x.Mem W:=
 ⟨h.1.qO ho,h.2.1.qO ho,⟨h.2.2.1.1.old ho,fun b hb=>(h.2.2.1.2 b hb).old ho⟩,h.2.2.2.old ho⟩
theorem bJ.qO(h:bJ w)(ho:Gi w W):bJ W:=by
 have hlt:0<w.heap.size:=World.block_lt_of_cell? _ _ h.1;exact⟨(ho.cell hlt).trans h.1,(ho.cell hlt).trans h.2⟩
end
theorem yT{T:List Nat}{w0 w:World}{x:WS}{ms:List MS}{P:World->Prop}{r:List ai}(n:Nat)(hn:n<ms.length)(h:BD T w0 w ((x.fJ P).ts++r))(hms:x.sys=ms.map MS.raw)(hin:∀W,P W->∀m∈ms,m.In W):
  Calls Tryz.prog 15 #[.pointer (some ⟨x.wb,0,none⟩),.int .i64 (n:Int)] w fun e w'=>∃(s:MS) (P2:World->Prop),e= .returned (.tuple #[s.raw.val,.bool true])/\s.plain=ms[n].plain/\(∀W,P2 W->P W/\s.In W)/\BD T w0 w' ((x.fJ P2).ts++r):=by
 obtain⟨T',hF,hb⟩:=h.aN;refine(Sync_w T' w (x.fJ P) ms (n:Int) hF hms hin).mono ?_;rintro e w' ⟨v,er,x',rfl,hS,hL⟩;rcases hS with ⟨hno,_⟩|⟨k,hk,s,hkn,rfl,rfl,hpl,rfl⟩
 .exact absurd ⟨by omega,by omega⟩ hno
 .obtain rfl:k=n:=by omega
  exact⟨s,fun W=>P W/\s.In W,rfl,hpl,fun W hW=>hW,hb _ _ hL⟩
theorem BD.OT{T:List Nat}{w0 w:World}{x y:WS}{P:World->Prop}{r:List ai}(h:BD T w0 w ((x.fJ P).ts++(y.rest++r))):BD T w0 w ((y.fJ P).ts++(x.rest++r)):=by
 have h1:=BD.OQ (x:=x.fJ P) (y:=y.fJ P) (r:=r) (by rw[List.append_assoc];exact h) rfl;rw[List.append_assoc]at h1;exact h1
theorem BD.copyP{T:List Nat}{w0 w:World}{x:WS}{ms:List MS}{r:List ai}(h:BD T w0 w (x.ts++r))(hg:x.Good ms):
  Calls Tryz.prog 11 #[.pointer (some ⟨x.wb,0,none⟩)] w fun e w'=>∃(y:WS) (ms':List MS) (Q:World->Prop),e= .returned (.pointer (some ⟨y.wb,0,none⟩))/\ms'.map MS.plain=ms.map MS.plain/\y.sys=ms'.map MS.raw/\(∀W,(x.knows Q).P W->∀m∈ms',m.In W)/\BD T w0 w' ((x.knows Q).ts++(y.rest++r)):=by
 obtain⟨T',hF,hb⟩:=h.aN;refine(K3 T' w x ms hF hg).mono ?_;rintro e w' ⟨Q,y,ms',rfl,hP,hG,hs,h1,h2,h3,hL⟩;have h5:=hb _ _ hL;rw[List.append_assoc]at h5;exact⟨y,ms',Q,rfl,h3,hG.sys,fun W hW=>hG.cont W (by rw[hP];exact hW),h5⟩
def Oa(w:World)(W:World):Prop:=Gi w W/\bJ W
def R16(a:Option Addr)(c:Int)(W:World):Prop:=aG W a 7 1 ([fu c].flatMap MB.cells)/\∀b∈[fu c],b.Mem W
theorem R16.args{a:Option Addr}{c:Int}{W:World}(h:R16 a c W):iJ W a [fu c] none []:=⟨⟨h.1,h.2⟩,⟨by decide,fun i hi=>(Nat.not_lt_zero _ hi).elim⟩⟩
theorem pu(w:World)(hS:bJ w):Calls Tryz.prog 7 #[] w fun e w'=>e= .returned (.bool true)/\Touch [] w w':=by
 have BG:=hdq ((BD.old0 w).weaken (Q:=Oa w) 0 rfl (fun W ho=>⟨ho,hS.qO ho⟩));simp only[sZq]at BG;generalize hTT:List.range w.heap.size=T at BG;clear hTT hS;go_enter Tryz.func7,Tryz.ntmps7
 go_wp2_with fail
 refine(OU T w (Oa w) 8 (by decide) (by decide) BG.out).mono ?_;rintro e w1 ⟨wb,ga,rfl,hL⟩;have O3:Hid (KN 0 T w w1 wb (Oa w)):=hdq ⟨WS.empty wb ga 8 _,rfl,k_new (fun W h=>h.2),rfl,rfl,rfl,rfl,fun W h=>h,hL⟩;clear hL BG;go_wp2_with fail
 refine(O3.out.chan).mono ?_;rintro e w2 ⟨rfl,hL⟩;have HK2:=hdq hL;clear hL O3;go_wp2_with fail
 refine(HK2.out.cond).mono ?_;rintro e w3 ⟨rfl,hL⟩;have HK3:=hdq hL;clear hL HK2;go_wp2_with fail
 refine(Jc _ 0).mono ?_;rintro e w4 ⟨a0,rfl,hj⟩;have HK4:=hdq (HK3.out.know (Q:=R16 a0 0) hj);clear hj HK3;go_wp2_with fail
 refine(HK4.out.begin a0 1 (fun W hW=>hW.2.args)).mono ?_;rintro e w5 ⟨rfl,hL⟩;have HK5:=hdq hL;clear hL HK4;go_wp2_with fail
 refine(HK5.out.cells).mono ?_;rintro e w6 ⟨he,hL⟩;obtain rfl:e= .returned (.tuple #[.int .i64 4,.int .u64 0]):=he;have HK6:=hdq hL;clear hL HK5;go_wp2_with fail
 refine(bQ _ _).mono ?_;rintro e wn ⟨rfl,rfl⟩;go_wp2_with fail
 refine(bQ _ _).mono ?_;rintro e wn ⟨rfl,rfl⟩;go_wp2_with fail
 refine(bQ _ _).mono ?_;rintro e wn ⟨rfl,rfl⟩;go_wp2_with fail
 refine(bQ _ _).mono ?_;rintro e wn ⟨rfl,rfl⟩;go_wp2_with fail
 refine(HK6.out.lock (s':=⟨[1,0,0,0],8,[⟨3,0,0,1,true⟩]⟩) (by decide) true 0 (by kernel_rfl)).mono ?_;rintro e w7 ⟨rfl,hL⟩;have HK7:=hdq hL;clear hL HK6;go_wp2_with fail
 refine(HK7.out.lock (s':=⟨[1,0,0,0],8,[⟨3,0,0,1,true⟩,⟨3,0,1,1,false⟩]⟩) (by decide) false 0 (by kernel_rfl)).mono ?_;rintro e w8 ⟨rfl,hL⟩;have HK8:=hdq hL;clear hL HK7;go_wp2_with fail
 refine(HK8.out.entry).mono ?_;rintro e w9 ⟨u,rfl,hu,hL⟩;have HU:=hdq hu;have HK9:=hdq hL;clear hL hu HK8;go_upto_region 11 with fail
 refine ay ?_;intro GL hw;have J9:=hdq (HK9.out.al hw);simp only[nAq,cAq]at J9;generalize hb:w9.heap.size=bz at J9|-;clear hw hb HK9;obtain⟨xx,mm,_,_,_,F5⟩:=J9.out;obtain⟨z0,z1,z2,z3,z4,z5,z6,_,zz,_,_⟩:=F5.C9 0 rfl;clear F5;go_wp2_with fail
 refine(J9.out.push (kE u) HU.out (fun W hW=>hW.2) rfl).mono ?_;rintro e w11 ⟨rfl,hL⟩;have HK11:=hdq hL;clear hL J9 z0 z1 z2 z3 z4 z5 z6 zz;go_wp2_with fail
 refine(HK11.out.peek rfl).mono ?_;rintro e LQ ⟨⟨pt,pb,pf,pk,pn,pa,pl,pc,rfl⟩,hL⟩;have HK12:=hdq hL;clear hL HK11;go_upto_region 13 with fail
 refine ay ?_;intro w13 hw;have NN:=hdq (HK12.out.al hw);simp only[nAq,cAq]at NN;generalize hb:LQ.heap.size=bp at NN|-;clear hw hb HK12;go_wp2_with fail
 refine(NN.out.unlock (s':=⟨[0,0,0,0],8,[⟨3,0,0,1,true⟩,⟨3,0,1,1,false⟩,⟨3,0,1,0,true⟩]⟩) (by decide) 0 (by kernel_rfl)).mono ?_;rintro e w14 ⟨rfl,hL⟩;have HK14:=hdq hL;clear hL NN;go_wp2_with fail
 refine(HK14.out.unlock (s':=⟨[0,0,0,0],8,[⟨3,0,0,1,true⟩,⟨3,0,1,1,false⟩,⟨3,0,1,0,true⟩,⟨3,0,0,0,false⟩]⟩) (by decide) 30 (by kernel_rfl)).mono ?_;rintro e w15 ⟨rfl,hL⟩;have HK15:=hdq hL;clear hL HK14;obtain⟨xx,mm,_,_,_,F5⟩:=HK15.out;obtain⟨p0,p1,p2,p3,p4,p5,p6,_,zp,_,_⟩:=F5.C9 1 rfl;clear F5;go_wp2_with fail
 refine(bQ _ _).mono ?_;rintro e wn ⟨rfl,rfl⟩;go_wp2_with fail
 refine(bQ _ _).mono ?_;rintro e wn ⟨rfl,rfl⟩;go_wp2_with fail
 refine(bQ _ _).mono ?_;rintro e wn ⟨rfl,rfl⟩;go_wp2_with fail
 refine(bQ _ _).mono ?_;rintro e wn ⟨rfl,rfl⟩;go_wp2_with fail
 refine(bQ _ _).mono ?_;rintro e wn ⟨rfl,rfl⟩;go_wp2_with fail
 refine(bQ _ _).mono ?_;rintro e wn ⟨rfl,rfl⟩;go_wp2_with fail
 refine(bQ _ _).mono ?_;rintro e wn ⟨rfl,rfl⟩;clear p0 p1 p2 p3 p4 p5 p6 zp;go_wp2_with fail
 refine(HK15.out.take (s':=⟨[0,0,0,2],8,[⟨3,0,0,1,true⟩,⟨3,0,1,1,false⟩,⟨3,0,1,0,true⟩,⟨3,0,0,0,false⟩,⟨3,3,0,2,true⟩]⟩) (by decide) 0 0 (by kernel_rfl)).mono ?_;rintro e w16 ⟨rfl,hL⟩;have HK16:=hdq hL;clear hL HK15;go_wp2_with fail
 refine(HK16.out.take (s':=⟨[0,0,0,2],8,[⟨3,0,0,1,true⟩,⟨3,0,1,1,false⟩,⟨3,0,1,0,true⟩,⟨3,0,0,0,false⟩,⟨3,3,0,2,true⟩,⟨3,3,2,2,false⟩]⟩) (by decide) 2 0 (by kernel_rfl)).mono ?_;rintro e w17 ⟨rfl,hL⟩;have HK17:=hdq hL;clear hL HK16;have hbe:∀W,(Instr.build 45 #[(0,.int .i64 2),(1,.int .i64 5)]).run Tryz.prog W= .ok (.agg #[.int .i64 2,.int .i64 5,.slice none 0 0]) W:=fun W=>run_build W 45 _ _ (by kernel_rfl);go_upto_region 19 with fail
 refine ay ?_;intro w18 hw;have NC:=hdq (HK17.out.al hw);simp only[nAq,cAq]at NC;generalize hb:w17.heap.size=bf at NC|-;clear hw hb HK17;clear hbe;have HKd:=hdq NC.out.drew;clear NC;obtain⟨xx,mm,_,_,_,F5⟩:=HKd.out;obtain⟨v0,v1,v2,_,_,_,zv,_,_⟩:=F5.at3 2 rfl;clear F5;refine hrq (S:=fun w'=>w'.cell? ⟨bf,0,none⟩=some (.int .i64 2)/\w'.cell? ⟨bf,1,none⟩=some (.int .i64 5)/\w'.cell? ⟨bf,2,none⟩=some (.slice none 0 0)) fun hHeld=>?_;refine ak ?_;intro wq hwq;rw[hwq]at hHeld;have HQ:=hdq (HKd.out.toW hwq);clear hwq HKd v0 v1 v2 zv;obtain⟨xx,mm,_,_,_,F5⟩:=HQ.out;obtain⟨v0,v1,v2,_,_,_,zv,_,_⟩:=F5.at3 2 rfl;clear F5;refine tkq 0 170 ?_;refine tkq 1 171 ?_;refine tkq 3 173 ?_;refine tkq 4 174 ?_;refine rdq 2 rfl fun K hK=>?_;go_simp;refine(HQ.out.commit rfl).mono ?_;rintro e wr ⟨rfl,hL⟩;clear hHeld HQ v0 v1 v2 zv;have HQ:=hdq hL;clear hL;obtain⟨xx,mm,_,_,_,F5⟩:=HQ.out;obtain⟨v0,v1,v2,_,_,_,zv,_,_⟩:=F5.at3 2 rfl;clear F5;go_simp;refine kpq hK.out fun hHeld=>?_;clear hK K;refine rdq 5 rfl fun K hK=>?_;go_simp;refine(HQ.out.uh rfl).mono ?_;rintro e wr ⟨rfl,hL⟩;clear hHeld HQ v0 v1 v2 zv;have HQ:=hdq hL;clear hL;obtain⟨xx,mm,_,_,_,F5⟩:=HQ.out;obtain⟨v0,v1,v2,_,_,_,zv,_,_⟩:=F5.at3 2 rfl;clear F5;go_simp;refine kpq hK.out fun hHeld=>?_;clear hK K;clear hHeld;refine opq 6 fun hHeld=>?_;clear hHeld;refine opq 7 fun hHeld=>?_;refine dnq ?_;refine ax (Q:=Exit.then _ _) ?_;intro w19 hwy;have HK19:=hdq (HQ.out.toW (by with_reducible exact hwy));clear hwy hHeld HQ v0 v1 v2 zv;go_wp2_with fail
 refine(HK19.out.park (s':=⟨[0,0,0,2],8,[⟨3,0,0,1,true⟩,⟨3,0,1,1,false⟩,⟨3,0,1,0,true⟩,⟨3,0,0,0,false⟩,⟨3,3,0,2,true⟩,⟨3,3,2,2,false⟩,⟨1,3,2,2,true⟩]⟩) (by decide) (by kernel_rfl)).mono ?_;rintro e Nc ⟨rfl,hL⟩;have HK20:=hdq hL;clear hL HK19;go_wp2_with fail
 refine(Jc _ 1).mono ?_;rintro e Nz ⟨a1,rfl,hj⟩;have HK21:=hdq (HK20.out.know (Q:=R16 a1 1) hj);clear hj HK20;go_wp2_with fail
 refine(HK21.out.wT a1 1 (fun W hW=>hW.2.args)).mono ?_;rintro e w22 ⟨rfl,hL⟩;have HK22:=hdq hL;clear hL HK21;go_wp2_with fail
 refine(HK22.out.II (by decide)).mono ?_;rintro e w23 ⟨rfl,hL⟩;have HK23:=hdq hL;clear hL HK22;go_wp2_with fail
 refine(HK23.out.fire (s':=⟨[0,0,1,2],8,[⟨3,0,0,1,true⟩,⟨3,0,1,1,false⟩,⟨3,0,1,0,true⟩,⟨3,0,0,0,false⟩,⟨3,3,0,2,true⟩,⟨3,3,2,2,false⟩,⟨1,3,2,2,true⟩,⟨3,2,0,1,true⟩]⟩) (by decide) 0 (by kernel_rfl)).mono ?_;rintro e w24 ⟨rfl,hL⟩;have HK24:=hdq hL;clear hL HK23;go_wp2_with fail
 refine(HK24.out.fired (s':=⟨[0,0,1,2],8,[⟨3,0,0,1,true⟩,⟨3,0,1,1,false⟩,⟨3,0,1,0,true⟩,⟨3,0,0,0,false⟩,⟨3,3,0,2,true⟩,⟨3,3,2,2,false⟩,⟨1,3,2,2,true⟩,⟨3,2,0,1,true⟩,⟨1,2,1,1,true⟩]⟩) (by decide) true 0 (by kernel_rfl)).mono ?_;rintro e Mh ⟨rfl,hL⟩;have HK25:=hdq hL;clear hL HK24;go_wp2_with fail
 refine(bQ _ _).mono ?_;rintro e wn ⟨rfl,rfl⟩;go_wp2_with fail
 refine(bQ _ _).mono ?_;rintro e wn ⟨rfl,rfl⟩;go_wp2_with fail
 refine(bQ _ _).mono ?_;rintro e wn ⟨rfl,rfl⟩;go_wp2_with fail
 refine(bQ _ _).mono ?_;rintro e wn ⟨rfl,rfl⟩;go_wp2_with fail
 refine(bQ _ _).mono ?_;rintro e wn ⟨rfl,rfl⟩;go_wp2_with fail
 refine(bQ _ _).mono ?_;rintro e wn ⟨rfl,rfl⟩;go_wp2_with fail
 refine(bQ _ _).mono ?_;rintro e wn ⟨rfl,rfl⟩;go_wp2_with fail
 refine(bQ _ _).mono ?_;rintro e wn ⟨rfl,rfl⟩;go_wp2_with fail
 refine(bQ _ _).mono ?_;rintro e wn ⟨rfl,rfl⟩;go_wp2;go_ret
 exact⟨rfl,HK25.out.BN (fun W h=>h.1.1.1.1)⟩
section
open Go.ChangeShapes Go.WideShapes Go.Deep Go.RowKit
theorem kT{α:Type}{p:Nat->α->Prop}:∀(n:Nat),(∀i,i<n->∃x,p i x)->∃l:List α,l.length=n/\∀i (hi:i<l.length),p i l[i]:=by
 intro n;induction n with
 |zero=>intro _;exact⟨[],rfl,fun i hi=>by simp at hi⟩
 |succ n ih=>
  intro h;obtain⟨l,hl,hp⟩:=ih (fun i hi=>h i (by omega));obtain⟨x,hx⟩:=h n (by omega);refine⟨l++[x],by simp[hl],fun i hi=>?_⟩;by_cases hin:i<l.length
  .rw[List.getElem_append_left hin];exact hp i hin
  .have :i=n:=by simp at hi;omega
   subst this;rw[List.getElem_append_right (by omega)];simpa using hx
theorem add_add'(a:Addr)(i j:Nat):(a.add i).add j=a.add (i+j):=by
 unfold Addr.add;by_cases hi:i=0<;>by_cases hj:j=0<;>simp[hi,hj,Nat.add_assoc]
theorem OJ{α:Type}{l:List α}(h:l.length=3):∃a b c,l=[a,b,c]:=by
 match l,h with
 |[a,b,c],_=>exact⟨a,b,c,rfl⟩
theorem vW{H:Type}(l:List MT)(ds:List (DataW H))(hl:l.length=ds.length)(h:∀i (hi:i<l.length) (hd:i<ds.length),l[i].nodes<=Rows.uptoBulk ds[i]):MT.aV l<=Rows.uptoBulkAll ds:=by
 induction l generalizing ds with
 |nil=>simp[MT.aV]
 |cons t r ih=>
  match ds,hl with
  |d::ds,hl=>
   simp only[MT.aV,Rows.uptoBulkAll];have h0:=h 0 (by simp) (by simp);have h1:=ih ds (by simpa using hl) (fun i hi hd=>h (i+1) (by simpa using hi) (by simpa using hd));simp only[List.getElem_cons_zero]at h0;omega
theorem vB{H:Type}{d:DataW H}{l:List (DataW H)}(h:d∈l):Rows.uptoBulk d<=Rows.uptoBulkAll l:=by
 induction l with
 |nil=>cases h
 |cons x r ih=>
  simp only[Rows.uptoBulkAll];rcases List.mem_cons.1 h with rfl|h
  .omega
  .have :=ih h;omega
def ME.Fits(x:ME):Prop:=(-9223372036854775808<=x.sync/\x.sync<=9223372036854775807)/\(-9223372036854775808<=x.thread/\x.thread<=9223372036854775807)/\(-9223372036854775808<=x.branch/\x.branch<=9223372036854775807)/\(-9223372036854775808<=x.flag/\x.flag<=9223372036854775807)
section
variable {H:Type} {enc:TypeId×Value->H} {w:World} {base:Nat} {spare:Nat->Bool} {held:Bool}
theorem iO:Tryz.prog.cellsOf 45=3:=by kernel_rfl
theorem iV:Tryz.prog.cellsOf 3=1:=by kernel_rfl
theorem qD:Tryz.prog.cellsOf 42=1:=by kernel_rfl
theorem zS:Tryz.prog.cellsOf 2=1:=by kernel_rfl
theorem qi:Tryz.prog.cellsOf 43=1:=by kernel_rfl
theorem sO:Tryz.prog.cellsOf 47=7:=by kernel_rfl
theorem gP:∀(N:Nat) (d:DataW H),Rows.uptoBulk d<=N->∀(fuel:Nat) (cs:List Value) (p:List MemPlace),DataW.trod enc Tryz.prog w base spare held fuel 45 cs=some (d,p)->∃t:MT,cs=t.cells/\t.In w/\t.nodes<=Rows.uptoBulk d:=by
 intro N;induction N with
 |zero=>intro d hd fuel cs p h;obtain⟨xs,n,_,hx,_⟩:=DataW.trod_struct Tryz.underlying45 h;injection hx with hx _;subst hx;simp[Rows.uptoBulk]at hd
 |succ N ih=>
  intro d hd fuel cs p h;obtain⟨xs,n,_,hx,hl,hlen,hf⟩:=DataW.trod_struct Tryz.underlying45 h;injection hx with hx _
  subst hx;rw[iO]at hl;obtain⟨c0,c1,c2,rfl⟩:=OJ hl;obtain⟨x0,x1,x2,rfl⟩:=OJ hlen;have f0:DataW.trod enc Tryz.prog w base spare held n 42 (List.take (Tryz.prog.cellsOf 42) (List.drop 0 [c0,c1,c2]))=some x0:=hf 0 _ rfl;have f1:DataW.trod enc Tryz.prog w base spare held n 2 (List.take (Tryz.prog.cellsOf 2) (List.drop 1 [c0,c1,c2]))=some x1:=hf 1 _ rfl;have f2:DataW.trod enc Tryz.prog w base spare held n 43 (List.take (Tryz.prog.cellsOf 43) (List.drop 2 [c0,c1,c2]))=some x2:=hf 2 _ rfl;rw[qD]at f0;rw[zS]at f1;rw[qi]at f2;simp only[List.drop_zero,List.drop_succ_cons,List.take_succ_cons,List.take_zero]at f0 f1 f2;obtain⟨z0,hz0,hx0,_⟩:=DataW.trod_int Tryz.underlying42 f0;obtain⟨z1,hz1,hx1,_⟩:=DataW.trod_int Tryz.underlying2 f1;injection hz0 with hz0 _
  injection hz1 with hz1 _
  subst hz0 hz1 hx0 hx1;simp only[List.map_cons,List.map_nil,Rows.uptoBulk,Rows.uptoBulkAll]at hd|-;rcases open_slice Tryz.underlying43 f2 with ⟨hcs,hx2⟩|⟨a,len,cap,m,n',D,Pl,hcs,hb,hlc,hm,hmm,hx2,hi⟩
  .injection hcs with hcs _
   subst hcs;exact⟨.mk z0 z1 none 0 [],rfl,MT.rZ (by simp) (fun i hi=>by simp at hi) (by simp),by simp[MT.nodes,MT.aV]⟩
  .injection hcs with hcs _
   subst hcs;have hlm:len<=m:=by rw[hmm];split<;>omega
   subst hx2;simp only[Rows.uptoBulk]at hd|-;obtain⟨l,hll,hp⟩:=kT (p:=fun i (t:MT)=>(∀j,j<3->w.cell? ((a.add (i*3)).add j)=t.cells[j]?)/\t.In w/\t.nodes<=Rows.uptoBulk (D i)) len (fun i hil=>by
    obtain⟨cs',hc,ht'⟩:=hi i (by omega);rw[iO]at hc;obtain⟨_,hcl,hat⟩:=World.cells?_some hc;have hbi:Rows.uptoBulk (D i)<=Rows.uptoBulkAll ((List.range len).map D):=vB (List.mem_map.2 ⟨i,List.mem_range.2 hil,rfl⟩);obtain⟨t,rfl,ht1,ht2⟩:=ih (D i) (by omega) _ _ _ ht';exact⟨t,hat,ht1,ht2⟩)
   subst hll;refine⟨.mk z0 z1 (some a) cap l,rfl,MT.rZ (by simp only[maxLen]at hm;omega) (fun i hil=>?_) (fun t ht=>?_),?_⟩
   .obtain⟨hat,_,_⟩:=hp i hil
    obtain⟨b,o,sp⟩:=a;have hsp:sp=none:=by
     obtain⟨hat0,_,_⟩:=hp 0 (by omega);have h00:=hat0 0 (by omega);rw[add_add']at h00;have h01:w.cell? ((⟨b,o,sp⟩:Addr).add 0)=some (.int .i64 (l[0]'(by omega)).kind):=by simp only[Nat.zero_mul,Nat.add_zero]at h00;exact h00
     simpa[Addr.add]using World.cell?_spot h01
    subst hsp;have h0:=hat 0 (by omega);rw[add_add',Addr.add_lit]at h0;refine⟨b,o,rfl,World.block_lt_of_cell? w _ (u:= .int .i64 l[i].kind) h0,fun j hj=>?_⟩;have :=hat j hj;rw[add_add',Addr.add_lit,<-Nat.add_assoc]at this;exact this
   .obtain⟨i,hil,rfl⟩:=List.mem_iff_getElem.1 ht
    exact(hp i hil).2.1
   .have :=vW l ((List.range l.length).map D) (by simp) (fun i hil hd=>by simp;exact(hp i hil).2.2)
    simp only[MT.nodes];omega
theorem list7{α:Type}{l:List α}(h:l.length=7):∃a b c d e f g,l=[a,b,c,d,e,f,g]:=by
 match l,h with
 |[a,b,c,d,e,f,g],_=>exact⟨a,b,c,d,e,f,g,rfl⟩
theorem list5{α:Type}{l:List α}(h:l.length=5):∃a b c d e,l=[a,b,c,d,e]:=by
 match l,h with
 |[a,b,c,d,e],_=>exact⟨a,b,c,d,e,rfl⟩
theorem qm(fuel:Nat)(cs:List Value)(d:DataW H)(p:List MemPlace)(h:DataW.trod enc Tryz.prog w base spare held fuel 47 cs=some (d,p)):∃x:ME,cs=x.cells/\x.v.In w/\x.v.nodes<=Rows.uptoBulk d/\x.Fits:=by
 obtain⟨xs,n,_,hx,hl,hlen,hf⟩:=DataW.trod_struct Tryz.underlying47 h;injection hx with hx _
 subst hx;rw[sO]at hl;obtain⟨c0,c1,c2,c3,c4,c5,c6,rfl⟩:=list7 hl;obtain⟨x0,x1,x2,x3,x4,rfl⟩:=list5 hlen;have f0:DataW.trod enc Tryz.prog w base spare held n 3 (List.take (Tryz.prog.cellsOf 3) (List.drop 0 [c0,c1,c2,c3,c4,c5,c6]))=some x0:=hf 0 _ rfl;have f1:DataW.trod enc Tryz.prog w base spare held n 3 (List.take (Tryz.prog.cellsOf 3) (List.drop 1 [c0,c1,c2,c3,c4,c5,c6]))=some x1:=hf 1 _ rfl;have f2:DataW.trod enc Tryz.prog w base spare held n 3 (List.take (Tryz.prog.cellsOf 3) (List.drop 2 [c0,c1,c2,c3,c4,c5,c6]))=some x2:=hf 2 _ rfl;have f3:DataW.trod enc Tryz.prog w base spare held n 3 (List.take (Tryz.prog.cellsOf 3) (List.drop 3 [c0,c1,c2,c3,c4,c5,c6]))=some x3:=hf 3 _ rfl;have f4:DataW.trod enc Tryz.prog w base spare held n 45 (List.take (Tryz.prog.cellsOf 45) (List.drop 4 [c0,c1,c2,c3,c4,c5,c6]))=some x4:=hf 4 _ rfl;rw[iV]at f0 f1 f2 f3;rw[iO]at f4;simp only[List.drop_zero,List.drop_succ_cons,List.take_succ_cons,List.take_zero]at f0 f1 f2 f3 f4;obtain⟨z0,hz0,hx0,g0⟩:=DataW.trod_int Tryz.underlying3 f0;obtain⟨z1,hz1,hx1,g1⟩:=DataW.trod_int Tryz.underlying3 f1;obtain⟨z2,hz2,hx2,g2⟩:=DataW.trod_int Tryz.underlying3 f2;obtain⟨z3,hz3,hx3,g3⟩:=DataW.trod_int Tryz.underlying3 f3;injection hz0 with hz0 _
 injection hz1 with hz1 _
 injection hz2 with hz2 _
 injection hz3 with hz3 _
 subst hz0 hz1 hz2 hz3;obtain⟨x4,p4⟩:=x4;obtain⟨t,ht,hin,hno⟩:=gP _ x4 (Nat.le_refl _) _ _ _ f4;have ht':c4= .int .i64 t.kind/\c5= .int .i64 t.num/\c6=t.sl:=by simpa[MT.cells]using ht
 obtain⟨rfl,rfl,rfl⟩:=ht';refine⟨⟨z0,z1,z2,z3,t⟩,rfl,hin,?_,bounds_i64 g0,bounds_i64 g1,bounds_i64 g2,bounds_i64 g3⟩;simp only[List.map_cons,List.map_nil,Rows.uptoBulk,Rows.uptoBulkAll];show t.nodes<=_
 omega
end
end
section
open Go.ChangeShapes Go.WideShapes Go.Deep Go.RowKit
theorem Lu{α:Type}{l:List α}(h:l.length=2):∃x0 x1,l=[x0,x1]:=by
 match l,h with
 |[x0,x1],_=>exact⟨x0,x1,rfl⟩
theorem listN9{α:Type}{l:List α}(h:l.length=9):∃x0 x1 x2 x3 x4 x5 x6 x7 x8,l=[x0,x1,x2,x3,x4,x5,x6,x7,x8]:=by
 match l,h with
 |[x0,x1,x2,x3,x4,x5,x6,x7,x8],_=>exact⟨x0,x1,x2,x3,x4,x5,x6,x7,x8,rfl⟩
theorem NK{α:Type}{l:List α}(h:l.length=17):∃x0 x1 x2 x3 x4 x5 x6 x7 x8 x9 x10 ES I9 Li Gg Gw GN,l=[x0,x1,x2,x3,x4,x5,x6,x7,x8,x9,x10,ES,I9,Li,Gg,Gw,GN]:=by
 match l,h with
 |[x0,x1,x2,x3,x4,x5,x6,x7,x8,x9,x10,ES,I9,Li,Gg,Gw,GN],_=>exact⟨x0,x1,x2,x3,x4,x5,x6,x7,x8,x9,x10,ES,I9,Li,Gg,Gw,GN,rfl⟩
theorem listN5{α:Type}{l:List α}(h:l.length=5):∃x0 x1 x2 x3 x4,l=[x0,x1,x2,x3,x4]:=by
 match l,h with
 |[x0,x1,x2,x3,x4],_=>exact⟨x0,x1,x2,x3,x4,rfl⟩
theorem listN7{α:Type}{l:List α}(h:l.length=7):∃x0 x1 x2 x3 x4 x5 x6,l=[x0,x1,x2,x3,x4,x5,x6]:=by
 match l,h with
 |[x0,x1,x2,x3,x4,x5,x6],_=>exact⟨x0,x1,x2,x3,x4,x5,x6,rfl⟩
theorem Lg{H:Type}(d:DataW H):1<=Rows.uptoBulk d:=by
 cases d with
 |lit l=>cases l<;>simp[Rows.uptoBulk]
 |nil=>simp[Rows.uptoBulk]
 |ptr d=>simp[Rows.uptoBulk]
 |slice a b=>simp[Rows.uptoBulk]
 |agg a=>simp[Rows.uptoBulk]
 |iface t d=>simp[Rows.uptoBulk]
 |map e=>simp[Rows.uptoBulk]
 |held h=>simp[Rows.uptoBulk]
theorem Kv{H:Type}(l:List (DataW H)):l.length<=Rows.uptoBulkAll l:=by
 induction l with
 |nil=>simp
 |cons d r ih=>simp only[Rows.uptoBulkAll,List.length_cons];have :=Lg d;omega
section
variable {H:Type} {enc:TypeId×Value->H} {w:World} {base:Nat} {spare:Nat->Bool} {held:Bool}
theorem uf:Tryz.prog.cellsOf 41=1:=by kernel_rfl
theorem vw:Tryz.prog.cellsOf 108=1:=by kernel_rfl
theorem mZ:Tryz.prog.cellsOf 49=1:=by kernel_rfl
theorem wo:Tryz.prog.cellsOf 48=1:=by kernel_rfl
theorem qM:Tryz.prog.cellsOf 189=2:=by kernel_rfl
theorem qb:Tryz.prog.cellsOf 110=7:=by kernel_rfl
theorem oF:Tryz.prog.cellsOf 51=17:=by kernel_rfl
theorem open_row{α:Type}(f:α->List Value)(size:Nat)(hsz:0<size)(hf:∀a,(f a).length=size)(Q:α->Nat->Prop)(hQ:∀a m n,m<=n->Q a m->Q a n){ts te:TypeId}(und:Tryz.prog.underlying ts=some (.slice te))(hce:Tryz.prog.cellsOf te=size)(hone:∀(fuel:Nat) (cs:List Value) (d:DataW H) (p:List MemPlace),Rows.uptoBulk d<=1048576->DataW.trod enc Tryz.prog w base spare held fuel te cs=some (d,p)->∃x:α,cs=f x/\Q x (Rows.uptoBulk d)){fuel:Nat}{c:Value}{d:DataW H}{p:List MemPlace}(hbk:Rows.uptoBulk d<=1048576)(h:DataW.trod enc Tryz.prog w base spare held fuel ts [c]=some (d,p)):
  ∃(a:Option Addr) (cap:Nat) (l:List α),c= .slice a l.length cap/\aG w a size l.length (l.flatMap f)/\∀x∈l,Q x (Rows.uptoBulk d):=by
 rcases open_slice und h with ⟨hcs,hx2⟩|⟨a,len,cap,m,n',D,Pl,hcs,hb,hlc,hm,hmm,hx2,hi⟩
 .injection hcs with hcs _
  subst hcs;exact⟨none,0,[],rfl,gX _ _ _ _,by simp⟩
 .injection hcs with hcs _
  subst hcs;have hlm:len<=m:=by rw[hmm];split<;>omega
  injection hx2 with hx2 _
  subst hx2;simp only[Rows.uptoBulk]at hbk|-;have hlb:len<=Rows.uptoBulkAll ((List.range len).map D):=by have :=Kv ((List.range len).map D);simpa using this
  have hbi:∀i,i<len->Rows.uptoBulk (D i)<=Rows.uptoBulkAll ((List.range len).map D):=fun i hil=>vB (List.mem_map.2 ⟨i,List.mem_range.2 hil,rfl⟩);obtain⟨l,hll,hp⟩:=kT (p:=fun i (t:α)=>(∀j,j<size->w.cell? ((a.add (i*size)).add j)=(f t)[j]?)/\Q t (Rows.uptoBulk (D i))) len (fun i hil=>by
   obtain⟨cs',hc,ht'⟩:=hi i (by omega);rw[hce]at hc;obtain⟨_,hcl,hat⟩:=World.cells?_some hc;obtain⟨t,rfl,ht1⟩:=hone _ _ _ _ (by have :=hbi i hil;omega) ht';exact⟨t,hat,ht1⟩)
  subst hll;refine⟨some a,cap,l,rfl,⟨by omega,fun i hil=>?_⟩,fun x hx=>?_⟩
  .obtain⟨hat,_⟩:=hp i hil
   obtain⟨b,o,sp⟩:=a;have hs0:∀i (hi:i<l.length),∃u,(f l[i])[0]? =some u:=fun i hi=>⟨(f l[i])[0]'(by rw[hf];exact hsz),List.getElem?_eq_getElem _⟩;have hsp:sp=none:=by
    obtain⟨hat0,_⟩:=hp 0 (by omega);have h00:=hat0 0 hsz;rw[add_add']at h00;obtain⟨u,hu⟩:=hs0 0 (by omega);have h01:w.cell? ((⟨b,o,sp⟩:Addr).add 0)=some u:=by simp only[Nat.zero_mul,Nat.add_zero]at h00;exact h00.trans hu
    simpa[Addr.add]using World.cell?_spot h01
   subst hsp;have hc:∀j,j<size->w.cell? ⟨b,o+i*size+j,none⟩=(f l[i])[j]? :=fun j hj=>by
    have :=hat j hj;rw[add_add',Addr.add_lit,<-Nat.add_assoc]at this;exact this
   obtain⟨u,hu⟩:=hs0 i hil;refine⟨b,o,rfl,World.block_lt_of_cell? w _ (u:=u) ((hc 0 hsz).trans hu),fun j hj=>?_⟩;rw[hc j hj,rT f size hf l i hil j hj]
  .obtain⟨i,hil,rfl⟩:=List.mem_iff_getElem.1 hx
   exact hQ _ _ _ (by have :=hbi i hil;omega) (hp i hil).2
def yI(w:World)(t:MT)(n:Nat):Prop:=t.In w/\t.nodes<=n
def sU(w:World)(c:MC)(n:Nat):Prop:=(c.args.length<=2000000/\MT.dK w c.a c.args)/\∀t∈c.args,yI w t n
def su(w:World)(b:MB)(n:Nat):Prop:=b.Mem w/\b.v.nodes<=n/\∀c∈b.wraps,∀t∈c.args,t.nodes<=n
def uK(w:World)(x:BO)(n:Nat):Prop:=x.Mem w/\x.e.v.nodes<=n/\x.v.nodes<=n/\∀b∈x.bases,b.v.nodes<=n/\∀c∈b.wraps,∀t∈c.args,t.nodes<=n
theorem uK.big{w:World}{x:BO}{n:Nat}(h:uK w x n)(hn:n<=1048576):x.Mem w/\x.Big:=⟨h.1,Nat.le_trans h.2.1 hn,Nat.le_trans h.2.2.1 hn,fun b hb=>⟨Nat.le_trans (h.2.2.2 b hb).1 hn,fun c hc t ht=>Nat.le_trans ((h.2.2.2 b hb).2 c hc t ht) hn⟩⟩
theorem yI.mono(w:World)(t:MT)(m n:Nat)(h:m<=n)(hq:yI w t m):yI w t n:=⟨hq.1,Nat.le_trans hq.2 h⟩
theorem sU.mono(w:World)(c:MC)(m n:Nat)(h:m<=n)(hq:sU w c m):sU w c n:=⟨hq.1,fun t ht=>(hq.2 t ht).mono _ _ _ _ h⟩
theorem su.mono(w:World)(b:MB)(m n:Nat)(h:m<=n)(hq:su w b m):su w b n:=⟨hq.1,Nat.le_trans hq.2.1 h,fun c hc t ht=>Nat.le_trans (hq.2.2 c hc t ht) h⟩
theorem uK.mono(w:World)(x:BO)(m n:Nat)(h:m<=n)(hq:uK w x m):uK w x n:=⟨hq.1,Nat.le_trans hq.2.1 h,Nat.le_trans hq.2.2.1 h,fun b hb=>⟨Nat.le_trans (hq.2.2.2 b hb).1 h,fun c hc t ht=>Nat.le_trans ((hq.2.2.2 b hb).2 c hc t ht) h⟩⟩
theorem sD(fuel:Nat)(cs:List Value)(d:DataW H)(p:List MemPlace)(_hbk:Rows.uptoBulk d<=1048576)(h:DataW.trod enc Tryz.prog w base spare held fuel 3 cs=some (d,p)):∃x:Int,cs=fq x/\True:=by
 obtain⟨z0,hz0,hx0,g0⟩:=DataW.trod_int Tryz.underlying3 h;exact⟨z0,hz0,trivial⟩
theorem Bg(fuel:Nat)(cs:List Value)(d:DataW H)(p:List MemPlace)(_hbk:Rows.uptoBulk d<=1048576)(h:DataW.trod enc Tryz.prog w base spare held fuel 45 cs=some (d,p)):∃x:MT,cs=x.cells/\yI w x (Rows.uptoBulk d):=gP _ d (Nat.le_refl _) _ _ _ h
theorem o7(fuel:Nat)(cs:List Value)(d:DataW H)(p:List MemPlace)(hbk:Rows.uptoBulk d<=1048576)(h:DataW.trod enc Tryz.prog w base spare held fuel 189 cs=some (d,p)):∃x:MC,cs=x.cells/\sU w x (Rows.uptoBulk d):=by
 obtain⟨xs,n,_,hx,hl,hlen,hf⟩:=DataW.trod_struct Tryz.underlying189 h;injection hx with hx _
 subst hx;rw[qM]at hl;obtain⟨c0,c1,rfl⟩:=Lu hl;obtain⟨x0,x1,rfl⟩:=Lu hlen;have f0:DataW.trod enc Tryz.prog w base spare held n 3 (List.take (Tryz.prog.cellsOf 3) (List.drop 0 [c0,c1]))=some x0:=hf 0 _ rfl;have f1:DataW.trod enc Tryz.prog w base spare held n 43 (List.take (Tryz.prog.cellsOf 43) (List.drop 1 [c0,c1]))=some x1:=hf 1 _ rfl;rw[iV]at f0;rw[qi]at f1;simp only[List.drop_zero,List.drop_succ_cons,List.take_succ_cons,List.take_zero]at f0 f1;obtain⟨z0,hz0,hx0,g0⟩:=DataW.trod_int Tryz.underlying3 f0;injection hz0 with hz0 _
 subst hz0;obtain⟨x1,p1⟩:=x1;simp only[List.map_cons,List.map_nil,Rows.uptoBulk,Rows.uptoBulkAll]at hbk|-;obtain⟨a,cap,l,rfl,hl1,hl2⟩:=open_row (w:=w) MT.cells 3 (by omega) (fun _=>rfl) (yI w) (yI.mono w) Tryz.underlying43 iO Bg (by omega) f1;refine⟨⟨z0,a,cap,l⟩,rfl,⟨hl1.1,MT.uJ hl1⟩,fun t ht=>(hl2 t ht).mono _ _ _ _ (by omega)⟩
theorem oU(fuel:Nat)(cs:List Value)(d:DataW H)(p:List MemPlace)(hbk:Rows.uptoBulk d<=1048576)(h:DataW.trod enc Tryz.prog w base spare held fuel 110 cs=some (d,p)):∃x:MB,cs=x.cells/\su w x (Rows.uptoBulk d):=by
 obtain⟨xs,n,_,hx,hl,hlen,hf⟩:=DataW.trod_struct Tryz.underlying110 h;injection hx with hx _
 subst hx;rw[qb]at hl;obtain⟨c0,c1,c2,c3,c4,c5,c6,rfl⟩:=listN7 hl;obtain⟨x0,x1,x2,x3,x4,rfl⟩:=listN5 hlen;have f0:DataW.trod enc Tryz.prog w base spare held n 42 (List.take (Tryz.prog.cellsOf 42) (List.drop 0 [c0,c1,c2,c3,c4,c5,c6]))=some x0:=hf 0 _ rfl;have f1:DataW.trod enc Tryz.prog w base spare held n 3 (List.take (Tryz.prog.cellsOf 3) (List.drop 1 [c0,c1,c2,c3,c4,c5,c6]))=some x1:=hf 1 _ rfl;have f2:DataW.trod enc Tryz.prog w base spare held n 45 (List.take (Tryz.prog.cellsOf 45) (List.drop 2 [c0,c1,c2,c3,c4,c5,c6]))=some x2:=hf 2 _ rfl;have f3:DataW.trod enc Tryz.prog w base spare held n 108 (List.take (Tryz.prog.cellsOf 108) (List.drop 5 [c0,c1,c2,c3,c4,c5,c6]))=some x3:=hf 3 _ rfl;have f4:DataW.trod enc Tryz.prog w base spare held n 49 (List.take (Tryz.prog.cellsOf 49) (List.drop 6 [c0,c1,c2,c3,c4,c5,c6]))=some x4:=hf 4 _ rfl;rw[qD]at f0;rw[iV]at f1;rw[iO]at f2;rw[vw]at f3;rw[mZ]at f4;simp only[List.drop_zero,List.drop_succ_cons,List.take_succ_cons,List.take_zero]at f0 f1 f2 f3 f4;obtain⟨z0,hz0,hx0,g0⟩:=DataW.trod_int Tryz.underlying42 f0;injection hz0 with hz0 _
 subst hz0;obtain⟨z1,hz1,hx1,g1⟩:=DataW.trod_int Tryz.underlying3 f1;injection hz1 with hz1 _
 subst hz1;obtain⟨x2,p2⟩:=x2;obtain⟨x3,p3⟩:=x3;obtain⟨x4,p4⟩:=x4;simp only[List.map_cons,List.map_nil,Rows.uptoBulk,Rows.uptoBulkAll]at hbk|-;obtain⟨t,ht,hin,hno⟩:=gP _ x2 (Nat.le_refl _) _ _ _ f2;have ht':c2= .int .i64 t.kind/\c3= .int .i64 t.num/\c4=t.sl:=by simpa[MT.cells]using ht
 obtain⟨rfl,rfl,rfl⟩:=ht';obtain⟨wa,wc,wl,rfl,hw1,hw2⟩:=open_row (w:=w) MC.cells 2 (by omega) (fun _=>rfl) (sU w) (sU.mono w) Tryz.underlying108 qM o7 (by omega) f3;obtain⟨na,nc,nl,rfl,hn1,_⟩:=open_row (w:=w) fq 1 (by omega) (fun _=>rfl) (fun _ _=>True) (fun _ _ _ _ _=>trivial) Tryz.underlying49 iV sD (by omega) f4;refine⟨⟨z0,z1,t,wa,wc,wl,na,nc,nl⟩,rfl,⟨hin,⟨hw1,fun c hc=>⟨(hw2 c hc).1,fun u hu=>((hw2 c hc).2 u hu).1⟩⟩,hn1⟩,?_,fun c hc u hu=>Nat.le_trans ((hw2 c hc).2 u hu).2 (by omega)⟩;show t.nodes<=_
 omega
theorem nQ(fuel:Nat)(cs:List Value)(d:DataW H)(p:List MemPlace)(hbk:Rows.uptoBulk d<=1048576)(h:DataW.trod enc Tryz.prog w base spare held fuel 51 cs=some (d,p)):∃x:BO,cs=x.cells/\uK w x (Rows.uptoBulk d):=by
 obtain⟨xs,n,_,hx,hl,hlen,hf⟩:=DataW.trod_struct Tryz.underlying51 h;injection hx with hx _
 subst hx;rw[oF]at hl;obtain⟨c0,c1,c2,c3,c4,c5,c6,c7,c8,c9,c10,c11,c12,c13,c14,c15,c16,rfl⟩:=NK hl;obtain⟨x0,x1,x2,x3,x4,x5,x6,x7,x8,rfl⟩:=listN9 hlen;have f0:DataW.trod enc Tryz.prog w base spare held n 3 (List.take (Tryz.prog.cellsOf 3) (List.drop 0 [c0,c1,c2,c3,c4,c5,c6,c7,c8,c9,c10,c11,c12,c13,c14,c15,c16]))=some x0:=hf 0 _ rfl;have f1:DataW.trod enc Tryz.prog w base spare held n 3 (List.take (Tryz.prog.cellsOf 3) (List.drop 1 [c0,c1,c2,c3,c4,c5,c6,c7,c8,c9,c10,c11,c12,c13,c14,c15,c16]))=some x1:=hf 1 _ rfl;have f2:DataW.trod enc Tryz.prog w base spare held n 3 (List.take (Tryz.prog.cellsOf 3) (List.drop 2 [c0,c1,c2,c3,c4,c5,c6,c7,c8,c9,c10,c11,c12,c13,c14,c15,c16]))=some x2:=hf 2 _ rfl;have f3:DataW.trod enc Tryz.prog w base spare held n 3 (List.take (Tryz.prog.cellsOf 3) (List.drop 3 [c0,c1,c2,c3,c4,c5,c6,c7,c8,c9,c10,c11,c12,c13,c14,c15,c16]))=some x3:=hf 3 _ rfl;have f4:DataW.trod enc Tryz.prog w base spare held n 41 (List.take (Tryz.prog.cellsOf 41) (List.drop 4 [c0,c1,c2,c3,c4,c5,c6,c7,c8,c9,c10,c11,c12,c13,c14,c15,c16]))=some x4:=hf 4 _ rfl;have f5:DataW.trod enc Tryz.prog w base spare held n 47 (List.take (Tryz.prog.cellsOf 47) (List.drop 5 [c0,c1,c2,c3,c4,c5,c6,c7,c8,c9,c10,c11,c12,c13,c14,c15,c16]))=some x5:=hf 5 _ rfl;have f6:DataW.trod enc Tryz.prog w base spare held n 48 (List.take (Tryz.prog.cellsOf 48) (List.drop 12 [c0,c1,c2,c3,c4,c5,c6,c7,c8,c9,c10,c11,c12,c13,c14,c15,c16]))=some x6:=hf 6 _ rfl;have f7:DataW.trod enc Tryz.prog w base spare held n 49 (List.take (Tryz.prog.cellsOf 49) (List.drop 13 [c0,c1,c2,c3,c4,c5,c6,c7,c8,c9,c10,c11,c12,c13,c14,c15,c16]))=some x7:=hf 7 _ rfl;have f8:DataW.trod enc Tryz.prog w base spare held n 45 (List.take (Tryz.prog.cellsOf 45) (List.drop 14 [c0,c1,c2,c3,c4,c5,c6,c7,c8,c9,c10,c11,c12,c13,c14,c15,c16]))=some x8:=hf 8 _ rfl;rw[iV]at f0 f1 f2 f3;rw[uf]at f4;rw[sO]at f5;rw[wo]at f6;rw[mZ]at f7;rw[iO]at f8;simp only[List.drop_zero,List.drop_succ_cons,List.take_succ_cons,List.take_zero]at f0 f1 f2 f3 f4 f5 f6 f7 f8;obtain⟨z0,hz0,hx0,g0⟩:=DataW.trod_int Tryz.underlying3 f0;injection hz0 with hz0 _
 subst hz0;obtain⟨z1,hz1,hx1,g1⟩:=DataW.trod_int Tryz.underlying3 f1;injection hz1 with hz1 _
 subst hz1;obtain⟨z2,hz2,hx2,g2⟩:=DataW.trod_int Tryz.underlying3 f2;injection hz2 with hz2 _
 subst hz2;obtain⟨z3,hz3,hx3,g3⟩:=DataW.trod_int Tryz.underlying3 f3;injection hz3 with hz3 _
 subst hz3;obtain⟨z4,hz4,hx4,g4⟩:=DataW.trod_int Tryz.underlying41 f4;injection hz4 with hz4 _
 subst hz4;obtain⟨x5,p5⟩:=x5;obtain⟨x6,p6⟩:=x6;obtain⟨x7,p7⟩:=x7;obtain⟨x8,p8⟩:=x8;simp only[List.map_cons,List.map_nil,Rows.uptoBulk,Rows.uptoBulkAll]at hbk|-;obtain⟨e,he,hein,heno,_⟩:=qm _ _ _ _ f5;obtain⟨t,ht,hin,hno⟩:=gP _ x8 (Nat.le_refl _) _ _ _ f8;obtain⟨rfl,rfl,rfl⟩:c14= .int .i64 t.kind/\c15= .int .i64 t.num/\c16=t.sl:=by simpa[MT.cells]using ht
 obtain⟨rfl,rfl,rfl,rfl,rfl,rfl,rfl⟩:c5= .int .i64 e.sync/\c6= .int .i64 e.thread/\c7= .int .i64 e.branch/\c8= .int .i64 e.flag/\c9= .int .i64 e.v.kind/\c10= .int .i64 e.v.num/\c11= .slice e.v.addr e.v.parts.length e.v.cap:=by simpa[ME.cells,MT.cells]using he
 obtain⟨ba,bc,bl,rfl,hb1,hb2⟩:=open_row (w:=w) MB.cells 7 (by omega) (fun _=>rfl) (su w) (su.mono w) Tryz.underlying48 qb oU (by omega) f6;obtain⟨na,nc,nl,rfl,hn1,_⟩:=open_row (w:=w) fq 1 (by omega) (fun _=>rfl) (fun _ _=>True) (fun _ _ _ _ _=>trivial) Tryz.underlying49 iV sD (by omega) f7;refine⟨⟨z0,z1,z2,z3,z4,e,ba,bc,bl,na,nc,nl,t⟩,rfl,⟨hein,hin,⟨hb1,fun b hb=>(hb2 b hb).1⟩,hn1⟩,?_,?_,fun b hb=>⟨Nat.le_trans (hb2 b hb).2.1 (by omega),fun c hc u hu=>Nat.le_trans ((hb2 b hb).2.2 c hc u hu) (by omega)⟩⟩
 .show e.v.nodes<=_
  omega
 .show t.nodes<=_
  omega
theorem oW{r:Reach}{b0:Nat}{v:Value}{d:DataW H}{p:List MemPlace}(hv:Value.okWide Tryz.prog w r b0 22 v)(h:DataW.Trod enc Tryz.prog w base spare held 22 v d p)(hbk:Rows.uptoBulk d<=1048576):∃(a:Option Addr) (cap:Nat) (l:List BO),v= .slice a l.length cap/\aG w a 17 l.length (l.flatMap BO.cells)/\∀x∈l,x.Mem w/\x.Big:=by
 obtain⟨a,len,cap,rfl⟩:=okWide_slice Tryz.underlying22 hv;obtain⟨fuel,hf⟩:=h;obtain⟨a',cap',l,h1,h2,h3⟩:=open_row (w:=w) BO.cells 17 (by omega) (fun _=>rfl) (uK w) (uK.mono w) Tryz.underlying22 oF nQ hbk (c:= .slice a len cap) hf;exact⟨a',cap',l,h1,h2,fun x hx=>(h3 x hx).big hbk⟩
end
end
structure pq(w:World)(c k:Nat)(x:WS)(ms:List MS):Prop where
 fair:x.Fair ms
 most:x.s.most=c
 log:x.s.L.length<=k
 knows:∀W,x.P W->Oa w W
def mr(c:Nat):Array Value:=#[.slice none 0 0,.int .i64 (c:Int),.slice none 0 0,.slice none 0 0,.slice none 0 0,.slice none 0 0]
theorem pq.next{w:World}{c k:Nat}{x x':WS}{ms ms':List MS}{Q:World->Prop}{a:BO}(h:pq w c k x ms)(hs:bq a (x.knows Q) ms x' ms'):pq w c (k+1) x' ms':=
 ⟨hs.fair,hs.most.trans h.most,by have :=h.log;have :=hs.log;have e:(x.knows Q).s=x.s:=rfl;rw[e]at this;omega,fun W hW=>h.knows W (hs.knows W hW).1⟩
theorem bq.nums{a:BO}{x x':WS}{ms ms':List MS}(h:bq a x ms x' ms'):x'.s.C.length=x'.BI.length+2*x'.cos.length+x'.sys.length/\x'.s.C.length<=x.s.most/\x.s.most<=65536:=
 ⟨h.fair.Hr,by have :=h.fair.fits;rw[h.most]at this;exact this,by have :=h.fair.most;rw[h.most]at this;exact this⟩
theorem BD.keep7{T:List Nat}{w0 w:World}{m r:List ai}{t u:ai}(h:BD T w0 w (m++(r++[t,u]))):BD T w0 w (m++[t]):=by
 have hp:(m++(r++[t,u])).Perm ((m++[t])++(r++[u])):=by
  have e:(m++[t])++(r++[u])=m++(t::(r++[u])):=by simp
  rw[e];exact List.perm_middle.append_left m
 have h2:=BD.perm hp [] h;simp only[nAq]at h2;exact BD.aF h2
theorem Mi{T:List Nat}{w0 w:World}{x:WS}{ms:List MS}{r:List ai}(y:BO)(c wb:Nat)(hwb:x.wb=wb)(hc1:1<=c)(hc2:c<=65536)(hca:cZ x ms y)(h:BD T w0 w (x.ts++r)):
  Calls Tryz.prog 14 #[.pointer (some ⟨wb,0,none⟩),.agg #[.slice none 0 0,.int .i64 (c:Int),.slice none 0 0,.slice none 0 0,.slice none 0 0,.slice none 0 0],.agg #[.int .i64 y.what,.int .i64 y.a,.int .i64 y.b,.int .i64 y.c,.int .i64 y.side,.int .i64 y.e.sync,.int .i64 y.e.thread,.int .i64 y.e.branch,.int .i64 y.e.flag,.int .i64 y.e.v.kind,.int .i64 y.e.v.num,.slice y.e.v.addr y.e.v.parts.length y.e.v.cap,.slice y.ba y.bases.length y.bc,.slice y.ca y.conds.length y.cc,.int .i64 y.v.kind,.int .i64 y.v.num,.slice y.v.addr y.v.parts.length y.v.cap]] w fun e w'=>∃(x':WS) (ms':List MS) (o:RV) (fine:Bool),e= .returned (.tuple #[.pointer (some ⟨x'.wb,0,none⟩),.agg #[.slice o.ca o.cn o.cc,.int .i64 o.most,.slice o.la o.ln o.lc,.slice o.ha o.hn o.hc,.slice o.oa o.on o.oc,.slice o.sa o.sn o.sc],.bool fine])/\bq y x ms x' ms'/\BD T w0 w' (x'.ts++r):=by
 subst hwb;refine(h.does (act_w x ms y c hc1 hc2 hca)).mono ?_;rintro e w' ⟨m2,⟨p,oo,fine,rfl,x',ms',hst,rfl,rfl⟩,hL⟩;exact⟨x',ms',oo,fine,rfl,hst,hL⟩
theorem qg(w:World)(cells:Int)(a:Option Addr)(cap:Nat)(l:List BO)(ha:aG w a 17 l.length (l.flatMap BO.cells))(hin:∀x∈l,x.Mem w/\x.Big)(hS:bJ w):
  Calls Tryz.prog 3 #[.int .i64 cells,.slice a l.length cap] w fun e w'=>e= .returned (.bool true)/\Touch [] w w':=by
 have BG:=hdq ((BD.old0 w).weaken (Q:=Oa w) 0 rfl (fun W ho=>⟨ho,hS.qO ho⟩));simp only[sZq]at BG;generalize hTT:List.range w.heap.size=T at BG;clear hTT hS;have HF:=hdq (few16 w a cap l 60 ha hin);have HA:=hdq ha;have HI:=hdq hin;clear ha hin;go_enter Tryz.func3,Tryz.ntmps3
 go_wp2_with fail
 refine HF.out.mono ?_;rintro e w1 ⟨fw,rfl,hfw,ht⟩;have BB:=hdq (BG.out.touch ht);have HFW:=hdq hfw;clear ht hfw BG HF;cases fw with
 |false=>
  go_wp2_with fail
  refine(pu _ (BB.out.still 0 rfl).2).mono ?_;rintro e w9 ⟨rfl,ht⟩;have HE:=hdq (BB.out.touch ht);clear ht;go_wp2;go_ret
  exact⟨rfl,HE.out.lg (HE.out.still 0 rfl).1⟩
 |true=>
  have HF60:=hdq (HFW.out.1 rfl).1;clear HFW;by_cases h1:cells<1
  .go_wp2_with fail
   refine(pu _ (BB.out.still 0 rfl).2).mono ?_;rintro e w9 ⟨rfl,ht⟩;have HE:=hdq (BB.out.touch ht);clear ht;go_wp2;go_ret
   exact⟨rfl,HE.out.lg (HE.out.still 0 rfl).1⟩
  by_cases h2:65536<cells
  .go_wp2_with fail
   refine(pu _ (BB.out.still 0 rfl).2).mono ?_;rintro e w9 ⟨rfl,ht⟩;have HE:=hdq (BB.out.touch ht);clear ht;go_wp2;go_ret
   exact⟨rfl,HE.out.lg (HE.out.still 0 rfl).1⟩
  obtain⟨c,rfl⟩:∃c:Nat,cells=(c:Int):=⟨cells.toNat,by omega⟩;have hc1:1<=c:=by omega
  have hc2:c<=65536:=by omega
  obtain⟨T',hF',hb'⟩:=BD.aN (m:=[aA (Oa w)]) (r:=[]) BB.out;have LW:=hdq (OU T' w1 (Oa w) c hc1 hc2 hF');have HB:=hdq hb';clear hF' hb';go_wp2_with fail
  refine LW.out.mono ?_;rintro e w2 ⟨wb,ga,rfl,hL⟩;have HL2:=hdq (HB.out _ _ hL);clear hL HB LW BB h1 h2;rw[List.append_nil]at HL2;go_wp2_with fail
  refine(bQ _ _).mono ?_;rintro e wn ⟨rfl,rfl⟩;go_wp2_with fail
  refine(Oo c _ hc1 hc2).mono ?_;rintro e w3 ⟨rfl,ht⟩;have BF:Hid (BD T w w3 ((WS.empty wb ga c (Oa w)).ts++[])):=by rw[List.append_nil];exact HL2.out.touch ht
  clear ht HL2;go_wp2_with fail
  refine ay ?_;intro w4 hw4;have BH:=hdq (BF.out.av hw4);simp only[nAq]at BH;generalize EF:w3.heap.size=b7 at BH|-;clear hw4 EF BF;go_loopw [5,9] (fun p i wr=>∃(k:Nat) (x:WS) (ms:List MS),k<=l.length/\p= .pointer (some ⟨x.wb,0,none⟩)/\i= .int .i64 (k:Int)/\Hid (pq w c k x ms)/\Hid (BD T w wr (x.ts++[box b7 38 (mr c)]))) (fun _ i _=>l.length-(intOf i).toNat)
  case atStart=>exact⟨0,WS.empty wb ga c (Oa w),[],Nat.zero_le _,rfl,rfl,⟨⟨⟨fun W h=>h.2,fun W _=>⟨fun c hc=>(List.not_mem_nil hc).elim,fun c hc=>(List.not_mem_nil hc).elim⟩,rfl,fun W _ m hm=>(List.not_mem_nil hm).elim,fun n hn=>(Nat.not_lt_zero _ hn).elim,fun n hn=>(Nat.not_lt_zero _ hn).elim,Nat.zero_le _,Nat.zero_le _,Nat.zero_le _⟩,rfl,Nat.zero_le _,hc2⟩,rfl,Nat.le_refl _,fun W h=>h⟩,BH⟩
  case round=>
   clear BH;obtain⟨k,x,ms,hk,rfl,rfl,HH,HK⟩:=hrel;have hk0:(0:Int)<=(k:Int):=by omega
   have hk60:l.length<=60:=by have :=HF60.out;omega
   by_cases hlt:k<l.length
   .have hlt':(k:Int)<(l.length:Int):=by omega
    have HO:=hdq (HH.out.knows _ (HK.out.still 2 rfl)).1;obtain⟨b,o,hba,hb,hc⟩:=aG.at (f:=BO.cells) (fun _=>rfl) (HA.out.old HO.out) k hlt;have EI:Hid (∀W,Gi w W->l[k].Mem W):=fun W hW=>(HI.out _ (List.getElem_mem hlt)).1.old hW;have Oc:=hdq (HI.out _ (List.getElem_mem hlt)).2;obtain⟨y,hy⟩:∃y,l[k]=y:=⟨_,rfl⟩;rw[hy]at EI Oc;have HCE:Hid (∀j v,y.cells[j]? =some v->wr.cell? ⟨b,o+k*17+j,none⟩=some v):=fun j v hv=>by
     have hj:j<17:=(List.getElem?_eq_some_iff.1 hv).1;rw[hc j hj,hy];exact hv
    have FD:=hdq hba;rw[hba];clear hy hc hba;have LU:=hdq (HH.out.fair.good);go_wp2_with (refine lK rfl 51 _ rfl b (o+k*17) rfl y.cells _ HCE.out Tryz.underlying51 rfl (by kernel_rfl) ?_;simp only[BO.cells,List.toArray])
    refine ah ?_;intro v1 hv1;have HV1:=hdq (HK.out.av hv1);simp only[nAq,cAq]at HV1;generalize hb10:wr.heap.size=b10 at HV1|-;clear hv1 hb10 HK hb HO HCE;refine(HV1.out.copyP LU.out).mono ?_;rintro e v2 ⟨z,ms1,Q,rfl,hpl,hzs,hzi,hL⟩;have HV2:=hdq hL;have HZ:Hid (ms1.map MS.plain=ms.map MS.plain/\z.sys=ms1.map MS.raw/\∀W,(x.knows Q).P W->∀m∈ms1,m.In W):=⟨hpl,hzs,hzi⟩;clear hL hpl hzs hzi HV1 LU;go_wp2_with fail
    refine(HV2.out.wQ).mono ?_;rintro e v3 ⟨rfl,ht⟩;have HV3:=hdq (HV2.out.touch ht);clear ht HV2;go_wp2_with fail
    refine(HV3.out.yV).mono ?_;rintro e v4 ⟨rfl,ht⟩;have HV4:=hdq (HV3.out.touch ht);clear ht HV3;have hi7:(z.rest++[box b7 38 (mr c),box b10 51 #[.int .i64 y.what,.int .i64 y.a,.int .i64 y.b,.int .i64 y.c,.int .i64 y.side,.int .i64 y.e.sync,.int .i64 y.e.thread,.int .i64 y.e.branch,.int .i64 y.e.flag,.int .i64 y.e.v.kind,.int .i64 y.e.v.num,.slice y.e.v.addr y.e.v.parts.length y.e.v.cap,.slice y.ba y.bases.length y.bc,.slice y.ca y.conds.length y.cc,.int .i64 y.v.kind,.int .i64 y.v.num,.slice y.v.addr y.v.parts.length y.v.cap]])[z.rest.length]? =some (box b7 38 (mr c)):=by
     rw[List.getElem?_append_right (Nat.le_refl _),Nat.sub_self];rfl
    have Jf:(z.rest++[box b7 38 (mr c),box b10 51 #[.int .i64 y.what,.int .i64 y.a,.int .i64 y.b,.int .i64 y.c,.int .i64 y.side,.int .i64 y.e.sync,.int .i64 y.e.thread,.int .i64 y.e.branch,.int .i64 y.e.flag,.int .i64 y.e.v.kind,.int .i64 y.e.v.num,.slice y.e.v.addr y.e.v.parts.length y.e.v.cap,.slice y.ba y.bases.length y.bc,.slice y.ca y.conds.length y.cc,.int .i64 y.v.kind,.int .i64 y.v.num,.slice y.v.addr y.v.parts.length y.v.cap]])[z.rest.length+1]? =some (box b10 51 #[.int .i64 y.what,.int .i64 y.a,.int .i64 y.b,.int .i64 y.c,.int .i64 y.side,.int .i64 y.e.sync,.int .i64 y.e.thread,.int .i64 y.e.branch,.int .i64 y.e.flag,.int .i64 y.e.v.kind,.int .i64 y.e.v.num,.slice y.e.v.addr y.e.v.parts.length y.e.v.cap,.slice y.ba y.bases.length y.bc,.slice y.ca y.conds.length y.cc,.int .i64 y.v.kind,.int .i64 y.v.num,.slice y.v.addr y.v.parts.length y.v.cap]):=by
     rw[List.getElem?_append_right (Nat.le_add_right _ _),Nat.add_sub_cancel_left];rfl
    have HI7:=hdq hi7;have HI10:=hdq Jf;clear hi7 Jf;obtain⟨p0,p1,p2,p3,p4,p5,_,zp,_,_⟩:=HV4.out.BJ _ HI7.out;have Gz:=HV4.out.aC _ HI10.out;have HC10:Hid (∀j v,y.cells[j]? =some v->v4.cell? ⟨b10,0+j,none⟩=some v):=fun j v hv=>by
     rw[Nat.zero_add,Gz.cell j];simpa[BO.cells]using hv
    have zy:=Gz.lt;clear Gz;have HCA:Hid (cZ (x.knows Q) ms y):=⟨(bq.knew (a:=y) Q HH.out.fair).fair,fun W hW=>EI.out W (HH.out.knows W hW.1).1,by have h5:=HH.out.log;show x.s.L.length<1000000;omega,Oc.out.2.2⟩;go_wp2_with (refine lK rfl 51 _ rfl b10 0 rfl y.cells _ HC10.out Tryz.underlying51 rfl (by kernel_rfl) ?_;simp only[BO.cells,List.toArray])
    refine(Mi (x:=x.knows Q) y c x.wb rfl hc1 hc2 HCA.out HV4.out).mono ?_;rintro e v5 ⟨x',ms',oo,fine,rfl,hst,hL⟩;have HST:=hdq hst;have HV5:=hdq hL;clear hL hst HV4 p0 p1 p2 p3 p4 p5 zp HC10 zy HCA EI Oc;go_wp2_with fail
    refine(HV5.out.yV).mono ?_;rintro e v6 ⟨rfl,ht⟩;have HV6:=hdq (HV5.out.touch ht);clear ht HV5;go_wp2_with fail
    refine(HV6.out.wQ).mono ?_;rintro e v7 ⟨rfl,ht⟩;have HV7:=hdq (HV6.out.touch ht);clear ht HV6;have HN:=hdq HST.out.nums;have HLG:=hdq HST.out.log;have hl60:=HH.out.log;have hmo:=HH.out.most;have Gz:=HV7.out.aC _ HI10.out;have y0:v7.cell? ⟨b10,0,none⟩=some (.int .i64 y.what):=Gz.cell 0;have zy:=Gz.lt;clear Gz;have HSY:Hid (x.sys.length=ms.length):=by unfold Hid;rw[HH.out.fair.good.sys];simp
    have HX2:=hdq (HH.out.next HST.out);have HSS:=hdq HST.out.sys;rw[show(x.knows Q).s=x.s from rfl,show(x.knows Q).sys=x.sys from rfl];rw[HSY.out];have hms:ms.length<=100000:=by have h5:=HH.out.fair.good.l3;rw[HSY.out]at h5;exact h5
    clear HSY;have HB2:=hdq HN.out;(try rw[show(x.knows Q).s=x.s from rfl]at HB2)
    (try rw[show(x.knows Q).s=x.s from rfl]at HLG)
    clear HN;unfold qB at HLG;obtain⟨na,hna⟩:∃n,x'.BI.length=n:=⟨_,rfl⟩;obtain⟨nb,hnb⟩:∃n,x'.cos.length=n:=⟨_,rfl⟩;obtain⟨nc,hnc⟩:∃n,x'.sys.length=n:=⟨_,rfl⟩;obtain⟨nl,hnl⟩:∃n,x.s.L.length=n:=⟨_,rfl⟩;obtain⟨nm,hnm⟩:∃n,x'.s.L.length=n:=⟨_,rfl⟩;rw[HB2.out.1];rw[hna,hnb,hnc]at HB2|-;rw[hnl,hnm]at HLG;rw[hnl]at hl60|-;rw[hnm];have hsum:na+2*nb+nc<=c/\c<=65536:=by have :=HB2.out;rw[hmo]at this;omega
    clear HB2 hna hnb hnc hnl hnm hmo;have k1:IntKind.i64.wrap (2*(nb:Int))=2*(nb:Int):=IntWalk.i64_in _ (by omega);have k2:IntKind.i64.wrap ((na:Int)+2*(nb:Int))=(na:Int)+2*(nb:Int):=IntWalk.i64_in _ (by omega);have k3:IntKind.i64.wrap ((na:Int)+2*(nb:Int)+(nc:Int))=(na:Int)+2*(nb:Int)+(nc:Int):=IntWalk.i64_in _ (by omega);have k4:(((na+2*nb+nc:Nat)):Int)=(na:Int)+2*(nb:Int)+(nc:Int):=by omega
    rw[k4];have k5:decide ((c:Int)<(na:Int)+2*(nb:Int)+(nc:Int))=false:=decide_eq_false (by omega);have k5':¬((c:Int)<(na:Int)+2*(nb:Int)+(nc:Int)):=by omega
    have k6:IntKind.u64.wrap ((nl:Int)+1)=(nl:Int)+1:=by simp[IntKind.wrap,IntKind.bits];omega
    have HV8:Hid (BD T w v7 ((x'.fJ x'.P).ts++(z.rest++[box b7 38 (mr c),box b10 51 #[.int .i64 y.what,.int .i64 y.a,.int .i64 y.b,.int .i64 y.c,.int .i64 y.side,.int .i64 y.e.sync,.int .i64 y.e.thread,.int .i64 y.e.branch,.int .i64 y.e.flag,.int .i64 y.e.v.kind,.int .i64 y.e.v.num,.slice y.e.v.addr y.e.v.parts.length y.e.v.cap,.slice y.ba y.bases.length y.bc,.slice y.ca y.conds.length y.cc,.int .i64 y.v.kind,.int .i64 y.v.num,.slice y.v.addr y.v.parts.length y.v.cap]]))):=HV7;clear HV7;go_upto_region 17 with fail
    go_cut [157] from 94 to 157 (fun t w'=>t= .bool false/\Hid (BD T w w' ((x'.fJ x'.P).ts++(z.rest++[box b7 38 (mr c),box b10 51 #[.int .i64 y.what,.int .i64 y.a,.int .i64 y.b,.int .i64 y.c,.int .i64 y.side,.int .i64 y.e.sync,.int .i64 y.e.thread,.int .i64 y.e.branch,.int .i64 y.e.flag,.int .i64 y.e.v.kind,.int .i64 y.e.v.num,.slice y.e.v.addr y.e.v.parts.length y.e.v.cap,.slice y.ba y.bases.length y.bc,.slice y.ca y.conds.length y.cc,.int .i64 y.v.kind,.int .i64 y.v.num,.slice y.v.addr y.v.parts.length y.v.cap]]))))
    case first =>
     by_cases hnn:nm=nl
     .subst hnn
      have k7:¬((nm:Int)+1<(nm:Int)):=by omega
      go_wp2_with fail
      go_meet
      case rel=>exact⟨rfl,HV8⟩
     .obtain⟨hnm,hm1,hm2,hm3,hm4,hm5,hm6⟩:=(HLG.out.resolve_left hnn)
      have k7:¬((nm:Int)<(nl:Int)):=by omega
      have k8:¬((nl:Int)+1<(nm:Int)):=by omega
      have k9:¬((nm:Int)=(nl:Int)):=by omega
      have k10:((nm:Int)==(nl:Int))=false:=by simpa using k9
      have m1:¬(y.what<4):=by omega
      have m2:¬(21<y.what):=by omega
      have m4:¬(y.what=13):=by omega
      have m5:¬(y.what=14):=by omega
      have m6:¬(y.what=20):=by omega
      clear hnm hnn;by_cases h6:6<=y.what
      .have m3:¬(y.what<=8):=by omega
       clear hm1 hm2 hm3 hm4 hm5 hm6;go_wp2_with fail
       go_meet
       case rel=>exact⟨by simp[m4,m5,m6],HV8⟩
      .clear hm1 hm2 hm3 hm4 hm5 hm6
       go_wp2_with fail
       go_meet
       case rel=>exact⟨by simp[m4,m5,m6],HV8⟩
    case rest=>
     obtain⟨rfl,HV9⟩:=hcut;clear HV8 y0 zy k1 k2 k3 k4 k5 k5' k6 HLG hsum hl60;go_wp2_with fail
     go_loopw [22] (fun q wr2=>∃(j:Nat) (P:World->Prop),q= .int .i64 (j:Int)/\j<=ms.length/\Hid (∀W,P W->x'.P W)/\Hid (BD T w wr2 ((x'.fJ P).ts++(z.rest++[box b7 38 (mr c),box b10 51 #[.int .i64 y.what,.int .i64 y.a,.int .i64 y.b,.int .i64 y.c,.int .i64 y.side,.int .i64 y.e.sync,.int .i64 y.e.thread,.int .i64 y.e.branch,.int .i64 y.e.flag,.int .i64 y.e.v.kind,.int .i64 y.e.v.num,.slice y.e.v.addr y.e.v.parts.length y.e.v.cap,.slice y.ba y.bases.length y.bc,.slice y.ca y.conds.length y.cc,.int .i64 y.v.kind,.int .i64 y.v.num,.slice y.v.addr y.v.parts.length y.v.cap]])))) (fun q _=>ms.length-(intOf q).toNat)
     case atStart=>exact⟨0,x'.P,rfl,Nat.zero_le _,fun W h=>h,HV9⟩
     case round=>
      clear HV9;obtain⟨j,P,rfl,hj,HP,HJ⟩:=hrel;have hj0:(0:Int)<=(j:Int):=by omega
      by_cases hjl:j<ms.length
      .have Cc:(j:Int)<(ms.length:Int):=by omega
       have hz:j<ms1.length:=by have :=congrArg List.length HZ.out.1;simp at this;omega
       have HSM:Hid (ms1[j].plain=ms[j].plain):=by
        have :=congrArg (fun t=>t[j]?) HZ.out.1;simp only[List.getElem?_map,List.getElem?_eq_getElem hz,List.getElem?_eq_getElem hjl]at this;simpa[Hid]using this
       obtain⟨hx,hsame⟩:=HSS.out j hjl;have HSA:=hdq hsame;clear hsame;go_wp2_with fail
       refine(yT (x:=z) (P:=P) j hz HJ.out.OT HZ.out.2.1 (fun W hW m hm=>HZ.out.2.2 W (HST.out.knows W (HP.out W hW)) m hm)).mono ?_;rintro e u1 ⟨s1,P1,rfl,hs1,hP1,hL⟩;have HU1:=hdq hL;have HS1:=hdq hs1;have HP1:=hdq hP1;clear hL hs1 hP1 HJ;simp only[bL.eG,MS.raw];go_wp2_with fail
       refine ah ?_;intro u2 hu2;have HU2:=hdq (HU1.out.av hu2);generalize hb23:u1.heap.size=FN at HU2|-;clear hu2 hb23 HU1;have HU3:Hid (BD T w u2 ((x'.fJ P1).ts++(z.rest++[box b7 38 (mr c),box b10 51 #[.int .i64 y.what,.int .i64 y.a,.int .i64 y.b,.int .i64 y.c,.int .i64 y.side,.int .i64 y.e.sync,.int .i64 y.e.thread,.int .i64 y.e.branch,.int .i64 y.e.flag,.int .i64 y.e.v.kind,.int .i64 y.e.v.num,.slice y.e.v.addr y.e.v.parts.length y.e.v.cap,.slice y.ba y.bases.length y.bc,.slice y.ca y.conds.length y.cc,.int .i64 y.v.kind,.int .i64 y.v.num,.slice y.v.addr y.v.parts.length y.v.cap],box FN 61 #[.int .i64 s1.thread,.slice s1.ba s1.bases.length s1.bc,.slice s1.ca s1.conds.length s1.cc,.int .i64 s1.flag,.bool s1.parked,.bool s1.done,.int .i64 s1.branch,.int .i64 s1.v.kind,.int .i64 s1.v.num,.slice s1.v.addr s1.v.parts.length s1.v.cap,.int .i64 s1.partner]]))):=by
        have h:=HU2.out;rw[List.append_assoc]at h;exact h.OT
       clear HU2;refine(yT (x:=x') (P:=P1) j hx HU3.out HST.out.fair.good.sys (fun W hW m hm=>HST.out.fair.good.cont W (HP.out W (HP1.out W hW).1) m hm)).mono ?_;rintro e u3 ⟨s2,P2,rfl,hs2,hP2,hL⟩;have HU4:=hdq hL;have HS2:=hdq hs2;have Ht:=hdq hP2;clear hL hs2 hP2 HU3;simp only[bL.eG,MS.raw];go_upto_region 24 with fail
       refine ay ?_;intro u4 hu4;have h0:=HU4.out.av hu4;generalize hb25:u3.heap.size=FX at h0|-;have HU5:Hid (BD T w u4 ((x'.fJ P2).ts++(z.rest++[box b7 38 (mr c),box b10 51 #[.int .i64 y.what,.int .i64 y.a,.int .i64 y.b,.int .i64 y.c,.int .i64 y.side,.int .i64 y.e.sync,.int .i64 y.e.thread,.int .i64 y.e.branch,.int .i64 y.e.flag,.int .i64 y.e.v.kind,.int .i64 y.e.v.num,.slice y.e.v.addr y.e.v.parts.length y.e.v.cap,.slice y.ba y.bases.length y.bc,.slice y.ca y.conds.length y.cc,.int .i64 y.v.kind,.int .i64 y.v.num,.slice y.v.addr y.v.parts.length y.v.cap],box FN 61 #[.int .i64 s1.thread,.slice s1.ba s1.bases.length s1.bc,.slice s1.ca s1.conds.length s1.cc,.int .i64 s1.flag,.bool s1.parked,.bool s1.done,.int .i64 s1.branch,.int .i64 s1.v.kind,.int .i64 s1.v.num,.slice s1.v.addr s1.v.parts.length s1.v.cap,.int .i64 s1.partner],box FX 61 #[.int .i64 s2.thread,.slice s2.ba s2.bases.length s2.bc,.slice s2.ca s2.conds.length s2.cc,.int .i64 s2.flag,.bool s2.parked,.bool s2.done,.int .i64 s2.branch,.int .i64 s2.v.kind,.int .i64 s2.v.num,.slice s2.v.addr s2.v.parts.length s2.v.cap,.int .i64 s2.partner]]))):=by
        rw[List.append_assoc]at h0;exact h0
       clear h0 hu4 hb25 HU4;have Jf:(z.rest++[box b7 38 (mr c),box b10 51 #[.int .i64 y.what,.int .i64 y.a,.int .i64 y.b,.int .i64 y.c,.int .i64 y.side,.int .i64 y.e.sync,.int .i64 y.e.thread,.int .i64 y.e.branch,.int .i64 y.e.flag,.int .i64 y.e.v.kind,.int .i64 y.e.v.num,.slice y.e.v.addr y.e.v.parts.length y.e.v.cap,.slice y.ba y.bases.length y.bc,.slice y.ca y.conds.length y.cc,.int .i64 y.v.kind,.int .i64 y.v.num,.slice y.v.addr y.v.parts.length y.v.cap],box FN 61 #[.int .i64 s1.thread,.slice s1.ba s1.bases.length s1.bc,.slice s1.ca s1.conds.length s1.cc,.int .i64 s1.flag,.bool s1.parked,.bool s1.done,.int .i64 s1.branch,.int .i64 s1.v.kind,.int .i64 s1.v.num,.slice s1.v.addr s1.v.parts.length s1.v.cap,.int .i64 s1.partner],box FX 61 #[.int .i64 s2.thread,.slice s2.ba s2.bases.length s2.bc,.slice s2.ca s2.conds.length s2.cc,.int .i64 s2.flag,.bool s2.parked,.bool s2.done,.int .i64 s2.branch,.int .i64 s2.v.kind,.int .i64 s2.v.num,.slice s2.v.addr s2.v.parts.length s2.v.cap,.int .i64 s2.partner]])[z.rest.length+1]? =some (box b10 51 #[.int .i64 y.what,.int .i64 y.a,.int .i64 y.b,.int .i64 y.c,.int .i64 y.side,.int .i64 y.e.sync,.int .i64 y.e.thread,.int .i64 y.e.branch,.int .i64 y.e.flag,.int .i64 y.e.v.kind,.int .i64 y.e.v.num,.slice y.e.v.addr y.e.v.parts.length y.e.v.cap,.slice y.ba y.bases.length y.bc,.slice y.ca y.conds.length y.cc,.int .i64 y.v.kind,.int .i64 y.v.num,.slice y.v.addr y.v.parts.length y.v.cap]):=by rw[List.getElem?_append_right (Nat.le_add_right _ _),Nat.add_sub_cancel_left];rfl
       have hi23:(z.rest++[box b7 38 (mr c),box b10 51 #[.int .i64 y.what,.int .i64 y.a,.int .i64 y.b,.int .i64 y.c,.int .i64 y.side,.int .i64 y.e.sync,.int .i64 y.e.thread,.int .i64 y.e.branch,.int .i64 y.e.flag,.int .i64 y.e.v.kind,.int .i64 y.e.v.num,.slice y.e.v.addr y.e.v.parts.length y.e.v.cap,.slice y.ba y.bases.length y.bc,.slice y.ca y.conds.length y.cc,.int .i64 y.v.kind,.int .i64 y.v.num,.slice y.v.addr y.v.parts.length y.v.cap],box FN 61 #[.int .i64 s1.thread,.slice s1.ba s1.bases.length s1.bc,.slice s1.ca s1.conds.length s1.cc,.int .i64 s1.flag,.bool s1.parked,.bool s1.done,.int .i64 s1.branch,.int .i64 s1.v.kind,.int .i64 s1.v.num,.slice s1.v.addr s1.v.parts.length s1.v.cap,.int .i64 s1.partner],box FX 61 #[.int .i64 s2.thread,.slice s2.ba s2.bases.length s2.bc,.slice s2.ca s2.conds.length s2.cc,.int .i64 s2.flag,.bool s2.parked,.bool s2.done,.int .i64 s2.branch,.int .i64 s2.v.kind,.int .i64 s2.v.num,.slice s2.v.addr s2.v.parts.length s2.v.cap,.int .i64 s2.partner]])[z.rest.length+2]? =some (box FN 61 #[.int .i64 s1.thread,.slice s1.ba s1.bases.length s1.bc,.slice s1.ca s1.conds.length s1.cc,.int .i64 s1.flag,.bool s1.parked,.bool s1.done,.int .i64 s1.branch,.int .i64 s1.v.kind,.int .i64 s1.v.num,.slice s1.v.addr s1.v.parts.length s1.v.cap,.int .i64 s1.partner]):=by rw[List.getElem?_append_right (Nat.le_add_right _ _),Nat.add_sub_cancel_left];rfl
       have hi25:(z.rest++[box b7 38 (mr c),box b10 51 #[.int .i64 y.what,.int .i64 y.a,.int .i64 y.b,.int .i64 y.c,.int .i64 y.side,.int .i64 y.e.sync,.int .i64 y.e.thread,.int .i64 y.e.branch,.int .i64 y.e.flag,.int .i64 y.e.v.kind,.int .i64 y.e.v.num,.slice y.e.v.addr y.e.v.parts.length y.e.v.cap,.slice y.ba y.bases.length y.bc,.slice y.ca y.conds.length y.cc,.int .i64 y.v.kind,.int .i64 y.v.num,.slice y.v.addr y.v.parts.length y.v.cap],box FN 61 #[.int .i64 s1.thread,.slice s1.ba s1.bases.length s1.bc,.slice s1.ca s1.conds.length s1.cc,.int .i64 s1.flag,.bool s1.parked,.bool s1.done,.int .i64 s1.branch,.int .i64 s1.v.kind,.int .i64 s1.v.num,.slice s1.v.addr s1.v.parts.length s1.v.cap,.int .i64 s1.partner],box FX 61 #[.int .i64 s2.thread,.slice s2.ba s2.bases.length s2.bc,.slice s2.ca s2.conds.length s2.cc,.int .i64 s2.flag,.bool s2.parked,.bool s2.done,.int .i64 s2.branch,.int .i64 s2.v.kind,.int .i64 s2.v.num,.slice s2.v.addr s2.v.parts.length s2.v.cap,.int .i64 s2.partner]])[z.rest.length+3]? =some (box FX 61 #[.int .i64 s2.thread,.slice s2.ba s2.bases.length s2.bc,.slice s2.ca s2.conds.length s2.cc,.int .i64 s2.flag,.bool s2.parked,.bool s2.done,.int .i64 s2.branch,.int .i64 s2.v.kind,.int .i64 s2.v.num,.slice s2.v.addr s2.v.parts.length s2.v.cap,.int .i64 s2.partner]):=by rw[List.getElem?_append_right (Nat.le_add_right _ _),Nat.add_sub_cancel_left];rfl
       have hqe:=HU5.out.aC _ hi23;have hqg:=HU5.out.aC _ hi25;have e0:u4.cell? ⟨FN,0,none⟩=some (.int .i64 s1.thread):=hqe.cell 0;have e1:u4.cell? ⟨FN,1,none⟩=some (.slice s1.ba s1.bases.length s1.bc):=hqe.cell 1;have e2:u4.cell? ⟨FN,2,none⟩=some (.slice s1.ca s1.conds.length s1.cc):=hqe.cell 2;have e3:u4.cell? ⟨FN,3,none⟩=some (.int .i64 s1.flag):=hqe.cell 3;have e4:u4.cell? ⟨FN,4,none⟩=some (.bool s1.parked):=hqe.cell 4;have e5:u4.cell? ⟨FN,5,none⟩=some (.bool s1.done):=hqe.cell 5;have e6:u4.cell? ⟨FN,6,none⟩=some (.int .i64 s1.branch):=hqe.cell 6;have e7:u4.cell? ⟨FN,7,none⟩=some (.int .i64 s1.v.kind):=hqe.cell 7;have e8:u4.cell? ⟨FN,8,none⟩=some (.int .i64 s1.v.num):=hqe.cell 8;have e9:u4.cell? ⟨FN,9,none⟩=some (.slice s1.v.addr s1.v.parts.length s1.v.cap):=hqe.cell 9;have e10:u4.cell? ⟨FN,10,none⟩=some (.int .i64 s1.partner):=hqe.cell 10;have g0:u4.cell? ⟨FX,0,none⟩=some (.int .i64 s2.thread):=hqg.cell 0;have g1:u4.cell? ⟨FX,1,none⟩=some (.slice s2.ba s2.bases.length s2.bc):=hqg.cell 1;have g2:u4.cell? ⟨FX,2,none⟩=some (.slice s2.ca s2.conds.length s2.cc):=hqg.cell 2;have g3:u4.cell? ⟨FX,3,none⟩=some (.int .i64 s2.flag):=hqg.cell 3;have g4:u4.cell? ⟨FX,4,none⟩=some (.bool s2.parked):=hqg.cell 4;have g5:u4.cell? ⟨FX,5,none⟩=some (.bool s2.done):=hqg.cell 5;have g6:u4.cell? ⟨FX,6,none⟩=some (.int .i64 s2.branch):=hqg.cell 6;have g7:u4.cell? ⟨FX,7,none⟩=some (.int .i64 s2.v.kind):=hqg.cell 7;have g8:u4.cell? ⟨FX,8,none⟩=some (.int .i64 s2.v.num):=hqg.cell 8;have g9:u4.cell? ⟨FX,9,none⟩=some (.slice s2.v.addr s2.v.parts.length s2.v.cap):=hqg.cell 9;have g10:u4.cell? ⟨FX,10,none⟩=some (.int .i64 s2.partner):=hqg.cell 10;have ze:=hqe.lt;have zg:=hqg.lt;have HSE:=hdq (Bf s1 s2 u4 (HP1.out _ (Ht.out _ (HU5.out.still 2 rfl)).1).2 (Ht.out _ (HU5.out.still 2 rfl)).2);clear hqe hqg;have HI:=hdq Jf;clear Jf hi23 hi25;go_wp2_with fail
       refine HSE.out.mono ?_;rintro e u5 ⟨cc,rfl,hcc,ht⟩;have HU6:=hdq (HU5.out.touch ht);have D6:=hdq hcc;clear ht hcc HU5 HSE e0 g0 e1 g1 e2 g2 e3 g3 e4 g4 e5 g5 e6 g6 e7 g7 e8 g8 e9 g9 e10 g10 ze zg;have hqy:=HU6.out.aC _ HI.out;have y0:u5.cell? ⟨b10,0,none⟩=some (.int .i64 y.what):=hqy.cell 0;have y1:u5.cell? ⟨b10,1,none⟩=some (.int .i64 y.a):=hqy.cell 1;have zy:=hqy.lt;clear hqy;have HW:Hid (BD T w u5 ((x'.fJ P2).ts++(z.rest++[box b7 38 (mr c),box b10 51 #[.int .i64 y.what,.int .i64 y.a,.int .i64 y.b,.int .i64 y.c,.int .i64 y.side,.int .i64 y.e.sync,.int .i64 y.e.thread,.int .i64 y.e.branch,.int .i64 y.e.flag,.int .i64 y.e.v.kind,.int .i64 y.e.v.num,.slice y.e.v.addr y.e.v.parts.length y.e.v.cap,.slice y.ba y.bases.length y.bc,.slice y.ca y.conds.length y.cc,.int .i64 y.v.kind,.int .i64 y.v.num,.slice y.v.addr y.v.parts.length y.v.cap]]))):=by
        have h:=HU6.out;have e:(x'.fJ P2).ts++(z.rest++[box b7 38 (mr c),box b10 51 #[.int .i64 y.what,.int .i64 y.a,.int .i64 y.b,.int .i64 y.c,.int .i64 y.side,.int .i64 y.e.sync,.int .i64 y.e.thread,.int .i64 y.e.branch,.int .i64 y.e.flag,.int .i64 y.e.v.kind,.int .i64 y.e.v.num,.slice y.e.v.addr y.e.v.parts.length y.e.v.cap,.slice y.ba y.bases.length y.bc,.slice y.ca y.conds.length y.cc,.int .i64 y.v.kind,.int .i64 y.v.num,.slice y.v.addr y.v.parts.length y.v.cap],box FN 61 #[.int .i64 s1.thread,.slice s1.ba s1.bases.length s1.bc,.slice s1.ca s1.conds.length s1.cc,.int .i64 s1.flag,.bool s1.parked,.bool s1.done,.int .i64 s1.branch,.int .i64 s1.v.kind,.int .i64 s1.v.num,.slice s1.v.addr s1.v.parts.length s1.v.cap,.int .i64 s1.partner],box FX 61 #[.int .i64 s2.thread,.slice s2.ba s2.bases.length s2.bc,.slice s2.ca s2.conds.length s2.cc,.int .i64 s2.flag,.bool s2.parked,.bool s2.done,.int .i64 s2.branch,.int .i64 s2.v.kind,.int .i64 s2.v.num,.slice s2.v.addr s2.v.parts.length s2.v.cap,.int .i64 s2.partner]])=((x'.fJ P2).ts++(z.rest++[box b7 38 (mr c),box b10 51 #[.int .i64 y.what,.int .i64 y.a,.int .i64 y.b,.int .i64 y.c,.int .i64 y.side,.int .i64 y.e.sync,.int .i64 y.e.thread,.int .i64 y.e.branch,.int .i64 y.e.flag,.int .i64 y.e.v.kind,.int .i64 y.e.v.num,.slice y.e.v.addr y.e.v.parts.length y.e.v.cap,.slice y.ba y.bases.length y.bc,.slice y.ca y.conds.length y.cc,.int .i64 y.v.kind,.int .i64 y.v.num,.slice y.v.addr y.v.parts.length y.v.cap]]))++[box FN 61 #[.int .i64 s1.thread,.slice s1.ba s1.bases.length s1.bc,.slice s1.ca s1.conds.length s1.cc,.int .i64 s1.flag,.bool s1.parked,.bool s1.done,.int .i64 s1.branch,.int .i64 s1.v.kind,.int .i64 s1.v.num,.slice s1.v.addr s1.v.parts.length s1.v.cap,.int .i64 s1.partner],box FX 61 #[.int .i64 s2.thread,.slice s2.ba s2.bases.length s2.bc,.slice s2.ca s2.conds.length s2.cc,.int .i64 s2.flag,.bool s2.parked,.bool s2.done,.int .i64 s2.branch,.int .i64 s2.v.kind,.int .i64 s2.v.num,.slice s2.v.addr s2.v.parts.length s2.v.cap,.int .i64 s2.partner]]:=by simp
        rw[e]at h;exact BD.aF h
       have HPW:Hid (∀W,P2 W->x'.P W):=fun W hW=>HP.out W (HP1.out W (Ht.out W hW).1).1;clear HU6 HI;cases cc with
       |true=>
        go_wp2;go_roundw
        case rel=>exact⟨j+1,P2,by go_num,by omega,HPW,HW⟩
        case measure=>simp[intOf];omega
       |false=>
        have hne:¬s1.plain=s2.plain:=by have :=D6.out;simpa using this
        have hrr:=HSA.out.resolve_left (fun h=>hne (by rw[HS1.out,HSM.out,HS2.out,h]));obtain⟨hr1,hr2,hr3⟩:=hrr;rw[<-hr1]at y1;have n1:¬(y.what<20):=by omega
        have n2:¬(22<y.what):=by omega
        clear hne;go_wp2;go_roundw
        case rel=>exact⟨j+1,P2,by go_num,by omega,HPW,HW⟩
        case measure=>simp[intOf];omega
      .have Cc:¬(j:Int)<(ms.length:Int):=by omega
       go_wp2_with fail
       go_roundw
       case rel=>
        (repeat apply Exists.intro)
        exact⟨⟨k+1,x'.fJ P,ms',by omega,rfl,by go_num,⟨HX2.out.fair.fJ P HP.out,HX2.out.most,HX2.out.log,fun W hW=>HX2.out.knows W (HP.out W hW)⟩,HJ.out.keep7⟩,rfl⟩
       case measure=>simp[intOf];omega
   .have hlt':¬(k:Int)<(l.length:Int):=by omega
    go_wp2_with fail
    have HO:=hdq (HH.out.knows _ (HK.out.still 2 rfl));refine(pu _ HO.out.2).mono ?_;rintro e w9 ⟨rfl,ht⟩;have HE:=hdq (HK.out.touch ht);clear ht;go_wp2;go_ret
    exact⟨rfl,HE.out.lg (HH.out.knows _ (HE.out.still 2 rfl)).1⟩
end Go.Proofs.YtddnnapoaonmjaaGreatDoor
