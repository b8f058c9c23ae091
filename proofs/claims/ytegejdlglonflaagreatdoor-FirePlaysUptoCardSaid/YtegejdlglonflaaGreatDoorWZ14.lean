/-
  Texts of FirePlays, laid together by program.
-/
import Derived.Test.YtegejdlglonflaaGreatDoorWZ8
import Derived.Test.YtegejdlglonflaaGreatDoorWZ12
import Derived.LoopIn
namespace Go.Proofs.YtegejdlglonflaaGreatDoor
open Go.RowKit Go.Shelf Go.Proofs.Tryz
set_option maxRecDepth 100000
set_option maxHeartbeats 8000000
set_option linter.unusedVariables false
set_option linter.unusedSimpArgs false
theorem YU{L:PL}(T:List Nat)(w:World)(vc vl:Value)(s:Ar)(at_:Int)(hL:s.L.length<=1048576)(h:BD T w w [Pt L vc vl s]):
  Calls prog 232 #[bI vc s.most vl,at_] w (Qz L T w (s.load at_).1 (fun CQ Dk=> .tuple #[bI CQ s.most Dk,.int .u64 ((s.load at_).2.1.old:Int),.int .i64 ((s.load at_).2.2:Int)])):=by
 obtain⟨ca,cp,rfl,_,_⟩:=aK (h.O7 0 rfl).Dh;obtain⟨la,lp,rfl,_,_⟩:=aK (h.O7 0 rfl).log;have BG:=hdq h;clear h;unfold bI;go_enter func232,ntmps232
 go_wp2_with fail
 refine(((BG.o.alloc _ _).alloc _ _).Uz 0 rfl (fun hr=>NI _ _ _ s at_ hr hL 0 0)).mono ?_;rintro e w1 ⟨CQ,Dk,L1,rfl,hL1,hL⟩;have Qj:=hdq hL1;clear hL1;simp only[nAq,cAq,sSq,sZq,World.size_alloc]at hL;obtain⟨CR,CP,rfl,_,_⟩:=aK (hL.O7 0 rfl).Dh;obtain⟨Dc,Df,rfl,_,_⟩:=aK (hL.O7 0 rfl).log;have BB:=hdq hL;clear hL;unfold bI;generalize hb4:w.heap.size+1=b4 at BB|-;generalize hb2:w.heap.size=b2 at BB|-;clear hb4 hb2;obtain⟨p0,p1,p2,f0,f1,f2,z4,_,_⟩:=BB.o.c3 2 rfl;go_wp2_with fail
 refine ay ?_;intro w2 hw2;have HL2:=hdq (BB.o.DZ hw2);simp only[nAq,cAq]at HL2;clear hw2;generalize Kj:w1.heap.size+1=b8 at HL2|-;generalize EF:w1.heap.size=b7 at HL2|-;clear Kj EF BB p0 p1 p2 f0 f1 f2 z4;obtain⟨p0,p1,p2,f0,f1,f2,z4,_,_⟩:=HL2.o.c3 2 rfl;obtain⟨r0,r1,r2,_,_,_,zr,_,_⟩:=HL2.o.c3 3 rfl;obtain⟨_,_,q2,_,q4,_,_,_,_,_,zq,_,_⟩:=HL2.o.c5 4 rfl;have n1:=HL2.o.ne 2 3 rfl rfl (by decide);have n2:=HL2.o.ne 2 4 rfl rfl (by decide);have n3:=Ne.symm n1;have n4:=Ne.symm n2;go_region_held3 (fun w'=>w'.cell? ⟨b7,0,none⟩=some (.slice CR (s.load at_).1.C.length CP)/\w'.cell? ⟨b7,1,none⟩=some (.int .i64 (s.most:Int))/\w'.cell? ⟨b7,2,none⟩=some (.slice Dc (s.load at_).1.L.length Df)/\w'.cell? ⟨b8,2,none⟩=some (.int .u64 ((s.load at_).2.1.old:Int))) (go_keep) (first |fail)
 go_wp2;have BF:=hdq ((((HL2.o.set 2 rfl 0 (.slice CR (s.load at_).1.C.length CP)).set 2 rfl 1 (.int .i64 (s.most:Int))).set 2 rfl 2 (.slice Dc (s.load at_).1.L.length Df)).drew);simp only[sSq,sZq,sAq]at BF;obtain⟨y0,y1,y2,_,_,_,_,_,_⟩:=BF.o.c3 2 rfl;refine bodyPost_ret (v:= .tuple #[.agg #[.slice CR (s.load at_).1.C.length CP,(s.most:Int),.slice Dc (s.load at_).1.L.length Df],.int .u64 ((s.load at_).2.1.old:Int),.int .i64 ((s.load at_).2.2:Int)]) (by simp[results,results232,go_sem,y0,y1,y2]) rfl ?_;exact⟨_,_,L1,_,rfl,Qj.o,BF.o⟩
theorem TM{L:PL}(T:List Nat)(w:World)(vc vl:Value)(s:Ar)(at_:Int)(x y:Nat)(hL:s.L.length<=1048576)(h:BD T w w [Pt L vc vl s]):
  Calls prog 227 #[bI vc s.most vl,at_,.int .u64 (x:Int),.int .u64 (y:Int)] w (Qz L T w (s.swap at_ x y).1 (fun CQ Dk=> .tuple #[bI CQ s.most Dk,.int .u64 ((s.swap at_ x y).2.1.old:Int),.bool (s.swap at_ x y).2.1.did,.int .i64 ((s.swap at_ x y).2.2:Int)])):=by
 obtain⟨ca,cp,rfl,_,_⟩:=aK (h.O7 0 rfl).Dh;obtain⟨la,lp,rfl,_,_⟩:=aK (h.O7 0 rfl).log;have BG:=hdq h;clear h;unfold bI;go_enter func227,ntmps227
 go_wp2_with fail
 refine(((BG.o.alloc _ _).alloc _ _).Uz 0 rfl (fun hr=>Oj _ _ _ s at_ hr hL x y)).mono ?_;rintro e w1 ⟨CQ,Dk,L1,rfl,hL1,hL⟩;have Qj:=hdq hL1;clear hL1;simp only[nAq,cAq,sSq,sZq,World.size_alloc]at hL;obtain⟨CR,CP,rfl,_,_⟩:=aK (hL.O7 0 rfl).Dh;obtain⟨Dc,Df,rfl,_,_⟩:=aK (hL.O7 0 rfl).log;have BB:=hdq hL;clear hL;unfold bI;generalize hb4:w.heap.size+1=b4 at BB|-;generalize hb2:w.heap.size=b2 at BB|-;clear hb4 hb2;obtain⟨p0,p1,p2,f0,f1,f2,z4,_,_⟩:=BB.o.c3 2 rfl;go_wp2_with fail
 refine ay ?_;intro w2 hw2;have HL2:=hdq (BB.o.DZ hw2);simp only[nAq,cAq]at HL2;clear hw2;generalize Kj:w1.heap.size+1=b8 at HL2|-;generalize EF:w1.heap.size=b7 at HL2|-;clear Kj EF BB p0 p1 p2 f0 f1 f2 z4;obtain⟨p0,p1,p2,f0,f1,f2,z4,_,_⟩:=HL2.o.c3 2 rfl;obtain⟨r0,r1,r2,_,_,_,zr,_,_⟩:=HL2.o.c3 3 rfl;obtain⟨_,_,q2,_,q4,_,_,_,_,_,zq,_,_⟩:=HL2.o.c5 4 rfl;have n1:=HL2.o.ne 2 3 rfl rfl (by decide);have n2:=HL2.o.ne 2 4 rfl rfl (by decide);have n3:=Ne.symm n1;have n4:=Ne.symm n2;go_region_held3 (fun w'=>w'.cell? ⟨b7,0,none⟩=some (.slice CR (s.swap at_ x y).1.C.length CP)/\w'.cell? ⟨b7,1,none⟩=some (.int .i64 (s.most:Int))/\w'.cell? ⟨b7,2,none⟩=some (.slice Dc (s.swap at_ x y).1.L.length Df)/\w'.cell? ⟨b8,2,none⟩=some (.int .u64 ((s.swap at_ x y).2.1.old:Int))/\w'.cell? ⟨b8,4,none⟩=some (.bool (s.swap at_ x y).2.1.did)) (go_keep) (first |fail)
 go_wp2;have BF:=hdq ((((HL2.o.set 2 rfl 0 (.slice CR (s.swap at_ x y).1.C.length CP)).set 2 rfl 1 (.int .i64 (s.most:Int))).set 2 rfl 2 (.slice Dc (s.swap at_ x y).1.L.length Df)).drew);simp only[sSq,sZq,sAq]at BF;obtain⟨y0,y1,y2,_,_,_,_,_,_⟩:=BF.o.c3 2 rfl;refine bodyPost_ret (v:= .tuple #[.agg #[.slice CR (s.swap at_ x y).1.C.length CP,(s.most:Int),.slice Dc (s.swap at_ x y).1.L.length Df],.int .u64 ((s.swap at_ x y).2.1.old:Int),.bool (s.swap at_ x y).2.1.did,.int .i64 ((s.swap at_ x y).2.2:Int)]) (by simp[results,results227,go_sem,y0,y1,y2]) rfl ?_;exact⟨_,_,L1,_,rfl,Qj.o,BF.o⟩
theorem WZ{L:PL}(T:List Nat)(w:World)(vc vl:Value)(s:Ar)(at_:Int)(x:Nat)(hL:s.L.length<=1048576)(h:BD T w w [Pt L vc vl s]):
  Calls prog 233 #[bI vc s.most vl,at_,.int .u64 (x:Int)] w (Qz L T w (s.store at_ x).1 (fun CQ Dk=> .tuple #[bI CQ s.most Dk,.int .i64 ((s.store at_ x).2.2:Int)])):=by
 obtain⟨ca,cp,rfl,_,_⟩:=aK (h.O7 0 rfl).Dh;obtain⟨la,lp,rfl,_,_⟩:=aK (h.O7 0 rfl).log;have BG:=hdq h;clear h;unfold bI;go_enter func233,ntmps233
 go_wp2_with fail
 refine(((BG.o.alloc _ _).alloc _ _).Uz 0 rfl (fun hr=>Ll _ _ _ s at_ hr hL x 0)).mono ?_;rintro e w1 ⟨CQ,Dk,L1,rfl,hL1,hL⟩;have Qj:=hdq hL1;clear hL1;simp only[nAq,cAq,sSq,sZq,World.size_alloc]at hL;obtain⟨CR,CP,rfl,_,_⟩:=aK (hL.O7 0 rfl).Dh;obtain⟨Dc,Df,rfl,_,_⟩:=aK (hL.O7 0 rfl).log;have BB:=hdq hL;clear hL;unfold bI;generalize hb4:w.heap.size+1=b4 at BB|-;generalize hb2:w.heap.size=b2 at BB|-;clear hb4 hb2;obtain⟨p0,p1,p2,f0,f1,f2,z4,_,_⟩:=BB.o.c3 2 rfl;go_wp2_with fail
 refine dY ?_;intro w2 hw2;have BF:=hdq ((((BB.o.set 2 rfl 0 (.slice CR (s.store at_ x).1.C.length CP)).set 2 rfl 1 (.int .i64 (s.most:Int))).set 2 rfl 2 (.slice Dc (s.store at_ x).1.L.length Df)).DZ hw2);simp only[sSq,sZq,sAq,cAq,nAq]at BF;clear hw2;obtain⟨y0,y1,y2,_,_,_,_,_,_⟩:=BF.o.c3 2 rfl;refine bodyPost_ret (v:= .tuple #[.agg #[.slice CR (s.store at_ x).1.C.length CP,(s.most:Int),.slice Dc (s.store at_ x).1.L.length Df],.int .i64 ((s.store at_ x).2.2:Int)]) (by simp[results,results233,go_sem,y0,y1,y2]) rfl ?_;exact⟨_,_,L1,_,rfl,Qj.o,BF.o⟩
theorem Xi{L:PL}(T:List Nat)(w:World)(vc vl:Value)(s:Ar)(at_:Int)(hL:s.L.length<=1048576)(hwd:∀n∈s.C,Wd n)(h:BD T w w [Pt L vc vl s]):
  Calls prog 135 #[bI vc s.most vl,at_] w (Qz L T w (s.swap at_ 0 1).1 (fun CQ Dk=> .tuple #[bI CQ s.most Dk,.int .i64 ((bE (s.swap at_ 0 1).2.1.old (s.swap at_ 0 1).2.2).1:Int),.int .i64 ((bE (s.swap at_ 0 1).2.1.old (s.swap at_ 0 1).2.2).2:Int)])):=by
 obtain⟨ca,cp,rfl,_,_⟩:=aK (h.O7 0 rfl).Dh;obtain⟨la,lp,rfl,_,_⟩:=aK (h.O7 0 rfl).log;have BG:=hdq h;clear h;unfold bI;go_enter func135,ntmps135
 go_wp2_with fail
 refine(((BG.o.alloc _ _).alloc _ _).Pw 0 rfl (fun T h=>TM T _ _ _ s at_ 0 1 hL h)).mono ?_;rintro e w1 ⟨CQ,Dk,L1,rfl,hL1,hL⟩;have Qj:=hdq hL1;clear hL1;simp only[nAq,cAq,sSq,sZq,World.size_alloc]at hL;obtain⟨CR,CP,rfl,_,_⟩:=aK (hL.O7 0 rfl).Dh;obtain⟨Dc,Df,rfl,_,_⟩:=aK (hL.O7 0 rfl).log;have BB:=hdq hL;clear hL;unfold bI;generalize hb4:w.heap.size+1=b4 at BB|-;generalize hb2:w.heap.size=b2 at BB|-;clear hb4 hb2;obtain⟨p0,p1,p2,f0,f1,f2,z4,z41,z42⟩:=BB.o.c3 2 rfl;go_wp2_with fail
 refine(Kb _ _ (qh s _ at_ _ hwd) (nV s _ at_ _) _).mono ?_;rintro e w' ⟨rfl,rfl⟩;go_wp2;refine dY ?_;intro w2 hw2;have BF:=hdq ((((BB.o.set 2 rfl 0 (.slice CR (s.swap at_ 0 1).1.C.length CP)).set 2 rfl 1 (.int .i64 (s.most:Int))).set 2 rfl 2 (.slice Dc (s.swap at_ 0 1).1.L.length Df)).DN hw2);simp only[sSq,sZq,sAq,cAq,nAq]at BF;clear hw2;obtain⟨y0,y1,y2,_,_,_,_,_,_⟩:=BF.o.c3 2 rfl;refine bodyPost_ret (v:= .tuple #[.agg #[.slice CR (s.swap at_ 0 1).1.C.length CP,(s.most:Int),.slice Dc (s.swap at_ 0 1).1.L.length Df],.int .i64 ((bE (s.swap at_ 0 1).2.1.old (s.swap at_ 0 1).2.2).1:Int),.int .i64 ((bE (s.swap at_ 0 1).2.1.old (s.swap at_ 0 1).2.2).2:Int)]) (by simp[results,results135,go_sem,y0,y1,y2,Ar.swap,Ar.load]) rfl ?_;exact⟨_,_,L1,_,rfl,Qj.o,BF.o⟩
theorem YX{L:PL}(T:List Nat)(w:World)(vc vl:Value)(s:Ar)(at_:Int)(hL:s.L.length<=1048576)(hwd:∀n∈s.C,Wd n)(h:BD T w w [Pt L vc vl s]):
  Calls prog 187 #[bI vc s.most vl,at_] w (Qz L T w (s.swap at_ 0 2).1 (fun CQ Dk=> .tuple #[bI CQ s.most Dk,.int .i64 ((bE (s.swap at_ 0 2).2.1.old (s.swap at_ 0 2).2.2).1:Int),.int .i64 ((bE (s.swap at_ 0 2).2.1.old (s.swap at_ 0 2).2.2).2:Int)])):=by
 obtain⟨ca,cp,rfl,_,_⟩:=aK (h.O7 0 rfl).Dh;obtain⟨la,lp,rfl,_,_⟩:=aK (h.O7 0 rfl).log;have BG:=hdq h;clear h;unfold bI;go_enter func187,ntmps187
 go_wp2_with fail
 refine(((BG.o.alloc _ _).alloc _ _).Pw 0 rfl (fun T h=>TM T _ _ _ s at_ 0 2 hL h)).mono ?_;rintro e w1 ⟨CQ,Dk,L1,rfl,hL1,hL⟩;have Qj:=hdq hL1;clear hL1;simp only[nAq,cAq,sSq,sZq,World.size_alloc]at hL;obtain⟨CR,CP,rfl,_,_⟩:=aK (hL.O7 0 rfl).Dh;obtain⟨Dc,Df,rfl,_,_⟩:=aK (hL.O7 0 rfl).log;have BB:=hdq hL;clear hL;unfold bI;generalize hb4:w.heap.size+1=b4 at BB|-;generalize hb2:w.heap.size=b2 at BB|-;clear hb4 hb2;obtain⟨p0,p1,p2,f0,f1,f2,z4,z41,z42⟩:=BB.o.c3 2 rfl;go_wp2_with fail
 refine(Kb _ _ (qh s _ at_ _ hwd) (nV s _ at_ _) _).mono ?_;rintro e w' ⟨rfl,rfl⟩;go_wp2;refine dY ?_;intro w2 hw2;have BF:=hdq ((((BB.o.set 2 rfl 0 (.slice CR (s.swap at_ 0 2).1.C.length CP)).set 2 rfl 1 (.int .i64 (s.most:Int))).set 2 rfl 2 (.slice Dc (s.swap at_ 0 2).1.L.length Df)).DN hw2);simp only[sSq,sZq,sAq,cAq,nAq]at BF;clear hw2;obtain⟨y0,y1,y2,_,_,_,_,_,_⟩:=BF.o.c3 2 rfl;refine bodyPost_ret (v:= .tuple #[.agg #[.slice CR (s.swap at_ 0 2).1.C.length CP,(s.most:Int),.slice Dc (s.swap at_ 0 2).1.L.length Df],.int .i64 ((bE (s.swap at_ 0 2).2.1.old (s.swap at_ 0 2).2.2).1:Int),.int .i64 ((bE (s.swap at_ 0 2).2.1.old (s.swap at_ 0 2).2.2).2:Int)]) (by simp[results,results187,go_sem,y0,y1,y2,Ar.swap,Ar.load]) rfl ?_;exact⟨_,_,L1,_,rfl,Qj.o,BF.o⟩
theorem YS{L:PL}(T:List Nat)(w:World)(vc vl:Value)(s:Ar)(at_:Int)(hL:s.L.length<=1048576)(hwd:∀n∈s.C,Wd n)(h:BD T w w [Pt L vc vl s]):
  Calls prog 139 #[bI vc s.most vl,at_] w (Qz L T w (s.load at_).1 (fun CQ Dk=> .tuple #[bI CQ s.most Dk,.int .i64 ((bE (s.load at_).2.1.old (s.load at_).2.2).1:Int),.int .i64 ((bE (s.load at_).2.1.old (s.load at_).2.2).2:Int)])):=by
 obtain⟨ca,cp,rfl,_,_⟩:=aK (h.O7 0 rfl).Dh;obtain⟨la,lp,rfl,_,_⟩:=aK (h.O7 0 rfl).log;have BG:=hdq h;clear h;unfold bI;go_enter func139,ntmps139
 go_wp2_with fail
 refine(((BG.o.alloc _ _).alloc _ _).Pw 0 rfl (fun T h=>YU T _ _ _ s at_ hL h)).mono ?_;rintro e w1 ⟨CQ,Dk,L1,rfl,hL1,hL⟩;have Qj:=hdq hL1;clear hL1;simp only[nAq,cAq,sSq,sZq,World.size_alloc]at hL;obtain⟨CR,CP,rfl,_,_⟩:=aK (hL.O7 0 rfl).Dh;obtain⟨Dc,Df,rfl,_,_⟩:=aK (hL.O7 0 rfl).log;have BB:=hdq hL;clear hL;unfold bI;generalize hb4:w.heap.size+1=b4 at BB|-;generalize hb2:w.heap.size=b2 at BB|-;clear hb4 hb2;obtain⟨p0,p1,p2,f0,f1,f2,z4,z41,z42⟩:=BB.o.c3 2 rfl;go_wp2_with fail
 refine(Kb _ _ (qh s _ at_ _ hwd) (nV s _ at_ _) _).mono ?_;rintro e w' ⟨rfl,rfl⟩;go_wp2;refine dY ?_;intro w2 hw2;have BF:=hdq ((((BB.o.set 2 rfl 0 (.slice CR (s.load at_).1.C.length CP)).set 2 rfl 1 (.int .i64 (s.most:Int))).set 2 rfl 2 (.slice Dc (s.load at_).1.L.length Df)).DN hw2);simp only[sSq,sZq,sAq,cAq,nAq]at BF;clear hw2;obtain⟨y0,y1,y2,_,_,_,_,_,_⟩:=BF.o.c3 2 rfl;refine bodyPost_ret (v:= .tuple #[.agg #[.slice CR (s.load at_).1.C.length CP,(s.most:Int),.slice Dc (s.load at_).1.L.length Df],.int .i64 ((bE (s.load at_).2.1.old (s.load at_).2.2).1:Int),.int .i64 ((bE (s.load at_).2.1.old (s.load at_).2.2).2:Int)]) (by simp[results,results139,go_sem,y0,y1,y2,Ar.swap,Ar.load]) rfl ?_;exact⟨_,_,L1,_,rfl,Qj.o,BF.o⟩
theorem Vn{L:PL}(T:List Nat)(w:World)(vc vl:Value)(s:Ar)(at_:Int)(hL:s.L.length<=1048576)(h:BD T w w [Pt L vc vl s]):
  Calls prog 141 #[bI vc s.most vl,at_] w (Qz L T w (s.store at_ 0).1 (fun CQ Dk=> .tuple #[bI CQ s.most Dk,.int .i64 ((s.store at_ 0).2.2:Int)])):=by
 obtain⟨ca,cp,rfl,_,_⟩:=aK (h.O7 0 rfl).Dh;obtain⟨la,lp,rfl,_,_⟩:=aK (h.O7 0 rfl).log;have BG:=hdq h;clear h;unfold bI;go_enter func141,ntmps141
 go_wp2_with fail
 refine(((BG.o.alloc _ _).alloc _ _).Pw 0 rfl (fun T h=>WZ T _ _ _ s at_ 0 hL h)).mono ?_;rintro e w1 ⟨CQ,Dk,L1,rfl,hL1,hL⟩;have Qj:=hdq hL1;clear hL1;simp only[nAq,cAq,sSq,sZq,World.size_alloc]at hL;obtain⟨CR,CP,rfl,_,_⟩:=aK (hL.O7 0 rfl).Dh;obtain⟨Dc,Df,rfl,_,_⟩:=aK (hL.O7 0 rfl).log;have BB:=hdq hL;clear hL;unfold bI;generalize hb4:w.heap.size+1=b4 at BB|-;generalize hb2:w.heap.size=b2 at BB|-;clear hb4 hb2;obtain⟨p0,p1,p2,f0,f1,f2,z4,z41,z42⟩:=BB.o.c3 2 rfl;go_wp2;refine dY ?_;intro w2 hw2;have BF:=hdq (((BB.o.set 2 rfl 0 (.slice CR (s.store at_ 0).1.C.length CP)).set 2 rfl 1 (.int .i64 (s.most:Int))).set 2 rfl 2 (.slice Dc (s.store at_ 0).1.L.length Df));simp only[sSq,sZq,sAq]at BF;rw[hw2]at BF;clear hw2;obtain⟨y0,y1,y2,_,_,_,_,_,_⟩:=BF.o.c3 2 rfl;refine bodyPost_ret (v:= .tuple #[.agg #[.slice CR (s.store at_ 0).1.C.length CP,(s.most:Int),.slice Dc (s.store at_ 0).1.L.length Df],.int .i64 ((s.store at_ 0).2.2:Int)]) (by simp[results,results141,go_sem,y0,y1,y2]) rfl ?_;exact⟨_,_,L1,_,rfl,Qj.o,BF.o⟩
theorem ZW{L:PL}(T:List Nat)(w:World)(vc vl:Value)(s:Ar)(h:BD T w w [Pt L vc vl s]):
  Calls prog 129 #[bI vc s.most vl] w (Qz L T w (s.au 1).1 (fun CQ Dk=> .tuple #[bI CQ s.most Dk,.int .i64 ((s.au 1).2.1:Int),.int .i64 ((s.au 1).2.2:Int)])):=by
 obtain⟨ca,cp,rfl,_,_⟩:=aK (h.O7 0 rfl).Dh;obtain⟨la,lp,rfl,_,_⟩:=aK (h.O7 0 rfl).log;have BG:=hdq h;clear h;unfold bI;go_enter func129,ntmps129
 go_wp2_with fail
 refine(((BG.o.alloc _ _).alloc _ _).TJ 0 rfl 1).mono ?_;rintro e w1 ⟨CQ,L1,rfl,hL1,hL⟩;have Qj:=hdq hL1;clear hL1;simp only[nAq,cAq,sSq,sZq,World.size_alloc]at hL;obtain⟨CR,CP,rfl,_,_⟩:=aK (hL.O7 0 rfl).Dh;have BB:=hdq hL;clear hL;unfold bI;generalize hb4:w.heap.size+1=b4 at BB|-;generalize hb2:w.heap.size=b2 at BB|-;clear hb4 hb2;obtain⟨p0,p1,p2,f0,f1,f2,z4,z41,z42⟩:=BB.o.c3 2 rfl;go_wp2;refine dY ?_;intro w2 hw2;have BF:=hdq (((BB.o.set 2 rfl 0 (.slice CR (s.au 1).1.C.length CP)).set 2 rfl 1 (.int .i64 (s.most:Int))).set 2 rfl 2 (.slice la s.L.length lp));simp only[sSq,sZq,sAq]at BF;rw[hw2]at BF;clear hw2;obtain⟨y0,y1,y2,_,_,_,_,_,_⟩:=BF.o.c3 2 rfl;refine bodyPost_ret (v:= .tuple #[.agg #[.slice CR (s.au 1).1.C.length CP,(s.most:Int),.slice la s.L.length lp],.int .i64 ((s.au 1).2.1:Int),.int .i64 ((s.au 1).2.2:Int)]) (by simp[results,results129,go_sem,y0,y1,y2]) rfl ?_;exact⟨_,_,L1,_,rfl,Qj.o,BF.o⟩
theorem YN{L:PL}(T:List Nat)(w:World)(vc vl:Value)(s:Ar)(at_:Int)(hL:s.L.length<=1048576)(h:BD T w w [Pt L vc vl s]):
  Calls prog 151 #[bI vc s.most vl,at_] w (Qz L T w (s.swap at_ 0 1).1 (fun CQ Dk=> .tuple #[bI CQ s.most Dk,.bool (s.swap at_ 0 1).2.1.did,.int .i64 ((s.swap at_ 0 1).2.2:Int)])):=by
 obtain⟨ca,cp,rfl,_,_⟩:=aK (h.O7 0 rfl).Dh;obtain⟨la,lp,rfl,_,_⟩:=aK (h.O7 0 rfl).log;have BG:=hdq h;clear h;unfold bI;go_enter func151,ntmps151
 go_wp2_with fail
 refine(((BG.o.alloc _ _).alloc _ _).Pw 0 rfl (fun T h=>TM T _ _ _ s at_ 0 1 hL h)).mono ?_;rintro e w1 ⟨CQ,Dk,L1,rfl,hL1,hL⟩;have Qj:=hdq hL1;clear hL1;simp only[nAq,cAq,sSq,sZq,World.size_alloc]at hL;obtain⟨CR,CP,rfl,_,_⟩:=aK (hL.O7 0 rfl).Dh;obtain⟨Dc,Df,rfl,_,_⟩:=aK (hL.O7 0 rfl).log;have BB:=hdq hL;clear hL;unfold bI;generalize hb4:w.heap.size+1=b4 at BB|-;generalize hb2:w.heap.size=b2 at BB|-;clear hb4 hb2;obtain⟨p0,p1,p2,f0,f1,f2,z4,z41,z42⟩:=BB.o.c3 2 rfl;go_wp2;refine dY ?_;intro w2 hw2;have BF:=hdq ((((BB.o.set 2 rfl 0 (.slice CR (s.swap at_ 0 1).1.C.length CP)).set 2 rfl 1 (.int .i64 (s.most:Int))).set 2 rfl 2 (.slice Dc (s.swap at_ 0 1).1.L.length Df)).DN hw2);simp only[sSq,sZq,sAq,cAq,nAq]at BF;clear hw2;obtain⟨y0,y1,y2,_,_,_,_,_,_⟩:=BF.o.c3 2 rfl;refine bodyPost_ret (v:= .tuple #[.agg #[.slice CR (s.swap at_ 0 1).1.C.length CP,(s.most:Int),.slice Dc (s.swap at_ 0 1).1.L.length Df],.bool (s.swap at_ 0 1).2.1.did,.int .i64 ((s.swap at_ 0 1).2.2:Int)]) (by simp[results,results151,go_sem,y0,y1,y2,Ar.swap,Ar.load]) rfl ?_;exact⟨_,_,L1,_,rfl,Qj.o,BF.o⟩
theorem V4{L:PL}(T:List Nat)(w:World)(vc vl:Value)(s:Ar)(at_:Int)(hL:s.L.length<=1048576)(h:BD T w w [Pt L vc vl s]):
  Calls prog 156 #[bI vc s.most vl,at_] w (Qz L T w (s.swap at_ 1 0).1 (fun CQ Dk=> .tuple #[bI CQ s.most Dk,(s.wH at_:Int)])):=by
 have HE:Hid ((s.wH at_:Int)=(if(s.swap at_ 1 0).2.2=0 then(if(s.swap at_ 1 0).2.1.did then 0 else 30)else(s.swap at_ 1 0).2.2:Nat)):=rfl;rcases vZ s 3 at_ (eH 1 0)with he|⟨he,hz⟩
 .change (s.swap at_ 1 0).2.2=0 at he
  rw[he,if_pos rfl]at HE;cases hd:(s.swap at_ 1 0).2.1.did with
  |true=>
   rw[hd,if_pos rfl]at HE;have YV:=hdq (TM (L:=L) (x:=1) (y:=0) (s:=s) (at_:=at_) (hL:=hL));rw[hd,he]at YV;obtain⟨ca,cp,rfl,_,_⟩:=aK (h.O7 0 rfl).Dh;obtain⟨la,lp,rfl,_,_⟩:=aK (h.O7 0 rfl).log;have BG:=hdq h;clear h;unfold bI;go_enter func156,ntmps156
   go_wp2_with fail
   refine(((BG.o.alloc _ _).alloc _ _).Pw 0 rfl (fun T h=>YV.o T _ _ _ h)).mono ?_;rintro e w1 ⟨CQ,Dk,L1,rfl,hL1,hL⟩;have Qj:=hdq hL1;clear hL1;simp only[nAq,cAq,sSq,sZq,World.size_alloc]at hL;obtain⟨CR,CP,rfl,_,_⟩:=aK (hL.O7 0 rfl).Dh;obtain⟨Dc,Df,rfl,_,_⟩:=aK (hL.O7 0 rfl).log;have BB:=hdq hL;clear hL;unfold bI;generalize hb4:w.heap.size+1=b4 at BB|-;generalize hb2:w.heap.size=b2 at BB|-;clear hb4 hb2;obtain⟨p0,p1,p2,f0,f1,f2,z4,z41,z42⟩:=BB.o.c3 2 rfl;go_wp2;refine dY ?_;intro w2 hw2;have BF:=hdq ((((BB.o.set 2 rfl 0 (.slice CR (s.swap at_ 1 0).1.C.length CP)).set 2 rfl 1 (.int .i64 (s.most:Int))).set 2 rfl 2 (.slice Dc (s.swap at_ 1 0).1.L.length Df)).DN hw2);simp only[sSq,sZq,sAq,cAq,nAq]at BF;clear hw2;obtain⟨y0,y1,y2,_,_,_,_,_,_⟩:=BF.o.c3 2 rfl;refine bodyPost_ret (v:= .tuple #[.agg #[.slice CR (s.swap at_ 1 0).1.C.length CP,(s.most:Int),.slice Dc (s.swap at_ 1 0).1.L.length Df],()]) (by simp[results,results156,go_sem,y0,y1,y2,Ar.swap,Ar.load]) rfl ?_;exact⟨_,_,L1,_,by rw[HE.o];rfl,Qj.o,BF.o⟩
  |false=>
   rw[hd,if_neg (by simp)]at HE;have YV:=hdq (TM (L:=L) (x:=1) (y:=0) (s:=s) (at_:=at_) (hL:=hL));rw[hd,he]at YV;obtain⟨ca,cp,rfl,_,_⟩:=aK (h.O7 0 rfl).Dh;obtain⟨la,lp,rfl,_,_⟩:=aK (h.O7 0 rfl).log;have BG:=hdq h;clear h;unfold bI;go_enter func156,ntmps156
   go_wp2_with fail
   refine(((BG.o.alloc _ _).alloc _ _).Pw 0 rfl (fun T h=>YV.o T _ _ _ h)).mono ?_;rintro e w1 ⟨CQ,Dk,L1,rfl,hL1,hL⟩;have Qj:=hdq hL1;clear hL1;simp only[nAq,cAq,sSq,sZq,World.size_alloc]at hL;obtain⟨CR,CP,rfl,_,_⟩:=aK (hL.O7 0 rfl).Dh;obtain⟨Dc,Df,rfl,_,_⟩:=aK (hL.O7 0 rfl).log;have BB:=hdq hL;clear hL;unfold bI;generalize hb4:w.heap.size+1=b4 at BB|-;generalize hb2:w.heap.size=b2 at BB|-;clear hb4 hb2;obtain⟨p0,p1,p2,f0,f1,f2,z4,z41,z42⟩:=BB.o.c3 2 rfl;go_wp2;refine dY ?_;intro w2 hw2;have BF:=hdq ((((BB.o.set 2 rfl 0 (.slice CR (s.swap at_ 1 0).1.C.length CP)).set 2 rfl 1 (.int .i64 (s.most:Int))).set 2 rfl 2 (.slice Dc (s.swap at_ 1 0).1.L.length Df)).DN hw2);simp only[sSq,sZq,sAq,cAq,nAq]at BF;clear hw2;obtain⟨y0,y1,y2,_,_,_,_,_,_⟩:=BF.o.c3 2 rfl;refine bodyPost_ret (v:= .tuple #[.agg #[.slice CR (s.swap at_ 1 0).1.C.length CP,(s.most:Int),.slice Dc (s.swap at_ 1 0).1.L.length Df],(30:Int)]) (by simp[results,results156,go_sem,y0,y1,y2,Ar.swap,Ar.load]) rfl ?_;exact⟨_,_,L1,_,by rw[HE.o];rfl,Qj.o,BF.o⟩
 .change (s.swap at_ 1 0).2.2=4 at he
  rw[he,if_neg (by simp)]at HE;have YV:=hdq (TM (L:=L) (x:=1) (y:=0) (s:=s) (at_:=at_) (hL:=hL));rw[he]at YV;obtain⟨ca,cp,rfl,_,_⟩:=aK (h.O7 0 rfl).Dh;obtain⟨la,lp,rfl,_,_⟩:=aK (h.O7 0 rfl).log;have BG:=hdq h;clear h;unfold bI;go_enter func156,ntmps156
  go_wp2_with fail
  refine(((BG.o.alloc _ _).alloc _ _).Pw 0 rfl (fun T h=>YV.o T _ _ _ h)).mono ?_;rintro e w1 ⟨CQ,Dk,L1,rfl,hL1,hL⟩;have Qj:=hdq hL1;clear hL1;simp only[nAq,cAq,sSq,sZq,World.size_alloc]at hL;obtain⟨CR,CP,rfl,_,_⟩:=aK (hL.O7 0 rfl).Dh;obtain⟨Dc,Df,rfl,_,_⟩:=aK (hL.O7 0 rfl).log;have BB:=hdq hL;clear hL;unfold bI;generalize hb4:w.heap.size+1=b4 at BB|-;generalize hb2:w.heap.size=b2 at BB|-;clear hb4 hb2;obtain⟨p0,p1,p2,f0,f1,f2,z4,z41,z42⟩:=BB.o.c3 2 rfl;go_wp2;refine dY ?_;intro w2 hw2;have BF:=hdq ((((BB.o.set 2 rfl 0 (.slice CR (s.swap at_ 1 0).1.C.length CP)).set 2 rfl 1 (.int .i64 (s.most:Int))).set 2 rfl 2 (.slice Dc (s.swap at_ 1 0).1.L.length Df)).DN hw2);simp only[sSq,sZq,sAq,cAq,nAq]at BF;clear hw2;obtain⟨y0,y1,y2,_,_,_,_,_,_⟩:=BF.o.c3 2 rfl;refine bodyPost_ret (v:= .tuple #[.agg #[.slice CR (s.swap at_ 1 0).1.C.length CP,(s.most:Int),.slice Dc (s.swap at_ 1 0).1.L.length Df],(4:Int)]) (by simp[results,results156,go_sem,y0,y1,y2,Ar.swap,Ar.load]) rfl ?_;exact⟨_,_,L1,_,by rw[HE.o];rfl,Qj.o,BF.o⟩
theorem aae{L:PL}(T:List Nat)(w:World)(vc vl:Value)(s:Ar)(h:BD T w w [Pt L vc vl s]):
  Calls prog 217 #[bI vc s.most vl] w (Qz L T w (s.au 1).1 (fun CQ Dk=> .tuple #[bI CQ s.most Dk,.int .i64 ((s.au 1).2.1:Int),.int .i64 ((s.au 1).2.2:Int)])):=by
 obtain⟨ca,cp,rfl,_,_⟩:=aK (h.O7 0 rfl).Dh;obtain⟨la,lp,rfl,_,_⟩:=aK (h.O7 0 rfl).log;have BG:=hdq h;clear h;unfold bI;go_enter func217,ntmps217
 go_wp2_with fail
 refine(((BG.o.alloc _ _).alloc _ _).TJ 0 rfl 1).mono ?_;rintro e w1 ⟨CQ,L1,rfl,hL1,hL⟩;have Qj:=hdq hL1;clear hL1;simp only[nAq,cAq,sSq,sZq,World.size_alloc]at hL;obtain⟨CR,CP,rfl,_,_⟩:=aK (hL.O7 0 rfl).Dh;have BB:=hdq hL;clear hL;unfold bI;generalize hb4:w.heap.size+1=b4 at BB|-;generalize hb2:w.heap.size=b2 at BB|-;clear hb4 hb2;obtain⟨p0,p1,p2,f0,f1,f2,z4,z41,z42⟩:=BB.o.c3 2 rfl;go_wp2;refine dY ?_;intro w2 hw2;have BF:=hdq (((BB.o.set 2 rfl 0 (.slice CR (s.au 1).1.C.length CP)).set 2 rfl 1 (.int .i64 (s.most:Int))).set 2 rfl 2 (.slice la s.L.length lp));simp only[sSq,sZq,sAq]at BF;rw[hw2]at BF;clear hw2;obtain⟨y0,y1,y2,_,_,_,_,_,_⟩:=BF.o.c3 2 rfl;refine bodyPost_ret (v:= .tuple #[.agg #[.slice CR (s.au 1).1.C.length CP,(s.most:Int),.slice la s.L.length lp],.int .i64 ((s.au 1).2.1:Int),.int .i64 ((s.au 1).2.2:Int)]) (by simp[results,results217,go_sem,y0,y1,y2]) rfl ?_;exact⟨_,_,L1,_,rfl,Qj.o,BF.o⟩
theorem Ut{L:PL}(T:List Nat)(w:World)(vc vl:Value)(s:Ar)(q:Nat)(hq:q<=1000000)(a:Option Addr)(n c:Nat)(hL:s.L.length<=1048576)(h:BD T w w [Pt L vc vl s])(he:(s.swap ((q:Int)+1) 0 1).2.2=0)(hd:(s.swap ((q:Int)+1) 0 1).2.1.did=true):
  Calls prog 147 #[.agg #[(q:Int),.slice a n c],bI vc s.most vl] w (Qz L T w (s.swap ((q:Int)+1) 0 1).1 (fun CQ Dk=> .tuple #[bI CQ s.most Dk,()])):=by
 obtain⟨ca,cp,rfl,_,_⟩:=aK (h.O7 0 rfl).Dh;obtain⟨la,lp,rfl,_,_⟩:=aK (h.O7 0 rfl).log;have HW:Hid (wrap64 ((q:Int)+1)=(q:Int)+1):=hdq (by unfold wrap64;omega);have BG:=hdq h;clear h hq;unfold bI;go_enter func147,ntmps147
 go_wp2_with fail
 rw[HW.o];refine((((BG.o.alloc _ _).alloc _ _).alloc _ _).Pw 0 rfl (fun T h=>TM T _ _ _ s ((q:Int)+1) 0 1 hL h)).mono ?_;rintro e w1 ⟨CQ,Dk,L1,rfl,hL1,hL⟩;have Qj:=hdq hL1;clear hL1;simp only[nAq,cAq,sSq,sZq,World.size_alloc]at hL;obtain⟨CR,CP,rfl,_,_⟩:=aK (hL.O7 0 rfl).Dh;obtain⟨Dc,Df,rfl,_,_⟩:=aK (hL.O7 0 rfl).log;have BB:=hdq hL;clear hL;unfold bI;generalize hb4:w.heap.size+1+1=b4 at BB|-;clear hb4;obtain⟨p0,p1,p2,f0,f1,f2,z4,z41,z42⟩:=BB.o.c3 3 rfl;have HD:=hdq hd;have hd0:=HD.o;clear hd;go_wp2;refine dY ?_;intro w2 hw2;have BF:=hdq ((((BB.o.set 3 rfl 0 (.slice CR (s.swap ((q:Int)+1) 0 1).1.C.length CP)).set 3 rfl 1 (.int .i64 (s.most:Int))).set 3 rfl 2 (.slice Dc (s.swap ((q:Int)+1) 0 1).1.L.length Df)).DN hw2);simp only[sSq,sZq,sAq,cAq,nAq]at BF;clear hw2;obtain⟨y0,y1,y2,_,_,_,_,_,_⟩:=BF.o.c3 3 rfl;refine bodyPost_ret (v:= .tuple #[.agg #[.slice CR (s.swap ((q:Int)+1) 0 1).1.C.length CP,(s.most:Int),.slice Dc (s.swap ((q:Int)+1) 0 1).1.L.length Df],()]) (by simp[results,results147,go_sem,y0,y1,y2]) rfl ?_;exact⟨_,_,L1,_,rfl,Qj.o,BF.o⟩
theorem Uq{L:PL}(T:List Nat)(w:World)(vc vl:Value)(s:Ar)(q:Nat)(hq:q<=1000000)(a:Option Addr)(n c:Nat)(hL:s.L.length<=1048576)(h:BD T w w [Pt L vc vl s])(he:(s.swap ((q:Int)+1) 0 1).2.2=0)(hd:(s.swap ((q:Int)+1) 0 1).2.1.did=false):
  Calls prog 147 #[.agg #[(q:Int),.slice a n c],bI vc s.most vl] w (Qz L T w (s.swap ((q:Int)+1) 0 1).1 (fun CQ Dk=> .tuple #[bI CQ s.most Dk,(150:Int)])):=by
 obtain⟨ca,cp,rfl,_,_⟩:=aK (h.O7 0 rfl).Dh;obtain⟨la,lp,rfl,_,_⟩:=aK (h.O7 0 rfl).log;have HW:Hid (wrap64 ((q:Int)+1)=(q:Int)+1):=hdq (by unfold wrap64;omega);have BG:=hdq h;clear h hq;unfold bI;go_enter func147,ntmps147
 go_wp2_with fail
 rw[HW.o];refine((((BG.o.alloc _ _).alloc _ _).alloc _ _).Pw 0 rfl (fun T h=>TM T _ _ _ s ((q:Int)+1) 0 1 hL h)).mono ?_;rintro e w1 ⟨CQ,Dk,L1,rfl,hL1,hL⟩;have Qj:=hdq hL1;clear hL1;simp only[nAq,cAq,sSq,sZq,World.size_alloc]at hL;obtain⟨CR,CP,rfl,_,_⟩:=aK (hL.O7 0 rfl).Dh;obtain⟨Dc,Df,rfl,_,_⟩:=aK (hL.O7 0 rfl).log;have BB:=hdq hL;clear hL;unfold bI;generalize hb4:w.heap.size+1+1=b4 at BB|-;clear hb4;obtain⟨p0,p1,p2,f0,f1,f2,z4,z41,z42⟩:=BB.o.c3 3 rfl;have HD:=hdq hd;have hd0:=HD.o;clear hd;go_wp2;refine dY ?_;intro w2 hw2;have BF:=hdq ((((BB.o.set 3 rfl 0 (.slice CR (s.swap ((q:Int)+1) 0 1).1.C.length CP)).set 3 rfl 1 (.int .i64 (s.most:Int))).set 3 rfl 2 (.slice Dc (s.swap ((q:Int)+1) 0 1).1.L.length Df)).DN hw2);simp only[sSq,sZq,sAq,cAq,nAq]at BF;clear hw2;obtain⟨y0,y1,y2,_,_,_,_,_,_⟩:=BF.o.c3 3 rfl;refine bodyPost_ret (v:= .tuple #[.agg #[.slice CR (s.swap ((q:Int)+1) 0 1).1.C.length CP,(s.most:Int),.slice Dc (s.swap ((q:Int)+1) 0 1).1.L.length Df],(150:Int)]) (by simp[results,results147,go_sem,y0,y1,y2]) rfl ?_;exact⟨_,_,L1,_,rfl,Qj.o,BF.o⟩
def Kk(w:World)(g:Nat)(es:List ME):Prop:=∃a cap,Cg w g 358 #[true,.slice a es.length cap]/\es.length<=cap/\cap<=maxLen/\dZ w 65 7 (.slice a es.length cap) es.length (aM es)
theorem BD.qAt{T:List Nat}{w0 w:World}{l:List ai}{g:Nat}{es:List ME}(h:BD T w0 w l)(i:Nat)(hi:l[i]? =some (aQ g es)):Kk w g es:=h.q0 i hi
theorem Kk.touch{w w':World}{g:Nat}{es:List ME}(h:Kk w g es)(ht:Touch [] w w'):Kk w' g es:=by
 obtain⟨a,cap,h1,h2,h3,h4⟩:=h;exact⟨a,cap,h1.touch ht (by simp),h2,h3,nT h4 (fun k hk=>ht.block k (lY h4 k hk) (by simp))⟩
theorem BD.iD{T:List Nat}{w0 w:World}{l:List ai}(h:BD T w0 w l)(i:Nat){b t:Nat}{y0 y1 y2 y3 y4 y5 y6:Value}(hi:l[i]? =some (Proofs.YtegejdlglonflaaGreatDoor.box b t #[y0,y1,y2,y3,y4,y5,y6]))(s th br f k n:Int)(v:Value):
  BD T w0 (((((((w.setCell ⟨b,0,none⟩ (.int .i64 s)).setCell ⟨b,1,none⟩ (.int .i64 th)).setCell ⟨b,2,none⟩ (.int .i64 br)).setCell ⟨b,3,none⟩ (.int .i64 f)).setCell ⟨b,4,none⟩ (.int .i64 k)).setCell ⟨b,5,none⟩ (.int .i64 n)).setCell ⟨b,6,none⟩ v)
   (l.set i (Proofs.YtegejdlglonflaaGreatDoor.box b t #[s,th,br,f,k,n,v])):=by
 have hl:=(List.getElem?_eq_some_iff.1 hi).1;have e:∀(l:List ai) (t1 t2:ai),(l.set i t1).set i t2=l.set i t2:=fun l t1 t2=>List.set_set t1;have g:∀(t1:ai),(l.set i t1)[i]? =some t1:=fun t1=>List.getElem?_set_self hl;have h1:=h.set i hi 0 (.int .i64 s);have h2:=h1.set i (g _) 1 (.int .i64 th);rw[e]at h2;have h3:=h2.set i (g _) 2 (.int .i64 br);rw[e]at h3;have h4:=h3.set i (g _) 3 (.int .i64 f);rw[e]at h4;have h5:=h4.set i (g _) 4 (.int .i64 k);rw[e]at h5;have h6:=h5.set i (g _) 5 (.int .i64 n);rw[e]at h6;have h7:=h6.set i (g _) 6 v;rw[e]at h7;simp only[sAq,sZq,sSq]at h7;exact h7
def AtR(es:List PE)(i:Int)(x:ME)(c:Bool):Prop:=(c=true/\0<=i/\es[i.toNat]? =some x.plain)\/(c=false/\¬(0<=i/\i<(es.length:Int))/\x=ME.zero)
theorem sH(w:World):(Instr.build 65 #[]).run prog w= .ok ME.zero.val w:=run_build w 65 _ _ (by kernel_rfl)
theorem BD.rowCut{T:List Nat}{w0 w:World}{l:List ai}(h:BD T w0 w l)(i:Nat){e size g n cap:Nat}{xs:List Value}(hi:l[i]? =some (aS e size (.slice (some ⟨g,0,none⟩) n cap) n xs))(m c:Nat)(hm:m<=c)(hc:c<=n):BD T w0 w (l.set i (aS e size (.slice (some ⟨g,0,none⟩) m c) m (xs.take (m*size)))):=by
 obtain⟨f,⟨hf,hb⟩,_,hs⟩:=h.step i hi;subst hf;exact hs w _ _ ⟨rfl,KJ hb m c hm hc rfl (.inl (by simp))⟩ ⟨Touch.refl _ _,fun k hk=> .inl hk⟩
def Dropped(T:List Nat)(w:World)(g:Nat)(es:List ME)(i:Int)(e:Ending)(w':World):Prop:=
 (∃x,0<=i/\es[i.toNat]? =some x/\e= .returned (.tuple #[x.val,true])/\BD T w w' [aQ g (es.eraseIdx i.toNat)])\/
 (¬(0<=i/\i<(es.length:Int))/\e= .returned (.tuple #[ME.zero.val,false])/\BD T w w' [aQ g es])
theorem Drop_q(T:List Nat)(w:World)(g:Nat)(es:List ME)(i:Int)(hL:BD T w w [aQ g es])(hes:es.length<=1048576):Calls prog 182 #[g,i] w (Dropped T w g es i):=by
 obtain⟨qa,qc,hqc1,hqc2,h1⟩:=BD.OM (l:=[]) hL;have HK:=hdq h1;simp only[nAq]at HK;have hbe:=sH;simp only[bB,ME.zero,MT.zero,MT.kind,MT.num,MT.addr,MT.parts,MT.cap,List.length_nil]at hbe;clear h1 hL;go_enter func182,ntmps182
 go_wp2_with fail
 refine ah ?_;intro w1 hw1;have BB:=hdq (HK.o.DN hw1);simp only[nAq,cAq]at BB;generalize hb4:w.heap.size=b4 at BB|-;clear hb4 hw1 HK;obtain⟨q0,q1,KY,LF,zq,_,_⟩:=BB.o.c2 0 rfl;refine(pG g w1 q0).mono ?_;rintro e w' ⟨rfl,rfl⟩;go_wp2_with fail
 refine(OW g _ _ _ i w1 q1).mono ?_;rintro e w' ⟨⟨cc,rfl,hcc⟩,rfl⟩;have D6:=hdq hcc;clear hcc;obtain⟨r0,r1,r2,r3,r4,r5,r6,⟨f0,f1,f2,f3,f4,f5,f6⟩,zr,_,_⟩:=BB.o.c7 2 rfl;cases cc with
 |false=>
  go_wp2;have HL2:=hdq (BB.o.iD 2 rfl 0 0 0 0 0 0 (.slice none 0 0));simp only[sZq,sSq]at HL2;obtain⟨s0,s1,s2,s3,s4,s5,s6,_⟩:=HL2.o.c7 2 rfl;refine bodyPost_ret (v:= .tuple #[ME.zero.val,false]) (by simp[results,results182,go_sem,s0,s1,s2,s3,s4,s5,s6,bB,ME.zero,MT.zero,MT.kind,MT.num,MT.addr,MT.parts,MT.cap]) rfl ?_;refine .inr ⟨fun hx=>?_,rfl,?_⟩
  .have :=D6.o.2 hx
   cases this
  .exact BD.za (l:=[]) (HL2.o.sel [0,1] rfl (by decide))
 |true=>
  obtain⟨hi1,hi2⟩:=D6.o.1 (by simp);obtain⟨k,rfl⟩:=Int.eq_ofNat_of_zero_le hi1;have hk:k<es.length:=by omega
  obtain⟨gr,cap',cur,hv,_⟩:=gD (BB.o.aZ 1 rfl) (by omega);injection hv with hv1 _ hv3
  subst hv1 hv3;obtain⟨b,o,DX,hbb,p0,p1,p2,p3,p4,p5,p6⟩:=(iL (BB.o.aZ 1 rfl)) k hk;injection DX with DX
  injection DX with hbo1 hbo2
  subst hbo1 hbo2;have Jy:Hid (es[k]? =some es[k]):=by unfold Hid;simp[hk]
  generalize es[k]=x at p0 p1 p2 p3 p4 p5 p6 Jy;obtain⟨i0,hi0,CY,CU,CX⟩:=info_parts nD;obtain⟨sa,hsa,hsl2⟩:=kZ underlying34 hi0 (some ⟨gr,0,none⟩) es.length qc (k+1) (by omega) hqc1;have hsl1:=fun W=>qV underlying34 hi0 (some ⟨gr,0,none⟩) es.length qc k (by omega) W;have HSA:=hdq hsa;clear hsa;rw[show(((k+1:Nat)):Int)=(k:Int)+1 by omega]at hsl2;simp only[Nat.zero_add]at p0 p1 p2 p3 p4 p5 p6;have hwk:IntKind.i64.wrap ((k:Int)+1)=(k:Int)+1:=IntWalk.i64_in _ (by omega);go_wp2_with fail
  refine ay ?_;intro w2 hw2;have HL2:=hdq (BB.o.DN hw2);simp only[nAq,cAq]at HL2;generalize hb6:w1.heap.size=b6 at HL2|-;clear hw2 hb6 BB p0 p1 p2 p3 p4 p5 p6 q0 q1 KY LF zq r0 r1 r2 r3 r4 r5 r6 f0 f1 f2 f3 f4 f5 f6 zr hbb;have HLC:=hdq (HL2.o.drew.rowCut 1 rfl k k (Nat.le_refl _) (by omega));simp only[sZq,sSq]at HLC;have HLN:Hid (((aM es).drop ((k+1)*7)).length=(es.length-(k+1))*7):=by
   unfold Hid;rw[List.length_drop,fU,Nat.sub_mul]
  obtain⟨q0,q1,KY,LF,zq,_,_⟩:=HL2.o.c2 0 rfl;go_region_law (first
   |(refine aD _ rfl (.tmp 34) (.tmp 42) 34 rfl 65 i0 _ 7 72 underlying34 hi0 CY CU CX rfl (by decide) (.slice (some ⟨gr,0,none⟩) k k) k ((aM es).take (k*7)) (by first |rfl|simp[Act.eval,Act.put]) (HLC.o.aZ 1 rfl) sa (es.length-(k+1)) (qc-(k+1)) ((aM es).drop ((k+1)*7)) (by first |rfl|simp[Act.eval,Act.put]) HLN.o (vR (lo:=k+1) (HL2.o.drew.aZ 1 rfl) (by rw[CU]) HSA.o) (fun u hu=>qf es u (List.mem_of_mem_drop hu)) (by simp only[maxLen];omega) (by omega) ?_;intro a5 c5 w5 hown hgrow hat;have Ca:=hdq (HLC.o.bG 1 rfl hgrow hown hat);simp only[sSq,sZq]at Ca;clear hown hgrow hat q0 q1 KY LF zq;obtain⟨q0,q1,KY,LF,zq,_,_⟩:=Ca.o.c2 0 rfl))
  all_goals
   have LK:Hid (k+(es.length-(k+1))=(es.eraseIdx k).length/\(aM es).take (k*7)++(aM es).drop ((k+1)*7)=aM (es.eraseIdx k)):=by
    refine⟨?_,?_⟩
    .rw[List.length_eraseIdx_of_lt hk];omega
    .rw[List.eraseIdx_eq_take_drop_succ,iC,qU,rA]
   have Db:=hdq (Ca.o.set 0 rfl 1 (.slice a5 (k+(es.length-(k+1))) c5));simp only[sSq,sZq,sAq]at Db;rw[LK.o.2,LK.o.1]at Db;rw[LK.o.1];refine Hid.o ?_;generalize LM:w5.setCell ⟨g,1,none⟩ (.slice a5 (es.eraseIdx k).length c5)=w6 at Db|-;refine hdq ?_;clear LM Ca HLC HL2 q0 q1 KY LF zq hsl1 hsl2 hwk LK;obtain⟨r0,r1,r2,r3,r4,r5,r6,⟨f0,f1,f2,f3,f4,f5,f6⟩,zr,_,_⟩:=Db.o.c7 2 rfl;obtain⟨y0,y1,y2,y3,y4,y5,y6,_,zy,_,_⟩:=Db.o.c7 3 rfl;have n1:=Db.o.ne 2 3 rfl rfl (by decide);have n2:=Ne.symm n1;go_wp2;have C8:=hdq (Db.o.iD 2 rfl x.sync x.thread x.branch x.flag x.v.kind x.v.num (.slice x.v.addr x.v.parts.length x.v.cap));simp only[sZq,sSq]at C8;obtain⟨s0,s1,s2,s3,s4,s5,s6,_⟩:=C8.o.c7 2 rfl;refine bodyPost_ret (v:= .tuple #[x.val,true]) (by simp[results,results182,go_sem,s0,s1,s2,s3,s4,s5,s6,bB]) rfl ?_;exact .inl ⟨x,by omega,Jy.o,rfl,BD.za (l:=[]) (C8.o.sel [0,1] rfl (by decide))⟩
def ac2(P:PE->Prop)(es:List PE)(fr r:Int):Prop:=
 (r= -1/\∀j (h:j<es.length),fr<=(j:Int)->¬P es[j])\/∃j,∃h:j<es.length,r=(j:Int)/\fr<=(j:Int)/\P es[j]/\∀i (h':i<es.length),fr<=(i:Int)->i<j->¬P es[i]
theorem ac2.unique{P:PE->Prop}{es:List PE}{fr r r':Int}(h:ac2 P es fr r)(h':ac2 P es fr r'):r=r':=by
 rcases h with ⟨h1,h2⟩|⟨j,hj,h1,h2,h3,h4⟩
 .rcases h' with ⟨h1',_⟩|⟨j',hj',h1',h2',h3',_⟩
  .omega
  .exact absurd h3' (h2 j' hj' h2')
 .rcases h' with ⟨h1',h2'⟩|⟨j',hj',h1',h2',h3',h4'⟩
  .exact absurd h3 (h2' j hj h2)
  .by_cases hlt:j<j'
   .exact absurd h3 (h4' j hj h2 hlt)
   .by_cases hlt2:j'<j
    .exact absurd h3' (h4 j' hj' h2' hlt2)
    .omega
def acF(P:PE->Prop)(es:List PE)(fr k:Int)(c:Bool):Prop:=∃r,ac2 P es fr r/\k=max r 0/\(c=true↔0<=r)
theorem acF.unique{P:PE->Prop}{es:List PE}{fr k k':Int}{c c':Bool}(h:acF P es fr k c)(h':acF P es fr k' c'):k=k'/\c=c':=by
 obtain⟨r,h1,h2,h3⟩:=h;obtain⟨r',h1',h2',h3'⟩:=h';obtain rfl:=h1.unique h1';refine⟨by omega,?_⟩;cases c<;>cases c'<;>simp_all<;>omega
def zU(m:Nat):Array Value:=madeCells #[(),(),(),(),(),(),True] (m*7)
theorem A9(m:Nat):(zU m).size=m*7:=by simp[zU,madeCells]
theorem zZ(m:Nat)(hm:m<=1048576)(W:World):(Instr.makeSlice 34 (.int .i64 0) (.int .i64 (m:Int))).run prog W=
  .ok (.slice (some ⟨W.heap.size,0,none⟩) 0 m) (W.alloc (.cells (zU m) 65)):=by
 obtain⟨i0,hi,CY,CU,CX⟩:=info_parts nD;have hr:=run_make (P:=prog) W 34 65 i0 _ underlying34 hi CY .i64 .i64 0 m (by omega) (by omega) (by rw[CX];omega) (by omega);rw[CU]at hr;simpa[Value.cells,zU]using hr
theorem BD.Ip{T:List Nat}{w0 w:World}{l:List ai}(h:BD T w0 w l)(m:Nat)(hm:m<=1048576){w':World}(e:w.alloc (.cells (zU m) 65)=w'):BD T w0 w' (l++[aS 65 7 (.slice (some ⟨w.heap.size,0,none⟩) 0 m) 0 []]):=
 e▸h.new (t':=aS 65 7 (.slice (some ⟨w.heap.size,0,none⟩) 0 m) 0 []) ⟨rfl,by simp,.inr ⟨w.heap.size,m,zU m,rfl,heap_alloc_new w _,Nat.zero_le _,by simp only[maxLen];omega,by rw[A9];exact Nat.le_refl _,by simp⟩⟩ ⟨(Touch.refl [] w).alloc _,fun k hk=> .inr (by simp[sb,Value.ownBlock]at hk;omega)⟩
def Copied(es:List ME)(w:World)(e:Ending)(w':World):Prop:=∃a cap ys,e= .returned (.slice a es.length cap)/\ys.map ME.plain=es.map ME.plain/\BD [] w w' [aS 65 7 (.slice a es.length cap) es.length (aM ys),bS (ys.map ME.v)]
theorem Ls(w:World)(a:Option Addr)(cap:Nat)(es:List ME)(he:fo w a es)(hin:∀e∈es,e.v.In w/\e.v.nodes<=256)(hlen:es.length<=1048576):Calls prog 271 #[.slice a es.length cap] w (Copied es w):=by
 have HE:=hdq he;have Ed:=hdq hin;clear he hin;have hmk:=zZ es.length hlen;obtain⟨i0,hi0,CY,CU,CX⟩:=info_parts nD;go_enter func271,ntmps271
 go_wp2_with fail
 refine ay ?_;intro w1 hw1;have BB:=hdq ((BD.nil' w).Ip es.length hlen hw1).yS;simp only[nAq,cAq]at BB;clear hw1;go_loopw [3,11] (fun x i wr=>∃(j:Nat) (ys:List ME) (ra:Option Addr) (rc:Nat),j<=es.length/\i= .int .i64 (j:Int)/\x= .slice ra j rc/\ys.length=j/\Hid (ys.map ME.plain=(es.take j).map ME.plain)/\
  Hid (BD [] w wr [aS 65 7 (.slice ra j rc) j (aM ys),bS (ys.map ME.v)])) (fun _ i _=>es.length-(intOf i).toNat)
 case atStart=>exact⟨0,[],_,_,Nat.zero_le _,rfl,rfl,rfl,by unfold Hid;simp,BB⟩
 case round=>
  obtain⟨j,ys,ra,rc,hj,rfl,rfl,hyl,HY,HK⟩:=hrel;clear BB;have hj0:(0:Int)<=(j:Int):=by omega
  by_cases hjl:j<es.length
  .have Cc:(j:Int)<(es.length:Int):=by omega
   obtain⟨b,o,rfl,hb,p0,p1,p2,p3,p4,p5,p6⟩:=(HE.o.touch HK.o.BN) j hjl;have HI:=hdq (Ed.o _ (List.getElem_mem hjl));have Eh:Hid ((es.take (j+1)).map ME.plain=(es.take j).map ME.plain++[es[j].plain]):=by
    unfold Hid;rw[List.take_add_one,List.getElem?_eq_getElem hjl,Option.toList_some,List.map_append];rfl
   generalize es[j]=x at p0 p1 p2 p3 p4 p5 p6 HI Eh;go_wp2_with fail
   refine ah ?_;intro w2 hw2;have HT2:Hid (Touch [] wr w2):=hw2▸(Touch.refl [] wr).alloc _;have HL2:=hdq (HK.o.touch HT2.o);clear hw2 p0 p1 p2 p3 p4 p5 p6 hb;refine(kM x w2 (HI.o.1.aO (HK.o.BN.trans' HT2.o)) HI.o.2).mono ?_;rintro e w4 ⟨x',rfl,hpl,EO,hnew,ht⟩;have BH:=hdq (HL2.o.gH (vs:=[x'.v]) ht (by simpa using EO) (by simpa using hnew));simp only[nAq,cAq]at BH;have EA:=hdq hpl;clear hpl EO hnew ht HL2;simp only[bB];go_wp2_with (at_builtin;go_must (refine cB _ rfl (.tmp 15) (.tmp 18) 34 rfl 65 i0 _ 7 72 underlying34 hi0 CY CU CX rfl (by decide) (.slice ra j rc) j (aM ys) rfl ((BH.o.dL _).aZ 0 rfl) (some ⟨w4.heap.size,0,none⟩) 1 1 x'.cells rfl rfl (.inr ⟨_,rfl,World.news_of_block (heap_alloc_new w4 _)⟩) (by have :=qf [x'];simpa[aM]using this) (by simp only[maxLen];omega) (by omega) ?_);intro a5 c5 w5 hown hgrow hat;refine Hid.o ?_)
   have Ca:Hid (BD [] w w5 [aS 65 7 (.slice a5 (j+1) c5) (j+1) (aM (ys++[x'])),bS ((ys++[x']).map ME.v)]):=by
    have h:=(BH.o.dL _).bG 0 rfl hgrow hown hat;simp only[sSq,sZq]at h;rw[iC,List.map_append];exact BD.ql (l:=[_]) h
   clear hown hgrow hat BH;refine hdq ?_;go_wp2;go_roundw
   case rel=>exact⟨j+1,ys++[x'],a5,c5,by omega,by go_num,rfl,by simp[hyl],by unfold Hid;rw[List.map_append,HY.o,Eh.o,<-EA.o];rfl,Ca⟩
   case measure=>simp[intOf];omega
  .have Cc:¬(j:Int)<(es.length:Int):=by omega
   obtain rfl:j=es.length:=by omega
   go_wp2;go_ret
   exact⟨ra,rc,ys,rfl,by have :=HY.o;rwa[List.take_length]at this,HK.o⟩
def allT(bx:Nat)(v:Value)(ys:List ME):ai where
 holds w fp:=fp=bx::(sb v++MT.dF (ys.map ME.v))/\Cg w bx 34 #[v]/\dZ w 65 7 v ys.length (aM ys)/\∀y∈ys,y.v.In w
 keep:=fun⟨h1,h2,h3,h4⟩ he=>⟨h1,h2.keep (he bx (by simp[h1])),nT h3 (fun k hk=>he k (by simp[h1,hk])),fun y hy=>(h4 y hy).keep (fun k hk=>he k (by
  rw[h1];refine List.mem_cons_of_mem _ (List.mem_append_right _ (MT.eU.2 ⟨y.v,List.mem_map.2 ⟨y,hy,rfl⟩,hk⟩))))⟩
 lt:=fun⟨h1,h2,h3,h4⟩ k hk=>by
  subst h1;rcases List.mem_cons.1 hk with rfl|hk
  .exact h2.lt
  .rcases List.mem_append.1 hk with hk|hk
   .exact lY h3 k hk
   .obtain⟨t,ht,hk⟩:=MT.eU.1 hk
    obtain⟨y,hy,rfl⟩:=List.mem_map.1 ht;exact(h4 y hy).lt k hk
def Wh(v:Value)(ys:List ME):ai where
 holds w fp:=fp=sb v++MT.dF (ys.map ME.v)/\dZ w 65 7 v ys.length (aM ys)/\∀t∈ys.map ME.v,t.In w
 keep:=fun⟨a,b,c⟩ he=>⟨a,nT b (fun k hk=>he k (by simp[a,hk])),fun t ht=>(c t ht).keep (fun k hk=>he k (by rw[a];exact List.mem_append_right _ (MT.eU.2 ⟨t,ht,hk⟩)))⟩
 lt:=fun⟨a,b,c⟩ k hk=>by
  subst a;rcases List.mem_append.1 hk with hk|hk
  .exact lY b k hk
  .obtain⟨t,ht,hk⟩:=MT.eU.1 hk
   exact(c t ht).lt k hk
theorem BD.shutAll{T:List Nat}{w0 w:World}{l:List ai}{bx n:Nat}{v:Value}{ys:List ME}(hn:ys.length=n)(h:BD T w0 w (l++[Proofs.YtegejdlglonflaaGreatDoor.box bx 34 #[v],aS 65 7 v n (aM ys),bS (ys.map ME.v)])):BD T w0 w (l++[allT bx v ys]):=by
 subst hn;have h1:BD T w0 w ((l++[Proofs.YtegejdlglonflaaGreatDoor.box bx 34 #[v]])++[aS 65 7 v ys.length (aM ys),bS (ys.map ME.v)]):=by simpa using h
 have h2:=h1.merge (t12:=Wh v ys) (fun f1 f2 ⟨a1,a2⟩ ⟨b1,b2⟩=>⟨by rw[a1,b1],a2,b2⟩);have h3:BD T w0 w (l++[Proofs.YtegejdlglonflaaGreatDoor.box bx 34 #[v],Wh v ys]):=by simpa using h2
 exact h3.merge (fun f1 f2 ⟨a1,a2⟩ ⟨b1,b2,b3⟩=>⟨by rw[a1,b1];rfl,a2,b2,fun y hy=>b3 _ (List.mem_map.2 ⟨y,hy,rfl⟩)⟩)
def TR(es:List ME)(w:World)(e:Ending)(w':World):Prop:=∃bx a cap ys,e= .returned (.func (.func 307) #[] #[.pointer (some ⟨bx,0,none⟩)])/\ys.map ME.plain=es.map ME.plain/\BD [] w w' [allT bx (.slice a ys.length cap) ys]
theorem All_q(w:World)(g:Nat)(es:List ME)(h:Kk w g es)(hin:∀e∈es,e.v.In w/\e.v.nodes<=256)(hlen:es.length<=1048576):Calls prog 300 #[g] w (TR es w):=by
 have HQA:=hdq h;have Ed:=hdq hin;clear h hin;go_enter func300,ntmps300
 go_wp2_with fail
 refine ah ?_;intro w1 hw1;have BB:=hdq ((BD.nil' w).DN hw1);simp only[nAq,cAq]at BB;generalize hb3:w.heap.size=b3 at BB|-;clear hb3 hw1;obtain⟨a,cap,hb,hc1,hc2,hr⟩:=HQA.o.touch BB.o.BN;have HC:=hdq (Ls w1 a cap es (iL hr) (fun e he=>⟨(Ed.o e he).1.aO BB.o.BN,(Ed.o e he).2⟩) hlen);have q0:=hb.cell 0;have q1:=hb.cell 1;simp at q0 q1
 clear hb hr;refine(pG g w1 q0).mono ?_;rintro e w' ⟨rfl,rfl⟩;go_wp2_with fail
 refine HC.o.mono ?_;rintro e w2 ⟨a2,c2,ys,rfl,hpl,hL⟩;have EA:=hdq hpl;have HL2:Hid (BD [] w w2 [box b3 34 #[True],aS 65 7 (.slice a2 es.length c2) es.length (aM ys),bS (ys.map ME.v)]):=BB.o.join hL;clear hL hpl;obtain⟨x0,fx,zx,_,_⟩:=HL2.o.c1 0 rfl;go_wp2;go_ret
 refine⟨b3,a2,c2,ys,rfl,EA.o,?_⟩;have hyl:ys.length=es.length:=by have :=congrArg List.length EA.o;simpa using this
 have h:=HL2.o.set 0 rfl 0 (.slice a2 es.length c2);simp only[sZq,sAq]at h;have h2:=BD.shutAll (l:=[]) hyl h;rw[hyl];exact h2
section
attribute [local go_sem] Oper.semAt_some
def JZ(w:World)(bx:Nat)(a:Option Addr)(cap:Nat)(ys:List ME):Prop:=Cg w bx 34 #[.slice a ys.length cap]/\fo w a ys/\∀y∈ys,y.v.In w
theorem Zf{F:Fence}{n:Nat}{P:Program}{f:FuncId}{args:Array Value}{Q:Ending->World->Prop}{W:World}(h:∀w2,W=w2->CallsIn F n P f args w2 Q):CallsIn F n P f args W Q:=h W rfl
theorem Zn(n l bx:Nat)(a:Option Addr)(cap:Nat)(ys:List ME)(hL:ys.length<=1048576)(hnn:∀y∈ys,y.v.nodes<=256)(J:Nat->World->Prop)(J1:Nat->ME->World->Prop)(Jx:World->Prop)(hmem:∀k W,J k W->JZ W bx a cap ys)(hmv:∀k W W' x,J k W->Touch [] W W'->x.v.In W'->(∀b∈x.v.blocks,W.heap.size<=b)->(ys.map ME.plain)[k]? =some x.plain->J1 k x W')(hY:∀(k:Nat) (x:ME) (W:World),k<ys.length->J1 k x W->YieldAt Fence.wide (n-1) prog l #[(k:Int),x.val] W (Told (J (k+1)) Jx))(W:World)(h0:J 0 W):
  CallsIn Fence.wide n prog 307 #[.func (.yield l) #[] #[],bx] W (Zj (fun k=>k=ys.length) J Jx):=by
 refine callsIn_of_wp func307 rfl trivial ?_ rfl;simp only[ntmps307,List.size_toArray,List.length_cons,List.length_nil,Nat.reduceAdd,Nat.reduceSub,Array.replicate_succ,Array.replicate_zero,List.push_toArray,List.append_toArray,nAq,cAq];have HM:=hdq hmem;have HY:=hdq hY;have HMV:=hdq hmv;have CW:=hdq hnn;obtain⟨b1,b2,b3⟩:=hmem 0 W h0;have q1:=b1.cell 0;simp at q1
 clear hmem hY hmv hnn b1 b2 b3;gi_wp2
 gi_loopw [7] (fun i wr=>∃k:Nat,i= .int .i64 (k:Int)/\J k wr/\k<=ys.length) (fun i _=>ys.length-(intOf i).toNat)
 case atStart=>exact⟨0,rfl,h0,Nat.zero_le _⟩
 case round=>
  obtain⟨k,rfl,hj,hk⟩:=hrel;have hk0:(0:Int)<=(k:Int):=by omega
  by_cases hlt:k<ys.length
  .have hlt':(k:Int)<(ys.length:Int):=by omega
   obtain⟨b1,b2,b3⟩:=HM.o _ _ hj;obtain⟨b,o,rfl,hb,p0,p1,p2,p3,p4,p5,p6⟩:=b2 k hlt;have HI:Hid (ys[k].v.In wr/\ys[k].v.nodes<=256):=⟨b3 _ (List.getElem_mem hlt),CW.o _ (List.getElem_mem hlt)⟩;have Jy:Hid ((ys.map ME.plain)[k]? =some ys[k].plain):=by unfold Hid;simp[hlt]
   generalize ys[k]=x at p0 p1 p2 p3 p4 p5 p6 HI Jy;have HJ:=hdq hj;clear b1 b2 b3 hj;gi_wp2_with fail
   refine⟨trivial,Zy,?_⟩;refine Zf ?_;intro w2 hw2;have HT2:Hid (Touch [] wr w2):=hw2▸(Touch.refl [] wr).alloc _;clear hw2 p0 p1 p2 p3 p4 p5 p6 hb;refine(callsIn_wide.2 (kM x w2 (HI.o.1.aO HT2.o) HI.o.2)).mono ?_;rintro e w4 ⟨x',rfl,hpl,EO,hnew,ht⟩;have hy0:=HY.o k x' w4 hlt (HMV.o k wr w4 x' HJ.o (HT2.o.trans' ht) EO (fun b hb=>Nat.le_trans HT2.o.size (hnew b hb)) (by rw[hpl];exact Jy.o));clear hpl EO hnew ht;simp only[bB]at hy0|-;obtain⟨fn,tmps,assign,body,hy,hR⟩:=hy0;have HR:=hdq hR;clear hR;gi_wp2_with fail
   refine⟨Zy,HR.o.mono ?_⟩;rintro e W2 (⟨rfl,hj2⟩|⟨rfl,hj2⟩)
   .have HJ2:=hdq hj2
    clear hj2 hy;gi_wp2
    go_roundw
    case rel=>exact⟨k+1,by go_num,HJ2.o,hlt⟩
    case measure=>simp[intOf];omega
   .have HJ2:=hdq hj2
    clear hj2 hy;gi_wp2
    refine bodyPost_ret (results_none rfl _ _ _) rfl ?_;exact⟨⟨_,rfl⟩,.inr HJ2.o⟩
  .obtain rfl:k=ys.length:=by omega
   have hlt':¬((ys.length:Nat):Int)<(ys.length:Int):=by omega
   have HJ:=hdq hj;clear hj;gi_wp2
   go_end0
   exact⟨⟨_,rfl⟩,.inl ⟨_,rfl,HJ.o⟩⟩
end
end Go.Proofs.YtegejdlglonflaaGreatDoor
