/-
  Texts 2 of 5 that WorldHolds rests on, laid together and made smaller by program.
-/
import Derived.Test.YtddnnapoaonmjaaGreatDoorWZ1
import Derived.Deep.Cut
import Derived.Laws.CopyOwn
namespace Go.Proofs.YtddnnapoaonmjaaGreatDoor
open Go.RowKit Go.Shelf
set_option maxRecDepth 100000
set_option maxHeartbeats 8000000
set_option linter.unusedVariables false
set_option linter.unusedSimpArgs false
theorem ax{Q:Exit->Act->World->Prop}{ex:Exit}{a:Act}{W:World}(h:∀w2,W=w2->Q ex a w2):Q ex a W:=h W rfl
theorem BD.toW{T:List Nat}{w0 w w':World}{l:List ai}(h:BD T w0 w l)(e:w=w'):BD T w0 w' l:=e▸h
theorem dxq{P:Program}{ops:Array Oper}{K:Act->World->Prop}{Q':Exit->Act->World->Prop}{md:Region.Mode}{S:World->Prop}{fuel:Nat}{listed:Array Bool}{a:Act}{T:List Nat}{w0 w:World}{l:List ai}(hL:Hid (BD T w0 w l))(h:∀w2,Hid (BD T w0 w2 l)->Exit.then K Q' .normal a w2)(hr:Region.ready md ops listed=[]:=by kernel_rfl):wpAnyH P md ops (Exit.then K Q') S fuel listed a w:=wpAnyH_done hr (h w hL) _
theorem nmq{P:Program}{ops:Array Oper}{Q:Exit->Act->World->Prop}{md:Region.Mode}{S:World->Prop}{fuel:Nat}{listed:Array Bool}{a:Act}{T:List Nat}{w0 w:World}{l:List ai}(hL:Hid (BD T w0 w l))(hS:S w)(h:∀w2,Hid (BD T w0 w2 l)->S w2->wpAnyH P md ops Q S fuel listed a w2):wpAnyH P md ops Q S fuel listed a w:=h w hL hS
structure aL where
 sync:Int
 thread:Int
 branch:Int
 flag:Int
 kind:Int
 num:Int
 lA:Option Addr
 lN:Nat
 lC:Nat
 is:Bool
def aL.zero:aL:=⟨0,0,0,0,0,0,none,0,0,false⟩
def aL.val(v:aL):Value:= .agg #[.int .i64 v.sync,.int .i64 v.thread,.int .i64 v.branch,.int .i64 v.flag,.int .i64 v.kind,.int .i64 v.num,.slice v.lA v.lN v.lC,.bool v.is]
theorem aL.eG(v:aL):v.val= .agg #[.int .i64 v.sync,.int .i64 v.thread,.int .i64 v.branch,.int .i64 v.flag,.int .i64 v.kind,.int .i64 v.num,.slice v.lA v.lN v.lC,.bool v.is]:=rfl
theorem BD.dA{T:List Nat}{w0 w:World}{l:List ai}{b t:Nat}(h:BD T w0 w l)(i:Nat){x0 x1 x2 x3 x4 x5 x6 x7:Value}(hi:l[i]? =some (Proofs.YtddnnapoaonmjaaGreatDoor.box b t #[x0,x1,x2,x3,x4,x5,x6,x7])):(w.cell? ⟨b,0,none⟩=some x0/\w.cell? ⟨b,1,none⟩=some x1/\w.cell? ⟨b,2,none⟩=some x2/\w.cell? ⟨b,3,none⟩=some x3/\w.cell? ⟨b,4,none⟩=some x4/\w.cell? ⟨b,5,none⟩=some x5/\w.cell? ⟨b,6,none⟩=some x6/\w.cell? ⟨b,7,none⟩=some x7)/\(w.frozen? ⟨b,0,none⟩=false/\w.frozen? ⟨b,1,none⟩=false/\w.frozen? ⟨b,2,none⟩=false/\w.frozen? ⟨b,3,none⟩=false/\w.frozen? ⟨b,4,none⟩=false/\w.frozen? ⟨b,5,none⟩=false/\w.frozen? ⟨b,6,none⟩=false/\w.frozen? ⟨b,7,none⟩=false)/\b<w.heap.size/\b<w.heap.size+1/\b<w.heap.size+1+1:=by
 have hb:=h.box i hi;have hl:=hb.lt;exact⟨⟨hb.cell 0,hb.cell 1,hb.cell 2,hb.cell 3,hb.cell 4,hb.cell 5,hb.cell 6,hb.cell 7⟩,⟨hb.frozen 0,hb.frozen 1,hb.frozen 2,hb.frozen 3,hb.frozen 4,hb.frozen 5,hb.frozen 6,hb.frozen 7⟩,hl,ltq hl,ltq (ltq hl)⟩
theorem o6(T:List Nat)(w0 w:World)(l:List ai)(p q:Nat)(v:aL)(FP er:Int)(h:BD T w0 w (box p 168 #[.int .i64 v.sync,.int .i64 v.thread,.int .i64 v.branch,.int .i64 v.flag,.int .i64 v.kind,.int .i64 v.num,.slice v.lA v.lN v.lC,.bool v.is]::box q 26 #[.int .i64 FP]::l)):
  CallsD Tryz.prog 193 #[.pointer (some ⟨p,0,none⟩),.pointer (some ⟨q,0,none⟩)] (.panicking (aX er)) w fun e u' w'=>e= .returned (.tuple #[])/\u'= .panicking [{v:=eB er,recovered:=true}]/\BD T w0 w' (box p 168 #[.int .i64 0,.int .i64 0,.int .i64 0,.int .i64 0,.int .i64 0,.int .i64 0,.slice none 0 0,.bool false]::box q 26 #[.int .i64 er]::l):=by
 have HL:=hdq h;clear h;refine callsD_of_wpS Tryz.func193 rfl fun c₀ cs hu=>?_;apply wpS_seq
 apply wpS_region
 simp[wpOpsS,go_sem,recoverD,hu,Tryz.ntmps193,Exit.thenS,aX]
 apply wpS_seq
 apply wpS_region
 have hq:=l8 232 (.agg #[.int .i64 er]);simp[wpOpsS,go_sem,Exit.thenS,eB,hq]
 refine wpS_cond (t:=true) (by simp[Act.eval,Array.replicate]) ?_;simp only[if_true];refine wpS_of_wp ?_;simp only[Array.replicate_succ,Array.replicate_zero,List.push_toArray,List.append_toArray,sAq,sZq,sSq,nAq,cAq];have GZ:=dS er;obtain⟨⟨p0,p1,p2,p3,p4,p5,p6,p7⟩,⟨g0,g1,g2,g3,g4,g5,g6,g7⟩,zp,CK,CO⟩:=HL.out.dA 0 rfl;obtain⟨q0,q1,zq,Fb,Fg⟩:=HL.out.c1 1 rfl;have hpq:=HL.out.ne 0 1 rfl rfl (by decide);have F9:=Ne.symm hpq;have hp1:p≠w.heap.size:=by omega
 have hp2:p≠w.heap.size+1:=by omega
 have hq1:q≠w.heap.size:=by omega
 have hq2:q≠w.heap.size+1:=by omega
 clear hu hq;go_upto_region 6 with fail
 refine ay ?_;intro w3 hw3;have Ec:=hdq (BD.aB (a:=[_,_]) (b:=l) (c:=[_,_]) (by simpa using HL.out.DZ hw3));simp only[nAq,cAq]at Ec;generalize hb5:w.heap.size+1=b5 at Ec|-;generalize hb3:w.heap.size=b3 at Ec|-;clear hw3 hb5 hb3 HL p0 p1 p2 p3 p4 p5 p6 p7 g0 g1 g2 g3 g4 g5 g6 g7 zp CK CO q0 q1 zq Fb Fg hpq F9 hp1 hp2 hq1 hq2 GZ;obtain⟨⟨p0,p1,p2,p3,p4,p5,p6,p7⟩,⟨g0,g1,g2,g3,g4,g5,g6,g7⟩,zp,CK,CO⟩:=Ec.out.dA 0 rfl;obtain⟨q0,q1,zq,Fb,Fg⟩:=Ec.out.c1 1 rfl;obtain⟨r0,_,zr,_,_⟩:=Ec.out.c1 2 rfl;obtain⟨⟨s0,s1,s2,s3,s4,s5,s6,s7⟩,_,zs,_,_⟩:=Ec.out.dA 3 rfl;have h01:=Ec.out.ne 0 1 rfl rfl (by decide);have h02:=Ec.out.ne 0 2 rfl rfl (by decide);have h03:=Ec.out.ne 0 3 rfl rfl (by decide);have h12:=Ec.out.ne 1 2 rfl rfl (by decide);have FY:=Ec.out.ne 1 3 rfl rfl (by decide);go_wp2_with fail
 refine hrq (S:=fun w'=>w'.cell? ⟨b3,0,none⟩=some (.int .i64 er)/\w'.cell? ⟨b5,0,none⟩=some (.int .i64 0)/\w'.cell? ⟨b5,1,none⟩=some (.int .i64 0)/\w'.cell? ⟨b5,2,none⟩=some (.int .i64 0)/\w'.cell? ⟨b5,3,none⟩=some (.int .i64 0)/\w'.cell? ⟨b5,4,none⟩=some (.int .i64 0)/\w'.cell? ⟨b5,5,none⟩=some (.int .i64 0)/\w'.cell? ⟨b5,6,none⟩=some (.slice none 0 0)/\w'.cell? ⟨b5,7,none⟩=some (.bool false)) fun hHeld=>?_;refine tkq 0 17 ?_;refine tkq 1 18 ?_;refine tkq 2 19 ?_;refine opq 3 fun hHeld=>?_;refine opq 4 fun hHeld=>?_;refine dnq ?_;have BF:=hdq (((((((((Ec.out.set 0 rfl 0 (.int .i64 0)).set 0 rfl 1 (.int .i64 0)).set 0 rfl 2 (.int .i64 0)).set 0 rfl 3 (.int .i64 0)).set 0 rfl 4 (.int .i64 0)).set 0 rfl 5 (.int .i64 0)).set 0 rfl 6 (.slice none 0 0)).set 0 rfl 7 (.bool false)).set 1 rfl 0 (.int .i64 er)).drew;simp only[sSq,sZq,sAq]at BF;have BH:=hdq (BD.aF (l:=[_,_]++l) (BD.aB (a:=[_,_]) (b:=[_,_]) (c:=l) BF.out));exact⟨rfl,_,rfl,.tuple #[],results_none rfl _ _ _,rfl,rfl,BH.out⟩
theorem nN(w:World)(p q:Addr):CallsD Tryz.prog 193 #[.pointer (some p),.pointer (some q)] .returning w fun e u' w'=>e= .returned (.tuple #[])/\u'= .returning/\w=w':=by
 refine callsD_of_wpS Tryz.func193 rfl fun c₀ cs hu=>?_;apply wpS_seq
 apply wpS_region
 simp[wpOpsS,go_sem,recoverD,hu,Tryz.ntmps193,Exit.thenS]
 apply wpS_seq
 apply wpS_region
 have hq:∀w,(binOp .neq 20 .nilIface .nilIface).run Tryz.prog w= .ok (.bool false) w:=fun w=>by kernel_rfl
 simp[wpOpsS,go_sem,Exit.thenS,hq]
 refine wpS_cond (t:=false) (by simp[Act.eval,Array.replicate]) ?_;simp only[Bool.false_eq_true,if_false];refine wpS_of_wp (wp_skip ?_);cases c₀
 simp_all [bodyPostS,results,Tryz.results193]
theorem jy(T:List Nat)(w0 w:World)(l:List ai)(D:FuncId)(caps:Array Value)(R:aL->Int->List ai->Prop)(h:BD T w0 w l)(hen:∀args w,(callFunc D args).run Tryz.prog w= .ok (.enter D args) w)(hd:∀T' W,BD T' W W l->Calls Tryz.prog D caps W fun e w'=>∃(v:aL) (er:Int) (l':List ai),((er=0/\e= .returned v.val)\/(v=aL.zero/\e= .panicked (aX er)))/\R v er l'/\BD T' W w' l'):
  Calls Tryz.prog 98 #[.func (.func D) #[] caps] w fun e w'=>∃(v:aL) (er:Int) (l':List ai),e= .returned (.tuple #[v.val,.int .i64 er])/\R v er l'/\BD T w0 w' l':=by
 have Ep:= @mfq;have BG:=hdq h;have HD:=hdq hd;clear h hd;go_enter_defers Tryz.func98,Tryz.ntmps98
 go_wp2_with fail
 refine ah ?_;intro w1 hw1;have BB:=hdq (BG.out.DZ hw1);generalize hq:w.heap.size+1=q at BB|-;generalize hp:w.heap.size=p at BB|-;clear hw1 hq hp BG;obtain⟨T',hF,hb⟩:=BD.aN (m:=l) (r:=[box p 168 #[.int .i64 0,.int .i64 0,.int .i64 0,.int .i64 0,.int .i64 0,.int .i64 0,.slice none 0 0,.bool false],box q 26 #[.int .i64 0]]) (by simpa using BB.out);refine(HD.out T' _ hF).mono ?_;rintro e w2 ⟨v,er,l',he,hR,hL⟩;have HL2:=hdq (BD.aB (a:=[]) (b:=l') (c:=[box p 168 #[.int .i64 0,.int .i64 0,.int .i64 0,.int .i64 0,.int .i64 0,.int .i64 0,.slice none 0 0,.bool false],box q 26 #[.int .i64 0]]) (by simpa using hb _ _ hL));simp only[nAq,cAq]at HL2;have HR:=hdq hR;clear hL hR hF hb BB HD;rcases he with ⟨rfl,rfl⟩|⟨rfl,rfl⟩
 .obtain⟨⟨p0,p1,p2,p3,p4,p5,p6,p7⟩,⟨g0,g1,g2,g3,g4,g5,g6,g7⟩,zp,CK,CO⟩:=HL2.out.dA 0 rfl
  obtain⟨q0,q1,zq,_,_⟩:=HL2.out.c1 1 rfl;have hpq:=HL2.out.ne 0 1 rfl rfl (by decide);have F9:=Ne.symm hpq;have BF:=hdq (((((((((HL2.out.set 0 rfl 0 (.int .i64 v.sync)).set 0 rfl 1 (.int .i64 v.thread)).set 0 rfl 2 (.int .i64 v.branch)).set 0 rfl 3 (.int .i64 v.flag)).set 0 rfl 4 (.int .i64 v.kind)).set 0 rfl 5 (.int .i64 v.num)).set 0 rfl 6 (.slice v.lA v.lN v.lC)).set 0 rfl 7 (.bool v.is)).set 1 rfl 0 (.int .i64 0));simp only[sSq,sZq,sAq]at BF;unfold aL.val;dsimp only;go_wp2_with fail
  refine leaves_cons (f:=193) (args:=#[.pointer (some ⟨p,0,none⟩),.pointer (some ⟨q,0,none⟩)]) (by simp) (by simp[go_sem]) ?_;refine(nN _ _ _).mono ?_;rintro e u' w'' ⟨rfl,rfl,rfl⟩;obtain⟨⟨s0,s1,s2,s3,s4,s5,s6,s7⟩,_,_,_,_⟩:=BF.out.dA 0 rfl;obtain⟨r1,_,_,_,_⟩:=BF.out.c1 1 rfl;refine⟨.tuple #[.agg #[.int .i64 v.sync,.int .i64 v.thread,.int .i64 v.branch,.int .i64 v.flag,.int .i64 v.kind,.int .i64 v.num,.slice v.lA v.lN v.lC,.bool v.is],.int .i64 0],by simp[results,Tryz.results98,go_sem,r1,s0,s1,s2,s3,s4,s5,s6,s7],v,0,l',rfl,HR.out,?_⟩;exact BD.aF (BD.aB (a:=[]) (b:=[_,_]) (c:=l') BF.out)
 .dsimp only
  refine leaves_cons (f:=193) (args:=#[.pointer (some ⟨p,0,none⟩),.pointer (some ⟨q,0,none⟩)]) (by simp) (by simp[go_sem]) ?_;refine(o6 T w0 w2 l' p q aL.zero 0 er HL2.out).mono ?_;rintro e u' w'' ⟨rfl,rfl,hL⟩;have BF:=hdq hL;obtain⟨⟨s0,s1,s2,s3,s4,s5,s6,s7⟩,_,_,_,_⟩:=BF.out.dA 0 rfl;obtain⟨r1,_,_,_,_⟩:=BF.out.c1 1 rfl;refine⟨.tuple #[.agg #[.int .i64 0,.int .i64 0,.int .i64 0,.int .i64 0,.int .i64 0,.int .i64 0,.slice none 0 0,.bool false],.int .i64 er],by simp[results,Tryz.results98,go_sem,r1,s0,s1,s2,s3,s4,s5,s6,s7],aL.zero,er,l',rfl,HR.out,?_⟩;exact BD.aF (BD.aB (a:=[]) (b:=[_,_]) (c:=l') BF.out)
structure dP where
 sync:Int
 thread:Int
 branch:Int
 flag:Int
 kind:Int
 num:Int
 lA:Option Addr
 lN:Nat
 lC:Nat
def dP.zero:dP:=⟨0,0,0,0,0,0,none,0,0⟩
def dP.val(v:dP):Value:= .agg #[.int .i64 v.sync,.int .i64 v.thread,.int .i64 v.branch,.int .i64 v.flag,.int .i64 v.kind,.int .i64 v.num,.slice v.lA v.lN v.lC]
theorem dP.eG(v:dP):v.val= .agg #[.int .i64 v.sync,.int .i64 v.thread,.int .i64 v.branch,.int .i64 v.flag,.int .i64 v.kind,.int .i64 v.num,.slice v.lA v.lN v.lC]:=rfl
theorem BD.og{T:List Nat}{w0 w:World}{l:List ai}{b t:Nat}(h:BD T w0 w l)(i:Nat){x0 x1 x2 x3 x4 x5 x6:Value}(hi:l[i]? =some (Proofs.YtddnnapoaonmjaaGreatDoor.box b t #[x0,x1,x2,x3,x4,x5,x6])):(w.cell? ⟨b,0,none⟩=some x0/\w.cell? ⟨b,1,none⟩=some x1/\w.cell? ⟨b,2,none⟩=some x2/\w.cell? ⟨b,3,none⟩=some x3/\w.cell? ⟨b,4,none⟩=some x4/\w.cell? ⟨b,5,none⟩=some x5/\w.cell? ⟨b,6,none⟩=some x6)/\(w.frozen? ⟨b,0,none⟩=false/\w.frozen? ⟨b,1,none⟩=false/\w.frozen? ⟨b,2,none⟩=false/\w.frozen? ⟨b,3,none⟩=false/\w.frozen? ⟨b,4,none⟩=false/\w.frozen? ⟨b,5,none⟩=false/\w.frozen? ⟨b,6,none⟩=false)/\b<w.heap.size/\b<w.heap.size+1/\b<w.heap.size+1+1:=by
 have hb:=h.box i hi;have hl:=hb.lt;exact⟨⟨hb.cell 0,hb.cell 1,hb.cell 2,hb.cell 3,hb.cell 4,hb.cell 5,hb.cell 6⟩,⟨hb.frozen 0,hb.frozen 1,hb.frozen 2,hb.frozen 3,hb.frozen 4,hb.frozen 5,hb.frozen 6⟩,hl,ltq hl,ltq (ltq hl)⟩
theorem o8(T:List Nat)(w0 w:World)(l:List ai)(p q:Nat)(v:dP)(FP er:Int)(h:BD T w0 w (box p 47 #[.int .i64 v.sync,.int .i64 v.thread,.int .i64 v.branch,.int .i64 v.flag,.int .i64 v.kind,.int .i64 v.num,.slice v.lA v.lN v.lC]::box q 26 #[.int .i64 FP]::l)):
  CallsD Tryz.prog 218 #[.pointer (some ⟨p,0,none⟩),.pointer (some ⟨q,0,none⟩)] (.panicking (aX er)) w fun e u' w'=>e= .returned (.tuple #[])/\u'= .panicking [{v:=eB er,recovered:=true}]/\BD T w0 w' (box p 47 #[.int .i64 0,.int .i64 0,.int .i64 0,.int .i64 0,.int .i64 0,.int .i64 0,.slice none 0 0]::box q 26 #[.int .i64 er]::l):=by
 have HL:=hdq h;clear h;refine callsD_of_wpS Tryz.func218 rfl fun c₀ cs hu=>?_;apply wpS_seq
 apply wpS_region
 simp[wpOpsS,go_sem,recoverD,hu,Tryz.ntmps218,Exit.thenS,aX]
 apply wpS_seq
 apply wpS_region
 have hq:=l8 232 (.agg #[.int .i64 er]);simp[wpOpsS,go_sem,Exit.thenS,eB,hq]
 refine wpS_cond (t:=true) (by simp[Act.eval,Array.replicate]) ?_;simp only[if_true];refine wpS_of_wp ?_;simp only[Array.replicate_succ,Array.replicate_zero,List.push_toArray,List.append_toArray,sAq,sZq,sSq,nAq,cAq];have GZ:=dS er;obtain⟨⟨p0,p1,p2,p3,p4,p5,p6⟩,⟨g0,g1,g2,g3,g4,g5,g6⟩,zp,CK,CO⟩:=HL.out.og 0 rfl;obtain⟨q0,q1,zq,Fb,Fg⟩:=HL.out.c1 1 rfl;have hpq:=HL.out.ne 0 1 rfl rfl (by decide);have F9:=Ne.symm hpq;have hp1:p≠w.heap.size:=by omega
 have hp2:p≠w.heap.size+1:=by omega
 have hq1:q≠w.heap.size:=by omega
 have hq2:q≠w.heap.size+1:=by omega
 clear hu hq;go_upto_region 6 with fail
 refine ay ?_;intro w3 hw3;have Ec:=hdq (BD.aB (a:=[_,_]) (b:=l) (c:=[_,_]) (by simpa using HL.out.DZ hw3));simp only[nAq,cAq]at Ec;generalize hb5:w.heap.size+1=b5 at Ec|-;generalize hb3:w.heap.size=b3 at Ec|-;clear hw3 hb5 hb3 HL p0 p1 p2 p3 p4 p5 p6 g0 g1 g2 g3 g4 g5 g6 zp CK CO q0 q1 zq Fb Fg hpq F9 hp1 hp2 hq1 hq2 GZ;obtain⟨⟨p0,p1,p2,p3,p4,p5,p6⟩,⟨g0,g1,g2,g3,g4,g5,g6⟩,zp,CK,CO⟩:=Ec.out.og 0 rfl;obtain⟨q0,q1,zq,Fb,Fg⟩:=Ec.out.c1 1 rfl;obtain⟨r0,_,zr,_,_⟩:=Ec.out.c1 2 rfl;obtain⟨⟨s0,s1,s2,s3,s4,s5,s6⟩,_,zs,_,_⟩:=Ec.out.og 3 rfl;have h01:=Ec.out.ne 0 1 rfl rfl (by decide);have h02:=Ec.out.ne 0 2 rfl rfl (by decide);have h03:=Ec.out.ne 0 3 rfl rfl (by decide);have h12:=Ec.out.ne 1 2 rfl rfl (by decide);have FY:=Ec.out.ne 1 3 rfl rfl (by decide);go_wp2_with fail
 refine hrq (S:=fun w'=>w'.cell? ⟨b3,0,none⟩=some (.int .i64 er)/\w'.cell? ⟨b5,0,none⟩=some (.int .i64 0)/\w'.cell? ⟨b5,1,none⟩=some (.int .i64 0)/\w'.cell? ⟨b5,2,none⟩=some (.int .i64 0)/\w'.cell? ⟨b5,3,none⟩=some (.int .i64 0)/\w'.cell? ⟨b5,4,none⟩=some (.int .i64 0)/\w'.cell? ⟨b5,5,none⟩=some (.int .i64 0)/\w'.cell? ⟨b5,6,none⟩=some (.slice none 0 0)) fun hHeld=>?_;refine tkq 0 17 ?_;refine tkq 1 18 ?_;refine tkq 2 19 ?_;refine opq 3 fun hHeld=>?_;refine opq 4 fun hHeld=>?_;refine dnq ?_;have BF:=hdq ((((((((Ec.out.set 0 rfl 0 (.int .i64 0)).set 0 rfl 1 (.int .i64 0)).set 0 rfl 2 (.int .i64 0)).set 0 rfl 3 (.int .i64 0)).set 0 rfl 4 (.int .i64 0)).set 0 rfl 5 (.int .i64 0)).set 0 rfl 6 (.slice none 0 0)).set 1 rfl 0 (.int .i64 er)).drew;simp only[sSq,sZq,sAq]at BF;have BH:=hdq (BD.aF (l:=[_,_]++l) (BD.aB (a:=[_,_]) (b:=[_,_]) (c:=l) BF.out));exact⟨rfl,_,rfl,.tuple #[],results_none rfl _ _ _,rfl,rfl,BH.out⟩
theorem nO(w:World)(p q:Addr):CallsD Tryz.prog 218 #[.pointer (some p),.pointer (some q)] .returning w fun e u' w'=>e= .returned (.tuple #[])/\u'= .returning/\w=w':=by
 refine callsD_of_wpS Tryz.func218 rfl fun c₀ cs hu=>?_;apply wpS_seq
 apply wpS_region
 simp[wpOpsS,go_sem,recoverD,hu,Tryz.ntmps218,Exit.thenS]
 apply wpS_seq
 apply wpS_region
 have hq:∀w,(binOp .neq 20 .nilIface .nilIface).run Tryz.prog w= .ok (.bool false) w:=fun w=>by kernel_rfl
 simp[wpOpsS,go_sem,Exit.thenS,hq]
 refine wpS_cond (t:=false) (by simp[Act.eval,Array.replicate]) ?_;simp only[Bool.false_eq_true,if_false];refine wpS_of_wp (wp_skip ?_);cases c₀
 simp_all [bodyPostS,results,Tryz.results218]
theorem rG(T:List Nat)(w0 w:World)(l:List ai)(D:FuncId)(caps:Array Value)(R:dP->Int->List ai->Prop)(h:BD T w0 w l)(hen:∀args w,(callFunc D args).run Tryz.prog w= .ok (.enter D args) w)(hd:∀T' W,BD T' W W l->Calls Tryz.prog D caps W fun e w'=>∃(v:dP) (er:Int) (l':List ai),((er=0/\e= .returned v.val)\/(v=dP.zero/\e= .panicked (aX er)))/\R v er l'/\BD T' W w' l'):
  Calls Tryz.prog 135 #[.func (.func D) #[] caps] w fun e w'=>∃(v:dP) (er:Int) (l':List ai),e= .returned (.tuple #[v.val,.int .i64 er])/\R v er l'/\BD T w0 w' l':=by
 have Ep:= @mfq;have BG:=hdq h;have HD:=hdq hd;clear h hd;go_enter_defers Tryz.func135,Tryz.ntmps135
 go_wp2_with fail
 refine ah ?_;intro w1 hw1;have BB:=hdq (BG.out.DZ hw1);generalize hq:w.heap.size+1=q at BB|-;generalize hp:w.heap.size=p at BB|-;clear hw1 hq hp BG;obtain⟨T',hF,hb⟩:=BD.aN (m:=l) (r:=[box p 47 #[.int .i64 0,.int .i64 0,.int .i64 0,.int .i64 0,.int .i64 0,.int .i64 0,.slice none 0 0],box q 26 #[.int .i64 0]]) (by simpa using BB.out);refine(HD.out T' _ hF).mono ?_;rintro e w2 ⟨v,er,l',he,hR,hL⟩;have HL2:=hdq (BD.aB (a:=[]) (b:=l') (c:=[box p 47 #[.int .i64 0,.int .i64 0,.int .i64 0,.int .i64 0,.int .i64 0,.int .i64 0,.slice none 0 0],box q 26 #[.int .i64 0]]) (by simpa using hb _ _ hL));simp only[nAq,cAq]at HL2;have HR:=hdq hR;clear hL hR hF hb BB HD;rcases he with ⟨rfl,rfl⟩|⟨rfl,rfl⟩
 .obtain⟨⟨p0,p1,p2,p3,p4,p5,p6⟩,⟨g0,g1,g2,g3,g4,g5,g6⟩,zp,CK,CO⟩:=HL2.out.og 0 rfl
  obtain⟨q0,q1,zq,_,_⟩:=HL2.out.c1 1 rfl;have hpq:=HL2.out.ne 0 1 rfl rfl (by decide);have F9:=Ne.symm hpq;have BF:=hdq ((((((((HL2.out.set 0 rfl 0 (.int .i64 v.sync)).set 0 rfl 1 (.int .i64 v.thread)).set 0 rfl 2 (.int .i64 v.branch)).set 0 rfl 3 (.int .i64 v.flag)).set 0 rfl 4 (.int .i64 v.kind)).set 0 rfl 5 (.int .i64 v.num)).set 0 rfl 6 (.slice v.lA v.lN v.lC)).set 1 rfl 0 (.int .i64 0));simp only[sSq,sZq,sAq]at BF;unfold dP.val;dsimp only;go_wp2_with fail
  refine leaves_cons (f:=218) (args:=#[.pointer (some ⟨p,0,none⟩),.pointer (some ⟨q,0,none⟩)]) (by simp) (by simp[go_sem]) ?_;refine(nO _ _ _).mono ?_;rintro e u' w'' ⟨rfl,rfl,rfl⟩;obtain⟨⟨s0,s1,s2,s3,s4,s5,s6⟩,_,_,_,_⟩:=BF.out.og 0 rfl;obtain⟨r1,_,_,_,_⟩:=BF.out.c1 1 rfl;refine⟨.tuple #[.agg #[.int .i64 v.sync,.int .i64 v.thread,.int .i64 v.branch,.int .i64 v.flag,.int .i64 v.kind,.int .i64 v.num,.slice v.lA v.lN v.lC],.int .i64 0],by simp[results,Tryz.results135,go_sem,r1,s0,s1,s2,s3,s4,s5,s6],v,0,l',rfl,HR.out,?_⟩;exact BD.aF (BD.aB (a:=[]) (b:=[_,_]) (c:=l') BF.out)
 .dsimp only
  refine leaves_cons (f:=218) (args:=#[.pointer (some ⟨p,0,none⟩),.pointer (some ⟨q,0,none⟩)]) (by simp) (by simp[go_sem]) ?_;refine(o8 T w0 w2 l' p q dP.zero 0 er HL2.out).mono ?_;rintro e u' w'' ⟨rfl,rfl,hL⟩;have BF:=hdq hL;obtain⟨⟨s0,s1,s2,s3,s4,s5,s6⟩,_,_,_,_⟩:=BF.out.og 0 rfl;obtain⟨r1,_,_,_,_⟩:=BF.out.c1 1 rfl;refine⟨.tuple #[.agg #[.int .i64 0,.int .i64 0,.int .i64 0,.int .i64 0,.int .i64 0,.int .i64 0,.slice none 0 0],.int .i64 er],by simp[results,Tryz.results135,go_sem,r1,s0,s1,s2,s3,s4,s5,s6],dP.zero,er,l',rfl,HR.out,?_⟩;exact BD.aF (BD.aB (a:=[]) (b:=[_,_]) (c:=l') BF.out)
structure bL where
 thread:Int
 jr:Option Addr
 gm:Nat
 jv:Nat
 ko:Option Addr
 kz:Nat
 jR:Nat
 flag:Int
 parked:Bool
 done:Bool
 branch:Int
 kind:Int
 num:Int
 lA:Option Addr
 lN:Nat
 lC:Nat
 partner:Int
def bL.zero:bL:=⟨0,none,0,0,none,0,0,0,false,false,0,0,0,none,0,0,0⟩
def bL.val(v:bL):Value:= .agg #[.int .i64 v.thread,.slice v.jr v.gm v.jv,.slice v.ko v.kz v.jR,.int .i64 v.flag,.bool v.parked,.bool v.done,.int .i64 v.branch,.int .i64 v.kind,.int .i64 v.num,.slice v.lA v.lN v.lC,.int .i64 v.partner]
theorem bL.eG(v:bL):v.val= .agg #[.int .i64 v.thread,.slice v.jr v.gm v.jv,.slice v.ko v.kz v.jR,.int .i64 v.flag,.bool v.parked,.bool v.done,.int .i64 v.branch,.int .i64 v.kind,.int .i64 v.num,.slice v.lA v.lN v.lC,.int .i64 v.partner]:=rfl
theorem BD.sM{T:List Nat}{w0 w:World}{l:List ai}{b t:Nat}(h:BD T w0 w l)(i:Nat){x0 x1 x2 x3 x4 x5 x6 x7 x8 x9 x10:Value}(hi:l[i]? =some (Proofs.YtddnnapoaonmjaaGreatDoor.box b t #[x0,x1,x2,x3,x4,x5,x6,x7,x8,x9,x10])):(w.cell? ⟨b,0,none⟩=some x0/\w.cell? ⟨b,1,none⟩=some x1/\w.cell? ⟨b,2,none⟩=some x2/\w.cell? ⟨b,3,none⟩=some x3/\w.cell? ⟨b,4,none⟩=some x4/\w.cell? ⟨b,5,none⟩=some x5/\w.cell? ⟨b,6,none⟩=some x6/\w.cell? ⟨b,7,none⟩=some x7/\w.cell? ⟨b,8,none⟩=some x8/\w.cell? ⟨b,9,none⟩=some x9/\w.cell? ⟨b,10,none⟩=some x10)/\(w.frozen? ⟨b,0,none⟩=false/\w.frozen? ⟨b,1,none⟩=false/\w.frozen? ⟨b,2,none⟩=false/\w.frozen? ⟨b,3,none⟩=false/\w.frozen? ⟨b,4,none⟩=false/\w.frozen? ⟨b,5,none⟩=false/\w.frozen? ⟨b,6,none⟩=false/\w.frozen? ⟨b,7,none⟩=false/\w.frozen? ⟨b,8,none⟩=false/\w.frozen? ⟨b,9,none⟩=false/\w.frozen? ⟨b,10,none⟩=false)/\b<w.heap.size/\b<w.heap.size+1/\b<w.heap.size+1+1:=by
 have hb:=h.box i hi;have hl:=hb.lt;exact⟨⟨hb.cell 0,hb.cell 1,hb.cell 2,hb.cell 3,hb.cell 4,hb.cell 5,hb.cell 6,hb.cell 7,hb.cell 8,hb.cell 9,hb.cell 10⟩,⟨hb.frozen 0,hb.frozen 1,hb.frozen 2,hb.frozen 3,hb.frozen 4,hb.frozen 5,hb.frozen 6,hb.frozen 7,hb.frozen 8,hb.frozen 9,hb.frozen 10⟩,hl,ltq hl,ltq (ltq hl)⟩
theorem qR(T:List Nat)(w0 w:World)(l:List ai)(p q:Nat)(v:bL)(FP er:Int)(h:BD T w0 w (box p 61 #[.int .i64 v.thread,.slice v.jr v.gm v.jv,.slice v.ko v.kz v.jR,.int .i64 v.flag,.bool v.parked,.bool v.done,.int .i64 v.branch,.int .i64 v.kind,.int .i64 v.num,.slice v.lA v.lN v.lC,.int .i64 v.partner]::box q 26 #[.int .i64 FP]::l)):
  CallsD Tryz.prog 172 #[.pointer (some ⟨p,0,none⟩),.pointer (some ⟨q,0,none⟩)] (.panicking (aX er)) w fun e u' w'=>e= .returned (.tuple #[])/\u'= .panicking [{v:=eB er,recovered:=true}]/\BD T w0 w' (box p 61 #[.int .i64 0,.slice none 0 0,.slice none 0 0,.int .i64 0,.bool false,.bool false,.int .i64 0,.int .i64 0,.int .i64 0,.slice none 0 0,.int .i64 0]::box q 26 #[.int .i64 er]::l):=by
 have HL:=hdq h;clear h;refine callsD_of_wpS Tryz.func172 rfl fun c₀ cs hu=>?_;apply wpS_seq
 apply wpS_region
 simp[wpOpsS,go_sem,recoverD,hu,Tryz.ntmps172,Exit.thenS,aX]
 apply wpS_seq
 apply wpS_region
 have hq:=l8 232 (.agg #[.int .i64 er]);simp[wpOpsS,go_sem,Exit.thenS,eB,hq]
 refine wpS_cond (t:=true) (by simp[Act.eval,Array.replicate]) ?_;simp only[if_true];refine wpS_of_wp ?_;simp only[Array.replicate_succ,Array.replicate_zero,List.push_toArray,List.append_toArray,sAq,sZq,sSq,nAq,cAq];have GZ:=dS er;obtain⟨⟨p0,p1,p2,p3,p4,p5,p6,p7,p8,p9,Ef⟩,⟨g0,g1,g2,g3,g4,g5,g6,g7,g8,g9,g10⟩,zp,CK,CO⟩:=HL.out.sM 0 rfl;obtain⟨q0,q1,zq,Fb,Fg⟩:=HL.out.c1 1 rfl;have hpq:=HL.out.ne 0 1 rfl rfl (by decide);have F9:=Ne.symm hpq;have hp1:p≠w.heap.size:=by omega
 have hp2:p≠w.heap.size+1:=by omega
 have hq1:q≠w.heap.size:=by omega
 have hq2:q≠w.heap.size+1:=by omega
 clear hu hq;go_upto_region 6 with fail
 refine ay ?_;intro w3 hw3;have Ec:=hdq (BD.aB (a:=[_,_]) (b:=l) (c:=[_,_]) (by simpa using HL.out.DZ hw3));simp only[nAq,cAq]at Ec;generalize hb5:w.heap.size+1=b5 at Ec|-;generalize hb3:w.heap.size=b3 at Ec|-;clear hw3 hb5 hb3 HL p0 p1 p2 p3 p4 p5 p6 p7 p8 p9 Ef g0 g1 g2 g3 g4 g5 g6 g7 g8 g9 g10 zp CK CO q0 q1 zq Fb Fg hpq F9 hp1 hp2 hq1 hq2 GZ;obtain⟨⟨p0,p1,p2,p3,p4,p5,p6,p7,p8,p9,Ef⟩,⟨g0,g1,g2,g3,g4,g5,g6,g7,g8,g9,g10⟩,zp,CK,CO⟩:=Ec.out.sM 0 rfl;obtain⟨q0,q1,zq,Fb,Fg⟩:=Ec.out.c1 1 rfl;obtain⟨r0,_,zr,_,_⟩:=Ec.out.c1 2 rfl;obtain⟨⟨s0,s1,s2,s3,s4,s5,s6,s7,s8,s9,s10⟩,_,zs,_,_⟩:=Ec.out.sM 3 rfl;have h01:=Ec.out.ne 0 1 rfl rfl (by decide);have h02:=Ec.out.ne 0 2 rfl rfl (by decide);have h03:=Ec.out.ne 0 3 rfl rfl (by decide);have h12:=Ec.out.ne 1 2 rfl rfl (by decide);have FY:=Ec.out.ne 1 3 rfl rfl (by decide);go_wp2_with fail
 refine hrq (S:=fun w'=>w'.cell? ⟨b3,0,none⟩=some (.int .i64 er)/\w'.cell? ⟨b5,0,none⟩=some (.int .i64 0)/\w'.cell? ⟨b5,1,none⟩=some (.slice none 0 0)/\w'.cell? ⟨b5,2,none⟩=some (.slice none 0 0)/\w'.cell? ⟨b5,3,none⟩=some (.int .i64 0)/\w'.cell? ⟨b5,4,none⟩=some (.bool false)/\w'.cell? ⟨b5,5,none⟩=some (.bool false)/\w'.cell? ⟨b5,6,none⟩=some (.int .i64 0)/\w'.cell? ⟨b5,7,none⟩=some (.int .i64 0)/\w'.cell? ⟨b5,8,none⟩=some (.int .i64 0)/\w'.cell? ⟨b5,9,none⟩=some (.slice none 0 0)/\w'.cell? ⟨b5,10,none⟩=some (.int .i64 0)) fun hHeld=>?_;refine tkq 0 17 ?_;refine tkq 1 18 ?_;refine tkq 2 19 ?_;refine opq 3 fun hHeld=>?_;refine opq 4 fun hHeld=>?_;refine dnq ?_;have BF:=hdq ((((((((((((Ec.out.set 0 rfl 0 (.int .i64 0)).set 0 rfl 1 (.slice none 0 0)).set 0 rfl 2 (.slice none 0 0)).set 0 rfl 3 (.int .i64 0)).set 0 rfl 4 (.bool false)).set 0 rfl 5 (.bool false)).set 0 rfl 6 (.int .i64 0)).set 0 rfl 7 (.int .i64 0)).set 0 rfl 8 (.int .i64 0)).set 0 rfl 9 (.slice none 0 0)).set 0 rfl 10 (.int .i64 0)).set 1 rfl 0 (.int .i64 er)).drew;simp only[sSq,sZq,sAq]at BF;have BH:=hdq (BD.aF (l:=[_,_]++l) (BD.aB (a:=[_,_]) (b:=[_,_]) (c:=l) BF.out));exact⟨rfl,_,rfl,.tuple #[],results_none rfl _ _ _,rfl,rfl,BH.out⟩
theorem oZ(w:World)(p q:Addr):CallsD Tryz.prog 172 #[.pointer (some p),.pointer (some q)] .returning w fun e u' w'=>e= .returned (.tuple #[])/\u'= .returning/\w=w':=by
 refine callsD_of_wpS Tryz.func172 rfl fun c₀ cs hu=>?_;apply wpS_seq
 apply wpS_region
 simp[wpOpsS,go_sem,recoverD,hu,Tryz.ntmps172,Exit.thenS]
 apply wpS_seq
 apply wpS_region
 have hq:∀w,(binOp .neq 20 .nilIface .nilIface).run Tryz.prog w= .ok (.bool false) w:=fun w=>by kernel_rfl
 simp[wpOpsS,go_sem,Exit.thenS,hq]
 refine wpS_cond (t:=false) (by simp[Act.eval,Array.replicate]) ?_;simp only[Bool.false_eq_true,if_false];refine wpS_of_wp (wp_skip ?_);cases c₀
 simp_all [bodyPostS,results,Tryz.results172]
theorem sZ(T:List Nat)(w0 w:World)(l:List ai)(D:FuncId)(caps:Array Value)(R:bL->Int->List ai->Prop)(h:BD T w0 w l)(hen:∀args w,(callFunc D args).run Tryz.prog w= .ok (.enter D args) w)(hd:∀T' W,BD T' W W l->Calls Tryz.prog D caps W fun e w'=>∃(v:bL) (er:Int) (l':List ai),((er=0/\e= .returned v.val)\/(v=bL.zero/\e= .panicked (aX er)))/\R v er l'/\BD T' W w' l'):
  Calls Tryz.prog 64 #[.func (.func D) #[] caps] w fun e w'=>∃(v:bL) (er:Int) (l':List ai),e= .returned (.tuple #[v.val,.int .i64 er])/\R v er l'/\BD T w0 w' l':=by
 have Ep:= @mfq;have BG:=hdq h;have HD:=hdq hd;clear h hd;go_enter_defers Tryz.func64,Tryz.ntmps64
 go_wp2_with fail
 refine ah ?_;intro w1 hw1;have BB:=hdq (BG.out.DZ hw1);generalize hq:w.heap.size+1=q at BB|-;generalize hp:w.heap.size=p at BB|-;clear hw1 hq hp BG;obtain⟨T',hF,hb⟩:=BD.aN (m:=l) (r:=[box p 61 #[.int .i64 0,.slice none 0 0,.slice none 0 0,.int .i64 0,.bool false,.bool false,.int .i64 0,.int .i64 0,.int .i64 0,.slice none 0 0,.int .i64 0],box q 26 #[.int .i64 0]]) (by simpa using BB.out);refine(HD.out T' _ hF).mono ?_;rintro e w2 ⟨v,er,l',he,hR,hL⟩;have HL2:=hdq (BD.aB (a:=[]) (b:=l') (c:=[box p 61 #[.int .i64 0,.slice none 0 0,.slice none 0 0,.int .i64 0,.bool false,.bool false,.int .i64 0,.int .i64 0,.int .i64 0,.slice none 0 0,.int .i64 0],box q 26 #[.int .i64 0]]) (by simpa using hb _ _ hL));simp only[nAq,cAq]at HL2;have HR:=hdq hR;clear hL hR hF hb BB HD;rcases he with ⟨rfl,rfl⟩|⟨rfl,rfl⟩
 .obtain⟨⟨p0,p1,p2,p3,p4,p5,p6,p7,p8,p9,Ef⟩,⟨g0,g1,g2,g3,g4,g5,g6,g7,g8,g9,g10⟩,zp,CK,CO⟩:=HL2.out.sM 0 rfl
  obtain⟨q0,q1,zq,_,_⟩:=HL2.out.c1 1 rfl;have hpq:=HL2.out.ne 0 1 rfl rfl (by decide);have F9:=Ne.symm hpq;have BF:=hdq ((((((((((((HL2.out.set 0 rfl 0 (.int .i64 v.thread)).set 0 rfl 1 (.slice v.jr v.gm v.jv)).set 0 rfl 2 (.slice v.ko v.kz v.jR)).set 0 rfl 3 (.int .i64 v.flag)).set 0 rfl 4 (.bool v.parked)).set 0 rfl 5 (.bool v.done)).set 0 rfl 6 (.int .i64 v.branch)).set 0 rfl 7 (.int .i64 v.kind)).set 0 rfl 8 (.int .i64 v.num)).set 0 rfl 9 (.slice v.lA v.lN v.lC)).set 0 rfl 10 (.int .i64 v.partner)).set 1 rfl 0 (.int .i64 0));simp only[sSq,sZq,sAq]at BF;unfold bL.val;dsimp only;go_wp2_with fail
  refine leaves_cons (f:=172) (args:=#[.pointer (some ⟨p,0,none⟩),.pointer (some ⟨q,0,none⟩)]) (by simp) (by simp[go_sem]) ?_;refine(oZ _ _ _).mono ?_;rintro e u' w'' ⟨rfl,rfl,rfl⟩;obtain⟨⟨s0,s1,s2,s3,s4,s5,s6,s7,s8,s9,s10⟩,_,_,_,_⟩:=BF.out.sM 0 rfl;obtain⟨r1,_,_,_,_⟩:=BF.out.c1 1 rfl;refine⟨.tuple #[.agg #[.int .i64 v.thread,.slice v.jr v.gm v.jv,.slice v.ko v.kz v.jR,.int .i64 v.flag,.bool v.parked,.bool v.done,.int .i64 v.branch,.int .i64 v.kind,.int .i64 v.num,.slice v.lA v.lN v.lC,.int .i64 v.partner],.int .i64 0],by simp[results,Tryz.results64,go_sem,r1,s0,s1,s2,s3,s4,s5,s6,s7,s8,s9,s10],v,0,l',rfl,HR.out,?_⟩;exact BD.aF (BD.aB (a:=[]) (b:=[_,_]) (c:=l') BF.out)
 .dsimp only
  refine leaves_cons (f:=172) (args:=#[.pointer (some ⟨p,0,none⟩),.pointer (some ⟨q,0,none⟩)]) (by simp) (by simp[go_sem]) ?_;refine(qR T w0 w2 l' p q bL.zero 0 er HL2.out).mono ?_;rintro e u' w'' ⟨rfl,rfl,hL⟩;have BF:=hdq hL;obtain⟨⟨s0,s1,s2,s3,s4,s5,s6,s7,s8,s9,s10⟩,_,_,_,_⟩:=BF.out.sM 0 rfl;obtain⟨r1,_,_,_,_⟩:=BF.out.c1 1 rfl;refine⟨.tuple #[.agg #[.int .i64 0,.slice none 0 0,.slice none 0 0,.int .i64 0,.bool false,.bool false,.int .i64 0,.int .i64 0,.int .i64 0,.slice none 0 0,.int .i64 0],.int .i64 er],by simp[results,Tryz.results64,go_sem,r1,s0,s1,s2,s3,s4,s5,s6,s7,s8,s9,s10],bL.zero,er,l',rfl,HR.out,?_⟩;exact BD.aF (BD.aB (a:=[]) (b:=[_,_]) (c:=l') BF.out)
def Fe(w:World)(b g:Nat)(v1 v2 v3:Value):Prop:=w.cell? ⟨b,0,none⟩=some (.pointer (some ⟨g,0,none⟩))/\w.cell? ⟨b,1,none⟩=some v1/\w.cell? ⟨b,2,none⟩=some v2/\w.cell? ⟨b,3,none⟩=some v3
theorem Fe.touch{w w':World}{b g:Nat}{v1 v2 v3:Value}(h:Fe w b g v1 v2 v3)(ht:Touch [] w w'):Fe w' b g v1 v2 v3:=⟨ht.cellOf h.1,ht.cellOf h.2.1,ht.cellOf h.2.2.1,ht.cellOf h.2.2.2⟩
theorem Fe.lt{w:World}{b g:Nat}{v1 v2 v3:Value}(h:Fe w b g v1 v2 v3):b<w.heap.size:=World.block_lt_of_cell? _ _ h.1
theorem dG(w:World)(b g:Nat)(v1 v2 v3:Value)(h:Fe w b g v1 v2 v3):Calls Tryz.prog 49 #[.pointer (some ⟨b,0,none⟩)] w fun e w'=>e= .returned (.bool false)/\w=w':=by
 have hl:=h.lt;obtain⟨h0,h1,h2,h3⟩:=h;clear h1 h2 h3;go_enter Tryz.func49,Tryz.ntmps49
 go_wp2;go_ret
 exact⟨rfl,rfl⟩
theorem rQ(w:World)(b g bw:Nat)(v1 v2 v3:Value)(h:Fe w b g v1 v2 v3)(hb:w.cell? ⟨bw,0,none⟩=some (.pointer (some ⟨b,0,none⟩)))(a:Option Addr)(m c:Nat)(hv:v3= .slice a m c):Calls Tryz.prog 174 #[.pointer (some ⟨bw,0,none⟩)] w fun e w'=>e= .returned (.slice a m c)/\w=w':=by
 have hl:=h.lt;have hbl:bw<w.heap.size:=World.block_lt_of_cell? _ _ hb;subst hv;obtain⟨h0,h1,h2,h3⟩:=h;go_enter Tryz.func174,Tryz.ntmps174
 go_wp2;go_ret
 exact⟨rfl,rfl⟩
theorem uF(w:World)(b g bw:Nat)(v1 v2 v3:Value)(h:Fe w b g v1 v2 v3)(hb:w.cell? ⟨bw,0,none⟩=some (.pointer (some ⟨b,0,none⟩)))(bb o m c:Nat)(hv:v3= .slice (some ⟨bb,o,none⟩) m c)(k:Nat)(hk:k<m):
  Calls Tryz.prog 173 #[.pointer (some ⟨b,0,none⟩),.int .i64 (k:Int),.func (.func 174) #[] #[.pointer (some ⟨bw,0,none⟩)]] w fun e w'=>e= .returned (.pointer (some ⟨bb,o+k*11,none⟩))/\w=w':=by
 have HN:=hdq (dG w b g v1 v2 v3 h);have JS:=hdq (rQ w b g bw v1 v2 v3 h hb _ m c hv);have hk0:(0:Int)<=(k:Int):=by omega
 have hk1:(k:Int)<(m:Int):=by omega
 clear h hb hv;go_enter Tryz.func173,Tryz.ntmps173
 go_wp2_with fail
 refine HN.out.mono ?_;rintro e w' ⟨rfl,rfl⟩;go_wp2_with fail
 refine(require_ok _ _).mono ?_;rintro e w' ⟨rfl,rfl⟩;go_wp2_with fail
 refine JS.out.mono ?_;rintro e w' ⟨rfl,rfl⟩;go_wp2_with fail
 refine(require_ok _ _).mono ?_;rintro e w' ⟨rfl,rfl⟩;dsimp only;go_wp2;go_ret
 exact⟨rfl,rfl⟩
theorem rq(w:World)(b g bw:Nat)(v1 v2 v3:Value)(h:Fe w b g v1 v2 v3)(hb:w.cell? ⟨bw,0,none⟩=some (.pointer (some ⟨b,0,none⟩)))(a:Option Addr)(m c:Nat)(hv:v3= .slice a m c)(k:Int)(hk:¬(0<=k/\k<(m:Int))):
  Calls Tryz.prog 173 #[.pointer (some ⟨b,0,none⟩),.int .i64 k,.func (.func 174) #[] #[.pointer (some ⟨bw,0,none⟩)]] w fun e w'=>e= .panicked (aX 4)/\w=w':=by
 have HN:=hdq (dG w b g v1 v2 v3 h);have JS:=hdq (rQ w b g bw v1 v2 v3 h hb a m c hv);clear h hb hv;go_enter Tryz.func173,Tryz.ntmps173
 go_wp2_with fail
 refine HN.out.mono ?_;rintro e w' ⟨rfl,rfl⟩;go_wp2_with fail
 refine(require_ok _ _).mono ?_;rintro e w' ⟨rfl,rfl⟩;go_wp2_with fail
 refine JS.out.mono ?_;rintro e w' ⟨rfl,rfl⟩;by_cases hk0:0<=k
 .have hk2:¬k<(m:Int):=fun h=>hk ⟨hk0,h⟩
  have hd2:decide (k<(m:Int))=false:=by simpa using hk2
  have hd3:decide (0<=k)=true:=by simpa using hk0
  clear hk;go_wp2_with fail
  refine(aY _ _).mono ?_;rintro e w' ⟨rfl,rfl⟩;dsimp only;exact⟨rfl,rfl,rfl⟩
 .have hd3:decide (0<=k)=false:=by simpa using hk0
  clear hk;go_wp2_with fail
  refine(aY _ _).mono ?_;rintro e w' ⟨rfl,rfl⟩;dsimp only;exact⟨rfl,rfl,rfl⟩
theorem rO(w:World)(b g bw:Nat)(v1 v2 v3:Value)(h:Fe w b g v1 v2 v3)(hb:w.cell? ⟨bw,0,none⟩=some (.pointer (some ⟨b,0,none⟩)))(a:Option Addr)(m c:Nat)(hv:v2= .slice a m c):Calls Tryz.prog 202 #[.pointer (some ⟨bw,0,none⟩)] w fun e w'=>e= .returned (.slice a m c)/\w=w':=by
 have hl:=h.lt;have hbl:bw<w.heap.size:=World.block_lt_of_cell? _ _ hb;subst hv;obtain⟨h0,h1,h2,h3⟩:=h;go_enter Tryz.func202,Tryz.ntmps202
 go_wp2;go_ret
 exact⟨rfl,rfl⟩
theorem tY(w:World)(b g bw:Nat)(v1 v2 v3:Value)(h:Fe w b g v1 v2 v3)(hb:w.cell? ⟨bw,0,none⟩=some (.pointer (some ⟨b,0,none⟩)))(bb o m c:Nat)(hv:v2= .slice (some ⟨bb,o,none⟩) m c)(k:Nat)(hk:k<m):
  Calls Tryz.prog 201 #[.pointer (some ⟨b,0,none⟩),.int .i64 (k:Int),.func (.func 202) #[] #[.pointer (some ⟨bw,0,none⟩)]] w fun e w'=>e= .returned (.pointer (some ⟨bb,o+k,none⟩))/\w=w':=by
 have HN:=hdq (dG w b g v1 v2 v3 h);have JS:=hdq (rO w b g bw v1 v2 v3 h hb _ m c hv);have hk0:(0:Int)<=(k:Int):=by omega
 have hk1:(k:Int)<(m:Int):=by omega
 clear h hb hv;go_enter Tryz.func201,Tryz.ntmps201
 go_wp2_with fail
 refine HN.out.mono ?_;rintro e w' ⟨rfl,rfl⟩;go_wp2_with fail
 refine(require_ok _ _).mono ?_;rintro e w' ⟨rfl,rfl⟩;go_wp2_with fail
 refine JS.out.mono ?_;rintro e w' ⟨rfl,rfl⟩;go_wp2_with fail
 refine(require_ok _ _).mono ?_;rintro e w' ⟨rfl,rfl⟩;dsimp only;go_wp2;go_ret
 exact⟨rfl,rfl⟩
theorem ru(w:World)(b g bw:Nat)(v1 v2 v3:Value)(h:Fe w b g v1 v2 v3)(hb:w.cell? ⟨bw,0,none⟩=some (.pointer (some ⟨b,0,none⟩)))(a:Option Addr)(m c:Nat)(hv:v2= .slice a m c)(k:Int)(hk:¬(0<=k/\k<(m:Int))):
  Calls Tryz.prog 201 #[.pointer (some ⟨b,0,none⟩),.int .i64 k,.func (.func 202) #[] #[.pointer (some ⟨bw,0,none⟩)]] w fun e w'=>e= .panicked (aX 4)/\w=w':=by
 have HN:=hdq (dG w b g v1 v2 v3 h);have JS:=hdq (rO w b g bw v1 v2 v3 h hb a m c hv);clear h hb hv;go_enter Tryz.func201,Tryz.ntmps201
 go_wp2_with fail
 refine HN.out.mono ?_;rintro e w' ⟨rfl,rfl⟩;go_wp2_with fail
 refine(require_ok _ _).mono ?_;rintro e w' ⟨rfl,rfl⟩;go_wp2_with fail
 refine JS.out.mono ?_;rintro e w' ⟨rfl,rfl⟩;by_cases hk0:0<=k
 .have hk2:¬k<(m:Int):=fun h=>hk ⟨hk0,h⟩
  have hd2:decide (k<(m:Int))=false:=by simpa using hk2
  have hd3:decide (0<=k)=true:=by simpa using hk0
  clear hk;go_wp2_with fail
  refine(aY _ _).mono ?_;rintro e w' ⟨rfl,rfl⟩;dsimp only;exact⟨rfl,rfl,rfl⟩
 .have hd3:decide (0<=k)=false:=by simpa using hk0
  clear hk;go_wp2_with fail
  refine(aY _ _).mono ?_;rintro e w' ⟨rfl,rfl⟩;dsimp only;exact⟨rfl,rfl,rfl⟩
theorem sJ(w:World)(b g bw:Nat)(v1 v2 v3:Value)(h:Fe w b g v1 v2 v3)(hb:w.cell? ⟨bw,0,none⟩=some (.pointer (some ⟨b,0,none⟩)))(a:Option Addr)(m c:Nat)(hv:v1= .slice a m c):Calls Tryz.prog 179 #[.pointer (some ⟨bw,0,none⟩)] w fun e w'=>e= .returned (.slice a m c)/\w=w':=by
 have hl:=h.lt;have hbl:bw<w.heap.size:=World.block_lt_of_cell? _ _ hb;subst hv;obtain⟨h0,h1,h2,h3⟩:=h;go_enter Tryz.func179,Tryz.ntmps179
 go_wp2;go_ret
 exact⟨rfl,rfl⟩
theorem um(w:World)(b g bw:Nat)(v1 v2 v3:Value)(h:Fe w b g v1 v2 v3)(hb:w.cell? ⟨bw,0,none⟩=some (.pointer (some ⟨b,0,none⟩)))(bb o m c:Nat)(hv:v1= .slice (some ⟨bb,o,none⟩) m c)(k:Nat)(hk:k<m):
  Calls Tryz.prog 178 #[.pointer (some ⟨b,0,none⟩),.int .i64 (k:Int),.func (.func 179) #[] #[.pointer (some ⟨bw,0,none⟩)]] w fun e w'=>e= .returned (.pointer (some ⟨bb,o+k,none⟩))/\w=w':=by
 have HN:=hdq (dG w b g v1 v2 v3 h);have JS:=hdq (sJ w b g bw v1 v2 v3 h hb _ m c hv);have hk0:(0:Int)<=(k:Int):=by omega
 have hk1:(k:Int)<(m:Int):=by omega
 clear h hb hv;go_enter Tryz.func178,Tryz.ntmps178
 go_wp2_with fail
 refine HN.out.mono ?_;rintro e w' ⟨rfl,rfl⟩;go_wp2_with fail
 refine(require_ok _ _).mono ?_;rintro e w' ⟨rfl,rfl⟩;go_wp2_with fail
 refine JS.out.mono ?_;rintro e w' ⟨rfl,rfl⟩;go_wp2_with fail
 refine(require_ok _ _).mono ?_;rintro e w' ⟨rfl,rfl⟩;dsimp only;go_wp2;go_ret
 exact⟨rfl,rfl⟩
theorem rC(w:World)(b g bw:Nat)(v1 v2 v3:Value)(h:Fe w b g v1 v2 v3)(hb:w.cell? ⟨bw,0,none⟩=some (.pointer (some ⟨b,0,none⟩)))(a:Option Addr)(m c:Nat)(hv:v1= .slice a m c)(k:Int)(hk:¬(0<=k/\k<(m:Int))):
  Calls Tryz.prog 178 #[.pointer (some ⟨b,0,none⟩),.int .i64 k,.func (.func 179) #[] #[.pointer (some ⟨bw,0,none⟩)]] w fun e w'=>e= .panicked (aX 4)/\w=w':=by
 have HN:=hdq (dG w b g v1 v2 v3 h);have JS:=hdq (sJ w b g bw v1 v2 v3 h hb a m c hv);clear h hb hv;go_enter Tryz.func178,Tryz.ntmps178
 go_wp2_with fail
 refine HN.out.mono ?_;rintro e w' ⟨rfl,rfl⟩;go_wp2_with fail
 refine(require_ok _ _).mono ?_;rintro e w' ⟨rfl,rfl⟩;go_wp2_with fail
 refine JS.out.mono ?_;rintro e w' ⟨rfl,rfl⟩;by_cases hk0:0<=k
 .have hk2:¬k<(m:Int):=fun h=>hk ⟨hk0,h⟩
  have hd2:decide (k<(m:Int))=false:=by simpa using hk2
  have hd3:decide (0<=k)=true:=by simpa using hk0
  clear hk;go_wp2_with fail
  refine(aY _ _).mono ?_;rintro e w' ⟨rfl,rfl⟩;dsimp only;exact⟨rfl,rfl,rfl⟩
 .have hd3:decide (0<=k)=false:=by simpa using hk0
  clear hk;go_wp2_with fail
  refine(aY _ _).mono ?_;rintro e w' ⟨rfl,rfl⟩;dsimp only;exact⟨rfl,rfl,rfl⟩
theorem uR(w:World)(b g:Nat)(v1 v2 v3:Value)(h:Fe w b g v1 v2 v3)(bb o m c:Nat)(hv:v1= .slice (some ⟨bb,o,none⟩) m c)(k:Nat)(hk:k<m)(p:Nat)(hp:w.cell? ⟨bb,o+k,none⟩=some (.pointer (some ⟨p,0,none⟩))):
  Calls Tryz.prog 72 #[.pointer (some ⟨b,0,none⟩),.int .i64 (k:Int)] w fun e w'=>e= .returned (.pointer (some ⟨p,0,none⟩))/\Touch [] w w':=by
 have HF:=hdq (fun W bw (hW:Touch [] w W) (hb:W.cell? ⟨bw,0,none⟩=some (.pointer (some ⟨b,0,none⟩)))=>um W b g bw v1 v2 v3 (h.touch hW) hb bb o m c hv k hk);have HT:=hdq ((Touch.refl [] w).alloc (.cells #[.pointer (some ⟨b,0,none⟩)] 25));have HP:=hdq (HT.out.cellOf hp);have Ep:= @mfq;have hbl:bb<w.heap.size:=World.block_lt_of_cell? _ _ hp;clear h hv;go_enter Tryz.func72,Tryz.ntmps72
 go_wp2_with fail
 refine(HF.out _ _ HT.out ?_).mono ?_
 .simp[go_sem]
 rintro e w' ⟨rfl,rfl⟩;have hp2:=HP.out;go_wp2;go_ret
 exact⟨rfl,HT.out⟩
theorem tF(w:World)(b g:Nat)(v1 v2 v3:Value)(h:Fe w b g v1 v2 v3)(a:Option Addr)(m c:Nat)(hv:v1= .slice a m c)(k:Int)(hk:¬(0<=k/\k<(m:Int))):
  Calls Tryz.prog 72 #[.pointer (some ⟨b,0,none⟩),.int .i64 k] w fun e w'=>e= .panicked (aX 4)/\Touch [] w w':=by
 have HF:=hdq (fun W bw (hW:Touch [] w W) (hb:W.cell? ⟨bw,0,none⟩=some (.pointer (some ⟨b,0,none⟩)))=>rC W b g bw v1 v2 v3 (h.touch hW) hb a m c hv k hk);have HT:=hdq ((Touch.refl [] w).alloc (.cells #[.pointer (some ⟨b,0,none⟩)] 25));have Ep:= @mfq;clear h hv hk;go_enter Tryz.func72,Tryz.ntmps72
 go_wp2_with fail
 refine(HF.out _ _ HT.out ?_).mono ?_
 .simp[go_sem]
 rintro e w' ⟨rfl,rfl⟩;dsimp only;exact⟨rfl,rfl,HT.out⟩
theorem wD(w:World)(b g:Nat)(v1 v2 v3:Value)(h:Fe w b g v1 v2 v3)(bb o m c:Nat)(hv:v2= .slice (some ⟨bb,o,none⟩) m c)(k:Nat)(hk:k<m)(p:Nat)(hp:w.cell? ⟨bb,o+k,none⟩=some (.pointer (some ⟨p,0,none⟩))):
  Calls Tryz.prog 107 #[.pointer (some ⟨b,0,none⟩),.int .i64 (k:Int)] w fun e w'=>e= .returned (.pointer (some ⟨p,0,none⟩))/\Touch [] w w':=by
 have HF:=hdq (fun W bw (hW:Touch [] w W) (hb:W.cell? ⟨bw,0,none⟩=some (.pointer (some ⟨b,0,none⟩)))=>tY W b g bw v1 v2 v3 (h.touch hW) hb bb o m c hv k hk);have HT:=hdq ((Touch.refl [] w).alloc (.cells #[.pointer (some ⟨b,0,none⟩)] 25));have HP:=hdq (HT.out.cellOf hp);have Ep:= @mfq;have hbl:bb<w.heap.size:=World.block_lt_of_cell? _ _ hp;clear h hv;go_enter Tryz.func107,Tryz.ntmps107
 go_wp2_with fail
 refine(HF.out _ _ HT.out ?_).mono ?_
 .simp[go_sem]
 rintro e w' ⟨rfl,rfl⟩;have hp2:=HP.out;go_wp2;go_ret
 exact⟨rfl,HT.out⟩
theorem tu(w:World)(b g:Nat)(v1 v2 v3:Value)(h:Fe w b g v1 v2 v3)(a:Option Addr)(m c:Nat)(hv:v2= .slice a m c)(k:Int)(hk:¬(0<=k/\k<(m:Int))):
  Calls Tryz.prog 107 #[.pointer (some ⟨b,0,none⟩),.int .i64 k] w fun e w'=>e= .panicked (aX 4)/\Touch [] w w':=by
 have HF:=hdq (fun W bw (hW:Touch [] w W) (hb:W.cell? ⟨bw,0,none⟩=some (.pointer (some ⟨b,0,none⟩)))=>ru W b g bw v1 v2 v3 (h.touch hW) hb a m c hv k hk);have HT:=hdq ((Touch.refl [] w).alloc (.cells #[.pointer (some ⟨b,0,none⟩)] 25));have Ep:= @mfq;clear h hv hk;go_enter Tryz.func107,Tryz.ntmps107
 go_wp2_with fail
 refine(HF.out _ _ HT.out ?_).mono ?_
 .simp[go_sem]
 rintro e w' ⟨rfl,rfl⟩;dsimp only;exact⟨rfl,rfl,HT.out⟩
theorem vV(w:World)(b g:Nat)(v1 v2 v3:Value)(h:Fe w b g v1 v2 v3)(bb o m c:Nat)(hv:v3= .slice (some ⟨bb,o,none⟩) m c)(k:Nat)(hk:k<m):
  Calls Tryz.prog 66 #[.pointer (some ⟨b,0,none⟩),.int .i64 (k:Int)] w fun e w'=>e= .returned (.pointer (some ⟨bb,o+k*11,none⟩))/\Touch [] w w':=by
 have HF:=hdq (fun W bw (hW:Touch [] w W) (hb:W.cell? ⟨bw,0,none⟩=some (.pointer (some ⟨b,0,none⟩)))=>uF W b g bw v1 v2 v3 (h.touch hW) hb bb o m c hv k hk);have HT:=hdq ((Touch.refl [] w).alloc (.cells #[.pointer (some ⟨b,0,none⟩)] 25));have Ep:= @mfq;clear h hv;go_enter Tryz.func66,Tryz.ntmps66
 go_wp2_with fail
 refine(HF.out _ _ HT.out ?_).mono ?_
 .simp[go_sem]
 rintro e w' ⟨rfl,rfl⟩;go_wp2;go_ret
 exact⟨rfl,HT.out⟩
theorem tq(w:World)(b g:Nat)(v1 v2 v3:Value)(h:Fe w b g v1 v2 v3)(a:Option Addr)(m c:Nat)(hv:v3= .slice a m c)(k:Int)(hk:¬(0<=k/\k<(m:Int))):
  Calls Tryz.prog 66 #[.pointer (some ⟨b,0,none⟩),.int .i64 k] w fun e w'=>e= .panicked (aX 4)/\Touch [] w w':=by
 have HF:=hdq (fun W bw (hW:Touch [] w W) (hb:W.cell? ⟨bw,0,none⟩=some (.pointer (some ⟨b,0,none⟩)))=>rq W b g bw v1 v2 v3 (h.touch hW) hb a m c hv k hk);have HT:=hdq ((Touch.refl [] w).alloc (.cells #[.pointer (some ⟨b,0,none⟩)] 25));have Ep:= @mfq;clear h hv hk;go_enter Tryz.func66,Tryz.ntmps66
 go_wp2_with fail
 refine(HF.out _ _ HT.out ?_).mono ?_
 .simp[go_sem]
 rintro e w' ⟨rfl,rfl⟩;dsimp only;exact⟨rfl,rfl,HT.out⟩
theorem yg(w:World)(v:Int):Calls Tryz.prog 89 #[.int .i64 v,.int .i64 0] w fun e w'=>e= .returned (.int .i64 v)/\w=w':=by
 go_enter Tryz.func89,Tryz.ntmps89
 go_wp2_with fail
 refine(require_ok _ _).mono ?_;rintro e w' ⟨rfl,rfl⟩;dsimp only;go_wp2;go_ret
 exact⟨rfl,rfl⟩
theorem vK(w:World)(v:Int)(er:Int)(her:er≠0):Calls Tryz.prog 89 #[.int .i64 v,.int .i64 er] w fun e w'=>e= .panicked (aX er)/\w=w':=by
 have hb:(er==0)=false:=by simpa using her
 go_enter Tryz.func89,Tryz.ntmps89
 go_wp2_with fail
 refine(aY _ _).mono ?_;rintro e w' ⟨rfl,rfl⟩;dsimp only;exact⟨rfl,rfl,rfl⟩
theorem jf(w:World)(v:Int):Calls Tryz.prog 121 #[.int .i64 v,.int .i64 0] w fun e w'=>e= .returned (.int .i64 v)/\w=w':=by
 go_enter Tryz.func121,Tryz.ntmps121
 go_wp2_with fail
 refine(require_ok _ _).mono ?_;rintro e w' ⟨rfl,rfl⟩;dsimp only;go_wp2;go_ret
 exact⟨rfl,rfl⟩
theorem iN(w:World)(v:Int)(er:Int)(her:er≠0):Calls Tryz.prog 121 #[.int .i64 v,.int .i64 er] w fun e w'=>e= .panicked (aX er)/\w=w':=by
 have hb:(er==0)=false:=by simpa using her
 go_enter Tryz.func121,Tryz.ntmps121
 go_wp2_with fail
 refine(aY _ _).mono ?_;rintro e w' ⟨rfl,rfl⟩;dsimp only;exact⟨rfl,rfl,rfl⟩
theorem kX(w:World)(v:Bool):Calls Tryz.prog 93 #[.bool v,.int .i64 0] w fun e w'=>e= .returned (.bool v)/\w=w':=by
 go_enter Tryz.func93,Tryz.ntmps93
 go_wp2_with fail
 refine(require_ok _ _).mono ?_;rintro e w' ⟨rfl,rfl⟩;dsimp only;go_wp2;go_ret
 exact⟨rfl,rfl⟩
theorem jX(w:World)(v:Bool)(er:Int)(her:er≠0):Calls Tryz.prog 93 #[.bool v,.int .i64 er] w fun e w'=>e= .panicked (aX er)/\w=w':=by
 have hb:(er==0)=false:=by simpa using her
 go_enter Tryz.func93,Tryz.ntmps93
 go_wp2_with fail
 refine(aY _ _).mono ?_;rintro e w' ⟨rfl,rfl⟩;dsimp only;exact⟨rfl,rfl,rfl⟩
theorem lI(w:World)(v:Option Addr):Calls Tryz.prog 81 #[.pointer v,.int .i64 0] w fun e w'=>e= .returned (.pointer v)/\w=w':=by
 go_enter Tryz.func81,Tryz.ntmps81
 go_wp2_with fail
 refine(require_ok _ _).mono ?_;rintro e w' ⟨rfl,rfl⟩;dsimp only;go_wp2;go_ret
 exact⟨rfl,rfl⟩
theorem kg(w:World)(v:Option Addr)(er:Int)(her:er≠0):Calls Tryz.prog 81 #[.pointer v,.int .i64 er] w fun e w'=>e= .panicked (aX er)/\w=w':=by
 have hb:(er==0)=false:=by simpa using her
 go_enter Tryz.func81,Tryz.ntmps81
 go_wp2_with fail
 refine(aY _ _).mono ?_;rintro e w' ⟨rfl,rfl⟩;dsimp only;exact⟨rfl,rfl,rfl⟩
theorem lm(w:World)(v:Option Addr):Calls Tryz.prog 84 #[.pointer v,.int .i64 0] w fun e w'=>e= .returned (.pointer v)/\w=w':=by
 go_enter Tryz.func84,Tryz.ntmps84
 go_wp2_with fail
 refine(require_ok _ _).mono ?_;rintro e w' ⟨rfl,rfl⟩;dsimp only;go_wp2;go_ret
 exact⟨rfl,rfl⟩
theorem ku(w:World)(v:Option Addr)(er:Int)(her:er≠0):Calls Tryz.prog 84 #[.pointer v,.int .i64 er] w fun e w'=>e= .panicked (aX er)/\w=w':=by
 have hb:(er==0)=false:=by simpa using her
 go_enter Tryz.func84,Tryz.ntmps84
 go_wp2_with fail
 refine(aY _ _).mono ?_;rintro e w' ⟨rfl,rfl⟩;dsimp only;exact⟨rfl,rfl,rfl⟩
section
def kN(w:World)(c:Nat)(l f:Int)(q:Nat):Prop:=Cg w c 211 #[.int .i64 l,.int .i64 f,.pointer (some ⟨q,0,none⟩)]
theorem kN.touch{w w':World}{c:Nat}{l f:Int}{q:Nat}(h:kN w c l f q)(ht:Touch [] w w'):kN w' c l f q:=Cg.touch h ht (by simp)
theorem kN.cells{w:World}{c:Nat}{l f:Int}{q:Nat}(h:kN w c l f q):w.cell? ⟨c,0,none⟩=some (.int .i64 l)/\w.cell? ⟨c,1,none⟩=some (.int .i64 f)/\w.cell? ⟨c,2,none⟩=some (.pointer (some ⟨q,0,none⟩))/\c<w.heap.size/\c<w.heap.size+1:=by
 have hl:=Cg.lt h;exact⟨Cg.cell h 0,Cg.cell h 1,Cg.cell h 2,hl,by omega⟩
theorem BD.kS{T:List Nat}{w0 w:World}{l:List ai}{c:Nat}{a f:Int}{q:Nat}(h:BD T w0 w l)(i:Nat)(hi:l[i]? =some (Proofs.YtddnnapoaonmjaaGreatDoor.box c 211 #[.int .i64 a,.int .i64 f,.pointer (some ⟨q,0,none⟩)])):kN w c a f q:=h.box i hi
section
variable (w:World) (c:Nat) (l f:Int) (q:Nat) (hc:kN w c l f q)
include hc
theorem fA:Calls Tryz.prog 142 #[.pointer (some ⟨c,0,none⟩)] w fun e w'=>e= .returned (.bool false)/\w=w':=by
 obtain⟨c0,c1,c2,hl,_⟩:=hc.cells;clear hc;go_enter Tryz.func142,Tryz.ntmps142
 go_wp2;go_ret
 exact⟨rfl,rfl⟩
end
theorem KX(l f:Int)(w:World):Calls Tryz.prog 204 #[.agg #[.int .i64 l,.int .i64 f]] w fun e w'=>e= .returned (.int .i64 l)/\Touch [] w w':=by
 have HT:=hdq ((Touch.refl [] w).alloc (.cells #[.int .i64 l,.int .i64 f] 209));go_enter Tryz.func204,Tryz.ntmps204
 go_wp2;go_ret
 exact⟨rfl,HT.out⟩
theorem lQ(l f:Int)(w:World):Calls Tryz.prog 207 #[.agg #[.int .i64 l,.int .i64 f]] w fun e w'=>e= .returned (.int .i64 f)/\Touch [] w w':=by
 have HT:=hdq ((Touch.refl [] w).alloc (.cells #[.int .i64 l,.int .i64 f] 209));go_enter Tryz.func207,Tryz.ntmps207
 go_wp2;go_ret
 exact⟨rfl,HT.out⟩
section
variable (w:World) (c:Nat) (l f:Int) (q:Nat) (hc:kN w c l f q) (p:Option Addr) (R:World->Prop)
include hc
theorem Lock_c(d:Bool)(er:Nat)(h:∀W,Touch [] w W->Calls Tryz.prog 203 #[.pointer p,.int .i64 l] W fun e w'=>e= .returned (.tuple #[.bool d,.int .i64 (er:Int)])/\R w'):
  Calls Tryz.prog 108 #[.pointer (some ⟨c,0,none⟩),.pointer p] w fun e w'=>e= .returned (.tuple #[.bool d,.int .i64 (er:Int)])/\R w':=by
 obtain⟨c0,c1,c2,hl,_⟩:=hc.cells;have HC:=hdq hc;have H:=hdq h;clear hc h;go_enter Tryz.func108,Tryz.ntmps108
 go_wp2_with fail
 refine(fA _ _ _ _ _ HC.out).mono ?_;rintro e w' ⟨rfl,rfl⟩;go_wp2_with fail
 refine(KX _ _ _).mono ?_;rintro e w1 ⟨rfl,ht⟩;have H1:=hdq (H.out w1 ht);clear ht H;go_wp2_with fail
 refine H1.out.mono ?_;rintro e w2 ⟨rfl,hr⟩;have HR:=hdq hr;clear hr;go_wp2;go_ret2
 exact⟨rfl,HR.out⟩
theorem Kz(er:Nat)(h:∀W,Touch [] w W->Calls Tryz.prog 205 #[.pointer p,.int .i64 l] W fun e w'=>e= .returned (.int .i64 (er:Int))/\R w'):
  Calls Tryz.prog 110 #[.pointer (some ⟨c,0,none⟩),.pointer p] w fun e w'=>e= .returned (.int .i64 (er:Int))/\R w':=by
 obtain⟨c0,c1,c2,hl,_⟩:=hc.cells;have HC:=hdq hc;have H:=hdq h;clear hc h;go_enter Tryz.func110,Tryz.ntmps110
 go_wp2_with fail
 refine(fA _ _ _ _ _ HC.out).mono ?_;rintro e w' ⟨rfl,rfl⟩;go_wp2_with fail
 refine(KX _ _ _).mono ?_;rintro e w1 ⟨rfl,ht⟩;have H1:=hdq (H.out w1 ht);clear ht H;go_wp2_with fail
 refine H1.out.mono ?_;rintro e w2 ⟨rfl,hr⟩;have HR:=hdq hr;clear hr;go_wp2;go_ret
 exact⟨rfl,HR.out⟩
theorem Nr(v er:Nat)(d:Bool)(hd:d=(decide (er=0)&&decide (v≠0)))(h:∀W,Touch [] w W->Calls Tryz.prog 206 #[.pointer p,.int .i64 f] W fun e w'=>e= .returned (.tuple #[.int .u64 (v:Int),.int .i64 (er:Int)])/\R w'):
  Calls Tryz.prog 112 #[.pointer (some ⟨c,0,none⟩),.pointer p] w fun e w'=>e= .returned (.tuple #[.bool d,.int .i64 (er:Int)])/\R w':=by
 obtain⟨c0,c1,c2,hl,_⟩:=hc.cells;have HC:=hdq hc;have H:=hdq h;have eg:=enters_of Tryz.func206 (by kernel_rfl) rfl;have HD:=hdq hd;clear hc h hd;by_cases he:er=0
 .subst he
  by_cases hv:v=0
  .subst hv
   obtain rfl:d=false:=by rw[HD.out];rfl
   go_enter Tryz.func112,Tryz.ntmps112
   go_wp2_with fail
   refine(fA _ _ _ _ _ HC.out).mono ?_;rintro e w' ⟨rfl,rfl⟩;go_wp2_with fail
   refine(lQ _ _ _).mono ?_;rintro e w1 ⟨rfl,ht⟩;have H1:=hdq (H.out w1 ht);clear ht H;go_wp2_with fail
   refine H1.out.mono ?_;rintro e w2 ⟨rfl,hr⟩;have HR:=hdq hr;clear hr;go_wp2;go_ret2
   exact⟨rfl,HR.out⟩
  .obtain rfl:d=true:=by rw[HD.out];simp[hv]
   have hv':((v:Int) != 0)=true:=by simp;omega
   go_enter Tryz.func112,Tryz.ntmps112
   go_wp2_with fail
   refine(fA _ _ _ _ _ HC.out).mono ?_;rintro e w' ⟨rfl,rfl⟩;go_wp2_with fail
   refine(lQ _ _ _).mono ?_;rintro e w1 ⟨rfl,ht⟩;have H1:=hdq (H.out w1 ht);clear ht H;go_wp2_with fail
   refine H1.out.mono ?_;rintro e w2 ⟨rfl,hr⟩;have HR:=hdq hr;clear hr;go_wp2;go_ret2
   exact⟨rfl,HR.out⟩
 .obtain rfl:d=false:=by rw[HD.out];simp[he]
  have he':((er:Int)==0)=false:=by simp;omega
  go_enter Tryz.func112,Tryz.ntmps112
  go_wp2_with fail
  refine(fA _ _ _ _ _ HC.out).mono ?_;rintro e w' ⟨rfl,rfl⟩;go_wp2_with fail
  refine(lQ _ _ _).mono ?_;rintro e w1 ⟨rfl,ht⟩;have H1:=hdq (H.out w1 ht);clear ht H;go_wp2_with fail
  refine H1.out.mono ?_;rintro e w2 ⟨rfl,hr⟩;have HR:=hdq hr;clear hr;go_wp2;go_ret2
  exact⟨rfl,HR.out⟩
theorem Fire_c(v er:Nat)(d:Bool)(fe:Nat)(hfe:fe=if er=0/\d=false then 150 else er)(h:∀W,Touch [] w W->Calls Tryz.prog 208 #[.pointer p,.int .i64 f,.int .u64 0,.int .u64 1] W fun e w'=>e= .returned (.tuple #[.int .u64 (v:Int),.bool d,.int .i64 (er:Int)])/\R w'):
  Calls Tryz.prog 114 #[.pointer (some ⟨c,0,none⟩),.pointer p] w fun e w'=>e= .returned (.int .i64 (fe:Int))/\R w':=by
 obtain⟨c0,c1,c2,hl,_⟩:=hc.cells;have HC:=hdq hc;have H:=hdq h;have eg:=enters_of Tryz.func208 (by kernel_rfl) rfl;have HD:=hdq hfe;clear hc h hfe;by_cases he:er=0
 .subst he
  cases d with
  |true=>
   obtain rfl:fe=0:=by rw[HD.out];rfl
   go_enter Tryz.func114,Tryz.ntmps114
   go_wp2;refine bT 0 rfl ?_;go_wp2_with fail
   refine(fA _ _ _ _ _ HC.out).mono ?_;rintro e w' ⟨rfl,rfl⟩;go_wp2_with fail
   refine(lQ _ _ _).mono ?_;rintro e w1 ⟨rfl,ht⟩;have H1:=hdq (H.out w1 ht);clear ht H;go_wp2_with fail
   refine H1.out.mono ?_;rintro e w2 ⟨rfl,hr⟩;have HR:=hdq hr;clear hr;go_wp2;go_step3
   go_wp2;refine fO ?_;go_ret
   exact⟨rfl,HR.out⟩
  |false=>
   obtain rfl:fe=150:=by rw[HD.out];rfl
   go_enter Tryz.func114,Tryz.ntmps114
   go_wp2;refine bT 0 rfl ?_;go_wp2_with fail
   refine(fA _ _ _ _ _ HC.out).mono ?_;rintro e w' ⟨rfl,rfl⟩;go_wp2_with fail
   refine(lQ _ _ _).mono ?_;rintro e w1 ⟨rfl,ht⟩;have H1:=hdq (H.out w1 ht);clear ht H;go_wp2_with fail
   refine H1.out.mono ?_;rintro e w2 ⟨rfl,hr⟩;have HR:=hdq hr;clear hr;go_wp2;go_step3
   go_wp2;refine fO ?_;go_ret
   exact⟨rfl,HR.out⟩
 .obtain rfl:fe=er:=by rw[HD.out];simp[he]
  have he':((fe:Int)==0)=false:=by simp;omega
  go_enter Tryz.func114,Tryz.ntmps114
  go_wp2;refine bT 0 rfl ?_;go_wp2_with fail
  refine(fA _ _ _ _ _ HC.out).mono ?_;rintro e w' ⟨rfl,rfl⟩;go_wp2_with fail
  refine(lQ _ _ _).mono ?_;rintro e w1 ⟨rfl,ht⟩;have H1:=hdq (H.out w1 ht);clear ht H;go_wp2_with fail
  refine H1.out.mono ?_;rintro e w2 ⟨rfl,hr⟩;have HR:=hdq hr;clear hr;go_wp2;go_step3
  go_wp2;refine fO ?_;go_ret
  exact⟨rfl,HR.out⟩
end
theorem pY(q:Option Addr)(w:World)(h:Tryz.prog.built 211 [(1,.pointer q)]=some #[.int .i64 0,.int .i64 0,.pointer q]):(Instr.build 211 #[(1,.pointer q)]).run Tryz.prog w= .ok (.agg #[.int .i64 0,.int .i64 0,.pointer q]) w:=run_build w 211 _ _ h
attribute [local go_sem] pY
theorem Il(w:World)(q:Option Addr)(b o cap:Nat)(l f:Int)(h0:w.cell? ⟨b,o,none⟩=some (.int .i64 l))(h1:w.cell? ⟨b,o+1,none⟩=some (.int .i64 f)):
  Calls Tryz.prog 143 #[.pointer q,.slice (some ⟨b,o,none⟩) 2 cap] w fun e w'=>e= .returned (.pointer (some ⟨w.heap.size,0,none⟩))/\Cg w' w.heap.size 211 #[.int .i64 l,.int .i64 f,.pointer q]/\Touch [] w w':=by
 have hbc:∀W,(Instr.build 211 #[(1,.pointer q)]).run Tryz.prog W= .ok (.agg #[.int .i64 0,.int .i64 0,.pointer q]) W:=fun W=>pY q W (by cases q<;>rfl);obtain⟨w2,hcp,hbk,hbl⟩:∃w2,(Builtin.copy_ #[49,49] 3 #[.slice (some ⟨w.heap.size,0,none⟩) 2 2,.slice (some ⟨b,o,none⟩) 2 cap]).run Tryz.prog (w.alloc (.cells #[.int .i64 0,.int .i64 0,.pointer q] 211))= .ok (.int .i64 2) w2/\
   Cg w2 w.heap.size 211 #[.int .i64 l,.int .i64 f,.pointer q]/\Below w.heap.size w w2:=by
  have hb:Cg (w.alloc (.cells #[.int .i64 0,.int .i64 0,.pointer q] 211)) w.heap.size 211 #[.int .i64 0,.int .i64 0,.pointer q]:=Cg.new w _ _;have hT:=(Touch.refl [] w).alloc (.cells #[.int .i64 0,.int .i64 0,.pointer q] 211);have hr:=run_copy_row (P:=Tryz.prog) (w.alloc (.cells #[.int .i64 0,.int .i64 0,.pointer q] 211)) 49 49 3 3 w.heap.size 0 2 2 ⟨b,o,none⟩ 2 cap _ _ [.int .i64 l,.int .i64 f] Tryz.underlying49 (by kernel_rfl) hb rfl (fun j v hj=>by
   match j,hj with
   |0,hj=>simp at hj;subst hj;rw[Addr.add_lit];exact hT.cellOf h0
   |1,hj=>simp at hj;subst hj;rw[Addr.add_lit];exact hT.cellOf h1
   |j+2,hj=>simp at hj) (by simp) (by simp[Value.oneCell'])
  refine⟨_,hr,?_,below_setRow hT.below (Nat.le_refl _) _⟩;exact setRow_heap _ _ _ _ _ _ hb
 have HB:=hdq hbk;have HL:=hdq hbl;clear hbk hbl;go_enter Tryz.func143,Tryz.ntmps143
 go_wp2;go_ret
 exact⟨rfl,HB.out,Touch.of_below HL.out []⟩
theorem BD.cNew{T:List Nat}{w0 w:World}{l:List ai}{g:Nat}{s:Ar}(h:BD T w0 w l)(i:Nat)(hi:l[i]? =some (arena g s))(hok:s.C.length+2<=s.most):
  Calls Tryz.prog 85 #[.pointer (some ⟨g,0,none⟩)] w fun e w'=>∃q c,e= .returned (.tuple #[.pointer (some ⟨c,0,none⟩),.int .i64 0])/\
   BD T w0 w' (l.set i (arena g (s.au 2).1)++[aQ q [],bS [],Proofs.YtddnnapoaonmjaaGreatDoor.box c 211 #[.int .i64 (s.C.length:Int),.int .i64 (s.C.length+1:Int),.pointer (some ⟨q,0,none⟩)]]):=by
 have hal:=h.ar i hi (fun fp hI=>lV w g fp s 2 hI);have e1:(s.au 2).2.1=s.C.length/\(s.au 2).2.2=0:=by unfold Ar.au;rw[if_neg (by omega),if_neg (by omega)];exact⟨rfl,rfl⟩
 rw[e1.1,e1.2]at hal;have HA:=hdq hal;have hm:=(h.nP i hi).2.2;clear hal e1 h hi;go_enter Tryz.func85,Tryz.ntmps85
 go_wp2;refine bT 0 rfl ?_;go_wp2_with fail
 refine HA.out.mono ?_;rintro e w1 ⟨rfl,hL⟩;have HL:=hdq hL;clear hL HA;go_wp2_with fail
 refine(Km w1 HL.out).mono ?_;rintro e w2 ⟨q,rfl,hL⟩;have HL2:=hdq hL.yS;clear hL HL;go_wp2_with fail
 refine(Il _ _ _ _ _ (s.C.length:Int) (s.C.length+1:Int) (by simp) (by simp)).mono ?_;rintro e w3 ⟨rfl,hb,ht⟩;have BF:Hid (BD T w0 w3 (l.set i (arena g (s.au 2).1)++[aQ q [],bS [],Proofs.YtddnnapoaonmjaaGreatDoor.box (w2.heap.size+1) 211 #[.int .i64 (s.C.length:Int),.int .i64 (s.C.length+1:Int),.pointer (some ⟨q,0,none⟩)]])):=by
  have h1:=(HL2.out.dL (.cells #[.int .i64 (s.C.length:Int),.int .i64 (s.C.length+1:Int)] 3)).new (t':=Proofs.YtddnnapoaonmjaaGreatDoor.box (w2.heap.size+1) 211 #[.int .i64 (s.C.length:Int),.int .i64 (s.C.length+1:Int),.pointer (some ⟨q,0,none⟩)]) (f':=[w2.heap.size+1]) ⟨rfl,by simpa using hb⟩ ⟨ht,fun k hk=> .inr (by simp at hk;simp;omega)⟩;unfold Hid;simpa using h1
 clear hb ht HL2;go_wp2;go_step3
 go_wp2;refine fO ?_;go_ret2
 exact⟨q,_,rfl,by simpa using BF.out⟩
theorem BD.Au{T:List Nat}{w0 w:World}{l:List ai}{g:Nat}{s:Ar}(h:BD T w0 w l)(i:Nat)(hi:l[i]? =some (arena g s))(hok:¬s.C.length+2<=s.most):
  Calls Tryz.prog 85 #[.pointer (some ⟨g,0,none⟩)] w fun e w'=>e= .returned (.tuple #[.pointer none,.int .i64 6])/\BD T w0 w' (l.set i (arena g (s.au 2).1)):=by
 have hal:=h.ar i hi (fun fp hI=>lV w g fp s 2 hI);have hm:=(h.nP i hi).2.2;have e1:(s.au 2).2.1=0/\(s.au 2).2.2=6:=by unfold Ar.au;rw[if_neg (by omega),if_pos (by omega)];exact⟨rfl,rfl⟩
 rw[e1.1,e1.2]at hal;have HA:=hdq hal;clear hal e1 h hi;go_enter Tryz.func85,Tryz.ntmps85
 go_wp2;refine bT 0 rfl ?_;go_wp2_with fail
 refine HA.out.mono ?_;rintro e w1 ⟨rfl,hL⟩;have HL:=hdq hL;clear hL HA;go_wp2;go_step3
 refine⟨rfl,?_⟩;go_wp2;refine dO ?_;go_ret2
 exact⟨rfl,HL.out⟩
end
def Nexted(T:List Nat)(w0:World)(l:List ai)(i q:Nat)(es:List ME)(e:Ending)(w':World):Prop:=
 (∃x r,es=x::r/\e= .returned (.tuple #[x.val,.bool true])/\BD T w0 w' (l.set i (aQ q r)))\/(es=[]/\e= .returned (.tuple #[ME.zero.val,.bool false])/\BD T w0 w' (l.set i (aQ q [])))
section
variable {T:List Nat} {w0 w:World} {l:List ai} {g c q:Nat} {a f:Int} {s:Ar} {es:List ME}
theorem ng{t1:ai}:(l++[t1])[l.length]? =some t1:=by simp
theorem BD.cLock(h:BD T w0 w l)(i j:Nat)(hi:l[i]? =some (arena g s))(hj:l[j]? =some (Proofs.YtddnnapoaonmjaaGreatDoor.box c 211 #[.int .i64 a,.int .i64 f,.pointer (some ⟨q,0,none⟩)]))(hn:s.L.length<4611686018427387904):
  Calls Tryz.prog 108 #[.pointer (some ⟨c,0,none⟩),.pointer (some ⟨g,0,none⟩)] w fun e w'=>e= .returned (.tuple #[.bool (s.swap a 0 1).2.1.did,.int .i64 ((s.swap a 0 1).2.2:Int)])/\BD T w0 w' (l.set i (arena g (s.swap a 0 1).1)):=
 Lock_c w c a f q (h.kS j hj) _ (fun w'=>BD T w0 w' (l.set i (arena g (s.swap a 0 1).1))) _ _ (fun W hW=>(h.touch hW).ar i hi (fun fp hI=>zC W g fp s hI a hn))
theorem BD.OB(h:BD T w0 w l)(i j:Nat)(hi:l[i]? =some (arena g s))(hj:l[j]? =some (Proofs.YtddnnapoaonmjaaGreatDoor.box c 211 #[.int .i64 a,.int .i64 f,.pointer (some ⟨q,0,none⟩)]))(hn:s.L.length<4611686018427387904):
  Calls Tryz.prog 110 #[.pointer (some ⟨c,0,none⟩),.pointer (some ⟨g,0,none⟩)] w fun e w'=>e= .returned (.int .i64 (s.wH a:Int))/\BD T w0 w' (l.set i (arena g (s.swap a 1 0).1)):=
 Kz w c a f q (h.kS j hj) _ (fun w'=>BD T w0 w' (l.set i (arena g (s.swap a 1 0).1))) _ (fun W hW=>(h.touch hW).ar i hi (fun fp hI=>uW W g fp s hI a hn))
theorem BD.cFired(h:BD T w0 w l)(i j:Nat)(hi:l[i]? =some (arena g s))(hj:l[j]? =some (Proofs.YtddnnapoaonmjaaGreatDoor.box c 211 #[.int .i64 a,.int .i64 f,.pointer (some ⟨q,0,none⟩)]))(hn:s.L.length<4611686018427387904){d:Bool}{er:Nat}{s':Ar}(hd:d=(decide ((s.load f).2.2=0)&&decide ((s.load f).2.1.old≠0)))(he:(s.load f).2.2=er)(hs:(s.load f).1=s'):
  Calls Tryz.prog 112 #[.pointer (some ⟨c,0,none⟩),.pointer (some ⟨g,0,none⟩)] w fun e w'=>e= .returned (.tuple #[.bool d,.int .i64 (er:Int)])/\BD T w0 w' (l.set i (arena g s')):=by
 subst he hs;exact Nr w c a f q (h.kS j hj) _ (fun w'=>BD T w0 w' (l.set i (arena g (s.load f).1))) _ _ _ hd (fun W hW=>(h.touch hW).ar i hi (fun fp hI=>vO W g fp s f hI hn))
theorem BD.cFire(h:BD T w0 w l)(i j:Nat)(hi:l[i]? =some (arena g s))(hj:l[j]? =some (Proofs.YtddnnapoaonmjaaGreatDoor.box c 211 #[.int .i64 a,.int .i64 f,.pointer (some ⟨q,0,none⟩)]))(hn:s.L.length<4611686018427387904){fe:Nat}{s':Ar}(hfe:fe=if(s.swap f 0 1).2.2=0/\(s.swap f 0 1).2.1.did=false then 150 else(s.swap f 0 1).2.2)(hs:(s.swap f 0 1).1=s'):
  Calls Tryz.prog 114 #[.pointer (some ⟨c,0,none⟩),.pointer (some ⟨g,0,none⟩)] w fun e w'=>e= .returned (.int .i64 (fe:Int))/\BD T w0 w' (l.set i (arena g s')):=by
 subst hs;exact Fire_c w c a f q (h.kS j hj) _ (fun w'=>BD T w0 w' (l.set i (arena g (s.swap f 0 1).1))) _ _ _ _ hfe (fun W hW=>(h.touch hW).ar i hi (fun fp hI=>kP W g fp s f hI hn 0 1 wd0 wd1))
theorem BD.cNext(h:BD T w0 w l)(i j:Nat)(hi:l[i]? =some (aQ q es))(hj:l[j]? =some (Proofs.YtddnnapoaonmjaaGreatDoor.box c 211 #[.int .i64 a,.int .i64 f,.pointer (some ⟨q,0,none⟩)]))(hes:es.length<=1048576):
  Calls Tryz.prog 118 #[.pointer (some ⟨c,0,none⟩)] w (Nexted T w0 l i q es):=by
 obtain⟨d0,d1,d2,hl,hl2⟩:=(h.kS j hj).cells;have hil:=(List.getElem?_eq_some_iff.1 hi).1;have HC:=hdq ((h.kS j hj).touch ((Touch.refl [] w).alloc (.cells #[.int .i64 0,.int .i64 0,.int .i64 0,.int .i64 0,.int .i64 0,.int .i64 0,.slice none 0 0] 47)));have h1:=h.alloc 47 #[.int .i64 0,.int .i64 0,.int .i64 0,.int .i64 0,.int .i64 0,.int .i64 0,.slice none 0 0];have HP:=hdq (h1.OX i (by rw[List.getElem?_append_left hil];exact hi) 0 hes);have HI:=hdq hil;clear h h1 hi hj hil;go_enter Tryz.func118,Tryz.ntmps118
 go_wp2_with fail
 refine(fA _ _ _ _ _ HC.out).mono ?_;rintro e w' ⟨rfl,rfl⟩;go_wp2_with fail
 refine HP.out.mono ?_;rintro e w2 (⟨x,_,hx,rfl,hL⟩|⟨hn,rfl,hL⟩)
 .obtain⟨r,rfl⟩:∃r,es=x::r:=by
   cases es with
   |nil=>simp at hx
   |cons y r=>simp at hx;exact⟨r,by rw[hx]⟩
  rw[List.set_append_left _ _ HI.out]at hL;have HL:=hdq hL;clear hL hx HC HP;simp only[bB];obtain⟨x0,x1,x2,x3,x4,x5,x6,⟨f0,f1,f2,f3,f4,f5,f6⟩,z1,_,_⟩:=HL.out.c7 (l.set i (aQ q ((x::r).eraseIdx (Int.toNat 0)))).length ng;go_wp2;have C8:=hdq (HL.out.iD (l.set i (aQ q ((x::r).eraseIdx (Int.toNat 0)))).length ng x.sync x.thread x.branch x.flag x.v.kind x.v.num (.slice x.v.addr x.v.parts.length x.v.cap));obtain⟨s0,s1,s2,s3,s4,s5,s6,_⟩:=C8.out.c7 (l.set i (aQ q ((x::r).eraseIdx (Int.toNat 0)))).length (List.getElem?_set_self (by simp));refine bodyPost_ret (v:= .tuple #[x.val,.bool true]) (by simp[results,Tryz.results118,go_sem,s0,s1,s2,s3,s4,s5,s6,bB]) rfl ?_;refine .inl ⟨x,r,rfl,rfl,?_⟩;have h:=C8.out;rw[List.set_append_right _ _ (Nat.le_refl _)]at h;exact h.aF
 .obtain rfl:es=[]:=by
   cases es with
   |nil=>rfl
   |cons y r=>exact absurd ⟨by decide,by simp⟩ hn
  rw[List.set_append_left _ _ HI.out]at hL;have HL:=hdq hL;clear hL hn HC HP;have hzv:ME.zero.val= .agg #[.int .i64 0,.int .i64 0,.int .i64 0,.int .i64 0,.int .i64 0,.int .i64 0,.slice none 0 0]:=rfl;rw[hzv];obtain⟨x0,x1,x2,x3,x4,x5,x6,⟨f0,f1,f2,f3,f4,f5,f6⟩,z1,_,_⟩:=HL.out.c7 (l.set i (aQ q [])).length ng;go_wp2;have C8:=hdq (HL.out.iD (l.set i (aQ q [])).length ng 0 0 0 0 0 0 (.slice none 0 0));obtain⟨s0,s1,s2,s3,s4,s5,s6,_⟩:=C8.out.c7 (l.set i (aQ q [])).length (List.getElem?_set_self (by simp));refine bodyPost_ret (v:= .tuple #[.agg #[.int .i64 0,.int .i64 0,.int .i64 0,.int .i64 0,.int .i64 0,.int .i64 0,.slice none 0 0],.bool false]) (by simp[results,Tryz.results118,go_sem,s0,s1,s2,s3,s4,s5,s6]) rfl ?_;refine .inr ⟨rfl,rfl,?_⟩;have h:=C8.out;rw[List.set_append_right _ _ (Nat.le_refl _)]at h;exact h.aF
end
structure Ce where
 c:Nat
 cell:Int
 M:Nat
 q1:Nat
 q2:Nat
 es1:List ME
 es2:List ME
def Ce.ts(x:Ce):List ai:=gB x.c x.cell x.M x.q1 x.q2 x.es1 x.es2
structure Ch where
 c:Nat
 a:Int
 f:Int
 q:Nat
 es:List ME
def Ch.ts(y:Ch):List ai:=[box y.c 211 #[.int .i64 y.a,.int .i64 y.f,.pointer (some ⟨y.q,0,none⟩)],aQ y.q y.es]
def bL.cells(v:bL):List Value:=[.int .i64 v.thread,.slice v.jr v.gm v.jv,.slice v.ko v.kz v.jR,.int .i64 v.flag,.bool v.parked,.bool v.done,.int .i64 v.branch,.int .i64 v.kind,.int .i64 v.num,.slice v.lA v.lN v.lC,.int .i64 v.partner]
structure WS where
 wb:Nat
 ga:Nat
 s:Ar
 P:World->Prop
 BI:List Ce
 cos:List Ch
 sys:List bL
 a1:Option Addr
 c1:Nat
 a2:Option Addr
 c2:Nat
 a3:Option Addr
 c3:Nat
def bP(l:List Ce):List Value:=l.map fun x=> .pointer (some ⟨x.c,0,none⟩)
def bK(l:List Ch):List Value:=l.map fun x=> .pointer (some ⟨x.c,0,none⟩)
def aU(l:List bL):List Value:=l.flatMap bL.cells
def WS.head(x:WS):List ai:=
 [box x.wb 86 #[.pointer (some ⟨x.ga,0,none⟩),.slice x.a1 x.BI.length x.c1,.slice x.a2 x.cos.length x.c2,.slice x.a3 x.sys.length x.c3],arena x.ga x.s,aA x.P,
  aS 118 1 (.slice x.a1 x.BI.length x.c1) x.BI.length (bP x.BI),aS 122 1 (.slice x.a2 x.cos.length x.c2) x.cos.length (bK x.cos),aS 61 11 (.slice x.a3 x.sys.length x.c3) x.sys.length (aU x.sys)]
def WS.ts(x:WS):List ai:=x.head++(x.BI.flatMap Ce.ts++x.cos.flatMap Ch.ts)
theorem nA{α:Type}(f:α->List ai)(m:Nat)(hf:∀a,(f a).length=m)(l:List α):(l.flatMap f).length=m*l.length:=by
 induction l with
 |nil=>simp
 |cons a l ih=>simp[hf,ih,Nat.mul_succ,Nat.add_comm]
theorem flat_get{α:Type}(f:α->List ai)(m:Nat)(hf:∀a,(f a).length=m)(l:List α)(k:Nat)(hk:k<l.length)(r:Nat)(hr:r<m):(l.flatMap f)[m*k+r]? =(f l[k])[r]? :=by
 induction l generalizing k with
 |nil=>simp at hk
 |cons a l ih=>
  rw[List.flatMap_cons];cases k with
  |zero=>rw[List.getElem?_append_left (by rw[hf];omega)];simp
  |succ k=>
   rw[List.getElem?_append_right (by rw[hf,Nat.mul_succ];omega),hf,show m*(k+1)+r-m=m*k+r from by rw[Nat.mul_succ];omega];exact ih k (by simpa using hk)
theorem Je{α:Type}(f:α->List ai)(m:Nat)(hf:∀a,(f a).length=m)(l:List α)(k:Nat)(hk:k<l.length)(r:Nat)(hr:r<m)(t:ai)(b:α)(hb:(f l[k]).set r t=f b):(l.flatMap f).set (m*k+r) t=(l.set k b).flatMap f:=by
 induction l generalizing k with
 |nil=>simp at hk
 |cons a l ih=>
  rw[List.flatMap_cons];cases k with
  |zero=>
   rw[List.set_append_left _ _ (by rw[hf];omega)];simp only[sZq,List.flatMap_cons];rw[<-hb];simp
  |succ k=>
   rw[List.set_append_right _ _ (by rw[hf,Nat.mul_succ];omega),hf,show m*(k+1)+r-m=m*k+r from by rw[Nat.mul_succ];omega];simp only[sSq,List.flatMap_cons];rw[ih k (by simpa using hk) (by simpa using hb)]
theorem WS.kW(x:WS)(r0:List ai)(k:Nat)(hk:k<x.BI.length)(r:Nat)(hr:r<4):(x.ts++r0)[6+(4*k+r)]? =x.BI[k].ts[r]? :=by
 have hl:=nA Ce.ts 4 (fun _=>rfl) x.BI;unfold WS.ts;rw[List.append_assoc,List.getElem?_append_right (by simp[WS.head]),show 6+(4*k+r)-x.head.length=4*k+r from by simp[WS.head],List.getElem?_append_left (by rw[List.length_append,hl];omega),List.getElem?_append_left (by rw[hl];omega)];exact flat_get Ce.ts 4 (fun _=>rfl) x.BI k hk r hr
section
variable {T:List Nat} {w0 w:World} {x:WS} {r0:List ai}
theorem BD.Cb(h:BD T w0 w (x.ts++r0)):Fe w x.wb x.ga (.slice x.a1 x.BI.length x.c1) (.slice x.a2 x.cos.length x.c2) (.slice x.a3 x.sys.length x.c3):=by
 have hb:=h.box 0 (b:=x.wb) (t:=86) (cs:=#[.pointer (some ⟨x.ga,0,none⟩),.slice x.a1 x.BI.length x.c1,.slice x.a2 x.cos.length x.c2,.slice x.a3 x.sys.length x.c3]) rfl;exact⟨hb.cell 0,hb.cell 1,hb.cell 2,hb.cell 3⟩
theorem BD.oM(h:BD T w0 w (x.ts++r0))(k:Nat)(hk:k<x.BI.length):jZ w x.BI[k].c x.BI[k].cell x.BI[k].M x.BI[k].q1 x.BI[k].q2:=
 h.xP (6+(4*k+0)) (6+(4*k+1)) (x.kW r0 k hk 0 (by omega)) (x.kW r0 k hk 1 (by omega))
theorem BD.Lp(h:BD T w0 w (x.ts++r0))(k:Nat)(hk:k<x.BI.length):Calls Tryz.prog 72 #[.pointer (some ⟨x.wb,0,none⟩),.int .i64 (k:Int)] w fun e w'=>e= .returned (.pointer (some ⟨x.BI[k].c,0,none⟩))/\Touch [] w w':=by
 have hr:=h.aZ 3 (e:=118) (size:=1) (v:= .slice x.a1 x.BI.length x.c1) (n:=x.BI.length) (xs:=bP x.BI) rfl;obtain⟨g,cap',cur,hv,hg,_⟩:=gD hr (by omega);injection hv with h1 _ h3
 have hc:=eT (g:=g) (cap:=x.c1) (by rw[<-h1];exact hr) k (by simpa[bP]using hk);refine uR w x.wb x.ga _ _ _ h.Cb g 0 x.BI.length x.c1 (by rw[h1]) k hk x.BI[k].c ?_;rw[Nat.zero_add,hc];simp[bP]
theorem BD.nK(h:BD T w0 w (x.ts++r0))(k:Int)(hk:¬(0<=k/\k<(x.BI.length:Int))):Calls Tryz.prog 72 #[.pointer (some ⟨x.wb,0,none⟩),.int .i64 k] w fun e w'=>e= .panicked (aX 4)/\Touch [] w w':=
 tF w x.wb x.ga _ _ _ h.Cb x.a1 x.BI.length x.c1 rfl k hk
end
def WS.ar(x:WS)(s:Ar):WS:={x with s:=s}
theorem WS.iy(x:WS)(s:Ar)(r:List ai):(x.ts++r).set 1 (arena x.ga s)=(x.ar s).ts++r:=rfl
def at_{α:Type}(l:List α)(k:Int):Option α:=if 0<=k then l[k.toNat]? else none
theorem gI{α:Type}{l:List α}{n:Nat}(h:n<l.length):at_ l (n:Int)=some l[n]:=by unfold at_;rw[if_pos (by omega),Int.toNat_natCast,List.getElem?_eq_getElem h]
theorem gM{α:Type}{l:List α}{k:Int}(h:¬(0<=k/\k<(l.length:Int))):at_ l k=none:=by
 unfold at_;by_cases h0:0<=k
 .rw[if_pos h0,List.getElem?_eq_none (by omega)]
 .rw[if_neg h0]
def rB(s:Ar):Option (Bool×Nat×Ar)->Bool×Int×Ar
 |none=>(false,4,s)
 |some r=>if r.2.1=0 then(r.1,0,r.2.2)else(false,(r.2.1:Int),r.2.2)
def rE(s:Ar):Option (Nat×Ar)->Int×Ar
 |none=>(4,s)
 |some r=>((r.1:Int),r.2)
def dM(s:Ar)(c:Int):Bool×Nat×Ar:=((s.swap c 0 1).2.1.did,(s.swap c 0 1).2.2,(s.swap c 0 1).1)
def fH(s:Ar)(f:Int):Bool×Nat×Ar:=((decide ((s.load f).2.2=0)&&decide ((s.load f).2.1.old≠0)),(s.load f).2.2,(s.load f).1)
def bY(s:Ar)(c:Int):Nat×Ar:=(s.wH c,(s.swap c 1 0).1)
def iA(s:Ar)(f:Int):Nat×Ar:=((if(s.swap f 0 1).2.2=0/\(s.swap f 0 1).2.1.did=false then 150 else(s.swap f 0 1).2.2),(s.swap f 0 1).1)
theorem WS.uq(x:WS)(r0:List ai)(k:Nat)(hk:k<x.cos.length)(r:Nat)(hr:r<2):(x.ts++r0)[6+(4*x.BI.length+(2*k+r))]? =x.cos[k].ts[r]? :=by
 have hl:=nA Ce.ts 4 (fun _=>rfl) x.BI;have hm:=nA Ch.ts 2 (fun _=>rfl) x.cos;unfold WS.ts;rw[List.append_assoc,List.getElem?_append_right (by simp[WS.head]),show 6+(4*x.BI.length+(2*k+r))-x.head.length=4*x.BI.length+(2*k+r) from by simp[WS.head],List.getElem?_append_left (by rw[List.length_append,hl,hm];omega),List.getElem?_append_right (by rw[hl];omega),hl,show 4*x.BI.length+(2*k+r)-4*x.BI.length=2*k+r from by omega];exact flat_get Ch.ts 2 (fun _=>rfl) x.cos k hk r hr
section
variable {T:List Nat} {w0 w:World} {x:WS} {r0:List ai}
theorem BD.r9(h:BD T w0 w (x.ts++r0))(k:Nat)(hk:k<x.cos.length):Calls Tryz.prog 107 #[.pointer (some ⟨x.wb,0,none⟩),.int .i64 (k:Int)] w fun e w'=>e= .returned (.pointer (some ⟨x.cos[k].c,0,none⟩))/\Touch [] w w':=by
 have hr:=h.aZ 4 (e:=122) (size:=1) (v:= .slice x.a2 x.cos.length x.c2) (n:=x.cos.length) (xs:=bK x.cos) rfl;obtain⟨g,cap',cur,hv,hg,_⟩:=gD hr (by omega);injection hv with h1 _ h3
 have hc:=eT (g:=g) (cap:=x.c2) (by rw[<-h1];exact hr) k (by simpa[bK]using hk);refine wD w x.wb x.ga _ _ _ h.Cb g 0 x.cos.length x.c2 (by rw[h1]) k hk x.cos[k].c ?_;rw[Nat.zero_add,hc];simp[bK]
theorem BD.iP(h:BD T w0 w (x.ts++r0))(k:Int)(hk:¬(0<=k/\k<(x.cos.length:Int))):Calls Tryz.prog 107 #[.pointer (some ⟨x.wb,0,none⟩),.int .i64 k] w fun e w'=>e= .panicked (aX 4)/\Touch [] w w':=
 tu w x.wb x.ga _ _ _ h.Cb x.a2 x.cos.length x.c2 rfl k hk
end
def JQ(T:List Nat)(w:World)(v:Bool)(er:Int)(l':List ai)(e:Ending)(w':World):Prop:=Ends e (.bool v) er (.bool false)/\BD T w w' l'
def l5(T:List Nat)(w:World)(er:Int)(l':List ai)(e:Ending)(w':World):Prop:=(∃v Fq,Ends e (.int .i64 v) Fq (.int .i64 0)/\er=if Fq=0 then v else Fq)/\BD T w w' l'
theorem qF(T:List Nat)(w0 w:World)(l:List ai)(D:FuncId)(caps:Array Value)(er:Int)(l':List ai)(h:BD T w0 w l)(hen:∀args w,(callFunc D args).run Tryz.prog w= .ok (.enter D args) w)(hd:∀T' W,BD T' W W l->Calls Tryz.prog D caps W (l5 T' W er l')):
  Calls Tryz.prog 95 #[.func (.func D) #[] caps] w fun e w'=>e= .returned (.int .i64 er)/\BD T w0 w' l':=by
 have HP:=hdq (l7 T w0 w l D caps (fun v Fq l''=>er=(if Fq=0 then v else Fq)/\l''=l') h hen (fun T' W hW=>(hd T' W hW).mono fun e w' ⟨⟨v,Fq,he,hr⟩,hL⟩=>⟨v,Fq,l',he,⟨hr,rfl⟩,hL⟩));clear h hd hen;go_enter Tryz.func95,Tryz.ntmps95
 go_wp2_with fail
 refine HP.out.mono ?_;rintro e w' ⟨v,Fq,l'',rfl,⟨hr,rfl⟩,hL⟩;have HL:=hdq hL;have HR:=hdq hr;clear hL hr HP;by_cases h0:Fq=0
 .have hb:(Fq != 0)=false:=by simp[h0]
  have HE:Hid (er=v):=by have :=HR.out;rw[if_pos h0]at this;exact this
  clear h0 HR;go_wp2;go_ret
  exact⟨by rw[HE.out];rfl,HL.out⟩
 .have hb:(Fq != 0)=true:=by simp[h0]
  have HE:Hid (er=Fq):=by have :=HR.out;rw[if_neg h0]at this;exact this
  clear h0 HR;go_wp2;go_ret
  exact⟨by rw[HE.out];rfl,HL.out⟩
def WS.fQ(x:WS)(k:Int):Bool×Int×Ar:=rB x.s ((at_ x.BI k).map fun y=>dM x.s y.cell)
theorem NW(T:List Nat)(w:World)(x:WS)(b2 b3:Nat)(k:Int)(h:BD T w w (x.ts++[box b2 25 #[.pointer (some ⟨x.wb,0,none⟩)],box b3 3 #[.int .i64 k]]))(hn:x.s.L.length<1000000):
  Calls Tryz.prog 92 #[.pointer (some ⟨b2,0,none⟩),.pointer (some ⟨b3,0,none⟩)] w (JQ T w (x.fQ k).1 (x.fQ k).2.1 ((x.ar (x.fQ k).2.2).ts++[box b2 25 #[.pointer (some ⟨x.wb,0,none⟩)],box b3 3 #[.int .i64 k]])):=by
 have BG:=hdq h;clear h;obtain⟨p0,_,zp,_,_⟩:=BG.out.c1 x.ts.length (t:=25) (b:=b2) (x0:= .pointer (some ⟨x.wb,0,none⟩)) (by simp);obtain⟨q0,_,zq,_,_⟩:=BG.out.c1 (x.ts.length+1) (t:=3) (b:=b3) (x0:= .int .i64 k) (by simp);obtain⟨w0',_,_,_⟩:=BG.out.Cb;have zw:x.wb<w.heap.size:=BG.out.Cb.lt;by_cases hk:0<=k/\k<(x.BI.length:Int)
 .obtain⟨n,rfl⟩:=Int.eq_ofNat_of_zero_le hk.1
  have hnk:n<x.BI.length:=by omega
  have HC:=hdq (fun W (hW:Touch [] w W)=>(BG.out.touch hW).Lp n hnk);have CV:=hdq (fun W (hW:Touch [] w W)=>(BG.out.touch hW).chLock 1 (g:=x.ga) (s:=x.s) rfl ((BG.out.touch hW).oM n hnk) (by omega));simp only[WS.iy]at CV;have HR:Hid (x.fQ (n:Int)=rB x.s (some (dM x.s (x.BI[n]).cell))):=by unfold Hid WS.fQ;rw[gI hnk];rfl
  generalize hcn:x.BI[n].c=cn at HC CV;generalize x.fQ (n:Int)=lr at HR|-;clear hk hcn;have BZ:=hdq (Touch.refl [] w).drew;go_enter Tryz.func92,Tryz.ntmps92
  go_wp2_with fail
  refine hrq (S:=fun w'=>w'.cell? ⟨b2,0,none⟩=some (.pointer (some ⟨x.wb,0,none⟩))/\w'.cell? ⟨b3,0,none⟩=some (.int .i64 (n:Int))/\w'.cell? ⟨x.wb,0,none⟩=some (.pointer (some ⟨x.ga,0,none⟩))) fun hHeld=>?_;refine tkq 0 3 ?_;refine tkq 1 4 ?_;refine tkq 3 6 ?_;refine tkq 4 7 ?_;refine tkq 5 8 ?_;refine tkq 6 9 ?_;refine tkq 7 10 ?_;refine rdq 2 rfl fun K hK=>?_;go_simp;refine(HC.out _ BZ.out).mono ?_;rintro e w1 ⟨rfl,ht⟩;have HT1:=hdq (BZ.out.trans' ht);have BB:=hdq (BG.out.touch HT1.out);clear ht p0 zp q0 zq w0' zw hHeld;obtain⟨p0,_,zp,_,_⟩:=BB.out.c1 x.ts.length (t:=25) (b:=b2) (x0:= .pointer (some ⟨x.wb,0,none⟩)) (by simp);obtain⟨q0,_,zq,_,_⟩:=BB.out.c1 (x.ts.length+1) (t:=3) (b:=b3) (x0:= .int .i64 (n:Int)) (by simp);obtain⟨w0',_,_,_⟩:=BB.out.Cb;go_simp;refine kpq hK.out fun hHeld=>?_;clear hK K;refine rdq 8 rfl fun K hK=>?_;go_simp;refine(CV.out _ HT1.out).mono ?_;rintro e w2 ⟨rfl,hL⟩;have HL2:=hdq hL;clear hL p0 zp q0 zq w0' hHeld BB;generalize hr:(dM x.s (x.BI[n]).cell)=r at HR;have HRR:=hdq hr;clear hr;have hL2':BD T w w2 ((x.ar (dM x.s (x.BI[n]).cell).2.2).ts++[box b2 25 #[.pointer (some ⟨x.wb,0,none⟩)],box b3 3 #[.int .i64 (n:Int)]]):=HL2.out;obtain⟨p0,_,zp,_,_⟩:=hL2'.c1 (x.ar (dM x.s (x.BI[n]).cell).2.2).ts.length (t:=25) (b:=b2) (x0:= .pointer (some ⟨x.wb,0,none⟩)) (by simp);obtain⟨q0,_,zq,_,_⟩:=hL2'.c1 ((x.ar (dM x.s (x.BI[n]).cell).2.2).ts.length+1) (t:=3) (b:=b3) (x0:= .int .i64 (n:Int)) (by simp);obtain⟨w0',_,_,_⟩:=hL2'.Cb;rw[HRR.out]at hL2';have BF:=hdq hL2';clear hL2' HL2;dsimp only[WS.ar]at w0';have HD:=hdq (show(dM x.s (x.BI[n]).cell).1=r.1 from congrArg (fun z=>z.1) HRR.out);have HE:=hdq (show(dM x.s (x.BI[n]).cell).2.1=r.2.1 from congrArg (fun z=>z.2.1) HRR.out);dsimp only[dM,fH]at HD HE;rw[HD.out,HE.out];clear HD HE HRR;go_simp;refine kpq hK.out fun hHeld=>?_;clear hK K;refine tkq 9 12 ?_;refine tkq 10 13 ?_;refine rdq 11 rfl fun K hK=>?_;go_simp;by_cases h0:r.2.1=0
  .rw[h0]
   refine(kX _ _).mono ?_;rintro e w3 ⟨rfl,rfl⟩;go_simp;refine kpq hK.out fun hHeld=>?_;clear hK K;refine tkq 12 2 ?_;refine dnq ?_;clear p0 zp q0 zq w0' hHeld;go_wp2;go_ret
   rw[HR.out];simp only[rB];rw[if_pos h0];exact⟨.inl ⟨rfl,rfl⟩,BF.out⟩
  .refine(jX _ _ _ (by omega)).mono ?_
   rintro e w3 ⟨rfl,rfl⟩;dsimp only;rw[HR.out];simp only[rB];rw[if_neg h0];exact⟨rfl,.inr ⟨rfl,rfl⟩,BF.out⟩
 .have E9:=hdq (fun W (hW:Touch [] w W)=>(BG.out.touch hW).nK k hk)
  have HR:Hid (x.fQ k=rB x.s none):=by unfold Hid WS.fQ;rw[gM hk];rfl
  rw[HR.out];have BZ:=hdq (Touch.refl [] w).drew;go_enter Tryz.func92,Tryz.ntmps92
  go_wp2_with fail
  refine hrq (S:=fun w'=>w'.cell? ⟨b2,0,none⟩=some (.pointer (some ⟨x.wb,0,none⟩))/\w'.cell? ⟨b3,0,none⟩=some (.int .i64 k)/\w'.cell? ⟨x.wb,0,none⟩=some (.pointer (some ⟨x.ga,0,none⟩))) fun hHeld=>?_;refine tkq 0 3 ?_;refine tkq 1 4 ?_;refine tkq 3 6 ?_;refine tkq 4 7 ?_;refine tkq 5 8 ?_;refine tkq 6 9 ?_;refine tkq 7 10 ?_;refine rdq 2 rfl fun K hK=>?_;go_simp;refine(E9.out _ BZ.out).mono ?_;rintro e w1 ⟨rfl,ht⟩;dsimp only;exact⟨rfl,.inr ⟨rfl,rfl⟩,BG.out.touch (BZ.out.trans' ht)⟩
theorem ul(T:List Nat)(w:World)(x:WS)(k:Int)(h:BD T w w x.ts)(hn:x.s.L.length<1000000):
  Calls Tryz.prog 24 #[.pointer (some ⟨x.wb,0,none⟩),.int .i64 k] w fun e w'=>e= .returned (.tuple #[.bool (x.fQ k).1,.int .i64 (x.fQ k).2.1])/\BD T w w' (x.ar (x.fQ k).2.2).ts:=by
 have Ep:= @mfq;have BG:=hdq h;clear h;go_enter Tryz.func24,Tryz.ntmps24
 go_wp2_with fail
 refine ah ?_;intro w1 hw1;have BB:=hdq (BG.out.DZ hw1);generalize hb3:w.heap.size+1=b3 at BB|-;generalize hb2:w.heap.size=b2 at BB|-;clear hw1 hb3 hb2 BG;refine(iK T w w1 _ _ _ (fun v er l'=>v=(x.fQ k).1/\er=(x.fQ k).2.1/\l'=(x.ar (x.fQ k).2.2).ts++[box b2 25 #[.pointer (some ⟨x.wb,0,none⟩)],box b3 3 #[.int .i64 k]]) BB.out (enters_of Tryz.func92 (by kernel_rfl) rfl) (fun T' W hW=>?_)).mono ?_
 .refine(NW T' W x b2 b3 k (by simpa using hW) hn).mono ?_
  rintro e w' ⟨he,hL⟩;exact⟨_,_,_,he,⟨rfl,rfl,rfl⟩,hL⟩
 rintro e w' ⟨v,er,l',rfl,⟨rfl,rfl,rfl⟩,hL⟩;have HL2:=hdq hL.aF;clear hL BB;dsimp only;go_wp2;go_ret2
 exact⟨rfl,HL2.out⟩
def WS.cK(x:WS)(k:Int):Bool×Int×Ar:=rB x.s ((at_ x.cos k).map fun y=>dM x.s y.a)
theorem wC(T:List Nat)(w:World)(x:WS)(b2 b3:Nat)(k:Int)(h:BD T w w (x.ts++[box b2 25 #[.pointer (some ⟨x.wb,0,none⟩)],box b3 3 #[.int .i64 k]]))(hn:x.s.L.length<1000000):
  Calls Tryz.prog 106 #[.pointer (some ⟨b2,0,none⟩),.pointer (some ⟨b3,0,none⟩)] w (JQ T w (x.cK k).1 (x.cK k).2.1 ((x.ar (x.cK k).2.2).ts++[box b2 25 #[.pointer (some ⟨x.wb,0,none⟩)],box b3 3 #[.int .i64 k]])):=by
 have BG:=hdq h;clear h;obtain⟨p0,_,zp,_,_⟩:=BG.out.c1 x.ts.length (t:=25) (b:=b2) (x0:= .pointer (some ⟨x.wb,0,none⟩)) (by simp);obtain⟨q0,_,zq,_,_⟩:=BG.out.c1 (x.ts.length+1) (t:=3) (b:=b3) (x0:= .int .i64 k) (by simp);obtain⟨w0',_,_,_⟩:=BG.out.Cb;have zw:x.wb<w.heap.size:=BG.out.Cb.lt;by_cases hk:0<=k/\k<(x.cos.length:Int)
 .obtain⟨n,rfl⟩:=Int.eq_ofNat_of_zero_le hk.1
  have hnk:n<x.cos.length:=by omega
  have HC:=hdq (fun W (hW:Touch [] w W)=>(BG.out.touch hW).r9 n hnk);have CV:=hdq (fun W (hW:Touch [] w W)=>(BG.out.touch hW).cLock 1 (6+(4*x.BI.length+(2*n+0))) (g:=x.ga) (s:=x.s) rfl (x.uq _ n hnk 0 (by omega)) (by omega));simp only[WS.iy]at CV;have HR:Hid (x.cK (n:Int)=rB x.s (some (dM x.s (x.cos[n]).a))):=by unfold Hid WS.cK;rw[gI hnk];rfl
  generalize hcn:x.cos[n].c=cn at HC CV;generalize x.cK (n:Int)=lr at HR|-;clear hk hcn;have BZ:=hdq (Touch.refl [] w).drew;go_enter Tryz.func106,Tryz.ntmps106
  go_wp2_with fail
  refine hrq (S:=fun w'=>w'.cell? ⟨b2,0,none⟩=some (.pointer (some ⟨x.wb,0,none⟩))/\w'.cell? ⟨b3,0,none⟩=some (.int .i64 (n:Int))/\w'.cell? ⟨x.wb,0,none⟩=some (.pointer (some ⟨x.ga,0,none⟩))) fun hHeld=>?_;refine tkq 0 3 ?_;refine tkq 1 4 ?_;refine tkq 3 6 ?_;refine tkq 4 7 ?_;refine tkq 5 8 ?_;refine tkq 6 9 ?_;refine tkq 7 10 ?_;refine rdq 2 rfl fun K hK=>?_;go_simp;refine(HC.out _ BZ.out).mono ?_;rintro e w1 ⟨rfl,ht⟩;have HT1:=hdq (BZ.out.trans' ht);have BB:=hdq (BG.out.touch HT1.out);clear ht p0 zp q0 zq w0' zw hHeld;obtain⟨p0,_,zp,_,_⟩:=BB.out.c1 x.ts.length (t:=25) (b:=b2) (x0:= .pointer (some ⟨x.wb,0,none⟩)) (by simp);obtain⟨q0,_,zq,_,_⟩:=BB.out.c1 (x.ts.length+1) (t:=3) (b:=b3) (x0:= .int .i64 (n:Int)) (by simp);obtain⟨w0',_,_,_⟩:=BB.out.Cb;go_simp;refine kpq hK.out fun hHeld=>?_;clear hK K;refine rdq 8 rfl fun K hK=>?_;go_simp;refine(CV.out _ HT1.out).mono ?_;rintro e w2 ⟨rfl,hL⟩;have HL2:=hdq hL;clear hL p0 zp q0 zq w0' hHeld BB;generalize hr:(dM x.s (x.cos[n]).a)=r at HR;have HRR:=hdq hr;clear hr;have hL2':BD T w w2 ((x.ar (dM x.s (x.cos[n]).a).2.2).ts++[box b2 25 #[.pointer (some ⟨x.wb,0,none⟩)],box b3 3 #[.int .i64 (n:Int)]]):=HL2.out;obtain⟨p0,_,zp,_,_⟩:=hL2'.c1 (x.ar (dM x.s (x.cos[n]).a).2.2).ts.length (t:=25) (b:=b2) (x0:= .pointer (some ⟨x.wb,0,none⟩)) (by simp);obtain⟨q0,_,zq,_,_⟩:=hL2'.c1 ((x.ar (dM x.s (x.cos[n]).a).2.2).ts.length+1) (t:=3) (b:=b3) (x0:= .int .i64 (n:Int)) (by simp);obtain⟨w0',_,_,_⟩:=hL2'.Cb;rw[HRR.out]at hL2';have BF:=hdq hL2';clear hL2' HL2;dsimp only[WS.ar]at w0';have HD:=hdq (show(dM x.s (x.cos[n]).a).1=r.1 from congrArg (fun z=>z.1) HRR.out);have HE:=hdq (show(dM x.s (x.cos[n]).a).2.1=r.2.1 from congrArg (fun z=>z.2.1) HRR.out);dsimp only[dM,fH]at HD HE;rw[HD.out,HE.out];clear HD HE HRR;go_simp;refine kpq hK.out fun hHeld=>?_;clear hK K;refine tkq 9 12 ?_;refine tkq 10 13 ?_;refine rdq 11 rfl fun K hK=>?_;go_simp;by_cases h0:r.2.1=0
  .rw[h0]
   refine(kX _ _).mono ?_;rintro e w3 ⟨rfl,rfl⟩;go_simp;refine kpq hK.out fun hHeld=>?_;clear hK K;refine tkq 12 2 ?_;refine dnq ?_;clear p0 zp q0 zq w0' hHeld;go_wp2;go_ret
   rw[HR.out];simp only[rB];rw[if_pos h0];exact⟨.inl ⟨rfl,rfl⟩,BF.out⟩
  .refine(jX _ _ _ (by omega)).mono ?_
   rintro e w3 ⟨rfl,rfl⟩;dsimp only;rw[HR.out];simp only[rB];rw[if_neg h0];exact⟨rfl,.inr ⟨rfl,rfl⟩,BF.out⟩
 .have E9:=hdq (fun W (hW:Touch [] w W)=>(BG.out.touch hW).iP k hk)
  have HR:Hid (x.cK k=rB x.s none):=by unfold Hid WS.cK;rw[gM hk];rfl
  rw[HR.out];have BZ:=hdq (Touch.refl [] w).drew;go_enter Tryz.func106,Tryz.ntmps106
  go_wp2_with fail
  refine hrq (S:=fun w'=>w'.cell? ⟨b2,0,none⟩=some (.pointer (some ⟨x.wb,0,none⟩))/\w'.cell? ⟨b3,0,none⟩=some (.int .i64 k)/\w'.cell? ⟨x.wb,0,none⟩=some (.pointer (some ⟨x.ga,0,none⟩))) fun hHeld=>?_;refine tkq 0 3 ?_;refine tkq 1 4 ?_;refine tkq 3 6 ?_;refine tkq 4 7 ?_;refine tkq 5 8 ?_;refine tkq 6 9 ?_;refine tkq 7 10 ?_;refine rdq 2 rfl fun K hK=>?_;go_simp;refine(E9.out _ BZ.out).mono ?_;rintro e w1 ⟨rfl,ht⟩;dsimp only;exact⟨rfl,.inr ⟨rfl,rfl⟩,BG.out.touch (BZ.out.trans' ht)⟩
theorem xZ(T:List Nat)(w:World)(x:WS)(k:Int)(h:BD T w w x.ts)(hn:x.s.L.length<1000000):
  Calls Tryz.prog 29 #[.pointer (some ⟨x.wb,0,none⟩),.int .i64 k] w fun e w'=>e= .returned (.tuple #[.bool (x.cK k).1,.int .i64 (x.cK k).2.1])/\BD T w w' (x.ar (x.cK k).2.2).ts:=by
 have Ep:= @mfq;have BG:=hdq h;clear h;go_enter Tryz.func29,Tryz.ntmps29
 go_wp2_with fail
 refine ah ?_;intro w1 hw1;have BB:=hdq (BG.out.DZ hw1);generalize hb3:w.heap.size+1=b3 at BB|-;generalize hb2:w.heap.size=b2 at BB|-;clear hw1 hb3 hb2 BG;refine(iK T w w1 _ _ _ (fun v er l'=>v=(x.cK k).1/\er=(x.cK k).2.1/\l'=(x.ar (x.cK k).2.2).ts++[box b2 25 #[.pointer (some ⟨x.wb,0,none⟩)],box b3 3 #[.int .i64 k]]) BB.out (enters_of Tryz.func106 (by kernel_rfl) rfl) (fun T' W hW=>?_)).mono ?_
 .refine(wC T' W x b2 b3 k (by simpa using hW) hn).mono ?_
  rintro e w' ⟨he,hL⟩;exact⟨_,_,_,he,⟨rfl,rfl,rfl⟩,hL⟩
 rintro e w' ⟨v,er,l',rfl,⟨rfl,rfl,rfl⟩,hL⟩;have HL2:=hdq hL.aF;clear hL BB;dsimp only;go_wp2;go_ret2
 exact⟨rfl,HL2.out⟩
def WS.eY(x:WS)(k:Int):Bool×Int×Ar:=rB x.s ((at_ x.cos k).map fun y=>fH x.s y.f)
theorem Ic(T:List Nat)(w:World)(x:WS)(b2 b3:Nat)(k:Int)(h:BD T w w (x.ts++[box b2 25 #[.pointer (some ⟨x.wb,0,none⟩)],box b3 3 #[.int .i64 k]]))(hn:x.s.L.length<1000000):
  Calls Tryz.prog 111 #[.pointer (some ⟨b2,0,none⟩),.pointer (some ⟨b3,0,none⟩)] w (JQ T w (x.eY k).1 (x.eY k).2.1 ((x.ar (x.eY k).2.2).ts++[box b2 25 #[.pointer (some ⟨x.wb,0,none⟩)],box b3 3 #[.int .i64 k]])):=by
 have BG:=hdq h;clear h;obtain⟨p0,_,zp,_,_⟩:=BG.out.c1 x.ts.length (t:=25) (b:=b2) (x0:= .pointer (some ⟨x.wb,0,none⟩)) (by simp);obtain⟨q0,_,zq,_,_⟩:=BG.out.c1 (x.ts.length+1) (t:=3) (b:=b3) (x0:= .int .i64 k) (by simp);obtain⟨w0',_,_,_⟩:=BG.out.Cb;have zw:x.wb<w.heap.size:=BG.out.Cb.lt;by_cases hk:0<=k/\k<(x.cos.length:Int)
 .obtain⟨n,rfl⟩:=Int.eq_ofNat_of_zero_le hk.1
  have hnk:n<x.cos.length:=by omega
  have HC:=hdq (fun W (hW:Touch [] w W)=>(BG.out.touch hW).r9 n hnk);have CV:=hdq (fun W (hW:Touch [] w W)=>(BG.out.touch hW).cFired 1 (6+(4*x.BI.length+(2*n+0))) (g:=x.ga) (s:=x.s) rfl (x.uq _ n hnk 0 (by omega)) (by omega) rfl rfl rfl);simp only[WS.iy]at CV;have HR:Hid (x.eY (n:Int)=rB x.s (some (fH x.s (x.cos[n]).f))):=by unfold Hid WS.eY;rw[gI hnk];rfl
  generalize hcn:x.cos[n].c=cn at HC CV;generalize x.eY (n:Int)=lr at HR|-;clear hk hcn;have BZ:=hdq (Touch.refl [] w).drew;go_enter Tryz.func111,Tryz.ntmps111
  go_wp2_with fail
  refine hrq (S:=fun w'=>w'.cell? ⟨b2,0,none⟩=some (.pointer (some ⟨x.wb,0,none⟩))/\w'.cell? ⟨b3,0,none⟩=some (.int .i64 (n:Int))/\w'.cell? ⟨x.wb,0,none⟩=some (.pointer (some ⟨x.ga,0,none⟩))) fun hHeld=>?_;refine tkq 0 3 ?_;refine tkq 1 4 ?_;refine tkq 3 6 ?_;refine tkq 4 7 ?_;refine tkq 5 8 ?_;refine tkq 6 9 ?_;refine tkq 7 10 ?_;refine rdq 2 rfl fun K hK=>?_;go_simp;refine(HC.out _ BZ.out).mono ?_;rintro e w1 ⟨rfl,ht⟩;have HT1:=hdq (BZ.out.trans' ht);have BB:=hdq (BG.out.touch HT1.out);clear ht p0 zp q0 zq w0' zw hHeld;obtain⟨p0,_,zp,_,_⟩:=BB.out.c1 x.ts.length (t:=25) (b:=b2) (x0:= .pointer (some ⟨x.wb,0,none⟩)) (by simp);obtain⟨q0,_,zq,_,_⟩:=BB.out.c1 (x.ts.length+1) (t:=3) (b:=b3) (x0:= .int .i64 (n:Int)) (by simp);obtain⟨w0',_,_,_⟩:=BB.out.Cb;go_simp;refine kpq hK.out fun hHeld=>?_;clear hK K;refine rdq 8 rfl fun K hK=>?_;go_simp;refine(CV.out _ HT1.out).mono ?_;rintro e w2 ⟨rfl,hL⟩;have HL2:=hdq hL;clear hL p0 zp q0 zq w0' hHeld BB;generalize hr:(fH x.s (x.cos[n]).f)=r at HR;have HRR:=hdq hr;clear hr;have hL2':BD T w w2 ((x.ar (fH x.s (x.cos[n]).f).2.2).ts++[box b2 25 #[.pointer (some ⟨x.wb,0,none⟩)],box b3 3 #[.int .i64 (n:Int)]]):=HL2.out;obtain⟨p0,_,zp,_,_⟩:=hL2'.c1 (x.ar (fH x.s (x.cos[n]).f).2.2).ts.length (t:=25) (b:=b2) (x0:= .pointer (some ⟨x.wb,0,none⟩)) (by simp);obtain⟨q0,_,zq,_,_⟩:=hL2'.c1 ((x.ar (fH x.s (x.cos[n]).f).2.2).ts.length+1) (t:=3) (b:=b3) (x0:= .int .i64 (n:Int)) (by simp);obtain⟨w0',_,_,_⟩:=hL2'.Cb;rw[HRR.out]at hL2';have BF:=hdq hL2';clear hL2' HL2;dsimp only[WS.ar]at w0';have HD:=hdq (show(fH x.s (x.cos[n]).f).1=r.1 from congrArg (fun z=>z.1) HRR.out);have HE:=hdq (show(fH x.s (x.cos[n]).f).2.1=r.2.1 from congrArg (fun z=>z.2.1) HRR.out);dsimp only[dM,fH]at HD HE;rw[HD.out,HE.out];clear HD HE HRR;go_simp;refine kpq hK.out fun hHeld=>?_;clear hK K;refine tkq 9 12 ?_;refine tkq 10 13 ?_;refine rdq 11 rfl fun K hK=>?_;go_simp;by_cases h0:r.2.1=0
  .rw[h0]
   refine(kX _ _).mono ?_;rintro e w3 ⟨rfl,rfl⟩;go_simp;refine kpq hK.out fun hHeld=>?_;clear hK K;refine tkq 12 2 ?_;refine dnq ?_;clear p0 zp q0 zq w0' hHeld;go_wp2;go_ret
   rw[HR.out];simp only[rB];rw[if_pos h0];exact⟨.inl ⟨rfl,rfl⟩,BF.out⟩
  .refine(jX _ _ _ (by omega)).mono ?_
   rintro e w3 ⟨rfl,rfl⟩;dsimp only;rw[HR.out];simp only[rB];rw[if_neg h0];exact⟨rfl,.inr ⟨rfl,rfl⟩,BF.out⟩
 .have E9:=hdq (fun W (hW:Touch [] w W)=>(BG.out.touch hW).iP k hk)
  have HR:Hid (x.eY k=rB x.s none):=by unfold Hid WS.eY;rw[gM hk];rfl
  rw[HR.out];have BZ:=hdq (Touch.refl [] w).drew;go_enter Tryz.func111,Tryz.ntmps111
  go_wp2_with fail
  refine hrq (S:=fun w'=>w'.cell? ⟨b2,0,none⟩=some (.pointer (some ⟨x.wb,0,none⟩))/\w'.cell? ⟨b3,0,none⟩=some (.int .i64 k)/\w'.cell? ⟨x.wb,0,none⟩=some (.pointer (some ⟨x.ga,0,none⟩))) fun hHeld=>?_;refine tkq 0 3 ?_;refine tkq 1 4 ?_;refine tkq 3 6 ?_;refine tkq 4 7 ?_;refine tkq 5 8 ?_;refine tkq 6 9 ?_;refine tkq 7 10 ?_;refine rdq 2 rfl fun K hK=>?_;go_simp;refine(E9.out _ BZ.out).mono ?_;rintro e w1 ⟨rfl,ht⟩;dsimp only;exact⟨rfl,.inr ⟨rfl,rfl⟩,BG.out.touch (BZ.out.trans' ht)⟩
theorem zJ(T:List Nat)(w:World)(x:WS)(k:Int)(h:BD T w w x.ts)(hn:x.s.L.length<1000000):
  Calls Tryz.prog 31 #[.pointer (some ⟨x.wb,0,none⟩),.int .i64 k] w fun e w'=>e= .returned (.tuple #[.bool (x.eY k).1,.int .i64 (x.eY k).2.1])/\BD T w w' (x.ar (x.eY k).2.2).ts:=by
 have Ep:= @mfq;have BG:=hdq h;clear h;go_enter Tryz.func31,Tryz.ntmps31
 go_wp2_with fail
 refine ah ?_;intro w1 hw1;have BB:=hdq (BG.out.DZ hw1);generalize hb3:w.heap.size+1=b3 at BB|-;generalize hb2:w.heap.size=b2 at BB|-;clear hw1 hb3 hb2 BG;refine(iK T w w1 _ _ _ (fun v er l'=>v=(x.eY k).1/\er=(x.eY k).2.1/\l'=(x.ar (x.eY k).2.2).ts++[box b2 25 #[.pointer (some ⟨x.wb,0,none⟩)],box b3 3 #[.int .i64 k]]) BB.out (enters_of Tryz.func111 (by kernel_rfl) rfl) (fun T' W hW=>?_)).mono ?_
 .refine(Ic T' W x b2 b3 k (by simpa using hW) hn).mono ?_
  rintro e w' ⟨he,hL⟩;exact⟨_,_,_,he,⟨rfl,rfl,rfl⟩,hL⟩
 rintro e w' ⟨v,er,l',rfl,⟨rfl,rfl,rfl⟩,hL⟩;have HL2:=hdq hL.aF;clear hL BB;dsimp only;go_wp2;go_ret2
 exact⟨rfl,HL2.out⟩
def WS.eF(x:WS)(k:Int):Int×Ar:=rE x.s ((at_ x.BI k).map fun y=>bY x.s y.cell)
theorem AV(T:List Nat)(w:World)(x:WS)(b2 b3:Nat)(k:Int)(h:BD T w w (x.ts++[box b2 25 #[.pointer (some ⟨x.wb,0,none⟩)],box b3 3 #[.int .i64 k]]))(hn:x.s.L.length<1000000):
  Calls Tryz.prog 96 #[.pointer (some ⟨b2,0,none⟩),.pointer (some ⟨b3,0,none⟩)] w (l5 T w (x.eF k).1 ((x.ar (x.eF k).2).ts++[box b2 25 #[.pointer (some ⟨x.wb,0,none⟩)],box b3 3 #[.int .i64 k]])):=by
 have BG:=hdq h;clear h;obtain⟨p0,_,zp,_,_⟩:=BG.out.c1 x.ts.length (t:=25) (b:=b2) (x0:= .pointer (some ⟨x.wb,0,none⟩)) (by simp);obtain⟨q0,_,zq,_,_⟩:=BG.out.c1 (x.ts.length+1) (t:=3) (b:=b3) (x0:= .int .i64 k) (by simp);obtain⟨w0',_,_,_⟩:=BG.out.Cb;have zw:x.wb<w.heap.size:=BG.out.Cb.lt;by_cases hk:0<=k/\k<(x.BI.length:Int)
 .obtain⟨n,rfl⟩:=Int.eq_ofNat_of_zero_le hk.1
  have hnk:n<x.BI.length:=by omega
  have HC:=hdq (fun W (hW:Touch [] w W)=>(BG.out.touch hW).Lp n hnk);have CV:=hdq (fun W (hW:Touch [] w W)=>(BG.out.touch hW).Jm 1 (g:=x.ga) (s:=x.s) rfl ((BG.out.touch hW).oM n hnk) (by omega));simp only[WS.iy]at CV;have HR:Hid (x.eF (n:Int)=rE x.s (some (bY x.s (x.BI[n]).cell))):=by unfold Hid WS.eF;rw[gI hnk];rfl
  generalize hcn:x.BI[n].c=cn at HC CV;generalize x.eF (n:Int)=lr at HR|-;clear hk hcn;have BZ:=hdq (Touch.refl [] w).drew;go_enter Tryz.func96,Tryz.ntmps96
  go_wp2_with fail
  refine hrq (S:=fun w'=>w'.cell? ⟨b2,0,none⟩=some (.pointer (some ⟨x.wb,0,none⟩))/\w'.cell? ⟨b3,0,none⟩=some (.int .i64 (n:Int))/\w'.cell? ⟨x.wb,0,none⟩=some (.pointer (some ⟨x.ga,0,none⟩))) fun hHeld=>?_;refine tkq 0 3 ?_;refine tkq 1 4 ?_;refine tkq 3 6 ?_;refine tkq 4 7 ?_;refine tkq 5 8 ?_;refine tkq 6 9 ?_;refine tkq 7 10 ?_;refine rdq 2 rfl fun K hK=>?_;go_simp;refine(HC.out _ BZ.out).mono ?_;rintro e w1 ⟨rfl,ht⟩;have HT1:=hdq (BZ.out.trans' ht);have BB:=hdq (BG.out.touch HT1.out);clear ht p0 zp q0 zq w0' zw hHeld;obtain⟨p0,_,zp,_,_⟩:=BB.out.c1 x.ts.length (t:=25) (b:=b2) (x0:= .pointer (some ⟨x.wb,0,none⟩)) (by simp);obtain⟨q0,_,zq,_,_⟩:=BB.out.c1 (x.ts.length+1) (t:=3) (b:=b3) (x0:= .int .i64 (n:Int)) (by simp);obtain⟨w0',_,_,_⟩:=BB.out.Cb;go_simp;refine kpq hK.out fun hHeld=>?_;clear hK K;refine rdq 8 rfl fun K hK=>?_;go_simp;refine(CV.out _ HT1.out).mono ?_;rintro e w2 ⟨rfl,hL⟩;have HL2:=hdq hL;clear hL p0 zp q0 zq w0' hHeld BB;generalize hr:(bY x.s (x.BI[n]).cell)=r at HR;have HRR:=hdq hr;clear hr;have hL2':BD T w w2 ((x.ar (bY x.s (x.BI[n]).cell).2).ts++[box b2 25 #[.pointer (some ⟨x.wb,0,none⟩)],box b3 3 #[.int .i64 (n:Int)]]):=HL2.out;obtain⟨p0,_,zp,_,_⟩:=hL2'.c1 (x.ar (bY x.s (x.BI[n]).cell).2).ts.length (t:=25) (b:=b2) (x0:= .pointer (some ⟨x.wb,0,none⟩)) (by simp);obtain⟨q0,_,zq,_,_⟩:=hL2'.c1 ((x.ar (bY x.s (x.BI[n]).cell).2).ts.length+1) (t:=3) (b:=b3) (x0:= .int .i64 (n:Int)) (by simp);obtain⟨w0',_,_,_⟩:=hL2'.Cb;rw[HRR.out]at hL2';have BF:=hdq hL2';clear hL2' HL2;dsimp only[WS.ar]at w0';have HE:=hdq (show(bY x.s (x.BI[n]).cell).1=r.1 from congrArg (fun z=>z.1) HRR.out);dsimp only[bY,iA]at HE;rw[HE.out];clear HE HRR;go_simp;refine kpq hK.out fun hHeld=>?_;clear hK K;refine tkq 9 2 ?_;refine dnq ?_;clear p0 zp q0 zq w0' hHeld;go_wp2;go_ret
  rw[HR.out];exact⟨⟨(r.1:Int),0,.inl ⟨rfl,rfl⟩,by simp[rE]⟩,BF.out⟩
 .have E9:=hdq (fun W (hW:Touch [] w W)=>(BG.out.touch hW).nK k hk)
  have HR:Hid (x.eF k=rE x.s none):=by unfold Hid WS.eF;rw[gM hk];rfl
  rw[HR.out];have BZ:=hdq (Touch.refl [] w).drew;go_enter Tryz.func96,Tryz.ntmps96
  go_wp2_with fail
  refine hrq (S:=fun w'=>w'.cell? ⟨b2,0,none⟩=some (.pointer (some ⟨x.wb,0,none⟩))/\w'.cell? ⟨b3,0,none⟩=some (.int .i64 k)/\w'.cell? ⟨x.wb,0,none⟩=some (.pointer (some ⟨x.ga,0,none⟩))) fun hHeld=>?_;refine tkq 0 3 ?_;refine tkq 1 4 ?_;refine tkq 3 6 ?_;refine tkq 4 7 ?_;refine tkq 5 8 ?_;refine tkq 6 9 ?_;refine tkq 7 10 ?_;refine rdq 2 rfl fun K hK=>?_;go_simp;refine(E9.out _ BZ.out).mono ?_;rintro e w1 ⟨rfl,ht⟩;dsimp only;exact⟨rfl,⟨0,4,.inr ⟨rfl,rfl⟩,rfl⟩,BG.out.touch (BZ.out.trans' ht)⟩
theorem vP(T:List Nat)(w:World)(x:WS)(k:Int)(h:BD T w w x.ts)(hn:x.s.L.length<1000000):
  Calls Tryz.prog 25 #[.pointer (some ⟨x.wb,0,none⟩),.int .i64 k] w fun e w'=>e= .returned (.int .i64 (x.eF k).1)/\BD T w w' (x.ar (x.eF k).2).ts:=by
 have Ep:= @mfq;have BG:=hdq h;clear h;go_enter Tryz.func25,Tryz.ntmps25
 go_wp2_with fail
 refine ah ?_;intro w1 hw1;have BB:=hdq (BG.out.DZ hw1);generalize hb3:w.heap.size+1=b3 at BB|-;generalize hb2:w.heap.size=b2 at BB|-;clear hw1 hb3 hb2 BG;refine(qF T w w1 _ _ _ (x.eF k).1 ((x.ar (x.eF k).2).ts++[box b2 25 #[.pointer (some ⟨x.wb,0,none⟩)],box b3 3 #[.int .i64 k]]) BB.out (enters_of Tryz.func96 (by kernel_rfl) rfl) (fun T' W hW=>AV T' W x b2 b3 k (by simpa using hW) hn)).mono ?_;rintro e w' ⟨rfl,hL⟩;have HL2:=hdq hL.aF;clear hL BB;dsimp only;go_wp2;go_ret
 exact⟨rfl,HL2.out⟩
def WS.bZ(x:WS)(k:Int):Int×Ar:=rE x.s ((at_ x.cos k).map fun y=>bY x.s y.a)
theorem rf(T:List Nat)(w:World)(x:WS)(b2 b3:Nat)(k:Int)(h:BD T w w (x.ts++[box b2 25 #[.pointer (some ⟨x.wb,0,none⟩)],box b3 3 #[.int .i64 k]]))(hn:x.s.L.length<1000000):
  Calls Tryz.prog 109 #[.pointer (some ⟨b2,0,none⟩),.pointer (some ⟨b3,0,none⟩)] w (l5 T w (x.bZ k).1 ((x.ar (x.bZ k).2).ts++[box b2 25 #[.pointer (some ⟨x.wb,0,none⟩)],box b3 3 #[.int .i64 k]])):=by
 have BG:=hdq h;clear h;obtain⟨p0,_,zp,_,_⟩:=BG.out.c1 x.ts.length (t:=25) (b:=b2) (x0:= .pointer (some ⟨x.wb,0,none⟩)) (by simp);obtain⟨q0,_,zq,_,_⟩:=BG.out.c1 (x.ts.length+1) (t:=3) (b:=b3) (x0:= .int .i64 k) (by simp);obtain⟨w0',_,_,_⟩:=BG.out.Cb;have zw:x.wb<w.heap.size:=BG.out.Cb.lt;by_cases hk:0<=k/\k<(x.cos.length:Int)
 .obtain⟨n,rfl⟩:=Int.eq_ofNat_of_zero_le hk.1
  have hnk:n<x.cos.length:=by omega
  have HC:=hdq (fun W (hW:Touch [] w W)=>(BG.out.touch hW).r9 n hnk);have CV:=hdq (fun W (hW:Touch [] w W)=>(BG.out.touch hW).OB 1 (6+(4*x.BI.length+(2*n+0))) (g:=x.ga) (s:=x.s) rfl (x.uq _ n hnk 0 (by omega)) (by omega));simp only[WS.iy]at CV;have HR:Hid (x.bZ (n:Int)=rE x.s (some (bY x.s (x.cos[n]).a))):=by unfold Hid WS.bZ;rw[gI hnk];rfl
  generalize hcn:x.cos[n].c=cn at HC CV;generalize x.bZ (n:Int)=lr at HR|-;clear hk hcn;have BZ:=hdq (Touch.refl [] w).drew;go_enter Tryz.func109,Tryz.ntmps109
  go_wp2_with fail
  refine hrq (S:=fun w'=>w'.cell? ⟨b2,0,none⟩=some (.pointer (some ⟨x.wb,0,none⟩))/\w'.cell? ⟨b3,0,none⟩=some (.int .i64 (n:Int))/\w'.cell? ⟨x.wb,0,none⟩=some (.pointer (some ⟨x.ga,0,none⟩))) fun hHeld=>?_;refine tkq 0 3 ?_;refine tkq 1 4 ?_;refine tkq 3 6 ?_;refine tkq 4 7 ?_;refine tkq 5 8 ?_;refine tkq 6 9 ?_;refine tkq 7 10 ?_;refine rdq 2 rfl fun K hK=>?_;go_simp;refine(HC.out _ BZ.out).mono ?_;rintro e w1 ⟨rfl,ht⟩;have HT1:=hdq (BZ.out.trans' ht);have BB:=hdq (BG.out.touch HT1.out);clear ht p0 zp q0 zq w0' zw hHeld;obtain⟨p0,_,zp,_,_⟩:=BB.out.c1 x.ts.length (t:=25) (b:=b2) (x0:= .pointer (some ⟨x.wb,0,none⟩)) (by simp);obtain⟨q0,_,zq,_,_⟩:=BB.out.c1 (x.ts.length+1) (t:=3) (b:=b3) (x0:= .int .i64 (n:Int)) (by simp);obtain⟨w0',_,_,_⟩:=BB.out.Cb;go_simp;refine kpq hK.out fun hHeld=>?_;clear hK K;refine rdq 8 rfl fun K hK=>?_;go_simp;refine(CV.out _ HT1.out).mono ?_;rintro e w2 ⟨rfl,hL⟩;have HL2:=hdq hL;clear hL p0 zp q0 zq w0' hHeld BB;generalize hr:(bY x.s (x.cos[n]).a)=r at HR;have HRR:=hdq hr;clear hr;have hL2':BD T w w2 ((x.ar (bY x.s (x.cos[n]).a).2).ts++[box b2 25 #[.pointer (some ⟨x.wb,0,none⟩)],box b3 3 #[.int .i64 (n:Int)]]):=HL2.out;obtain⟨p0,_,zp,_,_⟩:=hL2'.c1 (x.ar (bY x.s (x.cos[n]).a).2).ts.length (t:=25) (b:=b2) (x0:= .pointer (some ⟨x.wb,0,none⟩)) (by simp);obtain⟨q0,_,zq,_,_⟩:=hL2'.c1 ((x.ar (bY x.s (x.cos[n]).a).2).ts.length+1) (t:=3) (b:=b3) (x0:= .int .i64 (n:Int)) (by simp);obtain⟨w0',_,_,_⟩:=hL2'.Cb;rw[HRR.out]at hL2';have BF:=hdq hL2';clear hL2' HL2;dsimp only[WS.ar]at w0';have HE:=hdq (show(bY x.s (x.cos[n]).a).1=r.1 from congrArg (fun z=>z.1) HRR.out);dsimp only[bY,iA]at HE;rw[HE.out];clear HE HRR;go_simp;refine kpq hK.out fun hHeld=>?_;clear hK K;refine tkq 9 2 ?_;refine dnq ?_;clear p0 zp q0 zq w0' hHeld;go_wp2;go_ret
  rw[HR.out];exact⟨⟨(r.1:Int),0,.inl ⟨rfl,rfl⟩,by simp[rE]⟩,BF.out⟩
 .have E9:=hdq (fun W (hW:Touch [] w W)=>(BG.out.touch hW).iP k hk)
  have HR:Hid (x.bZ k=rE x.s none):=by unfold Hid WS.bZ;rw[gM hk];rfl
  rw[HR.out];have BZ:=hdq (Touch.refl [] w).drew;go_enter Tryz.func109,Tryz.ntmps109
  go_wp2_with fail
  refine hrq (S:=fun w'=>w'.cell? ⟨b2,0,none⟩=some (.pointer (some ⟨x.wb,0,none⟩))/\w'.cell? ⟨b3,0,none⟩=some (.int .i64 k)/\w'.cell? ⟨x.wb,0,none⟩=some (.pointer (some ⟨x.ga,0,none⟩))) fun hHeld=>?_;refine tkq 0 3 ?_;refine tkq 1 4 ?_;refine tkq 3 6 ?_;refine tkq 4 7 ?_;refine tkq 5 8 ?_;refine tkq 6 9 ?_;refine tkq 7 10 ?_;refine rdq 2 rfl fun K hK=>?_;go_simp;refine(E9.out _ BZ.out).mono ?_;rintro e w1 ⟨rfl,ht⟩;dsimp only;exact⟨rfl,⟨0,4,.inr ⟨rfl,rfl⟩,rfl⟩,BG.out.touch (BZ.out.trans' ht)⟩
theorem tK(T:List Nat)(w:World)(x:WS)(k:Int)(h:BD T w w x.ts)(hn:x.s.L.length<1000000):
  Calls Tryz.prog 30 #[.pointer (some ⟨x.wb,0,none⟩),.int .i64 k] w fun e w'=>e= .returned (.int .i64 (x.bZ k).1)/\BD T w w' (x.ar (x.bZ k).2).ts:=by
 have Ep:= @mfq;have BG:=hdq h;clear h;go_enter Tryz.func30,Tryz.ntmps30
 go_wp2_with fail
 refine ah ?_;intro w1 hw1;have BB:=hdq (BG.out.DZ hw1);generalize hb3:w.heap.size+1=b3 at BB|-;generalize hb2:w.heap.size=b2 at BB|-;clear hw1 hb3 hb2 BG;refine(qF T w w1 _ _ _ (x.bZ k).1 ((x.ar (x.bZ k).2).ts++[box b2 25 #[.pointer (some ⟨x.wb,0,none⟩)],box b3 3 #[.int .i64 k]]) BB.out (enters_of Tryz.func109 (by kernel_rfl) rfl) (fun T' W hW=>rf T' W x b2 b3 k (by simpa using hW) hn)).mono ?_;rintro e w' ⟨rfl,hL⟩;have HL2:=hdq hL.aF;clear hL BB;dsimp only;go_wp2;go_ret
 exact⟨rfl,HL2.out⟩
def WS.ja(x:WS)(k:Int):Int×Ar:=rE x.s ((at_ x.cos k).map fun y=>iA x.s y.f)
theorem Od(T:List Nat)(w:World)(x:WS)(b2 b3:Nat)(k:Int)(h:BD T w w (x.ts++[box b2 25 #[.pointer (some ⟨x.wb,0,none⟩)],box b3 3 #[.int .i64 k]]))(hn:x.s.L.length<1000000):
  Calls Tryz.prog 113 #[.pointer (some ⟨b2,0,none⟩),.pointer (some ⟨b3,0,none⟩)] w (l5 T w (x.ja k).1 ((x.ar (x.ja k).2).ts++[box b2 25 #[.pointer (some ⟨x.wb,0,none⟩)],box b3 3 #[.int .i64 k]])):=by
 have BG:=hdq h;clear h;obtain⟨p0,_,zp,_,_⟩:=BG.out.c1 x.ts.length (t:=25) (b:=b2) (x0:= .pointer (some ⟨x.wb,0,none⟩)) (by simp);obtain⟨q0,_,zq,_,_⟩:=BG.out.c1 (x.ts.length+1) (t:=3) (b:=b3) (x0:= .int .i64 k) (by simp);obtain⟨w0',_,_,_⟩:=BG.out.Cb;have zw:x.wb<w.heap.size:=BG.out.Cb.lt;by_cases hk:0<=k/\k<(x.cos.length:Int)
 .obtain⟨n,rfl⟩:=Int.eq_ofNat_of_zero_le hk.1
  have hnk:n<x.cos.length:=by omega
  have HC:=hdq (fun W (hW:Touch [] w W)=>(BG.out.touch hW).r9 n hnk);have CV:=hdq (fun W (hW:Touch [] w W)=>(BG.out.touch hW).cFire 1 (6+(4*x.BI.length+(2*n+0))) (g:=x.ga) (s:=x.s) rfl (x.uq _ n hnk 0 (by omega)) (by omega) rfl rfl);simp only[WS.iy]at CV;have HR:Hid (x.ja (n:Int)=rE x.s (some (iA x.s (x.cos[n]).f))):=by unfold Hid WS.ja;rw[gI hnk];rfl
  generalize hcn:x.cos[n].c=cn at HC CV;generalize x.ja (n:Int)=lr at HR|-;clear hk hcn;have BZ:=hdq (Touch.refl [] w).drew;go_enter Tryz.func113,Tryz.ntmps113
  go_wp2_with fail
  refine hrq (S:=fun w'=>w'.cell? ⟨b2,0,none⟩=some (.pointer (some ⟨x.wb,0,none⟩))/\w'.cell? ⟨b3,0,none⟩=some (.int .i64 (n:Int))/\w'.cell? ⟨x.wb,0,none⟩=some (.pointer (some ⟨x.ga,0,none⟩))) fun hHeld=>?_;refine tkq 0 3 ?_;refine tkq 1 4 ?_;refine tkq 3 6 ?_;refine tkq 4 7 ?_;refine tkq 5 8 ?_;refine tkq 6 9 ?_;refine tkq 7 10 ?_;refine rdq 2 rfl fun K hK=>?_;go_simp;refine(HC.out _ BZ.out).mono ?_;rintro e w1 ⟨rfl,ht⟩;have HT1:=hdq (BZ.out.trans' ht);have BB:=hdq (BG.out.touch HT1.out);clear ht p0 zp q0 zq w0' zw hHeld;obtain⟨p0,_,zp,_,_⟩:=BB.out.c1 x.ts.length (t:=25) (b:=b2) (x0:= .pointer (some ⟨x.wb,0,none⟩)) (by simp);obtain⟨q0,_,zq,_,_⟩:=BB.out.c1 (x.ts.length+1) (t:=3) (b:=b3) (x0:= .int .i64 (n:Int)) (by simp);obtain⟨w0',_,_,_⟩:=BB.out.Cb;go_simp;refine kpq hK.out fun hHeld=>?_;clear hK K;refine rdq 8 rfl fun K hK=>?_;go_simp;refine(CV.out _ HT1.out).mono ?_;rintro e w2 ⟨rfl,hL⟩;have HL2:=hdq hL;clear hL p0 zp q0 zq w0' hHeld BB;generalize hr:(iA x.s (x.cos[n]).f)=r at HR;have HRR:=hdq hr;clear hr;have hL2':BD T w w2 ((x.ar (iA x.s (x.cos[n]).f).2).ts++[box b2 25 #[.pointer (some ⟨x.wb,0,none⟩)],box b3 3 #[.int .i64 (n:Int)]]):=HL2.out;obtain⟨p0,_,zp,_,_⟩:=hL2'.c1 (x.ar (iA x.s (x.cos[n]).f).2).ts.length (t:=25) (b:=b2) (x0:= .pointer (some ⟨x.wb,0,none⟩)) (by simp);obtain⟨q0,_,zq,_,_⟩:=hL2'.c1 ((x.ar (iA x.s (x.cos[n]).f).2).ts.length+1) (t:=3) (b:=b3) (x0:= .int .i64 (n:Int)) (by simp);obtain⟨w0',_,_,_⟩:=hL2'.Cb;rw[HRR.out]at hL2';have BF:=hdq hL2';clear hL2' HL2;dsimp only[WS.ar]at w0';have HE:=hdq (show(iA x.s (x.cos[n]).f).1=r.1 from congrArg (fun z=>z.1) HRR.out);dsimp only[bY,iA]at HE;rw[HE.out];clear HE HRR;go_simp;refine kpq hK.out fun hHeld=>?_;clear hK K;refine tkq 9 2 ?_;refine dnq ?_;clear p0 zp q0 zq w0' hHeld;go_wp2;go_ret
  rw[HR.out];exact⟨⟨(r.1:Int),0,.inl ⟨rfl,rfl⟩,by simp[rE]⟩,BF.out⟩
 .have E9:=hdq (fun W (hW:Touch [] w W)=>(BG.out.touch hW).iP k hk)
  have HR:Hid (x.ja k=rE x.s none):=by unfold Hid WS.ja;rw[gM hk];rfl
  rw[HR.out];have BZ:=hdq (Touch.refl [] w).drew;go_enter Tryz.func113,Tryz.ntmps113
  go_wp2_with fail
  refine hrq (S:=fun w'=>w'.cell? ⟨b2,0,none⟩=some (.pointer (some ⟨x.wb,0,none⟩))/\w'.cell? ⟨b3,0,none⟩=some (.int .i64 k)/\w'.cell? ⟨x.wb,0,none⟩=some (.pointer (some ⟨x.ga,0,none⟩))) fun hHeld=>?_;refine tkq 0 3 ?_;refine tkq 1 4 ?_;refine tkq 3 6 ?_;refine tkq 4 7 ?_;refine tkq 5 8 ?_;refine tkq 6 9 ?_;refine tkq 7 10 ?_;refine rdq 2 rfl fun K hK=>?_;go_simp;refine(E9.out _ BZ.out).mono ?_;rintro e w1 ⟨rfl,ht⟩;dsimp only;exact⟨rfl,⟨0,4,.inr ⟨rfl,rfl⟩,rfl⟩,BG.out.touch (BZ.out.trans' ht)⟩
theorem Kh(T:List Nat)(w:World)(x:WS)(k:Int)(h:BD T w w x.ts)(hn:x.s.L.length<1000000):
  Calls Tryz.prog 32 #[.pointer (some ⟨x.wb,0,none⟩),.int .i64 k] w fun e w'=>e= .returned (.int .i64 (x.ja k).1)/\BD T w w' (x.ar (x.ja k).2).ts:=by
 have Ep:= @mfq;have BG:=hdq h;clear h;go_enter Tryz.func32,Tryz.ntmps32
 go_wp2_with fail
 refine ah ?_;intro w1 hw1;have BB:=hdq (BG.out.DZ hw1);generalize hb3:w.heap.size+1=b3 at BB|-;generalize hb2:w.heap.size=b2 at BB|-;clear hw1 hb3 hb2 BG;refine(qF T w w1 _ _ _ (x.ja k).1 ((x.ar (x.ja k).2).ts++[box b2 25 #[.pointer (some ⟨x.wb,0,none⟩)],box b3 3 #[.int .i64 k]]) BB.out (enters_of Tryz.func113 (by kernel_rfl) rfl) (fun T' W hW=>Od T' W x b2 b3 k (by simpa using hW) hn)).mono ?_;rintro e w' ⟨rfl,hL⟩;have HL2:=hdq hL.aF;clear hL BB;dsimp only;go_wp2;go_ret
 exact⟨rfl,HL2.out⟩
def bE(v er:Nat):Nat×Nat:=if er≠0 then(0,er)else if 2<v then(0,120)else(v,0)
section
variable (w:World) (p:Option Addr) (at_:Int) (v er:Nat) (d:Bool) (R:World->Prop)
theorem OE(tO:Nat)(hto:tO<=2)(h:Calls Tryz.prog 208 #[.pointer p,.int .i64 at_,.int .u64 0,.int .u64 (tO:Int)] (w.alloc (.cells #[.pointer p] 267)) fun e w'=>e= .returned (.tuple #[.int .u64 (v:Int),.bool d,.int .i64 (er:Int)])/\R w'):
  Calls Tryz.prog 211 #[.agg #[.pointer p],.int .i64 at_,.int .i64 (tO:Int)] w fun e w'=>e= .returned (.tuple #[.int .u64 (v:Int),.int .i64 (er:Int)])/\R w':=by
 have H:=hdq h;have hc:IntKind.u64.wrap (tO:Int)=(tO:Int):=by rw[IntKind.wrap_u64];omega
 clear h;go_enter Tryz.func211,Tryz.ntmps211
 go_wp2_with fail
 refine H.out.mono ?_;rintro e w' ⟨rfl,h⟩;have H2:=hdq h;clear h;go_wp2;go_ret2
 exact⟨rfl,H2.out⟩
theorem loadM(h:Calls Tryz.prog 206 #[.pointer p,.int .i64 at_] ((w.alloc (.cells #[.pointer p] 267)).alloc (.cells #[] 270)) fun e w'=>e= .returned (.tuple #[.int .u64 (v:Int),.int .i64 (er:Int)])/\R w'):
  Calls Tryz.prog 214 #[.agg #[.pointer p],.int .i64 at_,.agg #[]] w fun e w'=>e= .returned (.tuple #[.int .u64 (v:Int),.int .i64 (er:Int)])/\R w':=by
 have H:=hdq h;clear h;go_enter Tryz.func214,Tryz.ntmps214
 go_wp2_with fail
 refine H.out.mono ?_;rintro e w' ⟨rfl,h⟩;have H2:=hdq h;clear h;go_wp2;go_ret2
 exact⟨rfl,H2.out⟩
theorem Ir(tO:Nat)(hv:Wd v)(h:Calls Tryz.prog 211 #[.agg #[.pointer p],.int .i64 at_,.int .i64 (tO:Int)] w fun e w'=>e= .returned (.tuple #[.int .u64 (v:Int),.int .i64 (er:Int)])/\R w'):
  Calls Tryz.prog 210 #[.func (.func 211) #[.agg #[.pointer p]] #[],.int .i64 at_,.int .i64 (tO:Int)] w fun e w'=>e= .returned (.tuple #[.int .i64 ((bE v er).1:Int),.int .i64 ((bE v er).2:Int)])/\R w':=by
 have H:=hdq h;have eg:=enters_of Tryz.func211 (by kernel_rfl) rfl;clear h;go_enter Tryz.func210,Tryz.ntmps210
 go_wp2;refine bT 0 rfl ?_;by_cases he:er=0
 .subst he
  by_cases h2:2<v
  .have HF:Hid (bE v 0=(0,120)):=by simp[Hid,bE,h2]
   have h2':(2:Int)<(v:Int):=by omega
   go_wp2_with fail
   refine H.out.mono ?_;rintro e w' ⟨rfl,h⟩;have H2:=hdq h;clear h;go_wp2;go_step3
   refine⟨rfl,?_⟩;go_wp2;refine dO ?_;go_ret2
   exact⟨by rw[HF.out];rfl,H2.out⟩
  .have HF:Hid (bE v 0=(v,0)):=by simp[Hid,bE,h2]
   have h2':¬(2:Int)<(v:Int):=by omega
   have hc:IntKind.i64.wrap (v:Int)=(v:Int):=IntWalk.i64_in _ (by omega);go_wp2_with fail
   refine H.out.mono ?_;rintro e w' ⟨rfl,h⟩;have H2:=hdq h;clear h;go_wp2;go_step3
   go_wp2;refine fO ?_;go_ret2
   exact⟨by rw[HF.out];rfl,H2.out⟩
 .have HF:Hid (bE v er=(0,er)):=by simp[Hid,bE,he]
  have he':((er:Int) != 0)=true:=by simp;omega
  go_wp2_with fail
  refine H.out.mono ?_;rintro e w' ⟨rfl,h⟩;have H2:=hdq h;clear h;go_wp2;go_step3
  refine⟨rfl,?_⟩;go_wp2;refine dO ?_;go_ret2
  exact⟨by rw[HF.out];rfl,H2.out⟩
theorem step77(hv:Wd v)(h:Calls Tryz.prog 214 #[.agg #[.pointer p],.int .i64 at_,.agg #[]] (w.alloc (.cells #[] 270)) fun e w'=>e= .returned (.tuple #[.int .u64 (v:Int),.int .i64 (er:Int)])/\R w'):
  Calls Tryz.prog 213 #[.func (.func 214) #[.agg #[.pointer p]] #[],.int .i64 at_,.agg #[]] w fun e w'=>e= .returned (.tuple #[.int .i64 ((bE v er).1:Int),.int .i64 ((bE v er).2:Int)])/\R w':=by
 have H:=hdq h;have eg:=enters_of Tryz.func214 (by kernel_rfl) rfl;clear h;go_enter Tryz.func213,Tryz.ntmps213
 go_wp2;refine bT 0 rfl ?_;by_cases he:er=0
 .subst he
  by_cases h2:2<v
  .have HF:Hid (bE v 0=(0,120)):=by simp[Hid,bE,h2]
   have h2':(2:Int)<(v:Int):=by omega
   go_wp2_with fail
   refine H.out.mono ?_;rintro e w' ⟨rfl,h⟩;have H2:=hdq h;clear h;go_wp2;go_step3
   refine⟨rfl,?_⟩;go_wp2;refine dO ?_;go_ret2
   exact⟨by rw[HF.out];rfl,H2.out⟩
  .have HF:Hid (bE v 0=(v,0)):=by simp[Hid,bE,h2]
   have h2':¬(2:Int)<(v:Int):=by omega
   have hc:IntKind.i64.wrap (v:Int)=(v:Int):=IntWalk.i64_in _ (by omega);go_wp2_with fail
   refine H.out.mono ?_;rintro e w' ⟨rfl,h⟩;have H2:=hdq h;clear h;go_wp2;go_step3
   go_wp2;refine fO ?_;go_ret2
   exact⟨by rw[HF.out];rfl,H2.out⟩
 .have HF:Hid (bE v er=(0,er)):=by simp[Hid,bE,he]
  have he':((er:Int) != 0)=true:=by simp;omega
  go_wp2_with fail
  refine H.out.mono ?_;rintro e w' ⟨rfl,h⟩;have H2:=hdq h;clear h;go_wp2;go_step3
  refine⟨rfl,?_⟩;go_wp2;refine dO ?_;go_ret2
  exact⟨by rw[HF.out];rfl,H2.out⟩
theorem Ig(hv:Wd v)(h:Calls Tryz.prog 208 #[.pointer p,.int .i64 at_,.int .u64 0,.int .u64 ((1:Nat):Int)] (w.alloc (.cells #[.pointer p] 267)) fun e w'=>e= .returned (.tuple #[.int .u64 (v:Int),.bool d,.int .i64 (er:Int)])/\R w'):
  Calls Tryz.prog 122 #[.pointer p,.int .i64 at_] w fun e w'=>e= .returned (.tuple #[.int .i64 ((bE v er).1:Int),.int .i64 ((bE v er).2:Int)])/\R w':=by
 have H:=hdq (Ir w p at_ v er R 1 hv (OE w p at_ v er d R 1 (by omega) h));clear h;go_enter Tryz.func122,Tryz.ntmps122
 go_wp2_with fail
 refine H.out.mono ?_;rintro e w' ⟨rfl,h⟩;have H2:=hdq h;clear h;go_wp2;go_ret2
 exact⟨rfl,H2.out⟩
theorem Nb(hv:Wd v)(h:Calls Tryz.prog 208 #[.pointer p,.int .i64 at_,.int .u64 0,.int .u64 ((2:Nat):Int)] (w.alloc (.cells #[.pointer p] 267)) fun e w'=>e= .returned (.tuple #[.int .u64 (v:Int),.bool d,.int .i64 (er:Int)])/\R w'):
  Calls Tryz.prog 126 #[.pointer p,.int .i64 at_] w fun e w'=>e= .returned (.tuple #[.int .i64 ((bE v er).1:Int),.int .i64 ((bE v er).2:Int)])/\R w':=by
 have H:=hdq (Ir w p at_ v er R 2 hv (OE w p at_ v er d R 2 (by omega) h));clear h;go_enter Tryz.func126,Tryz.ntmps126
 go_wp2_with fail
 refine H.out.mono ?_;rintro e w' ⟨rfl,h⟩;have H2:=hdq h;clear h;go_wp2;go_ret2
 exact⟨rfl,H2.out⟩
theorem Nk(hv:Wd v)(h:Calls Tryz.prog 206 #[.pointer p,.int .i64 at_] (((w.alloc (.cells #[] 270)).alloc (.cells #[.pointer p] 267)).alloc (.cells #[] 270)) fun e w'=>e= .returned (.tuple #[.int .u64 (v:Int),.int .i64 (er:Int)])/\R w'):
  Calls Tryz.prog 130 #[.pointer p,.int .i64 at_] w fun e w'=>e= .returned (.tuple #[.int .i64 ((bE v er).1:Int),.int .i64 ((bE v er).2:Int)])/\R w':=by
 have H:=hdq (step77 w p at_ v er R hv (loadM _ p at_ v er R h));clear h;go_enter Tryz.func130,Tryz.ntmps130
 go_wp2_with fail
 refine H.out.mono ?_;rintro e w' ⟨rfl,h⟩;have H2:=hdq h;clear h;go_wp2;go_ret2
 exact⟨rfl,H2.out⟩
theorem wR(h:Calls Tryz.prog 212 #[.pointer p,.int .i64 at_,.int .u64 ((0:Nat):Int)] w fun e w'=>e= .returned (.int .i64 (er:Int))/\R w'):
  Calls Tryz.prog 124 #[.pointer p,.int .i64 at_] w fun e w'=>e= .returned (.int .i64 (er:Int))/\R w':=by
 have H:=hdq h;clear h;go_enter Tryz.func124,Tryz.ntmps124
 go_wp2_with fail
 refine H.out.mono ?_;rintro e w' ⟨rfl,h⟩;have H2:=hdq h;clear h;go_wp2;go_ret
 exact⟨rfl,H2.out⟩
theorem Am(h:Calls Tryz.prog 212 #[.pointer p,.int .i64 at_,.int .u64 ((2:Nat):Int)] w fun e w'=>e= .returned (.int .i64 (er:Int))/\R w'):
  Calls Tryz.prog 128 #[.pointer p,.int .i64 at_] w fun e w'=>e= .returned (.int .i64 (er:Int))/\R w':=by
 have H:=hdq h;clear h;go_enter Tryz.func128,Tryz.ntmps128
 go_wp2_with fail
 refine H.out.mono ?_;rintro e w' ⟨rfl,h⟩;have H2:=hdq h;clear h;go_wp2;go_ret
 exact⟨rfl,H2.out⟩
theorem xB(pl:Nat)(h:Calls Tryz.prog 185 #[.pointer p,.int .i64 1] w fun e w'=>e= .returned (.tuple #[.int .i64 (pl:Int),.int .i64 (er:Int)])/\R w')(hp:er≠0->pl=0):
  Calls Tryz.prog 90 #[.pointer p] w fun e w'=>e= .returned (.tuple #[.int .i64 (pl:Int),.int .i64 (er:Int)])/\R w':=by
 have H:=hdq h;clear h;go_enter Tryz.func90,Tryz.ntmps90
 go_wp2;refine bT 0 rfl ?_;by_cases he:er=0
 .subst he
  go_wp2_with fail
  refine H.out.mono ?_;rintro e w' ⟨rfl,h⟩;have H2:=hdq h;clear h;go_wp2;refine fO ?_;go_ret2
  exact⟨rfl,H2.out⟩
 .have he':((er:Int) != 0)=true:=by simp;omega
  obtain rfl:=hp he;go_wp2_with fail
  refine H.out.mono ?_;rintro e w' ⟨rfl,h⟩;have H2:=hdq h;clear h;go_wp2;go_step3
  refine⟨rfl,?_⟩;go_wp2;refine dO ?_;go_ret2
  exact⟨rfl,H2.out⟩
end
theorem tH(s:Ar)(op:Nat)(at_:Int)(D9:Nat->Nat×Bool)(h:∀n∈s.C,Wd n):Wd (s.iw op at_ D9).2.1.old:=by
 have h0:Wd 0:=by unfold Wd;omega
 simp only[Ar.iw];split
 .simp only[List.getD]
  cases hc:s.C[at_.toNat]? with
  |none=>exact h0
  |some x=>exact h x (List.mem_of_getElem? hc)
 .exact h0
section
variable {T:List Nat} {w0 w:World} {l:List ai} {g:Nat} {s:Ar} (h:BD T w0 w l) (i:Nat) (hi:l[i]? =some (arena g s)) (at_:Int) (s':Ar) (v er:Nat)
include h hi
theorem BD.OH(h1:s.au 1=(s',v,er)):Calls Tryz.prog 90 #[.pointer (some ⟨g,0,none⟩)] w fun e w'=>e= .returned (.tuple #[.int .i64 (v:Int),.int .i64 (er:Int)])/\BD T w0 w' (l.set i (arena g s')):=by
 have hh:=h.ar i hi (s':=(s.au 1).1) (fun fp hI=>lV w g fp s 1 hI);rw[h1]at hh;refine xB w _ er _ v hh (fun he=>?_);simp only[Ar.au]at h1;repeat' split at h1
 all_goals simp only[Prod.mk.injEq]at h1
 all_goals omega
variable (hn:s.L.length<4611686018427387904)
include hn
theorem BD.Mj(h1:(s.swap at_ 0 1).1=s')(h2:bE (s.swap at_ 0 1).2.1.old (s.swap at_ 0 1).2.2=(v,er)):Calls Tryz.prog 122 #[.pointer (some ⟨g,0,none⟩),.int .i64 at_] w fun e w'=>e= .returned (.tuple #[.int .i64 (v:Int),.int .i64 (er:Int)])/\BD T w0 w' (l.set i (arena g s')):=by
 have hh:=Ig w (some ⟨g,0,none⟩) at_ _ _ _ _ (tH s 3 at_ (eH 0 1) (h.nP i hi).1) ((h.dL _).ar i hi (fun fp hI=>kP _ g fp s at_ hI hn 0 1 wd0 wd1));change Calls _ _ _ _ (fun e w'=>e= .returned (.tuple #[.int .i64 ((bE (s.swap at_ 0 1).2.1.old (s.swap at_ 0 1).2.2).1:Int),.int .i64 ((bE (s.swap at_ 0 1).2.1.old (s.swap at_ 0 1).2.2).2:Int)])/\_)at hh
 rwa[h2,h1]at hh
theorem BD.flTake(h1:(s.swap at_ 0 2).1=s')(h2:bE (s.swap at_ 0 2).2.1.old (s.swap at_ 0 2).2.2=(v,er)):Calls Tryz.prog 126 #[.pointer (some ⟨g,0,none⟩),.int .i64 at_] w fun e w'=>e= .returned (.tuple #[.int .i64 (v:Int),.int .i64 (er:Int)])/\BD T w0 w' (l.set i (arena g s')):=by
 have hh:=Nb w (some ⟨g,0,none⟩) at_ _ _ _ _ (tH s 3 at_ (eH 0 2) (h.nP i hi).1) ((h.dL _).ar i hi (fun fp hI=>kP _ g fp s at_ hI hn 0 2 wd0 (by unfold Wd;omega)));change Calls _ _ _ _ (fun e w'=>e= .returned (.tuple #[.int .i64 ((bE (s.swap at_ 0 2).2.1.old (s.swap at_ 0 2).2.2).1:Int),.int .i64 ((bE (s.swap at_ 0 2).2.1.old (s.swap at_ 0 2).2.2).2:Int)])/\_)at hh
 rwa[h2,h1]at hh
theorem BD.Ih(h1:(s.load at_).1=s')(h2:bE (s.load at_).2.1.old (s.load at_).2.2=(v,er)):Calls Tryz.prog 130 #[.pointer (some ⟨g,0,none⟩),.int .i64 at_] w fun e w'=>e= .returned (.tuple #[.int .i64 (v:Int),.int .i64 (er:Int)])/\BD T w0 w' (l.set i (arena g s')):=by
 have hh:=Nk w (some ⟨g,0,none⟩) at_ _ _ _ (tH s 1 at_ j6 (h.nP i hi).1) ((((h.dL _).dL _).dL _).ar i hi (fun fp hI=>vO _ g fp s at_ hI hn));change Calls _ _ _ _ (fun e w'=>e= .returned (.tuple #[.int .i64 ((bE (s.load at_).2.1.old (s.load at_).2.2).1:Int),.int .i64 ((bE (s.load at_).2.1.old (s.load at_).2.2).2:Int)])/\_)at hh
 rwa[h2,h1]at hh
theorem BD.zP(h1:(s.store at_ 0).1=s')(h2:(s.store at_ 0).2.2=er):Calls Tryz.prog 124 #[.pointer (some ⟨g,0,none⟩),.int .i64 at_] w fun e w'=>e= .returned (.int .i64 (er:Int))/\BD T w0 w' (l.set i (arena g s')):=by
 have hh:=wR w (some ⟨g,0,none⟩) at_ _ _ (h.ar i hi (fun fp hI=>sS _ g fp s at_ hI hn 0 wd0));rwa[h2,h1]at hh
theorem BD.H9(h1:(s.store at_ 2).1=s')(h2:(s.store at_ 2).2.2=er):Calls Tryz.prog 128 #[.pointer (some ⟨g,0,none⟩),.int .i64 at_] w fun e w'=>e= .returned (.int .i64 (er:Int))/\BD T w0 w' (l.set i (arena g s')):=by
 have hh:=Am w (some ⟨g,0,none⟩) at_ _ _ (h.ar i hi (fun fp hI=>sS _ g fp s at_ hI hn 2 (by unfold Wd;omega)));rwa[h2,h1]at hh
end
theorem zV{α:Type}(f:α->List Value)(m:Nat)(hf:∀a,(f a).length=m)(l:List α)(k:Nat)(hk:k<l.length)(r:Nat)(hr:r<m):(l.flatMap f)[k*m+r]? =(f l[k])[r]? :=by
 induction l generalizing k with
 |nil=>simp at hk
 |cons a l ih=>
  rw[List.flatMap_cons];cases k with
  |zero=>rw[List.getElem?_append_left (by rw[hf];omega)];simp
  |succ k=>
   rw[List.getElem?_append_right (by rw[hf,Nat.succ_mul];omega),hf,show(k+1)*m+r-m=k*m+r from by rw[Nat.succ_mul];omega];exact ih k (by simpa using hk)
theorem A8{α:Type}(f:α->List Value)(m:Nat)(hf:∀a,(f a).length=m)(l:List α):(l.flatMap f).length=l.length*m:=by
 induction l with
 |nil=>simp
 |cons a l ih=>simp[hf,ih,Nat.succ_mul,Nat.add_comm]
section
variable {T:List Nat} {w0 w:World} {x:WS} {r0:List ai}
theorem BD.dU(h:BD T w0 w (x.ts++r0))(k:Nat)(hk:k<x.sys.length):∃g,x.a3=some ⟨g,0,none⟩/\∀r,r<11->w.cell? ⟨g,k*11+r,none⟩=x.sys[k].cells[r]? :=by
 have hr:=h.aZ 5 (e:=61) (size:=11) (v:= .slice x.a3 x.sys.length x.c3) (n:=x.sys.length) (xs:=aU x.sys) rfl;obtain⟨g,cap',cur,hv,hg,_⟩:=gD hr (by omega);injection hv with h1 _ h3
 have hlen:(aU x.sys).length=x.sys.length*11:=A8 _ 11 (fun _=>rfl) _;refine⟨g,h1,fun r hr'=>?_⟩;have hlt:k*11+r<(aU x.sys).length:=by rw[hlen];omega
 have hc:=eT (g:=g) (cap:=x.c3) (by rw[<-h1];exact hr) (k*11+r) hlt;have hf:=zV bL.cells 11 (fun _=>rfl) x.sys k hk r hr';rw[hc,<-hf];exact(List.getElem?_eq_getElem hlt).symm
theorem BD.nC(h:BD T w0 w (x.ts++r0))(k:Nat)(hk:k<x.sys.length)(g:Nat)(hg:x.a3=some ⟨g,0,none⟩):Calls Tryz.prog 66 #[.pointer (some ⟨x.wb,0,none⟩),.int .i64 (k:Int)] w fun e w'=>e= .returned (.pointer (some ⟨g,k*11,none⟩))/\Touch [] w w':=by
 have h2:=vV w x.wb x.ga _ _ _ h.Cb g 0 x.sys.length x.c3 (by rw[hg]) k hk;rw[Nat.zero_add]at h2;exact h2
theorem BD.fE(h:BD T w0 w (x.ts++r0))(k:Int)(hk:¬(0<=k/\k<(x.sys.length:Int))):Calls Tryz.prog 66 #[.pointer (some ⟨x.wb,0,none⟩),.int .i64 k] w fun e w'=>e= .panicked (aX 4)/\Touch [] w w':=
 tq w x.wb x.ga _ _ _ h.Cb x.a3 x.sys.length x.c3 rfl k hk
end
def rF(s:Ar):Option (Nat×Nat×Ar)->Int×Int×Ar
 |none=>(0,4,s)
 |some r=>if r.2.1=0 then((r.1:Int),0,r.2.2)else(0,(r.2.1:Int),r.2.2)
def eu(s:Ar)(f:Int)(v0:Nat):Nat×Nat×Ar:=((bE (s.swap f 0 v0).2.1.old (s.swap f 0 v0).2.2).1,(bE (s.swap f 0 v0).2.1.old (s.swap f 0 v0).2.2).2,(s.swap f 0 v0).1)
def fT(s:Ar)(f:Int):Nat×Nat×Ar:=((bE (s.load f).2.1.old (s.load f).2.2).1,(bE (s.load f).2.1.old (s.load f).2.2).2,(s.load f).1)
def fM(s:Ar)(f:Int)(v0:Nat):Nat×Ar:=((s.store f v0).2.2,(s.store f v0).1)
def KO(T:List Nat)(w:World)(v er:Int)(l':List ai)(e:Ending)(w':World):Prop:=Ends e (.int .i64 v) er (.int .i64 0)/\BD T w w' l'
def WS.fK(x:WS)(k:Int):Int×Int×Ar:=rF x.s ((at_ x.sys k).map fun y=>eu x.s y.flag 1)
theorem KA(T:List Nat)(w:World)(x:WS)(b2 b3:Nat)(k:Int)(h:BD T w w (x.ts++[box b2 25 #[.pointer (some ⟨x.wb,0,none⟩)],box b3 3 #[.int .i64 k]]))(hn:x.s.L.length<1000000):
  Calls Tryz.prog 120 #[.pointer (some ⟨b2,0,none⟩),.pointer (some ⟨b3,0,none⟩)] w (KO T w (x.fK k).1 (x.fK k).2.1 ((x.ar (x.fK k).2.2).ts++[box b2 25 #[.pointer (some ⟨x.wb,0,none⟩)],box b3 3 #[.int .i64 k]])):=by
 have BG:=hdq h;clear h;obtain⟨p0,_,zp,_,_⟩:=BG.out.c1 x.ts.length (t:=25) (b:=b2) (x0:= .pointer (some ⟨x.wb,0,none⟩)) (by simp);obtain⟨q0,_,zq,_,_⟩:=BG.out.c1 (x.ts.length+1) (t:=3) (b:=b3) (x0:= .int .i64 k) (by simp);by_cases hk:0<=k/\k<(x.sys.length:Int)
 .obtain⟨n,rfl⟩:=Int.eq_ofNat_of_zero_le hk.1
  have hnk:n<x.sys.length:=by omega
  obtain⟨g3,hg3,_⟩:=BG.out.dU n hnk;have HC:=hdq (BG.out.nC n hnk g3 hg3);have GR:Hid (∀W,Touch [] w W->W.cell? ⟨g3,n*11+3,none⟩=some (.int .i64 x.sys[n].flag)):=fun W hW=>by
   obtain⟨g4,hg4,hc⟩:=(BG.out.touch hW).dU n hnk;rw[hg3]at hg4;injection hg4 with hg4
   injection hg4 with hg4
   subst hg4;exact hc 3 (by omega)
  have HR:Hid (x.fK (n:Int)=rF x.s (some (eu x.s x.sys[n].flag 1))):=by unfold Hid WS.fK;rw[gI hnk];rfl
  generalize x.sys[n].flag=fl at GR HR;generalize x.fK (n:Int)=lr at HR|-;clear hk hg3;go_enter Tryz.func120,Tryz.ntmps120
  go_wp2_with fail
  refine HC.out.mono ?_;rintro e w1 ⟨rfl,ht⟩;have BB:=hdq (BG.out.touch ht);have f3:=GR.out w1 ht;have zg:g3<w1.heap.size:=World.block_lt_of_cell? _ _ f3;clear ht p0 zp q0 zq HC;obtain⟨p0,_,zp,_,_⟩:=BB.out.c1 x.ts.length (t:=25) (b:=b2) (x0:= .pointer (some ⟨x.wb,0,none⟩)) (by simp);obtain⟨w0',_,_,_⟩:=BB.out.Cb;have zw:x.wb<w1.heap.size:=BB.out.Cb.lt;have hCH:=BB.out.Mj 1 (g:=x.ga) (s:=x.s) rfl fl (eu x.s fl 1).2.2 (eu x.s fl 1).1 (eu x.s fl 1).2.1 (by omega) rfl rfl;simp only[WS.iy]at hCH;generalize (eu x.s fl 1)=r at HR hCH;have CV:=hdq hCH;clear hCH;go_wp2_with fail
  refine CV.out.mono ?_;rintro e w2 ⟨rfl,hL⟩;have HL2:=hdq hL;clear hL p0 zp w0' zw f3 zg CV;dsimp only;go_wp2_with fail
  by_cases h0:r.2.1=0
  .rw[h0]
   refine(jf _ _).mono ?_;rintro e w3 ⟨rfl,rfl⟩;dsimp only;go_wp2;go_ret
   rw[HR.out];simp only[rF];rw[if_pos h0];exact⟨.inl ⟨rfl,rfl⟩,HL2.out⟩
  .refine(iN _ _ _ (by omega)).mono ?_
   rintro e w3 ⟨rfl,rfl⟩;dsimp only;rw[HR.out];simp only[rF];rw[if_neg h0];exact⟨rfl,.inr ⟨rfl,rfl⟩,HL2.out⟩
 .have E9:=hdq (BG.out.fE k hk)
  have HR:Hid (x.fK k=rF x.s none):=by unfold Hid WS.fK;rw[gM hk];rfl
  rw[HR.out];clear hk;go_enter Tryz.func120,Tryz.ntmps120
  go_wp2_with fail
  refine E9.out.mono ?_;rintro e w1 ⟨rfl,ht⟩;dsimp only;exact⟨rfl,.inr ⟨rfl,rfl⟩,BG.out.touch ht⟩
theorem Oq(T:List Nat)(w:World)(x:WS)(k:Int)(h:BD T w w x.ts)(hn:x.s.L.length<1000000):
  Calls Tryz.prog 35 #[.pointer (some ⟨x.wb,0,none⟩),.int .i64 k] w fun e w'=>e= .returned (.tuple #[.int .i64 (x.fK k).1,.int .i64 (x.fK k).2.1])/\BD T w w' (x.ar (x.fK k).2.2).ts:=by
 have Ep:= @mfq;have BG:=hdq h;clear h;go_enter Tryz.func35,Tryz.ntmps35
 go_wp2_with fail
 refine ah ?_;intro w1 hw1;have BB:=hdq (BG.out.DZ hw1);generalize hb3:w.heap.size+1=b3 at BB|-;generalize hb2:w.heap.size=b2 at BB|-;clear hw1 hb3 hb2 BG;refine(j3 T w w1 _ _ _ (fun v er l'=>v=(x.fK k).1/\er=(x.fK k).2.1/\l'=(x.ar (x.fK k).2.2).ts++[box b2 25 #[.pointer (some ⟨x.wb,0,none⟩)],box b3 3 #[.int .i64 k]]) BB.out (enters_of Tryz.func120 (by kernel_rfl) rfl) (fun T' W hW=>?_)).mono ?_
 .refine(KA T' W x b2 b3 k (by simpa using hW) hn).mono ?_
  rintro e w' ⟨he,hL⟩;exact⟨_,_,_,he,⟨rfl,rfl,rfl⟩,hL⟩
 rintro e w' ⟨v,er,l',rfl,⟨rfl,rfl,rfl⟩,hL⟩;have HL2:=hdq hL.aF;clear hL BB;dsimp only;go_wp2;go_ret2
 exact⟨rfl,HL2.out⟩
def WS.gL(x:WS)(k:Int):Int×Int×Ar:=rF x.s ((at_ x.sys k).map fun y=>eu x.s y.flag 2)
theorem Ov(T:List Nat)(w:World)(x:WS)(b2 b3:Nat)(k:Int)(h:BD T w w (x.ts++[box b2 25 #[.pointer (some ⟨x.wb,0,none⟩)],box b3 3 #[.int .i64 k]]))(hn:x.s.L.length<1000000):
  Calls Tryz.prog 125 #[.pointer (some ⟨b2,0,none⟩),.pointer (some ⟨b3,0,none⟩)] w (KO T w (x.gL k).1 (x.gL k).2.1 ((x.ar (x.gL k).2.2).ts++[box b2 25 #[.pointer (some ⟨x.wb,0,none⟩)],box b3 3 #[.int .i64 k]])):=by
 have BG:=hdq h;clear h;obtain⟨p0,_,zp,_,_⟩:=BG.out.c1 x.ts.length (t:=25) (b:=b2) (x0:= .pointer (some ⟨x.wb,0,none⟩)) (by simp);obtain⟨q0,_,zq,_,_⟩:=BG.out.c1 (x.ts.length+1) (t:=3) (b:=b3) (x0:= .int .i64 k) (by simp);by_cases hk:0<=k/\k<(x.sys.length:Int)
 .obtain⟨n,rfl⟩:=Int.eq_ofNat_of_zero_le hk.1
  have hnk:n<x.sys.length:=by omega
  obtain⟨g3,hg3,_⟩:=BG.out.dU n hnk;have HC:=hdq (BG.out.nC n hnk g3 hg3);have GR:Hid (∀W,Touch [] w W->W.cell? ⟨g3,n*11+3,none⟩=some (.int .i64 x.sys[n].flag)):=fun W hW=>by
   obtain⟨g4,hg4,hc⟩:=(BG.out.touch hW).dU n hnk;rw[hg3]at hg4;injection hg4 with hg4
   injection hg4 with hg4
   subst hg4;exact hc 3 (by omega)
  have HR:Hid (x.gL (n:Int)=rF x.s (some (eu x.s x.sys[n].flag 2))):=by unfold Hid WS.gL;rw[gI hnk];rfl
  generalize x.sys[n].flag=fl at GR HR;generalize x.gL (n:Int)=lr at HR|-;clear hk hg3;go_enter Tryz.func125,Tryz.ntmps125
  go_wp2_with fail
  refine HC.out.mono ?_;rintro e w1 ⟨rfl,ht⟩;have BB:=hdq (BG.out.touch ht);have f3:=GR.out w1 ht;have zg:g3<w1.heap.size:=World.block_lt_of_cell? _ _ f3;clear ht p0 zp q0 zq HC;obtain⟨p0,_,zp,_,_⟩:=BB.out.c1 x.ts.length (t:=25) (b:=b2) (x0:= .pointer (some ⟨x.wb,0,none⟩)) (by simp);obtain⟨w0',_,_,_⟩:=BB.out.Cb;have zw:x.wb<w1.heap.size:=BB.out.Cb.lt;have hCH:=BB.out.flTake 1 (g:=x.ga) (s:=x.s) rfl fl (eu x.s fl 2).2.2 (eu x.s fl 2).1 (eu x.s fl 2).2.1 (by omega) rfl rfl;simp only[WS.iy]at hCH;generalize (eu x.s fl 2)=r at HR hCH;have CV:=hdq hCH;clear hCH;go_wp2_with fail
  refine CV.out.mono ?_;rintro e w2 ⟨rfl,hL⟩;have HL2:=hdq hL;clear hL p0 zp w0' zw f3 zg CV;dsimp only;go_wp2_with fail
  by_cases h0:r.2.1=0
  .rw[h0]
   refine(jf _ _).mono ?_;rintro e w3 ⟨rfl,rfl⟩;dsimp only;go_wp2;go_ret
   rw[HR.out];simp only[rF];rw[if_pos h0];exact⟨.inl ⟨rfl,rfl⟩,HL2.out⟩
  .refine(iN _ _ _ (by omega)).mono ?_
   rintro e w3 ⟨rfl,rfl⟩;dsimp only;rw[HR.out];simp only[rF];rw[if_neg h0];exact⟨rfl,.inr ⟨rfl,rfl⟩,HL2.out⟩
 .have E9:=hdq (BG.out.fE k hk)
  have HR:Hid (x.gL k=rF x.s none):=by unfold Hid WS.gL;rw[gM hk];rfl
  rw[HR.out];clear hk;go_enter Tryz.func125,Tryz.ntmps125
  go_wp2_with fail
  refine E9.out.mono ?_;rintro e w1 ⟨rfl,ht⟩;dsimp only;exact⟨rfl,.inr ⟨rfl,rfl⟩,BG.out.touch ht⟩
theorem J3(T:List Nat)(w:World)(x:WS)(k:Int)(h:BD T w w x.ts)(hn:x.s.L.length<1000000):
  Calls Tryz.prog 37 #[.pointer (some ⟨x.wb,0,none⟩),.int .i64 k] w fun e w'=>e= .returned (.tuple #[.int .i64 (x.gL k).1,.int .i64 (x.gL k).2.1])/\BD T w w' (x.ar (x.gL k).2.2).ts:=by
 have Ep:= @mfq;have BG:=hdq h;clear h;go_enter Tryz.func37,Tryz.ntmps37
 go_wp2_with fail
 refine ah ?_;intro w1 hw1;have BB:=hdq (BG.out.DZ hw1);generalize hb3:w.heap.size+1=b3 at BB|-;generalize hb2:w.heap.size=b2 at BB|-;clear hw1 hb3 hb2 BG;refine(j3 T w w1 _ _ _ (fun v er l'=>v=(x.gL k).1/\er=(x.gL k).2.1/\l'=(x.ar (x.gL k).2.2).ts++[box b2 25 #[.pointer (some ⟨x.wb,0,none⟩)],box b3 3 #[.int .i64 k]]) BB.out (enters_of Tryz.func125 (by kernel_rfl) rfl) (fun T' W hW=>?_)).mono ?_
 .refine(Ov T' W x b2 b3 k (by simpa using hW) hn).mono ?_
  rintro e w' ⟨he,hL⟩;exact⟨_,_,_,he,⟨rfl,rfl,rfl⟩,hL⟩
 rintro e w' ⟨v,er,l',rfl,⟨rfl,rfl,rfl⟩,hL⟩;have HL2:=hdq hL.aF;clear hL BB;dsimp only;go_wp2;go_ret2
 exact⟨rfl,HL2.out⟩
def WS.iH(x:WS)(k:Int):Int×Int×Ar:=rF x.s ((at_ x.sys k).map fun y=>fT x.s y.flag)
theorem Oz(T:List Nat)(w:World)(x:WS)(b2 b3:Nat)(k:Int)(h:BD T w w (x.ts++[box b2 25 #[.pointer (some ⟨x.wb,0,none⟩)],box b3 3 #[.int .i64 k]]))(hn:x.s.L.length<1000000):
  Calls Tryz.prog 129 #[.pointer (some ⟨b2,0,none⟩),.pointer (some ⟨b3,0,none⟩)] w (KO T w (x.iH k).1 (x.iH k).2.1 ((x.ar (x.iH k).2.2).ts++[box b2 25 #[.pointer (some ⟨x.wb,0,none⟩)],box b3 3 #[.int .i64 k]])):=by
 have BG:=hdq h;clear h;obtain⟨p0,_,zp,_,_⟩:=BG.out.c1 x.ts.length (t:=25) (b:=b2) (x0:= .pointer (some ⟨x.wb,0,none⟩)) (by simp);obtain⟨q0,_,zq,_,_⟩:=BG.out.c1 (x.ts.length+1) (t:=3) (b:=b3) (x0:= .int .i64 k) (by simp);by_cases hk:0<=k/\k<(x.sys.length:Int)
 .obtain⟨n,rfl⟩:=Int.eq_ofNat_of_zero_le hk.1
  have hnk:n<x.sys.length:=by omega
  obtain⟨g3,hg3,_⟩:=BG.out.dU n hnk;have HC:=hdq (BG.out.nC n hnk g3 hg3);have GR:Hid (∀W,Touch [] w W->W.cell? ⟨g3,n*11+3,none⟩=some (.int .i64 x.sys[n].flag)):=fun W hW=>by
   obtain⟨g4,hg4,hc⟩:=(BG.out.touch hW).dU n hnk;rw[hg3]at hg4;injection hg4 with hg4
   injection hg4 with hg4
   subst hg4;exact hc 3 (by omega)
  have HR:Hid (x.iH (n:Int)=rF x.s (some (fT x.s x.sys[n].flag))):=by unfold Hid WS.iH;rw[gI hnk];rfl
  generalize x.sys[n].flag=fl at GR HR;generalize x.iH (n:Int)=lr at HR|-;clear hk hg3;go_enter Tryz.func129,Tryz.ntmps129
  go_wp2_with fail
  refine HC.out.mono ?_;rintro e w1 ⟨rfl,ht⟩;have BB:=hdq (BG.out.touch ht);have f3:=GR.out w1 ht;have zg:g3<w1.heap.size:=World.block_lt_of_cell? _ _ f3;clear ht p0 zp q0 zq HC;obtain⟨p0,_,zp,_,_⟩:=BB.out.c1 x.ts.length (t:=25) (b:=b2) (x0:= .pointer (some ⟨x.wb,0,none⟩)) (by simp);obtain⟨w0',_,_,_⟩:=BB.out.Cb;have zw:x.wb<w1.heap.size:=BB.out.Cb.lt;have hCH:=BB.out.Ih 1 (g:=x.ga) (s:=x.s) rfl fl (fT x.s fl).2.2 (fT x.s fl).1 (fT x.s fl).2.1 (by omega) rfl rfl;simp only[WS.iy]at hCH;generalize (fT x.s fl)=r at HR hCH;have CV:=hdq hCH;clear hCH;go_wp2_with fail
  refine CV.out.mono ?_;rintro e w2 ⟨rfl,hL⟩;have HL2:=hdq hL;clear hL p0 zp w0' zw f3 zg CV;dsimp only;go_wp2_with fail
  by_cases h0:r.2.1=0
  .rw[h0]
   refine(jf _ _).mono ?_;rintro e w3 ⟨rfl,rfl⟩;dsimp only;go_wp2;go_ret
   rw[HR.out];simp only[rF];rw[if_pos h0];exact⟨.inl ⟨rfl,rfl⟩,HL2.out⟩
  .refine(iN _ _ _ (by omega)).mono ?_
   rintro e w3 ⟨rfl,rfl⟩;dsimp only;rw[HR.out];simp only[rF];rw[if_neg h0];exact⟨rfl,.inr ⟨rfl,rfl⟩,HL2.out⟩
 .have E9:=hdq (BG.out.fE k hk)
  have HR:Hid (x.iH k=rF x.s none):=by unfold Hid WS.iH;rw[gM hk];rfl
  rw[HR.out];clear hk;go_enter Tryz.func129,Tryz.ntmps129
  go_wp2_with fail
  refine E9.out.mono ?_;rintro e w1 ⟨rfl,ht⟩;dsimp only;exact⟨rfl,.inr ⟨rfl,rfl⟩,BG.out.touch ht⟩
theorem Look_w(T:List Nat)(w:World)(x:WS)(k:Int)(h:BD T w w x.ts)(hn:x.s.L.length<1000000):
  Calls Tryz.prog 39 #[.pointer (some ⟨x.wb,0,none⟩),.int .i64 k] w fun e w'=>e= .returned (.tuple #[.int .i64 (x.iH k).1,.int .i64 (x.iH k).2.1])/\BD T w w' (x.ar (x.iH k).2.2).ts:=by
 have Ep:= @mfq;have BG:=hdq h;clear h;go_enter Tryz.func39,Tryz.ntmps39
 go_wp2_with fail
 refine ah ?_;intro w1 hw1;have BB:=hdq (BG.out.DZ hw1);generalize hb3:w.heap.size+1=b3 at BB|-;generalize hb2:w.heap.size=b2 at BB|-;clear hw1 hb3 hb2 BG;refine(j3 T w w1 _ _ _ (fun v er l'=>v=(x.iH k).1/\er=(x.iH k).2.1/\l'=(x.ar (x.iH k).2.2).ts++[box b2 25 #[.pointer (some ⟨x.wb,0,none⟩)],box b3 3 #[.int .i64 k]]) BB.out (enters_of Tryz.func129 (by kernel_rfl) rfl) (fun T' W hW=>?_)).mono ?_
 .refine(Oz T' W x b2 b3 k (by simpa using hW) hn).mono ?_
  rintro e w' ⟨he,hL⟩;exact⟨_,_,_,he,⟨rfl,rfl,rfl⟩,hL⟩
 rintro e w' ⟨v,er,l',rfl,⟨rfl,rfl,rfl⟩,hL⟩;have HL2:=hdq hL.aF;clear hL BB;dsimp only;go_wp2;go_ret2
 exact⟨rfl,HL2.out⟩
def WS.dX(x:WS)(k:Int):Int×Ar:=rE x.s ((at_ x.sys k).map fun y=>fM x.s y.flag 0)
theorem yh(T:List Nat)(w:World)(x:WS)(b2 b3:Nat)(k:Int)(h:BD T w w (x.ts++[box b2 25 #[.pointer (some ⟨x.wb,0,none⟩)],box b3 3 #[.int .i64 k]]))(hn:x.s.L.length<1000000):
  Calls Tryz.prog 123 #[.pointer (some ⟨b2,0,none⟩),.pointer (some ⟨b3,0,none⟩)] w (l5 T w (x.dX k).1 ((x.ar (x.dX k).2).ts++[box b2 25 #[.pointer (some ⟨x.wb,0,none⟩)],box b3 3 #[.int .i64 k]])):=by
 have BG:=hdq h;clear h;obtain⟨p0,_,zp,_,_⟩:=BG.out.c1 x.ts.length (t:=25) (b:=b2) (x0:= .pointer (some ⟨x.wb,0,none⟩)) (by simp);obtain⟨q0,_,zq,_,_⟩:=BG.out.c1 (x.ts.length+1) (t:=3) (b:=b3) (x0:= .int .i64 k) (by simp);by_cases hk:0<=k/\k<(x.sys.length:Int)
 .obtain⟨n,rfl⟩:=Int.eq_ofNat_of_zero_le hk.1
  have hnk:n<x.sys.length:=by omega
  obtain⟨g3,hg3,_⟩:=BG.out.dU n hnk;have HC:=hdq (BG.out.nC n hnk g3 hg3);have GR:Hid (∀W,Touch [] w W->W.cell? ⟨g3,n*11+3,none⟩=some (.int .i64 x.sys[n].flag)):=fun W hW=>by
   obtain⟨g4,hg4,hc⟩:=(BG.out.touch hW).dU n hnk;rw[hg3]at hg4;injection hg4 with hg4
   injection hg4 with hg4
   subst hg4;exact hc 3 (by omega)
  have HR:Hid (x.dX (n:Int)=rE x.s (some (fM x.s x.sys[n].flag 0))):=by unfold Hid WS.dX;rw[gI hnk];rfl
  generalize x.sys[n].flag=fl at GR HR;generalize x.dX (n:Int)=lr at HR|-;clear hk hg3;go_enter Tryz.func123,Tryz.ntmps123
  go_wp2_with fail
  refine HC.out.mono ?_;rintro e w1 ⟨rfl,ht⟩;have BB:=hdq (BG.out.touch ht);have f3:=GR.out w1 ht;have zg:g3<w1.heap.size:=World.block_lt_of_cell? _ _ f3;clear ht p0 zp q0 zq HC;obtain⟨p0,_,zp,_,_⟩:=BB.out.c1 x.ts.length (t:=25) (b:=b2) (x0:= .pointer (some ⟨x.wb,0,none⟩)) (by simp);obtain⟨w0',_,_,_⟩:=BB.out.Cb;have zw:x.wb<w1.heap.size:=BB.out.Cb.lt;have hCH:=BB.out.zP 1 (g:=x.ga) (s:=x.s) rfl fl (fM x.s fl 0).2 (fM x.s fl 0).1 (by omega) rfl rfl;simp only[WS.iy]at hCH;generalize (fM x.s fl 0)=r at HR hCH;have CV:=hdq hCH;clear hCH;go_wp2_with fail
  refine CV.out.mono ?_;rintro e w2 ⟨rfl,hL⟩;have HL2:=hdq hL;clear hL p0 zp w0' zw f3 zg CV;dsimp only;go_wp2;go_ret
  rw[HR.out];exact⟨⟨(r.1:Int),0,.inl ⟨rfl,rfl⟩,by simp[rE]⟩,HL2.out⟩
 .have E9:=hdq (BG.out.fE k hk)
  have HR:Hid (x.dX k=rE x.s none):=by unfold Hid WS.dX;rw[gM hk];rfl
  rw[HR.out];clear hk;go_enter Tryz.func123,Tryz.ntmps123
  go_wp2_with fail
  refine E9.out.mono ?_;rintro e w1 ⟨rfl,ht⟩;dsimp only;exact⟨rfl,⟨0,4,.inr ⟨rfl,rfl⟩,rfl⟩,BG.out.touch ht⟩
theorem Ah(T:List Nat)(w:World)(x:WS)(k:Int)(h:BD T w w x.ts)(hn:x.s.L.length<1000000):
  Calls Tryz.prog 36 #[.pointer (some ⟨x.wb,0,none⟩),.int .i64 k] w fun e w'=>e= .returned (.int .i64 (x.dX k).1)/\BD T w w' (x.ar (x.dX k).2).ts:=by
 have Ep:= @mfq;have BG:=hdq h;clear h;go_enter Tryz.func36,Tryz.ntmps36
 go_wp2_with fail
 refine ah ?_;intro w1 hw1;have BB:=hdq (BG.out.DZ hw1);generalize hb3:w.heap.size+1=b3 at BB|-;generalize hb2:w.heap.size=b2 at BB|-;clear hw1 hb3 hb2 BG;refine(qF T w w1 _ _ _ (x.dX k).1 ((x.ar (x.dX k).2).ts++[box b2 25 #[.pointer (some ⟨x.wb,0,none⟩)],box b3 3 #[.int .i64 k]]) BB.out (enters_of Tryz.func123 (by kernel_rfl) rfl) (fun T' W hW=>yh T' W x b2 b3 k (by simpa using hW) hn)).mono ?_;rintro e w' ⟨rfl,hL⟩;have HL2:=hdq hL.aF;clear hL BB;dsimp only;go_wp2;go_ret
 exact⟨rfl,HL2.out⟩
def WS.fG(x:WS)(k:Int):Int×Ar:=rE x.s ((at_ x.sys k).map fun y=>fM x.s y.flag 2)
theorem Bw(T:List Nat)(w:World)(x:WS)(b2 b3:Nat)(k:Int)(h:BD T w w (x.ts++[box b2 25 #[.pointer (some ⟨x.wb,0,none⟩)],box b3 3 #[.int .i64 k]]))(hn:x.s.L.length<1000000):
  Calls Tryz.prog 127 #[.pointer (some ⟨b2,0,none⟩),.pointer (some ⟨b3,0,none⟩)] w (l5 T w (x.fG k).1 ((x.ar (x.fG k).2).ts++[box b2 25 #[.pointer (some ⟨x.wb,0,none⟩)],box b3 3 #[.int .i64 k]])):=by
 have BG:=hdq h;clear h;obtain⟨p0,_,zp,_,_⟩:=BG.out.c1 x.ts.length (t:=25) (b:=b2) (x0:= .pointer (some ⟨x.wb,0,none⟩)) (by simp);obtain⟨q0,_,zq,_,_⟩:=BG.out.c1 (x.ts.length+1) (t:=3) (b:=b3) (x0:= .int .i64 k) (by simp);by_cases hk:0<=k/\k<(x.sys.length:Int)
 .obtain⟨n,rfl⟩:=Int.eq_ofNat_of_zero_le hk.1
  have hnk:n<x.sys.length:=by omega
  obtain⟨g3,hg3,_⟩:=BG.out.dU n hnk;have HC:=hdq (BG.out.nC n hnk g3 hg3);have GR:Hid (∀W,Touch [] w W->W.cell? ⟨g3,n*11+3,none⟩=some (.int .i64 x.sys[n].flag)):=fun W hW=>by
   obtain⟨g4,hg4,hc⟩:=(BG.out.touch hW).dU n hnk;rw[hg3]at hg4;injection hg4 with hg4
   injection hg4 with hg4
   subst hg4;exact hc 3 (by omega)
  have HR:Hid (x.fG (n:Int)=rE x.s (some (fM x.s x.sys[n].flag 2))):=by unfold Hid WS.fG;rw[gI hnk];rfl
  generalize x.sys[n].flag=fl at GR HR;generalize x.fG (n:Int)=lr at HR|-;clear hk hg3;go_enter Tryz.func127,Tryz.ntmps127
  go_wp2_with fail
  refine HC.out.mono ?_;rintro e w1 ⟨rfl,ht⟩;have BB:=hdq (BG.out.touch ht);have f3:=GR.out w1 ht;have zg:g3<w1.heap.size:=World.block_lt_of_cell? _ _ f3;clear ht p0 zp q0 zq HC;obtain⟨p0,_,zp,_,_⟩:=BB.out.c1 x.ts.length (t:=25) (b:=b2) (x0:= .pointer (some ⟨x.wb,0,none⟩)) (by simp);obtain⟨w0',_,_,_⟩:=BB.out.Cb;have zw:x.wb<w1.heap.size:=BB.out.Cb.lt;have hCH:=BB.out.H9 1 (g:=x.ga) (s:=x.s) rfl fl (fM x.s fl 2).2 (fM x.s fl 2).1 (by omega) rfl rfl;simp only[WS.iy]at hCH;generalize (fM x.s fl 2)=r at HR hCH;have CV:=hdq hCH;clear hCH;go_wp2_with fail
  refine CV.out.mono ?_;rintro e w2 ⟨rfl,hL⟩;have HL2:=hdq hL;clear hL p0 zp w0' zw f3 zg CV;dsimp only;go_wp2;go_ret
  rw[HR.out];exact⟨⟨(r.1:Int),0,.inl ⟨rfl,rfl⟩,by simp[rE]⟩,HL2.out⟩
 .have E9:=hdq (BG.out.fE k hk)
  have HR:Hid (x.fG k=rE x.s none):=by unfold Hid WS.fG;rw[gM hk];rfl
  rw[HR.out];clear hk;go_enter Tryz.func127,Tryz.ntmps127
  go_wp2_with fail
  refine E9.out.mono ?_;rintro e w1 ⟨rfl,ht⟩;dsimp only;exact⟨rfl,⟨0,4,.inr ⟨rfl,rfl⟩,rfl⟩,BG.out.touch ht⟩
theorem KI(T:List Nat)(w:World)(x:WS)(k:Int)(h:BD T w w x.ts)(hn:x.s.L.length<1000000):
  Calls Tryz.prog 38 #[.pointer (some ⟨x.wb,0,none⟩),.int .i64 k] w fun e w'=>e= .returned (.int .i64 (x.fG k).1)/\BD T w w' (x.ar (x.fG k).2).ts:=by
 have Ep:= @mfq;have BG:=hdq h;clear h;go_enter Tryz.func38,Tryz.ntmps38
 go_wp2_with fail
 refine ah ?_;intro w1 hw1;have BB:=hdq (BG.out.DZ hw1);generalize hb3:w.heap.size+1=b3 at BB|-;generalize hb2:w.heap.size=b2 at BB|-;clear hw1 hb3 hb2 BG;refine(qF T w w1 _ _ _ (x.fG k).1 ((x.ar (x.fG k).2).ts++[box b2 25 #[.pointer (some ⟨x.wb,0,none⟩)],box b3 3 #[.int .i64 k]]) BB.out (enters_of Tryz.func127 (by kernel_rfl) rfl) (fun T' W hW=>Bw T' W x b2 b3 k (by simpa using hW) hn)).mono ?_;rintro e w' ⟨rfl,hL⟩;have HL2:=hdq hL.aF;clear hL BB;dsimp only;go_wp2;go_ret
 exact⟨rfl,HL2.out⟩
theorem zu(w:World)(b g:Nat)(v1 v2 v3:Value)(h:Fe w b g v1 v2 v3)(hS:bJ w)(k s:Int)(hs:s=1\/s=2)(R:Ending->World->Prop)(hc:Calls Tryz.prog 72 #[.pointer (some ⟨b,0,none⟩),.int .i64 k] w R)(hR:∀e w',R e w'->(∃p,e= .returned (.pointer p))\/∃ch,e= .panicked ch):
  Calls Tryz.prog 100 #[.pointer (some ⟨b,0,none⟩),.int .i64 k,.int .i64 s] w R:=by
 have HN:=hdq (dG w b g v1 v2 v3 h);have HO:=hdq (zB w s hS);have HC:=hdq hc;have HR:=hdq hR;have hne:(bM s != 0)=true:=by rcases hs with rfl|rfl<;>rfl
 clear h hS hc hR hs;generalize bM s=os at HO hne;go_enter Tryz.func100,Tryz.ntmps100
 go_wp2_with fail
 refine HN.out.mono ?_;rintro e w' ⟨rfl,rfl⟩;go_wp2_with fail
 refine(require_ok _ _).mono ?_;rintro e w' ⟨rfl,rfl⟩;dsimp only;go_wp2_with fail
 refine HO.out.mono ?_;rintro e w' ⟨rfl,rfl⟩;go_wp2_with fail
 refine(require_ok _ _).mono ?_;rintro e w' ⟨rfl,rfl⟩;dsimp only;go_wp2_with fail
 refine HC.out.mono ?_;intro e w' hr;rcases HR.out e w' hr with ⟨p,rfl⟩|⟨ch,rfl⟩
 .have HRR:=hdq hr
  clear hr;dsimp only;go_wp2;exact HRR.out
 .exact⟨rfl,hr⟩
theorem Jw(w:World)(b g:Nat)(v1 v2 v3:Value)(h:Fe w b g v1 v2 v3)(hS:bJ w)(k s:Int)(hs:¬(s=1\/s=2)):
  Calls Tryz.prog 100 #[.pointer (some ⟨b,0,none⟩),.int .i64 k,.int .i64 s] w fun e w'=>e= .panicked (aX 2)/\w=w':=by
 have HN:=hdq (dG w b g v1 v2 v3 h);have HO:=hdq (zB w s hS);have h0:bM s=0:=by unfold bM;rw[if_neg (fun h=>hs (.inl h)),if_neg (fun h=>hs (.inr h))]
 rw[h0]at HO;clear h hS hs h0;go_enter Tryz.func100,Tryz.ntmps100
 go_wp2_with fail
 refine HN.out.mono ?_;rintro e w' ⟨rfl,rfl⟩;go_wp2_with fail
 refine(require_ok _ _).mono ?_;rintro e w' ⟨rfl,rfl⟩;dsimp only;go_wp2_with fail
 refine HO.out.mono ?_;rintro e w' ⟨rfl,rfl⟩;go_wp2_with fail
 refine(aY _ _).mono ?_;rintro e w' ⟨rfl,rfl⟩;dsimp only;exact⟨rfl,rfl,rfl⟩
section
variable {T:List Nat} {w0 w:World} {x:WS} {r0:List ai}
theorem BD.sj(h:BD T w0 w (x.ts++r0))(hS:bJ w)(s:Int)(hs:s=1\/s=2)(k:Nat)(hk:k<x.BI.length):Calls Tryz.prog 100 #[.pointer (some ⟨x.wb,0,none⟩),.int .i64 (k:Int),.int .i64 s] w fun e w'=>e= .returned (.pointer (some ⟨x.BI[k].c,0,none⟩))/\Touch [] w w':=
 zu w x.wb x.ga _ _ _ h.Cb hS k s hs _ (h.Lp k hk) (fun e w' h=> .inl ⟨_,h.1⟩)
theorem BD.nL(h:BD T w0 w (x.ts++r0))(hS:bJ w)(s:Int)(hs:s=1\/s=2)(k:Int)(hk:¬(0<=k/\k<(x.BI.length:Int))):Calls Tryz.prog 100 #[.pointer (some ⟨x.wb,0,none⟩),.int .i64 k,.int .i64 s] w fun e w'=>e= .panicked (aX 4)/\Touch [] w w':=
 zu w x.wb x.ga _ _ _ h.Cb hS k s hs _ (h.nK k hk) (fun e w' h=> .inr ⟨_,h.1⟩)
theorem BD.nR(h:BD T w0 w (x.ts++r0))(hS:bJ w)(s:Int)(hs:¬(s=1\/s=2))(k:Int):Calls Tryz.prog 100 #[.pointer (some ⟨x.wb,0,none⟩),.int .i64 k,.int .i64 s] w fun e w'=>e= .panicked (aX 2)/\Touch [] w w':=
 (Jw w x.wb x.ga _ _ _ h.Cb hS k s hs).mono fun e w' h=>⟨h.1,h.2▸Touch.refl _ _⟩
end
def WS.oQ(x:WS)(n:Nat)(y:Ce)(P:World->Prop):WS:={x with BI:=x.BI.set n y,P:=P}
theorem yC(l:List Ce)(n:Nat)(hn:n<l.length)(y:Ce)(hy:y.c=l[n].c):bP (l.set n y)=bP l:=by
 unfold bP;rw[List.map_set,hy];apply List.ext_getElem
 .simp
 .intro i h1 h2
  rw[List.getElem_set];split
  .rename_i h;subst h;simp
  .rfl
theorem WS.tV(x:WS)(n:Nat)(hn:n<x.BI.length)(y:Ce)(P:World->Prop)(r:Nat)(hr:r<4)(t:ai)(hy:y.c=x.BI[n].c)(ht:x.BI[n].ts.set r t=y.ts)(r0:List ai):(((x.ts++r0).set (6+(4*n+r)) t).set 2 (aA P))=(x.oQ n y P).ts++r0:=by
 have hl:=nA Ce.ts 4 (fun _=>rfl) x.BI;have hs:=Je Ce.ts 4 (fun _=>rfl) x.BI n hn r hr t y ht;have e1:(x.ts++r0).set (6+(4*n+r)) t=x.head++((x.BI.set n y).flatMap Ce.ts++(x.cos.flatMap Ch.ts++r0)):=by
  unfold WS.ts;rw[List.append_assoc,List.append_assoc,List.set_append_right _ _ (by simp[WS.head]),show 6+(4*n+r)-x.head.length=4*n+r from by simp[WS.head],List.set_append_left _ _ (by rw[hl];omega),hs]
 rw[e1,List.set_append_left _ _ (by simp[WS.head])];unfold WS.ts;rw[List.append_assoc,List.append_assoc];congr 1
 simp only[WS.oQ,WS.head,yC _ _ hn _ hy,List.length_set];rfl
theorem yJ(T:List Nat)(w0 w:World)(l:List ai)(D:FuncId)(caps:Array Value)(R:Int->List ai->Prop)(h:BD T w0 w l)(hen:∀args w,(callFunc D args).run Tryz.prog w= .ok (.enter D args) w)(hd:∀T' W,BD T' W W l->Calls Tryz.prog D caps W fun e w'=>∃er l',R er l'/\l5 T' W er l' e w'):
  Calls Tryz.prog 95 #[.func (.func D) #[] caps] w fun e w'=>∃er l',e= .returned (.int .i64 er)/\R er l'/\BD T w0 w' l':=by
 have HP:=hdq (l7 T w0 w l D caps (fun v Fq l''=>R (if Fq=0 then v else Fq) l'') h hen (fun T' W hW=>(hd T' W hW).mono fun e w' ⟨er,l',hr,⟨v,Fq,he,hv⟩,hL⟩=>⟨v,Fq,l',he,hv▸hr,hL⟩));clear h hd hen;go_enter Tryz.func95,Tryz.ntmps95
 go_wp2_with fail
 refine HP.out.mono ?_;rintro e w' ⟨v,Fq,l'',rfl,hr,hL⟩;have HL:=hdq hL;have HR:=hdq hr;clear hL hr HP;by_cases h0:Fq=0
 .have hb:(Fq != 0)=false:=by simp[h0]
  rw[if_pos h0]at HR;clear h0;go_wp2;go_ret
  exact⟨v,l'',rfl,HR.out,HL.out⟩
 .have hb:(Fq != 0)=true:=by simp[h0]
  rw[if_neg h0]at HR;clear h0;go_wp2;go_ret
  exact⟨Fq,l'',rfl,HR.out,HL.out⟩
def lX(x:WS)(k s:Int)(e:ME)(er:Int)(x':WS):Prop:=
 (¬(s=1\/s=2)/\er=2/\x'=x)\/((s=1\/s=2)/\¬(0<=k/\k<(x.BI.length:Int))/\er=4/\x'=x)\/
 ∃(n:Nat) (hn:n<x.BI.length) (kk:Nat) (ys:List ME),k=(n:Int)/\ys.map ME.plain=[e.plain].take kk/\
  ((s=1/\kK x.BI[n].es1.length [e.plain] kk er/\x'=x.oQ n {x.BI[n]with es1:=x.BI[n].es1++ys} (fun W=>x.P W/\∀y∈ys,y.v.In W))\/
  (s=2/\kK x.BI[n].es2.length [e.plain] kk er/\x'=x.oQ n {x.BI[n]with es2:=x.BI[n].es2++ys} (fun W=>x.P W/\∀y∈ys,y.v.In W)))
def pushB(x:WS)(k s:Int)(e:ME)(b4 b5 b6 b7:Nat):List ai:=[box b4 25 #[.pointer (some ⟨x.wb,0,none⟩)],box b5 3 #[.int .i64 k],box b6 41 #[.int .i64 s],box b7 47 #[.int .i64 e.sync,.int .i64 e.thread,.int .i64 e.branch,.int .i64 e.flag,.int .i64 e.v.kind,.int .i64 e.v.num,.slice e.v.addr e.v.parts.length e.v.cap]]
theorem BD.pushB{T:List Nat}{w0 w:World}{x y:WS}{k s:Int}{e:ME}{b4 b5 b6 b7:Nat}(h:BD T w0 w (y.ts++pushB x k s e b4 b5 b6 b7)):(w.cell? ⟨b4,0,none⟩=some (.pointer (some ⟨x.wb,0,none⟩))/\w.cell? ⟨b5,0,none⟩=some (.int .i64 k)/\w.cell? ⟨b6,0,none⟩=some (.int .i64 s))/\(w.cell? ⟨b7,0,none⟩=some (.int .i64 e.sync)/\w.cell? ⟨b7,1,none⟩=some (.int .i64 e.thread)/\w.cell? ⟨b7,2,none⟩=some (.int .i64 e.branch)/\w.cell? ⟨b7,3,none⟩=some (.int .i64 e.flag)/\w.cell? ⟨b7,4,none⟩=some (.int .i64 e.v.kind)/\w.cell? ⟨b7,5,none⟩=some (.int .i64 e.v.num)/\w.cell? ⟨b7,6,none⟩=some (.slice e.v.addr e.v.parts.length e.v.cap))/\b4<w.heap.size/\b5<w.heap.size/\b6<w.heap.size/\b7<w.heap.size:=by
 have h4:=h.box y.ts.length (b:=b4) (t:=25) (cs:=#[.pointer (some ⟨x.wb,0,none⟩)]) (by simp[Proofs.YtddnnapoaonmjaaGreatDoor.pushB]);have h5:=h.box (y.ts.length+1) (b:=b5) (t:=3) (cs:=#[.int .i64 k]) (by simp[Proofs.YtddnnapoaonmjaaGreatDoor.pushB]);have h6:=h.box (y.ts.length+2) (b:=b6) (t:=41) (cs:=#[.int .i64 s]) (by simp[Proofs.YtddnnapoaonmjaaGreatDoor.pushB]);have h7:=h.box (y.ts.length+3) (b:=b7) (t:=47) (cs:=#[.int .i64 e.sync,.int .i64 e.thread,.int .i64 e.branch,.int .i64 e.flag,.int .i64 e.v.kind,.int .i64 e.v.num,.slice e.v.addr e.v.parts.length e.v.cap]) (by simp[Proofs.YtddnnapoaonmjaaGreatDoor.pushB]);exact⟨⟨h4.cell 0,h5.cell 0,h6.cell 0⟩,⟨h7.cell 0,h7.cell 1,h7.cell 2,h7.cell 3,h7.cell 4,h7.cell 5,h7.cell 6⟩,h4.lt,h5.lt,h6.lt,h7.lt⟩
def LH(T:List Nat)(w:World)(x:WS)(k s:Int)(e:ME)(b4 b5 b6 b7:Nat)(en:Ending)(w':World):Prop:=∃er l' x',lX x k s e er x'/\l'=x'.ts++pushB x k s e b4 b5 b6 b7/\l5 T w er l' en w'
theorem NJ(T:List Nat)(w:World)(x:WS)(b4 b5 b6 b7:Nat)(k s:Int)(e:ME)(h:BD T w w (x.ts++pushB x k s e b4 b5 b6 b7))(hS:∀W,x.P W->bJ W)(hP:∀W,x.P W->e.v.In W)(hq:∀n (hn:n<x.BI.length),x.BI[n].es1.length<=4096/\x.BI[n].es2.length<=4096):
  Calls Tryz.prog 104 #[.pointer (some ⟨b4,0,none⟩),.pointer (some ⟨b5,0,none⟩),.pointer (some ⟨b6,0,none⟩),.pointer (some ⟨b7,0,none⟩)] w (LH T w x k s e b4 b5 b6 b7):=by
 have BG:=hdq h;have HS:=hdq hS;have HP:=hdq hP;have HQ:=hdq hq;clear h hS hP hq;obtain⟨⟨p0,q0,s0⟩,⟨e0,e1,e2,e3,e4,e5,e6⟩,z4,z5,z6,z7⟩:=BG.out.pushB;by_cases hs:s=1\/s=2
 .by_cases hk:0<=k/\k<(x.BI.length:Int)
  .obtain⟨n,rfl⟩:=Int.eq_ofNat_of_zero_le hk.1
   have hnk:n<x.BI.length:=by omega
   clear hk;rcases hs with rfl|rfl
   .skip
    have HC:=hdq (fun W (hW:Touch [] w W)=>(BG.out.touch hW).sj (HS.out _ ((BG.out.touch hW).still 2 rfl)) 1 (by decide) n hnk);have CV:=hdq (fun W (hW:Touch [] w W)=>(BG.out.touch hW).Hu (s:=1) (6+(4*n+2)) 2 (x.kW _ n hnk 2 (by omega)) rfl (by omega) ((BG.out.touch hW).oM n hnk) rfl e (fun W h=>HP.out W h) (HQ.out n hnk).1);simp only[bB]at CV;generalize hcn:x.BI[n].c=cn at HC CV;have FV:=hdq hcn;clear hcn;have BZ:=hdq (Touch.refl [] w).drew;go_enter Tryz.func104,Tryz.ntmps104
    go_wp2_with fail
    refine hrq (S:=fun w'=>(w'.cell? ⟨b4,0,none⟩=some (.pointer (some ⟨x.wb,0,none⟩))/\w'.cell? ⟨b5,0,none⟩=some (.int .i64 (n:Int))/\w'.cell? ⟨b6,0,none⟩=some (.int .i64 1))/\(w'.cell? ⟨b7,0,none⟩=some (.int .i64 e.sync)/\w'.cell? ⟨b7,1,none⟩=some (.int .i64 e.thread)/\w'.cell? ⟨b7,2,none⟩=some (.int .i64 e.branch)/\w'.cell? ⟨b7,3,none⟩=some (.int .i64 e.flag)/\w'.cell? ⟨b7,4,none⟩=some (.int .i64 e.v.kind)/\w'.cell? ⟨b7,5,none⟩=some (.int .i64 e.v.num)/\w'.cell? ⟨b7,6,none⟩=some (.slice e.v.addr e.v.parts.length e.v.cap))) fun hHeld=>?_;refine tkq 0 5 ?_;refine tkq 1 6 ?_;refine tkq 2 7 ?_;refine tkq 4 9 ?_;refine tkq 5 10 ?_;refine rdq 3 rfl fun K hK=>?_;go_simp;refine(HC.out _ BZ.out).mono ?_;rintro en w1 ⟨rfl,ht⟩;have HT1:=hdq (BZ.out.trans' ht);have BB:=hdq (BG.out.touch HT1.out);clear ht p0 q0 s0 e0 e1 e2 e3 e4 e5 e6 z4 z5 z6 z7 hHeld;obtain⟨⟨p0,q0,s0⟩,⟨e0,e1,e2,e3,e4,e5,e6⟩,z4,z5,z6,z7⟩:=BB.out.pushB;go_simp;refine kpq hK.out fun hHeld=>?_;clear hK K;refine rdq 6 rfl fun K hK=>?_;go_simp;refine(CV.out _ HT1.out).mono ?_;rintro en w2 ⟨kk,er,ys,rfl,hR,hp,hL⟩;rw[x.tV n hnk {x.BI[n]with es1:=x.BI[n].es1++ys} (fun W=>x.P W/\∀y∈ys,y.v.In W) 2 (by omega) _ rfl rfl]at hL;have HL2:=hdq hL;have HR2:=hdq hR;have Ht:=hdq hp;clear hL hR hp p0 q0 s0 e0 e1 e2 e3 e4 e5 e6 z4 z5 z6 z7 hHeld BB;obtain⟨⟨p0,q0,s0⟩,⟨e0,e1,e2,e3,e4,e5,e6⟩,z4,z5,z6,z7⟩:=HL2.out.pushB;go_simp;refine kpq hK.out fun hHeld=>?_;clear hK K;refine tkq 7 4 ?_;refine dnq ?_;clear p0 q0 s0 e0 e1 e2 e3 e4 e5 e6 z4 z5 z6 z7 hHeld;go_wp2;go_ret
    exact⟨er,_,_,.inr (.inr ⟨n,hnk,kk,ys,rfl,Ht.out,.inl ⟨rfl,HR2.out,rfl⟩⟩),rfl,⟨er,0,.inl ⟨rfl,rfl⟩,by simp⟩,HL2.out⟩
   .skip
    have HC:=hdq (fun W (hW:Touch [] w W)=>(BG.out.touch hW).sj (HS.out _ ((BG.out.touch hW).still 2 rfl)) 2 (by decide) n hnk);have CV:=hdq (fun W (hW:Touch [] w W)=>(BG.out.touch hW).Hu (s:=2) (6+(4*n+3)) 2 (x.kW _ n hnk 3 (by omega)) rfl (by omega) ((BG.out.touch hW).oM n hnk) rfl e (fun W h=>HP.out W h) (HQ.out n hnk).2);simp only[bB]at CV;generalize hcn:x.BI[n].c=cn at HC CV;have FV:=hdq hcn;clear hcn;have BZ:=hdq (Touch.refl [] w).drew;go_enter Tryz.func104,Tryz.ntmps104
    go_wp2_with fail
    refine hrq (S:=fun w'=>(w'.cell? ⟨b4,0,none⟩=some (.pointer (some ⟨x.wb,0,none⟩))/\w'.cell? ⟨b5,0,none⟩=some (.int .i64 (n:Int))/\w'.cell? ⟨b6,0,none⟩=some (.int .i64 2))/\(w'.cell? ⟨b7,0,none⟩=some (.int .i64 e.sync)/\w'.cell? ⟨b7,1,none⟩=some (.int .i64 e.thread)/\w'.cell? ⟨b7,2,none⟩=some (.int .i64 e.branch)/\w'.cell? ⟨b7,3,none⟩=some (.int .i64 e.flag)/\w'.cell? ⟨b7,4,none⟩=some (.int .i64 e.v.kind)/\w'.cell? ⟨b7,5,none⟩=some (.int .i64 e.v.num)/\w'.cell? ⟨b7,6,none⟩=some (.slice e.v.addr e.v.parts.length e.v.cap))) fun hHeld=>?_;refine tkq 0 5 ?_;refine tkq 1 6 ?_;refine tkq 2 7 ?_;refine tkq 4 9 ?_;refine tkq 5 10 ?_;refine rdq 3 rfl fun K hK=>?_;go_simp;refine(HC.out _ BZ.out).mono ?_;rintro en w1 ⟨rfl,ht⟩;have HT1:=hdq (BZ.out.trans' ht);have BB:=hdq (BG.out.touch HT1.out);clear ht p0 q0 s0 e0 e1 e2 e3 e4 e5 e6 z4 z5 z6 z7 hHeld;obtain⟨⟨p0,q0,s0⟩,⟨e0,e1,e2,e3,e4,e5,e6⟩,z4,z5,z6,z7⟩:=BB.out.pushB;go_simp;refine kpq hK.out fun hHeld=>?_;clear hK K;refine rdq 6 rfl fun K hK=>?_;go_simp;refine(CV.out _ HT1.out).mono ?_;rintro en w2 ⟨kk,er,ys,rfl,hR,hp,hL⟩;rw[x.tV n hnk {x.BI[n]with es2:=x.BI[n].es2++ys} (fun W=>x.P W/\∀y∈ys,y.v.In W) 3 (by omega) _ rfl rfl]at hL;have HL2:=hdq hL;have HR2:=hdq hR;have Ht:=hdq hp;clear hL hR hp p0 q0 s0 e0 e1 e2 e3 e4 e5 e6 z4 z5 z6 z7 hHeld BB;obtain⟨⟨p0,q0,s0⟩,⟨e0,e1,e2,e3,e4,e5,e6⟩,z4,z5,z6,z7⟩:=HL2.out.pushB;go_simp;refine kpq hK.out fun hHeld=>?_;clear hK K;refine tkq 7 4 ?_;refine dnq ?_;clear p0 q0 s0 e0 e1 e2 e3 e4 e5 e6 z4 z5 z6 z7 hHeld;go_wp2;go_ret
    exact⟨er,_,_,.inr (.inr ⟨n,hnk,kk,ys,rfl,Ht.out,.inr ⟨rfl,HR2.out,rfl⟩⟩),rfl,⟨er,0,.inl ⟨rfl,rfl⟩,by simp⟩,HL2.out⟩
  .have HC:=hdq (fun W (hW:Touch [] w W)=>(BG.out.touch hW).nL (HS.out _ ((BG.out.touch hW).still 2 rfl)) s hs k hk)
   have HK:Hid (¬(0<=k/\k<(x.BI.length:Int))/\(s=1\/s=2)):=⟨hk,hs⟩;clear hk hs;have BZ:=hdq (Touch.refl [] w).drew;go_enter Tryz.func104,Tryz.ntmps104
   go_wp2_with fail
   refine hrq (S:=fun w'=>(w'.cell? ⟨b4,0,none⟩=some (.pointer (some ⟨x.wb,0,none⟩))/\w'.cell? ⟨b5,0,none⟩=some (.int .i64 k)/\w'.cell? ⟨b6,0,none⟩=some (.int .i64 s))/\(w'.cell? ⟨b7,0,none⟩=some (.int .i64 e.sync)/\w'.cell? ⟨b7,1,none⟩=some (.int .i64 e.thread)/\w'.cell? ⟨b7,2,none⟩=some (.int .i64 e.branch)/\w'.cell? ⟨b7,3,none⟩=some (.int .i64 e.flag)/\w'.cell? ⟨b7,4,none⟩=some (.int .i64 e.v.kind)/\w'.cell? ⟨b7,5,none⟩=some (.int .i64 e.v.num)/\w'.cell? ⟨b7,6,none⟩=some (.slice e.v.addr e.v.parts.length e.v.cap))) fun hHeld=>?_;refine tkq 0 5 ?_;refine tkq 1 6 ?_;refine tkq 2 7 ?_;refine tkq 4 9 ?_;refine tkq 5 10 ?_;refine rdq 3 rfl fun K hK=>?_;go_simp;refine(HC.out _ BZ.out).mono ?_;rintro en w1 ⟨rfl,ht⟩;dsimp only;exact⟨rfl,4,_,x,.inr (.inl ⟨HK.out.2,HK.out.1,rfl,rfl⟩),rfl,⟨0,4,.inr ⟨rfl,rfl⟩,rfl⟩,BG.out.touch (BZ.out.trans' ht)⟩
 .have HC:=hdq (fun W (hW:Touch [] w W)=>(BG.out.touch hW).nR (HS.out _ ((BG.out.touch hW).still 2 rfl)) s hs k)
  have HK:Hid (¬(s=1\/s=2)):=hs;clear hs;have BZ:=hdq (Touch.refl [] w).drew;go_enter Tryz.func104,Tryz.ntmps104
  go_wp2_with fail
  refine hrq (S:=fun w'=>(w'.cell? ⟨b4,0,none⟩=some (.pointer (some ⟨x.wb,0,none⟩))/\w'.cell? ⟨b5,0,none⟩=some (.int .i64 k)/\w'.cell? ⟨b6,0,none⟩=some (.int .i64 s))/\(w'.cell? ⟨b7,0,none⟩=some (.int .i64 e.sync)/\w'.cell? ⟨b7,1,none⟩=some (.int .i64 e.thread)/\w'.cell? ⟨b7,2,none⟩=some (.int .i64 e.branch)/\w'.cell? ⟨b7,3,none⟩=some (.int .i64 e.flag)/\w'.cell? ⟨b7,4,none⟩=some (.int .i64 e.v.kind)/\w'.cell? ⟨b7,5,none⟩=some (.int .i64 e.v.num)/\w'.cell? ⟨b7,6,none⟩=some (.slice e.v.addr e.v.parts.length e.v.cap))) fun hHeld=>?_;refine tkq 0 5 ?_;refine tkq 1 6 ?_;refine tkq 2 7 ?_;refine tkq 4 9 ?_;refine tkq 5 10 ?_;refine rdq 3 rfl fun K hK=>?_;go_simp;refine(HC.out _ BZ.out).mono ?_;rintro en w1 ⟨rfl,ht⟩;dsimp only;exact⟨rfl,2,_,x,.inl ⟨HK.out,rfl,rfl⟩,rfl,⟨0,2,.inr ⟨rfl,rfl⟩,rfl⟩,BG.out.touch (BZ.out.trans' ht)⟩
theorem KW(T:List Nat)(w:World)(x:WS)(k s:Int)(e:ME)(h:BD T w w x.ts)(hS:∀W,x.P W->bJ W)(hP:∀W,x.P W->e.v.In W)(hq:∀n (hn:n<x.BI.length),x.BI[n].es1.length<=4096/\x.BI[n].es2.length<=4096):
  Calls Tryz.prog 28 #[.pointer (some ⟨x.wb,0,none⟩),.int .i64 k,.int .i64 s,e.val] w fun en w'=>∃er x',en= .returned (.int .i64 er)/\lX x k s e er x'/\BD T w w' x'.ts:=by
 have Ep:= @mfq;have BG:=hdq h;clear h;rw[bB];go_enter Tryz.func28,Tryz.ntmps28
 go_wp2_with fail
 refine ah ?_;intro w1 hw1;have BB:=hdq (((((BG.out.alloc 25 #[.pointer (some ⟨x.wb,0,none⟩)]).alloc 3 #[.int .i64 k]).alloc 41 #[.int .i64 s]).alloc 47 #[.int .i64 e.sync,.int .i64 e.thread,.int .i64 e.branch,.int .i64 e.flag,.int .i64 e.v.kind,.int .i64 e.v.num,.slice e.v.addr e.v.parts.length e.v.cap]).toW hw1);simp only[World.size_alloc,List.append_assoc,cAq,nAq]at BB;generalize EF:w.heap.size+1+1+1=b7 at BB|-;generalize hb6:w.heap.size+1+1=b6 at BB|-;generalize hb5:w.heap.size+1=b5 at BB|-;generalize hb4:w.heap.size=b4 at BB|-;clear hw1 EF hb6 hb5 hb4 BG;refine(yJ T w w1 _ _ _ (fun er l'=>∃x',lX x k s e er x'/\l'=x'.ts++pushB x k s e b4 b5 b6 b7) BB.out (enters_of Tryz.func104 (by kernel_rfl) rfl) (fun T' W hW=>?_)).mono ?_
 .refine(NJ T' W x b4 b5 b6 b7 k s e hW hS hP hq).mono ?_
  rintro en w' ⟨er,l',x',hx,rfl,ht⟩;exact⟨er,_,⟨x',hx,rfl⟩,ht⟩
 rintro en w' ⟨er,l',rfl,⟨x',hx,rfl⟩,hL⟩;have HL2:=hdq hL.aF;have HX:=hdq hx;clear hL BB hx;dsimp only;go_wp2;go_ret
 exact⟨er,x',rfl,HX.out,HL2.out⟩
section
theorem jw(p:Option Addr)(w:World):(Instr.build 82 #[(0,.pointer p)]).run Tryz.prog w= .ok (.agg #[.pointer p]) w:=run_build w 82 _ _ (by kernel_rfl)
theorem qW(p:Option Addr)(w:World):(Instr.build 86 #[(0,.agg #[.pointer p])]).run Tryz.prog w= .ok (.agg #[.pointer p,.slice none 0 0,.slice none 0 0,.slice none 0 0]) w:=run_build w 86 _ _ (by kernel_rfl)
theorem vD(a b c:Int)(w:World):(Instr.build 129 #[(0,.int .i64 a),(1,.int .i64 b),(2,.int .i64 c)]).run Tryz.prog w= .ok (.agg #[.int .i64 a,.int .i64 b,.int .i64 c]) w:=run_build w 129 _ _ (by kernel_rfl)
attribute [local go_sem] jw qW vD
def WS.empty(wb ga most:Nat)(P:World->Prop):WS:=⟨wb,ga,Ar.fresh most,P,[],[],[],none,0,none,0,none,0⟩
theorem OU(T:List Nat)(w:World)(P:World->Prop)(most:Nat)(h1:1<=most)(h2:most<=65536)(h:BD T w w [aA P]):
  Calls Tryz.prog 8 #[.int .i64 (most:Int)] w fun e w'=>∃wb ga,e= .returned (.tuple #[.pointer (some ⟨wb,0,none⟩),.int .i64 0])/\BD T w w' (WS.empty wb ga most P).ts:=by
 have BG:=hdq h;clear h;go_enter Tryz.func8,Tryz.ntmps8
 go_wp2_with fail
 refine(BG.out.arNew most h1 h2).mono ?_;rintro e w1 ⟨rfl,hL⟩;have BB:=hdq hL;obtain⟨ga,hg⟩:∃b,w.heap.size=b:=⟨_,rfl⟩;simp only[hg]at BB|-;clear hL hg BG;go_wp2;refine aP ?_;intro w2 hw2;have HL2:=hdq ((((BB.out.DN hw2).gK 118 1).gK 122 1).gK 61 11);simp only[nAq,cAq]at HL2;clear hw2;go_ret2
 exact⟨_,ga,rfl,HL2.out.sel [2,1,0,3,4,5] rfl (by decide)⟩
section
variable {T:List Nat} {w0 w:World} {x:WS} {r0:List ai}
theorem BD.M9(h:BD T w0 w (x.ts++r0)):Calls Tryz.prog 59 #[.pointer (some ⟨x.wb,0,none⟩)] w fun e w'=>e= .returned (.agg #[.int .i64 (x.BI.length:Int),.int .i64 (x.cos.length:Int),.int .i64 (x.sys.length:Int)])/\Touch [] w w':=by
 have HN:=hdq (fun W (hW:Touch [] w W)=>dG W x.wb x.ga _ _ _ (h.Cb.touch hW));have HW:=hdq (fun W (hW:Touch [] w W)=>h.Cb.touch hW);clear h;have BG:=hdq (BD.nil' w);go_enter Tryz.func59,Tryz.ntmps59
 go_wp2_with fail
 refine ah ?_;intro w1 hw1;have BB:=hdq (BG.out.DN hw1);simp only[nAq]at BB;generalize hb2:w.heap.size=b2 at BB|-;have hwb:x.wb<w.heap.size:=(HW.out w (Touch.refl [] w)).lt;have hne:b2≠x.wb:=by omega
 have hne':=Ne.symm hne;clear hw1 hb2;refine(HN.out w1 BB.out.BN).mono ?_;rintro e w' ⟨rfl,rfl⟩;obtain⟨p0,p1,p2,f0,f1,f2,z1,z2,z3⟩:=BB.out.c3 0 rfl;obtain⟨w0',w1',w2',w3'⟩:=HW.out w1 BB.out.BN;have zw:=(HW.out w1 BB.out.BN).lt;go_wp2_with fail
 go_region
 all_goals
  try go_wp2
  refine aP ?_;intro wz hwz;have BF:=hdq (((((BB.out.set 0 rfl 0 (.int .i64 (x.BI.length:Int))).set 0 rfl 1 (.int .i64 (x.cos.length:Int))).set 0 rfl 2 (.int .i64 (x.sys.length:Int))).drew).toW hwz);simp only[sSq,sZq,sAq]at BF;obtain⟨q0,q1,q2,_,_,_,_,_,_⟩:=BF.out.c3 0 rfl;clear p0 p1 p2 f0 f1 f2 w0' w1' w2' w3';refine bodyPost_ret (v:= .agg #[.int .i64 (x.BI.length:Int),.int .i64 (x.cos.length:Int),.int .i64 (x.sys.length:Int)]) (by simp[results,Tryz.results59,go_sem,q0,q1,q2]) rfl ⟨rfl,BF.out.BN⟩
theorem BD.yV(h:BD T w0 w (x.ts++r0)):Calls Tryz.prog 13 #[.pointer (some ⟨x.wb,0,none⟩)] w fun e w'=>e= .returned (.tuple #[.int .i64 (x.BI.length:Int),.int .i64 (x.cos.length:Int),.int .i64 (x.sys.length:Int)])/\Touch [] w w':=by
 have HC:=hdq h.M9;clear h;go_enter Tryz.func13,Tryz.ntmps13
 go_wp2_with fail
 refine HC.out.mono ?_;rintro e w1 ⟨rfl,ht⟩;have HT:=hdq (ht.alloc (.cells #[.int .i64 (x.BI.length:Int),.int .i64 (x.cos.length:Int),.int .i64 (x.sys.length:Int)] 129));clear ht;go_wp2_with fail
 go_region
 all_goals
  try go_wp2
  refine bodyPost_ret (v:= .tuple #[.int .i64 (x.BI.length:Int),.int .i64 (x.cos.length:Int),.int .i64 (x.sys.length:Int)]) (by simp[results,Tryz.results13,go_sem]) rfl ⟨rfl,HT.out.drew⟩
theorem BD.wused(h:BD T w0 w (x.ts++r0)):Calls Tryz.prog 57 #[.agg #[.pointer (some ⟨x.ga,0,none⟩)]] w fun e w'=>e= .returned (.int .i64 (x.s.C.length:Int))/\Touch [] w w':=by
 have HC:=hdq (fun W (hW:Touch [] w W)=>(h.touch hW).arq 1 (g:=x.ga) (s:=x.s) rfl (fun fp hI=>Ob W x.ga fp x.s hI));have HT:=hdq ((Touch.refl [] w).alloc (.cells #[.pointer (some ⟨x.ga,0,none⟩)] 82));clear h;go_enter Tryz.func57,Tryz.ntmps57
 go_wp2_with fail
 refine(HC.out _ HT.out).mono ?_;rintro e w' ⟨rfl,rfl⟩;go_wp2;go_ret
 exact⟨rfl,HT.out⟩
theorem BD.Be(h:BD T w0 w (x.ts++r0)):Calls Tryz.prog 58 #[.agg #[.pointer (some ⟨x.ga,0,none⟩)]] w fun e w'=>e= .returned (.int .u64 (x.s.L.length:Int))/\Touch [] w w':=by
 have HC:=hdq (fun W (hW:Touch [] w W)=>(h.touch hW).arq 1 (g:=x.ga) (s:=x.s) rfl (fun fp hI=>AU W x.ga fp x.s hI));have HT:=hdq ((Touch.refl [] w).alloc (.cells #[.pointer (some ⟨x.ga,0,none⟩)] 82));clear h;go_enter Tryz.func58,Tryz.ntmps58
 go_wp2_with fail
 refine(HC.out _ HT.out).mono ?_;rintro e w' ⟨rfl,rfl⟩;go_wp2;go_ret
 exact⟨rfl,HT.out⟩
theorem BD.wQ(h:BD T w0 w (x.ts++r0)):Calls Tryz.prog 12 #[.pointer (some ⟨x.wb,0,none⟩)] w fun e w'=>e= .returned (.tuple #[.int .i64 (x.s.C.length:Int),.int .u64 (x.s.L.length:Int)])/\Touch [] w w':=by
 have HN:=hdq (dG w x.wb x.ga _ _ _ h.Cb);have HW:=hdq (fun W (hW:Touch [] w W)=>h.Cb.touch hW);have HU:=hdq (fun W (hW:Touch [] w W)=>(h.touch hW).wused);have HA:=hdq (fun W (hW:Touch [] w W)=>(h.touch hW).Be);clear h;have BZ:=hdq (Touch.refl [] w).drew;go_enter Tryz.func12,Tryz.ntmps12
 go_wp2_with fail
 refine HN.out.mono ?_;rintro e w' ⟨rfl,rfl⟩;obtain⟨w0',w1',w2',w3'⟩:=HW.out w (Touch.refl [] w);have zw:=(HW.out w (Touch.refl [] w)).lt;go_wp2_with fail
 go_region_held3 (fun w'=>w'.cell? ⟨x.wb,0,none⟩=some (.pointer (some ⟨x.ga,0,none⟩))) (go_keep) (first
  |(go_at_call 57;refine(HU.out _ BZ.out).mono ?_;rintro e w2 ⟨rfl,ht⟩;have BZ:=hdq (BZ.out.trans' ht);clear ht w0' w1' w2' w3' zw;obtain⟨w0',w1',w2',w3'⟩:=HW.out _ BZ.out;have zw:=(HW.out _ BZ.out).lt)
  |(go_at_call 58;refine(HA.out _ BZ.out).mono ?_;rintro e w3 ⟨rfl,ht⟩;have BZ:=hdq (BZ.out.trans' ht);clear ht w0' w1' w2' w3' zw;obtain⟨w0',w1',w2',w3'⟩:=HW.out _ BZ.out;have zw:=(HW.out _ BZ.out).lt))
 all_goals
  rename_i hHeld;clear hHeld w0' w1' w2' w3' zw;go_wp2;go_ret2
  exact⟨rfl,BZ.out⟩
end
end
def mQ(c:Nat)(ca f:Int)(q:Nat)(es:List ME)(P:World->Prop):List ai:=[box c 211 #[.int .i64 ca,.int .i64 f,.pointer (some ⟨q,0,none⟩)],aQ q es,aA P]
theorem Nq(T:List Nat)(w:World)(c:Nat)(ca f:Int)(q:Nat)(es:List ME)(P:World->Prop)(x:ME)(h:BD T w w (mQ c ca f q es P))(hP:∀W,P W->x.v.In W)(hes:es.length<=4096):
  Calls Tryz.prog 116 #[.pointer (some ⟨c,0,none⟩),x.val] w fun e w'=>∃(k:Nat) (err:Int) (ys:List ME),e= .returned (.int .i64 err)/\kK es.length [x.plain] k err/\ys.map ME.plain=[x.plain].take k/\BD T w w' (mQ c ca f q (es++ys) (fun W=>P W/\∀y∈ys,y.v.In W)):=by
 have HP:=hdq hP;have BG:=hdq h;unfold mQ at BG;clear h hP;simp only[bB];go_enter Tryz.func116,Tryz.ntmps116
 go_wp2_with fail
 refine ah ?_;intro w1 hw1;have BB:=hdq (BG.out.DN hw1);simp only[nAq,cAq]at BB;generalize hb3:w.heap.size=b3 at BB|-;clear hw1 hb3 BG;refine(fA _ _ _ _ _ (BB.out.kS 0 rfl)).mono ?_;rintro e w' ⟨rfl,rfl⟩;obtain⟨d0,d1,d2,_,_,_,hl,_,_⟩:=BB.out.c3 0 rfl;obtain⟨x0,x1,x2,x3,x4,x5,x6,_,hl3,_,_⟩:=BB.out.c7 3 rfl;have HL2:=hdq (BB.out.alloc 47 #[.int .i64 x.sync,.int .i64 x.thread,.int .i64 x.branch,.int .i64 x.flag,.int .i64 x.v.kind,.int .i64 x.v.num,.slice x.v.addr x.v.parts.length x.v.cap]).drew;simp only[nAq,cAq]at HL2;have HPU:=hdq (HL2.out.JK (xs:=[x]) (a:=some ⟨w1.heap.size,0,none⟩) (cap:=1) 1 2 rfl rfl (by decide) (fun W hW=>⟨vG rfl (hW 4 _ (by decide) rfl),fun y hy=>by
  simp at hy;subst hy
  obtain⟨fz,_,hs⟩:=hW 2 (aA P) (by decide) rfl;exact HP.out W (hs W (fun _ _=>rfl))⟩) (by simp) hes)
 go_wp2_with fail
 go_region_held3 (fun w'=>w'.cell? ⟨c,2,none⟩=some (.pointer (some ⟨q,0,none⟩))/\w'.cell? ⟨b3,0,none⟩=some (.int .i64 x.sync)/\w'.cell? ⟨b3,1,none⟩=some (.int .i64 x.thread)/\w'.cell? ⟨b3,2,none⟩=some (.int .i64 x.branch)/\w'.cell? ⟨b3,3,none⟩=some (.int .i64 x.flag)/\w'.cell? ⟨b3,4,none⟩=some (.int .i64 x.v.kind)/\w'.cell? ⟨b3,5,none⟩=some (.int .i64 x.v.num)/\w'.cell? ⟨b3,6,none⟩=some (.slice x.v.addr x.v.parts.length x.v.cap)) (go_keep) (first
  |(go_at_call 200;refine HPU.out.mono ?_;rintro e w4 ⟨k,err,ys,rfl,hR,hp,hL⟩;have BH:=hdq hL;(simp only[sZq,sSq]at BH);have HR:=hdq hR;have HPY:=hdq hp;clear hL hR hp d0 d1 d2 hl x0 x1 x2 x3 x4 x5 x6 hl3;obtain⟨d0,d1,d2,_,_,_,hl,_,_⟩:=BH.out.c3 0 rfl;obtain⟨x0,x1,x2,x3,x4,x5,x6,_,hl3,_,_⟩:=BH.out.c7 3 rfl))
 go_wp2;go_ret
 exact⟨k,err,ys,rfl,HR.out,HPY.out,BH.out.sel [0,1,2] rfl (by decide)⟩
theorem Mk(T:List Nat)(w:World)(c:Nat)(ca f:Int)(q:Nat)(es:List ME)(P:World->Prop)(h:BD T w w (mQ c ca f q es P))(hes:es.length<=4096):
  Calls Tryz.prog 118 #[.pointer (some ⟨c,0,none⟩)] w fun e w'=>∃(y:ME) (b:Bool),e= .returned (.tuple #[y.val,.bool b])/\kF es 0 y b/\BD T w w' (mQ c ca f q (if b=true then es.eraseIdx 0 else es) P):=by
 refine(BD.cNext h 1 0 rfl rfl (by omega)).mono ?_;rintro e w' (⟨x,r,rfl,rfl,hL⟩|⟨rfl,rfl,hL⟩)
 .exact⟨x,true,rfl,.inl ⟨rfl,by omega,rfl⟩,hL⟩
 .exact⟨ME.zero,false,rfl,.inr ⟨rfl,by simp,rfl⟩,hL⟩
section
variable {T:List Nat} {w0 w:World}
theorem BD.vg{h0 h1 s:ai}{A Y B:List ai}(h:BD T w0 w ([h0,h1,s]++A++Y++B)):∃T',BD T' w w (Y++[s])/\∀w' Y' s',BD T' w w' (Y'++[s'])->BD T w0 w' ([h0,h1,s']++A++Y'++B):=by
 have e1:BD T w0 w (Y++[s]++(A++B++[h0,h1])):=by
  have g1:BD T w0 w ([]++([h0,h1,s]++A)++(Y++B)):=by simpa using h
  have g2:=g1.aB;have g3:BD T w0 w (Y++(B++[h0,h1])++([s]++A)):=by simpa using g2
  have g4:=g3.aB;have g5:BD T w0 w ((Y++[s]++A)++(B++[h0,h1])):=by simpa using g4
  simpa using g5
 obtain⟨T',hF,hb⟩:=e1.aN;refine⟨T',hF,fun w' Y' s' hL=>?_⟩;have k1:=hb w' (Y'++[s']) hL;have k2:BD T w0 w' (Y'++([s']++A)++(B++[h0,h1])):=by simpa using k1
 have k3:=k2.aB;have k4:BD T w0 w' ([]++(Y'++B)++([h0,h1,s']++A)):=by simpa using k3
 have k5:=k4.aB;simpa using k5
end
def WS.jM(x:WS)(n:Nat)(y:Ch)(P:World->Prop):WS:={x with cos:=x.cos.set n y,P:=P}
theorem xg(l:List Ch)(n:Nat)(hn:n<l.length)(y:Ch)(hy:y.c=l[n].c):bK (l.set n y)=bK l:=by
 unfold bK;rw[List.map_set,hy];apply List.ext_getElem
 .simp
 .intro i h1 h2
  rw[List.getElem_set];split
  .rename_i h;subst h;simp
  .rfl
def WS.h0(x:WS):ai:=box x.wb 86 #[.pointer (some ⟨x.ga,0,none⟩),.slice x.a1 x.BI.length x.c1,.slice x.a2 x.cos.length x.c2,.slice x.a3 x.sys.length x.c3]
def WS.A(x:WS)(n:Nat):List ai:=[aS 118 1 (.slice x.a1 x.BI.length x.c1) x.BI.length (bP x.BI),aS 122 1 (.slice x.a2 x.cos.length x.c2) x.cos.length (bK x.cos),aS 61 11 (.slice x.a3 x.sys.length x.c3) x.sys.length (aU x.sys)]++x.BI.flatMap Ce.ts++(x.cos.take n).flatMap Ch.ts
theorem WS.co_split(x:WS)(n:Nat)(hn:n<x.cos.length)(r0:List ai):x.ts++r0=[x.h0,arena x.ga x.s,aA x.P]++x.A n++x.cos[n].ts++((x.cos.drop (n+1)).flatMap Ch.ts++r0):=by
 have e:x.cos.flatMap Ch.ts=(x.cos.take n).flatMap Ch.ts++(x.cos[n].ts++(x.cos.drop (n+1)).flatMap Ch.ts):=by
  conv=>lhs;rw[<-List.take_append_drop n x.cos,List.drop_eq_getElem_cons hn]
  rw[List.flatMap_append,List.flatMap_cons]
 unfold WS.ts;rw[e];simp[WS.head,WS.h0,WS.A]
theorem WS.zF(x:WS)(n:Nat)(hn:n<x.cos.length)(y:Ch)(P:World->Prop)(hy:y.c=x.cos[n].c)(r0:List ai):[x.h0,arena x.ga x.s,aA P]++x.A n++y.ts++((x.cos.drop (n+1)).flatMap Ch.ts++r0)=(x.jM n y P).ts++r0:=by
 have hn2:n<(x.jM n y P).cos.length:=by simp[WS.jM,hn]
 rw[(x.jM n y P).co_split n hn2 r0];have e1:(x.jM n y P).cos[n]=y:=by simp[WS.jM]
 have e2:((x.jM n y P).cos.drop (n+1))=x.cos.drop (n+1):=by show(x.cos.set n y).drop (n+1)=_;rw[List.drop_set,if_pos (by omega)]
 have e3:((x.jM n y P).cos.take n)=x.cos.take n:=by show(x.cos.set n y).take n=_;rw[List.take_set,List.set_eq_of_length_le (by simp;omega)]
 have e4:bK (x.jM n y P).cos=bK x.cos:=xg _ _ hn _ hy;have e5:(x.jM n y P).cos.length=x.cos.length:=by simp[WS.jM]
 rw[e1,e2];unfold WS.A WS.h0;rw[e3,e4,e5];rfl
section
variable {T:List Nat} {w0 w:World} {x:WS} {r0:List ai}
theorem BD.wWait(h:BD T w0 w (x.ts++r0))(n:Nat)(hn:n<x.cos.length)(e:ME)(hP:∀W,x.P W->e.v.In W)(hes:x.cos[n].es.length<=4096):
  Calls Tryz.prog 116 #[.pointer (some ⟨x.cos[n].c,0,none⟩),e.val] w fun en w'=>∃(kk:Nat) (err:Int) (ys:List ME),en= .returned (.int .i64 err)/\kK x.cos[n].es.length [e.plain] kk err/\ys.map ME.plain=[e.plain].take kk/\BD T w0 w' ((x.jM n {x.cos[n]with es:=x.cos[n].es++ys} (fun W=>x.P W/\∀y∈ys,y.v.In W)).ts++r0):=by
 rw[x.co_split n hn r0]at h;obtain⟨T',hF,hb⟩:=h.vg;refine(Nq T' w x.cos[n].c x.cos[n].a x.cos[n].f x.cos[n].q x.cos[n].es x.P e hF hP hes).mono ?_;rintro en w' ⟨kk,err,ys,rfl,hR,hp,hL⟩;refine⟨kk,err,ys,rfl,hR,hp,?_⟩;rw[<-x.zF n hn {x.cos[n]with es:=x.cos[n].es++ys} (fun W=>x.P W/\∀y∈ys,y.v.In W) rfl r0];exact hb w' _ _ hL
theorem BD.wNext(h:BD T w0 w (x.ts++r0))(n:Nat)(hn:n<x.cos.length)(hes:x.cos[n].es.length<=4096):
  Calls Tryz.prog 118 #[.pointer (some ⟨x.cos[n].c,0,none⟩)] w fun en w'=>∃(y:ME) (b:Bool),en= .returned (.tuple #[y.val,.bool b])/\kF x.cos[n].es 0 y b/\BD T w0 w' ((x.jM n {x.cos[n]with es:=if b=true then x.cos[n].es.eraseIdx 0 else x.cos[n].es} x.P).ts++r0):=by
 rw[x.co_split n hn r0]at h;obtain⟨T',hF,hb⟩:=h.vg;refine(Mk T' w x.cos[n].c x.cos[n].a x.cos[n].f x.cos[n].q x.cos[n].es x.P hF hes).mono ?_;rintro en w' ⟨y,b,rfl,hR,hL⟩;refine⟨y,b,rfl,hR,?_⟩;rw[<-x.zF n hn {x.cos[n]with es:=if b=true then x.cos[n].es.eraseIdx 0 else x.cos[n].es} x.P rfl r0];exact hb w' _ _ hL
end
def nu(x:WS)(k:Int)(e:ME)(er:Int)(x':WS):Prop:=
 (¬(0<=k/\k<(x.cos.length:Int))/\er=4/\x'=x)\/
 ∃(n:Nat) (hn:n<x.cos.length) (kk:Nat) (ys:List ME),k=(n:Int)/\ys.map ME.plain=[e.plain].take kk/\kK x.cos[n].es.length [e.plain] kk er/\x'=x.jM n {x.cos[n]with es:=x.cos[n].es++ys} (fun W=>x.P W/\∀y∈ys,y.v.In W)
def lG(x:WS)(k:Int)(e:ME)(b4 b5 b7:Nat):List ai:=[box b4 25 #[.pointer (some ⟨x.wb,0,none⟩)],box b5 3 #[.int .i64 k],box b7 47 #[.int .i64 e.sync,.int .i64 e.thread,.int .i64 e.branch,.int .i64 e.flag,.int .i64 e.v.kind,.int .i64 e.v.num,.slice e.v.addr e.v.parts.length e.v.cap]]
theorem BD.lG{T:List Nat}{w0 w:World}{x y:WS}{k:Int}{e:ME}{b4 b5 b7:Nat}(h:BD T w0 w (y.ts++lG x k e b4 b5 b7)):(w.cell? ⟨b4,0,none⟩=some (.pointer (some ⟨x.wb,0,none⟩))/\w.cell? ⟨b5,0,none⟩=some (.int .i64 k))/\(w.cell? ⟨b7,0,none⟩=some (.int .i64 e.sync)/\w.cell? ⟨b7,1,none⟩=some (.int .i64 e.thread)/\w.cell? ⟨b7,2,none⟩=some (.int .i64 e.branch)/\w.cell? ⟨b7,3,none⟩=some (.int .i64 e.flag)/\w.cell? ⟨b7,4,none⟩=some (.int .i64 e.v.kind)/\w.cell? ⟨b7,5,none⟩=some (.int .i64 e.v.num)/\w.cell? ⟨b7,6,none⟩=some (.slice e.v.addr e.v.parts.length e.v.cap))/\b4<w.heap.size/\b5<w.heap.size/\b7<w.heap.size:=by
 have h4:=h.box y.ts.length (b:=b4) (t:=25) (cs:=#[.pointer (some ⟨x.wb,0,none⟩)]) (by simp[Proofs.YtddnnapoaonmjaaGreatDoor.lG]);have h5:=h.box (y.ts.length+1) (b:=b5) (t:=3) (cs:=#[.int .i64 k]) (by simp[Proofs.YtddnnapoaonmjaaGreatDoor.lG]);have h7:=h.box (y.ts.length+2) (b:=b7) (t:=47) (cs:=#[.int .i64 e.sync,.int .i64 e.thread,.int .i64 e.branch,.int .i64 e.flag,.int .i64 e.v.kind,.int .i64 e.v.num,.slice e.v.addr e.v.parts.length e.v.cap]) (by simp[Proofs.YtddnnapoaonmjaaGreatDoor.lG]);exact⟨⟨h4.cell 0,h5.cell 0⟩,⟨h7.cell 0,h7.cell 1,h7.cell 2,h7.cell 3,h7.cell 4,h7.cell 5,h7.cell 6⟩,h4.lt,h5.lt,h7.lt⟩
def JE(T:List Nat)(w:World)(x:WS)(k:Int)(e:ME)(b4 b5 b7:Nat)(en:Ending)(w':World):Prop:=∃er l' x',nu x k e er x'/\l'=x'.ts++lG x k e b4 b5 b7/\l5 T w er l' en w'
theorem MO(T:List Nat)(w:World)(x:WS)(b4 b5 b7:Nat)(k:Int)(e:ME)(h:BD T w w (x.ts++lG x k e b4 b5 b7))(hP:∀W,x.P W->e.v.In W)(hq:∀n (hn:n<x.cos.length),x.cos[n].es.length<=4096):
  Calls Tryz.prog 115 #[.pointer (some ⟨b4,0,none⟩),.pointer (some ⟨b5,0,none⟩),.pointer (some ⟨b7,0,none⟩)] w (JE T w x k e b4 b5 b7):=by
 have BG:=hdq h;have HP:=hdq hP;have HQ:=hdq hq;clear h hP hq;obtain⟨⟨p0,q0⟩,⟨e0,e1,e2,e3,e4,e5,e6⟩,z4,z5,z7⟩:=BG.out.lG;by_cases hk:0<=k/\k<(x.cos.length:Int)
 .obtain⟨n,rfl⟩:=Int.eq_ofNat_of_zero_le hk.1
  have hnk:n<x.cos.length:=by omega
  clear hk;have HC:=hdq (fun W (hW:Touch [] w W)=>(BG.out.touch hW).r9 n hnk);have CV:=hdq (fun W (hW:Touch [] w W)=>(BG.out.touch hW).wWait n hnk e HP.out (HQ.out n hnk));simp only[bB]at CV;generalize hcn:x.cos[n].c=cn at HC CV;have FV:=hdq hcn;clear hcn;have BZ:=hdq (Touch.refl [] w).drew;go_enter Tryz.func115,Tryz.ntmps115
  go_wp2_with fail
  refine hrq (S:=fun w'=>(w'.cell? ⟨b4,0,none⟩=some (.pointer (some ⟨x.wb,0,none⟩))/\w'.cell? ⟨b5,0,none⟩=some (.int .i64 (n:Int)))/\(w'.cell? ⟨b7,0,none⟩=some (.int .i64 e.sync)/\w'.cell? ⟨b7,1,none⟩=some (.int .i64 e.thread)/\w'.cell? ⟨b7,2,none⟩=some (.int .i64 e.branch)/\w'.cell? ⟨b7,3,none⟩=some (.int .i64 e.flag)/\w'.cell? ⟨b7,4,none⟩=some (.int .i64 e.v.kind)/\w'.cell? ⟨b7,5,none⟩=some (.int .i64 e.v.num)/\w'.cell? ⟨b7,6,none⟩=some (.slice e.v.addr e.v.parts.length e.v.cap))) fun hHeld=>?_;refine tkq 0 4 ?_;refine tkq 1 5 ?_;refine tkq 3 7 ?_;refine rdq 2 rfl fun K hK=>?_;go_simp;refine(HC.out _ BZ.out).mono ?_;rintro en w1 ⟨rfl,ht⟩;have HT1:=hdq (BZ.out.trans' ht);have BB:=hdq (BG.out.touch HT1.out);clear ht p0 q0 e0 e1 e2 e3 e4 e5 e6 z4 z5 z7 hHeld;obtain⟨⟨p0,q0⟩,⟨e0,e1,e2,e3,e4,e5,e6⟩,z4,z5,z7⟩:=BB.out.lG;go_simp;refine kpq hK.out fun hHeld=>?_;clear hK K;refine rdq 4 rfl fun K hK=>?_;go_simp;refine(CV.out _ HT1.out).mono ?_;rintro en w2 ⟨kk,er,ys,rfl,hR,hp,hL⟩;have HL2:=hdq hL;have HR2:=hdq hR;have Ht:=hdq hp;clear hL hR hp p0 q0 e0 e1 e2 e3 e4 e5 e6 z4 z5 z7 hHeld BB;obtain⟨⟨p0,q0⟩,⟨e0,e1,e2,e3,e4,e5,e6⟩,z4,z5,z7⟩:=HL2.out.lG;go_simp;refine kpq hK.out fun hHeld=>?_;clear hK K;refine tkq 5 3 ?_;refine dnq ?_;clear p0 q0 e0 e1 e2 e3 e4 e5 e6 z4 z5 z7 hHeld;go_wp2;go_ret
  obtain rfl:=FV.out;exact⟨er,_,_,.inr ⟨n,hnk,kk,ys,rfl,Ht.out,HR2.out,rfl⟩,rfl,⟨er,0,.inl ⟨rfl,rfl⟩,by simp⟩,HL2.out⟩
 .have HC:=hdq (fun W (hW:Touch [] w W)=>(BG.out.touch hW).iP k hk)
  have HK:Hid (¬(0<=k/\k<(x.cos.length:Int))):=hk;clear hk;have BZ:=hdq (Touch.refl [] w).drew;go_enter Tryz.func115,Tryz.ntmps115
  go_wp2_with fail
  refine hrq (S:=fun w'=>(w'.cell? ⟨b4,0,none⟩=some (.pointer (some ⟨x.wb,0,none⟩))/\w'.cell? ⟨b5,0,none⟩=some (.int .i64 k))/\(w'.cell? ⟨b7,0,none⟩=some (.int .i64 e.sync)/\w'.cell? ⟨b7,1,none⟩=some (.int .i64 e.thread)/\w'.cell? ⟨b7,2,none⟩=some (.int .i64 e.branch)/\w'.cell? ⟨b7,3,none⟩=some (.int .i64 e.flag)/\w'.cell? ⟨b7,4,none⟩=some (.int .i64 e.v.kind)/\w'.cell? ⟨b7,5,none⟩=some (.int .i64 e.v.num)/\w'.cell? ⟨b7,6,none⟩=some (.slice e.v.addr e.v.parts.length e.v.cap))) fun hHeld=>?_;refine tkq 0 4 ?_;refine tkq 1 5 ?_;refine tkq 3 7 ?_;refine rdq 2 rfl fun K hK=>?_;go_simp;refine(HC.out _ BZ.out).mono ?_;rintro en w1 ⟨rfl,ht⟩;dsimp only;exact⟨rfl,4,_,x,.inl ⟨HK.out,rfl,rfl⟩,rfl,⟨0,4,.inr ⟨rfl,rfl⟩,rfl⟩,BG.out.touch (BZ.out.trans' ht)⟩
theorem Wait_w(T:List Nat)(w:World)(x:WS)(k:Int)(e:ME)(h:BD T w w x.ts)(hP:∀W,x.P W->e.v.In W)(hq:∀n (hn:n<x.cos.length),x.cos[n].es.length<=4096):
  Calls Tryz.prog 33 #[.pointer (some ⟨x.wb,0,none⟩),.int .i64 k,e.val] w fun en w'=>∃er x',en= .returned (.int .i64 er)/\nu x k e er x'/\BD T w w' x'.ts:=by
 have Ep:= @mfq;have BG:=hdq h;clear h;rw[bB];go_enter Tryz.func33,Tryz.ntmps33
 go_wp2_with fail
 refine ah ?_;intro w1 hw1;have BB:=hdq ((((BG.out.alloc 25 #[.pointer (some ⟨x.wb,0,none⟩)]).alloc 3 #[.int .i64 k]).alloc 47 #[.int .i64 e.sync,.int .i64 e.thread,.int .i64 e.branch,.int .i64 e.flag,.int .i64 e.v.kind,.int .i64 e.v.num,.slice e.v.addr e.v.parts.length e.v.cap]).toW hw1);simp only[World.size_alloc,List.append_assoc,cAq,nAq]at BB;generalize EF:w.heap.size+1+1=b7 at BB|-;generalize hb5:w.heap.size+1=b5 at BB|-;generalize hb4:w.heap.size=b4 at BB|-;clear hw1 EF hb5 hb4 BG;refine(yJ T w w1 _ _ _ (fun er l'=>∃x',nu x k e er x'/\l'=x'.ts++lG x k e b4 b5 b7) BB.out (enters_of Tryz.func115 (by kernel_rfl) rfl) (fun T' W hW=>?_)).mono ?_
 .refine(MO T' W x b4 b5 b7 k e hW hP hq).mono ?_
  rintro en w' ⟨er,l',x',hx,rfl,ht⟩;exact⟨er,_,⟨x',hx,rfl⟩,ht⟩
 rintro en w' ⟨er,l',rfl,⟨x',hx,rfl⟩,hL⟩;have HL2:=hdq hL.aF;have HX:=hdq hx;clear hL BB hx;dsimp only;go_wp2;go_ret
 exact⟨er,x',rfl,HX.out,HL2.out⟩
def aL.of(y:ME)(b:Bool):aL:=⟨y.sync,y.thread,y.branch,y.flag,y.v.kind,y.v.num,y.v.addr,y.v.parts.length,y.v.cap,b⟩
def lS(x:WS)(k:Int)(v:aL)(er:Int)(x':WS):Prop:=
 (¬(0<=k/\k<(x.cos.length:Int))/\v=aL.zero/\er=4/\x'=x)\/
 ∃(n:Nat) (hn:n<x.cos.length) (y:ME) (b:Bool),k=(n:Int)/\kF x.cos[n].es 0 y b/\v=aL.of y b/\er=0/\x'=x.jM n {x.cos[n]with es:=if b=true then x.cos[n].es.eraseIdx 0 else x.cos[n].es} x.P
def kG(x:WS)(k:Int)(b3 b4:Nat):List ai:=[box b3 25 #[.pointer (some ⟨x.wb,0,none⟩)],box b4 3 #[.int .i64 k]]
theorem BD.kG{T:List Nat}{w0 w:World}{x y:WS}{k:Int}{b3 b4:Nat}{r:List ai}(h:BD T w0 w (y.ts++(kG x k b3 b4++r))):w.cell? ⟨b3,0,none⟩=some (.pointer (some ⟨x.wb,0,none⟩))/\w.cell? ⟨b4,0,none⟩=some (.int .i64 k)/\b3<w.heap.size/\b4<w.heap.size:=by
 have h4:=h.box y.ts.length (b:=b3) (t:=25) (cs:=#[.pointer (some ⟨x.wb,0,none⟩)]) (by simp[Proofs.YtddnnapoaonmjaaGreatDoor.kG]);have h5:=h.box (y.ts.length+1) (b:=b4) (t:=3) (cs:=#[.int .i64 k]) (by simp[Proofs.YtddnnapoaonmjaaGreatDoor.kG]);exact⟨h4.cell 0,h5.cell 0,h4.lt,h5.lt⟩
def AR(T:List Nat)(w:World)(x:WS)(k:Int)(b3 b4:Nat)(en:Ending)(w':World):Prop:=∃(v:aL) (er:Int) (x':WS),lS x k v er x'/\((er=0/\en= .returned v.val)\/(v=aL.zero/\en= .panicked (aX er)))/\BD T w w' (x'.ts++kG x k b3 b4)
theorem ND(T:List Nat)(w:World)(x:WS)(b3 b4:Nat)(k:Int)(h:BD T w w (x.ts++kG x k b3 b4))(hq:∀n (hn:n<x.cos.length),x.cos[n].es.length<=4096):
  Calls Tryz.prog 117 #[.pointer (some ⟨b3,0,none⟩),.pointer (some ⟨b4,0,none⟩)] w (AR T w x k b3 b4):=by
 have BG:=hdq h;have HQ:=hdq hq;clear h hq;go_enter Tryz.func117,Tryz.ntmps117
 go_upto_region 1 with fail
 refine ay ?_;intro w1 hw1;have BB:=hdq (BG.out.DN hw1);simp only[List.append_assoc]at BB;generalize hbf:w.heap.size=bf at BB|-;clear hw1 hbf BG;obtain⟨p0,q0,z3,z4⟩:=BB.out.kG;by_cases hk:0<=k/\k<(x.cos.length:Int)
 .obtain⟨n,rfl⟩:=Int.eq_ofNat_of_zero_le hk.1
  have hnk:n<x.cos.length:=by omega
  clear hk;have HC:=hdq (BB.out.r9 n hnk);have CV:=hdq (fun W (hW:Touch [] w1 W)=>(BB.out.touch hW).wNext n hnk (HQ.out n hnk));generalize hcn:x.cos[n].c=cn at HC CV;have FV:=hdq hcn;clear hcn;go_wp2_with fail
  refine HC.out.mono ?_;rintro en w2 ⟨rfl,ht⟩;have HT2:=hdq ht;clear ht;go_wp2_with fail
  refine(CV.out _ HT2.out).mono ?_;rintro en w3 ⟨y,b,rfl,hR,hL⟩;obtain rfl:=FV.out;have HR:=hdq hR;have BF:=hdq (BD.aB (a:=[]) (c:=[box bf 168 #[.int .i64 0,.int .i64 0,.int .i64 0,.int .i64 0,.int .i64 0,.int .i64 0,.slice none 0 0,.bool false]]) (b:=_++kG x (n:Int) b3 b4) (by rw[List.nil_append,List.append_assoc];exact hL));simp only[nAq,cAq]at BF;clear hL hR BB HC CV FV p0 q0 z3 z4;obtain⟨⟨f0,f1,f2,f3,f4,f5,f6,f7⟩,⟨g0,g1,g2,g3,g4,g5,g6,g7⟩,zf,_,_⟩:=BF.out.dA 0 rfl;have BH:=hdq ((((((((BF.out.set 0 rfl 0 (.int .i64 y.sync)).set 0 rfl 1 (.int .i64 y.thread)).set 0 rfl 2 (.int .i64 y.branch)).set 0 rfl 3 (.int .i64 y.flag)).set 0 rfl 4 (.int .i64 y.v.kind)).set 0 rfl 5 (.int .i64 y.v.num)).set 0 rfl 6 (.slice y.v.addr y.v.parts.length y.v.cap)).set 0 rfl 7 (.bool b));simp only[sZq,sAq,sSq]at BH;simp only[bB];go_upto_region 2 with fail
  refine ay ?_;intro w4 hw4;have Ca:=hdq (BH.out.toW hw4);clear hw4 BH BF f0 f1 f2 f3 f4 f5 f6 f7 g0 g1 g2 g3 g4 g5 g6 g7 zf;obtain⟨⟨f0,f1,f2,f3,f4,f5,f6,f7⟩,⟨g0,g1,g2,g3,g4,g5,g6,g7⟩,zf,_,_⟩:=Ca.out.dA 0 rfl;have Db:=hdq ((((((((Ca.out.set 0 rfl 0 (.int .i64 y.sync)).set 0 rfl 1 (.int .i64 y.thread)).set 0 rfl 2 (.int .i64 y.branch)).set 0 rfl 3 (.int .i64 y.flag)).set 0 rfl 4 (.int .i64 y.v.kind)).set 0 rfl 5 (.int .i64 y.v.num)).set 0 rfl 6 (.slice y.v.addr y.v.parts.length y.v.cap)).set 0 rfl 7 (.bool b));simp only[sZq,sAq,sSq]at Db;go_wp2;refine aP ?_;intro w5 DC;have C8:=hdq (Db.out.toW DC);clear DC Db Ca f0 f1 f2 f3 f4 f5 f6 f7 g0 g1 g2 g3 g4 g5 g6 g7 zf;obtain⟨⟨f0,f1,f2,f3,f4,f5,f6,f7⟩,_,_⟩:=C8.out.dA 0 rfl;refine bodyPost_ret (v:=(aL.of y b).val) (by simp[results,Tryz.results117,go_sem,f0,f1,f2,f3,f4,f5,f6,f7,aL.val,aL.of]) rfl ?_;exact⟨aL.of y b,0,_,.inr ⟨n,hnk,y,b,rfl,HR.out,rfl,rfl,rfl⟩,.inl ⟨rfl,rfl⟩,BD.aF (BD.aB (a:=[]) (b:=[_]) C8.out)⟩
 .have HC:=hdq (BB.out.iP k hk)
  have HK:Hid (¬(0<=k/\k<(x.cos.length:Int))):=hk;clear hk;go_wp2_with fail
  refine HC.out.mono ?_;rintro en w2 ⟨rfl,ht⟩;dsimp only;have h2:=BB.out.touch ht;rw[<-List.append_assoc]at h2;exact⟨rfl,aL.zero,4,x,.inl ⟨HK.out,rfl,rfl,rfl⟩,.inr ⟨rfl,rfl⟩,h2.aF⟩
def dJ(b:Nat):ai:=box b 47 #[.int .i64 0,.int .i64 0,.int .i64 0,.int .i64 0,.int .i64 0,.int .i64 0,.slice none 0 0]
def aL.ent(v:aL):Value:= .agg #[.int .i64 v.sync,.int .i64 v.thread,.int .i64 v.branch,.int .i64 v.flag,.int .i64 v.kind,.int .i64 v.num,.slice v.lA v.lN v.lC]
theorem Next_w(T:List Nat)(w:World)(x:WS)(k:Int)(h:BD T w w x.ts)(hq:∀n (hn:n<x.cos.length),x.cos[n].es.length<=4096):
  Calls Tryz.prog 34 #[.pointer (some ⟨x.wb,0,none⟩),.int .i64 k] w fun en w'=>∃(v:aL) (er:Int) (x':WS),en= .returned (.tuple #[v.ent,.bool v.is,.int .i64 er])/\lS x k v er x'/\BD T w w' x'.ts:=by
 have Ep:= @mfq;have BG:=hdq h;clear h;go_enter Tryz.func34,Tryz.ntmps34
 go_wp2_with fail
 refine ah ?_;intro w1 hw1;have BB:=hdq (BG.out.al3 hw1);generalize hb4:w.heap.size+1+1=b4 at BB|-;generalize hb3:w.heap.size+1=b3 at BB|-;generalize hb2:w.heap.size=b2 at BB|-;clear hw1 hb4 hb3 hb2 BG;refine(jy T w w1 _ _ _ (fun v er l'=>∃x',lS x k v er x'/\l'=x'.ts++kG x k b2 b3++[dJ b4]) BB.out (enters_of Tryz.func117 (by kernel_rfl) rfl) (fun T' W hW=>?_)).mono ?_
 .obtain⟨T2,hF,hb⟩:=BD.aN (m:=x.ts++kG x k b2 b3) (r:=[dJ b4]) (by rw[List.append_assoc];exact hW)
  refine(ND T2 W x b2 b3 k hF hq).mono ?_;rintro en w' ⟨v,er,x',hx,he,hL⟩;exact⟨v,er,_,he,⟨x',hx,rfl⟩,hb _ _ hL⟩
 rintro en w2 ⟨v,er,l',rfl,⟨x',hx,rfl⟩,hL⟩;have HX:=hdq hx;have BF:=hdq hL;clear hL hx;unfold aL.val;dsimp only;go_upto_region 2 with fail
 refine ay ?_;intro w3 hw3;have BH:=hdq (BD.aB (a:=[]) (b:=x'.ts++kG x k b2 b3) (c:=[dJ b4,box w2.heap.size 168 #[.int .i64 v.sync,.int .i64 v.thread,.int .i64 v.branch,.int .i64 v.flag,.int .i64 v.kind,.int .i64 v.num,.slice v.lA v.lN v.lC,.bool v.is]]) (by simpa using(BF.out.DN hw3)));simp only[nAq,cAq,dJ]at BH;generalize EF:w2.heap.size=b7 at BH|-;clear hw3 EF BF BB;obtain⟨e0,e1,e2,e3,e4,e5,e6,⟨ef0,ef1,ef2,ef3,ef4,ef5,ef6⟩,ze,_,_⟩:=BH.out.c7 0 rfl;obtain⟨⟨f0,f1,f2,f3,f4,f5,f6,f7⟩,⟨g0,g1,g2,g3,g4,g5,g6,g7⟩,zf,_,_⟩:=BH.out.dA 1 rfl;have hne:=BH.out.ne 0 1 rfl rfl (by decide);have hne':=Ne.symm hne;go_wp2_with fail
 refine hrq (S:=fun w'=>w'.cell? ⟨b7,0,none⟩=some (.int .i64 v.sync)/\w'.cell? ⟨b7,1,none⟩=some (.int .i64 v.thread)/\w'.cell? ⟨b7,2,none⟩=some (.int .i64 v.branch)/\w'.cell? ⟨b7,3,none⟩=some (.int .i64 v.flag)/\w'.cell? ⟨b7,4,none⟩=some (.int .i64 v.kind)/\w'.cell? ⟨b7,5,none⟩=some (.int .i64 v.num)/\w'.cell? ⟨b7,6,none⟩=some (.slice v.lA v.lN v.lC)/\w'.cell? ⟨b7,7,none⟩=some (.bool v.is)) fun hHeld=>?_;refine tkq 0 14 ?_;refine tkq 1 15 ?_;refine tkq 2 16 ?_;refine tkq 3 17 ?_;refine tkq 4 18 ?_;refine opq 5 fun hHeld=>?_;refine tkq 6 5 ?_;refine tkq 7 6 ?_;refine dnq ?_;have Ca:=hdq (((((((BH.out.set 0 rfl 0 (.int .i64 v.sync)).set 0 rfl 1 (.int .i64 v.thread)).set 0 rfl 2 (.int .i64 v.branch)).set 0 rfl 3 (.int .i64 v.flag)).set 0 rfl 4 (.int .i64 v.kind)).set 0 rfl 5 (.int .i64 v.num)).set 0 rfl 6 (.slice v.lA v.lN v.lC)).drew;simp only[sZq,sAq,sSq]at Ca;clear BH f0 f1 f2 f3 f4 f5 f6 f7 g0 g1 g2 g3 g4 g5 g6 g7 zf hHeld e0 e1 e2 e3 e4 e5 e6 ef0 ef1 ef2 ef3 ef4 ef5 ef6 ze hne hne';go_wp2;refine aP ?_;intro w5 DC;have C8:=hdq (Ca.out.toW DC);clear DC Ca;obtain⟨e0,e1,e2,e3,e4,e5,e6,_,ze,_,_⟩:=C8.out.c7 0 rfl;refine bodyPost_ret (v:= .tuple #[v.ent,.bool v.is,.int .i64 er]) (by simp[results,Tryz.results34,go_sem,e0,e1,e2,e3,e4,e5,e6,aL.ent]) rfl ?_;have hz:BD T w w5 (x'.ts++kG x k b2 b3++[_,_]):=BD.aB (a:=[]) (b:=[_,_]) C8.out;exact⟨v,er,x',rfl,HX.out,(BD.aF (BD.aF hz))⟩
theorem WS.uV(x:WS)(n:Nat)(hn:n<x.BI.length)(y:Ce)(r:Nat)(hr:r<4)(t:ai)(hy:y.c=x.BI[n].c)(ht:x.BI[n].ts.set r t=y.ts)(r0:List ai):(x.ts++r0).set (6+(4*n+r)) t=(x.oQ n y x.P).ts++r0:=by
 rw[<-x.tV n hn y x.P r hr t hy ht r0];have h2:((x.ts++r0).set (6+(4*n+r)) t)[2]? =some (aA x.P):=by
  rw[List.getElem?_set_ne (by omega)];rfl
 have hl:=(List.getElem?_eq_some_iff.1 h2).1;have he:=(List.getElem?_eq_some_iff.1 h2).2;rw[<-he];exact(List.set_getElem_self hl).symm
def jN(x:WS)(k s i:Int)(v:aL)(er:Int)(x':WS):Prop:=
 (¬(s=1\/s=2)/\v=aL.zero/\er=2/\x'=x)\/((s=1\/s=2)/\¬(0<=k/\k<(x.BI.length:Int))/\v=aL.zero/\er=4/\x'=x)\/
 ∃(n:Nat) (hn:n<x.BI.length) (y:ME) (b:Bool),k=(n:Int)/\er=0/\v=aL.of y b/\
  ((s=1/\kF x.BI[n].es1 i y b/\x'=x.oQ n {x.BI[n]with es1:=if b=true then x.BI[n].es1.eraseIdx i.toNat else x.BI[n].es1} x.P)\/
  (s=2/\kF x.BI[n].es2 i y b/\x'=x.oQ n {x.BI[n]with es2:=if b=true then x.BI[n].es2.eraseIdx i.toNat else x.BI[n].es2} x.P))
def bV(x:WS)(k s i:Int)(b4 b5 b6 b7:Nat):List ai:=[box b4 25 #[.pointer (some ⟨x.wb,0,none⟩)],box b5 3 #[.int .i64 k],box b6 41 #[.int .i64 s],box b7 3 #[.int .i64 i]]
theorem BD.bV{T:List Nat}{w0 w:World}{x y:WS}{k s i:Int}{b4 b5 b6 b7:Nat}{r:List ai}(h:BD T w0 w (y.ts++(bV x k s i b4 b5 b6 b7++r))):(w.cell? ⟨b4,0,none⟩=some (.pointer (some ⟨x.wb,0,none⟩))/\w.cell? ⟨b5,0,none⟩=some (.int .i64 k)/\w.cell? ⟨b6,0,none⟩=some (.int .i64 s)/\w.cell? ⟨b7,0,none⟩=some (.int .i64 i))/\b4<w.heap.size/\b5<w.heap.size/\b6<w.heap.size/\b7<w.heap.size:=by
 have h4:=h.box y.ts.length (b:=b4) (t:=25) (cs:=#[.pointer (some ⟨x.wb,0,none⟩)]) (by simp[Proofs.YtddnnapoaonmjaaGreatDoor.bV]);have h5:=h.box (y.ts.length+1) (b:=b5) (t:=3) (cs:=#[.int .i64 k]) (by simp[Proofs.YtddnnapoaonmjaaGreatDoor.bV]);have h6:=h.box (y.ts.length+2) (b:=b6) (t:=41) (cs:=#[.int .i64 s]) (by simp[Proofs.YtddnnapoaonmjaaGreatDoor.bV]);have h7:=h.box (y.ts.length+3) (b:=b7) (t:=3) (cs:=#[.int .i64 i]) (by simp[Proofs.YtddnnapoaonmjaaGreatDoor.bV]);exact⟨⟨h4.cell 0,h5.cell 0,h6.cell 0,h7.cell 0⟩,h4.lt,h5.lt,h6.lt,h7.lt⟩
theorem BD.uI{T:List Nat}{w0 w:World}{x y:WS}{k s i:Int}{b4 b5 b6 b7 bf t:Nat}{cs:Array Value}(h:BD T w0 w (Proofs.YtddnnapoaonmjaaGreatDoor.box bf t cs::(y.ts++Proofs.YtddnnapoaonmjaaGreatDoor.bV x k s i b4 b5 b6 b7))):bf≠b4/\bf≠b5/\bf≠b6/\bf≠b7:=by
 refine⟨h.ne 0 (y.ts.length+1) (b':=b4) (t':=25) (cs':=#[.pointer (some ⟨x.wb,0,none⟩)]) rfl (by simp[Proofs.YtddnnapoaonmjaaGreatDoor.bV]) (by omega),h.ne 0 (y.ts.length+2) (b':=b5) (t':=3) (cs':=#[.int .i64 k]) rfl (by simp[Proofs.YtddnnapoaonmjaaGreatDoor.bV]) (by omega),h.ne 0 (y.ts.length+3) (b':=b6) (t':=41) (cs':=#[.int .i64 s]) rfl (by simp[Proofs.YtddnnapoaonmjaaGreatDoor.bV]) (by omega),h.ne 0 (y.ts.length+4) (b':=b7) (t':=3) (cs':=#[.int .i64 i]) rfl (by simp[Proofs.YtddnnapoaonmjaaGreatDoor.bV]) (by omega)⟩
def jm(b:Nat):ai:=box b 168 #[.int .i64 0,.int .i64 0,.int .i64 0,.int .i64 0,.int .i64 0,.int .i64 0,.slice none 0 0,.bool false]
def Ai(T:List Nat)(w:World)(x:WS)(k s i:Int)(b4 b5 b6 b7:Nat)(en:Ending)(w':World):Prop:=∃(v:aL) (er:Int) (x':WS),jN x k s i v er x'/\((er=0/\en= .returned v.val)\/(v=aL.zero/\en= .panicked (aX er)))/\BD T w w' (x'.ts++bV x k s i b4 b5 b6 b7)
theorem Mx(T:List Nat)(w:World)(x:WS)(b4 b5 b6 b7:Nat)(k s i:Int)(h:BD T w w (x.ts++bV x k s i b4 b5 b6 b7))(hS:∀W,x.P W->bJ W)(hq:∀n (hn:n<x.BI.length),x.BI[n].es1.length<=4096/\x.BI[n].es2.length<=4096):
  Calls Tryz.prog 102 #[.pointer (some ⟨b4,0,none⟩),.pointer (some ⟨b5,0,none⟩),.pointer (some ⟨b6,0,none⟩),.pointer (some ⟨b7,0,none⟩)] w (Ai T w x k s i b4 b5 b6 b7):=by
 have BG:=hdq h;have HS:=hdq hS;have HQ:=hdq hq;clear h hS hq;go_enter Tryz.func102,Tryz.ntmps102
 go_upto_region 1 with fail
 refine ay ?_;intro w1 hw1;have BB:Hid (BD T w w1 (x.ts++(bV x k s i b4 b5 b6 b7++[jm w.heap.size]))):=by
  have h1:=BG.out.DN hw1;rw[List.append_assoc]at h1;exact h1
 generalize hbf:w.heap.size=bf at BB|-;clear hw1 hbf BG;obtain⟨⟨p0,q0,s0,i0⟩,z4,z5,z6,z7⟩:=BB.out.bV;by_cases hs:s=1\/s=2
 .by_cases hk:0<=k/\k<(x.BI.length:Int)
  .obtain⟨n,rfl⟩:=Int.eq_ofNat_of_zero_le hk.1
   have hnk:n<x.BI.length:=by omega
   clear hk;rcases hs with rfl|rfl
   .skip
    have HC:=hdq (fun W (hW:Touch [] w1 W)=>(BB.out.touch hW).sj (HS.out _ ((BB.out.touch hW).still 2 rfl)) 1 (by decide) n hnk);have CV:=hdq (fun W (hW:Touch [] w1 W)=>(BB.out.touch hW).La (s:=1) (6+(4*n+2)) (x.kW _ n hnk 2 (by omega)) ((BB.out.touch hW).oM n hnk) rfl (HQ.out n hnk).1 i);generalize hcn:x.BI[n].c=cn at HC CV;have FV:=hdq hcn;clear hcn;have BZ:=hdq (Touch.refl [] w1).drew;go_wp2_with fail
    refine hrq (S:=fun w'=>w'.cell? ⟨b4,0,none⟩=some (.pointer (some ⟨x.wb,0,none⟩))/\w'.cell? ⟨b5,0,none⟩=some (.int .i64 (n:Int))/\w'.cell? ⟨b6,0,none⟩=some (.int .i64 1)/\w'.cell? ⟨b7,0,none⟩=some (.int .i64 i)) fun hHeld=>?_;refine tkq 0 6 ?_;refine tkq 1 7 ?_;refine tkq 2 8 ?_;refine tkq 4 10 ?_;refine tkq 5 11 ?_;refine rdq 3 rfl fun K hK=>?_;go_simp;refine(HC.out _ BZ.out).mono ?_;rintro en w2 ⟨rfl,ht⟩;have HT1:=hdq (BZ.out.trans' ht);clear ht p0 q0 s0 i0 z4 z5 z6 z7 hHeld;have HL2:=hdq (BB.out.touch HT1.out);obtain⟨⟨p0,q0,s0,i0⟩,z4,z5,z6,z7⟩:=HL2.out.bV;go_simp;refine kpq hK.out fun hHeld=>?_;clear hK K;refine rdq 6 rfl fun K hK=>?_;go_simp;refine(CV.out _ HT1.out).mono ?_;rintro en w3 ⟨y,b,rfl,hR,hL⟩;obtain rfl:=FV.out;rw[x.uV n hnk {x.BI[n]with es1:=if b=true then x.BI[n].es1.eraseIdx i.toNat else x.BI[n].es1} 2 (by omega) _ rfl rfl]at hL;have HR:=hdq hR;clear p0 q0 s0 i0 z4 z5 z6 z7 hHeld HL2;obtain⟨⟨p0,q0,s0,i0⟩,z4,z5,z6,z7⟩:=hL.bV;have BF:=hdq (BD.aB (a:=[]) (c:=[jm bf]) (b:=_++bV x (n:Int) 1 i b4 b5 b6 b7) (by rw[List.nil_append,List.append_assoc];exact hL));simp only[nAq,cAq,jm]at BF;clear hL hR BB HC CV FV;obtain⟨⟨f0,f1,f2,f3,f4,f5,f6,f7⟩,⟨g0,g1,g2,g3,g4,g5,g6,g7⟩,zf,_,_⟩:=BF.out.dA 0 rfl;obtain⟨n4,n5,n6,n7⟩:=BF.out.uI;simp only[bB];go_simp;refine kpq hK.out fun hHeld=>?_;clear hK K;refine tkq 7 5 ?_;refine tkq 8 13 ?_;refine tkq 9 14 ?_;refine tkq 10 15 ?_;refine opq 11 fun hHeld=>?_;refine tkq 12 16 ?_;refine opq 13 fun hHeld=>?_;refine dnq ?_;have BH:=hdq ((((((((BF.out.set 0 rfl 0 (.int .i64 y.sync)).set 0 rfl 1 (.int .i64 y.thread)).set 0 rfl 2 (.int .i64 y.branch)).set 0 rfl 3 (.int .i64 y.flag)).set 0 rfl 4 (.int .i64 y.v.kind)).set 0 rfl 5 (.int .i64 y.v.num)).set 0 rfl 6 (.slice y.v.addr y.v.parts.length y.v.cap)).set 0 rfl 7 (.bool b));simp only[sZq,sAq,sSq]at BH;refine ax (Q:=Exit.then _ _) ?_;intro w4 hw4;have Ca:=hdq (BH.out.toW (by with_reducible exact hw4));clear hw4 BH BF f0 f1 f2 f3 f4 f5 f6 f7 g0 g1 g2 g3 g4 g5 g6 g7 zf p0 q0 s0 i0 z4 z5 z6 z7 hHeld n4 n5 n6 n7;obtain⟨⟨f0,f1,f2,f3,f4,f5,f6,f7⟩,⟨g0,g1,g2,g3,g4,g5,g6,g7⟩,zf,_,_⟩:=Ca.out.dA 0 rfl;have Db:=hdq ((((((((Ca.out.set 0 rfl 0 (.int .i64 y.sync)).set 0 rfl 1 (.int .i64 y.thread)).set 0 rfl 2 (.int .i64 y.branch)).set 0 rfl 3 (.int .i64 y.flag)).set 0 rfl 4 (.int .i64 y.v.kind)).set 0 rfl 5 (.int .i64 y.v.num)).set 0 rfl 6 (.slice y.v.addr y.v.parts.length y.v.cap)).set 0 rfl 7 (.bool b));simp only[sZq,sAq,sSq]at Db;go_wp2;refine aP ?_;intro w5 DC;have C8:=hdq (Db.out.toW DC);clear DC Db Ca f0 f1 f2 f3 f4 f5 f6 f7 g0 g1 g2 g3 g4 g5 g6 g7 zf;obtain⟨⟨f0,f1,f2,f3,f4,f5,f6,f7⟩,_,_⟩:=C8.out.dA 0 rfl;refine bodyPost_ret (v:=(aL.of y b).val) (by simp[results,Tryz.results102,go_sem,f0,f1,f2,f3,f4,f5,f6,f7,aL.val,aL.of]) rfl ?_;exact⟨aL.of y b,0,_,.inr (.inr ⟨n,hnk,y,b,rfl,rfl,rfl,.inl ⟨rfl,HR.out,rfl⟩⟩),.inl ⟨rfl,rfl⟩,BD.aF (BD.aB (a:=[]) (b:=[_]) C8.out)⟩
   .skip
    have HC:=hdq (fun W (hW:Touch [] w1 W)=>(BB.out.touch hW).sj (HS.out _ ((BB.out.touch hW).still 2 rfl)) 2 (by decide) n hnk);have CV:=hdq (fun W (hW:Touch [] w1 W)=>(BB.out.touch hW).La (s:=2) (6+(4*n+3)) (x.kW _ n hnk 3 (by omega)) ((BB.out.touch hW).oM n hnk) rfl (HQ.out n hnk).2 i);generalize hcn:x.BI[n].c=cn at HC CV;have FV:=hdq hcn;clear hcn;have BZ:=hdq (Touch.refl [] w1).drew;go_wp2_with fail
    refine hrq (S:=fun w'=>w'.cell? ⟨b4,0,none⟩=some (.pointer (some ⟨x.wb,0,none⟩))/\w'.cell? ⟨b5,0,none⟩=some (.int .i64 (n:Int))/\w'.cell? ⟨b6,0,none⟩=some (.int .i64 2)/\w'.cell? ⟨b7,0,none⟩=some (.int .i64 i)) fun hHeld=>?_;refine tkq 0 6 ?_;refine tkq 1 7 ?_;refine tkq 2 8 ?_;refine tkq 4 10 ?_;refine tkq 5 11 ?_;refine rdq 3 rfl fun K hK=>?_;go_simp;refine(HC.out _ BZ.out).mono ?_;rintro en w2 ⟨rfl,ht⟩;have HT1:=hdq (BZ.out.trans' ht);clear ht p0 q0 s0 i0 z4 z5 z6 z7 hHeld;have HL2:=hdq (BB.out.touch HT1.out);obtain⟨⟨p0,q0,s0,i0⟩,z4,z5,z6,z7⟩:=HL2.out.bV;go_simp;refine kpq hK.out fun hHeld=>?_;clear hK K;refine rdq 6 rfl fun K hK=>?_;go_simp;refine(CV.out _ HT1.out).mono ?_;rintro en w3 ⟨y,b,rfl,hR,hL⟩;obtain rfl:=FV.out;rw[x.uV n hnk {x.BI[n]with es2:=if b=true then x.BI[n].es2.eraseIdx i.toNat else x.BI[n].es2} 3 (by omega) _ rfl rfl]at hL;have HR:=hdq hR;clear p0 q0 s0 i0 z4 z5 z6 z7 hHeld HL2;obtain⟨⟨p0,q0,s0,i0⟩,z4,z5,z6,z7⟩:=hL.bV;have BF:=hdq (BD.aB (a:=[]) (c:=[jm bf]) (b:=_++bV x (n:Int) 2 i b4 b5 b6 b7) (by rw[List.nil_append,List.append_assoc];exact hL));simp only[nAq,cAq,jm]at BF;clear hL hR BB HC CV FV;obtain⟨⟨f0,f1,f2,f3,f4,f5,f6,f7⟩,⟨g0,g1,g2,g3,g4,g5,g6,g7⟩,zf,_,_⟩:=BF.out.dA 0 rfl;obtain⟨n4,n5,n6,n7⟩:=BF.out.uI;simp only[bB];go_simp;refine kpq hK.out fun hHeld=>?_;clear hK K;refine tkq 7 5 ?_;refine tkq 8 13 ?_;refine tkq 9 14 ?_;refine tkq 10 15 ?_;refine opq 11 fun hHeld=>?_;refine tkq 12 16 ?_;refine opq 13 fun hHeld=>?_;refine dnq ?_;have BH:=hdq ((((((((BF.out.set 0 rfl 0 (.int .i64 y.sync)).set 0 rfl 1 (.int .i64 y.thread)).set 0 rfl 2 (.int .i64 y.branch)).set 0 rfl 3 (.int .i64 y.flag)).set 0 rfl 4 (.int .i64 y.v.kind)).set 0 rfl 5 (.int .i64 y.v.num)).set 0 rfl 6 (.slice y.v.addr y.v.parts.length y.v.cap)).set 0 rfl 7 (.bool b));simp only[sZq,sAq,sSq]at BH;refine ax (Q:=Exit.then _ _) ?_;intro w4 hw4;have Ca:=hdq (BH.out.toW (by with_reducible exact hw4));clear hw4 BH BF f0 f1 f2 f3 f4 f5 f6 f7 g0 g1 g2 g3 g4 g5 g6 g7 zf p0 q0 s0 i0 z4 z5 z6 z7 hHeld n4 n5 n6 n7;obtain⟨⟨f0,f1,f2,f3,f4,f5,f6,f7⟩,⟨g0,g1,g2,g3,g4,g5,g6,g7⟩,zf,_,_⟩:=Ca.out.dA 0 rfl;have Db:=hdq ((((((((Ca.out.set 0 rfl 0 (.int .i64 y.sync)).set 0 rfl 1 (.int .i64 y.thread)).set 0 rfl 2 (.int .i64 y.branch)).set 0 rfl 3 (.int .i64 y.flag)).set 0 rfl 4 (.int .i64 y.v.kind)).set 0 rfl 5 (.int .i64 y.v.num)).set 0 rfl 6 (.slice y.v.addr y.v.parts.length y.v.cap)).set 0 rfl 7 (.bool b));simp only[sZq,sAq,sSq]at Db;go_wp2;refine aP ?_;intro w5 DC;have C8:=hdq (Db.out.toW DC);clear DC Db Ca f0 f1 f2 f3 f4 f5 f6 f7 g0 g1 g2 g3 g4 g5 g6 g7 zf;obtain⟨⟨f0,f1,f2,f3,f4,f5,f6,f7⟩,_,_⟩:=C8.out.dA 0 rfl;refine bodyPost_ret (v:=(aL.of y b).val) (by simp[results,Tryz.results102,go_sem,f0,f1,f2,f3,f4,f5,f6,f7,aL.val,aL.of]) rfl ?_;exact⟨aL.of y b,0,_,.inr (.inr ⟨n,hnk,y,b,rfl,rfl,rfl,.inr ⟨rfl,HR.out,rfl⟩⟩),.inl ⟨rfl,rfl⟩,BD.aF (BD.aB (a:=[]) (b:=[_]) C8.out)⟩
  .have HC:=hdq (fun W (hW:Touch [] w1 W)=>(BB.out.touch hW).nL (HS.out _ ((BB.out.touch hW).still 2 rfl)) s hs k hk)
   have HK:Hid (¬(0<=k/\k<(x.BI.length:Int))/\(s=1\/s=2)):=⟨hk,hs⟩;clear hk hs;have BZ:=hdq (Touch.refl [] w1).drew;go_wp2_with fail
   refine hrq (S:=fun w'=>w'.cell? ⟨b4,0,none⟩=some (.pointer (some ⟨x.wb,0,none⟩))/\w'.cell? ⟨b5,0,none⟩=some (.int .i64 k)/\w'.cell? ⟨b6,0,none⟩=some (.int .i64 s)/\w'.cell? ⟨b7,0,none⟩=some (.int .i64 i)) fun hHeld=>?_;refine tkq 0 6 ?_;refine tkq 1 7 ?_;refine tkq 2 8 ?_;refine tkq 4 10 ?_;refine tkq 5 11 ?_;refine rdq 3 rfl fun K hK=>?_;go_simp;refine(HC.out _ BZ.out).mono ?_;rintro en w2 ⟨rfl,ht⟩;dsimp only;have h2:=BB.out.touch (BZ.out.trans' ht);rw[<-List.append_assoc]at h2;exact⟨rfl,aL.zero,4,x,.inr (.inl ⟨HK.out.2,HK.out.1,rfl,rfl,rfl⟩),.inr ⟨rfl,rfl⟩,h2.aF⟩
 .have HC:=hdq (fun W (hW:Touch [] w1 W)=>(BB.out.touch hW).nR (HS.out _ ((BB.out.touch hW).still 2 rfl)) s hs k)
  have HK:Hid (¬(s=1\/s=2)):=hs;clear hs;have BZ:=hdq (Touch.refl [] w1).drew;go_wp2_with fail
  refine hrq (S:=fun w'=>w'.cell? ⟨b4,0,none⟩=some (.pointer (some ⟨x.wb,0,none⟩))/\w'.cell? ⟨b5,0,none⟩=some (.int .i64 k)/\w'.cell? ⟨b6,0,none⟩=some (.int .i64 s)/\w'.cell? ⟨b7,0,none⟩=some (.int .i64 i)) fun hHeld=>?_;refine tkq 0 6 ?_;refine tkq 1 7 ?_;refine tkq 2 8 ?_;refine tkq 4 10 ?_;refine tkq 5 11 ?_;refine rdq 3 rfl fun K hK=>?_;go_simp;refine(HC.out _ BZ.out).mono ?_;rintro en w2 ⟨rfl,ht⟩;dsimp only;have h2:=BB.out.touch (BZ.out.trans' ht);rw[<-List.append_assoc]at h2;exact⟨rfl,aL.zero,2,x,.inl ⟨HK.out,rfl,rfl,rfl⟩,.inr ⟨rfl,rfl⟩,h2.aF⟩
theorem Drop_w(T:List Nat)(w:World)(x:WS)(k s i:Int)(h:BD T w w x.ts)(hS:∀W,x.P W->bJ W)(hq:∀n (hn:n<x.BI.length),x.BI[n].es1.length<=4096/\x.BI[n].es2.length<=4096):
  Calls Tryz.prog 27 #[.pointer (some ⟨x.wb,0,none⟩),.int .i64 k,.int .i64 s,.int .i64 i] w fun en w'=>∃(v:aL) (er:Int) (x':WS),en= .returned (.tuple #[v.ent,.bool v.is,.int .i64 er])/\jN x k s i v er x'/\BD T w w' x'.ts:=by
 have Ep:= @mfq;have BG:=hdq h;clear h;go_enter Tryz.func27,Tryz.ntmps27
 go_wp2_with fail
 refine ah ?_;intro w1 hw1;have BB:=hdq ((((((BG.out.alloc 25 #[.pointer (some ⟨x.wb,0,none⟩)]).alloc 3 #[.int .i64 k]).alloc 41 #[.int .i64 s]).alloc 3 #[.int .i64 i]).alloc 47 #[.int .i64 0,.int .i64 0,.int .i64 0,.int .i64 0,.int .i64 0,.int .i64 0,.slice none 0 0]).toW hw1);simp only[World.size_alloc,List.append_assoc,cAq,nAq]at BB;generalize Kj:w.heap.size+1+1+1+1=b8 at BB|-;generalize EF:w.heap.size+1+1+1=b7 at BB|-;generalize hb6:w.heap.size+1+1=b6 at BB|-;generalize hb5:w.heap.size+1=b5 at BB|-;generalize hb4:w.heap.size=b4 at BB|-;clear hw1 Kj EF hb6 hb5 hb4 BG;refine(jy T w w1 _ _ _ (fun v er l'=>∃x',jN x k s i v er x'/\l'=x'.ts++bV x k s i b4 b5 b6 b7++[dJ b8]) BB.out (enters_of Tryz.func102 (by kernel_rfl) rfl) (fun T' W hW=>?_)).mono ?_
 .obtain⟨T2,hF,hb⟩:=BD.aN (m:=x.ts++bV x k s i b4 b5 b6 b7) (r:=[dJ b8]) (by rw[List.append_assoc];exact hW)
  refine(Mx T2 W x b4 b5 b6 b7 k s i hF hS hq).mono ?_;rintro en w' ⟨v,er,x',hx,he,hL⟩;exact⟨v,er,_,he,⟨x',hx,rfl⟩,hb _ _ hL⟩
 rintro en w2 ⟨v,er,l',rfl,⟨x',hx,rfl⟩,hL⟩;have HX:=hdq hx;have BF:=hdq hL;clear hL hx;unfold aL.val;dsimp only;go_upto_region 2 with fail
 refine ay ?_;intro w3 hw3;have BH:=hdq (BD.aB (a:=[]) (b:=x'.ts++bV x k s i b4 b5 b6 b7) (c:=[dJ b8,box w2.heap.size 168 #[.int .i64 v.sync,.int .i64 v.thread,.int .i64 v.branch,.int .i64 v.flag,.int .i64 v.kind,.int .i64 v.num,.slice v.lA v.lN v.lC,.bool v.is]]) (by simpa using(BF.out.DN hw3)));simp only[nAq,cAq,dJ]at BH;generalize FK:w2.heap.size=b9 at BH|-;clear hw3 FK BF BB;obtain⟨e0,e1,e2,e3,e4,e5,e6,⟨ef0,ef1,ef2,ef3,ef4,ef5,ef6⟩,ze,_,_⟩:=BH.out.c7 0 rfl;obtain⟨⟨f0,f1,f2,f3,f4,f5,f6,f7⟩,⟨g0,g1,g2,g3,g4,g5,g6,g7⟩,zf,_,_⟩:=BH.out.dA 1 rfl;have hne:=BH.out.ne 0 1 rfl rfl (by decide);have hne':=Ne.symm hne;go_wp2_with fail
 refine hrq (S:=fun w'=>w'.cell? ⟨b9,0,none⟩=some (.int .i64 v.sync)/\w'.cell? ⟨b9,1,none⟩=some (.int .i64 v.thread)/\w'.cell? ⟨b9,2,none⟩=some (.int .i64 v.branch)/\w'.cell? ⟨b9,3,none⟩=some (.int .i64 v.flag)/\w'.cell? ⟨b9,4,none⟩=some (.int .i64 v.kind)/\w'.cell? ⟨b9,5,none⟩=some (.int .i64 v.num)/\w'.cell? ⟨b9,6,none⟩=some (.slice v.lA v.lN v.lC)/\w'.cell? ⟨b9,7,none⟩=some (.bool v.is)) fun hHeld=>?_;refine tkq 0 18 ?_;refine tkq 1 19 ?_;refine tkq 2 20 ?_;refine tkq 3 21 ?_;refine tkq 4 22 ?_;refine opq 5 fun hHeld=>?_;refine tkq 6 9 ?_;refine tkq 7 10 ?_;refine dnq ?_;have Ca:=hdq (((((((BH.out.set 0 rfl 0 (.int .i64 v.sync)).set 0 rfl 1 (.int .i64 v.thread)).set 0 rfl 2 (.int .i64 v.branch)).set 0 rfl 3 (.int .i64 v.flag)).set 0 rfl 4 (.int .i64 v.kind)).set 0 rfl 5 (.int .i64 v.num)).set 0 rfl 6 (.slice v.lA v.lN v.lC)).drew;simp only[sZq,sAq,sSq]at Ca;clear BH f0 f1 f2 f3 f4 f5 f6 f7 g0 g1 g2 g3 g4 g5 g6 g7 zf hHeld e0 e1 e2 e3 e4 e5 e6 ef0 ef1 ef2 ef3 ef4 ef5 ef6 ze hne hne';go_wp2;refine aP ?_;intro w5 DC;have C8:=hdq (Ca.out.toW DC);clear DC Ca;obtain⟨e0,e1,e2,e3,e4,e5,e6,_,ze,_,_⟩:=C8.out.c7 0 rfl;refine bodyPost_ret (v:= .tuple #[v.ent,.bool v.is,.int .i64 er]) (by simp[results,Tryz.results27,go_sem,e0,e1,e2,e3,e4,e5,e6,aL.ent]) rfl ?_;have hz:BD T w w5 (x'.ts++bV x k s i b4 b5 b6 b7++[_,_]):=BD.aB (a:=[]) (b:=[_,_]) C8.out;exact⟨v,er,x',rfl,HX.out,(BD.aF (BD.aF hz))⟩
def bD(W:World)(es:List ME):Prop:=∀e∈es,e.v.In W/\e.v.nodes<=256
def WS.fD(x:WS)(W:World):Prop:=(∀c∈x.BI,bD W c.es1/\bD W c.es2)/\∀c∈x.cos,bD W c.es
def WS.knows(x:WS)(Q:World->Prop):WS:={x with P:=fun W=>x.P W/\Q W}
section
variable {T:List Nat} {w0 w w':World} {x:WS} {r0:List ai}
theorem BD.IB(h:BD T w0 w (x.ts++r0))(ht:Touch [] w w')(vs:List MT)(hin:∀t∈vs,t.In w')(hn:∀t∈vs,∀k∈t.blocks,w.heap.size<=k):BD T w0 w' ((x.knows (fun W=>∀t∈vs,t.In W)).ts++r0):=
 (h.gH ht hin hn).settle 2 rfl (fun W f hp hv=>⟨hp,hv.2⟩)
theorem BD.wQAt(h:BD T w0 w (x.ts++r0))(k:Nat)(hk:k<x.BI.length):Kk w x.BI[k].q1 x.BI[k].es1/\Kk w x.BI[k].q2 x.BI[k].es2:=
 ⟨h.qAt (6+(4*k+2)) (x.kW r0 k hk 2 (by omega)),h.qAt (6+(4*k+3)) (x.kW r0 k hk 3 (by omega))⟩
theorem BD.wLook1(h:BD T w0 w (x.ts++r0))(hv:∀W,x.P W->x.fD W)(k:Nat)(hk:k<x.BI.length)(i:Int):
  Calls Tryz.prog 101 #[.pointer (some ⟨x.BI[k].c,0,none⟩),.int .i64 1,.int .i64 i] w fun e w'=>∃y b,e= .returned (.tuple #[y.val,.bool b])/\AtR (x.BI[k].es1.map ME.plain) i y b/\BD T w0 w' ((x.knows (fun W=>∀t∈[y.v],t.In W)).ts++r0):=by
 have hin:=(hv w (h.still 2 rfl)).1 x.BI[k] (List.getElem_mem hk);refine(zh w _ _ _ _ _ (h.oM k hk) 1 x.BI[k].q1 x.BI[k].es1 i rfl (h.wQAt k hk).1 hin.1).mono ?_;rintro e w' ⟨y,b,rfl,hR,hy,hb,ht⟩;exact⟨y,b,rfl,hR,h.IB ht [y.v] (by simpa using hy) (by simpa using hb)⟩
theorem BD.wLook2(h:BD T w0 w (x.ts++r0))(hv:∀W,x.P W->x.fD W)(k:Nat)(hk:k<x.BI.length)(i:Int):
  Calls Tryz.prog 101 #[.pointer (some ⟨x.BI[k].c,0,none⟩),.int .i64 2,.int .i64 i] w fun e w'=>∃y b,e= .returned (.tuple #[y.val,.bool b])/\AtR (x.BI[k].es2.map ME.plain) i y b/\BD T w0 w' ((x.knows (fun W=>∀t∈[y.v],t.In W)).ts++r0):=by
 have hin:=(hv w (h.still 2 rfl)).1 x.BI[k] (List.getElem_mem hk);refine(zh w _ _ _ _ _ (h.oM k hk) 2 x.BI[k].q2 x.BI[k].es2 i rfl (h.wQAt k hk).2 hin.2).mono ?_;rintro e w' ⟨y,b,rfl,hR,hy,hb,ht⟩;exact⟨y,b,rfl,hR,h.IB ht [y.v] (by simpa using hy) (by simpa using hb)⟩
end
def j4(x:WS)(k s i:Int)(v:aL)(er:Int)(x':WS):Prop:=
 (¬(s=1\/s=2)/\v=aL.zero/\er=2/\x'=x)\/((s=1\/s=2)/\¬(0<=k/\k<(x.BI.length:Int))/\v=aL.zero/\er=4/\x'=x)\/
 ∃(n:Nat) (hn:n<x.BI.length) (y:ME) (b:Bool),k=(n:Int)/\er=0/\v=aL.of y b/\
  ((s=1/\AtR (x.BI[n].es1.map ME.plain) i y b/\x'=x.knows (fun W=>∀t∈[y.v],t.In W))\/
  (s=2/\AtR (x.BI[n].es2.map ME.plain) i y b/\x'=x.knows (fun W=>∀t∈[y.v],t.In W)))
def Az(T:List Nat)(w:World)(x:WS)(k s i:Int)(b4 b5 b6 b7:Nat)(en:Ending)(w':World):Prop:=∃(v:aL) (er:Int) (x':WS),j4 x k s i v er x'/\((er=0/\en= .returned v.val)\/(v=aL.zero/\en= .panicked (aX er)))/\BD T w w' (x'.ts++bV x k s i b4 b5 b6 b7)
theorem Me(T:List Nat)(w:World)(x:WS)(b4 b5 b6 b7:Nat)(k s i:Int)(h:BD T w w (x.ts++bV x k s i b4 b5 b6 b7))(hS:∀W,x.P W->bJ W)(hv:∀W,x.P W->x.fD W):
  Calls Tryz.prog 99 #[.pointer (some ⟨b4,0,none⟩),.pointer (some ⟨b5,0,none⟩),.pointer (some ⟨b6,0,none⟩),.pointer (some ⟨b7,0,none⟩)] w (Az T w x k s i b4 b5 b6 b7):=by
 have BG:=hdq h;have HS:=hdq hS;have HQ:=hdq hv;clear h hS hv;go_enter Tryz.func99,Tryz.ntmps99
 go_upto_region 1 with fail
 refine ay ?_;intro w1 hw1;have BB:Hid (BD T w w1 (x.ts++(bV x k s i b4 b5 b6 b7++[jm w.heap.size]))):=by
  have h1:=BG.out.DN hw1;rw[List.append_assoc]at h1;exact h1
 generalize hbf:w.heap.size=bf at BB|-;clear hw1 hbf BG;obtain⟨⟨p0,q0,s0,i0⟩,z4,z5,z6,z7⟩:=BB.out.bV;by_cases hs:s=1\/s=2
 .by_cases hk:0<=k/\k<(x.BI.length:Int)
  .obtain⟨n,rfl⟩:=Int.eq_ofNat_of_zero_le hk.1
   have hnk:n<x.BI.length:=by omega
   clear hk;rcases hs with rfl|rfl
   .skip
    have HC:=hdq (fun W (hW:Touch [] w1 W)=>(BB.out.touch hW).sj (HS.out _ ((BB.out.touch hW).still 2 rfl)) 1 (by decide) n hnk);have CV:=hdq (fun W (hW:Touch [] w1 W)=>(BB.out.touch hW).wLook1 HQ.out n hnk i);generalize hcn:x.BI[n].c=cn at HC CV;have FV:=hdq hcn;clear hcn;have BZ:=hdq (Touch.refl [] w1).drew;go_wp2_with fail
    refine hrq (S:=fun w'=>w'.cell? ⟨b4,0,none⟩=some (.pointer (some ⟨x.wb,0,none⟩))/\w'.cell? ⟨b5,0,none⟩=some (.int .i64 (n:Int))/\w'.cell? ⟨b6,0,none⟩=some (.int .i64 1)/\w'.cell? ⟨b7,0,none⟩=some (.int .i64 i)) fun hHeld=>?_;refine tkq 0 6 ?_;refine tkq 1 7 ?_;refine tkq 2 8 ?_;refine tkq 4 10 ?_;refine tkq 5 11 ?_;refine rdq 3 rfl fun K hK=>?_;go_simp;refine(HC.out _ BZ.out).mono ?_;rintro en w2 ⟨rfl,ht⟩;have HT1:=hdq (BZ.out.trans' ht);clear ht p0 q0 s0 i0 z4 z5 z6 z7 hHeld;have HL2:=hdq (BB.out.touch HT1.out);obtain⟨⟨p0,q0,s0,i0⟩,z4,z5,z6,z7⟩:=HL2.out.bV;go_simp;refine kpq hK.out fun hHeld=>?_;clear hK K;refine rdq 6 rfl fun K hK=>?_;go_simp;refine(CV.out _ HT1.out).mono ?_;rintro en w3 ⟨y,b,rfl,hR,hL⟩;obtain rfl:=FV.out;have HR:=hdq hR;clear p0 q0 s0 i0 z4 z5 z6 z7 hHeld HL2;obtain⟨⟨p0,q0,s0,i0⟩,z4,z5,z6,z7⟩:=hL.bV;have BF:=hdq (BD.aB (a:=[]) (c:=[jm bf]) (b:=_++bV x (n:Int) 1 i b4 b5 b6 b7) (by rw[List.nil_append,List.append_assoc];exact hL));simp only[nAq,cAq,jm]at BF;clear hL hR BB HC CV FV;obtain⟨⟨f0,f1,f2,f3,f4,f5,f6,f7⟩,⟨g0,g1,g2,g3,g4,g5,g6,g7⟩,zf,_,_⟩:=BF.out.dA 0 rfl;obtain⟨n4,n5,n6,n7⟩:=BF.out.uI;simp only[bB];go_simp;refine kpq hK.out fun hHeld=>?_;clear hK K;refine tkq 7 5 ?_;refine tkq 8 13 ?_;refine tkq 9 14 ?_;refine tkq 10 15 ?_;refine opq 11 fun hHeld=>?_;refine tkq 12 16 ?_;refine opq 13 fun hHeld=>?_;refine dnq ?_;have BH:=hdq ((((((((BF.out.set 0 rfl 0 (.int .i64 y.sync)).set 0 rfl 1 (.int .i64 y.thread)).set 0 rfl 2 (.int .i64 y.branch)).set 0 rfl 3 (.int .i64 y.flag)).set 0 rfl 4 (.int .i64 y.v.kind)).set 0 rfl 5 (.int .i64 y.v.num)).set 0 rfl 6 (.slice y.v.addr y.v.parts.length y.v.cap)).set 0 rfl 7 (.bool b));simp only[sZq,sAq,sSq]at BH;refine ax (Q:=Exit.then _ _) ?_;intro w4 hw4;have Ca:=hdq (BH.out.toW (by with_reducible exact hw4));clear hw4 BH BF f0 f1 f2 f3 f4 f5 f6 f7 g0 g1 g2 g3 g4 g5 g6 g7 zf p0 q0 s0 i0 z4 z5 z6 z7 hHeld n4 n5 n6 n7;obtain⟨⟨f0,f1,f2,f3,f4,f5,f6,f7⟩,⟨g0,g1,g2,g3,g4,g5,g6,g7⟩,zf,_,_⟩:=Ca.out.dA 0 rfl;have Db:=hdq ((((((((Ca.out.set 0 rfl 0 (.int .i64 y.sync)).set 0 rfl 1 (.int .i64 y.thread)).set 0 rfl 2 (.int .i64 y.branch)).set 0 rfl 3 (.int .i64 y.flag)).set 0 rfl 4 (.int .i64 y.v.kind)).set 0 rfl 5 (.int .i64 y.v.num)).set 0 rfl 6 (.slice y.v.addr y.v.parts.length y.v.cap)).set 0 rfl 7 (.bool b));simp only[sZq,sAq,sSq]at Db;go_wp2;refine aP ?_;intro w5 DC;have C8:=hdq (Db.out.toW DC);clear DC Db Ca f0 f1 f2 f3 f4 f5 f6 f7 g0 g1 g2 g3 g4 g5 g6 g7 zf;obtain⟨⟨f0,f1,f2,f3,f4,f5,f6,f7⟩,_,_⟩:=C8.out.dA 0 rfl;refine bodyPost_ret (v:=(aL.of y b).val) (by simp[results,Tryz.results99,go_sem,f0,f1,f2,f3,f4,f5,f6,f7,aL.val,aL.of]) rfl ?_;exact⟨aL.of y b,0,_,.inr (.inr ⟨n,hnk,y,b,rfl,rfl,rfl,.inl ⟨rfl,HR.out,rfl⟩⟩),.inl ⟨rfl,rfl⟩,BD.aF (BD.aB (a:=[]) (b:=[_]) C8.out)⟩
   .skip
    have HC:=hdq (fun W (hW:Touch [] w1 W)=>(BB.out.touch hW).sj (HS.out _ ((BB.out.touch hW).still 2 rfl)) 2 (by decide) n hnk);have CV:=hdq (fun W (hW:Touch [] w1 W)=>(BB.out.touch hW).wLook2 HQ.out n hnk i);generalize hcn:x.BI[n].c=cn at HC CV;have FV:=hdq hcn;clear hcn;have BZ:=hdq (Touch.refl [] w1).drew;go_wp2_with fail
    refine hrq (S:=fun w'=>w'.cell? ⟨b4,0,none⟩=some (.pointer (some ⟨x.wb,0,none⟩))/\w'.cell? ⟨b5,0,none⟩=some (.int .i64 (n:Int))/\w'.cell? ⟨b6,0,none⟩=some (.int .i64 2)/\w'.cell? ⟨b7,0,none⟩=some (.int .i64 i)) fun hHeld=>?_;refine tkq 0 6 ?_;refine tkq 1 7 ?_;refine tkq 2 8 ?_;refine tkq 4 10 ?_;refine tkq 5 11 ?_;refine rdq 3 rfl fun K hK=>?_;go_simp;refine(HC.out _ BZ.out).mono ?_;rintro en w2 ⟨rfl,ht⟩;have HT1:=hdq (BZ.out.trans' ht);clear ht p0 q0 s0 i0 z4 z5 z6 z7 hHeld;have HL2:=hdq (BB.out.touch HT1.out);obtain⟨⟨p0,q0,s0,i0⟩,z4,z5,z6,z7⟩:=HL2.out.bV;go_simp;refine kpq hK.out fun hHeld=>?_;clear hK K;refine rdq 6 rfl fun K hK=>?_;go_simp;refine(CV.out _ HT1.out).mono ?_;rintro en w3 ⟨y,b,rfl,hR,hL⟩;obtain rfl:=FV.out;have HR:=hdq hR;clear p0 q0 s0 i0 z4 z5 z6 z7 hHeld HL2;obtain⟨⟨p0,q0,s0,i0⟩,z4,z5,z6,z7⟩:=hL.bV;have BF:=hdq (BD.aB (a:=[]) (c:=[jm bf]) (b:=_++bV x (n:Int) 2 i b4 b5 b6 b7) (by rw[List.nil_append,List.append_assoc];exact hL));simp only[nAq,cAq,jm]at BF;clear hL hR BB HC CV FV;obtain⟨⟨f0,f1,f2,f3,f4,f5,f6,f7⟩,⟨g0,g1,g2,g3,g4,g5,g6,g7⟩,zf,_,_⟩:=BF.out.dA 0 rfl;obtain⟨n4,n5,n6,n7⟩:=BF.out.uI;simp only[bB];go_simp;refine kpq hK.out fun hHeld=>?_;clear hK K;refine tkq 7 5 ?_;refine tkq 8 13 ?_;refine tkq 9 14 ?_;refine tkq 10 15 ?_;refine opq 11 fun hHeld=>?_;refine tkq 12 16 ?_;refine opq 13 fun hHeld=>?_;refine dnq ?_;have BH:=hdq ((((((((BF.out.set 0 rfl 0 (.int .i64 y.sync)).set 0 rfl 1 (.int .i64 y.thread)).set 0 rfl 2 (.int .i64 y.branch)).set 0 rfl 3 (.int .i64 y.flag)).set 0 rfl 4 (.int .i64 y.v.kind)).set 0 rfl 5 (.int .i64 y.v.num)).set 0 rfl 6 (.slice y.v.addr y.v.parts.length y.v.cap)).set 0 rfl 7 (.bool b));simp only[sZq,sAq,sSq]at BH;refine ax (Q:=Exit.then _ _) ?_;intro w4 hw4;have Ca:=hdq (BH.out.toW (by with_reducible exact hw4));clear hw4 BH BF f0 f1 f2 f3 f4 f5 f6 f7 g0 g1 g2 g3 g4 g5 g6 g7 zf p0 q0 s0 i0 z4 z5 z6 z7 hHeld n4 n5 n6 n7;obtain⟨⟨f0,f1,f2,f3,f4,f5,f6,f7⟩,⟨g0,g1,g2,g3,g4,g5,g6,g7⟩,zf,_,_⟩:=Ca.out.dA 0 rfl;have Db:=hdq ((((((((Ca.out.set 0 rfl 0 (.int .i64 y.sync)).set 0 rfl 1 (.int .i64 y.thread)).set 0 rfl 2 (.int .i64 y.branch)).set 0 rfl 3 (.int .i64 y.flag)).set 0 rfl 4 (.int .i64 y.v.kind)).set 0 rfl 5 (.int .i64 y.v.num)).set 0 rfl 6 (.slice y.v.addr y.v.parts.length y.v.cap)).set 0 rfl 7 (.bool b));simp only[sZq,sAq,sSq]at Db;go_wp2;refine aP ?_;intro w5 DC;have C8:=hdq (Db.out.toW DC);clear DC Db Ca f0 f1 f2 f3 f4 f5 f6 f7 g0 g1 g2 g3 g4 g5 g6 g7 zf;obtain⟨⟨f0,f1,f2,f3,f4,f5,f6,f7⟩,_,_⟩:=C8.out.dA 0 rfl;refine bodyPost_ret (v:=(aL.of y b).val) (by simp[results,Tryz.results99,go_sem,f0,f1,f2,f3,f4,f5,f6,f7,aL.val,aL.of]) rfl ?_;exact⟨aL.of y b,0,_,.inr (.inr ⟨n,hnk,y,b,rfl,rfl,rfl,.inr ⟨rfl,HR.out,rfl⟩⟩),.inl ⟨rfl,rfl⟩,BD.aF (BD.aB (a:=[]) (b:=[_]) C8.out)⟩
  .have HC:=hdq (fun W (hW:Touch [] w1 W)=>(BB.out.touch hW).nL (HS.out _ ((BB.out.touch hW).still 2 rfl)) s hs k hk)
   have HK:Hid (¬(0<=k/\k<(x.BI.length:Int))/\(s=1\/s=2)):=⟨hk,hs⟩;clear hk hs;have BZ:=hdq (Touch.refl [] w1).drew;go_wp2_with fail
   refine hrq (S:=fun w'=>w'.cell? ⟨b4,0,none⟩=some (.pointer (some ⟨x.wb,0,none⟩))/\w'.cell? ⟨b5,0,none⟩=some (.int .i64 k)/\w'.cell? ⟨b6,0,none⟩=some (.int .i64 s)/\w'.cell? ⟨b7,0,none⟩=some (.int .i64 i)) fun hHeld=>?_;refine tkq 0 6 ?_;refine tkq 1 7 ?_;refine tkq 2 8 ?_;refine tkq 4 10 ?_;refine tkq 5 11 ?_;refine rdq 3 rfl fun K hK=>?_;go_simp;refine(HC.out _ BZ.out).mono ?_;rintro en w2 ⟨rfl,ht⟩;dsimp only;have h2:=BB.out.touch (BZ.out.trans' ht);rw[<-List.append_assoc]at h2;exact⟨rfl,aL.zero,4,x,.inr (.inl ⟨HK.out.2,HK.out.1,rfl,rfl,rfl⟩),.inr ⟨rfl,rfl⟩,h2.aF⟩
 .have HC:=hdq (fun W (hW:Touch [] w1 W)=>(BB.out.touch hW).nR (HS.out _ ((BB.out.touch hW).still 2 rfl)) s hs k)
  have HK:Hid (¬(s=1\/s=2)):=hs;clear hs;have BZ:=hdq (Touch.refl [] w1).drew;go_wp2_with fail
  refine hrq (S:=fun w'=>w'.cell? ⟨b4,0,none⟩=some (.pointer (some ⟨x.wb,0,none⟩))/\w'.cell? ⟨b5,0,none⟩=some (.int .i64 k)/\w'.cell? ⟨b6,0,none⟩=some (.int .i64 s)/\w'.cell? ⟨b7,0,none⟩=some (.int .i64 i)) fun hHeld=>?_;refine tkq 0 6 ?_;refine tkq 1 7 ?_;refine tkq 2 8 ?_;refine tkq 4 10 ?_;refine tkq 5 11 ?_;refine rdq 3 rfl fun K hK=>?_;go_simp;refine(HC.out _ BZ.out).mono ?_;rintro en w2 ⟨rfl,ht⟩;dsimp only;have h2:=BB.out.touch (BZ.out.trans' ht);rw[<-List.append_assoc]at h2;exact⟨rfl,aL.zero,2,x,.inl ⟨HK.out,rfl,rfl,rfl⟩,.inr ⟨rfl,rfl⟩,h2.aF⟩
theorem KC(T:List Nat)(w:World)(x:WS)(k s i:Int)(h:BD T w w x.ts)(hS:∀W,x.P W->bJ W)(hv:∀W,x.P W->x.fD W):
  Calls Tryz.prog 26 #[.pointer (some ⟨x.wb,0,none⟩),.int .i64 k,.int .i64 s,.int .i64 i] w fun en w'=>∃(v:aL) (er:Int) (x':WS),en= .returned (.tuple #[v.ent,.bool v.is,.int .i64 er])/\j4 x k s i v er x'/\BD T w w' x'.ts:=by
 have Ep:= @mfq;have BG:=hdq h;clear h;go_enter Tryz.func26,Tryz.ntmps26
 go_wp2_with fail
 refine ah ?_;intro w1 hw1;have BB:=hdq ((((((BG.out.alloc 25 #[.pointer (some ⟨x.wb,0,none⟩)]).alloc 3 #[.int .i64 k]).alloc 41 #[.int .i64 s]).alloc 3 #[.int .i64 i]).alloc 47 #[.int .i64 0,.int .i64 0,.int .i64 0,.int .i64 0,.int .i64 0,.int .i64 0,.slice none 0 0]).toW hw1);simp only[World.size_alloc,List.append_assoc,cAq,nAq]at BB;generalize Kj:w.heap.size+1+1+1+1=b8 at BB|-;generalize EF:w.heap.size+1+1+1=b7 at BB|-;generalize hb6:w.heap.size+1+1=b6 at BB|-;generalize hb5:w.heap.size+1=b5 at BB|-;generalize hb4:w.heap.size=b4 at BB|-;clear hw1 Kj EF hb6 hb5 hb4 BG;refine(jy T w w1 _ _ _ (fun v er l'=>∃x',j4 x k s i v er x'/\l'=x'.ts++bV x k s i b4 b5 b6 b7++[dJ b8]) BB.out (enters_of Tryz.func99 (by kernel_rfl) rfl) (fun T' W hW=>?_)).mono ?_
 .obtain⟨T2,hF,hb⟩:=BD.aN (m:=x.ts++bV x k s i b4 b5 b6 b7) (r:=[dJ b8]) (by rw[List.append_assoc];exact hW)
  refine(Me T2 W x b4 b5 b6 b7 k s i hF hS hv).mono ?_;rintro en w' ⟨v,er,x',hx,he,hL⟩;exact⟨v,er,_,he,⟨x',hx,rfl⟩,hb _ _ hL⟩
 rintro en w2 ⟨v,er,l',rfl,⟨x',hx,rfl⟩,hL⟩;have HX:=hdq hx;have BF:=hdq hL;clear hL hx;unfold aL.val;dsimp only;go_upto_region 2 with fail
 refine ay ?_;intro w3 hw3;have BH:=hdq (BD.aB (a:=[]) (b:=x'.ts++bV x k s i b4 b5 b6 b7) (c:=[dJ b8,box w2.heap.size 168 #[.int .i64 v.sync,.int .i64 v.thread,.int .i64 v.branch,.int .i64 v.flag,.int .i64 v.kind,.int .i64 v.num,.slice v.lA v.lN v.lC,.bool v.is]]) (by simpa using(BF.out.DN hw3)));simp only[nAq,cAq,dJ]at BH;generalize FK:w2.heap.size=b9 at BH|-;clear hw3 FK BF BB;obtain⟨e0,e1,e2,e3,e4,e5,e6,⟨ef0,ef1,ef2,ef3,ef4,ef5,ef6⟩,ze,_,_⟩:=BH.out.c7 0 rfl;obtain⟨⟨f0,f1,f2,f3,f4,f5,f6,f7⟩,⟨g0,g1,g2,g3,g4,g5,g6,g7⟩,zf,_,_⟩:=BH.out.dA 1 rfl;have hne:=BH.out.ne 0 1 rfl rfl (by decide);have hne':=Ne.symm hne;go_wp2_with fail
 refine hrq (S:=fun w'=>w'.cell? ⟨b9,0,none⟩=some (.int .i64 v.sync)/\w'.cell? ⟨b9,1,none⟩=some (.int .i64 v.thread)/\w'.cell? ⟨b9,2,none⟩=some (.int .i64 v.branch)/\w'.cell? ⟨b9,3,none⟩=some (.int .i64 v.flag)/\w'.cell? ⟨b9,4,none⟩=some (.int .i64 v.kind)/\w'.cell? ⟨b9,5,none⟩=some (.int .i64 v.num)/\w'.cell? ⟨b9,6,none⟩=some (.slice v.lA v.lN v.lC)/\w'.cell? ⟨b9,7,none⟩=some (.bool v.is)) fun hHeld=>?_;refine tkq 0 18 ?_;refine tkq 1 19 ?_;refine tkq 2 20 ?_;refine tkq 3 21 ?_;refine tkq 4 22 ?_;refine opq 5 fun hHeld=>?_;refine tkq 6 9 ?_;refine tkq 7 10 ?_;refine dnq ?_;have Ca:=hdq (((((((BH.out.set 0 rfl 0 (.int .i64 v.sync)).set 0 rfl 1 (.int .i64 v.thread)).set 0 rfl 2 (.int .i64 v.branch)).set 0 rfl 3 (.int .i64 v.flag)).set 0 rfl 4 (.int .i64 v.kind)).set 0 rfl 5 (.int .i64 v.num)).set 0 rfl 6 (.slice v.lA v.lN v.lC)).drew;simp only[sZq,sAq,sSq]at Ca;clear BH f0 f1 f2 f3 f4 f5 f6 f7 g0 g1 g2 g3 g4 g5 g6 g7 zf hHeld e0 e1 e2 e3 e4 e5 e6 ef0 ef1 ef2 ef3 ef4 ef5 ef6 ze hne hne';go_wp2;refine aP ?_;intro w5 DC;have C8:=hdq (Ca.out.toW DC);clear DC Ca;obtain⟨e0,e1,e2,e3,e4,e5,e6,_,ze,_,_⟩:=C8.out.c7 0 rfl;refine bodyPost_ret (v:= .tuple #[v.ent,.bool v.is,.int .i64 er]) (by simp[results,Tryz.results26,go_sem,e0,e1,e2,e3,e4,e5,e6,aL.ent]) rfl ?_;have hz:BD T w w5 (x'.ts++bV x k s i b4 b5 b6 b7++[_,_]):=BD.aB (a:=[]) (b:=[_,_]) C8.out;exact⟨v,er,x',rfl,HX.out,(BD.aF (BD.aF hz))⟩
theorem IX:(Tryz.prog.info? 118).map (fun i=>(i.zero,i.size,i.bytes))=some (some (.pointer none),1,8):=by kernel_rfl
theorem Jo:(Tryz.prog.info? 122).map (fun i=>(i.zero,i.size,i.bytes))=some (some (.pointer none),1,8):=by kernel_rfl
theorem zI(c:Nat):∀u∈[Value.pointer (some ⟨c,0,none⟩)],u.oneCell'=true:=by simp[Value.oneCell']
def WS.sI(x:WS)(s:Ar)(y:Ce)(a:Option Addr)(c:Nat):WS:={x with s:=s,BI:=x.BI++[y],a1:=a,c1:=c}
def WS.sV(x:WS)(s:Ar)(P:World->Prop)(y:Ch)(a:Option Addr)(c:Nat):WS:={x with s:=s,P:=P,cos:=x.cos++[y],a2:=a,c2:=c}
def WS.oq(x:WS)(s:Ar)(vb v:Value)(n:Nat)(xs:List Value):List ai:=
 [box x.wb 86 #[.pointer (some ⟨x.ga,0,none⟩),vb,.slice x.a2 x.cos.length x.c2,.slice x.a3 x.sys.length x.c3],arena x.ga s,aA x.P,aS 118 1 v n xs,aS 122 1 (.slice x.a2 x.cos.length x.c2) x.cos.length (bK x.cos),aS 61 11 (.slice x.a3 x.sys.length x.c3) x.sys.length (aU x.sys)]
def WS.oK(x:WS)(s:Ar)(P:World->Prop)(vb v:Value)(n:Nat)(xs:List Value):List ai:=
 [box x.wb 86 #[.pointer (some ⟨x.ga,0,none⟩),.slice x.a1 x.BI.length x.c1,vb,.slice x.a3 x.sys.length x.c3],arena x.ga s,aA P,aS 118 1 (.slice x.a1 x.BI.length x.c1) x.BI.length (bP x.BI),aS 122 1 v n xs,aS 61 11 (.slice x.a3 x.sys.length x.c3) x.sys.length (aU x.sys)]
theorem WS.KP(x:WS)(s:Ar)(y:Ce)(a:Option Addr)(c:Nat)(r0:List ai):(x.sI s y a c).ts++r0=x.oq s (.slice a (x.BI.length+1) c) (.slice a (x.BI.length+1) c) (x.BI.length+1) (bP x.BI++[.pointer (some ⟨y.c,0,none⟩)])++x.BI.flatMap Ce.ts++y.ts++(x.cos.flatMap Ch.ts++r0):=by
 simp[WS.sI,WS.ts,WS.head,WS.oq,bP,List.flatMap_append]
theorem WS.Ij(x:WS)(s:Ar)(P:World->Prop)(y:Ch)(a:Option Addr)(c:Nat)(r0:List ai):(x.sV s P y a c).ts++r0=x.oK s P (.slice a (x.cos.length+1) c) (.slice a (x.cos.length+1) c) (x.cos.length+1) (bK x.cos++[.pointer (some ⟨y.c,0,none⟩)])++(x.BI.flatMap Ce.ts++x.cos.flatMap Ch.ts)++y.ts++r0:=by
 simp[WS.sV,WS.ts,WS.head,WS.oK,bK,List.flatMap_append]
theorem BD.joinCh{T:List Nat}{w0 w:World}{x:WS}{s:Ar}{y:Ce}{a:Option Addr}{c:Nat}{r0:List ai}(h:BD T w0 w (x.oq s (.slice a (x.BI.length+1) c) (.slice a (x.BI.length+1) c) (x.BI.length+1) (bP x.BI++[.pointer (some ⟨y.c,0,none⟩)])++(x.BI.flatMap Ce.ts++x.cos.flatMap Ch.ts)++r0++y.ts)):BD T w0 w ((x.sI s y a c).ts++r0):=by
 rw[x.KP];exact BD.aB (a:=x.oq s (.slice a (x.BI.length+1) c) (.slice a (x.BI.length+1) c) (x.BI.length+1) (bP x.BI++[.pointer (some ⟨y.c,0,none⟩)])++x.BI.flatMap Ce.ts) (b:=x.cos.flatMap Ch.ts++r0) (c:=y.ts) (by simpa only[List.append_assoc]using h)
theorem BD.joinCo{T:List Nat}{w0 w:World}{x:WS}{s:Ar}{P:World->Prop}{y:Ch}{a:Option Addr}{c:Nat}{r0:List ai}(h:BD T w0 w (x.oK s P (.slice a (x.cos.length+1) c) (.slice a (x.cos.length+1) c) (x.cos.length+1) (bK x.cos++[.pointer (some ⟨y.c,0,none⟩)])++(x.BI.flatMap Ce.ts++x.cos.flatMap Ch.ts)++r0++y.ts)):BD T w0 w ((x.sV s P y a c).ts++r0):=by
 rw[x.Ij];exact BD.aB (a:=x.oK s P (.slice a (x.cos.length+1) c) (.slice a (x.cos.length+1) c) (x.cos.length+1) (bK x.cos++[.pointer (some ⟨y.c,0,none⟩)])++(x.BI.flatMap Ce.ts++x.cos.flatMap Ch.ts)) (b:=r0) (c:=y.ts) h
theorem jg(s:Ar)(n:Nat)(hn:0<n)(h:¬s.C.length+n<=s.most):(s.au (n:Int)).1=s:=by
 unfold Ar.au;rw[if_neg (by omega),if_pos (by omega)]
def jG(x:WS)(v er:Int)(x':WS):Prop:=
 (x.s.C.length+1<=x.s.most/\v=(x.BI.length:Int)/\er=0/\∃c M q1 q2 a cap,x'=x.sI (x.s.au 1).1 ⟨c,(x.s.C.length:Int),M,q1,q2,[],[]⟩ a cap)\/(¬x.s.C.length+1<=x.s.most/\v=0/\er=6/\x'=x)
def jE(x:WS)(v er:Int)(x':WS):Prop:=
 (x.s.C.length+2<=x.s.most/\v=(x.cos.length:Int)/\er=0/\∃c q a cap,x'=x.sV (x.s.au 2).1 x.P ⟨c,(x.s.C.length:Int),(x.s.C.length+1:Int),q,[]⟩ a cap)\/(¬x.s.C.length+2<=x.s.most/\v=0/\er=6/\x'=x)
def wB(x:WS)(b2:Nat):ai:=box b2 25 #[.pointer (some ⟨x.wb,0,none⟩)]
theorem BD.jc{T:List Nat}{w0 w:World}{x:WS}{m:List ai}{b2:Nat}{r:List ai}(h:BD T w0 w (m++(wB x b2::r))):w.cell? ⟨b2,0,none⟩=some (.pointer (some ⟨x.wb,0,none⟩))/\b2<w.heap.size:=by
 have h4:=h.box m.length (b:=b2) (t:=25) (cs:=#[.pointer (some ⟨x.wb,0,none⟩)]) (by simp[wB]);exact⟨h4.cell 0,h4.lt⟩
def JN(T:List Nat)(w:World)(x:WS)(b2:Nat)(en:Ending)(w':World):Prop:=∃(v er:Int) (x':WS),jG x v er x'/\Ends en (.int .i64 v) er (.int .i64 0)/\BD T w w' (x'.ts++[wB x b2])
def Ib(T:List Nat)(w:World)(x:WS)(b2:Nat)(en:Ending)(w':World):Prop:=∃(v er:Int) (x':WS),jE x v er x'/\Ends en (.int .i64 v) er (.int .i64 0)/\BD T w w' (x'.ts++[wB x b2])
theorem L9{G:Prop}{Sm X Y:Nat->Nat->Nat->Nat->World->Prop}(h:(∀c M q1 q2 W,Y c M q1 q2 W->Sm c M q1 q2 W->X c M q1 q2 W)->G)(k:∀c M q1 q2 W,Y c M q1 q2 W->Sm c M q1 q2 W->X c M q1 q2 W):G:=h k
theorem NR{G:Prop}{Sm X Y:Nat->Nat->World->Prop}(h:(∀c q W,Y c q W->Sm c q W->X c q W)->G)(k:∀c q W,Y c q W->Sm c q W->X c q W):G:=h k
theorem Mt(T:List Nat)(w:World)(x:WS)(b2:Nat)(h:BD T w w (x.ts++[wB x b2]))(hS:∀W,x.P W->bJ W)(hn:x.BI.length<=1000000):
  Calls Tryz.prog 79 #[.pointer (some ⟨b2,0,none⟩)] w (JN T w x b2):=by
 obtain⟨i0,hi0,CY,CU,CX⟩:=info_parts IX;have BG:=hdq h;have HS:=hdq hS;have CW:=hdq hn;clear h hS hn;obtain⟨p0,zp⟩:=BG.out.jc;obtain⟨w0',w1',w2',w3'⟩:=BG.out.Cb;have zw:=(BG.out.Cb).lt;have HN:=hdq (dG w x.wb x.ga _ _ _ BG.out.Cb);go_enter Tryz.func79,Tryz.ntmps79
 go_wp2_with fail
 refine HN.out.mono ?_;rintro e w' ⟨rfl,rfl⟩;go_wp2_with fail
 refine(require_ok _ _).mono ?_;rintro e w' ⟨rfl,rfl⟩;dsimp only;clear HN;have BZ:=hdq (Touch.refl [] w).drew;go_wp2_with fail
 by_cases hok:x.s.C.length+1<=x.s.most
 .have HC:=hdq (fun W (hW:Touch [] w W)=>(BG.out.touch hW).chNew 1 (g:=x.ga) (s:=x.s) rfl (fun W' hL=>HS.out _ (hL.still 2 rfl)) hok)
  have EC:=hdq hok;clear hok;apply L9
  case h=>
   intro HM;refine hrq (S:=fun w'=>w'.cell? ⟨b2,0,none⟩=some (.pointer (some ⟨x.wb,0,none⟩))/\w'.cell? ⟨x.wb,0,none⟩=some (.pointer (some ⟨x.ga,0,none⟩))) fun hHeld=>?_;refine tkq 0 6 ?_;refine tkq 1 7 ?_;refine tkq 2 8 ?_;refine tkq 3 9 ?_;refine tkq 5 11 ?_;refine tkq 6 12 ?_;refine tkq 7 13 ?_;refine tkq 8 14 ?_;refine tkq 9 15 ?_;refine wpAnyH_ready (rs:=[4,10]) (by kernel_rfl) (by simp) ?_;refine AllReadyH.cons rfl (fun K hK=>?_) (AllReadyH.cons rfl (fun K hK=>?_) AllReadyH.nil)
   .clear hHeld
    go_simp;refine kpq hK.out fun hHeld=>?_;clear hK K;refine rdq 10 rfl fun K hK=>?_;go_simp;refine(HC.out _ BZ.out).mono ?_;rintro en w2 ⟨c,M,q1,q2,rfl,hL⟩;have HL2:Hid (BD T w w2 ({x with s:=(x.s.au 1).1}.ts++(wB x b2::gB c (x.s.C.length:Int) M q1 q2 [] []))):=by
     rw[show((x.ts++[wB x b2]).set 1 (arena x.ga (x.s.au 1).1))++gB c (x.s.C.length:Int) M q1 q2 [] []={x with s:=(x.s.au 1).1}.ts++(wB x b2::gB c (x.s.C.length:Int) M q1 q2 [] []) from by simp[WS.ts,WS.head]]at hL;exact hL
    clear hL hHeld;obtain⟨p0,zp⟩:=HL2.out.jc;obtain⟨w0',w1',w2',w3'⟩:=HL2.out.Cb;have zw:=(HL2.out.Cb).lt;go_simp;refine kpq hK.out fun hHeld=>?_;clear hK K;refine tkq 11 17 ?_;refine tkq 12 18 ?_;refine rdq 13 rfl fun K hK=>?_;go_simp;refine(lI _ _).mono ?_;rintro en w3 ⟨rfl,rfl⟩;clear hHeld;go_simp;refine kpq hK.out fun hHeld=>?_;clear hK K;refine rdq 14 rfl fun K hK=>?_;go_simp;clear hHeld;go_simp;refine kpq hK.out fun hHeld=>?_;clear hK K;exact HM c M q1 q2 w2 HL2 hHeld
   .go_simp
    refine(HC.out _ BZ.out).mono ?_;rintro en w2 ⟨c,M,q1,q2,rfl,hL⟩;have HL2:Hid (BD T w w2 ({x with s:=(x.s.au 1).1}.ts++(wB x b2::gB c (x.s.C.length:Int) M q1 q2 [] []))):=by
     rw[show((x.ts++[wB x b2]).set 1 (arena x.ga (x.s.au 1).1))++gB c (x.s.C.length:Int) M q1 q2 [] []={x with s:=(x.s.au 1).1}.ts++(wB x b2::gB c (x.s.C.length:Int) M q1 q2 [] []) from by simp[WS.ts,WS.head]]at hL;exact hL
    clear hL hHeld;obtain⟨p0,zp⟩:=HL2.out.jc;obtain⟨w0',w1',w2',w3'⟩:=HL2.out.Cb;have zw:=(HL2.out.Cb).lt;go_simp;refine kpq hK.out fun hHeld=>?_;clear hK K;refine tkq 11 17 ?_;refine tkq 12 18 ?_;refine wpAnyH_ready (rs:=[4,13]) (by kernel_rfl) (by simp) ?_;refine AllReadyH.cons rfl (fun K hK=>?_) (AllReadyH.cons rfl (fun K hK=>?_) AllReadyH.nil)
    .clear hHeld
     go_simp;refine kpq hK.out fun hHeld=>?_;clear hK K;refine rdq 13 rfl fun K hK=>?_;go_simp;refine(lI _ _).mono ?_;rintro en w3 ⟨rfl,rfl⟩;clear hHeld;go_simp;refine kpq hK.out fun hHeld=>?_;clear hK K;refine rdq 14 rfl fun K hK=>?_;go_simp;clear hHeld;go_simp;refine kpq hK.out fun hHeld=>?_;clear hK K;exact HM c M q1 q2 w2 HL2 hHeld
    .go_simp
     refine(lI _ _).mono ?_;rintro en w3 ⟨rfl,rfl⟩;clear hHeld;go_simp;refine kpq hK.out fun hHeld=>?_;clear hK K;refine wpAnyH_ready (rs:=[4,14]) (by kernel_rfl) (by simp) ?_;refine AllReadyH.cons rfl (fun K hK=>?_) (AllReadyH.cons rfl (fun K hK=>?_) AllReadyH.nil)
     .clear hHeld
      go_simp;refine kpq hK.out fun hHeld=>?_;clear hK K;refine rdq 14 rfl fun K hK=>?_;go_simp;clear hHeld;go_simp;refine kpq hK.out fun hHeld=>?_;clear hK K;exact HM c M q1 q2 w2 HL2 hHeld
     .clear hHeld
      go_simp;refine kpq hK.out fun hHeld=>?_;clear hK K;refine rdq 4 rfl fun K hK=>?_;go_simp;clear hHeld;go_simp;refine kpq hK.out fun hHeld=>?_;clear hK K;exact HM c M q1 q2 w2 HL2 hHeld
  case k=>
   intro c M q1 q2 w2 HL2 hHeld;obtain⟨p0,zp⟩:=HL2.out.jc;obtain⟨w0',w1',w2',w3'⟩:=HL2.out.Cb;have zw:=(HL2.out.Cb).lt;have BF:=hdq (HL2.out.alloc 118 #[.pointer (some ⟨c,0,none⟩)]);have HTX:Hid (Touch [] w2 (w2.alloc (.cells #[.pointer (some ⟨c,0,none⟩)] 118))):=(Touch.refl [] w2).alloc _;refine rdq 15 rfl fun K hK=>?_;refine aD _ (by rfl) (.tmp 10) (.tmp 20) 83 (by rfl) 118 i0 _ 1 8 Tryz.underlying83 hi0 CY CU CX rfl (by decide) (.slice x.a1 x.BI.length x.c1) x.BI.length (bP x.BI) (by rfl) (BF.out.aZ 3 rfl) (some ⟨w2.heap.size,0,none⟩) 1 1 [.pointer (some ⟨c,0,none⟩)] (by rfl) rfl (.inr ⟨_,rfl,World.news_of_block (heap_alloc_new w2 _)⟩) (zI c) (by simp only[maxLen];have :=CW.out;omega) (by have :=CW.out;omega) ?_;intro aa cap w5 hown hgrow hat;have Ca:=hdq (BF.out.bG 3 rfl hgrow hown hat);clear hown hgrow hat BF HL2 HTX;clear p0 zp w0' w1' w2' w3' zw hHeld;have Db:Hid (BD T w w5 ((x.oq (x.s.au 1).1 (.slice x.a1 x.BI.length x.c1) (.slice aa (x.BI.length+1) cap) (x.BI.length+1) (bP x.BI++[.pointer (some ⟨c,0,none⟩)])++(x.BI.flatMap Ce.ts++x.cos.flatMap Ch.ts))++(wB x b2::(gB c (x.s.C.length:Int) M q1 q2 [] []++[box w2.heap.size 118 #[.pointer (some ⟨c,0,none⟩)]])))):=by
    exact hdq (by simpa[WS.ts,WS.head,WS.oq,WS.oK,wB]using Ca.out)
   clear Ca;obtain⟨p0,zp⟩:=Db.out.jc;obtain⟨w0',w1',w2',w3',GU,GX,f2',f3',zw,_,_⟩:=Db.out.c4 0 rfl;refine kpq hK.out fun hHeld=>?_;clear hK K;refine tkq 16 22 ?_;refine tkq 17 23 ?_;have C8:Hid (BD T w (w5.setCell ⟨x.wb,1,none⟩ (.slice aa (x.BI.length+1) cap)) ((x.oq (x.s.au 1).1 (.slice aa (x.BI.length+1) cap) (.slice aa (x.BI.length+1) cap) (x.BI.length+1) (bP x.BI++[.pointer (some ⟨c,0,none⟩)])++(x.BI.flatMap Ce.ts++x.cos.flatMap Ch.ts))++(wB x b2::(gB c (x.s.C.length:Int) M q1 q2 [] []++[box w2.heap.size 118 #[.pointer (some ⟨c,0,none⟩)]])))):=Db.out.set 0 rfl 1 (.slice aa (x.BI.length+1) cap);obtain⟨p07,_⟩:=C8.out.jc;obtain⟨w07,_⟩:=C8.out.c4 0 rfl;refine rdq 18 rfl fun K hK=>?_;go_simp;refine hK.out _ _ ⟨p07,w07⟩ (fun hHeld=>?_);clear hK K p07 w07;(try simp only[Act.put,sAq,sZq,sSq])
   refine dxq C8 fun w6 EX=>?_;clear C8 Db GU GX f2' f3';clear p0 zp w0' w1' w2' w3' zw hHeld;obtain⟨p0,zp⟩:=EX.out.jc;obtain⟨w0',w1',w2',w3',GU,GX,f2',f3',zw,_,_⟩:=EX.out.c4 0 rfl;go_wp2;go_ret
   refine⟨(x.BI.length:Int),0,_,.inl ⟨EC.out,rfl,rfl,c,M,q1,q2,aa,cap,rfl⟩,.inl ⟨rfl,?_⟩,?_⟩
   .have hw:wrap64 (x.BI.length:Int)=(x.BI.length:Int):=by have :=CW.out;unfold wrap64;omega
    simp[hw]
   .have h:=EX.out
    rw[<-List.cons_append,<-List.append_assoc]at h;exact BD.joinCh (r0:=[wB x b2]) (y:=⟨c,(x.s.C.length:Int),M,q1,q2,[],[]⟩) (by simpa[Ce.ts,Ch.ts]using h.aF)
 .have HC:=hdq (fun W (hW:Touch [] w W)=>(BG.out.touch hW).xA 1 (g:=x.ga) (s:=x.s) rfl hok)
  have EC:=hdq hok;clear hok;refine hrq (S:=fun w'=>w'.cell? ⟨b2,0,none⟩=some (.pointer (some ⟨x.wb,0,none⟩))/\w'.cell? ⟨x.wb,0,none⟩=some (.pointer (some ⟨x.ga,0,none⟩))) fun hHeld=>?_;refine tkq 0 6 ?_;refine tkq 1 7 ?_;refine tkq 2 8 ?_;refine tkq 3 9 ?_;refine tkq 5 11 ?_;refine tkq 6 12 ?_;refine tkq 7 13 ?_;refine tkq 8 14 ?_;refine tkq 9 15 ?_;refine wpAnyH_ready (rs:=[4,10]) (by kernel_rfl) (by simp) ?_;refine AllReadyH.cons rfl (fun K hK=>?_) (AllReadyH.cons rfl (fun K hK=>?_) AllReadyH.nil)
  .clear hHeld
   go_simp;refine kpq hK.out fun hHeld=>?_;clear hK K;refine rdq 10 rfl fun K hK=>?_;go_simp;refine(HC.out _ BZ.out).mono ?_;rintro en w2 ⟨rfl,hL⟩;have HL2:Hid (BD T w w2 (x.ts++[wB x b2])):=by
    rw[show(x.s.au 1).1=x.s from jg x.s 1 (by decide) EC.out]at hL;exact hL
   clear hL HC BZ;clear p0 zp w0' w1' w2' w3' zw hHeld;obtain⟨p0,zp⟩:=HL2.out.jc;obtain⟨w0',w1',w2',w3'⟩:=HL2.out.Cb;have zw:=(HL2.out.Cb).lt;go_simp;refine kpq hK.out fun hHeld=>?_;clear hK K;refine tkq 11 17 ?_;refine tkq 12 18 ?_;refine rdq 13 rfl fun K hK=>?_;go_simp;refine(kg _ _ 6 (by decide)).mono ?_;rintro en w3 ⟨rfl,rfl⟩;dsimp only;exact⟨rfl,0,6,x,.inr ⟨EC.out,rfl,rfl,rfl⟩,.inr ⟨rfl,rfl⟩,HL2.out⟩
  .go_simp
   refine(HC.out _ BZ.out).mono ?_;rintro en w2 ⟨rfl,hL⟩;have HL2:Hid (BD T w w2 (x.ts++[wB x b2])):=by
    rw[show(x.s.au 1).1=x.s from jg x.s 1 (by decide) EC.out]at hL;exact hL
   clear hL HC BZ;clear p0 zp w0' w1' w2' w3' zw hHeld;obtain⟨p0,zp⟩:=HL2.out.jc;obtain⟨w0',w1',w2',w3'⟩:=HL2.out.Cb;have zw:=(HL2.out.Cb).lt;go_simp;refine kpq hK.out fun hHeld=>?_;clear hK K;refine tkq 11 17 ?_;refine tkq 12 18 ?_;refine wpAnyH_ready (rs:=[4,13]) (by kernel_rfl) (by simp) ?_;refine AllReadyH.cons rfl (fun K hK=>?_) (AllReadyH.cons rfl (fun K hK=>?_) AllReadyH.nil)
   .clear hHeld
    go_simp;refine kpq hK.out fun hHeld=>?_;clear hK K;refine rdq 13 rfl fun K hK=>?_;go_simp;refine(kg _ _ 6 (by decide)).mono ?_;rintro en w3 ⟨rfl,rfl⟩;dsimp only;exact⟨rfl,0,6,x,.inr ⟨EC.out,rfl,rfl,rfl⟩,.inr ⟨rfl,rfl⟩,HL2.out⟩
   .go_simp
    refine(kg _ _ 6 (by decide)).mono ?_;rintro en w3 ⟨rfl,rfl⟩;dsimp only;exact⟨rfl,0,6,x,.inr ⟨EC.out,rfl,rfl,rfl⟩,.inr ⟨rfl,rfl⟩,HL2.out⟩
theorem NZ(T:List Nat)(w:World)(x:WS)(b2:Nat)(h:BD T w w (x.ts++[wB x b2]))(hn:x.cos.length<=1000000):
  Calls Tryz.prog 83 #[.pointer (some ⟨b2,0,none⟩)] w (Ib T w x b2):=by
 obtain⟨i0,hi0,CY,CU,CX⟩:=info_parts Jo;have BG:=hdq h;have CW:=hdq hn;clear h hn;obtain⟨p0,zp⟩:=BG.out.jc;obtain⟨w0',w1',w2',w3'⟩:=BG.out.Cb;have zw:=(BG.out.Cb).lt;have HN:=hdq (dG w x.wb x.ga _ _ _ BG.out.Cb);go_enter Tryz.func83,Tryz.ntmps83
 go_wp2_with fail
 refine HN.out.mono ?_;rintro e w' ⟨rfl,rfl⟩;go_wp2_with fail
 refine(require_ok _ _).mono ?_;rintro e w' ⟨rfl,rfl⟩;dsimp only;clear HN;have BZ:=hdq (Touch.refl [] w).drew;go_wp2_with fail
 by_cases hok:x.s.C.length+2<=x.s.most
 .have HC:=hdq (fun W (hW:Touch [] w W)=>(BG.out.touch hW).cNew 1 (g:=x.ga) (s:=x.s) rfl hok)
  have EC:=hdq hok;clear hok;apply NR
  case h=>
   intro HM;refine hrq (S:=fun w'=>w'.cell? ⟨b2,0,none⟩=some (.pointer (some ⟨x.wb,0,none⟩))/\w'.cell? ⟨x.wb,0,none⟩=some (.pointer (some ⟨x.ga,0,none⟩))) fun hHeld=>?_;refine tkq 0 6 ?_;refine tkq 1 7 ?_;refine tkq 2 8 ?_;refine tkq 3 9 ?_;refine tkq 5 11 ?_;refine tkq 6 12 ?_;refine tkq 7 13 ?_;refine tkq 8 14 ?_;refine tkq 9 15 ?_;refine wpAnyH_ready (rs:=[4,10]) (by kernel_rfl) (by simp) ?_;refine AllReadyH.cons rfl (fun K hK=>?_) (AllReadyH.cons rfl (fun K hK=>?_) AllReadyH.nil)
   .clear hHeld
    go_simp;refine kpq hK.out fun hHeld=>?_;clear hK K;refine rdq 10 rfl fun K hK=>?_;go_simp;refine(HC.out _ BZ.out).mono ?_;rintro en w2 ⟨q,c,rfl,hL⟩;have HL2:Hid (BD T w w2 ({x with s:=(x.s.au 2).1}.ts++(wB x b2::[box c 211 #[.int .i64 (x.s.C.length:Int),.int .i64 (x.s.C.length+1:Int),.pointer (some ⟨q,0,none⟩)],aQ q []]))):=by
     have h2:=BD.aB (a:=(x.ts++[wB x b2]).set 1 (arena x.ga (x.s.au 2).1)) (b:=[aQ q [],bS []]) (c:=[box c 211 #[.int .i64 (x.s.C.length:Int),.int .i64 (x.s.C.length+1:Int),.pointer (some ⟨q,0,none⟩)]]) (by simpa only[List.append_assoc,List.cons_append,List.nil_append]using hL);rw[show((x.ts++[wB x b2]).set 1 (arena x.ga (x.s.au 2).1))++[box c 211 #[.int .i64 (x.s.C.length:Int),.int .i64 (x.s.C.length+1:Int),.pointer (some ⟨q,0,none⟩)]]++[aQ q [],bS []]=({x with s:=(x.s.au 2).1}.ts++(wB x b2::[box c 211 #[.int .i64 (x.s.C.length:Int),.int .i64 (x.s.C.length+1:Int),.pointer (some ⟨q,0,none⟩)],aQ q []]))++[bS []] from by simp[WS.ts,WS.head]]at h2;exact h2.aF
    clear hL hHeld;obtain⟨p0,zp⟩:=HL2.out.jc;obtain⟨w0',w1',w2',w3'⟩:=HL2.out.Cb;have zw:=(HL2.out.Cb).lt;go_simp;refine kpq hK.out fun hHeld=>?_;clear hK K;refine tkq 11 17 ?_;refine tkq 12 18 ?_;refine rdq 13 rfl fun K hK=>?_;go_simp;refine(lm _ _).mono ?_;rintro en w3 ⟨rfl,rfl⟩;clear hHeld;go_simp;refine kpq hK.out fun hHeld=>?_;clear hK K;refine rdq 14 rfl fun K hK=>?_;go_simp;clear hHeld;go_simp;refine kpq hK.out fun hHeld=>?_;clear hK K;exact HM c q w2 HL2 hHeld
   .go_simp
    refine(HC.out _ BZ.out).mono ?_;rintro en w2 ⟨q,c,rfl,hL⟩;have HL2:Hid (BD T w w2 ({x with s:=(x.s.au 2).1}.ts++(wB x b2::[box c 211 #[.int .i64 (x.s.C.length:Int),.int .i64 (x.s.C.length+1:Int),.pointer (some ⟨q,0,none⟩)],aQ q []]))):=by
     have h2:=BD.aB (a:=(x.ts++[wB x b2]).set 1 (arena x.ga (x.s.au 2).1)) (b:=[aQ q [],bS []]) (c:=[box c 211 #[.int .i64 (x.s.C.length:Int),.int .i64 (x.s.C.length+1:Int),.pointer (some ⟨q,0,none⟩)]]) (by simpa only[List.append_assoc,List.cons_append,List.nil_append]using hL);rw[show((x.ts++[wB x b2]).set 1 (arena x.ga (x.s.au 2).1))++[box c 211 #[.int .i64 (x.s.C.length:Int),.int .i64 (x.s.C.length+1:Int),.pointer (some ⟨q,0,none⟩)]]++[aQ q [],bS []]=({x with s:=(x.s.au 2).1}.ts++(wB x b2::[box c 211 #[.int .i64 (x.s.C.length:Int),.int .i64 (x.s.C.length+1:Int),.pointer (some ⟨q,0,none⟩)],aQ q []]))++[bS []] from by simp[WS.ts,WS.head]]at h2;exact h2.aF
    clear hL hHeld;obtain⟨p0,zp⟩:=HL2.out.jc;obtain⟨w0',w1',w2',w3'⟩:=HL2.out.Cb;have zw:=(HL2.out.Cb).lt;go_simp;refine kpq hK.out fun hHeld=>?_;clear hK K;refine tkq 11 17 ?_;refine tkq 12 18 ?_;refine wpAnyH_ready (rs:=[4,13]) (by kernel_rfl) (by simp) ?_;refine AllReadyH.cons rfl (fun K hK=>?_) (AllReadyH.cons rfl (fun K hK=>?_) AllReadyH.nil)
    .clear hHeld
     go_simp;refine kpq hK.out fun hHeld=>?_;clear hK K;refine rdq 13 rfl fun K hK=>?_;go_simp;refine(lm _ _).mono ?_;rintro en w3 ⟨rfl,rfl⟩;clear hHeld;go_simp;refine kpq hK.out fun hHeld=>?_;clear hK K;refine rdq 14 rfl fun K hK=>?_;go_simp;clear hHeld;go_simp;refine kpq hK.out fun hHeld=>?_;clear hK K;exact HM c q w2 HL2 hHeld
    .go_simp
     refine(lm _ _).mono ?_;rintro en w3 ⟨rfl,rfl⟩;clear hHeld;go_simp;refine kpq hK.out fun hHeld=>?_;clear hK K;refine wpAnyH_ready (rs:=[4,14]) (by kernel_rfl) (by simp) ?_;refine AllReadyH.cons rfl (fun K hK=>?_) (AllReadyH.cons rfl (fun K hK=>?_) AllReadyH.nil)
     .clear hHeld
      go_simp;refine kpq hK.out fun hHeld=>?_;clear hK K;refine rdq 14 rfl fun K hK=>?_;go_simp;clear hHeld;go_simp;refine kpq hK.out fun hHeld=>?_;clear hK K;exact HM c q w2 HL2 hHeld
     .clear hHeld
      go_simp;refine kpq hK.out fun hHeld=>?_;clear hK K;refine rdq 4 rfl fun K hK=>?_;go_simp;clear hHeld;go_simp;refine kpq hK.out fun hHeld=>?_;clear hK K;exact HM c q w2 HL2 hHeld
  case k=>
   intro c q w2 HL2 hHeld;obtain⟨p0,zp⟩:=HL2.out.jc;obtain⟨w0',w1',w2',w3'⟩:=HL2.out.Cb;have zw:=(HL2.out.Cb).lt;have BF:=hdq (HL2.out.alloc 122 #[.pointer (some ⟨c,0,none⟩)]);have HTX:Hid (Touch [] w2 (w2.alloc (.cells #[.pointer (some ⟨c,0,none⟩)] 122))):=(Touch.refl [] w2).alloc _;refine rdq 15 rfl fun K hK=>?_;refine aD _ (by rfl) (.tmp 10) (.tmp 20) 84 (by rfl) 122 i0 _ 1 8 Tryz.underlying84 hi0 CY CU CX rfl (by decide) (.slice x.a2 x.cos.length x.c2) x.cos.length (bK x.cos) (by rfl) (BF.out.aZ 4 rfl) (some ⟨w2.heap.size,0,none⟩) 1 1 [.pointer (some ⟨c,0,none⟩)] (by rfl) rfl (.inr ⟨_,rfl,World.news_of_block (heap_alloc_new w2 _)⟩) (zI c) (by simp only[maxLen];have :=CW.out;omega) (by have :=CW.out;omega) ?_;intro aa cap w5 hown hgrow hat;have Ca:=hdq (BF.out.bG 4 rfl hgrow hown hat);clear hown hgrow hat BF HL2 HTX;clear p0 zp w0' w1' w2' w3' zw hHeld;have Db:Hid (BD T w w5 ((x.oK (x.s.au 2).1 x.P (.slice x.a2 x.cos.length x.c2) (.slice aa (x.cos.length+1) cap) (x.cos.length+1) (bK x.cos++[.pointer (some ⟨c,0,none⟩)])++(x.BI.flatMap Ce.ts++x.cos.flatMap Ch.ts))++(wB x b2::([box c 211 #[.int .i64 (x.s.C.length:Int),.int .i64 (x.s.C.length+1:Int),.pointer (some ⟨q,0,none⟩)],aQ q []]++[box w2.heap.size 122 #[.pointer (some ⟨c,0,none⟩)]])))):=by
    exact hdq (by simpa[WS.ts,WS.head,WS.oq,WS.oK,wB]using Ca.out)
   clear Ca;obtain⟨p0,zp⟩:=Db.out.jc;obtain⟨w0',w1',w2',w3',GU,GX,f2',f3',zw,_,_⟩:=Db.out.c4 0 rfl;refine kpq hK.out fun hHeld=>?_;clear hK K;refine tkq 16 22 ?_;refine tkq 17 23 ?_;have C8:Hid (BD T w (w5.setCell ⟨x.wb,2,none⟩ (.slice aa (x.cos.length+1) cap)) ((x.oK (x.s.au 2).1 x.P (.slice aa (x.cos.length+1) cap) (.slice aa (x.cos.length+1) cap) (x.cos.length+1) (bK x.cos++[.pointer (some ⟨c,0,none⟩)])++(x.BI.flatMap Ce.ts++x.cos.flatMap Ch.ts))++(wB x b2::([box c 211 #[.int .i64 (x.s.C.length:Int),.int .i64 (x.s.C.length+1:Int),.pointer (some ⟨q,0,none⟩)],aQ q []]++[box w2.heap.size 122 #[.pointer (some ⟨c,0,none⟩)]])))):=Db.out.set 0 rfl 2 (.slice aa (x.cos.length+1) cap);obtain⟨p07,_⟩:=C8.out.jc;obtain⟨w07,_⟩:=C8.out.c4 0 rfl;refine rdq 18 rfl fun K hK=>?_;go_simp;refine hK.out _ _ ⟨p07,w07⟩ (fun hHeld=>?_);clear hK K p07 w07;(try simp only[Act.put,sAq,sZq,sSq])
   refine dxq C8 fun w6 EX=>?_;clear C8 Db GU GX f2' f3';clear p0 zp w0' w1' w2' w3' zw hHeld;obtain⟨p0,zp⟩:=EX.out.jc;obtain⟨w0',w1',w2',w3',GU,GX,f2',f3',zw,_,_⟩:=EX.out.c4 0 rfl;go_wp2;go_ret
   refine⟨(x.cos.length:Int),0,_,.inl ⟨EC.out,rfl,rfl,c,q,aa,cap,rfl⟩,.inl ⟨rfl,?_⟩,?_⟩
   .have hw:wrap64 (x.cos.length:Int)=(x.cos.length:Int):=by have :=CW.out;unfold wrap64;omega
    simp[hw]
   .have h:=EX.out
    rw[<-List.cons_append,<-List.append_assoc]at h;exact BD.joinCo (r0:=[wB x b2]) (y:=⟨c,(x.s.C.length:Int),(x.s.C.length+1:Int),q,[]⟩) (by simpa[Ce.ts,Ch.ts]using h.aF)
 .have HC:=hdq (fun W (hW:Touch [] w W)=>(BG.out.touch hW).Au 1 (g:=x.ga) (s:=x.s) rfl hok)
  have EC:=hdq hok;clear hok;refine hrq (S:=fun w'=>w'.cell? ⟨b2,0,none⟩=some (.pointer (some ⟨x.wb,0,none⟩))/\w'.cell? ⟨x.wb,0,none⟩=some (.pointer (some ⟨x.ga,0,none⟩))) fun hHeld=>?_;refine tkq 0 6 ?_;refine tkq 1 7 ?_;refine tkq 2 8 ?_;refine tkq 3 9 ?_;refine tkq 5 11 ?_;refine tkq 6 12 ?_;refine tkq 7 13 ?_;refine tkq 8 14 ?_;refine tkq 9 15 ?_;refine wpAnyH_ready (rs:=[4,10]) (by kernel_rfl) (by simp) ?_;refine AllReadyH.cons rfl (fun K hK=>?_) (AllReadyH.cons rfl (fun K hK=>?_) AllReadyH.nil)
  .clear hHeld
   go_simp;refine kpq hK.out fun hHeld=>?_;clear hK K;refine rdq 10 rfl fun K hK=>?_;go_simp;refine(HC.out _ BZ.out).mono ?_;rintro en w2 ⟨rfl,hL⟩;have HL2:Hid (BD T w w2 (x.ts++[wB x b2])):=by
    rw[show(x.s.au 2).1=x.s from jg x.s 2 (by decide) EC.out]at hL;exact hL
   clear hL HC BZ;clear p0 zp w0' w1' w2' w3' zw hHeld;obtain⟨p0,zp⟩:=HL2.out.jc;obtain⟨w0',w1',w2',w3'⟩:=HL2.out.Cb;have zw:=(HL2.out.Cb).lt;go_simp;refine kpq hK.out fun hHeld=>?_;clear hK K;refine tkq 11 17 ?_;refine tkq 12 18 ?_;refine rdq 13 rfl fun K hK=>?_;go_simp;refine(ku _ _ 6 (by decide)).mono ?_;rintro en w3 ⟨rfl,rfl⟩;dsimp only;exact⟨rfl,0,6,x,.inr ⟨EC.out,rfl,rfl,rfl⟩,.inr ⟨rfl,rfl⟩,HL2.out⟩
  .go_simp
   refine(HC.out _ BZ.out).mono ?_;rintro en w2 ⟨rfl,hL⟩;have HL2:Hid (BD T w w2 (x.ts++[wB x b2])):=by
    rw[show(x.s.au 2).1=x.s from jg x.s 2 (by decide) EC.out]at hL;exact hL
   clear hL HC BZ;clear p0 zp w0' w1' w2' w3' zw hHeld;obtain⟨p0,zp⟩:=HL2.out.jc;obtain⟨w0',w1',w2',w3'⟩:=HL2.out.Cb;have zw:=(HL2.out.Cb).lt;go_simp;refine kpq hK.out fun hHeld=>?_;clear hK K;refine tkq 11 17 ?_;refine tkq 12 18 ?_;refine wpAnyH_ready (rs:=[4,13]) (by kernel_rfl) (by simp) ?_;refine AllReadyH.cons rfl (fun K hK=>?_) (AllReadyH.cons rfl (fun K hK=>?_) AllReadyH.nil)
   .clear hHeld
    go_simp;refine kpq hK.out fun hHeld=>?_;clear hK K;refine rdq 13 rfl fun K hK=>?_;go_simp;refine(ku _ _ 6 (by decide)).mono ?_;rintro en w3 ⟨rfl,rfl⟩;dsimp only;exact⟨rfl,0,6,x,.inr ⟨EC.out,rfl,rfl,rfl⟩,.inr ⟨rfl,rfl⟩,HL2.out⟩
   .go_simp
    refine(ku _ _ 6 (by decide)).mono ?_;rintro en w3 ⟨rfl,rfl⟩;dsimp only;exact⟨rfl,0,6,x,.inr ⟨EC.out,rfl,rfl,rfl⟩,.inr ⟨rfl,rfl⟩,HL2.out⟩
theorem IA(T:List Nat)(w:World)(x:WS)(h:BD T w w x.ts)(hS:∀W,x.P W->bJ W)(hn:x.BI.length<=1000000):
  Calls Tryz.prog 21 #[.pointer (some ⟨x.wb,0,none⟩)] w fun e w'=>∃(v er:Int) (x':WS),e= .returned (.tuple #[.int .i64 v,.int .i64 er])/\jG x v er x'/\BD T w w' x'.ts:=by
 have Ep:= @mfq;have BG:=hdq h;clear h;go_enter Tryz.func21,Tryz.ntmps21
 go_wp2_with fail
 refine ah ?_;intro w1 hw1;have BB:=hdq (BG.out.DN hw1);generalize hb2:w.heap.size=b2 at BB|-;clear hw1 hb2 BG;refine(lH T w w1 _ _ _ (fun v er l'=>∃x',jG x v er x'/\l'=x'.ts++[wB x b2]) BB.out (enters_of Tryz.func79 (by kernel_rfl) rfl) (fun T' W hW=>?_)).mono ?_
 .refine(Mt T' W x b2 hW hS hn).mono ?_
  rintro e w' ⟨v,er,x',hx,he,hL⟩;exact⟨v,er,_,he,⟨x',hx,rfl⟩,hL⟩
 rintro e w' ⟨v,er,l',rfl,⟨x',hx,rfl⟩,hL⟩;have HL2:=hdq hL.aF;have HX:=hdq hx;clear hL BB hx;dsimp only;go_wp2;go_ret2
 exact⟨v,er,x',rfl,HX.out,HL2.out⟩
theorem Lc(T:List Nat)(w:World)(x:WS)(h:BD T w w x.ts)(hn:x.cos.length<=1000000):
  Calls Tryz.prog 22 #[.pointer (some ⟨x.wb,0,none⟩)] w fun e w'=>∃(v er:Int) (x':WS),e= .returned (.tuple #[.int .i64 v,.int .i64 er])/\jE x v er x'/\BD T w w' x'.ts:=by
 have Ep:= @mfq;have BG:=hdq h;clear h;go_enter Tryz.func22,Tryz.ntmps22
 go_wp2_with fail
 refine ah ?_;intro w1 hw1;have BB:=hdq (BG.out.DN hw1);generalize hb2:w.heap.size=b2 at BB|-;clear hw1 hb2 BG;refine(lH T w w1 _ _ _ (fun v er l'=>∃x',jE x v er x'/\l'=x'.ts++[wB x b2]) BB.out (enters_of Tryz.func83 (by kernel_rfl) rfl) (fun T' W hW=>?_)).mono ?_
 .refine(NZ T' W x b2 hW hn).mono ?_
  rintro e w' ⟨v,er,x',hx,he,hL⟩;exact⟨v,er,_,he,⟨x',hx,rfl⟩,hL⟩
 rintro e w' ⟨v,er,l',rfl,⟨x',hx,rfl⟩,hL⟩;have HL2:=hdq hL.aF;have HX:=hdq hx;clear hL BB hx;dsimp only;go_wp2;go_ret2
 exact⟨v,er,x',rfl,HX.out,HL2.out⟩
theorem uZ(l:List bL)(n j:Nat)(hn:n<l.length)(hj:j<11)(u:Value)(v':bL)(h:l[n].cells.set j u=v'.cells):(aU l).set (n*11+j) u=aU (l.set n v'):=by
 induction l generalizing n with
 |nil=>simp at hn
 |cons a l ih=>
  unfold aU at ih|-;rw[List.flatMap_cons];have hl:a.cells.length=11:=rfl;cases n with
  |zero=>
   rw[List.set_append_left _ _ (by rw[hl];omega)];simp only[sZq,List.flatMap_cons];rw[<-h];simp
  |succ n=>
   rw[List.set_append_right _ _ (by rw[hl];omega),hl,show(n+1)*11+j-11=n*11+j from by omega];simp only[sSq,List.flatMap_cons];rw[ih n (by simpa using hn) (by simpa using h)]
def WS.eP(x:WS)(n:Nat)(v:bL):WS:={x with sys:=x.sys.set n v}
section
variable {T:List Nat} {w0 w:World} {x:WS} {r0:List ai}
theorem BD.wK(h:BD T w0 w (x.ts++r0))(n:Nat)(hn:n<x.sys.length)(g:Nat)(hg:x.a3=some ⟨g,0,none⟩)(j:Nat)(hj:j<11)(u:Value)(v':bL)(hv:x.sys[n].cells.set j u=v'.cells):
  BD T w0 (w.setCell ⟨g,n*11+j,none⟩ u) ((x.eP n v').ts++r0):=by
 have h1:=h.pI 5 (e:=61) (size:=11) (g:=g) (n:=x.sys.length) (cap:=x.c3) (xs:=aU x.sys) (by rw[<-hg];rfl) (n*11+j) u;rw[uZ _ _ _ hn hj u v' hv,<-hg]at h1;rw[show(x.eP n v').ts++r0=(x.ts++r0).set 5 (aS 61 11 (.slice x.a3 x.sys.length x.c3) x.sys.length (aU (x.sys.set n v'))) from by simp[WS.eP,WS.ts,WS.head]];exact h1
theorem BD.om(h:BD T w0 w (x.ts++r0))(g:Nat)(hg:x.a3=some ⟨g,0,none⟩)(j:Nat):w.frozen? ⟨g,j,none⟩=false:=by
 have hr:=h.aZ 5 (e:=61) (size:=11) (v:= .slice x.a3 x.sys.length x.c3) (n:=x.sys.length) (xs:=aU x.sys) rfl;rw[hg]at hr;exact ji hr j
theorem BD.jA(h:BD T w0 w (x.ts++r0))(n:Nat)(hn:n<x.sys.length)(g:Nat)(hg:x.a3=some ⟨g,0,none⟩)(r:Nat)(hr:r<11):w.cell? ⟨g,n*11+r,none⟩=x.sys[n].cells[r]? :=by
 obtain⟨g4,hg4,hc⟩:=h.dU n hn;rw[hg]at hg4;injection hg4 with hg4
 injection hg4 with hg4
 subst hg4;exact hc r hr
end
def wG(x:WS)(k er:Int)(x':WS):Prop:=
 (¬(0<=k/\k<(x.sys.length:Int))/\er=4/\x'=x)\/∃(n:Nat) (hn:n<x.sys.length),k=(n:Int)/\er=0/\x'=x.eP n {x.sys[n]with parked:=false}
theorem Wake_w(T:List Nat)(w:World)(x:WS)(k:Int)(h:BD T w w x.ts)(hlen:x.sys.length<=1000000):
  Calls Tryz.prog 42 #[.pointer (some ⟨x.wb,0,none⟩),.int .i64 k] w fun e w'=>∃(er:Int) (x':WS),e= .returned (.int .i64 er)/\wG x k er x'/\BD T w w' x'.ts:=by
 have BG:Hid (BD T w w (x.ts++[])):=by rw[List.append_nil];exact h
 clear h;have HN:=hdq (dG w x.wb x.ga _ _ _ BG.out.Cb);obtain⟨w0',w1',w2',w3'⟩:=BG.out.Cb;have zw:=BG.out.Cb.lt;go_enter Tryz.func42,Tryz.ntmps42
 go_wp2_with fail
 refine HN.out.mono ?_;rintro e w' ⟨rfl,rfl⟩;clear HN;by_cases hk:0<=k/\k<(x.sys.length:Int)
 .obtain⟨n,rfl⟩:=Int.eq_ofNat_of_zero_le hk.1
  have hnk:n<x.sys.length:=by omega
  clear hk;obtain⟨g3,hg3,hx⟩:=BG.out.dU n hnk;clear hx;have f4:w.cell? ⟨g3,n*11+4,none⟩=some (.bool x.sys[n].parked):=BG.out.jA n hnk g3 hg3 4 (by omega);have z4:=BG.out.om g3 hg3 (n*11+4);have zg:g3<w.heap.size:=World.block_lt_of_cell? _ _ f4;have BB:=hdq (BG.out.wK n hnk g3 hg3 4 (by omega) (.bool false) {x.sys[n]with parked:=false} rfl);have HE:Hid (wG x (n:Int) 0 (x.eP n {x.sys[n]with parked:=false})):= .inr ⟨n,hnk,rfl,rfl,rfl⟩;generalize x.eP n {x.sys[n]with parked:=false}=x' at BB HE;generalize x.sys[n].parked=pk at f4;rw[hg3]at w3';have h1:¬((n:Int)<0):=by omega
  have h2:¬((x.sys.length:Int)<=(n:Int)):=by omega
  go_wp2;go_ret
  rw[List.append_nil]at BB;exact⟨0,x',rfl,HE.out,BB.out⟩
 .have HE:Hid (wG x k 4 x):= .inl ⟨hk,rfl,rfl⟩
  have BB:Hid (BD T w w x.ts):=by have h:=BG.out;rw[List.append_nil]at h;exact h
  generalize x.sys.length=m at w3' hk hlen;generalize x.a3=aa at w3';by_cases h1:k<0
  .go_wp2
   go_ret
   exact⟨4,x,rfl,HE.out,BB.out⟩
  .have h2:(m:Int)<=k:=by omega
   go_wp2;go_ret
   exact⟨4,x,rfl,HE.out,BB.out⟩
def kB(b:Nat)(k:Int):ai:=box b 3 #[.int .i64 k]
theorem BD.kBAt{T:List Nat}{w0 w:World}{m:List ai}{t:ai}{b:Nat}{k:Int}{r:List ai}(h:BD T w0 w (m++(t::kB b k::r))):w.cell? ⟨b,0,none⟩=some (.int .i64 k)/\b<w.heap.size:=by
 have h4:=h.box (m.length+1) (b:=b) (t:=3) (cs:=#[.int .i64 k]) (by simp[kB]);exact⟨h4.cell 0,h4.lt⟩
def jk(x:WS)(k:Int)(v:Bool)(er:Int)(x':WS):Prop:=
 (¬(0<=k/\k<(x.sys.length:Int))/\v=false/\er=4/\x'=x)\/∃(n:Nat) (hn:n<x.sys.length) (r:Nat×Nat×Ar),k=(n:Int)/\r=fT x.s x.sys[n].flag/\
  ((r.2.1≠0/\v=false/\er=(r.2.1:Int)/\x'=x.ar r.2.2)\/(r.2.1=0/\v=((r.1:Int) != 2)/\er=0/\x'=(x.ar r.2.2).eP n {x.sys[n]with parked:=((r.1:Int) != 2)}))
def Ji(T:List Nat)(w:World)(x:WS)(k:Int)(b2 b3:Nat)(en:Ending)(w':World):Prop:=∃(v:Bool) (er:Int) (x':WS),jk x k v er x'/\Ends en (.bool v) er (.bool false)/\BD T w w' (x'.ts++[wB x b2,kB b3 k])
theorem NT(T:List Nat)(w:World)(x:WS)(b2 b3:Nat)(k:Int)(h:BD T w w (x.ts++[wB x b2,kB b3 k]))(hn:x.s.L.length<1000000):
  Calls Tryz.prog 134 #[.pointer (some ⟨b2,0,none⟩),.pointer (some ⟨b3,0,none⟩)] w (Ji T w x k b2 b3):=by
 have BG:=hdq h;have HN:=hdq hn;clear h hn;obtain⟨p0,zp⟩:=BG.out.jc;obtain⟨q0,zq⟩:=BG.out.kBAt;by_cases hk:0<=k/\k<(x.sys.length:Int)
 .obtain⟨n,rfl⟩:=Int.eq_ofNat_of_zero_le hk.1
  have hnk:n<x.sys.length:=by omega
  clear hk;obtain⟨g3,hg3,hx⟩:=BG.out.dU n hnk;clear hx;have HC:=hdq (BG.out.nC n hnk g3 hg3);have HG:=hdq hg3;clear hg3;obtain⟨fl,hfl⟩:∃fl,x.sys[n].flag=fl:=⟨_,rfl⟩;have HFL:=hdq hfl;obtain⟨r,hr⟩:∃r,fT x.s fl=r:=⟨_,rfl⟩;have HR:=hdq hr;clear hfl hr;go_enter Tryz.func134,Tryz.ntmps134
  go_wp2_with fail
  refine HC.out.mono ?_;rintro e w1 ⟨rfl,ht⟩;have BB:=hdq (BG.out.touch ht);clear ht p0 zp q0 zq HC BG;obtain⟨p0,zp⟩:=BB.out.jc;obtain⟨w0',w1',w2',w3'⟩:=BB.out.Cb;have zw:=BB.out.Cb.lt;have f3:w1.cell? ⟨g3,n*11+3,none⟩=some (.int .i64 fl):=HFL.out▸BB.out.jA n hnk g3 HG.out 3 (by omega);have zg:g3<w1.heap.size:=World.block_lt_of_cell? _ _ f3;have CV:Hid (∀W,Touch [] w1 W->Calls Tryz.prog 130 #[.pointer (some ⟨x.ga,0,none⟩),.int .i64 fl] W fun e w'=>e= .returned (.tuple #[.int .i64 (r.1:Int),.int .i64 (r.2.1:Int)])/\BD T w w' ((x.ar r.2.2).ts++[wB x b2,kB b3 (n:Int)])):=fun W hW=>by
   have hCH:=(BB.out.touch hW).Ih 1 (g:=x.ga) (s:=x.s) rfl fl r.2.2 r.1 r.2.1 (by have :=HN.out;omega) (by rw[<-HR.out];rfl) (by rw[<-HR.out];rfl);simp only[WS.iy]at hCH;exact hCH
  have BZ:=hdq (Touch.refl [] w1).drew;clear w1' w2' w3';go_wp2_with fail
  refine hrq (S:=fun w'=>w'.cell? ⟨b2,0,none⟩=some (.pointer (some ⟨x.wb,0,none⟩))/\w'.cell? ⟨x.wb,0,none⟩=some (.pointer (some ⟨x.ga,0,none⟩))/\w'.cell? ⟨g3,n*11+3,none⟩=some (.int .i64 fl)) fun hHeld=>?_;refine tkq 0 8 ?_;refine tkq 1 9 ?_;refine tkq 2 10 ?_;refine tkq 3 11 ?_;refine tkq 4 12 ?_;refine tkq 5 13 ?_;refine tkq 6 14 ?_;refine tkq 7 15 ?_;refine tkq 8 16 ?_;refine rdq 9 rfl fun K hK=>?_;go_simp;refine(CV.out _ BZ.out).mono ?_;rintro en w2 ⟨rfl,hL⟩;have HL2:=hdq hL;clear hL BZ CV p0 zp w0' zw f3 zg hHeld BB;obtain⟨p0,zp⟩:=HL2.out.jc;have w0':w2.cell? ⟨x.wb,0,none⟩=some (.pointer (some ⟨x.ga,0,none⟩)):=HL2.out.Cb.1;have zw:x.wb<w2.heap.size:=HL2.out.Cb.lt;have f3:w2.cell? ⟨g3,n*11+3,none⟩=some (.int .i64 fl):=HFL.out▸HL2.out.jA n hnk g3 HG.out 3 (by omega);have zg:g3<w2.heap.size:=World.block_lt_of_cell? _ _ f3;have f4:w2.cell? ⟨g3,n*11+4,none⟩=some (.bool x.sys[n].parked):=HL2.out.jA n hnk g3 HG.out 4 (by omega);have z4:=HL2.out.om g3 HG.out (n*11+4);go_simp;refine kpq hK.out fun hHeld=>?_;clear hK K;refine tkq 10 18 ?_;refine tkq 11 19 ?_;refine rdq 12 rfl fun K hK=>?_;go_simp;by_cases h0:r.2.1=0
  .rw[h0]
   refine(jf _ _).mono ?_;rintro en w3 ⟨rfl,rfl⟩;clear hHeld;go_simp;refine kpq hK.out fun hHeld=>?_;clear hK K;refine tkq 13 4 ?_;refine dnq ?_;clear hHeld;have BF:=hdq (HL2.out.wK n hnk g3 HG.out 4 (by omega) (.bool ((r.1:Int) != 2)) {x.sys[n]with parked:=((r.1:Int) != 2)} rfl);have HE:Hid (jk x (n:Int) ((r.1:Int) != 2) 0 ((x.ar r.2.2).eP n {x.sys[n]with parked:=((r.1:Int) != 2)})):= .inr ⟨n,hnk,r,rfl,by rw[HFL.out,HR.out],.inr ⟨h0,rfl,rfl,rfl⟩⟩;generalize (x.ar r.2.2).eP n {x.sys[n]with parked:=((r.1:Int) != 2)}=x' at BF HE;generalize x.sys[n].parked=pk at f4;clear h0 HR HFL HL2;go_wp2;go_ret
   exact⟨_,0,x',HE.out,.inl ⟨rfl,rfl⟩,BF.out⟩
  .refine(iN _ _ _ (by omega)).mono ?_
   rintro e w3 ⟨rfl,rfl⟩;dsimp only;exact⟨rfl,false,(r.2.1:Int),_,.inr ⟨n,hnk,r,rfl,by rw[HFL.out,HR.out],.inl ⟨h0,rfl,rfl,rfl⟩⟩,.inr ⟨rfl,rfl⟩,HL2.out⟩
 .have E9:=hdq (BG.out.fE k hk)
  have HE:Hid (jk x k false 4 x):= .inl ⟨hk,rfl,rfl,rfl⟩;clear hk;go_enter Tryz.func134,Tryz.ntmps134
  go_wp2_with fail
  refine E9.out.mono ?_;rintro e w1 ⟨rfl,ht⟩;dsimp only;exact⟨rfl,false,4,x,HE.out,.inr ⟨rfl,rfl⟩,BG.out.touch ht⟩
theorem Jz(T:List Nat)(w:World)(x:WS)(k:Int)(h:BD T w w x.ts)(hn:x.s.L.length<1000000):
  Calls Tryz.prog 41 #[.pointer (some ⟨x.wb,0,none⟩),.int .i64 k] w fun e w'=>∃(v:Bool) (er:Int) (x':WS),e= .returned (.tuple #[.bool v,.int .i64 er])/\jk x k v er x'/\BD T w w' x'.ts:=by
 have Ep:= @mfq;have BG:=hdq h;clear h;go_enter Tryz.func41,Tryz.ntmps41
 go_wp2_with fail
 refine ah ?_;intro w1 hw1;have BB:=hdq (BG.out.DZ hw1);generalize hb3:w.heap.size+1=b3 at BB|-;generalize hb2:w.heap.size=b2 at BB|-;clear hw1 hb3 hb2 BG;refine(iK T w w1 _ _ _ (fun v er l'=>∃x',jk x k v er x'/\l'=x'.ts++[wB x b2,kB b3 k]) BB.out (enters_of Tryz.func134 (by kernel_rfl) rfl) (fun T' W hW=>?_)).mono ?_
 .refine(NT T' W x b2 b3 k hW hn).mono ?_
  rintro e w' ⟨v,er,x',hx,he,hL⟩;exact⟨v,er,_,he,⟨x',hx,rfl⟩,hL⟩
 rintro e w' ⟨v,er,l',rfl,⟨x',hx,rfl⟩,hL⟩;have HL2:=hdq hL.aF;have HX:=hdq hx;clear hL BB hx;dsimp only;go_wp2;go_ret2
 exact⟨v,er,x',rfl,HX.out,HL2.out⟩
def aG(w:World)(a:Option Addr)(size n:Nat)(cs:List Value):Prop:=
 n<=2000000/\∀i,i<n->∃b o,a=some ⟨b,o,none⟩/\b<w.heap.size/\∀j,j<size->w.cell? ⟨b,o+i*size+j,none⟩=cs[i*size+j]?
theorem aG.aW{w w':World}{a:Option Addr}{size n:Nat}{cs:List Value}(h:aG w a size n cs)(ht:Touch [] w w'):aG w' a size n cs:=by
 refine⟨h.1,fun i hi=>?_⟩;obtain⟨b,o,ha,hb,hc⟩:=h.2 i hi;have he:=ht.block b hb (by simp);refine⟨b,o,ha,Nat.lt_of_lt_of_le hb ht.size,fun j hj=>?_⟩;rw[<-hc j hj];exact World.cell?_of_block (a:=⟨b,o+i*size+j,none⟩) he
theorem gX(w:World)(a:Option Addr)(size:Nat)(cs:List Value):aG w a size 0 cs:=⟨by omega,fun i hi=>by omega⟩
theorem iY{w:World}{e size n cap:Nat}{a:Option Addr}{xs:List Value}(h:dZ w e size (.slice a n cap) n xs)(hn:n<=2000000):aG w a size n xs:=by
 refine⟨hn,fun i hi=>?_⟩;have hlen:=h.1;obtain⟨g,cap',cur,hv,hg,_⟩:=gD h (by omega);injection hv with h1 _ h3
 subst h1;refine⟨g,0,rfl,hg.lt,fun j hj=>?_⟩;have hlt:i*size+j<xs.length:=by
  rw[hlen];have :(i+1)*size<=n*size:=Nat.mul_le_mul_right _ hi;rw[Nat.succ_mul]at this;omega
 rw[Nat.zero_add,List.getElem?_eq_getElem hlt];exact eT h _ hlt
theorem rT{α:Type}(f:α->List Value)(m:Nat)(hf:∀a,(f a).length=m)(l:List α)(k:Nat)(hk:k<l.length)(r:Nat)(hr:r<m):(l.flatMap f)[k*m+r]? =(f l[k])[r]? :=by
 induction l generalizing k with
 |nil=>simp at hk
 |cons a l ih=>
  rw[List.flatMap_cons];cases k with
  |zero=>rw[List.getElem?_append_left (by rw[hf];omega)];simp
  |succ k=>
   rw[List.getElem?_append_right (by rw[hf,Nat.succ_mul];omega),hf,show(k+1)*m+r-m=k*m+r from by rw[Nat.succ_mul];omega];exact ih k (by simpa using hk)
theorem rW{α:Type}(f:α->List Value)(m:Nat)(hf:∀a,(f a).length=m)(l:List α):(l.flatMap f).length=l.length*m:=by
 induction l with
 |nil=>simp
 |cons a l ih=>simp[hf,ih,Nat.succ_mul,Nat.add_comm]
theorem aG.at{α:Type}{f:α->List Value}{m:Nat}(hf:∀a,(f a).length=m){w:World}{a:Option Addr}{l:List α}(h:aG w a m l.length (l.flatMap f))(i:Nat)(hi:i<l.length):∃b o,a=some ⟨b,o,none⟩/\b<w.heap.size/\∀j,j<m->w.cell? ⟨b,o+i*m+j,none⟩=(f l[i])[j]? :=by
 obtain⟨b,o,ha,hb,hc⟩:=h.2 i hi;exact⟨b,o,ha,hb,fun j hj=>by rw[hc j hj,rT f m hf l i hi j hj]⟩
structure MC where
 fn:Int
 a:Option Addr
 cap:Nat
 args:List MT
def MC.cells(c:MC):List Value:=[.int .i64 c.fn,.slice c.a c.args.length c.cap]
def MC.val(c:MC):Value:= .agg #[.int .i64 c.fn,.slice c.a c.args.length c.cap]
def MC.plain(c:MC):Int×List MT.PT:=(c.fn,c.args.map MT.plain)
def MC.In(w:World)(c:MC):Prop:=(c.args.length<=2000000/\MT.dK w c.a c.args)/\∀t∈c.args,t.In w/\t.nodes<=256
structure MB where
 kind:Int
 n:Int
 v:MT
 wa:Option Addr
 wc:Nat
 wraps:List MC
 na:Option Addr
 nc:Nat
 aT:List Int
def fq(k:Int):List Value:=[.int .i64 k]
def MB.cells(b:MB):List Value:=[.int .i64 b.kind,.int .i64 b.n,.int .i64 b.v.kind,.int .i64 b.v.num,.slice b.v.addr b.v.parts.length b.v.cap,.slice b.wa b.wraps.length b.wc,.slice b.na b.aT.length b.nc]
def MB.val(b:MB):Value:= .agg #[.int .i64 b.kind,.int .i64 b.n,.int .i64 b.v.kind,.int .i64 b.v.num,.slice b.v.addr b.v.parts.length b.v.cap,.slice b.wa b.wraps.length b.wc,.slice b.na b.aT.length b.nc]
def MB.plain(b:MB):Int×Int×MT.PT×List (Int×List MT.PT)×List Int:=(b.kind,b.n,b.v.plain,b.wraps.map MC.plain,b.aT)
def MB.In(w:World)(b:MB):Prop:=(b.v.In w/\b.v.nodes<=256)/\(aG w b.wa 2 b.wraps.length (b.wraps.flatMap MC.cells)/\∀c∈b.wraps,c.In w)/\aG w b.na 1 b.aT.length (b.aT.flatMap fq)
structure MS where
 thread:Int
 ba:Option Addr
 bc:Nat
 bases:List MB
 ca:Option Addr
 cc:Nat
 conds:List Int
 flag:Int
 parked:Bool
 done:Bool
 branch:Int
 v:MT
 partner:Int
def MS.raw(s:MS):bL:={thread:=s.thread,jr:=s.ba,gm:=s.bases.length,jv:=s.bc,ko:=s.ca,kz:=s.conds.length,jR:=s.cc,flag:=s.flag,parked:=s.parked,done:=s.done,branch:=s.branch,kind:=s.v.kind,num:=s.v.num,lA:=s.v.addr,lN:=s.v.parts.length,lC:=s.v.cap,partner:=s.partner}
def MS.plain(s:MS):Int×List (Int×Int×MT.PT×List (Int×List MT.PT)×List Int)×List Int×Int×Bool×Bool×Int×MT.PT×Int:=(s.thread,s.bases.map MB.plain,s.conds,s.flag,s.parked,s.done,s.branch,s.v.plain,s.partner)
def MS.In(w:World)(s:MS):Prop:=(s.v.In w/\s.v.nodes<=256)/\(aG w s.ba 7 s.bases.length (s.bases.flatMap MB.cells)/\∀b∈s.bases,b.In w)/\aG w s.ca 1 s.conds.length (s.conds.flatMap fq)
section
variable {w w':World}
theorem MT.dK.aW{a:Option Addr}{l:List MT}(h:MT.dK w a l)(ht:Touch [] w w'):MT.dK w' a l:=by
 refine fun i hi=>?_;obtain⟨b,o,ha,hb,hc⟩:=h i hi;have he:=ht.block b hb (by simp);refine⟨b,o,ha,Nat.lt_of_lt_of_le hb ht.size,fun j hj=>?_⟩;rw[<-hc j hj];exact World.cell?_of_block (a:=⟨b,o+i*3+j,none⟩) he
theorem MC.In.aW{c:MC}(h:c.In w)(ht:Touch [] w w'):c.In w':=⟨⟨h.1.1,h.1.2.aW ht⟩,fun t hm=>⟨(h.2 t hm).1.aO ht,(h.2 t hm).2⟩⟩
theorem MB.In.aW{b:MB}(h:b.In w)(ht:Touch [] w w'):b.In w':=⟨⟨h.1.1.aO ht,h.1.2⟩,⟨h.2.1.1.aW ht,fun c hm=>(h.2.1.2 c hm).aW ht⟩,h.2.2.aW ht⟩
theorem MS.In.aW{s:MS}(h:s.In w)(ht:Touch [] w w'):s.In w':=⟨⟨h.1.1.aO ht,h.1.2⟩,⟨h.2.1.1.aW ht,fun b hm=>(h.2.1.2 b hm).aW ht⟩,h.2.2.aW ht⟩
theorem MT.JW{a:Option Addr}{l:List MT}(h:MT.dK w a l)(hn:l.length<=2000000):aG w a 3 l.length (bg l):=by
 refine⟨hn,fun i hi=>?_⟩;obtain⟨b,o,ha,hb,hc⟩:=h i hi;exact⟨b,o,ha,hb,fun j hj=>by rw[hc j hj,fI l i hi j hj]⟩
theorem MT.uJ{a:Option Addr}{l:List MT}(h:aG w a 3 l.length (bg l)):MT.dK w a l:=by
 refine fun i hi=>?_;obtain⟨b,o,ha,hb,hc⟩:=h.2 i hi;exact⟨b,o,ha,hb,fun j hj=>by rw[hc j hj,fI l i hi j hj]⟩
end
theorem BD.lZ{β:Type}{T:List Nat}{w0 w:World}{m:List ai}{P:World->Prop}(p:β->World->Prop)(j:Nat)(d:List β)(hj:m[j]? =some (aA P))(h:BD T w0 w (m++d.flatMap fun b=>[aA (p b)])):
  BD T w0 w (m.set j (aA fun W=>P W/\∀b∈d,p b W)):=by
 obtain⟨n,hn⟩:∃n,d.length=n:=⟨_,rfl⟩;induction n generalizing d m P with
 |zero=>
  obtain rfl:=List.eq_nil_of_length_eq_zero hn;simp only[List.flatMap_nil,List.append_nil]at h;exact h.weaken j hj (fun W hW=>⟨hW,by simp⟩)
 |succ n ih=>
  have hlt:=(List.getElem?_eq_some_iff.1 hj).1;have hne:d≠[]:=by intro hc;simp[hc]at hn
  obtain⟨d',b,rfl⟩:∃d' b,d=d'++[b]:=⟨d.dropLast,d.getLast hne,(List.dropLast_concat_getLast hne).symm⟩;simp only[List.length_append,List.length_cons,List.length_nil,Nat.add_right_cancel_iff]at hn;simp only[List.flatMap_append,List.flatMap_cons,List.flatMap_nil,List.append_nil]at h;rw[<-List.append_assoc]at h;have hj':(m++d'.flatMap fun b=>[aA (p b)])[j]? =some (aA P):=by rw[List.getElem?_append_left hlt];exact hj
  have h1:=h.settle j hj' (Q:=fun W=>P W/\p b W) (fun W f hP hb=>⟨hP,hb.2 W (fun _ _=>rfl)⟩);rw[List.set_append_left _ _ hlt]at h1;have hj2:(m.set j (aA fun W=>P W/\p b W))[j]? =some (aA fun W=>P W/\p b W):=List.getElem?_set_self hlt;have h2:=ih d' hj2 h1 hn;rw[List.set_set]at h2;have h3:=h2.weaken j (List.getElem?_set_self hlt) (Q:=fun W=>P W/\∀c∈d'++[b],p c W) (fun W hW=>⟨hW.1.1,fun c hc=>by
   rcases List.mem_append.1 hc with h|h
   .exact hW.2 c h
   .simp at h;subst h;exact hW.1.2⟩)
  rwa[List.set_set]at h3
def MS.cells(s:MS):List Value:=[.int .i64 s.thread,.slice s.ba s.bases.length s.bc,.slice s.ca s.conds.length s.cc,.int .i64 s.flag,.bool s.parked,.bool s.done,.int .i64 s.branch,.int .i64 s.v.kind,.int .i64 s.v.num,.slice s.v.addr s.v.parts.length s.v.cap,.int .i64 s.partner]
def MS.val(s:MS):Value:= .agg #[.int .i64 s.thread,.slice s.ba s.bases.length s.bc,.slice s.ca s.conds.length s.cc,.int .i64 s.flag,.bool s.parked,.bool s.done,.int .i64 s.branch,.int .i64 s.v.kind,.int .i64 s.v.num,.slice s.v.addr s.v.parts.length s.v.cap,.int .i64 s.partner]
def Ce.cells(x:Ce):List Value:=[.pointer (some ⟨x.c,0,none⟩)]
def Ch.cells(x:Ch):List Value:=[.pointer (some ⟨x.c,0,none⟩)]
def Ce.val(x:Ce):Value:= .pointer (some ⟨x.c,0,none⟩)
def Ch.val(x:Ch):Value:= .pointer (some ⟨x.c,0,none⟩)
def gG{β γ:Type}(T:List Nat)(w:World)(m:List ai)(e size:Nat)(f:β->List Value)(things:β->List ai)(p:β->γ)(l:List β)(en:Ending)(w':World):Prop:=
 ∃(a:Option Addr) (cap:Nat) (ys:List β),en= .returned (.slice a l.length cap)/\ys.map p=l.map p/\BD T w w' (m++(aS e size (.slice a l.length cap) l.length (ys.flatMap f)::ys.flatMap things))
theorem BD.nE{T:List Nat}{w0 w w':World}{m r:List ai}{e size n n':Nat}{v v':Value}{xs xs':List Value}(h:BD T w0 w (m++(aS e size v n xs::r)))(hg:w.grownBy w' v.ownBlock)(ho:dZ w' e size v' n' xs')(hat:v'.ownBlock=v.ownBlock\/v'.ownBlock=some w.heap.size):BD T w0 w' (m++(aS e size v' n' xs'::r)):=by
 have h1:=h.bG m.length (e:=e) (size:=size) (n:=n) (v:=v) (xs:=xs) (by simp) hg ho hat;simpa using h1
theorem BD.Ay{T:List Nat}{w0 w:World}{m r:List ai}{e size n:Nat}{v:Value}{xs:List Value}(h:BD T w0 w (m++(aS e size v n xs::r))):dZ w e size v n xs:=h.aZ m.length (by simp)
theorem jJ{β γ:Type}(p:β->γ)(l:List β)(j:Nat)(hj:j<l.length):(l.take (j+1)).map p=(l.take j).map p++[p l[j]]:=by
 rw[List.take_add_one,List.getElem?_eq_getElem hj,Option.toList_some,List.map_append];rfl
theorem Aw:(Tryz.prog.info? 45).map (fun i=>(i.zero,i.size,i.bytes))=some (some (.agg #[.int .i64 0,.int .i64 0,.slice none 0 0]),3,40):=by kernel_rfl
theorem K8(y:MT):∀u∈y.cells,u.oneCell'=true:=by simp[MT.cells,MT.sl,Value.oneCell']
theorem yD{γ:Type}(p:MT->γ)(things:MT->List ai)(T:List Nat)(w:World)(m:List ai)(a:Option Addr)(cap:Nat)(l:List MT)(D:FuncId)(h:BD T w w m)(hrow:∀W r,BD T w W (m++r)->aG W a 3 l.length (l.flatMap MT.cells))(hen:∀args w,(callFunc D args).run Tryz.prog w= .ok (.enter D args) w)(hone:∀W r i (hi:i<l.length),BD T w W (m++r)->Calls Tryz.prog D #[l[i].val] W fun en W'=>∃y,en= .returned y.val/\p y=p l[i]/\BD T w W' (m++(r++things y)))(hlen:l.length<=2000000):
  Calls Tryz.prog 223 #[.slice a l.length cap,.func (.func D) #[] #[]] w (gG T w m 45 3 MT.cells things p l):=by
 have HRW:=hdq hrow;have D8:=hdq hone;obtain⟨i0,hi0,CY,CU,CX⟩:=info_parts Aw;have BB:=hdq (h.gK 45 3);clear h hrow hone;go_enter Tryz.func223,Tryz.ntmps223
 go_wp2_with fail
 go_loopw [5,10] (fun x i wr=>∃(j:Nat) (ys:List MT) (ra:Option Addr) (rc:Nat),j<=l.length/\i= .int .i64 (j:Int)/\x= .slice ra j rc/\ys.length=j/\Hid (ys.map p=(l.take j).map p)/\
  Hid (BD T w wr (m++(aS 45 3 (.slice ra j rc) j (ys.flatMap MT.cells)::ys.flatMap things)))) (fun _ i _=>l.length-(intOf i).toNat)
 case atStart=>exact⟨0,[],none,0,Nat.zero_le _,rfl,rfl,rfl,by unfold Hid;simp,BB⟩
 case round=>
  obtain⟨j,ys,ra,rc,hj,rfl,rfl,hyl,HY,HK⟩:=hrel;clear BB;have hj0:(0:Int)<=(j:Int):=by omega
  by_cases hjl:j<l.length
  .have Cc:(j:Int)<(l.length:Int):=by omega
   obtain⟨b,o,hba,hb,hc⟩:=aG.at (f:=MT.cells) (fun _=>rfl) (HRW.out wr _ HK.out) j hjl;have HO:=hdq (fun W r=>D8.out W r j hjl);have Eh:=hdq (jJ p l j hjl);obtain⟨u,hu⟩:∃u,l[j]=u:=⟨_,rfl⟩;have q0:wr.cell? ⟨b,o+j*3,none⟩=some (.int .i64 u.kind):=(hc 0 (by omega)).trans (by rw[hu];rfl);have q1:wr.cell? ⟨b,o+j*3+1,none⟩=some (.int .i64 u.num):=(hc 1 (by omega)).trans (by rw[hu];rfl);have q2:wr.cell? ⟨b,o+j*3+2,none⟩=some (.slice u.addr u.parts.length u.cap):=(hc 2 (by omega)).trans (by rw[hu];rfl);rw[hu]at Eh;have Fs:Hid (∀W r,BD T w W (m++r)->Calls Tryz.prog D #[.agg #[.int .i64 u.kind,.int .i64 u.num,.slice u.addr u.parts.length u.cap]] W fun en W'=>∃y:MT,en= .returned (y.val)/\p y=p u/\BD T w W' (m++(r++things y))):=by
    have h:=HO.out;rw[hu]at h;exact h
   clear HO hc;rw[hba];clear hba hu D8 HRW;go_wp2_with fail
   refine ah ?_;intro w2 hw2;have HT2:Hid (Touch [] wr w2):=hw2▸(Touch.refl [] wr).alloc _;have HL2:=hdq (HK.out.touch HT2.out);clear hw2 q0 q1 q2 hb;refine(Fs.out w2 _ HL2.out).mono ?_;rintro en w4 ⟨y,rfl,hpl,hL⟩;have BH:Hid (BD T w w4 (m++(aS 45 3 (.slice ra j rc) j (ys.flatMap MT.cells)::(ys.flatMap things++things y)))):=by simpa using hdq hL
   have EA:=hdq hpl;clear hpl hL HL2 Fs;simp only[MT.val,MT.sl];go_wp2_with (at_builtin;go_must (refine cB _ rfl (.tmp 14) (.tmp 18) 43 rfl 45 i0 _ 3 40 Tryz.underlying43 hi0 CY CU CX rfl (by decide) (.slice ra j rc) j (ys.flatMap MT.cells) rfl (BH.out.dL _).Ay (some ⟨w4.heap.size,0,none⟩) 1 1 y.cells rfl rfl (.inr ⟨_,rfl,World.news_of_block (heap_alloc_new w4 _)⟩) (K8 y) (by simp only[maxLen];omega) (by omega) ?_);intro a5 c5 w5 hown hgrow hat;refine Hid.out ?_)
   have Ca:Hid (BD T w w5 (m++(aS 45 3 (.slice a5 (j+1) c5) (j+1) ((ys++[y]).flatMap MT.cells)::(ys++[y]).flatMap things))):=by
    have h:=(BH.out.dL _).nE hgrow hown hat;simpa[List.flatMap_append]using hdq h
   clear hown hgrow hat BH;refine hdq ?_;go_wp2;go_roundw
   case rel=>exact⟨j+1,ys++[y],a5,c5,by omega,by go_num,rfl,by simp[hyl],by unfold Hid;rw[List.map_append,HY.out,Eh.out,<-EA.out];rfl,Ca⟩
   case measure=>simp[intOf];omega
  .have Cc:¬(j:Int)<(l.length:Int):=by omega
   obtain rfl:j=l.length:=by omega
   go_wp2;go_ret
   exact⟨ra,rc,ys,rfl,by have :=HY.out;rwa[List.take_length]at this,HK.out⟩
theorem xS:(Tryz.prog.info? 189).map (fun i=>(i.zero,i.size,i.bytes))=some (some (.agg #[.int .i64 0,.slice none 0 0]),2,32):=by kernel_rfl
theorem Ba(y:MC):∀u∈y.cells,u.oneCell'=true:=by simp[MC.cells,Value.oneCell']
theorem vT{γ:Type}(p:MC->γ)(things:MC->List ai)(T:List Nat)(w:World)(m:List ai)(a:Option Addr)(cap:Nat)(l:List MC)(D:FuncId)(h:BD T w w m)(hrow:∀W r,BD T w W (m++r)->aG W a 2 l.length (l.flatMap MC.cells))(hen:∀args w,(callFunc D args).run Tryz.prog w= .ok (.enter D args) w)(hone:∀W r i (hi:i<l.length),BD T w W (m++r)->Calls Tryz.prog D #[l[i].val] W fun en W'=>∃y,en= .returned y.val/\p y=p l[i]/\BD T w W' (m++(r++things y)))(hlen:l.length<=2000000):
  Calls Tryz.prog 221 #[.slice a l.length cap,.func (.func D) #[] #[]] w (gG T w m 189 2 MC.cells things p l):=by
 have HRW:=hdq hrow;have D8:=hdq hone;obtain⟨i0,hi0,CY,CU,CX⟩:=info_parts xS;have BB:=hdq (h.gK 189 2);clear h hrow hone;go_enter Tryz.func221,Tryz.ntmps221
 go_wp2_with fail
 go_loopw [5,10] (fun x i wr=>∃(j:Nat) (ys:List MC) (ra:Option Addr) (rc:Nat),j<=l.length/\i= .int .i64 (j:Int)/\x= .slice ra j rc/\ys.length=j/\Hid (ys.map p=(l.take j).map p)/\
  Hid (BD T w wr (m++(aS 189 2 (.slice ra j rc) j (ys.flatMap MC.cells)::ys.flatMap things)))) (fun _ i _=>l.length-(intOf i).toNat)
 case atStart=>exact⟨0,[],none,0,Nat.zero_le _,rfl,rfl,rfl,by unfold Hid;simp,BB⟩
 case round=>
  obtain⟨j,ys,ra,rc,hj,rfl,rfl,hyl,HY,HK⟩:=hrel;clear BB;have hj0:(0:Int)<=(j:Int):=by omega
  by_cases hjl:j<l.length
  .have Cc:(j:Int)<(l.length:Int):=by omega
   obtain⟨b,o,hba,hb,hc⟩:=aG.at (f:=MC.cells) (fun _=>rfl) (HRW.out wr _ HK.out) j hjl;have HO:=hdq (fun W r=>D8.out W r j hjl);have Eh:=hdq (jJ p l j hjl);obtain⟨u,hu⟩:∃u,l[j]=u:=⟨_,rfl⟩;have q0:wr.cell? ⟨b,o+j*2,none⟩=some (.int .i64 u.fn):=(hc 0 (by omega)).trans (by rw[hu];rfl);have q1:wr.cell? ⟨b,o+j*2+1,none⟩=some (.slice u.a u.args.length u.cap):=(hc 1 (by omega)).trans (by rw[hu];rfl);rw[hu]at Eh;have Fs:Hid (∀W r,BD T w W (m++r)->Calls Tryz.prog D #[.agg #[.int .i64 u.fn,.slice u.a u.args.length u.cap]] W fun en W'=>∃y:MC,en= .returned (y.val)/\p y=p u/\BD T w W' (m++(r++things y))):=by
    have h:=HO.out;rw[hu]at h;exact h
   clear HO hc;rw[hba];clear hba hu D8 HRW;go_wp2_with fail
   refine ah ?_;intro w2 hw2;have HT2:Hid (Touch [] wr w2):=hw2▸(Touch.refl [] wr).alloc _;have HL2:=hdq (HK.out.touch HT2.out);clear hw2 q0 q1 hb;refine(Fs.out w2 _ HL2.out).mono ?_;rintro en w4 ⟨y,rfl,hpl,hL⟩;have BH:Hid (BD T w w4 (m++(aS 189 2 (.slice ra j rc) j (ys.flatMap MC.cells)::(ys.flatMap things++things y)))):=by simpa using hdq hL
   have EA:=hdq hpl;clear hpl hL HL2 Fs;simp only[MC.val];go_wp2_with (at_builtin;go_must (refine cB _ rfl (.tmp 14) (.tmp 18) 108 rfl 189 i0 _ 2 32 Tryz.underlying108 hi0 CY CU CX rfl (by decide) (.slice ra j rc) j (ys.flatMap MC.cells) rfl (BH.out.dL _).Ay (some ⟨w4.heap.size,0,none⟩) 1 1 y.cells rfl rfl (.inr ⟨_,rfl,World.news_of_block (heap_alloc_new w4 _)⟩) (Ba y) (by simp only[maxLen];omega) (by omega) ?_);intro a5 c5 w5 hown hgrow hat;refine Hid.out ?_)
   have Ca:Hid (BD T w w5 (m++(aS 189 2 (.slice a5 (j+1) c5) (j+1) ((ys++[y]).flatMap MC.cells)::(ys++[y]).flatMap things))):=by
    have h:=(BH.out.dL _).nE hgrow hown hat;simpa[List.flatMap_append]using hdq h
   clear hown hgrow hat BH;refine hdq ?_;go_wp2;go_roundw
   case rel=>exact⟨j+1,ys++[y],a5,c5,by omega,by go_num,rfl,by simp[hyl],by unfold Hid;rw[List.map_append,HY.out,Eh.out,<-EA.out];rfl,Ca⟩
   case measure=>simp[intOf];omega
  .have Cc:¬(j:Int)<(l.length:Int):=by omega
   obtain rfl:j=l.length:=by omega
   go_wp2;go_ret
   exact⟨ra,rc,ys,rfl,by have :=HY.out;rwa[List.take_length]at this,HK.out⟩
theorem xX:(Tryz.prog.info? 110).map (fun i=>(i.zero,i.size,i.bytes))=some (some (.agg #[.int .i64 0,.int .i64 0,.int .i64 0,.int .i64 0,.slice none 0 0,.slice none 0 0,.slice none 0 0]),7,104):=by kernel_rfl
theorem Ab(y:MB):∀u∈y.cells,u.oneCell'=true:=by simp[MB.cells,Value.oneCell']
theorem ve{γ:Type}(p:MB->γ)(things:MB->List ai)(T:List Nat)(w:World)(m:List ai)(a:Option Addr)(cap:Nat)(l:List MB)(D:FuncId)(h:BD T w w m)(hrow:∀W r,BD T w W (m++r)->aG W a 7 l.length (l.flatMap MB.cells))(hen:∀args w,(callFunc D args).run Tryz.prog w= .ok (.enter D args) w)(hone:∀W r i (hi:i<l.length),BD T w W (m++r)->Calls Tryz.prog D #[l[i].val] W fun en W'=>∃y,en= .returned y.val/\p y=p l[i]/\BD T w W' (m++(r++things y)))(hlen:l.length<=2000000):
  Calls Tryz.prog 144 #[.slice a l.length cap,.func (.func D) #[] #[]] w (gG T w m 110 7 MB.cells things p l):=by
 have HRW:=hdq hrow;have D8:=hdq hone;obtain⟨i0,hi0,CY,CU,CX⟩:=info_parts xX;have BB:=hdq (h.gK 110 7);clear h hrow hone;go_enter Tryz.func144,Tryz.ntmps144
 go_wp2_with fail
 go_loopw [5,10] (fun x i wr=>∃(j:Nat) (ys:List MB) (ra:Option Addr) (rc:Nat),j<=l.length/\i= .int .i64 (j:Int)/\x= .slice ra j rc/\ys.length=j/\Hid (ys.map p=(l.take j).map p)/\
  Hid (BD T w wr (m++(aS 110 7 (.slice ra j rc) j (ys.flatMap MB.cells)::ys.flatMap things)))) (fun _ i _=>l.length-(intOf i).toNat)
 case atStart=>exact⟨0,[],none,0,Nat.zero_le _,rfl,rfl,rfl,by unfold Hid;simp,BB⟩
 case round=>
  obtain⟨j,ys,ra,rc,hj,rfl,rfl,hyl,HY,HK⟩:=hrel;clear BB;have hj0:(0:Int)<=(j:Int):=by omega
  by_cases hjl:j<l.length
  .have Cc:(j:Int)<(l.length:Int):=by omega
   obtain⟨b,o,hba,hb,hc⟩:=aG.at (f:=MB.cells) (fun _=>rfl) (HRW.out wr _ HK.out) j hjl;have HO:=hdq (fun W r=>D8.out W r j hjl);have Eh:=hdq (jJ p l j hjl);obtain⟨u,hu⟩:∃u,l[j]=u:=⟨_,rfl⟩;have q0:wr.cell? ⟨b,o+j*7,none⟩=some (.int .i64 u.kind):=(hc 0 (by omega)).trans (by rw[hu];rfl);have q1:wr.cell? ⟨b,o+j*7+1,none⟩=some (.int .i64 u.n):=(hc 1 (by omega)).trans (by rw[hu];rfl);have q2:wr.cell? ⟨b,o+j*7+2,none⟩=some (.int .i64 u.v.kind):=(hc 2 (by omega)).trans (by rw[hu];rfl);have q3:wr.cell? ⟨b,o+j*7+3,none⟩=some (.int .i64 u.v.num):=(hc 3 (by omega)).trans (by rw[hu];rfl);have q4:wr.cell? ⟨b,o+j*7+4,none⟩=some (.slice u.v.addr u.v.parts.length u.v.cap):=(hc 4 (by omega)).trans (by rw[hu];rfl);have q5:wr.cell? ⟨b,o+j*7+5,none⟩=some (.slice u.wa u.wraps.length u.wc):=(hc 5 (by omega)).trans (by rw[hu];rfl);have q6:wr.cell? ⟨b,o+j*7+6,none⟩=some (.slice u.na u.aT.length u.nc):=(hc 6 (by omega)).trans (by rw[hu];rfl);rw[hu]at Eh;have Fs:Hid (∀W r,BD T w W (m++r)->Calls Tryz.prog D #[.agg #[.int .i64 u.kind,.int .i64 u.n,.int .i64 u.v.kind,.int .i64 u.v.num,.slice u.v.addr u.v.parts.length u.v.cap,.slice u.wa u.wraps.length u.wc,.slice u.na u.aT.length u.nc]] W fun en W'=>∃y:MB,en= .returned (y.val)/\p y=p u/\BD T w W' (m++(r++things y))):=by
    have h:=HO.out;rw[hu]at h;exact h
   clear HO hc;rw[hba];clear hba hu D8 HRW;go_wp2_with fail
   refine ah ?_;intro w2 hw2;have HT2:Hid (Touch [] wr w2):=hw2▸(Touch.refl [] wr).alloc _;have HL2:=hdq (HK.out.touch HT2.out);clear hw2 q0 q1 q2 q3 q4 q5 q6 hb;refine(Fs.out w2 _ HL2.out).mono ?_;rintro en w4 ⟨y,rfl,hpl,hL⟩;have BH:Hid (BD T w w4 (m++(aS 110 7 (.slice ra j rc) j (ys.flatMap MB.cells)::(ys.flatMap things++things y)))):=by simpa using hdq hL
   have EA:=hdq hpl;clear hpl hL HL2 Fs;simp only[MB.val];go_wp2_with (at_builtin;go_must (refine cB _ rfl (.tmp 14) (.tmp 18) 48 rfl 110 i0 _ 7 104 Tryz.underlying48 hi0 CY CU CX rfl (by decide) (.slice ra j rc) j (ys.flatMap MB.cells) rfl (BH.out.dL _).Ay (some ⟨w4.heap.size,0,none⟩) 1 1 y.cells rfl rfl (.inr ⟨_,rfl,World.news_of_block (heap_alloc_new w4 _)⟩) (Ab y) (by simp only[maxLen];omega) (by omega) ?_);intro a5 c5 w5 hown hgrow hat;refine Hid.out ?_)
   have Ca:Hid (BD T w w5 (m++(aS 110 7 (.slice a5 (j+1) c5) (j+1) ((ys++[y]).flatMap MB.cells)::(ys++[y]).flatMap things))):=by
    have h:=(BH.out.dL _).nE hgrow hown hat;simpa[List.flatMap_append]using hdq h
   clear hown hgrow hat BH;refine hdq ?_;go_wp2;go_roundw
   case rel=>exact⟨j+1,ys++[y],a5,c5,by omega,by go_num,rfl,by simp[hyl],by unfold Hid;rw[List.map_append,HY.out,Eh.out,<-EA.out];rfl,Ca⟩
   case measure=>simp[intOf];omega
  .have Cc:¬(j:Int)<(l.length:Int):=by omega
   obtain rfl:j=l.length:=by omega
   go_wp2;go_ret
   exact⟨ra,rc,ys,rfl,by have :=HY.out;rwa[List.take_length]at this,HK.out⟩
theorem mE:(Tryz.prog.info? 61).map (fun i=>(i.zero,i.size,i.bytes))=some (some (.agg #[.int .i64 0,.slice none 0 0,.slice none 0 0,.int .i64 0,.bool false,.bool false,.int .i64 0,.int .i64 0,.int .i64 0,.slice none 0 0,.int .i64 0]),11,128):=by kernel_rfl
theorem lT(y:MS):∀u∈y.cells,u.oneCell'=true:=by simp[MS.cells,Value.oneCell']
theorem uP{γ:Type}(p:MS->γ)(things:MS->List ai)(T:List Nat)(w:World)(m:List ai)(a:Option Addr)(cap:Nat)(l:List MS)(D:FuncId)(h:BD T w w m)(hrow:∀W r,BD T w W (m++r)->aG W a 11 l.length (l.flatMap MS.cells))(hen:∀args w,(callFunc D args).run Tryz.prog w= .ok (.enter D args) w)(hone:∀W r i (hi:i<l.length),BD T w W (m++r)->Calls Tryz.prog D #[l[i].val] W fun en W'=>∃y,en= .returned y.val/\p y=p l[i]/\BD T w W' (m++(r++things y)))(hlen:l.length<=2000000):
  Calls Tryz.prog 55 #[.slice a l.length cap,.func (.func D) #[] #[]] w (gG T w m 61 11 MS.cells things p l):=by
 have HRW:=hdq hrow;have D8:=hdq hone;obtain⟨i0,hi0,CY,CU,CX⟩:=info_parts mE;have BB:=hdq (h.gK 61 11);clear h hrow hone;go_enter Tryz.func55,Tryz.ntmps55
 go_wp2_with fail
 go_loopw [5,10] (fun x i wr=>∃(j:Nat) (ys:List MS) (ra:Option Addr) (rc:Nat),j<=l.length/\i= .int .i64 (j:Int)/\x= .slice ra j rc/\ys.length=j/\Hid (ys.map p=(l.take j).map p)/\
  Hid (BD T w wr (m++(aS 61 11 (.slice ra j rc) j (ys.flatMap MS.cells)::ys.flatMap things)))) (fun _ i _=>l.length-(intOf i).toNat)
 case atStart=>exact⟨0,[],none,0,Nat.zero_le _,rfl,rfl,rfl,by unfold Hid;simp,BB⟩
 case round=>
  obtain⟨j,ys,ra,rc,hj,rfl,rfl,hyl,HY,HK⟩:=hrel;clear BB;have hj0:(0:Int)<=(j:Int):=by omega
  by_cases hjl:j<l.length
  .have Cc:(j:Int)<(l.length:Int):=by omega
   obtain⟨b,o,hba,hb,hc⟩:=aG.at (f:=MS.cells) (fun _=>rfl) (HRW.out wr _ HK.out) j hjl;have HO:=hdq (fun W r=>D8.out W r j hjl);have Eh:=hdq (jJ p l j hjl);obtain⟨u,hu⟩:∃u,l[j]=u:=⟨_,rfl⟩;have q0:wr.cell? ⟨b,o+j*11,none⟩=some (.int .i64 u.thread):=(hc 0 (by omega)).trans (by rw[hu];rfl);have q1:wr.cell? ⟨b,o+j*11+1,none⟩=some (.slice u.ba u.bases.length u.bc):=(hc 1 (by omega)).trans (by rw[hu];rfl);have q2:wr.cell? ⟨b,o+j*11+2,none⟩=some (.slice u.ca u.conds.length u.cc):=(hc 2 (by omega)).trans (by rw[hu];rfl);have q3:wr.cell? ⟨b,o+j*11+3,none⟩=some (.int .i64 u.flag):=(hc 3 (by omega)).trans (by rw[hu];rfl);have q4:wr.cell? ⟨b,o+j*11+4,none⟩=some (.bool u.parked):=(hc 4 (by omega)).trans (by rw[hu];rfl);have q5:wr.cell? ⟨b,o+j*11+5,none⟩=some (.bool u.done):=(hc 5 (by omega)).trans (by rw[hu];rfl);have q6:wr.cell? ⟨b,o+j*11+6,none⟩=some (.int .i64 u.branch):=(hc 6 (by omega)).trans (by rw[hu];rfl);have q7:wr.cell? ⟨b,o+j*11+7,none⟩=some (.int .i64 u.v.kind):=(hc 7 (by omega)).trans (by rw[hu];rfl);have q8:wr.cell? ⟨b,o+j*11+8,none⟩=some (.int .i64 u.v.num):=(hc 8 (by omega)).trans (by rw[hu];rfl);have q9:wr.cell? ⟨b,o+j*11+9,none⟩=some (.slice u.v.addr u.v.parts.length u.v.cap):=(hc 9 (by omega)).trans (by rw[hu];rfl);have E5:wr.cell? ⟨b,o+j*11+10,none⟩=some (.int .i64 u.partner):=(hc 10 (by omega)).trans (by rw[hu];rfl);rw[hu]at Eh;have Fs:Hid (∀W r,BD T w W (m++r)->Calls Tryz.prog D #[.agg #[.int .i64 u.thread,.slice u.ba u.bases.length u.bc,.slice u.ca u.conds.length u.cc,.int .i64 u.flag,.bool u.parked,.bool u.done,.int .i64 u.branch,.int .i64 u.v.kind,.int .i64 u.v.num,.slice u.v.addr u.v.parts.length u.v.cap,.int .i64 u.partner]] W fun en W'=>∃y:MS,en= .returned (y.val)/\p y=p u/\BD T w W' (m++(r++things y))):=by
    have h:=HO.out;rw[hu]at h;exact h
   clear HO hc;rw[hba];clear hba hu D8 HRW;go_wp2_with fail
   refine ah ?_;intro w2 hw2;have HT2:Hid (Touch [] wr w2):=hw2▸(Touch.refl [] wr).alloc _;have HL2:=hdq (HK.out.touch HT2.out);clear hw2 q0 q1 q2 q3 q4 q5 q6 q7 q8 q9 E5 hb;refine(Fs.out w2 _ HL2.out).mono ?_;rintro en w4 ⟨y,rfl,hpl,hL⟩;have BH:Hid (BD T w w4 (m++(aS 61 11 (.slice ra j rc) j (ys.flatMap MS.cells)::(ys.flatMap things++things y)))):=by simpa using hdq hL
   have EA:=hdq hpl;clear hpl hL HL2 Fs;simp only[MS.val];go_wp2_with (at_builtin;go_must (refine cB _ rfl (.tmp 14) (.tmp 18) 36 rfl 61 i0 _ 11 128 Tryz.underlying36 hi0 CY CU CX rfl (by decide) (.slice ra j rc) j (ys.flatMap MS.cells) rfl (BH.out.dL _).Ay (some ⟨w4.heap.size,0,none⟩) 1 1 y.cells rfl rfl (.inr ⟨_,rfl,World.news_of_block (heap_alloc_new w4 _)⟩) (lT y) (by simp only[maxLen];omega) (by omega) ?_);intro a5 c5 w5 hown hgrow hat;refine Hid.out ?_)
   have Ca:Hid (BD T w w5 (m++(aS 61 11 (.slice a5 (j+1) c5) (j+1) ((ys++[y]).flatMap MS.cells)::(ys++[y]).flatMap things))):=by
    have h:=(BH.out.dL _).nE hgrow hown hat;simpa[List.flatMap_append]using hdq h
   clear hown hgrow hat BH;refine hdq ?_;go_wp2;go_roundw
   case rel=>exact⟨j+1,ys++[y],a5,c5,by omega,by go_num,rfl,by simp[hyl],by unfold Hid;rw[List.map_append,HY.out,Eh.out,<-EA.out];rfl,Ca⟩
   case measure=>simp[intOf];omega
  .have Cc:¬(j:Int)<(l.length:Int):=by omega
   obtain rfl:j=l.length:=by omega
   go_wp2;go_ret
   exact⟨ra,rc,ys,rfl,by have :=HY.out;rwa[List.take_length]at this,HK.out⟩
theorem yF:(Tryz.prog.info? 118).map (fun i=>(i.zero,i.size,i.bytes))=some (some (.pointer none),1,8):=by kernel_rfl
theorem AY(y:Ce):∀u∈y.cells,u.oneCell'=true:=by simp[Ce.cells,Value.oneCell']
theorem vH{γ:Type}(p:Ce->γ)(things:Ce->List ai)(T:List Nat)(w:World)(m:List ai)(a:Option Addr)(cap:Nat)(l:List Ce)(D:FuncId)(h:BD T w w m)(hrow:∀W r,BD T w W (m++r)->aG W a 1 l.length (l.flatMap Ce.cells))(hen:∀args w,(callFunc D args).run Tryz.prog w= .ok (.enter D args) w)(hone:∀W r i (hi:i<l.length),BD T w W (m++r)->Calls Tryz.prog D #[l[i].val] W fun en W'=>∃y,en= .returned y.val/\p y=p l[i]/\BD T w W' (m++(r++things y)))(hlen:l.length<=2000000):
  Calls Tryz.prog 51 #[.slice a l.length cap,.func (.func D) #[] #[]] w (gG T w m 118 1 Ce.cells things p l):=by
 have HRW:=hdq hrow;have D8:=hdq hone;obtain⟨i0,hi0,CY,CU,CX⟩:=info_parts yF;have BB:=hdq (h.gK 118 1);clear h hrow hone;go_enter Tryz.func51,Tryz.ntmps51
 go_wp2_with fail
 go_loopw [5,10] (fun x i wr=>∃(j:Nat) (ys:List Ce) (ra:Option Addr) (rc:Nat),j<=l.length/\i= .int .i64 (j:Int)/\x= .slice ra j rc/\ys.length=j/\Hid (ys.map p=(l.take j).map p)/\
  Hid (BD T w wr (m++(aS 118 1 (.slice ra j rc) j (ys.flatMap Ce.cells)::ys.flatMap things)))) (fun _ i _=>l.length-(intOf i).toNat)
 case atStart=>exact⟨0,[],none,0,Nat.zero_le _,rfl,rfl,rfl,by unfold Hid;simp,BB⟩
 case round=>
  obtain⟨j,ys,ra,rc,hj,rfl,rfl,hyl,HY,HK⟩:=hrel;clear BB;have hj0:(0:Int)<=(j:Int):=by omega
  by_cases hjl:j<l.length
  .have Cc:(j:Int)<(l.length:Int):=by omega
   obtain⟨b,o,hba,hb,hc⟩:=aG.at (f:=Ce.cells) (fun _=>rfl) (HRW.out wr _ HK.out) j hjl;have HO:=hdq (fun W r=>D8.out W r j hjl);have Eh:=hdq (jJ p l j hjl);obtain⟨u,hu⟩:∃u,l[j]=u:=⟨_,rfl⟩;have q0:wr.cell? ⟨b,o+j,none⟩=some (.pointer (some ⟨u.c,0,none⟩)):=by have :=(hc 0 Nat.one_pos).trans (show _=some (.pointer (some ⟨u.c,0,none⟩)) by rw[hu];rfl);simpa using this
   rw[hu]at Eh;have Fs:Hid (∀W r,BD T w W (m++r)->Calls Tryz.prog D #[.pointer (some ⟨u.c,0,none⟩)] W fun en W'=>∃y:Ce,en= .returned (y.val)/\p y=p u/\BD T w W' (m++(r++things y))):=by
    have h:=HO.out;rw[hu]at h;exact h
   clear HO hc;rw[hba];clear hba hu D8 HRW;go_wp2_with fail
   refine ah ?_;intro w2 hw2;have HT2:Hid (Touch [] wr w2):=hw2▸Touch.refl [] wr;have HL2:=hdq (HK.out.touch HT2.out);clear hw2 q0 hb;refine(Fs.out w2 _ HL2.out).mono ?_;rintro en w4 ⟨y,rfl,hpl,hL⟩;have BH:Hid (BD T w w4 (m++(aS 118 1 (.slice ra j rc) j (ys.flatMap Ce.cells)::(ys.flatMap things++things y)))):=by simpa using hdq hL
   have EA:=hdq hpl;clear hpl hL HL2 Fs;simp only[Ce.val];go_wp2_with (at_builtin;go_must (refine cB _ rfl (.tmp 14) (.tmp 18) 83 rfl 118 i0 _ 1 8 Tryz.underlying83 hi0 CY CU CX rfl (by decide) (.slice ra j rc) j (ys.flatMap Ce.cells) rfl (BH.out.dL _).Ay (some ⟨w4.heap.size,0,none⟩) 1 1 y.cells rfl rfl (.inr ⟨_,rfl,World.news_of_block (heap_alloc_new w4 _)⟩) (AY y) (by simp only[maxLen];omega) (by omega) ?_);intro a5 c5 w5 hown hgrow hat;refine Hid.out ?_)
   have Ca:Hid (BD T w w5 (m++(aS 118 1 (.slice a5 (j+1) c5) (j+1) ((ys++[y]).flatMap Ce.cells)::(ys++[y]).flatMap things))):=by
    have h:=(BH.out.dL _).nE hgrow hown hat;simpa[List.flatMap_append]using hdq h
   clear hown hgrow hat BH;refine hdq ?_;go_wp2;go_roundw
   case rel=>exact⟨j+1,ys++[y],a5,c5,by omega,by go_num,rfl,by simp[hyl],by unfold Hid;rw[List.map_append,HY.out,Eh.out,<-EA.out];rfl,Ca⟩
   case measure=>simp[intOf];omega
  .have Cc:¬(j:Int)<(l.length:Int):=by omega
   obtain rfl:j=l.length:=by omega
   go_wp2;go_ret
   exact⟨ra,rc,ys,rfl,by have :=HY.out;rwa[List.take_length]at this,HK.out⟩
theorem xM:(Tryz.prog.info? 122).map (fun i=>(i.zero,i.size,i.bytes))=some (some (.pointer none),1,8):=by kernel_rfl
theorem Bq(y:Ch):∀u∈y.cells,u.oneCell'=true:=by simp[Ch.cells,Value.oneCell']
theorem uX{γ:Type}(p:Ch->γ)(things:Ch->List ai)(T:List Nat)(w:World)(m:List ai)(a:Option Addr)(cap:Nat)(l:List Ch)(D:FuncId)(h:BD T w w m)(hrow:∀W r,BD T w W (m++r)->aG W a 1 l.length (l.flatMap Ch.cells))(hen:∀args w,(callFunc D args).run Tryz.prog w= .ok (.enter D args) w)(hone:∀W r i (hi:i<l.length),BD T w W (m++r)->Calls Tryz.prog D #[l[i].val] W fun en W'=>∃y,en= .returned y.val/\p y=p l[i]/\BD T w W' (m++(r++things y)))(hlen:l.length<=2000000):
  Calls Tryz.prog 53 #[.slice a l.length cap,.func (.func D) #[] #[]] w (gG T w m 122 1 Ch.cells things p l):=by
 have HRW:=hdq hrow;have D8:=hdq hone;obtain⟨i0,hi0,CY,CU,CX⟩:=info_parts xM;have BB:=hdq (h.gK 122 1);clear h hrow hone;go_enter Tryz.func53,Tryz.ntmps53
 go_wp2_with fail
 go_loopw [5,10] (fun x i wr=>∃(j:Nat) (ys:List Ch) (ra:Option Addr) (rc:Nat),j<=l.length/\i= .int .i64 (j:Int)/\x= .slice ra j rc/\ys.length=j/\Hid (ys.map p=(l.take j).map p)/\
  Hid (BD T w wr (m++(aS 122 1 (.slice ra j rc) j (ys.flatMap Ch.cells)::ys.flatMap things)))) (fun _ i _=>l.length-(intOf i).toNat)
 case atStart=>exact⟨0,[],none,0,Nat.zero_le _,rfl,rfl,rfl,by unfold Hid;simp,BB⟩
 case round=>
  obtain⟨j,ys,ra,rc,hj,rfl,rfl,hyl,HY,HK⟩:=hrel;clear BB;have hj0:(0:Int)<=(j:Int):=by omega
  by_cases hjl:j<l.length
  .have Cc:(j:Int)<(l.length:Int):=by omega
   obtain⟨b,o,hba,hb,hc⟩:=aG.at (f:=Ch.cells) (fun _=>rfl) (HRW.out wr _ HK.out) j hjl;have HO:=hdq (fun W r=>D8.out W r j hjl);have Eh:=hdq (jJ p l j hjl);obtain⟨u,hu⟩:∃u,l[j]=u:=⟨_,rfl⟩;have q0:wr.cell? ⟨b,o+j,none⟩=some (.pointer (some ⟨u.c,0,none⟩)):=by have :=(hc 0 Nat.one_pos).trans (show _=some (.pointer (some ⟨u.c,0,none⟩)) by rw[hu];rfl);simpa using this
   rw[hu]at Eh;have Fs:Hid (∀W r,BD T w W (m++r)->Calls Tryz.prog D #[.pointer (some ⟨u.c,0,none⟩)] W fun en W'=>∃y:Ch,en= .returned (y.val)/\p y=p u/\BD T w W' (m++(r++things y))):=by
    have h:=HO.out;rw[hu]at h;exact h
   clear HO hc;rw[hba];clear hba hu D8 HRW;go_wp2_with fail
   refine ah ?_;intro w2 hw2;have HT2:Hid (Touch [] wr w2):=hw2▸Touch.refl [] wr;have HL2:=hdq (HK.out.touch HT2.out);clear hw2 q0 hb;refine(Fs.out w2 _ HL2.out).mono ?_;rintro en w4 ⟨y,rfl,hpl,hL⟩;have BH:Hid (BD T w w4 (m++(aS 122 1 (.slice ra j rc) j (ys.flatMap Ch.cells)::(ys.flatMap things++things y)))):=by simpa using hdq hL
   have EA:=hdq hpl;clear hpl hL HL2 Fs;simp only[Ch.val];go_wp2_with (at_builtin;go_must (refine cB _ rfl (.tmp 14) (.tmp 18) 84 rfl 122 i0 _ 1 8 Tryz.underlying84 hi0 CY CU CX rfl (by decide) (.slice ra j rc) j (ys.flatMap Ch.cells) rfl (BH.out.dL _).Ay (some ⟨w4.heap.size,0,none⟩) 1 1 y.cells rfl rfl (.inr ⟨_,rfl,World.news_of_block (heap_alloc_new w4 _)⟩) (Bq y) (by simp only[maxLen];omega) (by omega) ?_);intro a5 c5 w5 hown hgrow hat;refine Hid.out ?_)
   have Ca:Hid (BD T w w5 (m++(aS 122 1 (.slice a5 (j+1) c5) (j+1) ((ys++[y]).flatMap Ch.cells)::(ys++[y]).flatMap things))):=by
    have h:=(BH.out.dL _).nE hgrow hown hat;simpa[List.flatMap_append]using hdq h
   clear hown hgrow hat BH;refine hdq ?_;go_wp2;go_roundw
   case rel=>exact⟨j+1,ys++[y],a5,c5,by omega,by go_num,rfl,by simp[hyl],by unfold Hid;rw[List.map_append,HY.out,Eh.out,<-EA.out];rfl,Ca⟩
   case measure=>simp[intOf];omega
  .have Cc:¬(j:Int)<(l.length:Int):=by omega
   obtain rfl:j=l.length:=by omega
   go_wp2;go_ret
   exact⟨ra,rc,ys,rfl,by have :=HY.out;rwa[List.take_length]at this,HK.out⟩
end Go.Proofs.YtddnnapoaonmjaaGreatDoor
