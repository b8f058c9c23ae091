/-
  Texts of WorldCopies, laid together by program.
-/
import Derived.Test.YtddnnapoaonmjaaGreatDoorWZ8
import Derived.Test.YtddnnapoaonmjaaGreatDoorWZ12
import Derived.WalkSmall
import Derived.Defers
import Derived.Recover
namespace Go.Proofs.YtddnnapoaonmjaaGreatDoor
open Go.RowKit Go.Shelf Go.Proofs.Tryz
set_option maxRecDepth 100000
set_option maxHeartbeats 8000000
set_option linter.unusedVariables false
set_option linter.unusedSimpArgs false
def eB(er:Int):Value:= .iface 232 (.agg #[er])
def aX(er:Int):List PanicEntry:=[{v:=eB er,recovered:=false}]
theorem sW(er:Int)(w:World):(Instr.build 232 #[(0,.int .i64 er)]).run prog w= .ok (.agg #[er]) w:=run_build w 232 _ _ (by kernel_rfl)
theorem require_ok(w:World)(er:Int):Calls prog 80 #[true,er] w fun e w'=>e= .returned (.tuple #[])/\w=w':=by
 go_enter func80,ntmps80
 go_wp2;go_end0
 exact⟨rfl,rfl⟩
theorem aY(w:World)(er:Int):Calls prog 80 #[false,er] w fun e w'=>e= .panicked (aX er)/\w=w':=by
 have hb:=sW er;go_enter func80,ntmps80
 go_wp2;exact⟨rfl,rfl,rfl⟩
theorem l8(u:TypeId)(v:Value)(w:World):(binOp .neq 20 (.iface u v) .nilIface).run prog w= .ok (.bool true) w:=by kernel_rfl
theorem dS(er:Int)(w:World):(Instr.typeAssert (.iface 232 (.agg #[er])) 20 232 true).run prog w= .ok (.tuple #[.agg #[er],true]) w:=by kernel_rfl
def Ends(e:Ending)(v:Value)(er:Int)(z:Value):Prop:=(er=0/\e= .returned v)\/(v=z/\e= .panicked (aX er))
theorem qX(T:List Nat)(w0 w:World)(l:List ai)(p q:Nat)(v:Int)(FP er:Int)(h:BD T w0 w (box p 3 #[v]::box q 26 #[FP]::l)):
  CallsD prog 182 #[p,q] (.panicking (aX er)) w fun e u' w'=>e= .returned (.tuple #[])/\u'= .panicking [{v:=eB er,recovered:=true}]/\BD T w0 w' (box p 3 #[()]::box q 26 #[er]::l):=by
 have HL:=hdq h;refine callsD_of_wpS func182 rfl fun c₀ cs hu=>?_;apply wpS_seq
 apply wpS_region
 simp[wpOpsS,go_sem,recoverD,hu,ntmps182,Exit.thenS,aX]
 apply wpS_seq
 apply wpS_region
 have hq:=l8 232 (.agg #[er]);simp[wpOpsS,go_sem,Exit.thenS,eB,hq]
 refine wpS_cond (t:=true) (by simp[Act.eval,Array.replicate]) ?_;simp only[if_true];refine wpS_of_wp ?_;simp only[Array.replicate_succ,Array.replicate_zero,List.push_toArray,List.append_toArray,sAq,sZq,sSq,nAq,cAq];have GZ:=dS er;obtain⟨p0,p1,zp,CK,CO⟩:=HL.o.c1 0 rfl;obtain⟨q0,q1,zq,Fb,Fg⟩:=HL.o.c1 1 rfl;have hpq:=HL.o.ne 0 1 rfl rfl (by decide);have F9:=Ne.symm hpq;go_wp2_with fail
 go_region
 all_goals
  have BF:=hdq ((((HL.o.set 0 rfl 0 (.int .i64 0)).set 1 rfl 0 (.int .i64 er)).alloc 232 #[er]).drew);have BH:=hdq (BD.aF (l:=[_,_]++l) BF.o);exact⟨rfl,_,rfl,.tuple #[],results_none rfl _ _ _,rfl,rfl,BH.o⟩
theorem qw(w:World)(p q:Addr):CallsD prog 182 #[.pointer (some p),.pointer (some q)] .returning w fun e u' w'=>e= .returned (.tuple #[])/\u'= .returning/\w=w':=by
 refine callsD_of_wpS func182 rfl fun c₀ cs hu=>?_;apply wpS_seq
 apply wpS_region
 simp[wpOpsS,go_sem,recoverD,hu,ntmps182,Exit.thenS]
 apply wpS_seq
 apply wpS_region
 have hq:∀w,(binOp .neq 20 .nilIface .nilIface).run prog w= .ok (.bool false) w:=fun w=>by kernel_rfl
 simp[wpOpsS,go_sem,Exit.thenS,hq]
 refine wpS_cond (t:=false) (by simp[Act.eval,Array.replicate]) ?_;simp only[Bool.false_eq_true,if_false];refine wpS_of_wp (wp_skip ?_);cases c₀
 simp_all [bodyPostS,results,results182]
theorem lH(T:List Nat)(w0 w:World)(l:List ai)(D:FuncId)(caps:Array Value)(R:Int->Int->List ai->Prop)(h:BD T w0 w l)(hen:∀args w,(callFunc D args).run prog w= .ok (.enter D args) w)(hd:∀T' W,BD T' W W l->Calls prog D caps W fun e w'=>∃(v:Int) (er:Int) (l':List ai),Ends e (.int .i64 v) er (.int .i64 0)/\R v er l'/\BD T' W w' l'):
  Calls prog 78 #[.func (.func D) #[] caps] w fun e w'=>∃(v:Int) (er:Int) (l':List ai),e= .returned (.tuple #[v,er])/\R v er l'/\BD T w0 w' l':=by
 have Ep:= @mfq;have BG:=hdq h;have HD:=hdq hd;go_enter_defers func78,ntmps78
 go_wp2_with fail
 refine ah ?_;intro w1 hw1;have BB:=hdq (BG.o.DZ hw1);generalize hq:w.heap.size+1=q at BB|-;generalize hp:w.heap.size=p at BB|-;obtain⟨T',hF,hb⟩:=BD.aN (m:=l) (r:=[box p 3 #[()],box q 26 #[()]]) (by simpa using BB.o);refine(HD.o T' _ hF).mono ?_;rintro e w2 ⟨v,er,l',he,hR,hL⟩;have HL2:=hdq (BD.aB (a:=[]) (b:=l') (c:=[box p 3 #[()],box q 26 #[()]]) (by simpa using hb _ _ hL));simp only[nAq,cAq]at HL2;have HR:=hdq hR;rcases he with ⟨rfl,rfl⟩|⟨hv,rfl⟩
 .obtain⟨p0,p1,zp,_,_⟩:=HL2.o.c1 0 rfl
  obtain⟨q0,q1,zq,_,_⟩:=HL2.o.c1 1 rfl;have hpq:=HL2.o.ne 0 1 rfl rfl (by decide);have F9:=Ne.symm hpq;have BF:=hdq ((HL2.o.set 0 rfl 0 (.int .i64 v)).set 1 rfl 0 (.int .i64 0));simp only[sSq,sZq,sAq]at BF;dsimp only;go_wp2_with fail
  refine leaves_cons (f:=182) (args:=#[.pointer (some ⟨p,0,none⟩),.pointer (some ⟨q,0,none⟩)]) (by simp) (by simp[go_sem]) ?_;refine(qw _ _ _).mono ?_;rintro e u' w'' ⟨rfl,rfl,rfl⟩;obtain⟨r0,_,_,_,_⟩:=BF.o.c1 0 rfl;obtain⟨r1,_,_,_,_⟩:=BF.o.c1 1 rfl;refine⟨.tuple #[v,()],by simp[results,results78,go_sem,r0,r1],v,0,l',rfl,HR.o,?_⟩;exact BF.o.aB (a:=[]) (b:=[_,_]) (c:=l') |>.aF
 .injection hv with _ hv
  subst hv;dsimp only;refine leaves_cons (f:=182) (args:=#[.pointer (some ⟨p,0,none⟩),.pointer (some ⟨q,0,none⟩)]) (by simp) (by simp[go_sem]) ?_;refine(qX T w0 w2 l' p q (0) 0 er HL2.o).mono ?_;rintro e u' w'' ⟨rfl,rfl,hL⟩;have BF:=hdq hL;obtain⟨r0,_,_,_,_⟩:=BF.o.c1 0 rfl;obtain⟨r1,_,_,_,_⟩:=BF.o.c1 1 rfl;refine⟨.tuple #[(),er],by simp[results,results78,go_sem,r0,r1],0,er,l',rfl,HR.o,?_⟩;exact BD.aF (BD.aB (a:=[]) (b:=[_,_]) (c:=l') BF.o)
theorem oN(T:List Nat)(w0 w:World)(l:List ai)(p q:Nat)(v:Int)(FP er:Int)(h:BD T w0 w (box p 26 #[v]::box q 26 #[FP]::l)):
  CallsD prog 260 #[p,q] (.panicking (aX er)) w fun e u' w'=>e= .returned (.tuple #[])/\u'= .panicking [{v:=eB er,recovered:=true}]/\BD T w0 w' (box p 26 #[()]::box q 26 #[er]::l):=by
 have HL:=hdq h;refine callsD_of_wpS func260 rfl fun c₀ cs hu=>?_;apply wpS_seq
 apply wpS_region
 simp[wpOpsS,go_sem,recoverD,hu,ntmps260,Exit.thenS,aX]
 apply wpS_seq
 apply wpS_region
 have hq:=l8 232 (.agg #[er]);simp[wpOpsS,go_sem,Exit.thenS,eB,hq]
 refine wpS_cond (t:=true) (by simp[Act.eval,Array.replicate]) ?_;simp only[if_true];refine wpS_of_wp ?_;simp only[Array.replicate_succ,Array.replicate_zero,List.push_toArray,List.append_toArray,sAq,sZq,sSq,nAq,cAq];have GZ:=dS er;obtain⟨p0,p1,zp,CK,CO⟩:=HL.o.c1 0 rfl;obtain⟨q0,q1,zq,Fb,Fg⟩:=HL.o.c1 1 rfl;have hpq:=HL.o.ne 0 1 rfl rfl (by decide);have F9:=Ne.symm hpq;go_wp2_with fail
 go_region
 all_goals
  have BF:=hdq ((((HL.o.set 0 rfl 0 (.int .i64 0)).set 1 rfl 0 (.int .i64 er)).alloc 232 #[er]).drew);have BH:=hdq (BD.aF (l:=[_,_]++l) BF.o);exact⟨rfl,_,rfl,.tuple #[],results_none rfl _ _ _,rfl,rfl,BH.o⟩
theorem nJ(w:World)(p q:Addr):CallsD prog 260 #[.pointer (some p),.pointer (some q)] .returning w fun e u' w'=>e= .returned (.tuple #[])/\u'= .returning/\w=w':=by
 refine callsD_of_wpS func260 rfl fun c₀ cs hu=>?_;apply wpS_seq
 apply wpS_region
 simp[wpOpsS,go_sem,recoverD,hu,ntmps260,Exit.thenS]
 apply wpS_seq
 apply wpS_region
 have hq:∀w,(binOp .neq 20 .nilIface .nilIface).run prog w= .ok (.bool false) w:=fun w=>by kernel_rfl
 simp[wpOpsS,go_sem,Exit.thenS,hq]
 refine wpS_cond (t:=false) (by simp[Act.eval,Array.replicate]) ?_;simp only[Bool.false_eq_true,if_false];refine wpS_of_wp (wp_skip ?_);cases c₀
 simp_all [bodyPostS,results,results260]
theorem l7(T:List Nat)(w0 w:World)(l:List ai)(D:FuncId)(caps:Array Value)(R:Int->Int->List ai->Prop)(h:BD T w0 w l)(hen:∀args w,(callFunc D args).run prog w= .ok (.enter D args) w)(hd:∀T' W,BD T' W W l->Calls prog D caps W fun e w'=>∃(v:Int) (er:Int) (l':List ai),Ends e (.int .i64 v) er (.int .i64 0)/\R v er l'/\BD T' W w' l'):
  Calls prog 191 #[.func (.func D) #[] caps] w fun e w'=>∃(v:Int) (er:Int) (l':List ai),e= .returned (.tuple #[v,er])/\R v er l'/\BD T w0 w' l':=by
 have Ep:= @mfq;have BG:=hdq h;have HD:=hdq hd;go_enter_defers func191,ntmps191
 go_wp2_with fail
 refine ah ?_;intro w1 hw1;have BB:=hdq (BG.o.DZ hw1);generalize hq:w.heap.size+1=q at BB|-;generalize hp:w.heap.size=p at BB|-;obtain⟨T',hF,hb⟩:=BD.aN (m:=l) (r:=[box p 26 #[()],box q 26 #[()]]) (by simpa using BB.o);refine(HD.o T' _ hF).mono ?_;rintro e w2 ⟨v,er,l',he,hR,hL⟩;have HL2:=hdq (BD.aB (a:=[]) (b:=l') (c:=[box p 26 #[()],box q 26 #[()]]) (by simpa using hb _ _ hL));simp only[nAq,cAq]at HL2;have HR:=hdq hR;rcases he with ⟨rfl,rfl⟩|⟨hv,rfl⟩
 .obtain⟨p0,p1,zp,_,_⟩:=HL2.o.c1 0 rfl
  obtain⟨q0,q1,zq,_,_⟩:=HL2.o.c1 1 rfl;have hpq:=HL2.o.ne 0 1 rfl rfl (by decide);have F9:=Ne.symm hpq;have BF:=hdq ((HL2.o.set 0 rfl 0 (.int .i64 v)).set 1 rfl 0 (.int .i64 0));simp only[sSq,sZq,sAq]at BF;dsimp only;go_wp2_with fail
  refine leaves_cons (f:=260) (args:=#[.pointer (some ⟨p,0,none⟩),.pointer (some ⟨q,0,none⟩)]) (by simp) (by simp[go_sem]) ?_;refine(nJ _ _ _).mono ?_;rintro e u' w'' ⟨rfl,rfl,rfl⟩;obtain⟨r0,_,_,_,_⟩:=BF.o.c1 0 rfl;obtain⟨r1,_,_,_,_⟩:=BF.o.c1 1 rfl;refine⟨.tuple #[v,()],by simp[results,results191,go_sem,r0,r1],v,0,l',rfl,HR.o,?_⟩;exact BF.o.aB (a:=[]) (b:=[_,_]) (c:=l') |>.aF
 .injection hv with _ hv
  subst hv;dsimp only;refine leaves_cons (f:=260) (args:=#[.pointer (some ⟨p,0,none⟩),.pointer (some ⟨q,0,none⟩)]) (by simp) (by simp[go_sem]) ?_;refine(oN T w0 w2 l' p q (0) 0 er HL2.o).mono ?_;rintro e u' w'' ⟨rfl,rfl,hL⟩;have BF:=hdq hL;obtain⟨r0,_,_,_,_⟩:=BF.o.c1 0 rfl;obtain⟨r1,_,_,_,_⟩:=BF.o.c1 1 rfl;refine⟨.tuple #[(),er],by simp[results,results191,go_sem,r0,r1],0,er,l',rfl,HR.o,?_⟩;exact BD.aF (BD.aB (a:=[]) (b:=[_,_]) (c:=l') BF.o)
theorem qP(T:List Nat)(w0 w:World)(l:List ai)(p q:Nat)(v:Int)(FP er:Int)(h:BD T w0 w (box p 99 #[v]::box q 26 #[FP]::l)):
  CallsD prog 209 #[p,q] (.panicking (aX er)) w fun e u' w'=>e= .returned (.tuple #[])/\u'= .panicking [{v:=eB er,recovered:=true}]/\BD T w0 w' (box p 99 #[()]::box q 26 #[er]::l):=by
 have HL:=hdq h;refine callsD_of_wpS func209 rfl fun c₀ cs hu=>?_;apply wpS_seq
 apply wpS_region
 simp[wpOpsS,go_sem,recoverD,hu,ntmps209,Exit.thenS,aX]
 apply wpS_seq
 apply wpS_region
 have hq:=l8 232 (.agg #[er]);simp[wpOpsS,go_sem,Exit.thenS,eB,hq]
 refine wpS_cond (t:=true) (by simp[Act.eval,Array.replicate]) ?_;simp only[if_true];refine wpS_of_wp ?_;simp only[Array.replicate_succ,Array.replicate_zero,List.push_toArray,List.append_toArray,sAq,sZq,sSq,nAq,cAq];have GZ:=dS er;obtain⟨p0,p1,zp,CK,CO⟩:=HL.o.c1 0 rfl;obtain⟨q0,q1,zq,Fb,Fg⟩:=HL.o.c1 1 rfl;have hpq:=HL.o.ne 0 1 rfl rfl (by decide);have F9:=Ne.symm hpq;go_wp2_with fail
 go_region
 all_goals
  have BF:=hdq ((((HL.o.set 0 rfl 0 (.int .i64 0)).set 1 rfl 0 (.int .i64 er)).alloc 232 #[er]).drew);have BH:=hdq (BD.aF (l:=[_,_]++l) BF.o);exact⟨rfl,_,rfl,.tuple #[],results_none rfl _ _ _,rfl,rfl,BH.o⟩
theorem o9(w:World)(p q:Addr):CallsD prog 209 #[.pointer (some p),.pointer (some q)] .returning w fun e u' w'=>e= .returned (.tuple #[])/\u'= .returning/\w=w':=by
 refine callsD_of_wpS func209 rfl fun c₀ cs hu=>?_;apply wpS_seq
 apply wpS_region
 simp[wpOpsS,go_sem,recoverD,hu,ntmps209,Exit.thenS]
 apply wpS_seq
 apply wpS_region
 have hq:∀w,(binOp .neq 20 .nilIface .nilIface).run prog w= .ok (.bool false) w:=fun w=>by kernel_rfl
 simp[wpOpsS,go_sem,Exit.thenS,hq]
 refine wpS_cond (t:=false) (by simp[Act.eval,Array.replicate]) ?_;simp only[Bool.false_eq_true,if_false];refine wpS_of_wp (wp_skip ?_);cases c₀
 simp_all [bodyPostS,results,results209]
theorem j3(T:List Nat)(w0 w:World)(l:List ai)(D:FuncId)(caps:Array Value)(R:Int->Int->List ai->Prop)(h:BD T w0 w l)(hen:∀args w,(callFunc D args).run prog w= .ok (.enter D args) w)(hd:∀T' W,BD T' W W l->Calls prog D caps W fun e w'=>∃(v:Int) (er:Int) (l':List ai),Ends e (.int .i64 v) er (.int .i64 0)/\R v er l'/\BD T' W w' l'):
  Calls prog 119 #[.func (.func D) #[] caps] w fun e w'=>∃(v:Int) (er:Int) (l':List ai),e= .returned (.tuple #[v,er])/\R v er l'/\BD T w0 w' l':=by
 have Ep:= @mfq;have BG:=hdq h;have HD:=hdq hd;go_enter_defers func119,ntmps119
 go_wp2_with fail
 refine ah ?_;intro w1 hw1;have BB:=hdq (BG.o.DZ hw1);generalize hq:w.heap.size+1=q at BB|-;generalize hp:w.heap.size=p at BB|-;obtain⟨T',hF,hb⟩:=BD.aN (m:=l) (r:=[box p 99 #[()],box q 26 #[()]]) (by simpa using BB.o);refine(HD.o T' _ hF).mono ?_;rintro e w2 ⟨v,er,l',he,hR,hL⟩;have HL2:=hdq (BD.aB (a:=[]) (b:=l') (c:=[box p 99 #[()],box q 26 #[()]]) (by simpa using hb _ _ hL));simp only[nAq,cAq]at HL2;have HR:=hdq hR;rcases he with ⟨rfl,rfl⟩|⟨hv,rfl⟩
 .obtain⟨p0,p1,zp,_,_⟩:=HL2.o.c1 0 rfl
  obtain⟨q0,q1,zq,_,_⟩:=HL2.o.c1 1 rfl;have hpq:=HL2.o.ne 0 1 rfl rfl (by decide);have F9:=Ne.symm hpq;have BF:=hdq ((HL2.o.set 0 rfl 0 (.int .i64 v)).set 1 rfl 0 (.int .i64 0));simp only[sSq,sZq,sAq]at BF;dsimp only;go_wp2_with fail
  refine leaves_cons (f:=209) (args:=#[.pointer (some ⟨p,0,none⟩),.pointer (some ⟨q,0,none⟩)]) (by simp) (by simp[go_sem]) ?_;refine(o9 _ _ _).mono ?_;rintro e u' w'' ⟨rfl,rfl,rfl⟩;obtain⟨r0,_,_,_,_⟩:=BF.o.c1 0 rfl;obtain⟨r1,_,_,_,_⟩:=BF.o.c1 1 rfl;refine⟨.tuple #[v,()],by simp[results,results119,go_sem,r0,r1],v,0,l',rfl,HR.o,?_⟩;exact BF.o.aB (a:=[]) (b:=[_,_]) (c:=l') |>.aF
 .injection hv with _ hv
  subst hv;dsimp only;refine leaves_cons (f:=209) (args:=#[.pointer (some ⟨p,0,none⟩),.pointer (some ⟨q,0,none⟩)]) (by simp) (by simp[go_sem]) ?_;refine(qP T w0 w2 l' p q (0) 0 er HL2.o).mono ?_;rintro e u' w'' ⟨rfl,rfl,hL⟩;have BF:=hdq hL;obtain⟨r0,_,_,_,_⟩:=BF.o.c1 0 rfl;obtain⟨r1,_,_,_,_⟩:=BF.o.c1 1 rfl;refine⟨.tuple #[(),er],by simp[results,results119,go_sem,r0,r1],0,er,l',rfl,HR.o,?_⟩;exact BD.aF (BD.aB (a:=[]) (b:=[_,_]) (c:=l') BF.o)
theorem qE(T:List Nat)(w0 w:World)(l:List ai)(p q:Nat)(v:Bool)(FP er:Int)(h:BD T w0 w (box p 4 #[v]::box q 26 #[FP]::l)):
  CallsD prog 189 #[p,q] (.panicking (aX er)) w fun e u' w'=>e= .returned (.tuple #[])/\u'= .panicking [{v:=eB er,recovered:=true}]/\BD T w0 w' (box p 4 #[false]::box q 26 #[er]::l):=by
 have HL:=hdq h;refine callsD_of_wpS func189 rfl fun c₀ cs hu=>?_;apply wpS_seq
 apply wpS_region
 simp[wpOpsS,go_sem,recoverD,hu,ntmps189,Exit.thenS,aX]
 apply wpS_seq
 apply wpS_region
 have hq:=l8 232 (.agg #[er]);simp[wpOpsS,go_sem,Exit.thenS,eB,hq]
 refine wpS_cond (t:=true) (by simp[Act.eval,Array.replicate]) ?_;simp only[if_true];refine wpS_of_wp ?_;simp only[Array.replicate_succ,Array.replicate_zero,List.push_toArray,List.append_toArray,sAq,sZq,sSq,nAq,cAq];have GZ:=dS er;obtain⟨p0,p1,zp,CK,CO⟩:=HL.o.c1 0 rfl;obtain⟨q0,q1,zq,Fb,Fg⟩:=HL.o.c1 1 rfl;have hpq:=HL.o.ne 0 1 rfl rfl (by decide);have F9:=Ne.symm hpq;go_wp2_with fail
 go_region
 all_goals
  have BF:=hdq ((((HL.o.set 0 rfl 0 (.bool false)).set 1 rfl 0 (.int .i64 er)).alloc 232 #[er]).drew);have BH:=hdq (BD.aF (l:=[_,_]++l) BF.o);exact⟨rfl,_,rfl,.tuple #[],results_none rfl _ _ _,rfl,rfl,BH.o⟩
theorem oP(w:World)(p q:Addr):CallsD prog 189 #[.pointer (some p),.pointer (some q)] .returning w fun e u' w'=>e= .returned (.tuple #[])/\u'= .returning/\w=w':=by
 refine callsD_of_wpS func189 rfl fun c₀ cs hu=>?_;apply wpS_seq
 apply wpS_region
 simp[wpOpsS,go_sem,recoverD,hu,ntmps189,Exit.thenS]
 apply wpS_seq
 apply wpS_region
 have hq:∀w,(binOp .neq 20 .nilIface .nilIface).run prog w= .ok (.bool false) w:=fun w=>by kernel_rfl
 simp[wpOpsS,go_sem,Exit.thenS,hq]
 refine wpS_cond (t:=false) (by simp[Act.eval,Array.replicate]) ?_;simp only[Bool.false_eq_true,if_false];refine wpS_of_wp (wp_skip ?_);cases c₀
 simp_all [bodyPostS,results,results189]
theorem iK(T:List Nat)(w0 w:World)(l:List ai)(D:FuncId)(caps:Array Value)(R:Bool->Int->List ai->Prop)(h:BD T w0 w l)(hen:∀args w,(callFunc D args).run prog w= .ok (.enter D args) w)(hd:∀T' W,BD T' W W l->Calls prog D caps W fun e w'=>∃(v:Bool) (er:Int) (l':List ai),Ends e (.bool v) er (.bool false)/\R v er l'/\BD T' W w' l'):
  Calls prog 91 #[.func (.func D) #[] caps] w fun e w'=>∃(v:Bool) (er:Int) (l':List ai),e= .returned (.tuple #[v,er])/\R v er l'/\BD T w0 w' l':=by
 have Ep:= @mfq;have BG:=hdq h;have HD:=hdq hd;go_enter_defers func91,ntmps91
 go_wp2_with fail
 refine ah ?_;intro w1 hw1;have BB:=hdq (BG.o.DZ hw1);generalize hq:w.heap.size+1=q at BB|-;generalize hp:w.heap.size=p at BB|-;obtain⟨T',hF,hb⟩:=BD.aN (m:=l) (r:=[box p 4 #[false],box q 26 #[()]]) (by simpa using BB.o);refine(HD.o T' _ hF).mono ?_;rintro e w2 ⟨v,er,l',he,hR,hL⟩;have HL2:=hdq (BD.aB (a:=[]) (b:=l') (c:=[box p 4 #[false],box q 26 #[()]]) (by simpa using hb _ _ hL));simp only[nAq,cAq]at HL2;have HR:=hdq hR;rcases he with ⟨rfl,rfl⟩|⟨hv,rfl⟩
 .obtain⟨p0,p1,zp,_,_⟩:=HL2.o.c1 0 rfl
  obtain⟨q0,q1,zq,_,_⟩:=HL2.o.c1 1 rfl;have hpq:=HL2.o.ne 0 1 rfl rfl (by decide);have F9:=Ne.symm hpq;have BF:=hdq ((HL2.o.set 0 rfl 0 (.bool v)).set 1 rfl 0 (.int .i64 0));simp only[sSq,sZq,sAq]at BF;dsimp only;go_wp2_with fail
  refine leaves_cons (f:=189) (args:=#[.pointer (some ⟨p,0,none⟩),.pointer (some ⟨q,0,none⟩)]) (by simp) (by simp[go_sem]) ?_;refine(oP _ _ _).mono ?_;rintro e u' w'' ⟨rfl,rfl,rfl⟩;obtain⟨r0,_,_,_,_⟩:=BF.o.c1 0 rfl;obtain⟨r1,_,_,_,_⟩:=BF.o.c1 1 rfl;refine⟨.tuple #[v,()],by simp[results,results91,go_sem,r0,r1],v,0,l',rfl,HR.o,?_⟩;exact BF.o.aB (a:=[]) (b:=[_,_]) (c:=l') |>.aF
 .injection hv with hv
  subst hv;dsimp only;refine leaves_cons (f:=189) (args:=#[.pointer (some ⟨p,0,none⟩),.pointer (some ⟨q,0,none⟩)]) (by simp) (by simp[go_sem]) ?_;refine(qE T w0 w2 l' p q (false) 0 er HL2.o).mono ?_;rintro e u' w'' ⟨rfl,rfl,hL⟩;have BF:=hdq hL;obtain⟨r0,_,_,_,_⟩:=BF.o.c1 0 rfl;obtain⟨r1,_,_,_,_⟩:=BF.o.c1 1 rfl;refine⟨.tuple #[false,er],by simp[results,results91,go_sem,r0,r1],false,er,l',rfl,HR.o,?_⟩;exact BD.aF (BD.aB (a:=[]) (b:=[_,_]) (c:=l') BF.o)
theorem ax{Q:Exit->Act->World->Prop}{ex:Exit}{a:Act}{W:World}(h:∀w2,W=w2->Q ex a w2):Q ex a W:=h W rfl
theorem BD.toW{T:List Nat}{w0 w w':World}{l:List ai}(h:BD T w0 w l)(e:w=w'):BD T w0 w' l:=e▸h
theorem dxq{P:Program}{ops:Array Oper}{K:Act->World->Prop}{Q':Exit->Act->World->Prop}{md:Region.Mode}{S:World->Prop}{fuel:Nat}{listed:Array Bool}{a:Act}{T:List Nat}{w0 w:World}{l:List ai}(hL:Hid (BD T w0 w l))(h:∀w2,Hid (BD T w0 w2 l)->Exit.then K Q' .normal a w2)(hr:Region.ready md ops listed=[]:=by kernel_rfl):wpAnyH P md ops (Exit.then K Q') S fuel listed a w:=wpAnyH_done hr (h w hL) _
theorem nmq{P:Program}{ops:Array Oper}{Q:Exit->Act->World->Prop}{md:Region.Mode}{S:World->Prop}{fuel:Nat}{listed:Array Bool}{a:Act}{T:List Nat}{w0 w:World}{l:List ai}(hL:Hid (BD T w0 w l))(hS:S w)(h:∀w2,Hid (BD T w0 w2 l)->S w2->wpAnyH P md ops Q S fuel listed a w2):wpAnyH P md ops Q S fuel listed a w:=h w hL hS
theorem adi{P:Program}{c:Code}{Q:Exit->Act->LG->Prop}{a:Act}{M:LG}{Q':Exit->Act->World->Prop}{T:List Nat}{w0 w:World}(h:W P c Q a M)(hl:BD T w0 w M.flatten)(hq:∀e a M w',Q e a M->BD T w0 w' M.flatten->Q' e a w'):c.wp P Q' a w:=Code.wp_mono (fun e a w ⟨M,hl,hQ⟩=>hq _ _ _ _ hQ hl) (h T w0 w hl)
theorem catQ{G:Prop}(h:G:=by
  refine go2 fun _ _=>?_;refine W.rgd ?_;repeat (refine' rgk ?_;rotate_left)
  refine rgz 0 ?_ ?_;refine go ?_;exact⟨rfl,rfl,[_,_],rfl⟩
  kernel_rfl):G:=h
structure aL where
 sync:Int
 thread:Int
 branch:Int
 flag:Int
 kind:Int
 num:Int
 lA:Option Addr
 lN:Nat
 lC:Nat
 is:Bool
def aL.zero:aL:=⟨0,0,0,0,0,0,none,0,0,false⟩
def aL.val(v:aL):Value:= .agg #[v.sync,v.thread,v.branch,v.flag,v.kind,v.num,.slice v.lA v.lN v.lC,v.is]
theorem aL.eG(v:aL):v.val= .agg #[v.sync,v.thread,v.branch,v.flag,v.kind,v.num,.slice v.lA v.lN v.lC,v.is]:=rfl
theorem BD.dA{T:List Nat}{w0 w:World}{l:List ai}{b t:Nat}(h:BD T w0 w l)(i:Nat){x0 x1 x2 x3 x4 x5 x6 x7:Value}(hi:l[i]? =some (Proofs.YtddnnapoaonmjaaGreatDoor.box b t #[x0,x1,x2,x3,x4,x5,x6,x7])):(w.cell? ⟨b,0,none⟩=some x0/\w.cell? ⟨b,1,none⟩=some x1/\w.cell? ⟨b,2,none⟩=some x2/\w.cell? ⟨b,3,none⟩=some x3/\w.cell? ⟨b,4,none⟩=some x4/\w.cell? ⟨b,5,none⟩=some x5/\w.cell? ⟨b,6,none⟩=some x6/\w.cell? ⟨b,7,none⟩=some x7)/\(w.frozen? ⟨b,0,none⟩=false/\w.frozen? ⟨b,1,none⟩=false/\w.frozen? ⟨b,2,none⟩=false/\w.frozen? ⟨b,3,none⟩=false/\w.frozen? ⟨b,4,none⟩=false/\w.frozen? ⟨b,5,none⟩=false/\w.frozen? ⟨b,6,none⟩=false/\w.frozen? ⟨b,7,none⟩=false)/\b<w.heap.size/\b<w.heap.size+1/\b<w.heap.size+1+1:=by
 have hb:=h.box i hi;have hl:=hb.lt;exact⟨⟨hb.cell 0,hb.cell 1,hb.cell 2,hb.cell 3,hb.cell 4,hb.cell 5,hb.cell 6,hb.cell 7⟩,⟨hb.frozen 0,hb.frozen 1,hb.frozen 2,hb.frozen 3,hb.frozen 4,hb.frozen 5,hb.frozen 6,hb.frozen 7⟩,hl,ltq hl,ltq (ltq hl)⟩
theorem o6(T:List Nat)(w0 w:World)(l:List ai)(p q:Nat)(v:aL)(FP er:Int)(h:BD T w0 w (box p 168 #[v.sync,v.thread,v.branch,v.flag,v.kind,v.num,.slice v.lA v.lN v.lC,v.is]::box q 26 #[FP]::l)):
  CallsD prog 193 #[p,q] (.panicking (aX er)) w fun e u' w'=>e= .returned (.tuple #[])/\u'= .panicking [{v:=eB er,recovered:=true}]/\BD T w0 w' (box p 168 #[(),(),(),(),(),(),True,false]::box q 26 #[er]::l):=by
 have HL:=hdq h;refine callsD_of_wpS func193 rfl fun c₀ cs hu=>?_;apply wpS_seq
 apply wpS_region
 simp[wpOpsS,go_sem,recoverD,hu,ntmps193,Exit.thenS,aX]
 apply wpS_seq
 apply wpS_region
 have hq:=l8 232 (.agg #[er]);simp[wpOpsS,go_sem,Exit.thenS,eB,hq]
 refine wpS_cond (t:=true) (by simp[Act.eval,Array.replicate]) ?_;simp only[if_true];refine wpS_of_wp ?_;simp only[Array.replicate_succ,Array.replicate_zero,List.push_toArray,List.append_toArray,sAq,sZq,sSq,nAq,cAq];have GZ:=dS er;refine adi (Q:=fun e a M=>e= .normal/\a.defers=[]/\∃r:LG,M=[[box p 168 #[(),(),(),(),(),(),True,false]],[box q 26 #[er]],l]++r) (M:=[[box p 168 #[v.sync,v.thread,v.branch,v.flag,v.kind,v.num,.slice v.lA v.lN v.lC,v.is]],[box q 26 #[FP]],l]) ?_ (by simpa using HL.o) ?_
 .exact catQ
 .rintro _ _ _ w' ⟨rfl,hd,r,rfl⟩ hl
  exact⟨hd,_,rfl,.tuple #[],results_none rfl _ _ _,rfl,rfl,by simpa using adN hl⟩
theorem nN(w:World)(p q:Addr):CallsD prog 193 #[.pointer (some p),.pointer (some q)] .returning w fun e u' w'=>e= .returned (.tuple #[])/\u'= .returning/\w=w':=by
 refine callsD_of_wpS func193 rfl fun c₀ cs hu=>?_;apply wpS_seq
 apply wpS_region
 simp[wpOpsS,go_sem,recoverD,hu,ntmps193,Exit.thenS]
 apply wpS_seq
 apply wpS_region
 have hq:∀w,(binOp .neq 20 .nilIface .nilIface).run prog w= .ok (.bool false) w:=fun w=>by kernel_rfl
 simp[wpOpsS,go_sem,Exit.thenS,hq]
 refine wpS_cond (t:=false) (by simp[Act.eval,Array.replicate]) ?_;simp only[Bool.false_eq_true,if_false];refine wpS_of_wp (wp_skip ?_);cases c₀
 simp_all [bodyPostS,results,results193]
theorem jy(T:List Nat)(w0 w:World)(l:List ai)(D:FuncId)(caps:Array Value)(R:aL->Int->List ai->Prop)(h:BD T w0 w l)(hen:∀args w,(callFunc D args).run prog w= .ok (.enter D args) w)(hd:∀T' W,BD T' W W l->Calls prog D caps W fun e w'=>∃(v:aL) (er:Int) (l':List ai),((er=0/\e= .returned v.val)\/(v=aL.zero/\e= .panicked (aX er)))/\R v er l'/\BD T' W w' l'):
  Calls prog 98 #[.func (.func D) #[] caps] w fun e w'=>∃(v:aL) (er:Int) (l':List ai),e= .returned (.tuple #[v.val,er])/\R v er l'/\BD T w0 w' l':=by
 have Ep:= @mfq;have BG:=hdq h;have HD:=hdq hd;go_enter_defers func98,ntmps98
 go_wp2_with fail
 refine ah ?_;intro w1 hw1;have BB:=hdq (BG.o.DZ hw1);generalize hq:w.heap.size+1=q at BB|-;generalize hp:w.heap.size=p at BB|-;obtain⟨T',hF,hb⟩:=BD.aN (m:=l) (r:=[box p 168 #[(),(),(),(),(),(),True,false],box q 26 #[()]]) (by simpa using BB.o);refine(HD.o T' _ hF).mono ?_;rintro e w2 ⟨v,er,l',he,hR,hL⟩;have HL2:=hdq (BD.aB (a:=[]) (b:=l') (c:=[box p 168 #[(),(),(),(),(),(),True,false],box q 26 #[()]]) (by simpa using hb _ _ hL));simp only[nAq,cAq]at HL2;have HR:=hdq hR;rcases he with ⟨rfl,rfl⟩|⟨rfl,rfl⟩
 .obtain⟨⟨p0,p1,p2,p3,p4,p5,p6,p7⟩,⟨g0,g1,g2,g3,g4,g5,g6,g7⟩,zp,CK,CO⟩:=HL2.o.dA 0 rfl
  obtain⟨q0,q1,zq,_,_⟩:=HL2.o.c1 1 rfl;have hpq:=HL2.o.ne 0 1 rfl rfl (by decide);have F9:=Ne.symm hpq;have BF:=hdq (((((((((HL2.o.set 0 rfl 0 (.int .i64 v.sync)).set 0 rfl 1 (.int .i64 v.thread)).set 0 rfl 2 (.int .i64 v.branch)).set 0 rfl 3 (.int .i64 v.flag)).set 0 rfl 4 (.int .i64 v.kind)).set 0 rfl 5 (.int .i64 v.num)).set 0 rfl 6 (.slice v.lA v.lN v.lC)).set 0 rfl 7 (.bool v.is)).set 1 rfl 0 (.int .i64 0));simp only[sSq,sZq,sAq]at BF;unfold aL.val;dsimp only;go_wp2_with fail
  refine leaves_cons (f:=193) (args:=#[.pointer (some ⟨p,0,none⟩),.pointer (some ⟨q,0,none⟩)]) (by simp) (by simp[go_sem]) ?_;refine(nN _ _ _).mono ?_;rintro e u' w'' ⟨rfl,rfl,rfl⟩;obtain⟨⟨s0,s1,s2,s3,s4,s5,s6,s7⟩,_,_,_,_⟩:=BF.o.dA 0 rfl;obtain⟨r1,_,_,_,_⟩:=BF.o.c1 1 rfl;refine⟨.tuple #[.agg #[v.sync,v.thread,v.branch,v.flag,v.kind,v.num,.slice v.lA v.lN v.lC,v.is],()],by simp[results,results98,go_sem,r1,s0,s1,s2,s3,s4,s5,s6,s7],v,0,l',rfl,HR.o,?_⟩;exact BD.aF (BD.aB (a:=[]) (b:=[_,_]) (c:=l') BF.o)
 .dsimp only
  refine leaves_cons (f:=193) (args:=#[.pointer (some ⟨p,0,none⟩),.pointer (some ⟨q,0,none⟩)]) (by simp) (by simp[go_sem]) ?_;refine(o6 T w0 w2 l' p q aL.zero 0 er HL2.o).mono ?_;rintro e u' w'' ⟨rfl,rfl,hL⟩;have BF:=hdq hL;obtain⟨⟨s0,s1,s2,s3,s4,s5,s6,s7⟩,_,_,_,_⟩:=BF.o.dA 0 rfl;obtain⟨r1,_,_,_,_⟩:=BF.o.c1 1 rfl;refine⟨.tuple #[.agg #[(),(),(),(),(),(),True,false],er],by simp[results,results98,go_sem,r1,s0,s1,s2,s3,s4,s5,s6,s7],aL.zero,er,l',rfl,HR.o,?_⟩;exact BD.aF (BD.aB (a:=[]) (b:=[_,_]) (c:=l') BF.o)
structure dP where
 sync:Int
 thread:Int
 branch:Int
 flag:Int
 kind:Int
 num:Int
 lA:Option Addr
 lN:Nat
 lC:Nat
def dP.zero:dP:=⟨0,0,0,0,0,0,none,0,0⟩
def dP.val(v:dP):Value:= .agg #[v.sync,v.thread,v.branch,v.flag,v.kind,v.num,.slice v.lA v.lN v.lC]
theorem dP.eG(v:dP):v.val= .agg #[v.sync,v.thread,v.branch,v.flag,v.kind,v.num,.slice v.lA v.lN v.lC]:=rfl
theorem BD.og{T:List Nat}{w0 w:World}{l:List ai}{b t:Nat}(h:BD T w0 w l)(i:Nat){x0 x1 x2 x3 x4 x5 x6:Value}(hi:l[i]? =some (Proofs.YtddnnapoaonmjaaGreatDoor.box b t #[x0,x1,x2,x3,x4,x5,x6])):(w.cell? ⟨b,0,none⟩=some x0/\w.cell? ⟨b,1,none⟩=some x1/\w.cell? ⟨b,2,none⟩=some x2/\w.cell? ⟨b,3,none⟩=some x3/\w.cell? ⟨b,4,none⟩=some x4/\w.cell? ⟨b,5,none⟩=some x5/\w.cell? ⟨b,6,none⟩=some x6)/\(w.frozen? ⟨b,0,none⟩=false/\w.frozen? ⟨b,1,none⟩=false/\w.frozen? ⟨b,2,none⟩=false/\w.frozen? ⟨b,3,none⟩=false/\w.frozen? ⟨b,4,none⟩=false/\w.frozen? ⟨b,5,none⟩=false/\w.frozen? ⟨b,6,none⟩=false)/\b<w.heap.size/\b<w.heap.size+1/\b<w.heap.size+1+1:=by
 have hb:=h.box i hi;have hl:=hb.lt;exact⟨⟨hb.cell 0,hb.cell 1,hb.cell 2,hb.cell 3,hb.cell 4,hb.cell 5,hb.cell 6⟩,⟨hb.frozen 0,hb.frozen 1,hb.frozen 2,hb.frozen 3,hb.frozen 4,hb.frozen 5,hb.frozen 6⟩,hl,ltq hl,ltq (ltq hl)⟩
theorem o8(T:List Nat)(w0 w:World)(l:List ai)(p q:Nat)(v:dP)(FP er:Int)(h:BD T w0 w (box p 47 #[v.sync,v.thread,v.branch,v.flag,v.kind,v.num,.slice v.lA v.lN v.lC]::box q 26 #[FP]::l)):
  CallsD prog 218 #[p,q] (.panicking (aX er)) w fun e u' w'=>e= .returned (.tuple #[])/\u'= .panicking [{v:=eB er,recovered:=true}]/\BD T w0 w' (box p 47 #[(),(),(),(),(),(),True]::box q 26 #[er]::l):=by
 have HL:=hdq h;refine callsD_of_wpS func218 rfl fun c₀ cs hu=>?_;apply wpS_seq
 apply wpS_region
 simp[wpOpsS,go_sem,recoverD,hu,ntmps218,Exit.thenS,aX]
 apply wpS_seq
 apply wpS_region
 have hq:=l8 232 (.agg #[er]);simp[wpOpsS,go_sem,Exit.thenS,eB,hq]
 refine wpS_cond (t:=true) (by simp[Act.eval,Array.replicate]) ?_;simp only[if_true];refine wpS_of_wp ?_;simp only[Array.replicate_succ,Array.replicate_zero,List.push_toArray,List.append_toArray,sAq,sZq,sSq,nAq,cAq];have GZ:=dS er;refine adi (Q:=fun e a M=>e= .normal/\a.defers=[]/\∃r:LG,M=[[box p 47 #[(),(),(),(),(),(),True]],[box q 26 #[er]],l]++r) (M:=[[box p 47 #[v.sync,v.thread,v.branch,v.flag,v.kind,v.num,.slice v.lA v.lN v.lC]],[box q 26 #[FP]],l]) ?_ (by simpa using HL.o) ?_
 .exact catQ
 .rintro _ _ _ w' ⟨rfl,hd,r,rfl⟩ hl
  exact⟨hd,_,rfl,.tuple #[],results_none rfl _ _ _,rfl,rfl,by simpa using adN hl⟩
theorem nO(w:World)(p q:Addr):CallsD prog 218 #[.pointer (some p),.pointer (some q)] .returning w fun e u' w'=>e= .returned (.tuple #[])/\u'= .returning/\w=w':=by
 refine callsD_of_wpS func218 rfl fun c₀ cs hu=>?_;apply wpS_seq
 apply wpS_region
 simp[wpOpsS,go_sem,recoverD,hu,ntmps218,Exit.thenS]
 apply wpS_seq
 apply wpS_region
 have hq:∀w,(binOp .neq 20 .nilIface .nilIface).run prog w= .ok (.bool false) w:=fun w=>by kernel_rfl
 simp[wpOpsS,go_sem,Exit.thenS,hq]
 refine wpS_cond (t:=false) (by simp[Act.eval,Array.replicate]) ?_;simp only[Bool.false_eq_true,if_false];refine wpS_of_wp (wp_skip ?_);cases c₀
 simp_all [bodyPostS,results,results218]
theorem rG(T:List Nat)(w0 w:World)(l:List ai)(D:FuncId)(caps:Array Value)(R:dP->Int->List ai->Prop)(h:BD T w0 w l)(hen:∀args w,(callFunc D args).run prog w= .ok (.enter D args) w)(hd:∀T' W,BD T' W W l->Calls prog D caps W fun e w'=>∃(v:dP) (er:Int) (l':List ai),((er=0/\e= .returned v.val)\/(v=dP.zero/\e= .panicked (aX er)))/\R v er l'/\BD T' W w' l'):
  Calls prog 135 #[.func (.func D) #[] caps] w fun e w'=>∃(v:dP) (er:Int) (l':List ai),e= .returned (.tuple #[v.val,er])/\R v er l'/\BD T w0 w' l':=by
 have Ep:= @mfq;have BG:=hdq h;have HD:=hdq hd;go_enter_defers func135,ntmps135
 go_wp2_with fail
 refine ah ?_;intro w1 hw1;have BB:=hdq (BG.o.DZ hw1);generalize hq:w.heap.size+1=q at BB|-;generalize hp:w.heap.size=p at BB|-;obtain⟨T',hF,hb⟩:=BD.aN (m:=l) (r:=[box p 47 #[(),(),(),(),(),(),True],box q 26 #[()]]) (by simpa using BB.o);refine(HD.o T' _ hF).mono ?_;rintro e w2 ⟨v,er,l',he,hR,hL⟩;have HL2:=hdq (BD.aB (a:=[]) (b:=l') (c:=[box p 47 #[(),(),(),(),(),(),True],box q 26 #[()]]) (by simpa using hb _ _ hL));simp only[nAq,cAq]at HL2;have HR:=hdq hR;rcases he with ⟨rfl,rfl⟩|⟨rfl,rfl⟩
 .obtain⟨⟨p0,p1,p2,p3,p4,p5,p6⟩,⟨g0,g1,g2,g3,g4,g5,g6⟩,zp,CK,CO⟩:=HL2.o.og 0 rfl
  obtain⟨q0,q1,zq,_,_⟩:=HL2.o.c1 1 rfl;have hpq:=HL2.o.ne 0 1 rfl rfl (by decide);have F9:=Ne.symm hpq;have BF:=hdq ((((((((HL2.o.set 0 rfl 0 (.int .i64 v.sync)).set 0 rfl 1 (.int .i64 v.thread)).set 0 rfl 2 (.int .i64 v.branch)).set 0 rfl 3 (.int .i64 v.flag)).set 0 rfl 4 (.int .i64 v.kind)).set 0 rfl 5 (.int .i64 v.num)).set 0 rfl 6 (.slice v.lA v.lN v.lC)).set 1 rfl 0 (.int .i64 0));simp only[sSq,sZq,sAq]at BF;unfold dP.val;dsimp only;go_wp2_with fail
  refine leaves_cons (f:=218) (args:=#[.pointer (some ⟨p,0,none⟩),.pointer (some ⟨q,0,none⟩)]) (by simp) (by simp[go_sem]) ?_;refine(nO _ _ _).mono ?_;rintro e u' w'' ⟨rfl,rfl,rfl⟩;obtain⟨⟨s0,s1,s2,s3,s4,s5,s6⟩,_,_,_,_⟩:=BF.o.og 0 rfl;obtain⟨r1,_,_,_,_⟩:=BF.o.c1 1 rfl;refine⟨.tuple #[.agg #[v.sync,v.thread,v.branch,v.flag,v.kind,v.num,.slice v.lA v.lN v.lC],()],by simp[results,results135,go_sem,r1,s0,s1,s2,s3,s4,s5,s6],v,0,l',rfl,HR.o,?_⟩;exact BD.aF (BD.aB (a:=[]) (b:=[_,_]) (c:=l') BF.o)
 .dsimp only
  refine leaves_cons (f:=218) (args:=#[.pointer (some ⟨p,0,none⟩),.pointer (some ⟨q,0,none⟩)]) (by simp) (by simp[go_sem]) ?_;refine(o8 T w0 w2 l' p q dP.zero 0 er HL2.o).mono ?_;rintro e u' w'' ⟨rfl,rfl,hL⟩;have BF:=hdq hL;obtain⟨⟨s0,s1,s2,s3,s4,s5,s6⟩,_,_,_,_⟩:=BF.o.og 0 rfl;obtain⟨r1,_,_,_,_⟩:=BF.o.c1 1 rfl;refine⟨.tuple #[.agg #[(),(),(),(),(),(),True],er],by simp[results,results135,go_sem,r1,s0,s1,s2,s3,s4,s5,s6],dP.zero,er,l',rfl,HR.o,?_⟩;exact BD.aF (BD.aB (a:=[]) (b:=[_,_]) (c:=l') BF.o)
structure bL where
 thread:Int
 jr:Option Addr
 gm:Nat
 jv:Nat
 ko:Option Addr
 kz:Nat
 jR:Nat
 flag:Int
 parked:Bool
 done:Bool
 branch:Int
 kind:Int
 num:Int
 lA:Option Addr
 lN:Nat
 lC:Nat
 partner:Int
def bL.zero:bL:=⟨0,none,0,0,none,0,0,0,false,false,0,0,0,none,0,0,0⟩
def bL.val(v:bL):Value:= .agg #[v.thread,.slice v.jr v.gm v.jv,.slice v.ko v.kz v.jR,v.flag,v.parked,v.done,v.branch,v.kind,v.num,.slice v.lA v.lN v.lC,v.partner]
theorem bL.eG(v:bL):v.val= .agg #[v.thread,.slice v.jr v.gm v.jv,.slice v.ko v.kz v.jR,v.flag,v.parked,v.done,v.branch,v.kind,v.num,.slice v.lA v.lN v.lC,v.partner]:=rfl
theorem BD.sM{T:List Nat}{w0 w:World}{l:List ai}{b t:Nat}(h:BD T w0 w l)(i:Nat){x0 x1 x2 x3 x4 x5 x6 x7 x8 x9 x10:Value}(hi:l[i]? =some (Proofs.YtddnnapoaonmjaaGreatDoor.box b t #[x0,x1,x2,x3,x4,x5,x6,x7,x8,x9,x10])):(w.cell? ⟨b,0,none⟩=some x0/\w.cell? ⟨b,1,none⟩=some x1/\w.cell? ⟨b,2,none⟩=some x2/\w.cell? ⟨b,3,none⟩=some x3/\w.cell? ⟨b,4,none⟩=some x4/\w.cell? ⟨b,5,none⟩=some x5/\w.cell? ⟨b,6,none⟩=some x6/\w.cell? ⟨b,7,none⟩=some x7/\w.cell? ⟨b,8,none⟩=some x8/\w.cell? ⟨b,9,none⟩=some x9/\w.cell? ⟨b,10,none⟩=some x10)/\(w.frozen? ⟨b,0,none⟩=false/\w.frozen? ⟨b,1,none⟩=false/\w.frozen? ⟨b,2,none⟩=false/\w.frozen? ⟨b,3,none⟩=false/\w.frozen? ⟨b,4,none⟩=false/\w.frozen? ⟨b,5,none⟩=false/\w.frozen? ⟨b,6,none⟩=false/\w.frozen? ⟨b,7,none⟩=false/\w.frozen? ⟨b,8,none⟩=false/\w.frozen? ⟨b,9,none⟩=false/\w.frozen? ⟨b,10,none⟩=false)/\b<w.heap.size/\b<w.heap.size+1/\b<w.heap.size+1+1:=by
 have hb:=h.box i hi;have hl:=hb.lt;exact⟨⟨hb.cell 0,hb.cell 1,hb.cell 2,hb.cell 3,hb.cell 4,hb.cell 5,hb.cell 6,hb.cell 7,hb.cell 8,hb.cell 9,hb.cell 10⟩,⟨hb.frozen 0,hb.frozen 1,hb.frozen 2,hb.frozen 3,hb.frozen 4,hb.frozen 5,hb.frozen 6,hb.frozen 7,hb.frozen 8,hb.frozen 9,hb.frozen 10⟩,hl,ltq hl,ltq (ltq hl)⟩
theorem qR(T:List Nat)(w0 w:World)(l:List ai)(p q:Nat)(v:bL)(FP er:Int)(h:BD T w0 w (box p 61 #[v.thread,.slice v.jr v.gm v.jv,.slice v.ko v.kz v.jR,v.flag,v.parked,v.done,v.branch,v.kind,v.num,.slice v.lA v.lN v.lC,v.partner]::box q 26 #[FP]::l)):
  CallsD prog 172 #[p,q] (.panicking (aX er)) w fun e u' w'=>e= .returned (.tuple #[])/\u'= .panicking [{v:=eB er,recovered:=true}]/\BD T w0 w' (box p 61 #[(),True,True,(),false,false,(),(),(),True,()]::box q 26 #[er]::l):=by
 have HL:=hdq h;refine callsD_of_wpS func172 rfl fun c₀ cs hu=>?_;apply wpS_seq
 apply wpS_region
 simp[wpOpsS,go_sem,recoverD,hu,ntmps172,Exit.thenS,aX]
 apply wpS_seq
 apply wpS_region
 have hq:=l8 232 (.agg #[er]);simp[wpOpsS,go_sem,Exit.thenS,eB,hq]
 refine wpS_cond (t:=true) (by simp[Act.eval,Array.replicate]) ?_;simp only[if_true];refine wpS_of_wp ?_;simp only[Array.replicate_succ,Array.replicate_zero,List.push_toArray,List.append_toArray,sAq,sZq,sSq,nAq,cAq];have GZ:=dS er;refine adi (Q:=fun e a M=>e= .normal/\a.defers=[]/\∃r:LG,M=[[box p 61 #[(),True,True,(),false,false,(),(),(),True,()]],[box q 26 #[er]],l]++r) (M:=[[box p 61 #[v.thread,.slice v.jr v.gm v.jv,.slice v.ko v.kz v.jR,v.flag,v.parked,v.done,v.branch,v.kind,v.num,.slice v.lA v.lN v.lC,v.partner]],[box q 26 #[FP]],l]) ?_ (by simpa using HL.o) ?_
 .exact catQ
 .rintro _ _ _ w' ⟨rfl,hd,r,rfl⟩ hl
  exact⟨hd,_,rfl,.tuple #[],results_none rfl _ _ _,rfl,rfl,by simpa using adN hl⟩
theorem oZ(w:World)(p q:Addr):CallsD prog 172 #[.pointer (some p),.pointer (some q)] .returning w fun e u' w'=>e= .returned (.tuple #[])/\u'= .returning/\w=w':=by
 refine callsD_of_wpS func172 rfl fun c₀ cs hu=>?_;apply wpS_seq
 apply wpS_region
 simp[wpOpsS,go_sem,recoverD,hu,ntmps172,Exit.thenS]
 apply wpS_seq
 apply wpS_region
 have hq:∀w,(binOp .neq 20 .nilIface .nilIface).run prog w= .ok (.bool false) w:=fun w=>by kernel_rfl
 simp[wpOpsS,go_sem,Exit.thenS,hq]
 refine wpS_cond (t:=false) (by simp[Act.eval,Array.replicate]) ?_;simp only[Bool.false_eq_true,if_false];refine wpS_of_wp (wp_skip ?_);cases c₀
 simp_all [bodyPostS,results,results172]
theorem sZ(T:List Nat)(w0 w:World)(l:List ai)(D:FuncId)(caps:Array Value)(R:bL->Int->List ai->Prop)(h:BD T w0 w l)(hen:∀args w,(callFunc D args).run prog w= .ok (.enter D args) w)(hd:∀T' W,BD T' W W l->Calls prog D caps W fun e w'=>∃(v:bL) (er:Int) (l':List ai),((er=0/\e= .returned v.val)\/(v=bL.zero/\e= .panicked (aX er)))/\R v er l'/\BD T' W w' l'):
  Calls prog 64 #[.func (.func D) #[] caps] w fun e w'=>∃(v:bL) (er:Int) (l':List ai),e= .returned (.tuple #[v.val,er])/\R v er l'/\BD T w0 w' l':=by
 have Ep:= @mfq;have BG:=hdq h;have HD:=hdq hd;go_enter_defers func64,ntmps64
 go_wp2_with fail
 refine ah ?_;intro w1 hw1;have BB:=hdq (BG.o.DZ hw1);generalize hq:w.heap.size+1=q at BB|-;generalize hp:w.heap.size=p at BB|-;obtain⟨T',hF,hb⟩:=BD.aN (m:=l) (r:=[box p 61 #[(),True,True,(),false,false,(),(),(),True,()],box q 26 #[()]]) (by simpa using BB.o);refine(HD.o T' _ hF).mono ?_;rintro e w2 ⟨v,er,l',he,hR,hL⟩;have HL2:=hdq (BD.aB (a:=[]) (b:=l') (c:=[box p 61 #[(),True,True,(),false,false,(),(),(),True,()],box q 26 #[()]]) (by simpa using hb _ _ hL));simp only[nAq,cAq]at HL2;have HR:=hdq hR;rcases he with ⟨rfl,rfl⟩|⟨rfl,rfl⟩
 .obtain⟨⟨p0,p1,p2,p3,p4,p5,p6,p7,p8,p9,Ef⟩,⟨g0,g1,g2,g3,g4,g5,g6,g7,g8,g9,g10⟩,zp,CK,CO⟩:=HL2.o.sM 0 rfl
  obtain⟨q0,q1,zq,_,_⟩:=HL2.o.c1 1 rfl;have hpq:=HL2.o.ne 0 1 rfl rfl (by decide);have F9:=Ne.symm hpq;have BF:=hdq ((((((((((((HL2.o.set 0 rfl 0 (.int .i64 v.thread)).set 0 rfl 1 (.slice v.jr v.gm v.jv)).set 0 rfl 2 (.slice v.ko v.kz v.jR)).set 0 rfl 3 (.int .i64 v.flag)).set 0 rfl 4 (.bool v.parked)).set 0 rfl 5 (.bool v.done)).set 0 rfl 6 (.int .i64 v.branch)).set 0 rfl 7 (.int .i64 v.kind)).set 0 rfl 8 (.int .i64 v.num)).set 0 rfl 9 (.slice v.lA v.lN v.lC)).set 0 rfl 10 (.int .i64 v.partner)).set 1 rfl 0 (.int .i64 0));simp only[sSq,sZq,sAq]at BF;unfold bL.val;dsimp only;go_wp2_with fail
  refine leaves_cons (f:=172) (args:=#[.pointer (some ⟨p,0,none⟩),.pointer (some ⟨q,0,none⟩)]) (by simp) (by simp[go_sem]) ?_;refine(oZ _ _ _).mono ?_;rintro e u' w'' ⟨rfl,rfl,rfl⟩;obtain⟨⟨s0,s1,s2,s3,s4,s5,s6,s7,s8,s9,s10⟩,_,_,_,_⟩:=BF.o.sM 0 rfl;obtain⟨r1,_,_,_,_⟩:=BF.o.c1 1 rfl;refine⟨.tuple #[.agg #[v.thread,.slice v.jr v.gm v.jv,.slice v.ko v.kz v.jR,v.flag,v.parked,v.done,v.branch,v.kind,v.num,.slice v.lA v.lN v.lC,v.partner],()],by simp[results,results64,go_sem,r1,s0,s1,s2,s3,s4,s5,s6,s7,s8,s9,s10],v,0,l',rfl,HR.o,?_⟩;exact BD.aF (BD.aB (a:=[]) (b:=[_,_]) (c:=l') BF.o)
 .dsimp only
  refine leaves_cons (f:=172) (args:=#[.pointer (some ⟨p,0,none⟩),.pointer (some ⟨q,0,none⟩)]) (by simp) (by simp[go_sem]) ?_;refine(qR T w0 w2 l' p q bL.zero 0 er HL2.o).mono ?_;rintro e u' w'' ⟨rfl,rfl,hL⟩;have BF:=hdq hL;obtain⟨⟨s0,s1,s2,s3,s4,s5,s6,s7,s8,s9,s10⟩,_,_,_,_⟩:=BF.o.sM 0 rfl;obtain⟨r1,_,_,_,_⟩:=BF.o.c1 1 rfl;refine⟨.tuple #[.agg #[(),True,True,(),false,false,(),(),(),True,()],er],by simp[results,results64,go_sem,r1,s0,s1,s2,s3,s4,s5,s6,s7,s8,s9,s10],bL.zero,er,l',rfl,HR.o,?_⟩;exact BD.aF (BD.aB (a:=[]) (b:=[_,_]) (c:=l') BF.o)
def Fe(w:World)(b g:Nat)(v1 v2 v3:Value):Prop:=w.cell? ⟨b,0,none⟩=some (.pointer (some ⟨g,0,none⟩))/\w.cell? ⟨b,1,none⟩=some v1/\w.cell? ⟨b,2,none⟩=some v2/\w.cell? ⟨b,3,none⟩=some v3
theorem Fe.touch{w w':World}{b g:Nat}{v1 v2 v3:Value}(h:Fe w b g v1 v2 v3)(ht:Touch [] w w'):Fe w' b g v1 v2 v3:=⟨ht.cellOf h.1,ht.cellOf h.2.1,ht.cellOf h.2.2.1,ht.cellOf h.2.2.2⟩
theorem Fe.lt{w:World}{b g:Nat}{v1 v2 v3:Value}(h:Fe w b g v1 v2 v3):b<w.heap.size:=World.block_lt_of_cell? _ _ h.1
theorem dG(w:World)(b g:Nat)(v1 v2 v3:Value)(h:Fe w b g v1 v2 v3):Calls prog 49 #[b] w fun e w'=>e= .returned (.bool false)/\w=w':=by
 have hl:=h.lt;obtain⟨h0,h1,h2,h3⟩:=h;go_enter func49,ntmps49
 go_wp2;go_ret
 exact⟨rfl,rfl⟩
theorem rQ(w:World)(b g bw:Nat)(v1 v2 v3:Value)(h:Fe w b g v1 v2 v3)(hb:w.cell? ⟨bw,0,none⟩=some (.pointer (some ⟨b,0,none⟩)))(a:Option Addr)(m c:Nat)(hv:v3= .slice a m c):Calls prog 174 #[bw] w fun e w'=>e= .returned (.slice a m c)/\w=w':=by
 have hl:=h.lt;have hbl:bw<w.heap.size:=World.block_lt_of_cell? _ _ hb;subst hv;obtain⟨h0,h1,h2,h3⟩:=h;go_enter func174,ntmps174
 go_wp2;go_ret
 exact⟨rfl,rfl⟩
theorem uF(w:World)(b g bw:Nat)(v1 v2 v3:Value)(h:Fe w b g v1 v2 v3)(hb:w.cell? ⟨bw,0,none⟩=some (.pointer (some ⟨b,0,none⟩)))(bb o m c:Nat)(hv:v3= .slice (some ⟨bb,o,none⟩) m c)(k:Nat)(hk:k<m):
  Calls prog 173 #[b,(k:Int),.func (.func 174) #[] #[bw]] w fun e w'=>e= .returned (.pointer (some ⟨bb,o+k*11,none⟩))/\w=w':=by
 have HN:=hdq (dG w b g v1 v2 v3 h);have JS:=hdq (rQ w b g bw v1 v2 v3 h hb _ m c hv);have hk0:(0:Int)<=(k:Int):=by omega
 have hk1:(k:Int)<(m:Int):=by omega
 go_enter func173,ntmps173
 go_wp2_with fail
 refine HN.o.mono ?_;rintro e w' ⟨rfl,rfl⟩;go_wp2_with fail
 refine(require_ok _ _).mono ?_;rintro e w' ⟨rfl,rfl⟩;go_wp2_with fail
 refine JS.o.mono ?_;rintro e w' ⟨rfl,rfl⟩;go_wp2_with fail
 refine(require_ok _ _).mono ?_;rintro e w' ⟨rfl,rfl⟩;dsimp only;go_wp2;go_ret
 exact⟨rfl,rfl⟩
theorem rq(w:World)(b g bw:Nat)(v1 v2 v3:Value)(h:Fe w b g v1 v2 v3)(hb:w.cell? ⟨bw,0,none⟩=some (.pointer (some ⟨b,0,none⟩)))(a:Option Addr)(m c:Nat)(hv:v3= .slice a m c)(k:Int)(hk:¬(0<=k/\k<(m:Int))):
  Calls prog 173 #[b,k,.func (.func 174) #[] #[bw]] w fun e w'=>e= .panicked (aX 4)/\w=w':=by
 have HN:=hdq (dG w b g v1 v2 v3 h);have JS:=hdq (rQ w b g bw v1 v2 v3 h hb a m c hv);go_enter func173,ntmps173
 go_wp2_with fail
 refine HN.o.mono ?_;rintro e w' ⟨rfl,rfl⟩;go_wp2_with fail
 refine(require_ok _ _).mono ?_;rintro e w' ⟨rfl,rfl⟩;go_wp2_with fail
 refine JS.o.mono ?_;rintro e w' ⟨rfl,rfl⟩;by_cases hk0:0<=k
 .have hk2:¬k<(m:Int):=fun h=>hk ⟨hk0,h⟩
  have hd2:decide (k<(m:Int))=false:=by simpa using hk2
  have hd3:decide (0<=k)=true:=by simpa using hk0
  go_wp2_with fail
  refine(aY _ _).mono ?_;rintro e w' ⟨rfl,rfl⟩;dsimp only;exact⟨rfl,rfl,rfl⟩
 .have hd3:decide (0<=k)=false:=by simpa using hk0
  go_wp2_with fail
  refine(aY _ _).mono ?_;rintro e w' ⟨rfl,rfl⟩;dsimp only;exact⟨rfl,rfl,rfl⟩
theorem rO(w:World)(b g bw:Nat)(v1 v2 v3:Value)(h:Fe w b g v1 v2 v3)(hb:w.cell? ⟨bw,0,none⟩=some (.pointer (some ⟨b,0,none⟩)))(a:Option Addr)(m c:Nat)(hv:v2= .slice a m c):Calls prog 202 #[bw] w fun e w'=>e= .returned (.slice a m c)/\w=w':=by
 have hl:=h.lt;have hbl:bw<w.heap.size:=World.block_lt_of_cell? _ _ hb;subst hv;obtain⟨h0,h1,h2,h3⟩:=h;go_enter func202,ntmps202
 go_wp2;go_ret
 exact⟨rfl,rfl⟩
theorem tY(w:World)(b g bw:Nat)(v1 v2 v3:Value)(h:Fe w b g v1 v2 v3)(hb:w.cell? ⟨bw,0,none⟩=some (.pointer (some ⟨b,0,none⟩)))(bb o m c:Nat)(hv:v2= .slice (some ⟨bb,o,none⟩) m c)(k:Nat)(hk:k<m):
  Calls prog 201 #[b,(k:Int),.func (.func 202) #[] #[bw]] w fun e w'=>e= .returned (.pointer (some ⟨bb,o+k,none⟩))/\w=w':=by
 have HN:=hdq (dG w b g v1 v2 v3 h);have JS:=hdq (rO w b g bw v1 v2 v3 h hb _ m c hv);have hk0:(0:Int)<=(k:Int):=by omega
 have hk1:(k:Int)<(m:Int):=by omega
 go_enter func201,ntmps201
 go_wp2_with fail
 refine HN.o.mono ?_;rintro e w' ⟨rfl,rfl⟩;go_wp2_with fail
 refine(require_ok _ _).mono ?_;rintro e w' ⟨rfl,rfl⟩;go_wp2_with fail
 refine JS.o.mono ?_;rintro e w' ⟨rfl,rfl⟩;go_wp2_with fail
 refine(require_ok _ _).mono ?_;rintro e w' ⟨rfl,rfl⟩;dsimp only;go_wp2;go_ret
 exact⟨rfl,rfl⟩
theorem ru(w:World)(b g bw:Nat)(v1 v2 v3:Value)(h:Fe w b g v1 v2 v3)(hb:w.cell? ⟨bw,0,none⟩=some (.pointer (some ⟨b,0,none⟩)))(a:Option Addr)(m c:Nat)(hv:v2= .slice a m c)(k:Int)(hk:¬(0<=k/\k<(m:Int))):
  Calls prog 201 #[b,k,.func (.func 202) #[] #[bw]] w fun e w'=>e= .panicked (aX 4)/\w=w':=by
 have HN:=hdq (dG w b g v1 v2 v3 h);have JS:=hdq (rO w b g bw v1 v2 v3 h hb a m c hv);go_enter func201,ntmps201
 go_wp2_with fail
 refine HN.o.mono ?_;rintro e w' ⟨rfl,rfl⟩;go_wp2_with fail
 refine(require_ok _ _).mono ?_;rintro e w' ⟨rfl,rfl⟩;go_wp2_with fail
 refine JS.o.mono ?_;rintro e w' ⟨rfl,rfl⟩;by_cases hk0:0<=k
 .have hk2:¬k<(m:Int):=fun h=>hk ⟨hk0,h⟩
  have hd2:decide (k<(m:Int))=false:=by simpa using hk2
  have hd3:decide (0<=k)=true:=by simpa using hk0
  go_wp2_with fail
  refine(aY _ _).mono ?_;rintro e w' ⟨rfl,rfl⟩;dsimp only;exact⟨rfl,rfl,rfl⟩
 .have hd3:decide (0<=k)=false:=by simpa using hk0
  go_wp2_with fail
  refine(aY _ _).mono ?_;rintro e w' ⟨rfl,rfl⟩;dsimp only;exact⟨rfl,rfl,rfl⟩
theorem sJ(w:World)(b g bw:Nat)(v1 v2 v3:Value)(h:Fe w b g v1 v2 v3)(hb:w.cell? ⟨bw,0,none⟩=some (.pointer (some ⟨b,0,none⟩)))(a:Option Addr)(m c:Nat)(hv:v1= .slice a m c):Calls prog 179 #[bw] w fun e w'=>e= .returned (.slice a m c)/\w=w':=by
 have hl:=h.lt;have hbl:bw<w.heap.size:=World.block_lt_of_cell? _ _ hb;subst hv;obtain⟨h0,h1,h2,h3⟩:=h;go_enter func179,ntmps179
 go_wp2;go_ret
 exact⟨rfl,rfl⟩
theorem um(w:World)(b g bw:Nat)(v1 v2 v3:Value)(h:Fe w b g v1 v2 v3)(hb:w.cell? ⟨bw,0,none⟩=some (.pointer (some ⟨b,0,none⟩)))(bb o m c:Nat)(hv:v1= .slice (some ⟨bb,o,none⟩) m c)(k:Nat)(hk:k<m):
  Calls prog 178 #[b,(k:Int),.func (.func 179) #[] #[bw]] w fun e w'=>e= .returned (.pointer (some ⟨bb,o+k,none⟩))/\w=w':=by
 have HN:=hdq (dG w b g v1 v2 v3 h);have JS:=hdq (sJ w b g bw v1 v2 v3 h hb _ m c hv);have hk0:(0:Int)<=(k:Int):=by omega
 have hk1:(k:Int)<(m:Int):=by omega
 go_enter func178,ntmps178
 go_wp2_with fail
 refine HN.o.mono ?_;rintro e w' ⟨rfl,rfl⟩;go_wp2_with fail
 refine(require_ok _ _).mono ?_;rintro e w' ⟨rfl,rfl⟩;go_wp2_with fail
 refine JS.o.mono ?_;rintro e w' ⟨rfl,rfl⟩;go_wp2_with fail
 refine(require_ok _ _).mono ?_;rintro e w' ⟨rfl,rfl⟩;dsimp only;go_wp2;go_ret
 exact⟨rfl,rfl⟩
theorem rC(w:World)(b g bw:Nat)(v1 v2 v3:Value)(h:Fe w b g v1 v2 v3)(hb:w.cell? ⟨bw,0,none⟩=some (.pointer (some ⟨b,0,none⟩)))(a:Option Addr)(m c:Nat)(hv:v1= .slice a m c)(k:Int)(hk:¬(0<=k/\k<(m:Int))):
  Calls prog 178 #[b,k,.func (.func 179) #[] #[bw]] w fun e w'=>e= .panicked (aX 4)/\w=w':=by
 have HN:=hdq (dG w b g v1 v2 v3 h);have JS:=hdq (sJ w b g bw v1 v2 v3 h hb a m c hv);go_enter func178,ntmps178
 go_wp2_with fail
 refine HN.o.mono ?_;rintro e w' ⟨rfl,rfl⟩;go_wp2_with fail
 refine(require_ok _ _).mono ?_;rintro e w' ⟨rfl,rfl⟩;go_wp2_with fail
 refine JS.o.mono ?_;rintro e w' ⟨rfl,rfl⟩;by_cases hk0:0<=k
 .have hk2:¬k<(m:Int):=fun h=>hk ⟨hk0,h⟩
  have hd2:decide (k<(m:Int))=false:=by simpa using hk2
  have hd3:decide (0<=k)=true:=by simpa using hk0
  go_wp2_with fail
  refine(aY _ _).mono ?_;rintro e w' ⟨rfl,rfl⟩;dsimp only;exact⟨rfl,rfl,rfl⟩
 .have hd3:decide (0<=k)=false:=by simpa using hk0
  go_wp2_with fail
  refine(aY _ _).mono ?_;rintro e w' ⟨rfl,rfl⟩;dsimp only;exact⟨rfl,rfl,rfl⟩
section
theorem Yj{P:Program}(w:World)(a:Addr)(m:Mode):(store a .nilFunc m).run P w=stored P w a .nilFunc m:=run_store P w a _ m rfl
theorem YW{P:Program}(w:World)(a:Addr)(m:Mode)(f:Fn)(x y:Array Value):(store a (.func f x y) m).run P w=stored P w a (.func f x y) m:=run_store P w a _ m rfl
attribute [local go_sem] Yj YW
def YD(T:List Nat)(w0:World)(R:Option Nat->Int->List ai->Prop)(e:Ending)(w':World):Prop:=∃(o:Option Nat) (er:Int) (l':List ai),((∃v,o=some v/\er=0/\e= .returned (.tuple #[(.func (.func 251) #[] #[.pointer (some ⟨v,0,none⟩)]),()]))\/(o=none/\e= .returned (.tuple #[.nilFunc,er])))/\R o er l'/\BD T w0 w' l'
theorem Ul(T:List Nat)(w0 w:World)(l:List ai)(p q:Nat)(FP er:Int)(h:BD T w0 w (box p 68 #[.nilFunc]::box q 26 #[FP]::l)):
  CallsD prog 177 #[p,q] (.panicking (aX er)) w fun e u' w'=>e= .returned (.tuple #[])/\u'= .panicking [{v:=eB er,recovered:=true}]/\BD T w0 w' (box p 68 #[.nilFunc]::box q 26 #[er]::l):=by
 have HL:=hdq h;refine callsD_of_wpS func177 rfl fun c₀ cs hu=>?_;apply wpS_seq
 apply wpS_region
 simp[wpOpsS,go_sem,recoverD,hu,ntmps177,Exit.thenS,aX]
 apply wpS_seq
 apply wpS_region
 have hq:=l8 232 (.agg #[er]);simp[wpOpsS,go_sem,Exit.thenS,eB,hq]
 refine wpS_cond (t:=true) (by simp[Act.eval,Array.replicate]) ?_;simp only[if_true];refine wpS_of_wp ?_;simp only[Array.replicate_succ,Array.replicate_zero,List.push_toArray,List.append_toArray,sAq,sZq,sSq,nAq,cAq];have GZ:=dS er;obtain⟨p0,p1,zp,CK,CO⟩:=HL.o.c1 0 rfl;obtain⟨q0,q1,zq,Fb,Fg⟩:=HL.o.c1 1 rfl;have hpq:=HL.o.ne 0 1 rfl rfl (by decide);have F9:=Ne.symm hpq;go_wp2_with fail
 go_region
 all_goals
  have BF:=hdq ((((HL.o.set 0 rfl 0 (.nilFunc)).set 1 rfl 0 (.int .i64 er)).alloc 232 #[er]).drew);have BH:=hdq (BD.aF (l:=[_,_]++l) BF.o);exact⟨rfl,_,rfl,.tuple #[],results_none rfl _ _ _,rfl,rfl,BH.o⟩
theorem Uj(w:World)(p q:Addr):CallsD prog 177 #[.pointer (some p),.pointer (some q)] .returning w fun e u' w'=>e= .returned (.tuple #[])/\u'= .returning/\w=w':=by
 refine callsD_of_wpS func177 rfl fun c₀ cs hu=>?_;apply wpS_seq
 apply wpS_region
 simp[wpOpsS,go_sem,recoverD,hu,ntmps177,Exit.thenS]
 apply wpS_seq
 apply wpS_region
 have hq:∀w,(binOp .neq 20 .nilIface .nilIface).run prog w= .ok (.bool false) w:=fun w=>by kernel_rfl
 simp[wpOpsS,go_sem,Exit.thenS,hq]
 refine wpS_cond (t:=false) (by simp[Act.eval,Array.replicate]) ?_;simp only[Bool.false_eq_true,if_false];refine wpS_of_wp (wp_skip ?_);cases c₀
 simp_all [bodyPostS,results,results177]
theorem Vh(T:List Nat)(w0 w:World)(l:List ai)(D:FuncId)(caps:Array Value)(R:Option Nat->Int->List ai->Prop)(h:BD T w0 w l)(hen:∀args w,(callFunc D args).run prog w= .ok (.enter D args) w)(hd:∀T' W,BD T' W W l->Calls prog D caps W fun e w'=>∃(o:Option Nat) (er:Int) (l':List ai),((∃v,o=some v/\er=0/\e= .returned (.func (.func 251) #[] #[.pointer (some ⟨v,0,none⟩)]))\/(o=none/\e= .panicked (aX er)))/\R o er l'/\BD T' W w' l'):
  Calls prog 70 #[.func (.func D) #[] caps] w fun e w'=>YD T w0 R e w':=by
 have Ep:= @mfq;have BG:=hdq h;have HD:=hdq hd;go_enter_defers func70,ntmps70
 go_wp2_with fail
 refine ah ?_;intro w1 hw1;have BB:=hdq (BG.o.DZ hw1);generalize hq:w.heap.size+1=q at BB|-;generalize hp:w.heap.size=p at BB|-;obtain⟨T',hF,hb⟩:=BD.aN (m:=l) (r:=[box p 68 #[.nilFunc],box q 26 #[()]]) (by simpa using BB.o);refine(HD.o T' _ hF).mono ?_;rintro e w2 ⟨o,er,l',he,hR,hL⟩;have HL2:=hdq (BD.aB (a:=[]) (b:=l') (c:=[box p 68 #[.nilFunc],box q 26 #[()]]) (by simpa using hb _ _ hL));simp only[nAq,cAq]at HL2;have HR:=hdq hR;rcases he with ⟨v,rfl,rfl,rfl⟩|⟨rfl,rfl⟩
 .obtain⟨p0,p1,zp,_,_⟩:=HL2.o.c1 0 rfl
  obtain⟨q0,q1,zq,_,_⟩:=HL2.o.c1 1 rfl;have hpq:=HL2.o.ne 0 1 rfl rfl (by decide);have F9:=Ne.symm hpq;have BF:=hdq ((HL2.o.set 0 rfl 0 (.func (.func 251) #[] #[.pointer (some ⟨v,0,none⟩)])).set 1 rfl 0 (.int .i64 0));simp only[sSq,sZq,sAq]at BF;dsimp only;go_wp2_with fail
  refine leaves_cons (f:=177) (args:=#[.pointer (some ⟨p,0,none⟩),.pointer (some ⟨q,0,none⟩)]) (by simp) (by simp[go_sem]) ?_;refine(Uj _ _ _).mono ?_;rintro e u' w'' ⟨rfl,rfl,rfl⟩;obtain⟨r0,_,_,_,_⟩:=BF.o.c1 0 rfl;obtain⟨r1,_,_,_,_⟩:=BF.o.c1 1 rfl;refine⟨.tuple #[(.func (.func 251) #[] #[.pointer (some ⟨v,0,none⟩)]),()],by simp[results,results70,go_sem,r0,r1],some v,0,l',.inl ⟨v,rfl,rfl,rfl⟩,HR.o,?_⟩;exact BF.o.aB (a:=[]) (b:=[_,_]) (c:=l') |>.aF
 .dsimp only
  refine leaves_cons (f:=177) (args:=#[.pointer (some ⟨p,0,none⟩),.pointer (some ⟨q,0,none⟩)]) (by simp) (by simp[go_sem]) ?_;refine(Ul T w0 w2 l' p q 0 er HL2.o).mono ?_;rintro e u' w'' ⟨rfl,rfl,hL⟩;have BF:=hdq hL;obtain⟨r0,_,_,_,_⟩:=BF.o.c1 0 rfl;obtain⟨r1,_,_,_,_⟩:=BF.o.c1 1 rfl;refine⟨.tuple #[.nilFunc,er],by simp[results,results70,go_sem,r0,r1],none,er,l',.inr ⟨rfl,rfl⟩,HR.o,?_⟩;exact BD.aF (BD.aB (a:=[]) (b:=[_,_]) (c:=l') BF.o)
end
section
open Go.RowKit
section
variable {T:List Nat} {w0 w w':World} {l:List ai} {ts:List MT} {sh:List (Option Addr×Nat×Nat)}
theorem BD.JK{P:World->Prop}{g:Nat}{es xs:List ME}{a:Option Addr}{cap:Nat}(h:BD T w0 w l)(i j:Nat)(hi:l[i]? =some (aQ g es))(hj:l[j]? =some (aA P))(hij:i≠j)(hsrc:∀W,Beside l i W->fo W a xs/\∀x∈xs,x.v.In W)(hn:xs.length<=1099511627776)(hes:es.length<=4096):
  Calls prog 200 #[g,.slice a xs.length cap] w fun e w'=>∃(k:Nat) (err:Int) (ys:List ME),e= .returned (.int .i64 err)/\kK es.length (xs.map ME.plain) k err/\ys.map ME.plain=(xs.map ME.plain).take k/\BD T w0 w' ((l.set i (aQ g (es++ys))).set j (aA fun W=>P W/\∀y∈ys,y.v.In W)):=by
 obtain⟨T',h1,_,hk,hb⟩:=h.frameK i hi;refine(Push_q T' w g es xs a cap h1 (fun W hW=>hsrc W (hk W hW)) hn hes).mono ?_;rintro e w' ⟨k,err,ys,rfl,hR,hp,hL⟩;refine⟨k,err,ys,rfl,hR,hp,BD.settle (hb _ _ _ hL) j ?_ (fun W f hW hf=>⟨hW,fun y hy=>hf.2 _ (List.mem_map.2 ⟨y,hy,rfl⟩)⟩)⟩;rwa[List.getElem?_set_ne hij]
end
end
def gW(q1 q2:Nat):Obj:= .map #[⟨.int .i64 1,.pointer (some ⟨q1,0,none⟩),0⟩,⟨.int .i64 2,.pointer (some ⟨q2,0,none⟩),1⟩] 2
def Hg(s:Int)(q1 q2:Nat):Option Addr:=if s=1 then some ⟨q1,0,none⟩else if s=2 then some ⟨q2,0,none⟩else none
def jZ(w:World)(c:Nat)(at_:Int)(M q1 q2:Nat):Prop:=Cg w c 203 #[at_,.map (some M)]/\w.heap[M]? =some (gW q1 q2)
theorem jZ.touch{w w':World}{c:Nat}{a:Int}{M q1 q2:Nat}(h:jZ w c a M q1 q2)(ht:Touch [] w w'):jZ w' c a M q1 q2:=
 ⟨Cg.touch h.1 ht (by simp),(ht.block M (Array.getElem?_eq_some_iff.1 h.2).1 (by simp)).trans h.2⟩
theorem jZ.cells{w:World}{c:Nat}{a:Int}{M q1 q2:Nat}(h:jZ w c a M q1 q2):w.cell? ⟨c,0,none⟩=some (.int .i64 a)/\w.cell? ⟨c,1,none⟩=some (.map (some M))/\c<w.heap.size/\c<w.heap.size+1:=by
 have hl:=Cg.lt h.1;exact⟨Cg.cell h.1 0,Cg.cell h.1 1,hl,by omega⟩
def bJ(w:World):Prop:=w.cell? ⟨0,0,none⟩=some (.int .i64 1)/\w.cell? ⟨0,1,none⟩=some (.int .i64 2)
theorem bJ.touch{w w':World}(h:bJ w)(ht:Touch [] w w'):bJ w':=⟨ht.cellOf h.1,ht.cellOf h.2⟩
theorem iT(w:World)(M q1 q2:Nat)(h:w.heap[M]? =some (gW q1 q2))(s:Int):(Instr.lookup 201 (.map (some M)) (.int .i64 s) false).run prog w= .ok (.pointer (Hg s q1 q2)) w:=by
 unfold gW at h;have hu:=underlying201;have hk:=underlying41;unfold Hg;by_cases h1:s=1
 .subst h1
  have hf:Instr.findNow (.int .i64) (.int .i64 1) [⟨.int .i64 1,.pointer (some ⟨q1,0,none⟩),0⟩,⟨.int .i64 2,.pointer (some ⟨q2,0,none⟩),1⟩] 0=some (some (0,.pointer (some ⟨q1,0,none⟩))):=by kernel_rfl
  simp[Instr.lookup,run_underlying hu,bX h,bO false 9999 hk,bR hk 1 _ hf]
 by_cases h2:s=2
 .subst h2
  have hf:Instr.findNow (.int .i64) (.int .i64 2) [⟨.int .i64 1,.pointer (some ⟨q1,0,none⟩),0⟩,⟨.int .i64 2,.pointer (some ⟨q2,0,none⟩),1⟩] 0=some (some (1,.pointer (some ⟨q2,0,none⟩))):=by kernel_rfl
  simp[Instr.lookup,run_underlying hu,bX h,bO false 9999 hk,bR hk 2 _ hf]
 .have hf:Instr.findNow (.int .i64) (.int .i64 s) [⟨.int .i64 1,.pointer (some ⟨q1,0,none⟩),0⟩,⟨.int .i64 2,.pointer (some ⟨q2,0,none⟩),1⟩] 0=some none:=by
   have e1:Instr.sameNow (.int .i64) (.int .i64 s) (.int .i64 1)=some false:=by simp[Instr.sameNow,h1]
   have e2:Instr.sameNow (.int .i64) (.int .i64 s) (.int .i64 2)=some false:=by simp[Instr.sameNow,h2]
   simp[Instr.findNow,e1,e2]
  have hz:(zeroValue 205).run prog w= .ok (.pointer none) w:=by kernel_rfl
  simp[Instr.lookup,run_underlying hu,bX h,bO false 9999 hk,bR hk s _ hf,hz,h1,h2]
theorem IY(w:World)(M:Nat):(binOp .eql 201 (.map (some M)) (.map none)).run prog w= .ok (.bool false) w:=by kernel_rfl
section
variable (w:World) (c:Nat) (a:Int) (M q1 q2:Nat) (hc:jZ w c a M q1 q2)
include hc
theorem jC:Calls prog 140 #[c] w fun e w'=>e= .returned (.bool false)/\w=w':=by
 obtain⟨c0,c1,hl,_⟩:=hc.cells;have hmn:=IY w M;go_enter func140,ntmps140
 go_wp2;go_ret
 exact⟨rfl,rfl⟩
theorem uw(s:Int):Calls prog 180 #[c,s] w fun e w'=>e= .returned (.pointer (Hg s q1 q2))/\w=w':=by
 obtain⟨c0,c1,hl,_⟩:=hc.cells;have HC:=hdq hc;have hlk:=iT w M q1 q2 hc.2 s;go_enter func180,ntmps180
 go_wp2_with fail
 refine(jC _ _ _ _ _ _ HC.o).mono ?_;rintro e w' ⟨rfl,rfl⟩;go_wp2;go_ret
 exact⟨rfl,rfl⟩
end
theorem rJ(h:Int)(W:World):(Instr.makeMap 201 (some (.int .i64 h))).run prog W= .ok (.map (some W.heap.size)) (W.alloc (.map #[] 0)):=by
 simp[Instr.makeMap,run_underlying underlying201,asInt,asIntOf,newObj]
 rfl
theorem mX(w:World)(M:Nat)(es:Array MapEntry)(clock:Nat)(hr:w.heap[M]? =some (.map es clock))(s:Int)(hf:Instr.findNow (.int .i64) (.int .i64 s) es.toList 0=some none)(v:Value):
  (Instr.mapUpdate 201 (.map (some M)) (.int .i64 s) v).run prog w= .ok () (w.putObj M (.map (es.push ⟨.int .i64 s,v,clock⟩) (clock+1))):=by
 simp[Instr.mapUpdate,run_underlying underlying201,bX hr,bO false 9999 underlying41,bR underlying41 s es.toList hf,ny _ hr]
theorem BD.via{T:List Nat}{w0 w w':World}{l:List ai}(h:BD T w0 w l)(e:w=w'):BD T w0 w' l:=e▸h
theorem jW{Q:Exit->Act->World->Prop}{ex:Exit}{a:Act}{W:World}(h:∀w2,W=w2->Q ex a w2):Q ex a W:=h W rfl
theorem BD.G8{T:List Nat}{w0 w:World}{l:List ai}(h:BD T w0 w l)(i:Nat){b:Nat}{o:Obj}(hi:l[i]? =some (fZ b o)):w.heap[b]? =some o:=let ⟨_,h,_⟩:=h.get i hi;h.2
theorem BD.gq{T:List Nat}{w0 w:World}{l:List ai}(h:BD T w0 w l)(i:Nat){b:Nat}{o:Obj}(hi:l[i]? =some (fZ b o))(o':Obj):BD T w0 (w.putObj b o') (l.set i (fZ b o')):=by
 obtain⟨f,⟨hf,hb⟩,_,hs⟩:=h.step i hi;subst hf;exact hs _ (fZ b o') [b] ⟨rfl,World.putObj_heap_same (Array.getElem?_eq_some_iff.1 hb).1⟩ ⟨(Touch.refl _ w).putObj (.inr (by simp)) o',fun k hk=> .inl hk⟩
theorem BD.xK{T:List Nat}{w0 w:World}{l:List ai}(h:BD T w0 w l)(o:Obj):BD T w0 (w.alloc o) (l++[fZ w.heap.size o]):=
 h.new (t':=fZ w.heap.size o) (f':=[w.heap.size]) ⟨rfl,heap_alloc_new w _⟩ ⟨(Touch.refl [] w).alloc _,fun k hk=> .inr (by simp at hk;omega)⟩
theorem BD.xP{T:List Nat}{w0 w:World}{l:List ai}{c M q1 q2:Nat}{a:Int}(h:BD T w0 w l)(i j:Nat)(hi:l[i]? =some (Proofs.YtddnnapoaonmjaaGreatDoor.box c 203 #[a,.map (some M)]))(hj:l[j]? =some (fZ M (gW q1 q2))):jZ w c a M q1 q2:=⟨h.box i hi,h.G8 j hj⟩
def gB(c:Nat)(a:Int)(M q1 q2:Nat)(es1 es2:List ME):List ai:=[box c 203 #[a,.map (some M)],fZ M (gW q1 q2),aQ q1 es1,aQ q2 es2]
theorem open_c(T:List Nat)(w:World)(c b:Nat)(a:Int)(h:BD T w w [box c 203 #[a,.map none],box b 41 #[(1:Int),(2:Int)]]):
  Calls prog 184 #[c,.slice (some ⟨b,0,none⟩) 2 2] w fun e w'=>e= .returned (.tuple #[])/\∃M q1 q2,BD T w w' (gB c a M q1 q2 [] []):=by
 have BG:=hdq h;obtain⟨c0,c1,f0,f1,hl,_,_⟩:=BG.o.c2 0 rfl;have hmk:=rJ 2;go_enter func184,ntmps184
 have g1:=BG.o.c2 1 rfl;obtain⟨s0,s1,_,_,sl,_,_⟩:=g1;have hx1:c≠w.heap.size:=by omega
 have hx2:=Ne.symm hx1;go_wp2_with fail
 refine ay ?_;intro w1 hw1;have BB:=hdq (((BG.o.set 0 rfl 1 (.map (some w.heap.size))).xK (.map #[] 0)).via hw1);simp only[World.size_setCell,nAq,cAq,sZq,sAq,sSq]at BB;generalize hM:w.heap.size=M at BB|-;go_loopw [14] (fun i wr=>(i= .int .i64 0/\Hid (BD T w wr [box c 203 #[a,.map (some M)],box b 41 #[(1:Int),(2:Int)],fZ M (.map #[] 0)]))\/
   (i= .int .i64 1/\∃q1,Hid (BD T w wr [box c 203 #[a,.map (some M)],box b 41 #[(1:Int),(2:Int)],fZ M (.map #[⟨.int .i64 1,.pointer (some ⟨q1,0,none⟩),0⟩] 1),aQ q1 []]))\/
   (i= .int .i64 2/\∃q1 q2,Hid (BD T w wr [box c 203 #[a,.map (some M)],box b 41 #[(1:Int),(2:Int)],fZ M (gW q1 q2),aQ q1 [],aQ q2 []]))) (fun i _=>2-(intOf i).toNat)
 case atStart=>exact .inl ⟨rfl,BB⟩
 case round=>
  rcases hrel with ⟨rfl,HK⟩|⟨rfl,q1,HK⟩|⟨rfl,q1,q2,HK⟩
  .obtain⟨c0,c1,f0,f1,hl,_,_⟩:=HK.o.c2 0 rfl
   obtain⟨s0,s1,_,_,sl,_,_⟩:=HK.o.c2 1 rfl;go_wp2_with fail
   go_region_held3 (fun w'=>w'.cell? ⟨c,1,none⟩=some (.map (some M))) (go_keep) (first
    |(go_at_call 186;refine(Km _ HK.o.drew).mono ?_;rintro e w3 ⟨q1,rfl,hL⟩;have BF:=hdq hL;(simp only[nAq,cAq]at BF);obtain⟨c0,c1,f0,f1,hl,_,_⟩:=BF.o.c2 0 rfl;have hmu:=mX w3 M #[] 0 (BF.o.G8 2 rfl) 1 rfl (.pointer (some ⟨q1,0,none⟩));have hk1:=(fun o=>((BF.o.gq 2 rfl o).c2 0 rfl).2.1);(simp only[List.push_toArray,nAq,Nat.reduceAdd]at hmu)))
   rename_i hHeld;refine jW ?_;intro w4 hw4;have BH:Hid (BD T w w4 [box c 203 #[a,.map (some M)],box b 41 #[(1:Int),(2:Int)],fZ M (.map #[⟨.int .i64 1,.pointer (some ⟨q1,0,none⟩),0⟩] 1),aQ q1 []]):=(BF.o.gq 2 rfl (.map #[⟨.int .i64 1,.pointer (some ⟨q1,0,none⟩),0⟩] 1)).via hw4;go_wp2;go_roundw
   case rel=>exact .inr (.inl ⟨by go_num,q1,BH⟩)
   case measure=>simp[intOf]
  .obtain⟨c0,c1,f0,f1,hl,_,_⟩:=HK.o.c2 0 rfl
   obtain⟨s0,s1,_,_,sl,_,_⟩:=HK.o.c2 1 rfl;go_wp2_with fail
   go_region_held3 (fun w'=>w'.cell? ⟨c,1,none⟩=some (.map (some M))) (go_keep) (first
    |(go_at_call 186;refine(Km _ HK.o.drew).mono ?_;rintro e w3 ⟨q2,rfl,hL⟩;have BF:=hdq hL;(simp only[nAq,cAq]at BF);obtain⟨c0,c1,f0,f1,hl,_,_⟩:=BF.o.c2 0 rfl;have hmu:=mX w3 M #[⟨.int .i64 1,.pointer (some ⟨q1,0,none⟩),0⟩] 1 (BF.o.G8 2 rfl) 2 rfl (.pointer (some ⟨q2,0,none⟩));have hk1:=(fun o=>((BF.o.gq 2 rfl o).c2 0 rfl).2.1);(simp only[List.push_toArray,nAq,cAq,Nat.reduceAdd]at hmu)))
   rename_i hHeld;refine jW ?_;intro w4 hw4;have BH:Hid (BD T w w4 [box c 203 #[a,.map (some M)],box b 41 #[(1:Int),(2:Int)],fZ M (gW q1 q2),aQ q1 [],aQ q2 []]):=(BF.o.gq 2 rfl (gW q1 q2)).via hw4;go_wp2;go_roundw
   case rel=>exact .inr (.inr ⟨by go_num,q1,q2,BH⟩)
   case measure=>simp[intOf]
  .go_wp2
   go_end0
   exact⟨rfl,M,q1,q2,HK.o.sel [0,2,3,4] rfl (by decide)⟩
theorem BD.chNew{T:List Nat}{w0 w:World}{l:List ai}{g:Nat}{s:Ar}(h:BD T w0 w l)(i:Nat)(hi:l[i]? =some (arena g s))(hS:∀W,BD T w0 W (l.set i (arena g (s.au 1).1))->bJ W)(hok:s.C.length+1<=s.most):
  Calls prog 82 #[g] w fun e w'=>∃c M q1 q2,e= .returned (.tuple #[.pointer (some ⟨c,0,none⟩),()])/\BD T w0 w' (l.set i (arena g (s.au 1).1)++gB c (s.C.length:Int) M q1 q2 [] []):=by
 have hal:=h.ar i hi (fun fp hI=>oJ w g fp s hI);have e1:(s.au 1).2.1=s.C.length/\(s.au 1).2.2=0:=by unfold Ar.au;rw[if_neg (by omega),if_neg (by omega)];exact⟨rfl,rfl⟩
 rw[e1.1,e1.2]at hal;have HA:=hdq hal;go_enter func82,ntmps82
 go_wp2;refine bT 0 rfl ?_;go_wp2_with fail
 refine HA.o.mono ?_;rintro e w1 ⟨rfl,hL⟩;have HL:=hdq hL;obtain⟨t0,t1⟩:=hS w1 hL;have tl:0<w1.heap.size:=World.block_lt_of_cell? _ _ t0;have tl1:0<w1.heap.size+1:=by omega
 have hbc:∀W,(Instr.build 203 #[(0,.agg #[(s.C.length:Int)])]).run prog W= .ok (.agg #[(s.C.length:Int),.map none]) W:=fun W=>run_build W 203 _ _ (by kernel_rfl);have hbl:∀W,(Instr.build 200 #[(0,.int .i64 (s.C.length:Int))]).run prog W= .ok (.agg #[(s.C.length:Int)]) W:=fun W=>run_build W 200 _ _ (by kernel_rfl);go_wp2_with fail
 refine ah ?_;intro w2 hw2;have HL2:=hdq (((HL.o.alloc 203 #[(s.C.length:Int),.map none]).alloc 41 #[(1:Int),(2:Int)]).via hw2);simp only[World.size_alloc]at HL2;generalize hc:w1.heap.size=c at HL2|-;have h2:BD T w0 w2 ([Proofs.YtddnnapoaonmjaaGreatDoor.box c 203 #[(s.C.length:Int),.map none],Proofs.YtddnnapoaonmjaaGreatDoor.box (c+1) 41 #[(1:Int),(2:Int)]]++l.set i (arena g (s.au 1).1)):=by
  have :=BD.aB (a:=[]) (b:=l.set i (arena g (s.au 1).1)) (c:=[Proofs.YtddnnapoaonmjaaGreatDoor.box c 203 #[(s.C.length:Int),.map none],Proofs.YtddnnapoaonmjaaGreatDoor.box (c+1) 41 #[(1:Int),(2:Int)]]) (by simpa using HL2.o);simpa using this
 obtain⟨T',hF,hb⟩:=h2.aN;refine(open_c T' w2 c (c+1) _ hF).mono ?_;rintro e w3 ⟨rfl,M,q1,q2,hL⟩;have BF:Hid (BD T w0 w3 (l.set i (arena g (s.au 1).1)++gB c (s.C.length:Int) M q1 q2 [] [])):=by
  have :=BD.aB (a:=[]) (b:=gB c (s.C.length:Int) M q1 q2 [] []) (c:=l.set i (arena g (s.au 1).1)) (by simpa using hb _ _ hL);simpa[Hid]using this
 go_wp2;go_step3
 go_wp2;refine fO ?_;go_ret2
 exact⟨c,M,q1,q2,rfl,BF.o⟩
theorem BD.xA{T:List Nat}{w0 w:World}{l:List ai}{g:Nat}{s:Ar}(h:BD T w0 w l)(i:Nat)(hi:l[i]? =some (arena g s))(hok:¬s.C.length+1<=s.most):
  Calls prog 82 #[g] w fun e w'=>e= .returned (.tuple #[.pointer none,(6:Int)])/\BD T w0 w' (l.set i (arena g (s.au 1).1)):=by
 have hal:=h.ar i hi (fun fp hI=>oJ w g fp s hI);have hm:=(h.nP i hi).2.2;have e1:(s.au 1).2.1=0/\(s.au 1).2.2=6:=by unfold Ar.au;rw[if_neg (by omega),if_pos (by omega)];exact⟨rfl,rfl⟩
 rw[e1.1,e1.2]at hal;have HA:=hdq hal;go_enter func82,ntmps82
 go_wp2;refine bT 0 rfl ?_;go_wp2_with fail
 refine HA.o.mono ?_;rintro e w1 ⟨rfl,hL⟩;have HL:=hdq hL;go_wp2;go_step3
 refine⟨rfl,?_⟩;go_wp2;refine dO ?_;go_ret2
 exact⟨rfl,HL.o⟩
theorem try_l(w:World)(a:Int)(p:Option Addr)(R:World->Prop)(b:Bool)(er:Int)(hf:∀W,Touch [] w W->Calls prog 203 #[.pointer p,a] W fun e w'=>e= .returned (.tuple #[b,er])/\R w'):Calls prog 190 #[.agg #[a],.pointer p] w fun e w'=>e= .returned (.tuple #[b,er])/\R w':=by
 have HF:=hdq (hf _ ((Touch.refl [] w).alloc (.cells #[a] 200)));go_enter func190,ntmps190
 go_wp2_with fail
 refine HF.o.mono ?_;rintro e w' ⟨rfl,hr⟩;have HR:=hdq hr;go_wp2;go_ret2
 exact⟨rfl,HR.o⟩
theorem free_l(w:World)(a:Int)(p:Option Addr)(R:World->Prop)(er:Int)(hf:∀W,Touch [] w W->Calls prog 205 #[.pointer p,a] W fun e w'=>e= .returned (.int .i64 er)/\R w'):Calls prog 192 #[.agg #[a],.pointer p] w fun e w'=>e= .returned (.int .i64 er)/\R w':=by
 have HF:=hdq (hf _ ((Touch.refl [] w).alloc (.cells #[a] 200)));go_enter func192,ntmps192
 go_wp2_with fail
 refine HF.o.mono ?_;rintro e w' ⟨rfl,hr⟩;have HR:=hdq hr;go_wp2;go_ret
 exact⟨rfl,HR.o⟩
section
variable (w:World) (c:Nat) (a:Int) (M q1 q2:Nat) (hc:jZ w c a M q1 q2) (p:Option Addr) (R:World->Prop)
include hc
theorem Oe(b:Bool)(er:Int)(hf:∀W,Touch [] w W->Calls prog 203 #[.pointer p,a] W fun e w'=>e= .returned (.tuple #[b,er])/\R w'):Calls prog 94 #[c,.pointer p] w fun e w'=>e= .returned (.tuple #[b,er])/\R w':=by
 obtain⟨c0,c1,hl,hl1⟩:=hc.cells;have HC:=hdq hc;have HT:=hdq (try_l w a p R b er hf);go_enter func94,ntmps94
 go_wp2_with fail
 refine(jC _ _ _ _ _ _ HC.o).mono ?_;rintro e w' ⟨rfl,rfl⟩;go_wp2_with fail
 refine HT.o.mono ?_;rintro e w' ⟨rfl,hr⟩;have HR:=hdq hr;go_wp2;go_ret2
 exact⟨rfl,HR.o⟩
theorem Bl(er:Int)(hf:∀W,Touch [] w W->Calls prog 205 #[.pointer p,a] W fun e w'=>e= .returned (.int .i64 er)/\R w'):Calls prog 97 #[c,.pointer p] w fun e w'=>e= .returned (.int .i64 er)/\R w':=by
 obtain⟨c0,c1,hl,hl1⟩:=hc.cells;have HC:=hdq hc;have HT:=hdq (free_l w a p R er hf);go_enter func97,ntmps97
 go_wp2_with fail
 refine(jC _ _ _ _ _ _ HC.o).mono ?_;rintro e w' ⟨rfl,rfl⟩;go_wp2_with fail
 refine HT.o.mono ?_;rintro e w' ⟨rfl,hr⟩;have HR:=hdq hr;go_wp2;go_ret
 exact⟨rfl,HR.o⟩
end
section
variable {T:List Nat} {w0 w:World} {l:List ai} {g c M q1 q2:Nat} {a:Int} {s:Ar}
theorem BD.chLock(h:BD T w0 w l)(i:Nat)(hi:l[i]? =some (arena g s))(hc:jZ w c a M q1 q2)(hn:s.L.length<4611686018427387904):
  Calls prog 94 #[c,g] w fun e w'=>e= .returned (.tuple #[.bool (s.swap a 0 1).2.1.did,.int .i64 ((s.swap a 0 1).2.2:Int)])/\BD T w0 w' (l.set i (arena g (s.swap a 0 1).1)):=
 Oe w c a M q1 q2 hc _ (fun w'=>BD T w0 w' (l.set i (arena g (s.swap a 0 1).1))) _ _ (fun W hW=>(h.touch hW).ar i hi (fun fp hI=>zC W g fp s hI a hn))
theorem BD.Jm(h:BD T w0 w l)(i:Nat)(hi:l[i]? =some (arena g s))(hc:jZ w c a M q1 q2)(hn:s.L.length<4611686018427387904):
  Calls prog 97 #[c,g] w fun e w'=>e= .returned (.int .i64 (s.wH a:Int))/\BD T w0 w' (l.set i (arena g (s.swap a 1 0).1)):=
 Bl w c a M q1 q2 hc _ (fun w'=>BD T w0 w' (l.set i (arena g (s.swap a 1 0).1))) _ (fun W hW=>(h.touch hW).ar i hi (fun fp hI=>uW W g fp s hI a hn))
end
end Go.Proofs.YtddnnapoaonmjaaGreatDoor
