/-
  Texts of FirePlays, laid together by program.
-/
import Derived.Test.YtegejdlglonflaaGreatDoorWZ2
namespace Go.Proofs.YtegejdlglonflaaGreatDoor
open Go.RowKit Go.Shelf Go.Proofs.Tryz
set_option maxRecDepth 100000
set_option maxHeartbeats 8000000
set_option linter.unusedVariables false
set_option linter.unusedSimpArgs false
section
open Go.RowKit
def ac3(tmps:Array Value):ResultVar->Sem Value
 | .tmp t=>pure (tmps.getD t undef)
 | .cell a t=>do loadVar t (<-asAddr (tmps.getD a undef))
theorem abm(fn:Func)(tmps:Array Value):results fn tmps=(do let vs <-fn.results.mapM (ac3 tmps);pure (if h:vs.size=1 then vs[0]else .tuple vs)):=by
 unfold results;congr 2
def abA(P:Program)(M:LG)(tmps:Array Value)(r:ResultVar)(v:Value):Prop:=∀T w0 w,BD T w0 w M.flatten->(ac3 tmps r).run P w= .ok v w
section
variable {P:Program} {M:LG} {tmps:Array Value} {r1 r2 r3 r4 r5:ResultVar} {v1 v2 v3 v4 v5 v:Value} {fn:Func} {t:Tmp} {ty:TypeId} {b k z s:Nat} {us:List Value}
theorem acJ{T:List Nat}{w0 w:World}(h:BD T w0 w M.flatten)(s:Nat):BD T w0 w (gat M s++(aaE M s []).flatten):=h.prm (aa7 M s)
theorem aaZ(hv:tmps.getD t undef=v:=by first |(go_simp;done)|(go_simp;with_reducible rfl)):abA P M tmps (.tmp t) v:=fun T w0 w _=>by rw[<-hv];rfl
theorem aa0(hp:tmps.getD t undef= .pointer (some ⟨b,k,none⟩):=by rfl)(hl:LdM b k v M s:=by(repeat (first |exact LdM.here (by first |assumption|((repeat (first |exact abv.box (by simp only[List.getElem?_toArray,List.getElem?_cons_zero,List.getElem?_cons_succ];exact rfl)|apply abv.tail));done)|fail)|apply LdM.there));done)(hy:∀w,w.cell? ⟨b,k,none⟩=some v->(loadVar ty ⟨b,k,none⟩).run P w= .ok v w:=by intro w hc;first |(go_simp;done)|fail):abA P M tmps (.cell t ty) v:=fun T w0 w h=>by
 unfold ac3;dsimp only;rw[hp];exact hy w (hl.at T w0 w _ (acJ h s))
theorem abC(hu:acB P ty=true)(hz:∀w,(sizeOf ty).run P w= .ok us.length w){w:World}(hc:∀j v,us[j]? =some v->w.cell? ⟨b,k+j,none⟩=some v):(loadVar ty ⟨b,k,none⟩).run P w= .ok (.agg us.toArray) w:=by
 have hlc:(loadCells ⟨b,k,none⟩ us.length).run P w= .ok us.toArray w:=run_loadCells_list (P:=P) w ⟨b,k,none⟩ us (fun j v hv=>by rw[Addr.add_lit];exact hc j v hv);have hz:=abS hz;cases hq:P.info? ty with
 |none=>simp[hq]at hz
 |some i=>
  have hs:i.size=us.length:=by simpa[hq]using hz
  have hagg:(isAgg ty).run P w= .ok true w:=by
   unfold acB at hu;unfold isAgg;cases hud:P.underlying ty with
   |none=>simp[hud]at hu
   |some td=>
    rw[Sem.run_bind,run_underlying hud w];rw[hud]at hu;cases td<;>simp_all
  simp[loadVar,Sem.run_bind,hagg,sizeOf,typeInfo,hq,hs,hlc]
theorem aaF(hp:tmps.getD t undef= .pointer (some ⟨b,k,none⟩):=by rfl)(hz:∀w,(sizeOf ty).run P w= .ok z w:=by intro w;first |(go_simp;done)|(go_simp;with_reducible rfl))(hl:abE b k z us M s:=by(repeat (first |exact abE.here (by first |assumption|((repeat (first |exact abd.box (by simp only[List.drop_zero,List.drop_succ_cons,List.take_succ_cons,List.take_zero];exact rfl) rfl|apply abd.tail));done)|fail)|apply abE.there));done)(hu:acB P ty=true:=by kernel_rfl):abA P M tmps (.cell t ty) (.agg us.toArray):=fun T w0 w h=>by
 obtain⟨hzl,hc⟩:=hl.at;subst hzl;unfold ac3;dsimp only;rw[hp];exact abC hu hz (hc T w0 w _ (acJ h s))
variable {T:List Nat} {w0 w:World}
theorem res1(h:fn.results=#[r1])(h1:abA P M tmps r1 v1)(hl:BD T w0 w M.flatten):(results fn tmps).run P w= .ok v1 w:=by
 have e1:=h1 _ _ _ hl;rw[abm,h];simp[e1]
theorem res2(h:fn.results=#[r1,r2])(h1:abA P M tmps r1 v1)(h2:abA P M tmps r2 v2)(hl:BD T w0 w M.flatten):(results fn tmps).run P w= .ok (.tuple #[v1,v2]) w:=by
 have e1:=h1 _ _ _ hl;have e2:=h2 _ _ _ hl;rw[abm,h];simp[e1,e2]
theorem res3(h:fn.results=#[r1,r2,r3])(h1:abA P M tmps r1 v1)(h2:abA P M tmps r2 v2)(h3:abA P M tmps r3 v3)(hl:BD T w0 w M.flatten):(results fn tmps).run P w= .ok (.tuple #[v1,v2,v3]) w:=by
 have e1:=h1 _ _ _ hl;have e2:=h2 _ _ _ hl;have e3:=h3 _ _ _ hl;rw[abm,h];simp[e1,e2,e3]
theorem res4(h:fn.results=#[r1,r2,r3,r4])(h1:abA P M tmps r1 v1)(h2:abA P M tmps r2 v2)(h3:abA P M tmps r3 v3)(h4:abA P M tmps r4 v4)(hl:BD T w0 w M.flatten):(results fn tmps).run P w= .ok (.tuple #[v1,v2,v3,v4]) w:=by
 have e1:=h1 _ _ _ hl;have e2:=h2 _ _ _ hl;have e3:=h3 _ _ _ hl;have e4:=h4 _ _ _ hl;rw[abm,h];simp[e1,e2,e3,e4]
end
section
variable {P:Program} {Q:Exit->Act->LG->Prop} {a a':Act} {M Y:LG} {fn:Func} {k:Nat} {R:Ending->LG->Prop} {v:Value}
theorem W.abg(h:R (.returned v) Y)(hQ:∀a M,Q .ret a M=BQ P fn k R .ret a M:=by intro a M;first |(dsimp only[acM,acf];done)|exact rfl)(hd:a.defers=[]:=by rfl)(hr:∀T w0 w,BD T w0 w M.flatten->(results fn a.tmps).run P w= .ok v w:=by
   intro T w0 w hl;first
   |exact res1 rfl (by first |exact aaZ|exact aa0|exact aaF) hl
   |exact res2 rfl (by first |exact aaZ|exact aa0|exact aaF) (by first |exact aaZ|exact aa0|exact aaF) hl
   |exact res3 rfl (by first |exact aaZ|exact aa0|exact aaF) (by first |exact aaZ|exact aa0|exact aaF) (by first |exact aaZ|exact aa0|exact aaF) hl
   |exact res4 rfl (by first |exact aaZ|exact aa0|exact aaF) (by first |exact aaZ|exact aa0|exact aaF) (by first |exact aaZ|exact aa0|exact aaF) (by first |exact aaZ|exact aa0|exact aaF) hl
   |exact results_none rfl _ _ _
   |fail)(hY:M.take k=Y:=by simp only[List.take_succ_cons,List.take_zero,List.length_cons,List.length_nil,Nat.reduceAdd];exact rfl)(hk:Y.length=k:=by rfl):W P .ret Q a M:=
 W.ret (by rw[hQ];exact⟨hd,v,Y,fun T w0 w hl=>⟨hr T w0 w hl,hY▸acE k hl⟩,hk,h⟩)
theorem aai.go{f:FuncId}{n:Nat}{args:Array Value}{X:LG}{c:Code}(hf:P.funcs[f]? =some fn)(hn:fn.ntmps=n)(h:W P c (BQ P fn X.length R) a X)(hb:fn.body=some c:=by rfl)(ha:({tmps:=args++Array.replicate (n-args.size) undef,defers:=[]}:Act)=a:=by simp only[List.size_toArray,List.length_cons,List.length_nil,Nat.reduceAdd,Nat.reduceSub,Array.replicate_succ,Array.replicate_zero,List.push_toArray,List.append_toArray,nAq,cAq];exact rfl):aai P f args X R:=
 aai.enter hf hb (by rw[hn,ha];exact h)
end
end
section
open Go.RowKit
structure Kp(p:Prop):Prop where
 o:p
theorem W.ab9{P:Program}{y:Code}{Q:Exit->Act->LG->Prop}{a:Act}{M:LG}(h:W P y Q a M):W P .skip (acf (W P y Q) Q) a M:=W.skip h
theorem go{G H:Prop}(k:H)(h:Kp H->G:=by
  intro kq;repeat (first |refine fsq ?_|refine lsq ?_|refine lq ?_|refine sq ?_|refine yq ?_|refine uq ?_|refine W.seq ?_|refine W.rgp ?_|refine W.ab7 ?_|refine W.ace ?_|refine W.ab9 ?_|refine W.block ?_|(refine fnq ?_;dsimp only[acf,acM])|(refine W.skip ?_;dsimp only[acf,acM])|(refine W.exit ?_;simp only[acf,acM, ↓reduceIte]))
  exact kq.o):G:=h ⟨k⟩
theorem go1{G:Prop}{H:Nat->Prop}(k:∀g1,H g1)(h:(Kp (∀g1,H g1))->G:=by
  intro kq;repeat (first |refine fsq ?_|refine lsq ?_|refine lq ?_|refine sq ?_|refine yq ?_|refine uq ?_|refine mq fun _=>?_|refine W.seq ?_|refine W.rgp ?_|refine W.ab7 ?_|refine W.ace ?_|refine W.ab9 ?_|refine W.block ?_|(refine fnq ?_;dsimp only[acf,acM])|(refine W.skip ?_;dsimp only[acf,acM])|(refine W.exit ?_;simp only[acf,acM, ↓reduceIte]))
  rename_i g1;exact kq.o g1):G:=h ⟨k⟩
theorem go2{G:Prop}{H:Nat->Nat->Prop}(k:∀g1 g2,H g1 g2)(h:(Kp (∀g1 g2,H g1 g2))->G:=by
  intro kq;repeat (first |refine fsq ?_|refine lsq ?_|refine lq ?_|refine sq ?_|refine yq ?_|refine uq ?_|refine mq fun _=>?_|refine W.seq ?_|refine W.rgp ?_|refine W.ab7 ?_|refine W.ace ?_|refine W.ab9 ?_|refine W.block ?_|(refine fnq ?_;dsimp only[acf,acM])|(refine W.skip ?_;dsimp only[acf,acM])|(refine W.exit ?_;simp only[acf,acM, ↓reduceIte]))
  rename_i g1 g2;exact kq.o g1 g2):G:=h ⟨k⟩
theorem go3{G:Prop}{H:Nat->Nat->Nat->Prop}(k:∀g1 g2 g3,H g1 g2 g3)(h:(Kp (∀g1 g2 g3,H g1 g2 g3))->G:=by
  intro kq;repeat (first |refine fsq ?_|refine lsq ?_|refine lq ?_|refine sq ?_|refine yq ?_|refine uq ?_|refine mq fun _=>?_|refine W.seq ?_|refine W.rgp ?_|refine W.ab7 ?_|refine W.ace ?_|refine W.ab9 ?_|refine W.block ?_|(refine fnq ?_;dsimp only[acf,acM])|(refine W.skip ?_;dsimp only[acf,acM])|(refine W.exit ?_;simp only[acf,acM, ↓reduceIte]))
  rename_i g1 g2 g3;exact kq.o g1 g2 g3):G:=h ⟨k⟩
theorem go4{G:Prop}{H:Nat->Nat->Nat->Nat->Prop}(k:∀g1 g2 g3 g4,H g1 g2 g3 g4)(h:(Kp (∀g1 g2 g3 g4,H g1 g2 g3 g4))->G:=by
  intro kq;repeat (first |refine fsq ?_|refine lsq ?_|refine lq ?_|refine sq ?_|refine yq ?_|refine uq ?_|refine mq fun _=>?_|refine W.seq ?_|refine W.rgp ?_|refine W.ab7 ?_|refine W.ace ?_|refine W.ab9 ?_|refine W.block ?_|(refine fnq ?_;dsimp only[acf,acM])|(refine W.skip ?_;dsimp only[acf,acM])|(refine W.exit ?_;simp only[acf,acM, ↓reduceIte]))
  rename_i g1 g2 g3 g4;exact kq.o g1 g2 g3 g4):G:=h ⟨k⟩
end
end Go.Proofs.YtegejdlglonflaaGreatDoor
