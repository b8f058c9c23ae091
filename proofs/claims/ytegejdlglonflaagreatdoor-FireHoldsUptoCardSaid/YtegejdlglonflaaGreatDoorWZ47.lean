/-
  Texts of FireHolds, laid together by program.
-/
import Derived.Test.YtegejdlglonflaaGreatDoorWZ46
namespace Go.Proofs.YtegejdlglonflaaGreatDoor
open Go.RowKit Go.Shelf Go.Proofs.Tryz
set_option maxRecDepth 100000
set_option maxHeartbeats 8000000
set_option linter.unusedVariables false
set_option linter.unusedSimpArgs false
section
variable {w W:World}
theorem Gi.lt9(ho:Gi w W){b:Nat}(hb:b<w.heap.size):b<W.heap.size:=by
 have :=ho b hb;rw[Array.getElem?_eq_getElem hb]at this;exact(Array.getElem?_eq_some_iff.1 this).1
theorem Gi.agp(ho:Gi w W){b j:Nat}(hb:b<w.heap.size):W.cell? ⟨b,j,none⟩=w.cell? ⟨b,j,none⟩:=by simp[World.cell?,ho b hb]
theorem aG.aeC{a:Option Addr}{size n:Nat}{cs:List Value}(h:aG w a size n cs)(ho:Gi w W):aG W a size n cs:=by
 refine⟨h.1,fun i hi=>?_⟩;obtain⟨b,o,ha,hb,hc⟩:=h.2 i hi;exact⟨b,o,ha,ho.lt9 hb,fun j hj=>(ho.agp hb).trans (hc j hj)⟩
theorem MT.dK.aeC{a:Option Addr}{l:List MT}(h:MT.dK w a l)(ho:Gi w W):MT.dK W a l:=fun i hi=>by
 obtain⟨b,o,ha,hb,hc⟩:=h i hi;exact⟨b,o,ha,ho.lt9 hb,fun j hj=>(ho.agp hb).trans (hc j hj)⟩
theorem MT.In.aeC{t:MT}(h:t.In w)(ho:Gi w W):t.In W:=h.keep (fun k hk=>ho k (h.lt k hk))
theorem MB.Mem.aeC{b:MB}(h:b.Mem w)(ho:Gi w W):b.Mem W:=
 ⟨h.1.aeC ho,⟨h.2.1.1.aeC ho,fun c hm=>⟨⟨(h.2.1.2 c hm).1.1,(h.2.1.2 c hm).1.2.aeC ho⟩,fun t ZV=>((h.2.1.2 c hm).2 t ZV).aeC ho⟩⟩,h.2.2.aeC ho⟩
theorem bJ.aeC(h:bJ w)(ho:Gi w W):bJ W:=by
 have hlt:1<w.heap.size:=World.block_lt_of_cell? _ _ h.1;exact⟨(ho.agp hlt).trans h.1,(ho.agp hlt).trans h.2⟩
theorem aee.Mem.aeC{x:aee}(h:x.Mem w)(ho:Gi w W):x.Mem W:=⟨aG.aeC h.rs ho,fun y hy=>⟨aG.aeC (h.rb y hy).1 ho,fun b hb=>MB.Mem.aeC ((h.rb y hy).2 b hb) ho⟩,aG.aeC h.ra ho⟩
end
def P19(w:World)(sc:aee)(W:World):Prop:=Gi w W/\bJ W/\sc.Mem W
theorem ahF(w:World){sc:aee}(hM:sc.Mem w)(hS:bJ w):BD (List.range w.heap.size) w w [aA (P19 w sc)]:=
 (BD.old0 w).weaken (Q:=P19 w sc) 0 rfl (fun W ho=>⟨ho,bJ.aeC hS ho,aee.Mem.aeC hM ho⟩)
theorem afl(w:World)(sc:aee)(cond:Int)(hM:sc.Mem w)(hbig:∀y∈sc.kE,∀b∈y.bases,b.Big)(hS:bJ w):Calls prog 3 #[.agg #[sc.ch,sc.co,.slice sc.sa sc.kE.length sc.sc,.slice sc.aa sc.acts.length sc.ac],cond] w fun e w'=>e= .returned (.bool true)/\Below w.heap.size w w':=
 (afL (P:=P19 w sc) (fun W h=>h.2.1) (fun W h=>h.2.2) hbig (List.range w.heap.size) w (by simpa using ahF w hM hS)).mono fun e w' hh=>by
  obtain⟨Y,_,⟨_,_,he,hYe⟩,hL⟩:=hh;subst hYe;have hL':BD (List.range w.heap.size) w w' [aA (P19 w sc)]:=by simpa using hL
  exact⟨he,(hL'.lg (hL'.still 0 rfl).1).below⟩
end Go.Proofs.YtegejdlglonflaaGreatDoor
