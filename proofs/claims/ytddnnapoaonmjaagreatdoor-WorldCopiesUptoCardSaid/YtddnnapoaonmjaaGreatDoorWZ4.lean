/-
  Texts of WorldCopies, laid together by program.
-/
import Derived.Test.YtddnnapoaonmjaaGreatDoorWZ2
namespace Go.Proofs.YtddnnapoaonmjaaGreatDoor
open Go.RowKit Go.Shelf Go.Proofs.Tryz
set_option maxRecDepth 100000
set_option maxHeartbeats 8000000
set_option linter.unusedVariables false
set_option linter.unusedSimpArgs false
section
open Go.RowKit
def aA(P:World->Prop):ai where
 holds w fp:=(∀k∈fp,k<w.heap.size)/\∀W,(∀k∈fp,W.heap[k]? =w.heap[k]?)->P W
 keep:=fun{w w' fp} ⟨h1,h2⟩ he=>⟨fun k hk=>by
  have :=he k hk;rw[Array.getElem?_eq_getElem (h1 k hk)]at this;exact(Array.getElem?_eq_some_iff.1 this).1,fun W hW=>h2 W (fun k hk=>(hW k hk).trans (he k hk))⟩
 lt:=fun h k hk=>h.1 k hk
section
variable {T:List Nat} {w0 w w':World} {l:List ai} {P Q:World->Prop} {t t1 t2 t12 t':ai}
theorem BD.still(h:BD T w0 w l)(i:Nat)(hi:l[i]? =some (aA P)):P w:=by
 obtain⟨f,hf,_⟩:=h.get i hi;exact hf.2 w (fun _ _=>rfl)
theorem BD.ZP(h:BD T w0 w l)(i:Nat)(hi:l[i]? =some t)(ht:∀f,t.holds w f->t'.holds w f):BD T w0 w (l.set i t'):=by
 obtain⟨f,hf,_,hs⟩:=h.step i hi;exact hs w t' f (ht f hf) (AA.refl f w)
theorem BD.jh(h:BD T w0 w l)(i:Nat)(hi:l[i]? =some t)(hP:∀W f,t.holds W f->P W):BD T w0 w (l.set i (aA P)):=
 h.ZP i hi (fun f hf=>⟨t.lt hf,fun W hW=>hP W f (t.keep hf hW)⟩)
theorem BD.Mc(h:BD T w0 w (l++[t2]))(j:Nat)(hj:l[j]? =some t1)(hm:∀f1 f2,t1.holds w f1->t2.holds w f2->t12.holds w (f1++f2)):BD T w0 w (l.set j t12):=by
 have hlt:=(List.getElem?_eq_some_iff.1 hj).1;have h1:BD T w0 w ((l.take j++l.drop (j+1))++[t1,t2]):=by
  refine h.uz (fun i=>if i<j then i else if i<l.length-1 then i+1 else if i=l.length-1 then j else l.length) ?_ ?_
  .intro i t hi
   have hil:=(List.getElem?_eq_some_iff.1 hi).1;simp only[List.length_append,List.length_take,List.length_drop,List.length_cons,List.length_nil]at hil;by_cases c1:i<j
   .rw[if_pos c1]
    rw[List.getElem?_append_left (by simp;omega),List.getElem?_append_left (by simp;omega),List.getElem?_take_of_lt c1]at hi;rw[List.getElem?_append_left (by omega)];exact hi
   .rw[if_neg c1]
    by_cases c2:i<l.length-1
    .rw[if_pos c2]
     rw[List.getElem?_append_left (by simp;omega),List.getElem?_append_right (by simp;omega),List.getElem?_drop]at hi;rw[List.getElem?_append_left (by omega)];rw[List.length_take,show j+1+(i-min j l.length)=i+1 by omega]at hi;exact hi
    .rw[if_neg c2]
     rw[List.getElem?_append_right (by simp;omega)]at hi;by_cases c3:i=l.length-1
     .rw[if_pos c3,List.getElem?_append_left hlt,hj]
      rw[show i-(l.take j++l.drop (j+1)).length=0 by simp;omega]at hi;simpa using hi
     .rw[if_neg c3,List.getElem?_append_right (Nat.le_refl _),Nat.sub_self]
      rw[show i-(l.take j++l.drop (j+1)).length=1 by simp;omega]at hi;simpa using hi
  .intro a b ha hb hab
   simp only[List.length_append,List.length_take,List.length_drop,List.length_cons,List.length_nil]at ha hb;split at hab<;>split at hab<;>(try split at hab)<;>(try split at hab)<;>(try split at hab)<;>(try split at hab)<;>omega
 have h2:=h1.merge hm;refine h2.uz (fun i=>if i<j then i else if i=j then l.length-1 else i-1) ?_ ?_
 .intro i t hi
  have hil:=(List.getElem?_eq_some_iff.1 hi).1;simp only[List.length_set]at hil;by_cases c1:i<j
  .rw[if_pos c1,List.getElem?_append_left (by simp;omega),List.getElem?_append_left (by simp;omega),List.getElem?_take_of_lt c1]
   rwa[List.getElem?_set_ne (by omega)]at hi
  .rw[if_neg c1]
   by_cases c2:i=j
   .subst c2
    rw[if_pos rfl,List.getElem?_append_right (by simp;omega),show l.length-1-(l.take i++l.drop (i+1)).length=0 by simp;omega];rw[List.getElem?_set_self hlt]at hi;simpa using hi
   .rw[if_neg c2,List.getElem?_append_left (by simp;omega),List.getElem?_append_right (by simp;omega),List.getElem?_drop,List.length_take,show j+1+(i-1-min j l.length)=i by omega]
    rwa[List.getElem?_set_ne (by omega)]at hi
 .intro a b ha hb hab
  simp only[List.length_set]at ha hb;split at hab<;>split at hab<;>(try split at hab)<;>(try split at hab)<;>omega
theorem BD.settle(h:BD T w0 w (l++[t]))(j:Nat)(hj:l[j]? =some (aA P))(hQ:∀W f,P W->t.holds W f->Q W):BD T w0 w (l.set j (aA Q)):=
 h.Mc j hj (fun f1 f2 ⟨a1,a2⟩ hb=>⟨fun k hk=>(List.mem_append.1 hk).elim (a1 k) (t.lt hb k),fun W hW=>hQ W f2 (a2 W (fun k hk=>hW k (List.mem_append_left _ hk))) (t.keep hb (fun k hk=>hW k (List.mem_append_right _ hk)))⟩)
theorem BD.weaken(h:BD T w0 w l)(i:Nat)(hi:l[i]? =some (aA P))(hQ:∀W,P W->Q W):BD T w0 w (l.set i (aA Q)):=
 h.jh i hi (fun W f hf=>hQ W (hf.2 W (fun _ _=>rfl)))
def Gi(w0 W:World):Prop:=∀k,k<w0.heap.size->W.heap[k]? =w0.heap[k]?
theorem BD.old0(w:World):BD (List.range w.heap.size) w w [aA (Gi w)]:=
 ⟨Touch.refl _ _,fun _=>List.range w.heap.size,fun i t hi=>by
  cases i with
  |zero=>
   simp at hi;subst hi
   exact⟨⟨fun k hk=>List.mem_range.1 hk,fun W hW k hk=>hW k (List.mem_range.2 hk)⟩,fun k hk=> .inl hk⟩
  |succ i=>simp at hi,fun i j hi hj hij=>by simp at hi hj;omega⟩
theorem BD.lg(h:BD T w0 w l)(ho:Gi w0 w):Touch [] w0 w:=⟨h.1.os,h.1.tape,h.1.output,h.1.size,fun k hk _=>ho k hk⟩
end
end
end Go.Proofs.YtddnnapoaonmjaaGreatDoor
