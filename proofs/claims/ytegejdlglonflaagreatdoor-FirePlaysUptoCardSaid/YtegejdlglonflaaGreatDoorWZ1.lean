/-
  Texts of FirePlays, laid together by program.
-/
import Derived.Below
import Derived.BigQuiet
import Derived.BigRegion
import Derived.Deep.AppendLies
import Derived.Deep.Draws
import Derived.Deep.QuietTactic
import Derived.Deep.RegionLaw
import Derived.Laws.OwnMore
import Derived.Laws.Rows
import Derived.Lib.AppendZerosOnto
import Derived.Lib.Hide
import Derived.Outline
import Derived.OwnWalkIn
import Derived.RangeFuncLeaves
import Derived.RangeFuncNested
import Derived.RangeFuncRecord
import Derived.RegionTactic
import Derived.Shelf.Abstract
import Derived.Test.YtegejdlglonflaaGreatDoorProg
import Derived.WalkKit
import Derived.WalkLawsBesides
import Derived.WalkSpells
import Derived.Deep.RegionHeld
import Derived.Deep.RegionHeld3
namespace Go.Proofs.YtegejdlglonflaaGreatDoor
open Go.RowKit Go.Shelf Go.Proofs.Tryz
set_option maxRecDepth 100000
set_option maxHeartbeats 8000000
set_option linter.unusedVariables false
set_option linter.unusedSimpArgs false
instance:Coe Int Value:=⟨fun x=>.int .i64 x⟩
instance:Coe Nat Value:=⟨fun b=>.pointer (some ⟨b,0,none⟩)⟩
instance:Coe Bool Value:=⟨.bool⟩
instance:Coe Unit Value:=⟨fun _=>.int .i64 0⟩
instance:Coe Prop Value:=⟨fun _=>.slice none 0 0⟩
theorem _root_.Go.RowKit.Hid.o{p:Prop}(h:Hid p):p:=h
theorem _root_.Go.Shut.o{p:Prop}(h:Shut p):p:=h
theorem sSq : type_of% @List.set_cons_succ := @List.set_cons_succ
theorem sZq : type_of% @List.set_cons_zero := @List.set_cons_zero
theorem sAq : type_of% @List.setIfInBounds_toArray := @List.setIfInBounds_toArray
theorem nAq : type_of% @List.nil_append := @List.nil_append
theorem cAq : type_of% @List.cons_append := @List.cons_append
theorem hdq : type_of% @Lib.hid := @Lib.hid
theorem ltq {n m : Nat} (h : n < m) : n < m + 1 := Nat.lt_succ_of_lt h
theorem mfq (fn : Fn) (first cap : Array Value) (w : World) : (Instr.makeFunc fn first cap).run Tryz.prog w = .ok (.func fn first cap) w := rfl
section
variable {P : Program} {ops : Array Oper} {Q : Exit → Act → World → Prop} {md : Region.Mode} {S : World → Prop} {oi : Oper} {v : Value} {fuel : Nat} {listed : Array Bool} {a : Act} {w : World}
theorem tkq {G : Prop} (i : Nat) (d : Tmp) (h : G)
 (hi : ops[i]? = some oi := by rfl) (hd : oi.dst = some d := by rfl) (hs : Region.noSelect ops = true := by kernel_rfl) (hf : Region.free md ops listed i = true := by kernel_rfl) (hr : (Region.ready md ops listed).contains i = true := by kernel_rfl)
 (hQ : ∀ c a w, Q (.panic c) (a.put (some d) v) w → Q (.panic c) a w := by exact fun _ _ _ h => h) (hy : YieldsIf P ops S oi v a := by refine Or.inl ⟨by rfl, ?_⟩; intro w hSw; (try dsimp only at hSw); first | (go_simp; done) | (go_simp; with_reducible rfl)) (hS : S w := by first | with_reducible assumption | assumption)
 (e : wpAnyH P md ops Q S fuel (listed.setIfInBounds i true) (a.put (some d) v) w = G := by (try simp only [Act.put, sAq, sZq, sSq]); exact rfl) : wpAnyH P md ops Q S (fuel + 1) listed a w := by
 rw [← hd] at hQ e
 exact wpAnyH_take hi hs hf hr hQ hy hS (e ▸ h)
theorem skq {G : Prop} (i : Nat) (d : Tmp) (h : G)
 (hi : ops[i]? = some oi := by rfl) (hd : oi.dst = some d := by rfl) (hs : Region.noSelect ops = true := by kernel_rfl) (hf : Region.free md ops listed i = true := by kernel_rfl) (hr : (Region.ready md ops listed).contains i = true := by kernel_rfl)
 (hQ : ∀ c a w, Q (.panic c) (a.put (some d) undef) w → Q (.panic c) a w := by exact fun _ _ _ h => h) (hy : YieldsIf P ops S oi undef a := by exact Or.inr ⟨by rfl, rfl⟩) (hS : S w := by first | with_reducible assumption | assumption)
 (e : wpAnyH P md ops Q S fuel (listed.setIfInBounds i true) (a.put (some d) undef) w = G := by (try simp only [Act.put, sAq, sZq, sSq]); exact rfl) : wpAnyH P md ops Q S (fuel + 1) listed a w := by
 rw [← hd] at hQ e
 exact wpAnyH_take hi hs hf hr hQ hy hS (e ▸ h)
theorem dnq (h : Q .normal a w) (hr : Region.ready md ops listed = [] := by kernel_rfl) : wpAnyH P md ops Q S fuel listed a w := wpAnyH_done hr h _
theorem hrq {id : Nat} {S : World → Prop} (h : S w.drew → wpAnyH P .any ops Q S ops.size (Array.replicate ops.size false) a w.drew) (hm : P.follows .mixedOrders = true := by kernel_rfl) (hS : S w.drew := by (try dsimp only); first | ((repeat' (first | with_reducible assumption | refine And.intro ?_ ?_)); done) | go_keep) : (Code.region id ops true).wp P Q a w := wp_region_held_drew hm hS h
theorem kpq {K : Act → World → Prop} {S : World → Prop} {X : Act → World → Prop} {a : Act} {w : World} {G : Prop} (h : ∀ a w, S w → (S w → X a w) → K a w) (k : S w → G) (hS : S w := by (try dsimp only); first | ((repeat' (first | with_reducible assumption | refine And.intro ?_ ?_)); done) | go_keep) (e : X a w = G := by (try simp only [Act.put, sAq, sZq, sSq]); exact rfl) : K a w := h a w hS (fun s => e ▸ k s)
theorem rdq (i : Nat) (ho : ops[i]? = some oi)
 (h : ∀ K' : Act → World → Prop, Shut (∀ a w, S w → (S w → wpAnyH P md ops Q S fuel (listed.setIfInBounds i true) a w) → K' a w) → if Region.wanted oi (yielded ops a.tmps) = true then Oper.wp P oi a w K' Q else K' (a.put oi.dst undef) w)
 (hr : Region.ready md ops listed = [i] := by kernel_rfl) : wpAnyH P md ops Q S (fuel + 1) listed a w := wpAnyH_ready hr (by simp) (AllReadyH.cons ho h AllReadyH.nil)
theorem opq {G H : Prop} (i : Nat) (h : H → G) (ho : ops[i]? = some oi := by rfl) (hr : Region.ready md ops listed = [i] := by kernel_rfl)
 (e : (H → G) → ∀ K' : Act → World → Prop, Shut (∀ a w, S w → (S w → wpAnyH P md ops Q S fuel (listed.setIfInBounds i true) a w) → K' a w) → if Region.wanted oi (yielded ops a.tmps) = true then Oper.wp P oi a w K' Q else K' (a.put oi.dst undef) w := by intro h K hK; go_simp; exact kpq hK.out h) : wpAnyH P md ops Q S (fuel + 1) listed a w := wpAnyH_ready hr (by simp) (AllReadyH.cons ho (e h) AllReadyH.nil)
end
section
open Go.RowKit
structure Touch(S:List Nat)(w w':World):Prop where
 os:w'.os=w.os
 tape:w'.tape=w.tape
 output:w'.output=w.output
 size:w.heap.size<=w'.heap.size
 block:∀k,k<w.heap.size->k∉S->w'.heap[k]? =w.heap[k]?
section
variable {S S':List Nat} {w w1 w2:World}
theorem Touch.refl(S:List Nat)(w:World):Touch S w w:=⟨rfl,rfl,rfl,Nat.le_refl _,fun _ _ _=>rfl⟩
theorem Touch.mono(h:Touch S w w1)(hS:∀k∈S,k∈S'\/w.heap.size<=k):Touch S' w w1:=
 ⟨h.os,h.tape,h.output,h.size,fun k hk hn=>h.block k hk (fun hc=>(hS k hc).elim hn (fun h2=>by omega))⟩
theorem Touch.trans(h:Touch S w w1)(h':Touch S' w1 w2)(hS:∀k∈S',k∈S\/w.heap.size<=k):Touch S w w2:=
 ⟨h'.os.trans h.os,h'.tape.trans h.tape,h'.output.trans h.output,Nat.le_trans h.size h'.size,fun k hk hn=>
  (h'.block k (Nat.lt_of_lt_of_le hk h.size) (fun hc=>(hS k hc).elim hn (fun h2=>by omega))).trans (h.block k hk hn)⟩
theorem Touch.trans'(h:Touch S w w1)(h':Touch S w1 w2):Touch S w w2:=h.trans h' (fun _ hk=> .inl hk)
theorem Touch.alloc(h:Touch S w w1)(o:Obj):Touch S w (w1.alloc o):=
 ⟨h.os,h.tape,h.output,Nat.le_trans h.size (by simp),fun k hk hn=>(Below.heap_alloc w1 o k (Nat.lt_of_lt_of_le hk h.size)).trans (h.block k hk hn)⟩
theorem Touch.drew(h:Touch S w w1):Touch S w w1.drew:=⟨h.os,h.tape,h.output,h.size,h.block⟩
theorem Touch.drewN(h:Touch S w w1)(n:Nat):Touch S w (w1.drewN n):=⟨h.os,h.tape,h.output,h.size,h.block⟩
theorem Touch.setCell(h:Touch S w w1)(p:Addr)(u:Value)(hp:p.block∈S\/w.heap.size<=p.block):Touch S w (w1.setCell p u):=
 ⟨h.os,h.tape,h.output,by simpa[World.setCell]using h.size,fun k hk hn=>(Below.heap_setCell w1 p u k (by
  rintro rfl;exact hp.elim hn (fun h2=>by omega))).trans (h.block k hk hn)⟩
theorem Touch.grown(h:Touch S w w1){row:Option Nat}(hg:w1.grownBy w2 row)(hr:∀k,row=some k->k∈S\/w.heap.size<=k):Touch S w w2:=
 ⟨hg.os.trans h.os,hg.tape.trans h.tape,hg.output.trans h.output,Nat.le_trans h.size hg.size,fun k hk hn=>
  (hg.block k (Nat.lt_of_lt_of_le hk h.size) (fun e=>(hr k e.symm).elim hn (fun h2=>by omega))).trans (h.block k hk hn)⟩
theorem Touch.below(h:Touch [] w w1):Below w.heap.size w w1:=⟨h.os,h.tape,h.output,h.size,fun k hk=>h.block k hk (by simp)⟩
theorem Touch.of_below(h:Below w.heap.size w w1)(S:List Nat):Touch S w w1:=⟨h.os,h.tape,h.output,h.size,fun k hk _=>h.block k hk⟩
theorem Touch.vQ{row:Option Nat}(hg:w.grownBy w1 row)(hr:∀k,row=some k->k∈S\/w.heap.size<=k):Touch S w w1:=(Touch.refl S w).grown hg hr
end
def Cg(w:World)(g:Nat)(t:TypeId)(cs:Array Value):Prop:=w.heap[g]? =some (.cells cs t (0,0))
section
variable {w w':World} {g:Nat} {t:TypeId} {cs:Array Value} {S:List Nat}
theorem Cg.lt(h:Cg w g t cs):g<w.heap.size:=(Array.getElem?_eq_some_iff.1 h).1
theorem Cg.cell(h:Cg w g t cs)(i:Nat):w.cell? ⟨g,i,none⟩=cs[i]? :=cell_of_row w g i cs t (0,0) h
theorem Cg.frozen(h:Cg w g t cs)(i:Nat):w.frozen? ⟨g,i,none⟩=false:=by
 unfold Cg at h;simp[World.frozen?,h]
theorem Cg.new(w:World)(t:TypeId)(cs:Array Value):Cg (w.alloc (.cells cs t)) w.heap.size t cs:=heap_alloc_new w _
theorem Cg.keep(h:Cg w g t cs)(he:w'.heap[g]? =w.heap[g]?):Cg w' g t cs:=he.trans h
theorem Cg.alloc(h:Cg w g t cs)(o:Obj):Cg (w.alloc o) g t cs:=h.keep (Below.heap_alloc w o g h.lt)
theorem Cg.drewN(h:Cg w g t cs)(n:Nat):Cg (w.drewN n) g t cs:=h
theorem Cg.drew(h:Cg w g t cs):Cg w.drew g t cs:=h
theorem Cg.set(h:Cg w g t cs)(i:Nat)(u:Value):Cg (w.setCell ⟨g,i,none⟩ u) g t (cs.setIfInBounds i u):=by
 unfold Cg at h|-;simp[World.setCell,Array.getElem?_modify,h]
theorem Cg.far(h:Cg w g t cs){p:Addr}(hp:g≠p.block)(u:Value):Cg (w.setCell p u) g t cs:=h.keep (Below.heap_setCell w p u g hp)
theorem Cg.touch(h:Cg w g t cs)(ht:Touch S w w')(hg:g∉S):Cg w' g t cs:=h.keep (ht.block g h.lt hg)
theorem Cg.grown{row:Option Nat}(h:Cg w g t cs)(hb:w.grownBy w' row)(hg:some g≠row):Cg w' g t cs:=h.keep (hb.block g h.lt hg)
theorem Cg.ne{g':Nat}{t':TypeId}{cs':Array Value}(h:Cg w g t cs)(h':Cg w g' t' cs')(hne:t≠t'):g≠g':=by
 rintro rfl;unfold Cg at h h';rw[h]at h';injection h' with h'
 injection h' with _ ht
 exact hne ht
end
def sb(v:Value):List Nat:=v.ownBlock.toList
section
variable {w w':World} {e:TypeId} {size:Nat} {v:Value} {n:Nat} {xs:List Value} {S:List Nat}
theorem own_ne{g:Nat}{t:TypeId}{cs:Array Value}(h:w.ownsRow 0 e size v n xs)(hg:Cg w g t cs)(hne:t≠e):g∉sb v:=by
 rcases h.2 with ⟨rfl,_⟩|⟨g',cap,cur,rfl,_,hh,_⟩
 .simp[sb,Value.ownBlock]
 .intro he
  have :g=g':=by simpa[sb,Value.ownBlock]using he
  subst this;exact Cg.ne hg (show Cg w g e cur from hh) hne rfl
theorem pF{e':TypeId}{size' n':Nat}{v':Value}{xs':List Value}(h:w.ownsRow 0 e size v n xs)(h':w.ownsRow 0 e' size' v' n' xs')(hne:e≠e'):∀k∈sb v,k∉sb v':=by
 rcases h.2 with ⟨rfl,_⟩|⟨g',cap,cur,rfl,_,hh,_⟩
 .simp[sb,Value.ownBlock]
 .intro k hk
  have :k=g':=by simpa[sb,Value.ownBlock]using hk
  subst this;exact own_ne h' (show Cg w k e cur from hh) hne
theorem iW(h:w.ownsRow 0 e size v n xs):∀k∈sb v,k<w.heap.size:=by
 intro k hk;exact(h.lt k (by simpa[sb]using hk)).2
theorem dN(h:w.ownsRow 0 e size v n xs)(he:∀k∈sb v,w'.heap[k]? =w.heap[k]?):w'.ownsRow 0 e size v n xs:=by
 refine⟨h.1,?_⟩;rcases h.2 with hn|⟨g,cap,cur,rfl,hb,hgg,rest⟩
 .exact .inl hn
 .exact .inr ⟨g,cap,cur,rfl,hb,(he g (by simp[sb,Value.ownBlock])).trans hgg,rest⟩
theorem dW(h:w.ownsRow 0 e size v n xs)(ht:Touch S w w')(hd:∀k∈sb v,k∉S):w'.ownsRow 0 e size v n xs:=
 dN h (fun k hk=>ht.block k (iW h k hk) (hd k hk))
theorem own_drewN(h:w.ownsRow 0 e size v n xs)(k:Nat):(w.drewN k).ownsRow 0 e size v n xs:=dN h (fun _ _=>rfl)
theorem dx(h:w.ownsRow 0 e size v n xs):w.drew.ownsRow 0 e size v n xs:=dN h (fun _ _=>rfl)
theorem dh(h:w.ownsRow 0 e size v n xs)(p:Addr)(u:Value)(hp:p.block∉sb v):(w.setCell p u).ownsRow 0 e size v n xs:=
 dN h (fun k hk=>Below.heap_setCell w p u k (fun he=>hp (he▸hk)))
theorem fC(h:w.ownsRow 0 e size v n xs)(hn:0<n):∃g cap cur,v= .slice (some ⟨g,0,none⟩) n cap/\Cg w g e cur/\n<=cap/\cap<=maxLen/\cur.size=cap*size/\cur.toList.take (n*size)=xs:=by
 rcases h.2 with ⟨_,h0⟩|⟨g,cap,cur,hv,_,hg,h1,h2,h3,h4⟩
 .omega
 .exact⟨g,cap,cur,hv,hg,h1,h2,h3,h4⟩
theorem aK(h:w.ownsRow 0 e size v n xs):∃a cap,v= .slice a n cap/\n<=cap/\cap<=maxLen:=by
 rcases h.2 with ⟨hv,h0⟩|⟨g,cap,cur,hv,_,hg,h1,h2,h3,h4⟩
 .exact⟨none,0,by rw[hv,h0],by omega,by simp[maxLen]⟩
 .exact⟨_,cap,hv,h1,h2⟩
theorem jY{g cap:Nat}(h:w.ownsRow 0 e size (.slice (some ⟨g,0,none⟩) n cap) n xs)(j:Nat)(u:Value):
  (w.setCell ⟨g,j,none⟩ u).ownsRow 0 e size (.slice (some ⟨g,0,none⟩) n cap) n (xs.set j u):=by
 refine⟨by rw[List.length_set];exact h.1,?_⟩;rcases h.2 with ⟨hv,_⟩|⟨g',cap',cur,hv,hb,hg,h1,h2,h3,h4⟩
 .cases hv
 .injection hv with ha _ hc
  injection ha with ha
  injection ha with ha
  subst ha;subst hc;refine .inr ⟨g,cap,cur.setIfInBounds j u,rfl,hb,Cg.set (show Cg w g e cur from hg) j u,h1,h2,by simpa using h3,?_⟩;rw[<-h4];simp[List.take_set]
theorem dI{g cap:Nat}(h:w.ownsRow 0 e size (.slice (some ⟨g,0,none⟩) n cap) n xs)(j:Nat)(hj:j<xs.length):w.cell? ⟨g,j,none⟩=some xs[j]:=by
 have :=h.cells (g:=g) rfl j xs[j] (List.getElem?_eq_getElem hj);rwa[show(⟨g,0,none⟩:Addr).add j=⟨g,j,none⟩ from by unfold Addr.add;split<;>simp_all]at this
theorem dH{g cap:Nat}(h:w.ownsRow 0 e size (.slice (some ⟨g,0,none⟩) n cap) n xs)(j:Nat):w.frozen? ⟨g,j,none⟩=false:=by
 rcases h.2 with ⟨hv,_⟩|⟨g',cap',cur,hv,hb,hg,h1,h2,h3,h4⟩
 .cases hv
 .injection hv with ha _ hc
  injection ha with ha
  injection ha with ha
  subst ha;exact Cg.frozen (show Cg w g e cur from hg) j
end
end
section
open Go.RowKit
def Kept(D:Nat)(W W':World):Prop:=W'.heap[D]? =W.heap[D]? /\W'.heap[D+1]? =W.heap[D+1]?
theorem Kept.refl(D:Nat)(W:World):Kept D W W:=⟨rfl,rfl⟩
theorem Kept.trans{D:Nat}{A B C:World}(h:Kept D A B)(h':Kept D B C):Kept D A C:=⟨h'.1.trans h.1,h'.2.trans h.2⟩
theorem Touch.kept{S:List Nat}{W W':World}{D:Nat}(h:Touch S W W')(hD:D+1<W.heap.size)(h1:D∉S)(h2:D+1∉S):Kept D W W':=⟨h.block D (by omega) h1,h.block (D+1) hD h2⟩
def Z0(D:Nat)(W:World)(J:World->Prop)(Jx:Code->World->Prop):Exit->Act->World->Prop
 | .normal,_,W'=>Kept D W W'/\J W'
 | .ret,_,W'=>Kept D W W'/\Jx .ret W'
 | .exit id,_,W'=>Kept D W W'/\Jx (.exit id) W'
 | .goto t,_,W'=>Kept D W W'/\Jx (.goto t) W'
 | .panic _,_,_=>False
 | .outgrown,_,_=>False
def Zj{β:Type}(Fin:β->Prop)(J:β->World->Prop)(Jx:World->Prop)(e:Ending)(W:World):Prop:=(∃v,e= .returned v)/\((∃b,Fin b/\J b W)\/Jx W)
def Told(J Jx:World->Prop)(e:Ending)(W:World):Prop:=(e= .returned (.bool true)/\J W)\/(e= .returned (.bool false)/\Jx W)
theorem Zy{n:Nat}:Fence.wide.depth.isSome=true->1<=n:=fun h=>by simp[Fence.wide]at h
theorem ZB{β:Type}{P:Program}{n:Nat}{g:Operand}{ps:Array Tmp}{assign body:Code}{Q:Exit->Act->World->Prop}{a:Act}{w:World}{gf:Nat}{lb:Array Value}(hg:a.eval g= .func (.func gf) #[] lb)(eg:∀args w,(callFunc gf args).run P w= .ok (.enter gf args) w)(J:β->World->Prop)(Jx:Code->World->Prop)(Fin:β->Prop)(arg:β->Array Value->β->Prop)(hps:∀b xs b',arg b xs b'->xs.size=ps.size)(hJ:∀b W o,J b W->J b (W.putObj (w.heap.size+1) o))(hJx:∀c W o,Jx c W->Jx c (W.putObj (w.heap.size+1) o))(b0:β)(h0:∀o,J b0 ((w.alloc (.deferred (some []))).alloc o))(Y7:∀b xs b' W,arg b xs b'->J b W->w.heap.size+1<W.heap.size->
   assign.wpIn (Fence.wide.inRound (w.heap.size+1)) (n-1-1) P (Exit.then (fun a1 W1=>Kept w.heap.size W W1/\
    ∀o,body.wpIn (Fence.wide.inRound (w.heap.size+1)) (n-1-1) P (Z0 w.heap.size (W1.putObj (w.heap.size+1) o) (J b') Jx) a1 (W1.putObj (w.heap.size+1) o)) (fun _ _ _=>False))
    {tmps:=(ps.zip xs).foldl (fun t (p,v)=>t.setIfInBounds p v) a.tmps,defers:=[]} W)(hiter:∀(J':β->World->Prop) (Zu:World->Prop),(∀b W,J' b W->J b W/\w.heap.size+1<W.heap.size)->(∀b W b' W',J' b W->J b' W'->Kept w.heap.size W W'->J' b' W')->
   (∀W W',Zu W->(∀c,Jx c W->Jx c W')->Kept w.heap.size W W'->Zu W')->
   (∀b xs b' W,arg b xs b'->J' b W->YieldAt Fence.wide (n-1-1) P (w.heap.size+1) xs W (Told (J' b') Zu))->
   ∀W,J' b0 W->CallsIn Fence.wide (n-1) P gf (#[.func (.yield (w.heap.size+1)) #[] #[]]++lb) W (Zj Fin J' Zu))(hdone:∀b W,Fin b->J b W->W.heap[w.heap.size]? =some (.deferred (some []))->w.heap.size+1<W.heap.size->Q .normal {a with defers:={target:= .collected w.heap.size,args:=#[]}::a.defers} W)(hstop:∀c W,Jx c W->W.heap[w.heap.size]? =some (.deferred (some []))->w.heap.size+1<W.heap.size->c.wpIn Fence.wide n P Q {a with defers:={target:= .collected w.heap.size,args:=#[]}::a.defers} W):
  (Code.rangeFunc g ps assign body).wpIn Fence.wide n P Q a w:=by
 refine wpIn_rangeFunc ?_;intro fn _;obtain⟨rec,hrec⟩:∃rec:LoopState->Option Code->Loop,rec=fun st pe=>{state:=st,pending:=pe,fn,tmps:=a.tmps,params:=ps,assign,body,defers:=w.heap.size}:=⟨_,rfl⟩;obtain⟨W1,hW1⟩:∃W1,(w.alloc (.deferred (some []))).alloc (.loop (rec .ready none))=W1:=⟨_,rfl⟩;have hL1:W1.heap[w.heap.size+1]? =some (.loop (rec .ready none)):=by
  rw[<-hW1];have :=World.alloc_heap_new (w.alloc (.deferred (some []))) (.loop (rec .ready none));rwa[World.size_alloc]at this
 have hK1:W1.heap[w.heap.size]? =some (.deferred (some [])):=by
  rw[<-hW1];exact(Below.heap_alloc _ _ _ (by simp)).trans (World.alloc_heap_new w _)
 refine⟨w.heap.size+1,[{target:= .collected w.heap.size,args:=#[]}],W1,{target:= .fn (.func gf) lb,args:=#[.func (.yield (w.heap.size+1)) #[] #[]]},W1,gf,
  #[.func (.yield (w.heap.size+1)) #[] #[]]++lb,W1,?_,?_,?_,?_,fun h=>by simp[Fence.wide]at h,?_⟩
 .rw[<-hW1,hrec];exact run_enterLoop_outer _ _ _ _ _
 .simp only[resolve,hg]
  simp[go_sem]
 .intro f' _;trivial
 .simp[invoke,go_sem,eg]
 .refine(hiter (fun b W=>J b W/\W.heap[w.heap.size+1]? =some (.loop (rec .ready none))/\W.heap[w.heap.size]? =some (.deferred (some [])))
   (fun W=>∃c,Jx c W/\W.heap[w.heap.size+1]? =some (.loop (rec .done (some c)))/\W.heap[w.heap.size]? =some (.deferred (some [])))
   (fun b W h=>⟨h.1,(Array.getElem?_eq_some_iff.1 h.2.1).1⟩) (fun b W b' W' h h' hk=>⟨h',hk.2.trans h.2.1,hk.1.trans h.2.2⟩)
   (fun W W' ⟨c,h1,h2,h3⟩ hc hk=>⟨c,hc c h1,hk.2.trans h2,hk.1.trans h3⟩) ?_ W1 ⟨by rw[<-hW1];exact h0 _,hL1,hK1⟩).mono ?_
  .rintro b xs b' W ZJ ⟨hj,hl,hk⟩
   have hlt:w.heap.size+1<W.heap.size:=(Array.getElem?_eq_some_iff.1 hl).1;have hy:=run_yield (P:=P) (args:=xs) hl (by rw[hrec];exact hps _ _ _ ZJ);rw[hrec]at hy;refine⟨fn,_,assign,body,hy,roundIn_of_wpIn trivial (wpIn_mono (Y7 b xs b' W ZJ hj hlt) ?_)⟩;rintro ex a1 Wa hpost;cases ex with
   |ret=>exact hpost.elim
   |exit id=>exact hpost.elim
   |goto t=>exact hpost.elim
   |panic ch=>exact hpost.elim
   |outgrown=>exact hpost.elim
   |normal=>
   obtain⟨hka,hbody⟩:=hpost;have hl1:=hka.2.trans hl;have hk1:=hka.1.trans hk;have hlt1:w.heap.size+1<Wa.heap.size:=(Array.getElem?_eq_some_iff.1 hl1).1;refine⟨_,run_beginRound hl1 (by rw[hrec]),?_⟩;have hl2:(Wa.putObj (w.heap.size+1) (.loop {rec .ready none with state:= .busy})).heap[w.heap.size+1]? =some (.loop {rec .ready none with state:= .busy}):=World.putObj_heap_same hlt1;have hk2:(Wa.putObj (w.heap.size+1) (.loop {rec .ready none with state:= .busy})).heap[w.heap.size]? =some (.deferred (some [])):=(World.putObj_heap_other (by omega)).trans hk1;refine wpIn_mono (hbody _) ?_;have fin:∀(jump:Option Code) (W3:World),Kept w.heap.size (Wa.putObj (w.heap.size+1) (.loop {rec .ready none with state:= .busy})) W3->
     (Instr.endRound (w.heap.size+1) jump).run P W3= .ok (.bool jump.isNone) (W3.putObj (w.heap.size+1) (.loop (rec (if jump.isNone then .ready else .done) jump)))/\
     (W3.putObj (w.heap.size+1) (.loop (rec (if jump.isNone then .ready else .done) jump))).heap[w.heap.size+1]? =some (.loop (rec (if jump.isNone then .ready else .done) jump))/\
     (W3.putObj (w.heap.size+1) (.loop (rec (if jump.isNone then .ready else .done) jump))).heap[w.heap.size]? =some (.deferred (some [])):=fun jump W3 hk3=>by
    have hl3:=hk3.2.trans hl2;have :=run_endRound (P:=P) jump hl3;rw[hrec]at this|-;exact⟨this,World.putObj_heap_same (Array.getElem?_eq_some_iff.1 hl3).1,(World.putObj_heap_other (by omega)).trans (hk3.1.trans hk2)⟩
   rintro e a3 W3 hp;cases e with
   |normal=>
    obtain⟨hk3,hj3⟩:=hp;obtain⟨hr,hl4,hk4⟩:=fin none W3 hk3;exact⟨_,_,hr,.inl ⟨rfl,hJ _ _ _ hj3,hl4,hk4⟩⟩
   |ret=>
    obtain⟨hk3,hj3⟩:=hp;obtain⟨hr,hl4,hk4⟩:=fin (some .ret) W3 hk3;exact⟨_,_,hr,.inr ⟨rfl,.ret,hJx _ _ _ hj3,hl4,hk4⟩⟩
   |exit id=>
    obtain⟨hk3,hj3⟩:=hp;obtain⟨hr,hl4,hk4⟩:=fin (some (.exit id)) W3 hk3;exact⟨_,_,hr,.inr ⟨rfl,.exit id,hJx _ _ _ hj3,hl4,hk4⟩⟩
   |goto t=>
    obtain⟨hk3,hj3⟩:=hp;obtain⟨hr,hl4,hk4⟩:=fin (some (.goto t)) W3 hk3;exact⟨_,_,hr,.inr ⟨rfl,.goto t,hJx _ _ _ hj3,hl4,hk4⟩⟩
   |panic ch=>exact hp.elim
   |outgrown=>exact hp.elim
  .rintro e W2 ⟨⟨v,rfl⟩,(⟨b,hF,hj,hl,hk⟩|⟨c,hj,hl,hk⟩)⟩
   .exact⟨none,_,by have :=run_endLoop (P:=P) hl (by rw[hrec];simp);rw[hrec]at this;exact this,hdone b _ hF (hJ _ _ _ hj) ((World.putObj_heap_other (by omega)).trans hk) (by rw[World.putObj_size];exact(Array.getElem?_eq_some_iff.1 hl).1)⟩
   .exact⟨some c,_,by have :=run_endLoop (P:=P) hl (by rw[hrec];simp);rw[hrec]at this;exact this,hstop c _ (hJx _ _ _ hj) ((World.putObj_heap_other (by omega)).trans hk) (by rw[World.putObj_size];exact(Array.getElem?_eq_some_iff.1 hl).1)⟩
theorem Touch.putObj{S:List Nat}{w w1:World}(h:Touch S w w1){l:Nat}(hl:w.heap.size<=l\/l∈S)(o:Obj):Touch S w (w1.putObj l o):=
 ⟨h.os,h.tape,h.output,by simpa using h.size,fun k hk hn=>(World.putObj_heap_other (by rintro rfl;rcases hl with h1|h1;omega;exact hn h1)).trans (h.block k hk hn)⟩
theorem Cg.putObj{w:World}{g:Nat}{t:TypeId}{cs:Array Value}(h:Cg w g t cs){l:Nat}(hl:g≠l)(o:Obj):Cg (w.putObj l o) g t cs:=h.keep (World.putObj_heap_other hl)
def shutAll(w:World):List Nat->World
 |[]=>w
 |k::ks=>shutAll (w.putObj k (.deferred none)) ks
theorem Zc(ks:List Nat):∀(w:World) (b:Nat),b∉ks->(shutAll w ks).heap[b]? =w.heap[b]? :=by
 induction ks with
 |nil=>intro w b _;rfl
 |cons k ks ih=>
  intro w b hb;simp only[List.mem_cons,not_or]at hb;rw[shutAll,ih _ _ hb.2,World.putObj_heap_other hb.1]
theorem Y6{P:Program}{fn:Func}{R:Ending->World->Prop}{n:Nat}{tmps:Array Value}{v:Value}(ks:List Nat):∀(w:World),(∀k∈ks,w.heap[k]? =some (.deferred (some [])))->ks.Nodup->
  (results fn tmps).run P (shutAll w ks)= .ok v (shutAll w ks)->R (.returned v) (shutAll w ks)->
  bodyPostM Fence.wide n P fn R .ret {tmps:=tmps,defers:=ks.map fun k=>{target:= .collected k,args:=#[]}} w:=by
 induction ks with
 |nil=>intro w _ _ hr hR;exact⟨_,hr,hR⟩
 |cons k ks ih=>
  intro w hk hnd hr hR;rw[List.nodup_cons]at hnd;refine⟨by simp,.inl ⟨_,_,rfl,run_takeDeferred (hk k (by simp)),?_⟩⟩;exact ih _ (fun j hj=>(World.putObj_heap_other (by rintro rfl;exact hnd.1 hj)).trans (hk j (by simp[hj]))) hnd.2 hr hR
theorem Cg.shut{w:World}{g:Nat}{t:TypeId}{cs:Array Value}(h:Cg w g t cs)(ks:List Nat)(hk:∀k∈ks,w.heap[k]? =some (.deferred (some []))):Cg (shutAll w ks) g t cs:=by
 refine h.keep (Zc ks w g (fun hc=>?_));have :=hk g hc;unfold Cg at h;rw[h]at this;cases this
end
section
open Go.RowKit
structure ai where
 holds:World->List Nat->Prop
 keep:∀{w w':World} {fp:List Nat},holds w fp->(∀k∈fp,w'.heap[k]? =w.heap[k]?)->holds w' fp
 lt:∀{w:World} {fp:List Nat},holds w fp->∀k∈fp,k<w.heap.size
structure AA(f f':List Nat)(w w':World):Prop where
 touch:Touch f w w'
 fp:∀k∈f',k∈f\/w.heap.size<=k
theorem AA.refl(f:List Nat)(w:World):AA f f w w:=⟨Touch.refl _ _,fun _ h=> .inl h⟩
def BD(T:List Nat)(w0 w:World)(l:List ai):Prop:=
 Touch T w0 w/\∃F:Nat->List Nat,(∀i t,l[i]? =some t->t.holds w (F i)/\∀k∈F i,k∈T\/w0.heap.size<=k)/\(∀i j,i<l.length->j<l.length->i≠j->∀k∈F i,k∉F j)
section
variable {T:List Nat} {w0 w w':World} {l:List ai} {t t':ai} {i:Nat}
theorem BD.BN(h:BD T w0 w l):Touch T w0 w:=h.1
theorem BD.below(h:BD [] w0 w l):Below w0.heap.size w0 w:=h.1.below
theorem BD.size(h:BD T w0 w l):w0.heap.size<=w.heap.size:=h.1.size
theorem BD.nil(T:List Nat)(w0:World):BD T w0 w0 []:=⟨Touch.refl _ _,fun _=>[],by simp,by simp⟩
theorem BD.nil'(w0:World):BD [] w0 w0 []:=BD.nil _ _
theorem BD.get(h:BD T w0 w l)(i:Nat)(hi:l[i]? =some t):∃f,t.holds w f/\∀k∈f,k∈T\/w0.heap.size<=k:=by
 obtain⟨_,F,h1,_⟩:=h;exact⟨F i,h1 i t hi⟩
theorem BD.step(h:BD T w0 w l)(i:Nat)(hi:l[i]? =some t):∃f,t.holds w f/\(∀k∈f,k∈T\/w0.heap.size<=k)/\∀w' t' f',t'.holds w' f'->AA f f' w w'->BD T w0 w' (l.set i t'):=by
 have hz:=h.size;obtain⟨hb,F,h1,h2⟩:=h;have hi':=(List.getElem?_eq_some_iff.1 hi).1;obtain⟨ht,hge⟩:=h1 i t hi;refine⟨F i,ht,hge,fun w' t' f' ht' hm=>⟨hb.trans hm.touch hge,fun j=>if j=i then f' else F j,?_,?_⟩⟩
 .intro j u hj
  by_cases hji:j=i
  .subst hji
   rw[List.getElem?_set_self hi']at hj;cases hj
   simp only[if_true];exact⟨ht',fun k hk=>(hm.fp k hk).elim (hge k) (fun h=> .inr (by omega))⟩
  .rw[List.getElem?_set_ne (fun e=>hji e.symm)]at hj
   simp only[hji,if_false];obtain⟨hu,hu2⟩:=h1 j u hj;have hj':=(List.getElem?_eq_some_iff.1 hj).1;exact⟨u.keep hu (fun k hk=>hm.touch.block k (u.lt hu k hk) (h2 j i hj' hi' hji k hk)),hu2⟩
 .intro j k hj hk hjk x hx hx2
  dsimp only at hx hx2;simp only[List.length_set]at hj hk;have hnew:∀m,m<l.length->m≠i->∀x∈f',x∉F m:=fun m hm' EQ x hx hx2=>by
   rcases hm.fp x hx with h|h
   .exact h2 i m hi' hm' (fun e=>EQ e.symm) x h hx2
   .have hu:=h1 m (l[m]) (List.getElem?_eq_getElem hm')
    have :=l[m].lt hu.1 x hx2;omega
  by_cases hji:j=i
  .subst hji
   rw[if_pos rfl]at hx;rw[if_neg (fun e=>hjk (Eq.symm e))]at hx2;exact hnew k hk (fun e=>hjk (Eq.symm e)) x hx hx2
  .rw[if_neg hji]at hx
   by_cases hki:k=i
   .subst hki
    rw[if_pos rfl]at hx2;exact hnew j hj hji x hx2 hx
   .rw[if_neg hki]at hx2
    exact h2 j k hj hk hjk x hx hx2
theorem BD.new(h:BD T w0 w l){f':List Nat}(ht':t'.holds w' f')(hm:AA [] f' w w'):BD T w0 w' (l++[t']):=by
 have hz:=h.size;obtain⟨hb,F,h1,h2⟩:=h;have hkeep:∀j (u:ai),l[j]? =some u->u.holds w' (F j):=fun j u hj=>u.keep (h1 j u hj).1 (fun k hk=>hm.touch.block k (u.lt (h1 j u hj).1 k hk) (by simp));have hold:∀j,j<l.length->∀x∈F j,x<w.heap.size:=fun j hj x hx=>l[j].lt (h1 j l[j] (List.getElem?_eq_getElem hj)).1 x hx;have hnew:∀x∈f',w.heap.size<=x:=fun x hx=>(hm.fp x hx).elim (fun h=>by simp at h) id;refine⟨hb.trans hm.touch (by simp),fun j=>if j=l.length then f' else F j,?_,?_⟩
 .intro j u hj
  by_cases hjl:j=l.length
  .subst hjl
   simp at hj
   subst hj;simp only[if_true];exact⟨ht',fun k hk=> .inr (by have :=hnew k hk;omega)⟩
  .have hj':j<l.length:=by have :=(List.getElem?_eq_some_iff.1 hj).1;simp at this;omega
   rw[List.getElem?_append_left hj']at hj;simp only[hjl,if_false];exact⟨hkeep j u hj,(h1 j u hj).2⟩
 .intro j k hj hk hjk x hx hx2
  dsimp only at hx hx2;simp only[List.length_append,List.length_cons,List.length_nil]at hj hk;by_cases hjl:j=l.length
  .rw[if_pos hjl]at hx
   rw[if_neg (by omega)]at hx2;have :=hold k (by omega) x hx2;have :=hnew x hx;omega
  .rw[if_neg hjl]at hx
   by_cases hkl:k=l.length
   .rw[if_pos hkl]at hx2
    have :=hold j (by omega) x hx;have :=hnew x hx2;omega
   .rw[if_neg hkl]at hx2
    exact h2 j k (by omega) (by omega) hjk x hx hx2
theorem BD.qL(h:BD T w0 w l)(i:Nat)(hi:l[i]? =some t):∃T',BD T' w w [t]/\∀w' t' rest,BD T' w w' (t'::rest)->BD T w0 w' (l.set i t'):=by
 obtain⟨f,ht,hge,hs⟩:=h.step i hi;refine⟨f,⟨Touch.refl _ _,fun _=>f,?_,?_⟩,?_⟩
 .intro j u hj
  cases j with
  |zero=>simp at hj;subst hj;exact⟨ht,fun k hk=> .inl hk⟩
  |succ j=>simp at hj
 .intro j k hj hk hjk;simp at hj hk;omega
 .rintro w' t' rest ⟨hT,F',h1',h2'⟩
  obtain⟨a,b⟩:=h1' 0 t' rfl;exact hs w' t' (F' 0) a ⟨hT,b⟩
theorem BD.ZT{t1 t2:ai}(h:BD T w0 w l)(i j:Nat)(hi:l[i]? =some t1)(hj:l[j]? =some t2)(hij:i≠j):
  ∃T',BD T' w w [t1,t2]/\∀w' t1' t2' rest,BD T' w w' (t1'::t2'::rest)->BD T w0 w' ((l.set i t1').set j t2'):=by
 have hz:=h.size;obtain⟨hb,F,h1,h2⟩:=h;have hi':=(List.getElem?_eq_some_iff.1 hi).1;have hj':=(List.getElem?_eq_some_iff.1 hj).1;obtain⟨ha1,ha2⟩:=h1 i t1 hi;obtain⟨hb1,hb2⟩:=h1 j t2 hj;have hT2:∀k∈F i++F j,k∈T\/w0.heap.size<=k:=fun k hk=>(List.mem_append.1 hk).elim (ha2 k) (hb2 k);refine⟨F i++F j,⟨Touch.refl _ _,fun m=>if m=0 then F i else F j,?_,?_⟩,?_⟩
 .intro m u hm
  match m,hm with
  |0,hm=>simp at hm;subst hm;exact⟨ha1,fun k hk=> .inl (List.mem_append_left _ hk)⟩
  |1,hm=>simp at hm;subst hm;exact⟨hb1,fun k hk=> .inl (List.mem_append_right _ hk)⟩
  |m+2,hm=>simp at hm
 .intro m n hm hn hmn x hx hx2
  dsimp only at hx hx2;simp only[List.length_cons,List.length_nil]at hm hn;by_cases h0:m=0
  .rw[if_pos h0]at hx;rw[if_neg (by omega)]at hx2;exact h2 i j hi' hj' hij x hx hx2
  .rw[if_neg h0]at hx;rw[if_pos (by omega)]at hx2;exact h2 i j hi' hj' hij x hx2 hx
 .rintro w' t1' t2' rest ⟨hT,F',h1',h2'⟩
  obtain⟨a1,b1⟩:=h1' 0 t1' rfl;obtain⟨a2,b2⟩:=h1' 1 t2' rfl;have h01:=h2' 0 1 (by simp) (by simp) (by omega);have hoth:∀m,m<l.length->m≠i->m≠j->∀x∈F m,x∉F' 0/\x∉F' 1:=fun m hm EQ Iz x hx=>by
   have hlt:=l[m].lt (h1 m l[m] (List.getElem?_eq_getElem hm)).1 x hx;have hn:x∉F i++F j:=fun hc=>(List.mem_append.1 hc).elim (h2 m i hm hi' EQ x hx) (h2 m j hm hj' Iz x hx);exact⟨fun hc=>(b1 x hc).elim hn (fun h=>by omega),fun hc=>(b2 x hc).elim hn (fun h=>by omega)⟩
  refine⟨hb.trans hT hT2,fun m=>if m=i then F' 0 else if m=j then F' 1 else F m,?_,?_⟩
  .intro m u hm
   by_cases Iz:m=j
   .subst Iz
    rw[List.getElem?_set_self (by simpa using hj')]at hm;cases hm
    simp only[if_neg (Ne.symm hij),if_true];exact⟨a2,fun k hk=>(b2 k hk).elim (hT2 k) (fun h=> .inr (by omega))⟩
   .rw[List.getElem?_set_ne (fun e=>Iz e.symm)]at hm
    by_cases EQ:m=i
    .subst EQ
     rw[List.getElem?_set_self hi']at hm;cases hm
     simp only[if_true];exact⟨a1,fun k hk=>(b1 k hk).elim (hT2 k) (fun h=> .inr (by omega))⟩
    .rw[List.getElem?_set_ne (fun e=>EQ e.symm)]at hm
     simp only[if_neg EQ,if_neg Iz];obtain⟨hu,hu2⟩:=h1 m u hm;have hm':=(List.getElem?_eq_some_iff.1 hm).1;exact⟨u.keep hu (fun k hk=>hT.block k (u.lt hu k hk) (fun hc=>(List.mem_append.1 hc).elim (h2 m i hm' hi' EQ k hk) (h2 m j hm' hj' Iz k hk))),hu2⟩
  .intro m n hm hn hmn x hx hx2
   dsimp only at hx hx2;simp only[List.length_set]at hm hn;by_cases EQ:m=i
   .rw[if_pos EQ]at hx
    rw[if_neg (by omega)]at hx2;by_cases hnj:n=j
    .rw[if_pos hnj]at hx2;exact h01 x hx hx2
    .rw[if_neg hnj]at hx2;exact(hoth n hn (by omega) hnj x hx2).1 hx
   .rw[if_neg EQ]at hx
    by_cases Iz:m=j
    .rw[if_pos Iz]at hx
     by_cases hni:n=i
     .rw[if_pos hni]at hx2;exact h01 x hx2 hx
     .rw[if_neg hni,if_neg (by omega)]at hx2;exact(hoth n hn hni (by omega) x hx2).2 hx
    .rw[if_neg Iz]at hx
     by_cases hni:n=i
     .rw[if_pos hni]at hx2;exact(hoth m hm EQ Iz x hx).1 hx2
     .rw[if_neg hni]at hx2
      by_cases hnj:n=j
      .rw[if_pos hnj]at hx2;exact(hoth m hm EQ Iz x hx).2 hx2
      .rw[if_neg hnj]at hx2;exact h2 m n hm hn hmn x hx hx2
theorem BD.sel(h:BD T w0 w l)(is:List Nat){l':List ai}(he:is.map (fun i=>l[i]?)=l'.map some)(hn:is.Nodup):BD T w0 w l':=by
 obtain⟨hb,F,h1,h2⟩:=h;have hlen:is.length=l'.length:=by have :=congrArg List.length he;simpa using this
 have hget:∀j (hj:j<l'.length),l[is[j]'(by omega)]? =some l'[j]:=fun j hj=>by
  have :=congrArg (fun x=>x[j]?) he;simp only[List.getElem?_map]at this;rw[List.getElem?_eq_getElem (by omega),List.getElem?_eq_getElem hj]at this;simpa using this
 refine⟨hb,fun j=>F (is.getD j 0),?_,?_⟩
 .intro j u hj
  obtain⟨hj',rfl⟩:=List.getElem?_eq_some_iff.1 hj;have :is.getD j 0=is[j]'(by omega):=by simp[List.getD,show j<is.length by omega]
  simp only[this];exact h1 _ _ (hget j hj')
 .intro j k hj hk hjk x hx hx2
  have e1:is.getD j 0=is[j]'(by omega):=by simp[List.getD,show j<is.length by omega]
  have e2:is.getD k 0=is[k]'(by omega):=by simp[List.getD,show k<is.length by omega]
  simp only[e1]at hx;simp only[e2]at hx2;refine h2 _ _ (List.getElem?_eq_some_iff.1 (hget j hj)).1 (List.getElem?_eq_some_iff.1 (hget k hk)).1 (fun e=>hjk ?_) x hx hx2;exact(List.getElem_inj hn).1 e
theorem BD.pick(h:BD T w0 w l)(is:List Nat)(hn:is.Nodup)(hl:∀i∈is,i<l.length):BD T w0 w (is.filterMap fun i=>l[i]?):=by
 refine h.sel is ?_ hn;clear hn h;induction is with
 |nil=>rfl
 |cons i is ih=>
  have hi:=hl i (by simp);rw[List.filterMap_cons,List.getElem?_eq_getElem hi];simp only[List.map_cons];rw[List.getElem?_eq_getElem hi,ih (fun j hj=>hl j (by simp[hj]))]
theorem BD.touch(h:BD T w0 w l)(ht:Touch [] w w'):BD T w0 w' l:=by
 have hz:=h.size;obtain⟨hb,F,h1,h2⟩:=h;exact⟨hb.trans ht (by simp),F,fun i t hi=>⟨t.keep (h1 i t hi).1 (fun k hk=>ht.block k (t.lt (h1 i t hi).1 k hk) (by simp)),(h1 i t hi).2⟩,h2⟩
theorem BD.drewN(h:BD T w0 w l)(n:Nat):BD T w0 (w.drewN n) l:=h.touch ((Touch.refl [] w).drewN n)
theorem BD.drew(h:BD T w0 w l):BD T w0 w.drew l:=h.touch ((Touch.refl [] w).drew)
theorem BD.dL(h:BD T w0 w l)(o:Obj):BD T w0 (w.alloc o) l:=h.touch ((Touch.refl [] w).alloc o)
end
def box(b:Nat)(t:TypeId)(cs:Array Value):ai where
 holds w fp:=fp=[b]/\Cg w b t cs
 keep:=fun⟨h1,h2⟩ he=>⟨h1,h2.keep (he b (by simp[h1]))⟩
 lt:=fun⟨h1,h2⟩ k hk=>by subst h1;simp at hk;subst hk;exact h2.lt
def row(e:TypeId)(size:Nat)(v:Value)(n:Nat)(xs:List Value):ai where
 holds w fp:=fp=sb v/\w.ownsRow 0 e size v n xs
 keep:=fun⟨h1,h2⟩ he=>⟨h1,dN h2 (fun k hk=>he k (h1▸hk))⟩
 lt:=fun⟨h1,h2⟩ k hk=>iW h2 k (h1▸hk)
def some1(b:Nat):ai where
 holds w fp:=fp=[b]/\b<w.heap.size
 keep:=fun{w w' fp} ⟨h1,h2⟩ he=>⟨h1,by
  have :=he b (by simp[h1]);rw[Array.getElem?_eq_getElem h2]at this;exact(Array.getElem?_eq_some_iff.1 this).1⟩
 lt:=fun⟨h1,h2⟩ k hk=>by subst h1;simp at hk;subst hk;exact h2
def mark(b:Nat):ai where
 holds w fp:=fp=[b]/\w.heap[b]? =some (.deferred (some []))
 keep:=fun⟨h1,h2⟩ he=>⟨h1,(he b (by simp[h1])).trans h2⟩
 lt:=fun⟨h1,h2⟩ k hk=>by subst h1;simp at hk;subst hk;exact(Array.getElem?_eq_some_iff.1 h2).1
section
variable {T:List Nat} {w0 w w':World} {l:List ai} {t t':ai} {i:Nat}
theorem BD.box(h:BD T w0 w l)(i:Nat){b:Nat}{t:TypeId}{cs:Array Value}(hi:l[i]? =some (box b t cs)):Cg w b t cs:=let ⟨_,h,_⟩:=h.get i hi;h.2
theorem BD.row(h:BD T w0 w l)(i:Nat){e:TypeId}{size:Nat}{v:Value}{n:Nat}{xs:List Value}(hi:l[i]? =some (row e size v n xs)):w.ownsRow 0 e size v n xs:=let ⟨_,h,_⟩:=h.get i hi;h.2
theorem BD.mark(h:BD T w0 w l)(i:Nat){b:Nat}(hi:l[i]? =some (mark b)):w.heap[b]? =some (.deferred (some [])):=let ⟨_,h,_⟩:=h.get i hi;h.2
theorem BD.alloc(h:BD T w0 w l)(t:TypeId)(cs:Array Value):BD T w0 (w.alloc (.cells cs t)) (l++[Proofs.YtegejdlglonflaaGreatDoor.box w.heap.size t cs]):=
 h.new (t':=Proofs.YtegejdlglonflaaGreatDoor.box w.heap.size t cs) ⟨rfl,Cg.new w t cs⟩ ⟨(Touch.refl [] w).alloc _,fun k hk=> .inr (by simp at hk;omega)⟩
theorem BD.set(h:BD T w0 w l)(i:Nat){b:Nat}{t:TypeId}{cs:Array Value}(hi:l[i]? =some (Proofs.YtegejdlglonflaaGreatDoor.box b t cs))(j:Nat)(u:Value):BD T w0 (w.setCell ⟨b,j,none⟩ u) (l.set i (Proofs.YtegejdlglonflaaGreatDoor.box b t (cs.setIfInBounds j u))):=by
 obtain⟨f,⟨hf,hb⟩,_,hs⟩:=h.step i hi;subst hf;exact hs _ _ [b] ⟨rfl,hb.set j u⟩ ⟨(Touch.refl _ w).setCell _ _ (.inl (by simp)),fun k hk=> .inl hk⟩
theorem BD.tZ(h:BD T w0 w l)(i:Nat){e:TypeId}{size g n cap:Nat}{xs:List Value}(hi:l[i]? =some (Proofs.YtegejdlglonflaaGreatDoor.row e size (.slice (some ⟨g,0,none⟩) n cap) n xs))(j:Nat)(u:Value):
  BD T w0 (w.setCell ⟨g,j,none⟩ u) (l.set i (Proofs.YtegejdlglonflaaGreatDoor.row e size (.slice (some ⟨g,0,none⟩) n cap) n (xs.set j u))):=by
 obtain⟨f,⟨hf,hb⟩,_,hs⟩:=h.step i hi;subst hf;exact hs _ _ _ ⟨rfl,jY hb j u⟩ ⟨(Touch.refl _ w).setCell _ _ (.inl (by simp[sb,Value.ownBlock])),fun k hk=> .inl hk⟩
theorem BD.grown(h:BD T w0 w l)(i:Nat){e:TypeId}{size n n':Nat}{v v':Value}{xs xs':List Value}(hi:l[i]? =some (Proofs.YtegejdlglonflaaGreatDoor.row e size v n xs))(hg:w.grownBy w' v.ownBlock)(ho:w'.ownsRow 0 e size v' n' xs')(hat:v'.ownBlock=v.ownBlock\/v'.ownBlock=some w.heap.size):
  BD T w0 w' (l.set i (Proofs.YtegejdlglonflaaGreatDoor.row e size v' n' xs')):=by
 obtain⟨f,⟨hf,hb⟩,_,hs⟩:=h.step i hi;subst hf;refine hs _ _ _ ⟨rfl,ho⟩ ⟨Touch.vQ hg (fun k hk=> .inl (by simp[sb,hk])),fun k hk=>?_⟩;rcases hat with h|h
 .exact .inl (by rw[sb,<-h];exact hk)
 .exact .inr (by rw[sb,h]at hk;simp at hk;omega)
theorem BD.putObj(h:BD T w0 w l)(i:Nat){b:Nat}(hi:l[i]? =some (some1 b))(o:Obj):BD T w0 (w.putObj b o) l:=by
 obtain⟨f,⟨hf,hb⟩,_,hs⟩:=h.step i hi;subst hf;have :=hs (w.putObj b o) (some1 b) [b] ⟨rfl,by simpa using hb⟩ ⟨(Touch.refl _ w).putObj (.inr (by simp)) o,fun k hk=> .inl hk⟩;rwa[show l.set i (some1 b)=l from by
  apply List.ext_getElem?
  intro j;by_cases hj:i=j
  .subst hj;rw[List.getElem?_set_self (List.getElem?_eq_some_iff.1 hi).1,hi]
  .rw[List.getElem?_set_ne hj]]at this
theorem BD.loop(h:BD T w0 w l)(o:Obj):BD T w0 ((w.alloc (.deferred (some []))).alloc o) (l++[Proofs.YtegejdlglonflaaGreatDoor.mark w.heap.size,some1 (w.heap.size+1)]):=by
 have h1:=h.new (t':=Proofs.YtegejdlglonflaaGreatDoor.mark w.heap.size) (w':=w.alloc (.deferred (some []))) (f':=[w.heap.size]) ⟨rfl,heap_alloc_new w _⟩ ⟨(Touch.refl [] w).alloc _,fun k hk=> .inr (by simp at hk;omega)⟩;have h2:=h1.new (t':=some1 (w.heap.size+1)) (w':=(w.alloc (.deferred (some []))).alloc o) (f':=[w.heap.size+1]) ⟨rfl,by simp⟩ ⟨(Touch.refl [] _).alloc _,fun k hk=> .inr (by simp at hk;simp;omega)⟩;simpa using h2
end
end
section
open Go.RowKit
inductive MT where
 |mk (k n:Int) (a:Option Addr) (cap:Nat) (l:List MT)
namespace MT
def kind:MT->Int| .mk k _ _ _ _=>k
def num:MT->Int| .mk _ n _ _ _=>n
def parts:MT->List MT| .mk _ _ _ _ l=>l
def addr:MT->Option Addr| .mk _ _ a _ _=>a
def cap:MT->Nat| .mk _ _ _ c _=>c
def sl(t:MT):Value:= .slice t.addr t.parts.length t.cap
def cells(t:MT):List Value:=[.int .i64 t.kind,.int .i64 t.num,t.sl]
def val(t:MT):Value:= .agg #[t.kind,t.num,t.sl]
@[simp] theorem bH(t:MT):t.cells.length=3:=rfl
def zero:MT:= .mk 0 0 none 0 []
theorem ind{P:MT->Prop}(h:∀k n a c l,(∀t∈l,P t)->P (.mk k n a c l)):∀t,P t
 | .mk k n a c l=>h k n a c l (fun t ht=>ind h t)
termination_by t=>SizeOf.sizeOf t
decreasing_by
 simp_wf
 have :=List.sizeOf_lt_of_mem ht;omega
mutual
def nodes:MT->Nat
 | .mk _ _ _ _ l=>aV l+1
def aV:List MT->Nat
 |[]=>0
 |t::r=>nodes t+aV r
end
theorem sw(t:MT):1<=t.nodes:=by cases t;simp[nodes]
theorem iE(a b:List MT):aV (a++b)=aV a+aV b:=by
 induction a with
 |nil=>simp[aV]
 |cons t r ih=>simp only[cAq,aV,ih];omega
theorem Ao{t:MT}{l:List MT}(h:t∈l):t.nodes<=aV l:=by
 induction l with
 |nil=>cases h
 |cons x r ih=>
  simp only[aV];rcases List.mem_cons.1 h with rfl|h
  .omega
  .have :=ih h;omega
theorem length_le(l:List MT):l.length<=aV l:=by
 induction l with
 |nil=>simp[aV]
 |cons x r ih=>have :=sw x;simp only[aV,List.length_cons];omega
theorem ni(t:MT):t.nodes=aV t.parts+1:=by cases t;rfl
theorem KV{t u:MT}(h:u∈t.parts):u.nodes<t.nodes:=by have :=Ao h;rw[ni t];omega
inductive PT where
 |mk (k n:Int) (l:List PT)
mutual
def plain:MT->PT
 | .mk k n _ _ l=> .mk k n (jD l)
def jD:List MT->List PT
 |[]=>[]
 |t::r=>plain t::jD r
end
theorem iM(l:List MT):jD l=l.map plain:=by
 induction l with
 |nil=>rfl
 |cons t r ih=>simp only[jD,List.map_cons,ih]
theorem JX(t:MT):t.plain= .mk t.kind t.num (t.parts.map plain):=by cases t;simp only[plain,iM];rfl
mutual
def blocks:MT->List Nat
 | .mk _ _ a _ l=>(if l.length=0 then[]else(a.map Addr.block).toList)++dF l
def dF:List MT->List Nat
 |[]=>[]
 |t::r=>blocks t++dF r
end
theorem eU{l:List MT}{k:Nat}:k∈dF l↔∃t∈l,k∈t.blocks:=by
 induction l with
 |nil=>simp[dF]
 |cons t r ih=>simp[dF,ih]
theorem nU(a b:List MT):dF (a++b)=dF a++dF b:=by
 induction a with
 |nil=>rfl
 |cons t r ih=>simp[dF,ih]
def dK(w:World)(a:Option Addr)(l:List MT):Prop:=∀i (hi:i<l.length),∃b o,a=some ⟨b,o,none⟩/\b<w.heap.size/\∀j,j<3->w.cell? ⟨b,o+i*3+j,none⟩=(l[i]).cells[j]?
mutual
def In(w:World):MT->Prop
 | .mk _ _ a _ l=>(l.length<=9223372036854775807/\dK w a l)/\vE w l
def vE(w:World):List MT->Prop
 |[]=>True
 |t::r=>In w t/\vE w r
end
theorem lU{w:World}{l:List MT}:vE w l↔∀t∈l,t.In w:=by
 induction l with
 |nil=>simp[vE]
 |cons t r ih=>simp[vE,ih]
theorem In.len{w:World}{t:MT}(h:t.In w):t.parts.length<=9223372036854775807:=by cases t;exact h.1.1
theorem In.row{w:World}{t:MT}(h:t.In w):dK w t.addr t.parts:=by cases t;exact h.1.2
theorem In.part{w:World}{t u:MT}(h:t.In w)(hu:u∈t.parts):u.In w:=by cases t;exact lU.1 h.2 u hu
theorem rZ{w:World}{k n:Int}{a:Option Addr}{c:Nat}{l:List MT}(h1:l.length<=9223372036854775807)(h2:dK w a l)(h3:∀t∈l,t.In w):(MT.mk k n a c l).In w:=⟨⟨h1,h2⟩,lU.2 h3⟩
theorem dQ(w:World):zero.In w:=rZ (by simp) (fun i hi=>by simp at hi) (by simp)
theorem dK.keep{w w':World}{a:Option Addr}{l:List MT}(h:dK w a l)(he:∀b,(∃o,a=some ⟨b,o,none⟩)->0<l.length->w'.heap[b]? =w.heap[b]?):dK w' a l:=by
 intro i hi;obtain⟨b,o,ha,hb,hc⟩:=h i hi;have e:=he b ⟨o,ha⟩ (by omega);refine⟨b,o,ha,?_,fun j hj=>?_⟩
 .rw[Array.getElem?_eq_getElem hb]at e
  exact(Array.getElem?_eq_some_iff.1 e).1
 .rw[<-hc j hj]
  exact World.cell?_of_block (a:=⟨b,o+i*3+j,none⟩) e
theorem In.keep{w w':World}:∀{t:MT},t.In w->(∀k∈t.blocks,w'.heap[k]? =w.heap[k]?)->t.In w':=by
 intro t;induction t using MT.ind with
 |h k n a c l ih=>
  intro h he;refine rZ h.len (h.row.keep ?_) ?_
  .rintro b ⟨o,rfl⟩ hl
   refine he b ?_;simp only[blocks];rw[if_neg (by have :0<l.length:=hl;omega)];simp
  .intro t ht
   refine ih t ht (h.part ht) (fun k hk=>he k ?_);simp only[blocks];exact List.mem_append_right _ (eU.2 ⟨t,ht,hk⟩)
theorem In.lt{w:World}:∀{t:MT},t.In w->∀k∈t.blocks,k<w.heap.size:=by
 intro t;induction t using MT.ind with
 |h k n a c l ih=>
  intro h b hb;simp only[blocks,List.mem_append]at hb;rcases hb with hb|hb
  .by_cases hl:l.length=0
   .simp[hl]at hb
   .rw[if_neg hl]at hb
    obtain⟨b',o,ha,hlt,_⟩:=h.row 0 (by simp[parts];omega);simp only[addr]at ha;subst ha;simp at hb
    subst hb;exact hlt
  .obtain⟨t,ht,hk⟩:=eU.1 hb
   exact ih t ht (h.part ht) b hk
theorem In.touch{w w':World}{t:MT}{S:List Nat}(h:t.In w)(ht:Touch S w w')(hS:∀k∈t.blocks,k∉S):t.In w':=h.keep (fun k hk=>ht.block k (h.lt k hk) (hS k hk))
theorem In.aO{w w':World}{t:MT}(h:t.In w)(ht:Touch [] w w'):t.In w':=h.touch ht (by simp)
theorem In.below{w w':World}{t:MT}(h:t.In w)(hb:Below w.heap.size w w'):t.In w':=h.aO (Touch.of_below hb [])
theorem In.alloc{w:World}{t:MT}(h:t.In w)(o:Obj):t.In (w.alloc o):=h.aO ((Touch.refl [] w).alloc o)
theorem dK.cellAt{w:World}{a:Option Addr}{l:List MT}(h:dK w a l){i:Nat}(hi:i<l.length):∃b o,a=some ⟨b,o,none⟩/\b<w.heap.size/\w.cell? ⟨b,o+i*3,none⟩=some (.int .i64 (l[i]).kind)/\w.cell? ⟨b,o+i*3+1,none⟩=some (.int .i64 (l[i]).num)/\w.cell? ⟨b,o+i*3+2,none⟩=some (l[i]).sl:=by
 obtain⟨b,o,ha,hb,hc⟩:=h i hi;exact⟨b,o,ha,hb,hc 0 (by omega),hc 1 (by omega),hc 2 (by omega)⟩
end MT
end
section
variable {T:List Nat} {w0 w w':World} {l:List ai} {b:Nat} {t:TypeId}
theorem BD.c1(h:BD T w0 w l)(i:Nat){x0:Value}(hi:l[i]? =some (Proofs.YtegejdlglonflaaGreatDoor.box b t #[x0])):w.cell? ⟨b,0,none⟩=some x0/\w.frozen? ⟨b,0,none⟩=false/\b<w.heap.size/\b<w.heap.size+1/\b<w.heap.size+1+1:=by
 have hb:=h.box i hi;have hl:=hb.lt;exact⟨hb.cell 0,hb.frozen 0,hl,ltq hl,ltq (ltq hl)⟩
theorem BD.c2(h:BD T w0 w l)(i:Nat){x0 x1:Value}(hi:l[i]? =some (Proofs.YtegejdlglonflaaGreatDoor.box b t #[x0,x1])):w.cell? ⟨b,0,none⟩=some x0/\w.cell? ⟨b,1,none⟩=some x1/\w.frozen? ⟨b,0,none⟩=false/\w.frozen? ⟨b,1,none⟩=false/\b<w.heap.size/\b<w.heap.size+1/\b<w.heap.size+1+1:=by
 have hb:=h.box i hi;have hl:=hb.lt;exact⟨hb.cell 0,hb.cell 1,hb.frozen 0,hb.frozen 1,hl,ltq hl,ltq (ltq hl)⟩
theorem BD.c3(h:BD T w0 w l)(i:Nat){x0 x1 x2:Value}(hi:l[i]? =some (Proofs.YtegejdlglonflaaGreatDoor.box b t #[x0,x1,x2])):w.cell? ⟨b,0,none⟩=some x0/\w.cell? ⟨b,1,none⟩=some x1/\w.cell? ⟨b,2,none⟩=some x2/\w.frozen? ⟨b,0,none⟩=false/\w.frozen? ⟨b,1,none⟩=false/\w.frozen? ⟨b,2,none⟩=false/\b<w.heap.size/\b<w.heap.size+1/\b<w.heap.size+1+1:=by
 have hb:=h.box i hi;have hl:=hb.lt;exact⟨hb.cell 0,hb.cell 1,hb.cell 2,hb.frozen 0,hb.frozen 1,hb.frozen 2,hl,ltq hl,ltq (ltq hl)⟩
theorem BD.c5(h:BD T w0 w l)(i:Nat){x0 x1 x2 x3 x4:Value}(hi:l[i]? =some (Proofs.YtegejdlglonflaaGreatDoor.box b t #[x0,x1,x2,x3,x4])):w.cell? ⟨b,0,none⟩=some x0/\w.cell? ⟨b,1,none⟩=some x1/\w.cell? ⟨b,2,none⟩=some x2/\w.cell? ⟨b,3,none⟩=some x3/\w.cell? ⟨b,4,none⟩=some x4/\
  w.frozen? ⟨b,0,none⟩=false/\w.frozen? ⟨b,1,none⟩=false/\w.frozen? ⟨b,2,none⟩=false/\w.frozen? ⟨b,3,none⟩=false/\w.frozen? ⟨b,4,none⟩=false/\b<w.heap.size/\b<w.heap.size+1/\b<w.heap.size+1+1:=by
 have hb:=h.box i hi;have hl:=hb.lt;exact⟨hb.cell 0,hb.cell 1,hb.cell 2,hb.cell 3,hb.cell 4,hb.frozen 0,hb.frozen 1,hb.frozen 2,hb.frozen 3,hb.frozen 4,hl,ltq hl,ltq (ltq hl)⟩
theorem BD.ne(h:BD T w0 w l)(i j:Nat){b':Nat}{t':TypeId}{cs cs':Array Value}(hi:l[i]? =some (Proofs.YtegejdlglonflaaGreatDoor.box b t cs))(hj:l[j]? =some (Proofs.YtegejdlglonflaaGreatDoor.box b' t' cs'))(hij:i≠j):b≠b':=by
 obtain⟨_,F,h1,h2⟩:=h;have e1:=(h1 i _ hi).1.1;have e2:=(h1 j _ hj).1.1;have :=h2 i j (List.getElem?_eq_some_iff.1 hi).1 (List.getElem?_eq_some_iff.1 hj).1 hij b (by rw[e1];simp);rw[e2]at this;simpa using this
end
theorem ay{P:Program}{c:Code}{Q:Exit->Act->World->Prop}{a:Act}{W:World}(h:∀w2,W=w2->c.wp P Q a w2):c.wp P Q a W:=h W rfl
theorem ZO{F:Fence}{n:Nat}{P:Program}{c:Code}{Q:Exit->Act->World->Prop}{a:Act}{W:World}(h:∀w2,W=w2->c.wpIn F n P Q a w2):c.wpIn F n P Q a W:=h W rfl
section
variable {T:List Nat} {w0 w w':World} {l:List ai} {t1 t2 t3:TypeId} {c1 c2 c3:Array Value}
theorem BD.DN(h:BD T w0 w l)(e:w.alloc (.cells c1 t1)=w'):BD T w0 w' (l++[Proofs.YtegejdlglonflaaGreatDoor.box w.heap.size t1 c1]):=e▸h.alloc t1 c1
theorem BD.DZ(h:BD T w0 w l)(e:(w.alloc (.cells c1 t1)).alloc (.cells c2 t2)=w'):BD T w0 w' (l++[Proofs.YtegejdlglonflaaGreatDoor.box w.heap.size t1 c1,Proofs.YtegejdlglonflaaGreatDoor.box (w.heap.size+1) t2 c2]):=by
 have :=(h.alloc t1 c1).alloc t2 c2;rw[e]at this;simpa using this
theorem BD.UX(h:BD T w0 w l)(e:((w.alloc (.cells c1 t1)).alloc (.cells c2 t2)).alloc (.cells c3 t3)=w'):BD T w0 w' (l++[Proofs.YtegejdlglonflaaGreatDoor.box w.heap.size t1 c1,Proofs.YtegejdlglonflaaGreatDoor.box (w.heap.size+1) t2 c2,Proofs.YtegejdlglonflaaGreatDoor.box (w.heap.size+1+1) t3 c3]):=by
 have :=((h.alloc t1 c1).alloc t2 c2).alloc t3 c3;rw[e]at this;simpa using this
end
section
variable {T:List Nat} {w0 w w':World} {l:List ai} {t1 t2 t3:TypeId} {c1 c2 c3:Array Value}
theorem BD.tal1(h:BD T w0 w l)(e:Touch [] (w.alloc (.cells c1 t1)) w'):BD T w0 w' (l++[Proofs.YtegejdlglonflaaGreatDoor.box w.heap.size t1 c1]):=(h.DN rfl).touch e
end
section
open Go.RowKit
section
variable {T:List Nat} {w0 w w':World} {l:List ai} {t1 t2 t12:ai}
theorem BD.merge(h:BD T w0 w (l++[t1,t2]))(hm:∀f1 f2,t1.holds w f1->t2.holds w f2->t12.holds w (f1++f2)):BD T w0 w (l++[t12]):=by
 obtain⟨hb,F,h1,h2⟩:=h;have e1:(l++[t1,t2])[l.length]? =some t1:=by simp
 have e2:(l++[t1,t2])[l.length+1]? =some t2:=by simp
 obtain⟨a1,a2⟩:=h1 _ _ e1;obtain⟨b1,b2⟩:=h1 _ _ e2;refine⟨hb,fun i=>if i=l.length then F l.length++F (l.length+1)else F i,?_,?_⟩
 .intro i t hi
  by_cases hil:i=l.length
  .subst hil
   simp at hi
   subst hi;simp only[if_true];exact⟨hm _ _ a1 b1,fun k hk=>(List.mem_append.1 hk).elim (a2 k) (b2 k)⟩
  .have hi':i<l.length:=by have :=(List.getElem?_eq_some_iff.1 hi).1;simp at this;omega
   simp only[hil,if_false];exact h1 i t (by rw[List.getElem?_append_left hi']at hi|-;exact hi)
 .intro i j hi hj hij x hx hx2
  dsimp only at hx hx2;simp only[List.length_append,List.length_cons,List.length_nil]at hi hj;by_cases hil:i=l.length
  .rw[if_pos hil]at hx
   rw[if_neg (by omega)]at hx2;rcases List.mem_append.1 hx with hx|hx
   .exact h2 l.length j (by simp) (by simp;omega) (by omega) x hx hx2
   .exact h2 (l.length+1) j (by simp) (by simp;omega) (by omega) x hx hx2
  .rw[if_neg hil]at hx
   by_cases hjl:j=l.length
   .rw[if_pos hjl]at hx2
    rcases List.mem_append.1 hx2 with hx2|hx2
    .exact h2 i l.length (by simp;omega) (by simp) (by omega) x hx hx2
    .exact h2 i (l.length+1) (by simp;omega) (by simp) (by omega) x hx hx2
   .rw[if_neg hjl]at hx2
    exact h2 i j (by simp;omega) (by simp;omega) hij x hx hx2
end
def bS(l:List MT):ai where
 holds w fp:=fp=MT.dF l/\∀t∈l,t.In w
 keep:=fun⟨h1,h2⟩ he=>⟨h1,fun t ht=>(h2 t ht).keep (fun k hk=>he k (h1▸MT.eU.2 ⟨t,ht,hk⟩))⟩
 lt:=fun⟨h1,h2⟩ k hk=>by
  subst h1;obtain⟨t,ht,hk⟩:=MT.eU.1 hk;exact(h2 t ht).lt k hk
section
variable {T:List Nat} {w0 w w':World} {l:List ai} {vs us:List MT}
theorem BD.fD(h:BD T w0 w l)(i:Nat)(hi:l[i]? =some (bS vs)):∀t∈vs,t.In w:=let ⟨_,h,_⟩:=h.get i hi;h.2
theorem BD.yS(h:BD T w0 w l):BD T w0 w (l++[bS []]):=h.new (t':=bS []) (f':=[]) ⟨rfl,by simp⟩ ⟨Touch.refl _ _,by simp⟩
theorem BD.gH(h:BD T w0 w l)(ht:Touch [] w w')(hin:∀t∈vs,t.In w')(hn:∀t∈vs,∀k∈t.blocks,w.heap.size<=k):BD T w0 w' (l++[bS vs]):=
 h.new (t':=bS vs) (f':=MT.dF vs) ⟨rfl,hin⟩ ⟨ht,fun k hk=>by obtain⟨t,ht,hk⟩:=MT.eU.1 hk;exact .inr (hn t ht k hk)⟩
theorem BD.ql(h:BD T w0 w (l++[bS vs,bS us])):BD T w0 w (l++[bS (vs++us)]):=
 h.merge (fun f1 f2 ⟨a1,a2⟩ ⟨b1,b2⟩=>⟨by rw[a1,b1,MT.nU],fun t ht=>(List.mem_append.1 ht).elim (a2 t) (b2 t)⟩)
end
def dZ(w:World)(e:TypeId)(size:Nat)(v:Value)(n:Nat)(xs:List Value):Prop:=
 xs.length=n*size/\((v= .slice none 0 0/\n=0)\/
 ∃g cap cur,v= .slice (some ⟨g,0,none⟩) n cap/\w.heap[g]? =some (.cells cur e (0,0))/\n<=cap/\cap<=maxLen/\cap*size<=cur.size/\cur.toList.take (n*size)=xs)
section
variable {w w':World} {e:TypeId} {size:Nat} {v:Value} {n:Nat} {xs:List Value} {S:List Nat}
theorem ZF(h:w.ownsRow 0 e size v n xs):dZ w e size v n xs:=by
 refine⟨h.1,?_⟩;rcases h.2 with hn|⟨g,cap,cur,h1,_,h2,h3,h4,h5,h6⟩
 .exact .inl hn
 .exact .inr ⟨g,cap,cur,h1,h2,h3,h4,Nat.le_of_eq h5.symm,h6⟩
theorem Lx(w:World)(e:TypeId)(size:Nat):dZ w e size (.slice none 0 0) 0 []:=⟨by simp,.inl ⟨rfl,rfl⟩⟩
theorem nT(h:dZ w e size v n xs)(he:∀k∈sb v,w'.heap[k]? =w.heap[k]?):dZ w' e size v n xs:=by
 refine⟨h.1,?_⟩;rcases h.2 with hn|⟨g,cap,cur,rfl,hg,rest⟩
 .exact .inl hn
 .exact .inr ⟨g,cap,cur,rfl,(he g (by simp[sb,Value.ownBlock])).trans hg,rest⟩
theorem lY(h:dZ w e size v n xs):∀k∈sb v,k<w.heap.size:=by
 intro k hk;rcases h.2 with ⟨rfl,_⟩|⟨g,cap,cur,rfl,hg,rest⟩
 .simp[sb,Value.ownBlock]at hk
 .have :k=g:=by simpa[sb,Value.ownBlock]using hk
  subst this;exact(Array.getElem?_eq_some_iff.1 hg).1
theorem mP(h:dZ w e size v n xs):∃a cap,v= .slice a n cap/\n<=cap/\cap<=maxLen:=by
 rcases h.2 with ⟨hv,h0⟩|⟨g,cap,cur,hv,_,h1,h2,_⟩
 .exact⟨none,0,by rw[hv,h0],by omega,by simp[maxLen]⟩
 .exact⟨_,cap,hv,h1,h2⟩
theorem gD(h:dZ w e size v n xs)(hn:0<n):∃g cap cur,v= .slice (some ⟨g,0,none⟩) n cap/\Cg w g e cur/\n<=cap/\cap<=maxLen/\cap*size<=cur.size/\cur.toList.take (n*size)=xs:=by
 rcases h.2 with ⟨_,h0⟩|⟨g,cap,cur,hv,hg,h1,h2,h3,h4⟩
 .omega
 .exact⟨g,cap,cur,hv,hg,h1,h2,h3,h4⟩
theorem eT{g cap:Nat}(h:dZ w e size (.slice (some ⟨g,0,none⟩) n cap) n xs)(j:Nat)(hj:j<xs.length):w.cell? ⟨g,j,none⟩=some xs[j]:=by
 rcases h.2 with ⟨hv,_⟩|⟨g',cap',cur,hv,hg,h1,h2,h3,h4⟩
 .cases hv
 .injection hv with ha _ hc
  injection ha with ha
  injection ha with ha
  subst ha;rw[cell_of_row w g j cur e (0,0) hg];have :xs[j]? =cur.toList[j]? :=by rw[<-h4,List.getElem?_take,if_pos (by rw[<-h.1];exact hj)]
  rw[List.getElem?_eq_getElem hj]at this;simpa using this.symm
theorem ji{g cap:Nat}(h:dZ w e size (.slice (some ⟨g,0,none⟩) n cap) n xs)(j:Nat):w.frozen? ⟨g,j,none⟩=false:=by
 rcases h.2 with ⟨hv,_⟩|⟨g',cap',cur,hv,hg,h1,h2,h3,h4⟩
 .cases hv
 .injection hv with ha _ hc
  injection ha with ha
  injection ha with ha
  subst ha;exact Cg.frozen (show Cg w g e cur from hg) j
theorem Iw{g cap:Nat}(h:dZ w e size (.slice (some ⟨g,0,none⟩) n cap) n xs)(j:Nat)(u:Value):
  dZ (w.setCell ⟨g,j,none⟩ u) e size (.slice (some ⟨g,0,none⟩) n cap) n (xs.set j u):=by
 refine⟨by rw[List.length_set];exact h.1,?_⟩;rcases h.2 with ⟨hv,_⟩|⟨g',cap',cur,hv,hg,h1,h2,h3,h4⟩
 .cases hv
 .injection hv with ha _ hc
  injection ha with ha
  injection ha with ha
  subst ha;subst hc;refine .inr ⟨g,cap,cur.setIfInBounds j u,rfl,Cg.set (show Cg w g e cur from hg) j u,h1,h2,by simpa using h3,?_⟩;rw[<-h4];simp[List.take_set]
theorem wZ{g cap:Nat}(h:dZ w e size (.slice (some ⟨g,0,none⟩) n cap) n xs):∀j u,xs[j]? =some u->w.cell? ((⟨g,0,none⟩:Addr).add j)=some u:=by
 intro j u hu;obtain⟨hj,rfl⟩:=List.getElem?_eq_some_iff.1 hu;rw[Addr.add_lit,Nat.zero_add];exact eT h j hj
theorem KJ(h:dZ w e size v n xs)(m c:Nat)(hm:m<=c)(hc:c<=n){a:Option Addr}{cap:Nat}(hv:v= .slice a n cap)(hnn:a≠none\/c=0):dZ w e size (.slice a m c) m (xs.take (m*size)):=by
 have hms:m*size<=n*size:=Nat.mul_le_mul_right _ (by omega);refine⟨by rw[List.length_take,h.1];omega,?_⟩;rcases h.2 with ⟨hv',h0⟩|⟨g,cap',cur,hv',hg,h1,h2,h3,h4⟩
 .rw[hv']at hv
  injection hv with ha _ _
  subst ha;obtain rfl:c=0:=by omega
  obtain rfl:m=0:=by omega
  exact .inl ⟨rfl,rfl⟩
 .rw[hv']at hv
  injection hv with ha _ hcap
  subst ha;refine .inr ⟨g,c,cur,rfl,hg,hm,by omega,Nat.le_trans (Nat.mul_le_mul_right _ (by omega)) h3,?_⟩;rw[<-h4,List.take_take,Nat.min_eq_left hms]
end
theorem mV{P:Program}(w:World)(t ty e:TypeId)(i:TypeInfo)(z:Value)(size bytes:Nat)(ht:P.underlying t=some (.slice e))(hi:P.info? e=some i)(hz:i.zero=some z)(hsize:i.size=size)(hby:i.bytes=bytes)(hzs:z.cells.size=size)(hsz:0<size)(v:Value)(n:Nat)(xs:List Value)(hown:dZ w e size v n xs)(sa:Option Addr)(m c:Nat)(news:List Value)(hl:news.length=m*size)(hsa:m=0\/∃a,sa=some a/\∀j u,news[j]? =some u->w.cell? (a.add j)=some u)(h1:∀u∈news,u.oneCell'=true)(h63:n+m<=maxLen)(hbytes:(n+m)*bytes<=140737488355328):
  ∃aa cap w',(Builtin.append_ #[t,t] ty #[v,.slice sa m c]).run P w= .ok (.slice aa (n+m) cap) w'/\dZ w' e size (.slice aa (n+m) cap) (n+m) (xs++news)/\w.grownBy w' v.ownBlock/\
   ((Value.slice aa (n+m) cap).ownBlock=v.ownBlock\/(Value.slice aa (n+m) cap).ownBlock=some w.heap.size):=by
 subst hsize;subst hby
 have hsmall:n+m<=9223372036854775807:=by simp only[maxLen]at h63;omega
 have hlen:(xs++news).length=(n+m)*i.size:=by rw[List.length_append,hown.1,hl,Nat.add_mul]
 by_cases hm:m=0
 .subst hm
  have hn:news=[]:=List.eq_nil_of_length_eq_zero (by simpa using hl);subst hn;obtain⟨aa,cap,rfl,hnc,_⟩:=mP hown;refine⟨aa,cap,w,?_,by simpa using hown,World.grownBy.refl w _,.inl rfl⟩;cases aa<;>cases sa<;>simp[Builtin.append_,run_underlying ht,sizeOf,typeInfo,hi,Builtin.lenOf,Builtin.firstCells,loadCells,loadCellsFrom,storeCells,hnc]
 .obtain⟨a,rfl,hnews⟩:∃a,sa=some a/\∀j u,news[j]? =some u->w.cell? (a.add j)=some u:=hsa.resolve_left hm
  have grown:∀(old:Nat),old<n+m->∀(row:Option Nat),
    dZ (w.drew.alloc (.cells (xs.toArray++news.toArray++Builtin.zeroCells z.cells (grownCap w (n+m) old e-(n+m))) e)) e i.size
     (.slice (some ⟨w.heap.size,0,none⟩) (n+m) (grownCap w (n+m) old e)) (n+m) (xs++news)/\
    w.grownBy (w.drew.alloc (.cells (xs.toArray++news.toArray++Builtin.zeroCells z.cells (grownCap w (n+m) old e-(n+m))) e)) row:=by
   intro old ho row;have hge:=grownCap_ge w (n+m) old e;have hcm:grownCap w (n+m) old e<=maxLen:=grownCap_le_maxLen w (n+m) old e h63;refine⟨⟨hlen,.inr ⟨w.heap.size,_,_,rfl,heap_alloc_new w.drew _,hge,hcm,?_,?_⟩⟩,⟨rfl,rfl,rfl,by simp,fun k hk _=>Below.heap_alloc w.drew _ k hk⟩⟩
   .simp only[Array.size_append,List.size_toArray,size_zeroCells,hzs,hown.1,hl,<-Nat.add_mul]
    refine Nat.le_of_eq ?_;congr 1
    omega
   .simp only[Array.toList_append,List.append_assoc]
    rw[<-List.append_assoc,<-hlen];exact List.take_left
  rcases hown.2 with ⟨rfl,rfl⟩|⟨g,cap,cur,rfl,hg,hnc,hcm,hcs,htake⟩
  .have hx:xs=[]:=List.eq_nil_of_length_eq_zero (by simpa using hown.1)
   subst hx;have hr:=run_append_nil (P:=P) w t ty e i z ht hi hz a m c news hl hnews (by omega) (by omega) (by have hb:=hbytes;simp only[Nat.zero_add]at hb;omega);have hgr:=grown 0 (by omega) (Value.ownBlock (.slice none 0 0));simp only[Nat.zero_add,nAq,Array.empty_append]at hgr|-;exact⟨_,_,_,hr,hgr.1,hgr.2,Or.inr rfl⟩
  .by_cases hroom:n+m<=cap
   .have hfit:n*i.size+news.length<=cur.size:=by
     rw[hl,<-Nat.add_mul];exact Nat.le_trans (Nat.mul_le_mul_right _ hroom) hcs
    have hr:=run_append_room (P:=P) w t ty e i ht hi g n cap cur hg a m c news hl hnews h1 hroom hfit;refine⟨_,_,_,hr,⟨hlen,.inr ⟨g,cap,_,rfl,setRow_heap w g cur _ e _ hg,hroom,hcm,?_,?_⟩⟩,⟨rfl,rfl,rfl,by simp,fun k _ hk=>setRow_other w g k _ (fun e=>hk (by simp[Value.ownBlock,e]))⟩,Or.inl rfl⟩
    .simp only[List.size_toArray,List.length_append,List.length_take,List.length_drop,Array.length_toList]
     omega
    .rw[htake,<-hlen]
     exact List.take_left
   .have hr:=run_append_grow (P:=P) w t ty e i z ht hi hz ⟨g,0,none⟩ n cap xs hown.1 (wZ hown) a m c news hl hnews (by omega) (by omega) (growslice_fits (by omega) hbytes)
    have hgr:=grown cap (by omega) (Value.ownBlock (.slice (some ⟨g,0,none⟩) n cap));exact⟨_,_,_,hr,hgr.1,hgr.2,Or.inr rfl⟩
def aS(e:TypeId)(size:Nat)(v:Value)(n:Nat)(xs:List Value):ai where
 holds w fp:=fp=sb v/\dZ w e size v n xs
 keep:=fun⟨h1,h2⟩ he=>⟨h1,nT h2 (fun k hk=>he k (h1▸hk))⟩
 lt:=fun⟨h1,h2⟩ k hk=>lY h2 k (h1▸hk)
section
variable {T:List Nat} {w0 w w':World} {l:List ai}
theorem BD.aZ(h:BD T w0 w l)(i:Nat){e:TypeId}{size:Nat}{v:Value}{n:Nat}{xs:List Value}(hi:l[i]? =some (aS e size v n xs)):dZ w e size v n xs:=let ⟨_,h,_⟩:=h.get i hi;h.2
theorem BD.gK(h:BD T w0 w l)(e:TypeId)(size:Nat):BD T w0 w (l++[aS e size (.slice none 0 0) 0 []]):=h.new (t':=aS e size (.slice none 0 0) 0 []) (f':=[]) ⟨rfl,Lx _ _ _⟩ ⟨Touch.refl _ _,by simp⟩
theorem BD.bG(h:BD T w0 w l)(i:Nat){e:TypeId}{size n n':Nat}{v v':Value}{xs xs':List Value}(hi:l[i]? =some (aS e size v n xs))(hg:w.grownBy w' v.ownBlock)(ho:dZ w' e size v' n' xs')(hat:v'.ownBlock=v.ownBlock\/v'.ownBlock=some w.heap.size):
  BD T w0 w' (l.set i (aS e size v' n' xs')):=by
 obtain⟨f,⟨hf,hb⟩,_,hs⟩:=h.step i hi;subst hf;refine hs _ _ _ ⟨rfl,ho⟩ ⟨Touch.vQ hg (fun k hk=> .inl (by simp[sb,hk])),fun k hk=>?_⟩;rcases hat with h|h
 .exact .inl (by rw[sb,<-h];exact hk)
 .exact .inr (by rw[sb,h]at hk;simp at hk;omega)
end
end
end Go.Proofs.YtegejdlglonflaaGreatDoor
