/-
  Texts of WorldCopies, laid together by program.
-/
import Derived.Test.YtddnnapoaonmjaaGreatDoorWZ7
namespace Go.Proofs.YtddnnapoaonmjaaGreatDoor
open Go.RowKit Go.Shelf Go.Proofs.Tryz
set_option maxRecDepth 100000
set_option maxHeartbeats 8000000
set_option linter.unusedVariables false
set_option linter.unusedSimpArgs false
def mU(w:World)(e:TypeId)(size n:Nat)(xs:List Value)(en:Ending)(w':World):Prop:=
 ∃aa cap,en= .returned (.slice aa n cap)/\w'.ownsRow 0 e size (.slice aa n cap) n xs/\Touch [] w w'/\∀b∈sb (.slice aa n cap),w.heap.size<=b
theorem nk{w w1:World}{e:TypeId}{size n cap:Nat}{xs:List Value}{aa:Option Addr}(hown:w1.ownsRow 0 e size (.slice aa n cap) n xs)(hgrow:(w.alloc (.cells #[] e)).grownBy w1 (Value.slice (some ⟨w.heap.size,0,none⟩) 0 0).ownBlock)(hat:(Value.slice aa n cap).ownBlock=(Value.slice (some ⟨w.heap.size,0,none⟩) 0 0).ownBlock\/(Value.slice aa n cap).ownBlock=some (w.alloc (.cells #[] e)).heap.size):
  mU w e size n xs (.returned (.slice aa n cap)) w1:=by
 refine⟨_,_,rfl,hown,((Touch.refl [] w).alloc _).grown hgrow (fun k hk=> .inr (by simp[Value.ownBlock]at hk;omega)),fun b hb=>?_⟩;rcases hat with h|h
 .rw[sb,h]at hb;simp[Value.ownBlock]at hb;omega
 .rw[sb,h]at hb;simp at hb;omega
theorem Ko(w:World)(v:Value)(l:List Acc)(h:w.ownsRow 0 197 5 v l.length (aJ l))(hl:l.length<=1048576):
  Calls prog 138 #[v] w (mU w 197 5 l.length (aJ l)):=by
 obtain⟨j0,hj,EZ,jz1,ER⟩:=info_parts gy;have HA:=hdq h;have hnil:=fun(w:World) (a:Option Addr) (n c:Nat)=>Lib.run_eql_slice_nil (P:=prog) w 31 197 a n c 0 0 underlying31;rcases h.2 with ⟨rfl,h0⟩|⟨g,cap,cur,rfl,_⟩
 .have HN:Hid (mU w 197 5 l.length (aJ l) (.returned (.slice none 0 0)) w):=by
   have h:=HA.o;rw[h0]at h|-;exact⟨none,0,rfl,h,Touch.refl _ _,by simp[sb,Value.ownBlock]⟩
  go_enter func138,ntmps138
  go_wp2;go_ret
  exact HN.o
 .clear h
  have HE:=hdq (gF w 197 5);go_enter func138,ntmps138
  go_wp2_with (at_builtin;go_must (refine bW _ rfl (.tmp 5) (.tmp 6) 31 rfl 197 j0 _ 5 40 underlying31 hj EZ jz1 ER rfl (by decide) (.slice (some ⟨w.heap.size,0,none⟩) 0 0) 0 [] rfl HE.o (.slice (some ⟨g,0,none⟩) l.length cap) l.length (aJ l) rfl (HA.o.alloc _) (dV _) (by simp only[maxLen];omega) (by omega) ?_);intro a1 c1 w1 hown hgrow hat;simp only[Nat.zero_add,nAq]at hown hat|-;have H1:=hdq (nk hown hgrow hat))
  go_ret
  exact H1.o
theorem xI(w:World)(v:Value)(l:List Nat)(h:w.ownsRow 0 53 1 v l.length (words l))(hl:l.length<=1048576):
  Calls prog 139 #[v] w (mU w 53 1 l.length (words l)):=by
 obtain⟨j0,hj,EZ,jz1,ER⟩:=info_parts fB;have HA:=hdq h;have hnil:=fun(w:World) (a:Option Addr) (n c:Nat)=>Lib.run_eql_slice_nil (P:=prog) w 30 53 a n c 0 0 underlying30;rcases h.2 with ⟨rfl,h0⟩|⟨g,cap,cur,rfl,_⟩
 .have HN:Hid (mU w 53 1 l.length (words l) (.returned (.slice none 0 0)) w):=by
   have h:=HA.o;rw[h0]at h|-;exact⟨none,0,rfl,h,Touch.refl _ _,by simp[sb,Value.ownBlock]⟩
  go_enter func139,ntmps139
  go_wp2;go_ret
  exact HN.o
 .clear h
  have HE:=hdq (gF w 53 1);go_enter func139,ntmps139
  go_wp2_with (at_builtin;go_must (refine bW _ rfl (.tmp 5) (.tmp 6) 30 rfl 53 j0 _ 1 8 underlying30 hj EZ jz1 ER rfl (by decide) (.slice (some ⟨w.heap.size,0,none⟩) 0 0) 0 [] rfl HE.o (.slice (some ⟨g,0,none⟩) l.length cap) l.length (words l) rfl (HA.o.alloc _) (iR _) (by simp only[maxLen];omega) (by omega) ?_);intro a1 c1 w1 hown hgrow hat;simp only[Nat.zero_add,nAq]at hown hat|-;have H1:=hdq (nk hown hgrow hat))
  go_ret
  exact H1.o
def yR(w:World)(s:Ar)(e:Ending)(w':World):Prop:=∃g' fp',e= .returned (.pointer (some ⟨g',0,none⟩))/\gT w' g' fp' s/\(∀k∈fp',w.heap.size<=k)/\Touch [] w w'
theorem yN{w w1 w2:World}{g:Nat}{v1 v2 Lv v2':Value}{r:List Acc}{s:Ar}(hA:xQ w g v1 v2 r s)(ho1:w1.ownsRow 0 197 5 Lv r.length (aJ r))(ht1:Touch [] w.drew w1)(hb1:∀b∈sb Lv,w.drew.heap.size<=b)(ho2:w2.ownsRow 0 53 1 v2' s.C.length (words s.C))(ht2:Touch [] w1 w2)(hb2:∀b∈sb v2',w1.heap.size<=b):
  yR w s (.returned (.pointer (some ⟨w2.heap.size,0,none⟩))) (w2.alloc (.cells #[.int .u64 (s.L.length:Int),Lv,(s.most:Int),v2'] 193)):=by
 have ht1':Touch [] w w1:=((Touch.refl [] w).drew).trans ht1 (by simp);have hs1:=ht1'.size;have hs2:=ht2.size;refine⟨_,_,rfl,⟨Lv,v2',r,⟨Cg.new w2 _ _,(dW ho1 ht2 (by simp)).alloc _,ho2.alloc _,hA.ring,hA.kD,hA.mM,hA.len,hA.wd⟩,rfl⟩,?_,(ht1'.trans ht2 (by simp)).alloc _⟩;intro k hk;simp only[List.mem_cons,List.mem_append]at hk;rcases hk with rfl|hk|hk
 .omega
 .exact hb1 k hk
 .have :=hb2 k hk;omega
theorem IJ(w:World)(g:Nat)(fp:List Nat)(s:Ar)(hI:gT w g fp s):Calls prog 50 #[g] w (yR w s):=by
 obtain⟨v1,v2,r,hA,rfl⟩:=hI;have h0:=hA.blk.cell 0;have h1:=hA.blk.cell 1;have h2:=hA.blk.cell 2;have h3:=hA.blk.cell 3;simp at h0 h1 h2 h3
 have hm1:=hA.kD;have hgl:=hA.blk.lt;have hr:r.length<=1024:=by have :=hA.ring.1;omega
 have hlen:=hA.len;have hm2:=hA.mM;have HA:=hdq hA;go_enter func50,ntmps50
 go_wp2_with (go_at_call 137;refine(dR _ _ _ h2 hm1).mono ?_;rintro e w' ⟨rfl,rfl⟩)
 go_region_held3 (fun w'=>w'.cell? ⟨g,0,none⟩=some (.int .u64 (s.L.length:Int))/\w'.cell? ⟨g,1,none⟩=some v1/\w'.cell? ⟨g,2,none⟩=some (.int .i64 (s.most:Int))/\w'.cell? ⟨g,3,none⟩=some v2) (go_keep)
  (first
  |(go_at_call 138;refine(Ko _ v1 r (dx HA.o.log) (by omega)).mono ?_;rintro e w1 ⟨a1,c1,rfl,ho1,ht1,hb1⟩;have k1:=HA.o.blk.drew.touch ht1 (by simp);have h0:=k1.cell 0;have h1:=k1.cell 1;have h2:=k1.cell 2;have h3:=k1.cell 3;simp at h0 h1 h2 h3;have HO1:=hdq ho1;have HT1:=hdq ht1;have HB1:=hdq hb1)
  |(go_at_call 139;refine(xI _ v2 s.C (dW (dx HA.o.Dh) HT1.o (by simp)) (by omega)).mono ?_;rintro e w2 ⟨a2,c2,rfl,ho2,ht2,hb2⟩;have k1:=(HA.o.blk.drew.touch HT1.o (by simp)).touch ht2 (by simp);have h0:=k1.cell 0;have h1:=k1.cell 1;have h2:=k1.cell 2;have h3:=k1.cell 3;simp at h0 h1 h2 h3;have Fs:=hdq ho2;have HT2:=hdq ht2;have HB2:=hdq hb2))
 go_wp2;go_ret
 exact yN HA.o HO1.o HT1.o HB1.o Fs.o HT2.o HB2.o
theorem BD.arCopy{T:List Nat}{w0 w:World}{l:List ai}{g:Nat}{s:Ar}(h:BD T w0 w l)(i:Nat)(hi:l[i]? =some (arena g s)):Calls prog 50 #[g] w
  fun e w'=>∃g',e= .returned (.pointer (some ⟨g',0,none⟩))/\BD T w0 w' (l++[arena g' s]):=by
 obtain⟨fp,hI⟩:=h.isAr i hi;refine(IJ w g fp s hI).mono ?_;rintro e w' ⟨g',fp',rfl,hI',hge,ht⟩;exact⟨g',rfl,h.new (t':=arena g' s) hI' ⟨ht,fun k hk=> .inr (hge k hk)⟩⟩
section
variable {n:Nat} {P:Program} {ops:Array Oper} {Q:Exit->Act->World->Prop} {l:Nat} {S:World->Prop}
theorem Y8(hno:¬LetsOut Q){i:Nat}{K:Act->World->Prop}{a:Act}{w:World}(h:wpOp P ops Q i K a w):wpOpIn Fence.wide n P ops Q i K a w:=by
 unfold wpOp at h;unfold wpOpIn;cases ho:ops[i]? with
 |none=>rw[ho]at h;exact h
 |some o=>
  rw[ho]at h;simp only at h|-;split
  .rename_i hw
   rw[if_pos hw]at h;rcases h with h|⟨_,h⟩
   .unfold Oper.wp at h
    unfold Oper.wpIn;refine⟨fun _ _=>trivial,?_⟩;rw[show Fence.wide.round=none from rfl,Oper.semAt_none];generalize (execOp a.eval o).run P w=r at *;cases r with
    |ok x w'=>
     cases x with
     |enter f args=>exact⟨fun h=>by simp[Fence.wide]at h,callsIn_wide.2 h⟩
     |row row args=>exact⟨fun h=>by simp[Fence.wide]at h,fun c cs _=>let ⟨v,w2,r,s⟩:=h c cs;⟨v,w2,r,stepsIn_wide.2 s⟩⟩
     |round _ _ _ _ _=>exact False.elim h
     |_=>exact h
    |halt x w'=>cases x<;>exact h
   .exact absurd h hno
  .rename_i hw
   rw[if_neg hw]at h;exact⟨fun _ _=>trivial,h⟩
theorem Y4{md:Region.Mode}(hno:¬LetsOut Q):∀(fuel:Nat) (listed:Array Bool) (a:Act) (w:World),wpAny P md ops Q fuel listed a w->wpAnyIn Fence.wide n P md ops Q fuel listed a w
 |0,_,_,_,h=>h
 |fuel+1,_,_,_,h=>⟨h.1,fun i hi=>wpOpIn_mono (fun a w h=>Y4 hno fuel _ a w h) (Y8 hno (h.2 i hi))⟩
theorem Zd{id:Nat}{a:Act}{w:World}(hno:¬LetsOut Q)(hd:Zk ops=true)(hm:P.follows .mixedOrders=true)(hS:S w.drew)(h:S w.drew->wpAnyH P .any ops Q S ops.size (Array.replicate ops.size false) a w.drew):(Code.region id ops true).wpIn (Fence.wide.inRound l) n P Q a w:=
 wpIn_region_any hm (Zb rfl hd _ _ _ _ (Y4 hno _ _ _ _ (wpAny_of_held _ _ _ _ (h hS))))
end
end Go.Proofs.YtddnnapoaonmjaaGreatDoor
