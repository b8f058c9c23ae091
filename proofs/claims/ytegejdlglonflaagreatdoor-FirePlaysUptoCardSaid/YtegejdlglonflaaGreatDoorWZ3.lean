/-
  Texts of FirePlays, laid together by program.
-/
import Derived.Test.YtegejdlglonflaaGreatDoorWZ2
import Derived.ScopeJumps
import Derived.WalkMore
namespace Go.Proofs.YtegejdlglonflaaGreatDoor
open Go.RowKit Go.Shelf Go.Proofs.Tryz
set_option maxRecDepth 100000
set_option maxHeartbeats 8000000
set_option linter.unusedVariables false
set_option linter.unusedSimpArgs false
section
variable {P:Program} {a:Act} {w:World} {Q:Exit->Act->World->Prop}
theorem bT{c rest:Code}(l:Nat)(hf:findLabel c l=some rest)(h:c.wp P (Exit.jump l (fun a w=>rest.wp P (Exit.noGoto Q) a w) Q) a w):(Code.scope c).wp P Q a w:=
 wp_scope_jumps l _ (fun _ _=>0) hf h (fun a w hJ=>Code.wp_mono (fun e a w he=>by cases e<;>first |exact he|exact he.elim) hJ)
theorem fO{l:Nat}{J:Act->World->Prop}{a:Act}{w:World}(h:Q .ret a w):Exit.jump l J Q .ret a w:=h
theorem dO{a:Act}{w:World}(h:Q .ret a w):Exit.noGoto Q .ret a w:=h
end
section
open Go.RowKit
structure Acc where
 op:Nat
 at_:Nat
 old:Nat
 new:Nat
 did:Bool
deriving DecidableEq
def Acc.cells(x:Acc):List Value:=[.int .i64 x.op,.int .i64 x.at_,.int .u64 x.old,.int .u64 x.new,.bool x.did]
def Acc.zero:Acc:=⟨0,0,0,0,false⟩
theorem Acc.bH(x:Acc):x.cells.length=5:=rfl
def aJ(l:List Acc):List Value:=l.flatMap Acc.cells
theorem oO(l:List Acc):(aJ l).length=l.length*5:=by
 induction l with
 |nil=>rfl
 |cons x l ih=>simp only[aJ,List.flatMap_cons,List.length_append,Acc.bH,List.length_cons]at ih|-;omega
theorem kC(a b:List Acc):aJ (a++b)=aJ a++aJ b:=by simp[aJ]
theorem tX(l:List Acc)(i:Nat)(hi:i<l.length)(x:Acc):
  aJ (l.set i x)=((((((aJ l).set (i*5) (.int .i64 x.op)).set (i*5+1) (.int .i64 x.at_)).set (i*5+2) (.int .u64 x.old)).set (i*5+3) (.int .u64 x.new)).set (i*5+4) (.bool x.did)):=by
 induction l generalizing i with
 |nil=>simp at hi
 |cons y l ih=>
  cases i with
  |zero=>simp[aJ,Acc.cells]
  |succ i=>
   have :=ih i (by simpa using hi);simp only[aJ,sSq,List.flatMap_cons]at this|-;rw[this];simp only[Acc.cells,cAq,nAq];rw[show(i+1)*5=i*5+1+1+1+1+1 from by omega];simp only[sSq]
structure Ar where
 C:List Nat
 most:Nat
 L:List Acc
def Ring(L r:List Acc):Prop:=r.length=min L.length 1024/\∀j,L.length<=j+1024->j<L.length->r[j % 1024]? =L[j]?
theorem Ring.nil:Ring [] []:=⟨rfl,fun j _ h=>by simp at h⟩
theorem Ring.push{L r:List Acc}(h:Ring L r)(hl:r.length<1024)(x:Acc):Ring (L++[x]) (r++[x]):=by
 obtain⟨h1,h2⟩:=h;have hL:L.length<1024:=by omega
 refine⟨by simp;omega,fun j hj1 hj2=>?_⟩;simp only[List.length_append,List.length_cons,List.length_nil]at hj1 hj2;rw[Nat.mod_eq_of_lt (by omega)];by_cases hj:j<L.length
 .rw[List.getElem?_append_left (by omega),List.getElem?_append_left hj]
  have :=h2 j (by omega) hj;rwa[Nat.mod_eq_of_lt (by omega)]at this
 .have e:j=L.length:=by omega
  have e2:r.length=L.length:=by omega
  rw[List.getElem?_append_right (by omega),List.getElem?_append_right (by omega),e2,e]
theorem Ring.turn{L r:List Acc}(h:Ring L r)(hl:¬r.length<1024)(x:Acc):Ring (L++[x]) (r.set (L.length % 1024) x):=by
 obtain⟨h1,h2⟩:=h;have hr:r.length=1024:=by omega
 refine⟨by simp;omega,fun j hj1 hj2=>?_⟩;simp only[List.length_append,List.length_cons,List.length_nil]at hj1 hj2;by_cases hj:j<L.length
 .rw[List.getElem?_append_left hj,List.getElem?_set_ne (by omega)]
  exact h2 j (by omega) hj
 .have e:j=L.length:=by omega
  subst e;rw[List.getElem?_set_self (by have :=Nat.mod_lt L.length (show 0<1024 by omega);omega)];simp
def words(l:List Nat):List Value:=l.map fun(n:Nat)=> .int .u64 (n:Int)
theorem cO(l:List Nat):(words l).length=l.length:=by simp[words]
theorem mR(a b:List Nat):words (a++b)=words a++words b:=by simp[words]
theorem jB(l:List Nat)(i:Nat)(n:Nat):words (l.set i n)=(words l).set i (.int .u64 (n:Int)):=by simp[words,List.map_set]
def Wd(n:Nat):Prop:=n<18446744073709551616
structure xQ(w:World)(g:Nat)(v1 v2:Value)(r:List Acc)(s:Ar):Prop where
 blk:Cg w g 286 #[.int .u64 (s.L.length:Int),v1,(s.most:Int),v2]
 log:w.ownsRow 0 290 5 v1 r.length (aJ r)
 Dh:w.ownsRow 0 177 1 v2 s.C.length (words s.C)
 ring:Ring s.L r
 kD:1<=s.most
 mM:s.most<=65536
 len:s.C.length<=s.most
 wd:∀n∈s.C,Wd n
def gT(w:World)(g:Nat)(fp:List Nat)(s:Ar):Prop:=∃v1 v2 r,xQ w g v1 v2 r s/\fp=g::(sb v1++sb v2)
theorem gT.keep{w w':World}{g:Nat}{fp:List Nat}{s:Ar}(h:gT w g fp s)(he:∀k∈fp,w'.heap[k]? =w.heap[k]?):gT w' g fp s:=by
 obtain⟨v1,v2,r,h,rfl⟩:=h;exact⟨v1,v2,r,⟨h.blk.keep (he g (by simp)),dN h.log (fun k hk=>he k (by simp[hk])),dN h.Dh (fun k hk=>he k (by simp[hk])),h.ring,h.kD,h.mM,h.len,h.wd⟩,rfl⟩
theorem gT.lt{w:World}{g:Nat}{fp:List Nat}{s:Ar}(h:gT w g fp s):∀k∈fp,k<w.heap.size:=by
 obtain⟨v1,v2,r,h,rfl⟩:=h;intro k hk;simp only[List.mem_cons,List.mem_append]at hk;rcases hk with rfl|hk|hk
 .exact h.blk.lt
 .exact iW h.log k hk
 .exact iW h.Dh k hk
theorem gT.touch{w w':World}{g:Nat}{fp S:List Nat}{s:Ar}(h:gT w g fp s)(ht:Touch S w w')(hd:∀k∈fp,k∉S):gT w' g fp s:=
 h.keep fun k hk=>ht.block k (h.lt k hk) (hd k hk)
theorem gT.drewN{w:World}{g:Nat}{fp:List Nat}{s:Ar}(h:gT w g fp s)(n:Nat):gT (w.drewN n) g fp s:=h.keep fun _ _=>rfl
theorem gT.alloc{w:World}{g:Nat}{fp:List Nat}{s:Ar}(h:gT w g fp s)(o:Obj):gT (w.alloc o) g fp s:=h.keep fun k hk=>Below.heap_alloc w o k (h.lt k hk)
structure Moved(fp fp':List Nat)(w w':World):Prop where
 touch:Touch fp w w'
 fp:∀k∈fp',k∈fp\/w.heap.size<=k
theorem Moved.refl(fp:List Nat)(w:World):Moved fp fp w w:=⟨Touch.refl _ _,fun _ h=> .inl h⟩
theorem Moved.trans{a b c:List Nat}{w w1 w2:World}(h:Moved a b w w1)(h':Moved b c w1 w2):Moved a c w w2:=
 ⟨h.touch.trans h'.touch h.fp,fun k hk=>(h'.fp k hk).elim (fun h2=>h.fp k h2) (fun h2=> .inr (Nat.le_trans h.touch.size h2))⟩
theorem Moved.drewN{a b:List Nat}{w w1:World}(h:Moved a b w w1)(n:Nat):Moved a b w (w1.drewN n):=⟨h.touch.drewN n,h.fp⟩
theorem Moved.alloc{a b:List Nat}{w w1:World}(h:Moved a b w w1)(o:Obj):Moved a b w (w1.alloc o):=⟨h.touch.alloc o,h.fp⟩
end
section
open Go.RowKit
theorem gZ(x:Acc):∀u∈x.cells,u.oneCell'=true:=by
 intro u hu;simp only[Acc.cells,List.mem_cons,List.not_mem_nil,or_false]at hu;rcases hu with rfl|rfl|rfl|rfl|rfl<;>rfl
theorem gy:(prog.info? 290).map (fun i=>(i.zero,i.size,i.bytes))=some (some (.agg #[(),(),.int .u64 0,.int .u64 0,false]),5,40):=by kernel_rfl
abbrev Acc.val(x:Acc):Value:= .agg #[(x.op:Int),(x.at_:Int),.int .u64 (x.old:Int),.int .u64 (x.new:Int),x.did]
abbrev Acc.box(x:Acc):Obj:= .cells #[(x.op:Int),(x.at_:Int),.int .u64 (x.old:Int),.int .u64 (x.new:Int),x.did] 290
def sQ(w w':World)(g:Nat)(L:List Acc)(m v1 v2:Value)(x:Acc):Prop:=
 ∃Lv r',Cg w' g 286 #[.int .u64 ((L.length+1:Nat):Int),Lv,m,v2]/\w'.ownsRow 0 290 5 Lv r'.length (aJ r')/\Ring (L++[x]) r'/\
  Touch (g::sb v1) w w'/\(∀k∈sb Lv,k∈sb v1\/w.heap.size<=k)
theorem xY{w wa w1:World}{g g' cap:Nat}{L r:List Acc}{m v1 v2:Value}{x:Acc}(hb:Cg w g 286 #[.int .u64 (L.length:Int),v1,m,v2])(ho:w.ownsRow 0 290 5 v1 r.length (aJ r))(hR:Ring L r)(hr:r.length<1024)(GZ:Touch [] w wa)(hgrow:wa.grownBy w1 v1.ownBlock)(hown:w1.ownsRow 0 290 5 (.slice (some ⟨g',0,none⟩) (r.length+1) cap) (r.length+1) (aJ r++x.cells))(hat:v1.ownBlock=some g'\/g'=wa.heap.size):
  sQ w ((w1.setCell ⟨g,1,none⟩ (.slice (some ⟨g',0,none⟩) (r.length+1) cap)).setCell ⟨g,0,none⟩ (.int .u64 ((L.length:Int)+1))) g L m v1 v2 x:=by
 have hgn:some g≠v1.ownBlock:=fun h=>own_ne ho hb (by decide) (by simp[sb,<-h]);have B1:=(hb.touch GZ (by simp)).grown hgrow hgn;have hgo:=own_ne hown B1 (by decide);refine⟨.slice (some ⟨g',0,none⟩) (r.length+1) cap,r++[x],?_,?_,hR.push hr x,?_,?_⟩
 .have :=(B1.set 1 (.slice (some ⟨g',0,none⟩) (r.length+1) cap)).set 0 (.int .u64 ((L.length:Int)+1))
  simpa using this
 .have :=dh (dh hown ⟨g,1,none⟩ (.slice (some ⟨g',0,none⟩) (r.length+1) cap) hgo) ⟨g,0,none⟩ (.int .u64 ((L.length:Int)+1)) hgo
  rw[kC];simpa[aJ]using this
 .refine(((GZ.mono (S':=g::sb v1) (by simp)).grown hgrow ?_).setCell ⟨g,1,none⟩ _ (by simp)).setCell ⟨g,0,none⟩ _ (by simp)
  intro k hk;exact .inl (by simp[sb,hk])
 .intro k hk
  have hk':k=g':=by simpa[sb,Value.ownBlock]using hk
  subst hk';rcases hat with h|h
  .exact .inl (by simp[sb,h])
  .exact .inr (by rw[h];exact GZ.size)
theorem Bt(w:World)(g:Nat)(L r:List Acc)(m v1 v2:Value)(x:Acc)(hb:Cg w g 286 #[.int .u64 (L.length:Int),v1,m,v2])(ho:w.ownsRow 0 290 5 v1 r.length (aJ r))(hR:Ring L r)(hr:r.length<1024)(hn:L.length<4611686018427387904):
  Calls prog 296 #[g,x.val] w fun e w'=>e= .returned (.tuple #[])/\sQ w w' g L m v1 v2 x:=by
 obtain⟨i0,hi,hz0,hz1,hz2⟩:=info_parts gy;obtain⟨a1,c1,rfl,hc1,hc2⟩:=aK ho;have h0:=hb.cell 0;have h1:=hb.cell 1;have f0:=hb.frozen 0;have f1:=hb.frozen 1;simp at h0 h1
 have hgl:=hb.lt;have HB:=hdq hb;have HO1:=hdq ho;have HR:=hdq hR;have HT:=hdq ((((Touch.refl [] w).alloc x.box).alloc x.box).drew);have HO:=hdq (dx ((ho.alloc x.box).alloc x.box));have hb2:=hdq (Cg.drew ((hb.alloc x.box).alloc x.box));have HG:Hid (some g≠(Value.slice a1 r.length c1).ownBlock):=fun h=>own_ne ho hb (by decide) (by simp[sb,<-h]);have HN:=hdq (World.news_of_block (w:=((w.alloc x.box).alloc x.box).drew) (B:=w.heap.size+1) (cs:=#[.int .i64 (x.op:Int),.int .i64 (x.at_:Int),.int .u64 (x.old:Int),.int .u64 (x.new:Int),.bool x.did]) (t:=290) (fr:=(0,0)) (by have :=heap_alloc_new (w.alloc x.box) x.box;rw[World.size_alloc]at this;exact this));clear hb ho hR hc1 hc2;go_enter func296,ntmps296
 go_wp2;go_region_law (refine step_append_lies _ rfl (.tmp 14) (.tmp 16) 40 rfl 0 290 i0 _ 5 40 underlying40 hi hz0 hz1 hz2 rfl (by decide) (.slice a1 r.length c1) r.length (aJ r) (by simp[Act.eval]) HO.o ⟨w.heap.size+1,0,none⟩ 1 1 x.cells (by simp[Act.eval]) rfl HN.o (gZ x) (by omega) (by simp only[maxLen];omega) (by omega) (Nat.zero_le _) _ rfl ?_;intro g' cap w1 hown hgrow hat hlt;have B1:=hb2.o.grown hgrow HG.o;have k1:=B1.cell 1;have e1:=B1.frozen 1;have k0:=B1.cell 0;have e0:=B1.frozen 0;simp at k0 k1;have H1:=hdq hown;have H2:=hdq hgrow;have H3:=hdq hat;clear B1 hown hgrow hat)
 all_goals go_wp2
 all_goals go_end0
 all_goals exact⟨rfl,xY HB.o HO1.o HR.o hr HT.o H2.o H1.o H3.o⟩
theorem xD{w:World}{g g1 cap:Nat}{L r:List Acc}{m v2:Value}{x:Acc}(hb:Cg w g 286 #[.int .u64 (L.length:Int),.slice (some ⟨g1,0,none⟩) 1024 cap,m,v2])(ho:w.ownsRow 0 290 5 (.slice (some ⟨g1,0,none⟩) 1024 cap) 1024 (aJ r))(hR:Ring L r)(hr:r.length=1024)(q:Nat)(hq:q=L.length % 1024)(o:Obj):
  sQ w (((((((w.setCell ⟨g1,q*5,none⟩ (.int .i64 (x.op:Int))).setCell ⟨g1,q*5+1,none⟩ (.int .i64 (x.at_:Int))).setCell ⟨g1,q*5+2,none⟩ (.int .u64 (x.old:Int))).setCell ⟨g1,q*5+3,none⟩ (.int .u64 (x.new:Int))).setCell
   ⟨g1,q*5+4,none⟩ (.bool x.did)).setCell ⟨g,0,none⟩ (.int .u64 ((L.length:Int)+1))).alloc o).drew g L m (.slice (some ⟨g1,0,none⟩) 1024 cap) v2 x:=by
 have hgo:=own_ne ho hb (by decide);have hne:g≠g1:=fun h=>hgo (by simp[sb,Value.ownBlock,h]);refine⟨.slice (some ⟨g1,0,none⟩) 1024 cap,r.set (L.length % 1024) x,?_,?_,hR.turn (by omega) x,?_,fun k hk=> .inl hk⟩
 .have :=((((((hb.far (p:=⟨g1,q*5,none⟩) hne (.int .i64 (x.op:Int))).far (p:=⟨g1,q*5+1,none⟩) hne (.int .i64 (x.at_:Int))).far (p:=⟨g1,q*5+2,none⟩) hne (.int .u64 (x.old:Int))).far (p:=⟨g1,q*5+3,none⟩) hne (.int .u64 (x.new:Int))).far (p:=⟨g1,q*5+4,none⟩) hne (.bool x.did)).set 0 (.int .u64 ((L.length:Int)+1))).alloc o
  simp only[sAq,sZq]at this;rw[Int.natCast_add,Int.natCast_one];exact this.drew
 .have :=(dh (jY (jY (jY (jY (jY ho (q*5) (.int .i64 (x.op:Int))) (q*5+1) (.int .i64 (x.at_:Int))) (q*5+2) (.int .u64 (x.old:Int))) (q*5+3) (.int .u64 (x.new:Int))) (q*5+4) (.bool x.did)) ⟨g,0,none⟩ (.int .u64 ((L.length:Int)+1)) hgo).alloc o
  rw[tX _ _ (by have :=Nat.mod_lt L.length (show 0<1024 by omega);omega),List.length_set,hr,<-hq];exact dx this
 .have hg1:g1∈g::sb (.slice (some ⟨g1,0,none⟩) 1024 cap):=by simp[sb,Value.ownBlock]
  exact((((((((Touch.refl _ w).setCell _ _ (.inl hg1)).setCell _ _ (.inl hg1)).setCell _ _ (.inl hg1)).setCell _ _ (.inl hg1)).setCell _ _ (.inl hg1)).setCell ⟨g,0,none⟩ _ (by simp)).alloc o).drew
theorem AJ(w:World)(g:Nat)(L r:List Acc)(m v1 v2:Value)(x:Acc)(hb:Cg w g 286 #[.int .u64 (L.length:Int),v1,m,v2])(ho:w.ownsRow 0 290 5 v1 r.length (aJ r))(hR:Ring L r)(hr:r.length=1024)(hn:L.length<4611686018427387904):
  Calls prog 296 #[g,x.val] w fun e w'=>e= .returned (.tuple #[])/\sQ w w' g L m v1 v2 x:=by
 obtain⟨g1,cap,cur,rfl,hcur,hc1,hc2,hc3,hc4⟩:=fC ho (by omega);rw[hr]at hb ho|-;have h0:=hb.cell 0;have h1:=hb.cell 1;have f0:=hb.frozen 0;have f1:=hb.frozen 1;simp at h0 h1
 have hgl:=hb.lt;have hg1:=hcur.lt;obtain⟨q,hq0,hq,hq1⟩:∃q:Nat,Hid (q=L.length % 1024)/\(L.length:Int).tmod 1024=(q:Int)/\q<1024:=⟨L.length % 1024,rfl,by rw[Int.tmod_eq_emod_of_nonneg (by omega)];omega,Nat.mod_lt _ (by omega)⟩;have hq2:(q:Int)<1024:=by omega
 have hlen:(aJ r).length=5120:=by rw[oO,hr]
 have c0:=dI ho (q*5) (by omega);have c1:=dI ho (q*5+1) (by omega);have c2:=dI ho (q*5+2) (by omega);have c3:=dI ho (q*5+3) (by omega);have c4:=dI ho (q*5+4) (by omega);have d0:=dH ho (q*5);have d1:=dH ho (q*5+1);have d2:=dH ho (q*5+2);have d3:=dH ho (q*5+3);have d4:=dH ho (q*5+4);have hne:g≠g1:=hb.ne hcur (by decide);have HF:=hdq (fun o=>xD (x:=x) hb ho hR hr q hq0.o o);clear hc4 hc3 ho hb hcur hr hR hc1 hc2;go_enter func296,ntmps296
 go_wp2;go_region
 all_goals go_wp2
 all_goals go_end0
 all_goals exact⟨rfl,HF.o _⟩
theorem u6(w:World)(g:Nat)(L r:List Acc)(m v1 v2:Value)(x:Acc)(hb:Cg w g 286 #[.int .u64 (L.length:Int),v1,m,v2])(ho:w.ownsRow 0 290 5 v1 r.length (aJ r))(hR:Ring L r)(hn:L.length<4611686018427387904):
  Calls prog 296 #[g,x.val] w fun e w'=>e= .returned (.tuple #[])/\sQ w w' g L m v1 v2 x:=by
 by_cases hr:r.length<1024
 .exact Bt w g L r m v1 v2 x hb ho hR hr hn
 .exact AJ w g L r m v1 v2 x hb ho hR (by have :=hR.1;omega) hn
end
theorem dR(g:Nat)(n:Nat)(w:World)(hc:w.cell? ⟨g,2,none⟩=some (.int .i64 (n:Int)))(h:1<=n):
 Calls prog 198 #[g] w fun e w'=>e= .returned (.bool false)/\w=w':=by
 have h:((n:Int)==0)=false:=by simp;omega
 go_enter func198,ntmps198
 go_wp2;go_ret
 exact⟨rfl,rfl⟩
def Quiet(w w':World):Prop:=∃n,w'=w.drewN n
theorem Quiet.refl(w:World):Quiet w w:=⟨0,rfl⟩
def Ar.acc(s:Ar)(op i now:Nat)(did:Bool):Ar:={s with C:=s.C.set i now,L:=s.L++[⟨op,i,s.C.getD i 0,now,did⟩]}
def jb(w w':World)(g:Nat)(fp:List Nat)(s:Ar):Prop:=∃fp',gT w' g fp' s/\Moved fp fp' w w'
theorem wd_set{l:List Nat}(h:∀n∈l,Wd n)(i n:Nat)(hn:Wd n):∀m∈l.set i n,Wd m:=by
 intro m hm;rcases List.mem_or_eq_of_mem_set hm with h1|h1
 .exact h m h1
 .rw[h1];exact hn
theorem sG{w wq w3:World}{g g2 cap:Nat}{v1:Value}{r:List Acc}{s:Ar}{i now op:Nat}{did:Bool}{was:Nat}(hA:xQ w g v1 (.slice (some ⟨g2,0,none⟩) s.C.length cap) r s)(hi:i<s.C.length)(Fa:s.C[i]=was)(hnow:Wd now)(hq:Quiet w wq)(hN:sQ (wq.setCell ⟨g2,i,none⟩ (.int .u64 (now:Int))) w3 g s.L (.int .i64 (s.most:Int)) v1 (.slice (some ⟨g2,0,none⟩) s.C.length cap) ⟨op,i,was,now,did⟩):
  jb w w3 g (g::(sb v1++sb (.slice (some ⟨g2,0,none⟩) s.C.length cap))) (s.acc op i now did):=by
 obtain⟨nq,rfl⟩:=hq;obtain⟨Lv,r',hB,hL,hR,hT,hF⟩:=hN;have hne:g≠g2:=fun h=>own_ne hA.Dh hA.blk (by decide) (by simp[sb,Value.ownBlock,h]);have hc2:((w.drewN nq).setCell ⟨g2,i,none⟩ (.int .u64 (now:Int))).ownsRow 0 177 1 (.slice (some ⟨g2,0,none⟩) s.C.length cap) s.C.length (words (s.C.set i now)):=by
  have :=jY (own_drewN hA.Dh nq) i (.int .u64 (now:Int));rwa[<-jB]at this
 have h12:=pF hA.Dh hA.log (by decide);have hc3:w3.ownsRow 0 177 1 (.slice (some ⟨g2,0,none⟩) s.C.length cap) s.C.length (words (s.C.set i now)):=dW hc2 hT (fun k hk=>by
  simp only[List.mem_cons,not_or];refine⟨?_,h12 k hk⟩;rintro rfl;exact own_ne hA.Dh hA.blk (by decide) hk)
 refine⟨g::(sb Lv++sb (.slice (some ⟨g2,0,none⟩) s.C.length cap)),⟨Lv,_,r',⟨?_,hL,?_,?_,hA.kD,hA.mM,?_,?_⟩,rfl⟩,?_,?_⟩
 .simpa[Ar.acc]using hB
 .simpa[Ar.acc]using hc3
 .have :s.C.getD i 0=was:=by simp[List.getD,hi,Fa]
  simp only[Ar.acc,this];exact hR
 .simpa[Ar.acc]using hA.len
 .exact wd_set hA.wd i now hnow
 .refine((((Touch.refl _ w).drewN nq).setCell ⟨g2,i,none⟩ _ (.inl ?_)).trans hT ?_)
  .simp[sb,Value.ownBlock]
  .intro k hk
   simp only[List.mem_cons]at hk;rcases hk with rfl|hk
   .simp
   .exact .inl (by simp[hk])
 .intro k hk
  simp only[List.mem_cons,List.mem_append]at hk|-;rcases hk with rfl|hk|hk
  .simp
  .rcases hF k hk with h|h
   .simp[h]
   .exact .inr (by simpa[World.setCell]using h)
  .simp[hk]
theorem wN(w:World)(g:Nat)(v1 v2:Value)(r:List Acc)(s:Ar)(op i:Nat)(fc:Nat)(caps:Array Value)(now:Nat)(hnow:Wd now)(hA:xQ w g v1 v2 r s)(hi:i<s.C.length)(eg:∀args w,(callFunc fc args).run prog w= .ok (.enter fc args) w)(hch:Calls prog fc (#[.int .u64 (s.C[i]:Int)]++caps) w fun e w'=>e= .returned (.tuple #[.int .u64 (now:Int),true])/\Quiet w w')(hn:s.L.length<4611686018427387904):
  Calls prog 256 #[g,(op:Int),(i:Int),.func (.func fc) #[] caps] w fun e w'=>
   e= .returned (.tuple #[.int .u64 (s.C[i]:Int),true,()])/\jb w w' g (g::(sb v1++sb v2)) (s.acc op i now true):=by
 obtain⟨g2,cap,cur,rfl,hcur,hc1,hc2,hc3,hc4⟩:=fC hA.Dh (by omega);have hci:=dI hA.Dh i (by rw[cO];exact hi);have hfi:=dH hA.Dh i;have h3:=hA.blk.cell 3;have h2:=hA.blk.cell 2;simp[words]at h3 h2 hci
 have hbd:(i:Int)<(s.C.length:Int):=by omega
 have hne:g≠g2:=hA.blk.ne hcur (by decide);have hm1:=hA.kD;have hlen:=hA.len;have hm2:=hA.mM;have hgl:=hA.blk.lt;have hg2:=hcur.lt;have HC:=hdq hch;generalize Fa:s.C[i]=was at hci HC|-;have HF:=hdq (fun w1 w3 hq hN=>sG (w:=w) (wq:=w1) (w3:=w3) (op:=op) (did:=true) hA hi Fa hnow hq hN);have HA:=hdq hA;have HCu:=hdq hcur;clear hch hA hc3 hc4 Fa hcur;go_enter func256,ntmps256
 go_wp2_with (go_at_call 198;refine(dR _ _ _ h2 hm1).mono ?_;rintro e w' ⟨rfl,rfl⟩)
 refine HC.o.mono ?_;rintro e w1 ⟨rfl,hq⟩;have HQ:=hdq hq;obtain⟨nq,rfl⟩:=hq;go_wp2_with fail
 refine(u6 _ g s.L r (.int .i64 (s.most:Int)) v1 (.slice (some ⟨g2,0,none⟩) s.C.length cap) ⟨op,i,was,now,true⟩ ?_ ?_ HA.o.ring hn).mono ?_
 .exact Cg.drewN (HA.o.blk.far hne _) nq
 .exact own_drewN (dh HA.o.log ⟨g2,i,none⟩ _ (fun h=>(pF HA.o.log HA.o.Dh (by decide)) g2 h (by simp[sb,Value.ownBlock]))) nq
 rintro e w3 ⟨rfl,hN⟩;have HN:=hdq hN;clear hN;go_wp2;refine bodyPost_ret (v:= .tuple #[.int .u64 (was:Int),true,()]) (by simp[results,go_sem]) rfl ⟨rfl,HF.o _ _ HQ.o HN.o⟩
theorem yc(w:World)(g:Nat)(v1 v2:Value)(r:List Acc)(s:Ar)(op i:Nat)(fc:Nat)(caps:Array Value)(now0:Nat)(hA:xQ w g v1 v2 r s)(hi:i<s.C.length)(eg:∀args w,(callFunc fc args).run prog w= .ok (.enter fc args) w)(hch:Calls prog fc (#[.int .u64 (s.C[i]:Int)]++caps) w fun e w'=>e= .returned (.tuple #[.int .u64 (now0:Int),false])/\Quiet w w')(hn:s.L.length<4611686018427387904):
  Calls prog 256 #[g,(op:Int),(i:Int),.func (.func fc) #[] caps] w fun e w'=>
   e= .returned (.tuple #[.int .u64 (s.C[i]:Int),false,()])/\jb w w' g (g::(sb v1++sb v2)) (s.acc op i s.C[i] false):=by
 obtain⟨g2,cap,cur,rfl,hcur,hc1,hc2,hc3,hc4⟩:=fC hA.Dh (by omega);have hci:=dI hA.Dh i (by rw[cO];exact hi);have hfi:=dH hA.Dh i;have h3:=hA.blk.cell 3;have h2:=hA.blk.cell 2;simp[words]at h3 h2 hci
 have hbd:(i:Int)<(s.C.length:Int):=by omega
 have hne:g≠g2:=hA.blk.ne hcur (by decide);have hm1:=hA.kD;have hlen:=hA.len;have hm2:=hA.mM;have hgl:=hA.blk.lt;have hg2:=hcur.lt;have HC:=hdq hch;generalize Fa:s.C[i]=was at hci HC|-;have HF:=hdq (fun w1 w3 hq hN=>sG (w:=w) (wq:=w1) (w3:=w3) (op:=op) (did:=false) (now:=was) hA hi Fa (Fa▸hA.wd _ (List.getElem_mem hi)) hq hN);have HA:=hdq hA;have HCu:=hdq hcur;clear hch hA hc3 hc4 Fa hcur;go_enter func256,ntmps256
 go_wp2_with (go_at_call 198;refine(dR _ _ _ h2 hm1).mono ?_;rintro e w' ⟨rfl,rfl⟩)
 refine HC.o.mono ?_;rintro e w1 ⟨rfl,hq⟩;have HQ:=hdq hq;obtain⟨nq,rfl⟩:=hq;go_wp2_with fail
 refine(u6 _ g s.L r (.int .i64 (s.most:Int)) v1 (.slice (some ⟨g2,0,none⟩) s.C.length cap) ⟨op,i,was,was,false⟩ ?_ ?_ HA.o.ring hn).mono ?_
 .exact Cg.drewN (HA.o.blk.far hne _) nq
 .exact own_drewN (dh HA.o.log ⟨g2,i,none⟩ _ (fun h=>(pF HA.o.log HA.o.Dh (by decide)) g2 h (by simp[sb,Value.ownBlock]))) nq
 rintro e w3 ⟨rfl,hN⟩;have HN:=hdq hN;clear hN;go_wp2;refine bodyPost_ret (v:= .tuple #[.int .u64 (was:Int),false,()]) (by simp[results,go_sem]) rfl ⟨rfl,HF.o _ _ HQ.o HN.o⟩
theorem wJ(w:World)(g:Nat)(v1 v2:Value)(r:List Acc)(s:Ar)(op:Int)(at_:Int)(f:Value)(hA:xQ w g v1 v2 r s)(hi:at_<0\/(s.C.length:Int)<=at_):
  Calls prog 256 #[g,op,at_,f] w fun e w'=>
   e= .returned (.tuple #[.int .u64 0,false,(4:Int)])/\w=w':=by
 obtain⟨a2,cap,rfl,hc1,hc2⟩:=aK hA.Dh;have h3:=hA.blk.cell 3;have h2:=hA.blk.cell 2;simp at h3 h2
 have hm1:=hA.kD;clear hA;rcases hi with hi|hi
 .go_enter func256,ntmps256
  go_wp2_with (go_at_call 198;refine(dR _ _ _ h2 hm1).mono ?_;rintro e w' ⟨rfl,rfl⟩)
  refine bodyPost_ret (v:= .tuple #[.int .u64 0,false,(4:Int)]) (by simp[results,go_sem]) rfl ⟨rfl,rfl⟩
 .have hi0:¬at_<0:=by omega
  go_enter func256,ntmps256
  go_wp2_with (go_at_call 198;refine(dR _ _ _ h2 hm1).mono ?_;rintro e w' ⟨rfl,rfl⟩)
  refine bodyPost_ret (v:= .tuple #[.int .u64 0,false,(4:Int)]) (by simp[results,go_sem]) rfl ⟨rfl,rfl⟩
def MF(w:World)(p:Value):Prop:=p= .pointer none\/∃g,p= .pointer (some ⟨g,0,none⟩)/\w.cell? ⟨g,2,none⟩=some (.int .i64 0)
def Ar.iw(s:Ar)(op:Nat)(at_:Int)(D9:Nat->Nat×Bool):Ar×Acc×Nat:=
 if 0<=at_/\at_<(s.C.length:Int)then
  (s.acc op at_.toNat (if(D9 (s.C.getD at_.toNat 0)).2 then(D9 (s.C.getD at_.toNat 0)).1 else s.C.getD at_.toNat 0) (D9 (s.C.getD at_.toNat 0)).2,
  ⟨op,at_.toNat,s.C.getD at_.toNat 0,if(D9 (s.C.getD at_.toNat 0)).2 then(D9 (s.C.getD at_.toNat 0)).1 else s.C.getD at_.toNat 0,(D9 (s.C.getD at_.toNat 0)).2⟩,0)
 else(s,Acc.zero,4)
def j6(was:Nat):Nat×Bool:=(was,true)
def jK(v:Nat)(_:Nat):Nat×Bool:=(v,true)
def eH(old new:Nat)(was:Nat):Nat×Bool:=(new,was==old)
def chgAdd(n:Nat)(was:Nat):Nat×Bool:=((was+n) % 18446744073709551616,true)
def Ar.load(s:Ar)(at_:Int):=s.iw 1 at_ j6
def Ar.store(s:Ar)(at_:Int)(v:Nat):=s.iw 2 at_ (jK v)
def Ar.swap(s:Ar)(at_:Int)(old new:Nat):=s.iw 3 at_ (eH old new)
def Ar.add(s:Ar)(at_:Int)(n:Nat):=s.iw 4 at_ (chgAdd n)
def Did(w w':World)(g:Nat)(fp:List Nat)(d:Ar×Acc×Nat)(e:Ending):Prop:=
 e= .returned (.tuple #[.int .u64 (d.2.1.old:Int),.bool d.2.1.did,(d.2.2:Int)])/\jb w w' g fp d.1
theorem jb.refl{w:World}{g:Nat}{fp:List Nat}{s:Ar}(h:gT w g fp s):jb w w g fp s:=⟨fp,h,Moved.refl _ _⟩
theorem mH(w:World)(g:Nat)(fp:List Nat)(s:Ar)(op:Nat)(at_:Int)(fc:Nat)(caps:Array Value)(D9:Nat->Nat×Bool)(hI:gT w g fp s)(eg:∀args w,(callFunc fc args).run prog w= .ok (.enter fc args) w)(hwd:∀was,Wd was->Wd (D9 was).1)(hch:∀was,Wd was->Calls prog fc (#[.int .u64 (was:Int)]++caps) w fun e w'=>e= .returned (.tuple #[.int .u64 ((D9 was).1:Int),.bool (D9 was).2])/\Quiet w w')(hn:s.L.length<4611686018427387904):
  Calls prog 256 #[g,(op:Int),at_,.func (.func fc) #[] caps] w fun e w'=>Did w w' g fp (s.iw op at_ D9) e:=by
 obtain⟨v1,v2,r,hA,rfl⟩:=hI;by_cases hin:0<=at_/\at_<(s.C.length:Int)
 .obtain⟨i,rfl⟩:=Int.eq_ofNat_of_zero_le hin.1
  have hi:i<s.C.length:=by omega
  have hg:s.C.getD i 0=s.C[i]:=by simp[List.getD,hi]
  have hw:=hA.wd _ (List.getElem_mem hi);have hd:s.iw op (i:Int) D9=(s.acc op i (if(D9 s.C[i]).2 then(D9 s.C[i]).1 else s.C[i]) (D9 s.C[i]).2,⟨op,i,s.C[i],if(D9 s.C[i]).2 then(D9 s.C[i]).1 else s.C[i],(D9 s.C[i]).2⟩,0):=by
   simp only[Ar.iw,if_pos hin,Int.toNat_natCast,hg]
  rw[hd];cases hb:(D9 s.C[i]).2 with
  |true=>
   refine(wN w g v1 v2 r s op i fc caps (D9 s.C[i]).1 (hwd _ hw) hA hi eg ?_ hn).mono ?_
   .have :=hch s.C[i] hw
    rwa[hb]at this
   .rintro e w' ⟨rfl,h⟩
    exact⟨rfl,by simpa using h⟩
  |false=>
   refine(yc w g v1 v2 r s op i fc caps (D9 s.C[i]).1 hA hi eg ?_ hn).mono ?_
   .have :=hch s.C[i] hw
    rwa[hb]at this
   .rintro e w' ⟨rfl,h⟩
    exact⟨rfl,by simpa using h⟩
 .have hd:s.iw op at_ D9=(s,Acc.zero,4):=by simp only[Ar.iw,if_neg hin]
  rw[hd];refine(wJ w g v1 v2 r s op at_ _ hA (by omega)).mono ?_;rintro e w' ⟨rfl,rfl⟩;exact⟨rfl,jb.refl ⟨v1,v2,r,hA,rfl⟩⟩
theorem M6(was:Nat)(w:World):Calls prog 257 #[.int .u64 (was:Int)] w fun e w'=>e= .returned (.tuple #[.int .u64 ((j6 was).1:Int),.bool (j6 was).2])/\Quiet w w':=by
 go_enter func257,ntmps257
 go_wp2;go_ret2
 exact⟨rfl,Quiet.refl w⟩
theorem Jr(was v b:Nat)(w:World)(hc:w.cell? ⟨b,0,none⟩=some (.int .u64 (v:Int))):
  Calls prog 290 #[.int .u64 (was:Int),b] w fun e w'=>e= .returned (.tuple #[.int .u64 ((jK v was).1:Int),.bool (jK v was).2])/\Quiet w w':=by
 go_enter func290,ntmps290
 go_wp2;go_ret2
 exact⟨rfl,Quiet.refl w⟩
theorem Lh(was old new:Nat)(h:Wd was)(h':Wd old):Ending.returned (.tuple #[.int .u64 (new:Int),.bool ((was:Int)==(old:Int))])= .returned (.tuple #[.int .u64 ((eH old new was).1:Int),.bool (eH old new was).2]):=by
 have :((was:Int)==(old:Int))=(was==old):=by rw[Bool.eq_iff_iff];simp;omega
 rw[this];rfl
theorem NM(was old new b c:Nat)(w:World)(hw:Wd was)(ho:Wd old)(hb:w.cell? ⟨b,0,none⟩=some (.int .u64 (new:Int)))(hc:w.cell? ⟨c,0,none⟩=some (.int .u64 (old:Int))):
  Calls prog 291 #[.int .u64 (was:Int),b,c] w fun e w'=>e= .returned (.tuple #[.int .u64 ((eH old new was).1:Int),.bool (eH old new was).2])/\Quiet w w':=by
 have H:=hdq (Lh was old new hw ho);go_enter func291,ntmps291
 go_wp2;go_quiet (fail)
 go_wp2;go_ret2
 refine⟨?_,?_⟩
 .rw[<-H.o];simp
 .exact⟨_,rfl⟩
theorem jb.vo{w w1 w':World}{g:Nat}{fp:List Nat}{s:Ar}(ht:Touch [] w w1)(h:jb w1 w' g fp s):jb w w' g fp s:=by
 obtain⟨fp',hI,hm⟩:=h;exact⟨fp',hI,(ht.mono (by simp)).trans hm.touch (fun k hk=> .inl hk),fun k hk=>(hm.fp k hk).imp id (fun h=>Nat.le_trans ht.size h)⟩
theorem jb.then{w w1:World}{g:Nat}{fp:List Nat}{s:Ar}(h:jb w w1 g fp s){w':World}(ht:Touch [] w1 w'):jb w w' g fp s:=by
 obtain⟨fp',hI,hm⟩:=h;exact⟨fp',hI.touch ht (by simp),hm.touch.trans ht (by simp),hm.fp⟩
section
variable (w:World) (g:Nat) (fp:List Nat) (s:Ar) (at_:Int) (hI:gT w g fp s) (hn:s.L.length<4611686018427387904)
include hI hn
theorem vO:Calls prog 179 #[g,at_] w fun e w'=>
  e= .returned (.tuple #[.int .u64 ((s.load at_).2.1.old:Int),.int .i64 ((s.load at_).2.2:Int)])/\jb w w' g fp (s.load at_).1:=by
 have H:=hdq (mH w g fp s 1 at_ 257 #[] j6 hI (enters_of func257 (by kernel_rfl) rfl) (fun _ h=>h) (fun was _=>M6 was w) hn);clear hI hn;go_enter func179,ntmps179
 go_wp2_with fail
 refine H.o.mono ?_;rintro e w' ⟨rfl,h⟩;have H2:=hdq h;clear h;go_wp2;go_ret2
 exact⟨rfl,H2.o⟩
theorem sS(v:Nat)(hv:Wd v):Calls prog 234 #[g,at_,.int .u64 (v:Int)] w fun e w'=>
  e= .returned (.int .i64 ((s.store at_ v).2.2:Int))/\jb w w' g fp (s.store at_ v).1:=by
 have H:=hdq (mH (w.alloc (.cells #[.int .u64 (v:Int)] 177)) g fp s 2 at_ 290 #[w.heap.size] (jK v) (hI.alloc _)
  (enters_of func290 (by kernel_rfl) rfl) (fun _ _=>hv) (fun was _=>Jr was v _ _ (by simp)) hn)
 have HT:=hdq ((Touch.refl [] w).alloc (.cells #[.int .u64 (v:Int)] 177));clear hI hn;go_enter func234,ntmps234
 go_wp2_with fail
 refine H.o.mono ?_;rintro e w' ⟨rfl,h⟩;have H2:=hdq h;clear h;go_wp2;go_ret
 exact⟨rfl,H2.o.vo HT.o⟩
theorem kP(old new:Nat)(ho:Wd old)(hw:Wd new):Calls prog 238 #[g,at_,.int .u64 (old:Int),.int .u64 (new:Int)] w fun e w'=>
  e= .returned (.tuple #[.int .u64 ((s.swap at_ old new).2.1.old:Int),.bool (s.swap at_ old new).2.1.did,.int .i64 ((s.swap at_ old new).2.2:Int)])/\jb w w' g fp (s.swap at_ old new).1:=by
 have H:=hdq (mH ((w.alloc (.cells #[.int .u64 (old:Int)] 177)).alloc (.cells #[.int .u64 (new:Int)] 177)) g fp s 3 at_ 291 #[.pointer (some ⟨w.heap.size+1,0,none⟩),w.heap.size] (eH old new) ((hI.alloc _).alloc _)
  (enters_of func291 (by kernel_rfl) rfl) (fun _ _=>hw) (fun was Fa=>NM was old new _ _ _ Fa ho (by simp) (by simp)) hn)
 have HT:=hdq (((Touch.refl [] w).alloc (.cells #[.int .u64 (old:Int)] 177)).alloc (.cells #[.int .u64 (new:Int)] 177));clear hI hn;go_enter func238,ntmps238
 go_wp2_with fail
 refine H.o.mono ?_;rintro e w' ⟨rfl,h⟩;have H2:=hdq h;clear h;go_wp2;refine bodyPost_ret (v:= .tuple #[.int .u64 ((s.swap at_ old new).2.1.old:Int),.bool (s.swap at_ old new).2.1.did,.int .i64 ((s.swap at_ old new).2.2:Int)]) (by simp[results,go_sem,Ar.swap]) rfl ⟨rfl,H2.o.vo HT.o⟩
end
section
variable (w:World) (g:Nat) (fp:List Nat) (s:Ar) (hI:gT w g fp s)
include hI
theorem Ob:Calls prog 263 #[g] w fun e w'=>e= .returned (.int .i64 (s.C.length:Int))/\w=w':=by
 obtain⟨v1,v2,r,hA,rfl⟩:=hI;obtain⟨a2,cap,rfl,hc1,hc2⟩:=aK hA.Dh;have h3:=hA.blk.cell 3;have h2:=hA.blk.cell 2;simp at h3 h2
 have hm1:=hA.kD;clear hA;go_enter func263,ntmps263
 go_wp2_with (go_at_call 198;refine(dR _ _ _ h2 hm1).mono ?_;rintro e w' ⟨rfl,rfl⟩)
 go_ret
 exact⟨rfl,rfl⟩
theorem AU:Calls prog 264 #[g] w fun e w'=>e= .returned (.int .u64 (s.L.length:Int))/\w=w':=by
 obtain⟨v1,v2,r,hA,rfl⟩:=hI;have h2:=hA.blk.cell 2;have h0:=hA.blk.cell 0;simp at h2 h0
 have hm1:=hA.kD;clear hA;go_enter func264,ntmps264
 go_wp2_with (go_at_call 198;refine(dR _ _ _ h2 hm1).mono ?_;rintro e w' ⟨rfl,rfl⟩)
 go_ret
 exact⟨rfl,rfl⟩
end
def Ar.fresh(most:Nat):Ar:=⟨[],most,[]⟩
theorem New_ok(most:Nat)(w:World)(h1:1<=most)(h2:most<=65536):Calls prog 103 #[(most:Int)] w fun e w'=>
 e= .returned (.tuple #[w.heap.size,()])/\gT w' w.heap.size [w.heap.size] (Ar.fresh most)/\Touch [] w w':=by
 go_enter func103,ntmps103
 go_wp2;go_ret2
 exact⟨rfl,⟨.slice none 0 0,.slice none 0 0,[],⟨Cg.new _ _ _,World.ownsRow_nil _ _ _ _,World.ownsRow_nil _ _ _ _,Ring.nil,h1,h2,Nat.zero_le _,by simp[Ar.fresh]⟩,rfl⟩,(Touch.refl [] w).alloc _⟩
theorem fB:(prog.info? 177).map (fun i=>(i.zero,i.size,i.bytes))=some (some (.int .u64 0),1,8):=by kernel_rfl
def Ar.au(s:Ar)(n:Int):Ar×Nat×Nat:=
 if n<0 then(s,0,2)else if(s.most:Int)-(s.C.length:Int)<n then(s,0,6)else({s with C:=s.C++List.replicate n.toNat 0},s.C.length,0)
theorem kI(k:Nat):words (List.replicate k 0)=List.replicate k (.int .u64 0):=by simp[words]
theorem vF{w w0 w1:World}{g k:Nat}{v1 v2 v':Value}{r:List Acc}{s:Ar}(hA:xQ w g v1 v2 r s)(hq:Quiet w w0)(hk:s.C.length+k<=s.most)(hown:w1.ownsRow 0 177 1 v' (s.C.length+k) (words s.C++List.replicate k (.int .u64 0)))(hgrow:w0.grownBy w1 v2.ownBlock)(hat:v'.ownBlock=v2.ownBlock\/v'.ownBlock=some w0.heap.size):
  jb w (w1.setCell ⟨g,3,none⟩ v') g (g::(sb v1++sb v2)) {s with C:=s.C++List.replicate k 0}:=by
 obtain⟨nq,rfl⟩:=hq;have hgn:some g≠v2.ownBlock:=fun h=>own_ne hA.Dh hA.blk (by decide) (by simp[sb,<-h]);have B1:=(hA.blk.drewN nq).grown hgrow hgn;have hgo:=own_ne hown B1 (by decide);have h12:=pF hA.log hA.Dh (by decide);have hT:Touch (g::(sb v1++sb v2)) w w1:=((Touch.refl _ w).drewN nq).grown hgrow (fun j hj=> .inl (by simp[sb,hj]));have hL:w1.ownsRow 0 290 5 v1 r.length (aJ r):=dN (own_drewN hA.log nq) (fun j hj=>hgrow.block j (iW hA.log j hj) (fun h=>h12 j hj (by simp[sb,<-h])));refine⟨g::(sb v1++sb v'),⟨v1,v',r,⟨?_,?_,?_,hA.ring,hA.kD,hA.mM,?_,?_⟩,rfl⟩,hT.setCell _ _ (.inl (by simp)),?_⟩
 .have :=B1.set 3 v'
  simpa using this
 .exact dh hL _ _ (own_ne hL B1 (by decide))
 .have :=dh hown ⟨g,3,none⟩ v' hgo
  rw[mR,kI];simpa using this
 .simp;omega
 .intro n hn
  rcases List.mem_append.1 hn with h|h
  .exact hA.wd n h
  .rw[List.eq_of_mem_replicate h];unfold Wd;omega
 .intro j hj
  simp only[List.mem_cons,List.mem_append]at hj|-;rcases hj with h|h|h
  .exact .inl (.inl h)
  .exact .inl (.inr (.inl h))
  .rcases hat with h2|h2
   .exact .inl (.inr (.inr (by simpa[sb,h2]using h)))
   .have :j=w.heap.size:=by simpa[sb,h2]using h
    exact .inr (by omega)
theorem lV(w:World)(g:Nat)(fp:List Nat)(s:Ar)(n:Int)(hI:gT w g fp s):Calls prog 205 #[g,n] w fun e w'=>
  e= .returned (.tuple #[.int .i64 ((s.au n).2.1:Int),.int .i64 ((s.au n).2.2:Int)])/\jb w w' g fp (s.au n).1:=by
 obtain⟨i0,hi,hz0,hz1,hz2⟩:=info_parts fB;have hR:=hdq (fun(w':World) (hq:Quiet w w')=>show jb w w' g fp s from(by obtain⟨k,rfl⟩:=hq;exact⟨fp,hI.drewN k,(Moved.refl _ _).drewN k⟩));obtain⟨v1,v2,r,hA,rfl⟩:=hI;obtain⟨a2,cap,rfl,hc1,hc2⟩:=aK hA.Dh;have h3:=hA.blk.cell 3;have h2:=hA.blk.cell 2;have f3:=hA.blk.frozen 3;simp at h3 h2
 have hm1:=hA.kD;have hm2:=hA.mM;have hle:=hA.len;have hgl:=hA.blk.lt;have HA:=hdq hA;clear hA;by_cases hn:n<0
 .have hv:s.au n=(s,0,2):=by simp[Ar.au,hn]
  rw[hv];go_enter func205,ntmps205
  go_wp2_with (go_at_call 198;refine(dR _ _ _ h2 hm1).mono ?_;rintro e w' ⟨rfl,rfl⟩)
  go_ret2
  exact⟨rfl,hR.o _ (Quiet.refl w)⟩
 .by_cases hf:(s.most:Int)-(s.C.length:Int)<n
  .have hv:s.au n=(s,0,6):=by simp[Ar.au,hn,hf]
   rw[hv];go_enter func205,ntmps205
   go_wp2_with (go_at_call 198;refine(dR _ _ _ h2 hm1).mono ?_;rintro e w' ⟨rfl,rfl⟩)
   go_quiet (fail)
   go_wp2;go_ret2
   exact⟨rfl,hR.o _ ⟨_,rfl⟩⟩
  .obtain⟨k,rfl⟩:=Int.eq_ofNat_of_zero_le (Int.not_lt.1 hn)
   have hv:s.au (k:Int)=({s with C:=s.C++List.replicate k 0},s.C.length,0):=by simp[Ar.au,hn,hf]
   rw[hv];have hk:s.C.length+k<=s.most:=by omega
   have hcel:=HA.o.Dh;have HC:=hdq hcel;have hgn:some g≠(Value.slice a2 s.C.length cap).ownBlock:=fun h=>own_ne hcel HA.o.blk (by decide) (by simp[sb,<-h]);have HG:=hdq hgn;clear hv hcel hgn;go_enter func205,ntmps205
   go_wp2_with (go_at_call 198;refine(dR _ _ _ h2 hm1).mono ?_;rintro e w' ⟨rfl,rfl⟩)
   go_quiet (fail)
   go_wp2_with (at_builtin;refine iG _ rfl (.tmp 31) (.tmp 32) 39 3 rfl 177 i0 (.int .u64 0) .i64 .i64 underlying39 underlying3 hi hz0 hz1 hz2 rfl rfl _ _ _ rfl (own_drewN HC.o _) k rfl (by omega) ?_;intro aa cap' w1 hown hgrow hat;have B1:=(HA.o.blk.drewN _).grown hgrow HG.o;have k3:=B1.cell 3;have e3:=B1.frozen 3;simp at k3;have H1:=hdq hown;have H2:=hdq hgrow;have H3:=hdq hat;clear hown hgrow hat B1)
   go_ret2
   exact⟨rfl,vF HA.o ⟨_,rfl⟩ hk H1.o H2.o H3.o⟩
theorem wd0:Wd 0:=by unfold Wd;omega
theorem wd1:Wd 1:=by unfold Wd;omega
theorem vZ(s:Ar)(op:Nat)(at_:Int)(D9:Nat->Nat×Bool):(s.iw op at_ D9).2.2=0\/(s.iw op at_ D9).2.2=4/\(s.iw op at_ D9).2.1=Acc.zero:=by
 unfold Ar.iw;split
 .exact .inl rfl
 .exact .inr ⟨rfl,rfl⟩
def Ar.wH(s:Ar)(at_:Int):Nat:=if(s.swap at_ 1 0).2.2=0 then(if(s.swap at_ 1 0).2.1.did then 0 else 30)else(s.swap at_ 1 0).2.2
section
variable (w:World) (g:Nat) (fp:List Nat) (s:Ar) (hI:gT w g fp s)
include hI
theorem oJ:Calls prog 215 #[g] w fun e w'=>
  e= .returned (.tuple #[.int .i64 ((s.au 1).2.1:Int),.int .i64 ((s.au 1).2.2:Int)])/\jb w w' g fp (s.au 1).1:=by
 have H:=hdq (lV w g fp s 1 hI);clear hI;go_enter func215,ntmps215
 go_wp2_with fail
 refine H.o.mono ?_;rintro e w' ⟨rfl,h⟩;have H2:=hdq h;clear h;go_wp2;go_ret2
 exact⟨rfl,H2.o⟩
variable (at_:Int) (hn:s.L.length<4611686018427387904)
include hn
theorem zC:Calls prog 183 #[g,at_] w fun e w'=>
  e= .returned (.tuple #[.bool (s.swap at_ 0 1).2.1.did,.int .i64 ((s.swap at_ 0 1).2.2:Int)])/\jb w w' g fp (s.swap at_ 0 1).1:=by
 have H:=hdq (kP w g fp s at_ hI hn 0 1 wd0 wd1);clear hI hn;go_enter func183,ntmps183
 go_wp2_with fail
 refine H.o.mono ?_;rintro e w' ⟨rfl,h⟩;have H2:=hdq h;clear h;go_wp2;go_ret2
 exact⟨rfl,H2.o⟩
theorem uW:Calls prog 292 #[g,at_] w fun e w'=>
  e= .returned (.int .i64 (s.wH at_:Int))/\jb w w' g fp (s.swap at_ 1 0).1:=by
 have H:=hdq (kP w g fp s at_ hI hn 1 0 wd1 wd0);clear hI hn;have HE:Hid ((s.wH at_:Int)=(if(s.swap at_ 1 0).2.2=0 then(if(s.swap at_ 1 0).2.1.did then 0 else 30)else(s.swap at_ 1 0).2.2:Nat)):=rfl;rcases vZ s 3 at_ (eH 1 0)with he|⟨he,hz⟩
 .change (s.swap at_ 1 0).2.2=0 at he
  rw[he,if_pos rfl]at HE;cases hd:(s.swap at_ 1 0).2.1.did with
  |true=>
   rw[hd,if_pos rfl]at HE;go_enter func292,ntmps292
   go_wp2_with fail
   refine H.o.mono ?_;rintro e w' ⟨rfl,h⟩;have H2:=hdq h;clear h;go_wp2;go_ret
   exact⟨by rw[HE.o];rfl,H2.o⟩
  |false=>
   rw[hd,if_neg (by simp)]at HE;go_enter func292,ntmps292
   go_wp2_with fail
   refine H.o.mono ?_;rintro e w' ⟨rfl,h⟩;have H2:=hdq h;clear h;go_wp2;go_ret
   exact⟨by rw[HE.o];rfl,H2.o⟩
 .change (s.swap at_ 1 0).2.2=4 at he
  rw[he,if_neg (by simp)]at HE;go_enter func292,ntmps292
  go_wp2_with fail
  refine H.o.mono ?_;rintro e w' ⟨rfl,h⟩;have H2:=hdq h;clear h;go_wp2;go_ret
  exact⟨by rw[HE.o];rfl,H2.o⟩
end
def arena(g:Nat)(s:Ar):ai where
 holds w fp:=gT w g fp s
 keep:=fun h he=>h.keep he
 lt:=fun h=>h.lt
section
variable {T:List Nat} {w0 w w':World} {l:List ai} {g:Nat} {s s':Ar}
theorem BD.nP(h:BD T w0 w l)(i:Nat)(hi:l[i]? =some (arena g s)):(∀n∈s.C,Wd n)/\1<=s.most/\s.most<=65536/\s.C.length<=s.most:=by
 obtain⟨f,⟨v1,v2,r,hA,_⟩,_⟩:=h.get i hi;exact⟨hA.wd,hA.kD,hA.mM,hA.len⟩
theorem BD.ar(h:BD T w0 w l)(i:Nat)(hi:l[i]? =some (arena g s)){f:Nat}{args:Array Value}{R:Ending->Prop}(hc:∀fp,gT w g fp s->Calls prog f args w fun e w'=>R e/\jb w w' g fp s'):
  Calls prog f args w fun e w'=>R e/\BD T w0 w' (l.set i (arena g s')):=by
 obtain⟨fp,hI,_,hs⟩:=h.step i hi;refine(hc fp hI).mono ?_;rintro e w' ⟨he,fp',hI',hM⟩;exact⟨he,hs w' (arena g s') fp' hI' ⟨hM.touch,hM.fp⟩⟩
theorem BD.arq(h:BD T w0 w l)(i:Nat)(hi:l[i]? =some (arena g s)){f:Nat}{args:Array Value}{R:Ending->World->Prop}(hc:∀fp,gT w g fp s->Calls prog f args w R):Calls prog f args w R:=by
 obtain⟨fp,hI,_,_⟩:=h.step i hi;exact hc fp hI
theorem BD.arNew(h:BD T w0 w l)(most:Nat)(h1:1<=most)(h2:most<=65536):Calls prog 103 #[(most:Int)] w
  fun e w'=>e= .returned (.tuple #[w.heap.size,()])/\BD T w0 w' (l++[arena w.heap.size (Ar.fresh most)]):=by
 refine(New_ok most w h1 h2).mono ?_;rintro e w' ⟨rfl,hI,ht⟩;exact⟨rfl,h.new (t':=arena w.heap.size (Ar.fresh most)) hI ⟨ht,fun k hk=> .inr (by simp at hk;omega)⟩⟩
end
section
attribute [local go_sem] Oper.semAt_some
theorem MF.touch{w w':World}{p:Value}{S:List Nat}(h:MF w p)(ht:Touch S w w')(hS:∀g,p= .pointer (some ⟨g,0,none⟩)->g∉S):MF w' p:=by
 rcases h with h|⟨g,h,hc⟩
 .exact .inl h
 .refine .inr ⟨g,h,?_⟩
  rw[World.cell?_of_block (a:=⟨g,2,none⟩) (ht.block g (World.block_lt_of_cell? w ⟨g,2,none⟩ hc) (hS g h))];exact hc
end
def bE(v er:Nat):Nat×Nat:=if er≠0 then(0,er)else if 2<v then(0,120)else(v,0)
section
variable (w:World) (p:Option Addr) (at_:Int) (v er:Nat) (d:Bool) (R:World->Prop)
theorem OE(tO:Nat)(hto:tO<=2)(h:Calls prog 238 #[.pointer p,at_,.int .u64 0,.int .u64 (tO:Int)] (w.alloc (.cells #[.pointer p] 316)) fun e w'=>e= .returned (.tuple #[.int .u64 (v:Int),d,(er:Int)])/\R w'):
  Calls prog 231 #[.agg #[.pointer p],at_,(tO:Int)] w fun e w'=>e= .returned (.tuple #[.int .u64 (v:Int),(er:Int)])/\R w':=by
 have H:=hdq h;have hc:IntKind.u64.wrap (tO:Int)=(tO:Int):=by rw[IntKind.wrap_u64];omega
 clear h;go_enter func231,ntmps231
 go_wp2_with fail
 refine H.o.mono ?_;rintro e w' ⟨rfl,h⟩;have H2:=hdq h;clear h;go_wp2;go_ret2
 exact⟨rfl,H2.o⟩
theorem loadM(h:Calls prog 179 #[.pointer p,at_] ((w.alloc (.cells #[.pointer p] 316)).alloc (.cells #[] 313)) fun e w'=>e= .returned (.tuple #[.int .u64 (v:Int),(er:Int)])/\R w'):
  Calls prog 214 #[.agg #[.pointer p],at_,.agg #[]] w fun e w'=>e= .returned (.tuple #[.int .u64 (v:Int),(er:Int)])/\R w':=by
 have H:=hdq h;clear h;go_enter func214,ntmps214
 go_wp2_with fail
 refine H.o.mono ?_;rintro e w' ⟨rfl,h⟩;have H2:=hdq h;clear h;go_wp2;go_ret2
 exact⟨rfl,H2.o⟩
theorem Ir(tO:Nat)(hv:Wd v)(h:Calls prog 231 #[.agg #[.pointer p],at_,(tO:Int)] w fun e w'=>e= .returned (.tuple #[.int .u64 (v:Int),(er:Int)])/\R w'):
  Calls prog 230 #[.func (.func 231) #[.agg #[.pointer p]] #[],at_,(tO:Int)] w fun e w'=>e= .returned (.tuple #[.int .i64 ((bE v er).1:Int),.int .i64 ((bE v er).2:Int)])/\R w':=by
 have H:=hdq h;have eg:=enters_of func231 (by kernel_rfl) rfl;clear h;go_enter func230,ntmps230
 go_wp2;refine bT 0 rfl ?_;by_cases he:er=0
 .subst he
  by_cases h2:2<v
  .have HF:Hid (bE v 0=(0,120)):=by simp[Hid,bE,h2]
   have h2':(2:Int)<(v:Int):=by omega
   go_wp2_with fail
   refine H.o.mono ?_;rintro e w' ⟨rfl,h⟩;have H2:=hdq h;clear h;go_wp2;go_step3
   refine⟨rfl,?_⟩;go_wp2;refine dO ?_;go_ret2
   exact⟨by rw[HF.o];rfl,H2.o⟩
  .have HF:Hid (bE v 0=(v,0)):=by simp[Hid,bE,h2]
   have h2':¬(2:Int)<(v:Int):=by omega
   have hc:IntKind.i64.wrap (v:Int)=(v:Int):=IntWalk.i64_in _ (by omega);go_wp2_with fail
   refine H.o.mono ?_;rintro e w' ⟨rfl,h⟩;have H2:=hdq h;clear h;go_wp2;go_step3
   go_wp2;refine fO ?_;go_ret2
   exact⟨by rw[HF.o];rfl,H2.o⟩
 .have HF:Hid (bE v er=(0,er)):=by simp[Hid,bE,he]
  have he':((er:Int) != 0)=true:=by simp;omega
  go_wp2_with fail
  refine H.o.mono ?_;rintro e w' ⟨rfl,h⟩;have H2:=hdq h;clear h;go_wp2;go_step3
  refine⟨rfl,?_⟩;go_wp2;refine dO ?_;go_ret2
  exact⟨by rw[HF.o];rfl,H2.o⟩
theorem step77(hv:Wd v)(h:Calls prog 214 #[.agg #[.pointer p],at_,.agg #[]] (w.alloc (.cells #[] 313)) fun e w'=>e= .returned (.tuple #[.int .u64 (v:Int),(er:Int)])/\R w'):
  Calls prog 213 #[.func (.func 214) #[.agg #[.pointer p]] #[],at_,.agg #[]] w fun e w'=>e= .returned (.tuple #[.int .i64 ((bE v er).1:Int),.int .i64 ((bE v er).2:Int)])/\R w':=by
 have H:=hdq h;have eg:=enters_of func214 (by kernel_rfl) rfl;clear h;go_enter func213,ntmps213
 go_wp2;refine bT 0 rfl ?_;by_cases he:er=0
 .subst he
  by_cases h2:2<v
  .have HF:Hid (bE v 0=(0,120)):=by simp[Hid,bE,h2]
   have h2':(2:Int)<(v:Int):=by omega
   go_wp2_with fail
   refine H.o.mono ?_;rintro e w' ⟨rfl,h⟩;have H2:=hdq h;clear h;go_wp2;go_step3
   refine⟨rfl,?_⟩;go_wp2;refine dO ?_;go_ret2
   exact⟨by rw[HF.o];rfl,H2.o⟩
  .have HF:Hid (bE v 0=(v,0)):=by simp[Hid,bE,h2]
   have h2':¬(2:Int)<(v:Int):=by omega
   have hc:IntKind.i64.wrap (v:Int)=(v:Int):=IntWalk.i64_in _ (by omega);go_wp2_with fail
   refine H.o.mono ?_;rintro e w' ⟨rfl,h⟩;have H2:=hdq h;clear h;go_wp2;go_step3
   go_wp2;refine fO ?_;go_ret2
   exact⟨by rw[HF.o];rfl,H2.o⟩
 .have HF:Hid (bE v er=(0,er)):=by simp[Hid,bE,he]
  have he':((er:Int) != 0)=true:=by simp;omega
  go_wp2_with fail
  refine H.o.mono ?_;rintro e w' ⟨rfl,h⟩;have H2:=hdq h;clear h;go_wp2;go_step3
  refine⟨rfl,?_⟩;go_wp2;refine dO ?_;go_ret2
  exact⟨by rw[HF.o];rfl,H2.o⟩
theorem Ig(hv:Wd v)(h:Calls prog 238 #[.pointer p,at_,.int .u64 0,.int .u64 ((1:Nat):Int)] (w.alloc (.cells #[.pointer p] 316)) fun e w'=>e= .returned (.tuple #[.int .u64 (v:Int),d,(er:Int)])/\R w'):
  Calls prog 138 #[.pointer p,at_] w fun e w'=>e= .returned (.tuple #[.int .i64 ((bE v er).1:Int),.int .i64 ((bE v er).2:Int)])/\R w':=by
 have H:=hdq (Ir w p at_ v er R 1 hv (OE w p at_ v er d R 1 (by omega) h));clear h;go_enter func138,ntmps138
 go_wp2_with fail
 refine H.o.mono ?_;rintro e w' ⟨rfl,h⟩;have H2:=hdq h;clear h;go_wp2;go_ret2
 exact⟨rfl,H2.o⟩
theorem Nb(hv:Wd v)(h:Calls prog 238 #[.pointer p,at_,.int .u64 0,.int .u64 ((2:Nat):Int)] (w.alloc (.cells #[.pointer p] 316)) fun e w'=>e= .returned (.tuple #[.int .u64 (v:Int),d,(er:Int)])/\R w'):
  Calls prog 236 #[.pointer p,at_] w fun e w'=>e= .returned (.tuple #[.int .i64 ((bE v er).1:Int),.int .i64 ((bE v er).2:Int)])/\R w':=by
 have H:=hdq (Ir w p at_ v er R 2 hv (OE w p at_ v er d R 2 (by omega) h));clear h;go_enter func236,ntmps236
 go_wp2_with fail
 refine H.o.mono ?_;rintro e w' ⟨rfl,h⟩;have H2:=hdq h;clear h;go_wp2;go_ret2
 exact⟨rfl,H2.o⟩
theorem Nk(hv:Wd v)(h:Calls prog 179 #[.pointer p,at_] (((w.alloc (.cells #[] 313)).alloc (.cells #[.pointer p] 316)).alloc (.cells #[] 313)) fun e w'=>e= .returned (.tuple #[.int .u64 (v:Int),(er:Int)])/\R w'):
  Calls prog 121 #[.pointer p,at_] w fun e w'=>e= .returned (.tuple #[.int .i64 ((bE v er).1:Int),.int .i64 ((bE v er).2:Int)])/\R w':=by
 have H:=hdq (step77 w p at_ v er R hv (loadM _ p at_ v er R h));clear h;go_enter func121,ntmps121
 go_wp2_with fail
 refine H.o.mono ?_;rintro e w' ⟨rfl,h⟩;have H2:=hdq h;clear h;go_wp2;go_ret2
 exact⟨rfl,H2.o⟩
theorem wR(h:Calls prog 234 #[.pointer p,at_,.int .u64 ((0:Nat):Int)] w fun e w'=>e= .returned (.int .i64 (er:Int))/\R w'):
  Calls prog 143 #[.pointer p,at_] w fun e w'=>e= .returned (.int .i64 (er:Int))/\R w':=by
 have H:=hdq h;clear h;go_enter func143,ntmps143
 go_wp2_with fail
 refine H.o.mono ?_;rintro e w' ⟨rfl,h⟩;have H2:=hdq h;clear h;go_wp2;go_ret
 exact⟨rfl,H2.o⟩
theorem xB(pl:Nat)(h:Calls prog 205 #[.pointer p,(1:Int)] w fun e w'=>e= .returned (.tuple #[(pl:Int),(er:Int)])/\R w')(hp:er≠0->pl=0):
  Calls prog 113 #[.pointer p] w fun e w'=>e= .returned (.tuple #[(pl:Int),(er:Int)])/\R w':=by
 have H:=hdq h;clear h;go_enter func113,ntmps113
 go_wp2;refine bT 0 rfl ?_;by_cases he:er=0
 .subst he
  go_wp2_with fail
  refine H.o.mono ?_;rintro e w' ⟨rfl,h⟩;have H2:=hdq h;clear h;go_wp2;refine fO ?_;go_ret2
  exact⟨rfl,H2.o⟩
 .have he':((er:Int) != 0)=true:=by simp;omega
  obtain rfl:=hp he;go_wp2_with fail
  refine H.o.mono ?_;rintro e w' ⟨rfl,h⟩;have H2:=hdq h;clear h;go_wp2;go_step3
  refine⟨rfl,?_⟩;go_wp2;refine dO ?_;go_ret2
  exact⟨rfl,H2.o⟩
end
theorem tH(s:Ar)(op:Nat)(at_:Int)(D9:Nat->Nat×Bool)(h:∀n∈s.C,Wd n):Wd (s.iw op at_ D9).2.1.old:=by
 have h0:Wd 0:=by unfold Wd;omega
 simp only[Ar.iw];split
 .simp only[List.getD]
  cases hc:s.C[at_.toNat]? with
  |none=>exact h0
  |some x=>exact h x (List.mem_of_getElem? hc)
 .exact h0
section
variable {T:List Nat} {w0 w:World} {l:List ai} {g:Nat} {s:Ar} (h:BD T w0 w l) (i:Nat) (hi:l[i]? =some (arena g s)) (at_:Int) (s':Ar) (v er:Nat)
include h hi
theorem BD.OH(h1:s.au 1=(s',v,er)):Calls prog 113 #[g] w fun e w'=>e= .returned (.tuple #[(v:Int),(er:Int)])/\BD T w0 w' (l.set i (arena g s')):=by
 have hh:=h.ar i hi (s':=(s.au 1).1) (fun fp hI=>lV w g fp s 1 hI);rw[h1]at hh;refine xB w _ er _ v hh (fun he=>?_);simp only[Ar.au]at h1;repeat' split at h1
 all_goals simp only[Prod.mk.injEq]at h1
 all_goals omega
variable (hn:s.L.length<4611686018427387904)
include hn
theorem BD.Mj(h1:(s.swap at_ 0 1).1=s')(h2:bE (s.swap at_ 0 1).2.1.old (s.swap at_ 0 1).2.2=(v,er)):Calls prog 138 #[g,at_] w fun e w'=>e= .returned (.tuple #[(v:Int),(er:Int)])/\BD T w0 w' (l.set i (arena g s')):=by
 have hh:=Ig w (some ⟨g,0,none⟩) at_ _ _ _ _ (tH s 3 at_ (eH 0 1) (h.nP i hi).1) ((h.dL _).ar i hi (fun fp hI=>kP _ g fp s at_ hI hn 0 1 wd0 wd1));change Calls _ _ _ _ (fun e w'=>e= .returned (.tuple #[.int .i64 ((bE (s.swap at_ 0 1).2.1.old (s.swap at_ 0 1).2.2).1:Int),.int .i64 ((bE (s.swap at_ 0 1).2.1.old (s.swap at_ 0 1).2.2).2:Int)])/\_)at hh
 rwa[h2,h1]at hh
theorem BD.flTake(h1:(s.swap at_ 0 2).1=s')(h2:bE (s.swap at_ 0 2).2.1.old (s.swap at_ 0 2).2.2=(v,er)):Calls prog 236 #[g,at_] w fun e w'=>e= .returned (.tuple #[(v:Int),(er:Int)])/\BD T w0 w' (l.set i (arena g s')):=by
 have hh:=Nb w (some ⟨g,0,none⟩) at_ _ _ _ _ (tH s 3 at_ (eH 0 2) (h.nP i hi).1) ((h.dL _).ar i hi (fun fp hI=>kP _ g fp s at_ hI hn 0 2 wd0 (by unfold Wd;omega)));change Calls _ _ _ _ (fun e w'=>e= .returned (.tuple #[.int .i64 ((bE (s.swap at_ 0 2).2.1.old (s.swap at_ 0 2).2.2).1:Int),.int .i64 ((bE (s.swap at_ 0 2).2.1.old (s.swap at_ 0 2).2.2).2:Int)])/\_)at hh
 rwa[h2,h1]at hh
theorem BD.Ih(h1:(s.load at_).1=s')(h2:bE (s.load at_).2.1.old (s.load at_).2.2=(v,er)):Calls prog 121 #[g,at_] w fun e w'=>e= .returned (.tuple #[(v:Int),(er:Int)])/\BD T w0 w' (l.set i (arena g s')):=by
 have hh:=Nk w (some ⟨g,0,none⟩) at_ _ _ _ (tH s 1 at_ j6 (h.nP i hi).1) ((((h.dL _).dL _).dL _).ar i hi (fun fp hI=>vO _ g fp s at_ hI hn));change Calls _ _ _ _ (fun e w'=>e= .returned (.tuple #[.int .i64 ((bE (s.load at_).2.1.old (s.load at_).2.2).1:Int),.int .i64 ((bE (s.load at_).2.1.old (s.load at_).2.2).2:Int)])/\_)at hh
 rwa[h2,h1]at hh
theorem BD.zP(h1:(s.store at_ 0).1=s')(h2:(s.store at_ 0).2.2=er):Calls prog 143 #[g,at_] w fun e w'=>e= .returned (.int .i64 (er:Int))/\BD T w0 w' (l.set i (arena g s')):=by
 have hh:=wR w (some ⟨g,0,none⟩) at_ _ _ (h.ar i hi (fun fp hI=>sS _ g fp s at_ hI hn 0 wd0));rwa[h2,h1]at hh
end
end Go.Proofs.YtegejdlglonflaaGreatDoor
