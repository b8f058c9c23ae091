/-
  Texts of WorldCopies, laid together by program.
-/
import Derived.Test.YtddnnapoaonmjaaGreatDoorWZ3
import Derived.Test.YtddnnapoaonmjaaGreatDoorWZ4
import Derived.MapKept
import Derived.Deep.Cut
namespace Go.Proofs.YtddnnapoaonmjaaGreatDoor
open Go.RowKit Go.Shelf Go.Proofs.Tryz
set_option maxRecDepth 100000
set_option maxHeartbeats 8000000
set_option linter.unusedVariables false
set_option linter.unusedSimpArgs false
section
open Go.RowKit
section
variable {P:Program} {t e:TypeId} {i:TypeInfo} (ht:P.underlying t=some (.slice e)) (hi:P.info? e=some i)
include ht hi
theorem kZ(a:Option Addr)(n cap lo:Nat)(hlo:lo<=n)(hn:n<=cap):∃sa:Option Addr,(n=lo\/sa=a.map (·.add (lo*i.size)))/\∀W,(Instr.slice t (.slice a n cap) (some (.int .i64 (lo:Int))) none none).run P W= .ok (.slice sa (n-lo) (cap-lo)) W:=by
 refine⟨if cap=lo then a else a.map (·.add (lo*i.size)),?_,fun W=>?_⟩
 .by_cases hc:cap=lo
  .exact .inl (by omega)
  .exact .inr (by rw[if_neg hc])
 .have h1:(0:Int)<=(lo:Int)/\(lo:Int)<=(n:Int):=by omega
  simp[Instr.slice,run_underlying ht,Instr.sliceBounds,Instr.sliceBound,asIntOf,h1,sizeOf,typeInfo,hi]
  intro h;omega
theorem UH(a:Option Addr)(n cap up:Nat)(hup:up<=cap)(W:World):(Instr.slice t (.slice a n cap) none (some (.int .i64 (up:Int))) none).run P W= .ok (.slice a up cap) W:=by
 have h1:(0:Int)<=(up:Int)/\(up:Int)<=(cap:Int):=by omega
 have h2:(if cap=0 then a else a.map (·.add (0*i.size)))=a:=by
  split
  .rfl
  .cases a with
   |none=>rfl
   |some a=>simp[Addr.add]
 simp only[Nat.zero_mul]at h2;simp[Instr.slice,run_underlying ht,Instr.sliceBounds,Instr.sliceBound,asIntOf,h1,sizeOf,typeInfo,hi]
 rw[if_pos hup,h2]
theorem qV(a:Option Addr)(n cap up:Nat)(hup:up<=cap)(W:World):(Instr.slice t (.slice a n cap) none (some (.int .i64 (up:Int))) (some (.int .i64 (up:Int)))).run P W= .ok (.slice a up up) W:=by
 have h1:(0:Int)<=(up:Int)/\(up:Int)<=(cap:Int):=by omega
 have h3:(0:Int)<=(up:Int)/\(up:Int)<=(up:Int):=by omega
 have h2:(if up=0 then a else a.map (·.add (0*i.size)))=a:=by
  split
  .rfl
  .cases a with
   |none=>rfl
   |some a=>simp[Addr.add]
 simp only[Nat.zero_mul]at h2;simp[Instr.slice,run_underlying ht,Instr.sliceBounds,Instr.sliceBound,asIntOf,h1,h3,sizeOf,typeInfo,hi]
 rw[if_pos hup,h2]
end
theorem vR{w:World}{e size g n cap lo:Nat}{xs:List Value}(h:dZ w e size (.slice (some ⟨g,0,none⟩) n cap) n xs){sa:Option Addr}{k:Nat}(hk:lo*k=lo*size)(hs:n=lo\/sa=(some (⟨g,0,none⟩:Addr)).map (·.add (lo*k))):
  n-lo=0\/∃a,sa=some a/\∀j u,(xs.drop (lo*size))[j]? =some u->w.cell? (a.add j)=some u:=by
 rcases hs with h0|rfl
 .exact .inl (by omega)
 .refine .inr ⟨_,rfl,fun j u hu=>?_⟩
  show w.cell? (((⟨g,0,none⟩:Addr).add (lo*k)).add j)=some u
  rw[hk,Addr.add_lit,Addr.add_lit,Nat.zero_add];rw[List.getElem?_drop]at hu;obtain⟨hj,rfl⟩:=List.getElem?_eq_some_iff.1 hu;exact eT h _ hj
end
def fZ(b:Nat)(o:Obj):ai where
 holds w fp:=fp=[b]/\w.heap[b]? =some o
 keep:=fun⟨h1,h2⟩ he=>⟨h1,(he b (by simp[h1])).trans h2⟩
 lt:=fun⟨h1,h2⟩ k hk=>by subst h1;simp at hk;subst hk;exact(Array.getElem?_eq_some_iff.1 h2).1
def marks(D:Nat)(o:Obj):List ai:=[mark D,fZ (D+1) o]
def Y0(D:Nat):List ai:=[mark D,some1 (D+1)]
section
variable {T:List Nat} {w0 w w':World} {l:List ai} {D:Nat}
theorem BD.aF{m:List ai}(h:BD T w0 w (l++m)):BD T w0 w l:=by
 obtain⟨hb,F,h1,h2⟩:=h;exact⟨hb,F,fun i t hi=>h1 i t (by rw[List.getElem?_append_left (List.getElem?_eq_some_iff.1 hi).1];exact hi),fun i j hi hj=>h2 i j (by simp;omega) (by simp;omega)⟩
theorem BD.Y3(h:BD T w0 w (l++Y0 D)):∃o,BD T w0 w (l++marks D o):=by
 have hi:(l++Y0 D)[l.length+1]? =some (some1 (D+1)):=by simp[Y0]
 obtain⟨f,⟨hf,hb⟩,_,hs⟩:=h.step (l.length+1) hi;subst hf;refine⟨w.heap[D+1],?_⟩;have :=hs w (fZ (D+1) w.heap[D+1]) [D+1] ⟨rfl,Array.getElem?_eq_getElem hb⟩ (AA.refl _ _);simpa[Y0,marks,List.set_append]using this
theorem BD.Y1{o:Obj}(h:BD T w0 w (l++marks D o)):BD T w0 w (l++Y0 D):=by
 have hi:(l++marks D o)[l.length+1]? =some (fZ (D+1) o):=by simp[marks]
 obtain⟨f,⟨hf,hb⟩,_,hs⟩:=h.step (l.length+1) hi;subst hf;have :=hs w (some1 (D+1)) [D+1] ⟨rfl,(Array.getElem?_eq_some_iff.1 hb).1⟩ (AA.refl _ _);simpa[Y0,marks,List.set_append]using this
theorem BD.Zh{o o':Obj}{m:List ai}(h:BD T w0 w (l++marks D o++m)):BD T w0 (w.putObj (D+1) o') (l++marks D o'++m):=by
 have hi:(l++marks D o++m)[l.length+1]? =some (fZ (D+1) o):=by simp[marks]
 obtain⟨f,⟨hf,hb⟩,_,hs⟩:=h.step (l.length+1) hi;subst hf;have :=hs (w.putObj (D+1) o') (fZ (D+1) o') [D+1] ⟨rfl,World.putObj_heap_same (Array.getElem?_eq_some_iff.1 hb).1⟩ ⟨(Touch.refl _ w).putObj (.inr (by simp)) o',fun k hk=> .inl hk⟩;simpa[Y0,marks,List.set_append]using this
theorem BD.Zl{o':Obj}(h:BD T w0 w (l++Y0 D)):BD T w0 (w.putObj (D+1) o') (l++Y0 D):=by
 obtain⟨o,ho⟩:=h.Y3;have :=BD.Zh (m:=[]) (o':=o') (by simpa using ho);simp only[List.append_nil]at this;exact this.Y1
theorem BD.Ze{o:Obj}{m:List ai}(h:BD T w0 w (l++marks D o++m)):w.heap[D]? =some (.deferred (some []))/\w.heap[D+1]? =some o:=by
 have h1:(l++marks D o++m)[l.length]? =some (Proofs.YtddnnapoaonmjaaGreatDoor.mark D):=by simp[marks]
 have h2:(l++marks D o++m)[l.length+1]? =some (fZ (D+1) o):=by simp[marks]
 obtain⟨_,⟨_,h3⟩,_⟩:=h.get _ h2;exact⟨h.mark _ h1,h3⟩
theorem BD.kept{l':List ai}{o:Obj}{m m':List ai}(h:BD T w0 w (l++marks D o++m))(h':BD T w0 w' (l'++marks D o++m')):Kept D w w':=by
 obtain⟨a,b⟩:=h.Ze;obtain⟨c,d⟩:=h'.Ze;exact⟨c.trans a.symm,d.trans b.symm⟩
end
def ZN(T:List Nat)(w0:World)(D:Nat)(o:Obj)(l':List ai)(X:Code->List ai->Prop):Exit->Act->World->Prop
 | .normal,_,W=>∃m,BD T w0 W (l'++marks D o++m)
 | .ret,_,W=>∃lx m,X .ret lx/\BD T w0 W (lx++marks D o++m)
 | .exit id,_,W=>∃lx m,X (.exit id) lx/\BD T w0 W (lx++marks D o++m)
 | .goto t,_,W=>∃lx m,X (.goto t) lx/\BD T w0 W (lx++marks D o++m)
 | .panic _,_,_=>False
 | .outgrown,_,_=>False
theorem Zg{β:Type}{P:Program}{n:Nat}{g:Operand}{ps:Array Tmp}{assign body:Code}{Q:Exit->Act->World->Prop}{a:Act}{w w0:World}{T:List Nat}{gf:Nat}{lb:Array Value}(hg:a.eval g= .func (.func gf) #[] lb)(eg:∀args w,(callFunc gf args).run P w= .ok (.enter gf args) w)(R:β->List ai)(X:Code->List ai->Prop)(Fin:β->Prop)(arg:β->Array Value->β->Prop)(hps:∀b xs b',arg b xs b'->xs.size=ps.size)(b0:β)(h0:BD T w0 w (R b0))(Y7:∀b xs b' W o0,arg b xs b'->BD T w0 W (R b++marks w.heap.size o0)->
   assign.wpIn (Fence.wide.inRound (w.heap.size+1)) (n-1-1) P (Exit.then (fun a1 W1=>∃m,BD T w0 W1 (R b++marks w.heap.size o0++m)/\
    ∀W2 o,BD T w0 W2 (R b++marks w.heap.size o++m)->body.wpIn (Fence.wide.inRound (w.heap.size+1)) (n-1-1) P (ZN T w0 w.heap.size o (R b') X) a1 W2) (fun _ _ _=>False))
    {tmps:=(ps.zip xs).foldl (fun t (p,v)=>t.setIfInBounds p v) a.tmps,defers:=[]} W)(hiter:∀(J':β->World->Prop) (Zu:World->Prop),(∀b W,J' b W->BD T w0 W (R b++Y0 w.heap.size))->
   (∀b W b' W',J' b W->BD T w0 W' (R b'++Y0 w.heap.size)->Kept w.heap.size W W'->J' b' W')->
   (∀b xs b' W,arg b xs b'->J' b W->YieldAt Fence.wide (n-1-1) P (w.heap.size+1) xs W (Told (J' b') Zu))->
   ∀W,J' b0 W->CallsIn Fence.wide (n-1) P gf (#[.func (.yield (w.heap.size+1)) #[] #[]]++lb) W (Zj Fin J' Zu))(hdone:∀b W,Fin b->BD T w0 W (R b++Y0 w.heap.size)->Q .normal {a with defers:={target:= .collected w.heap.size,args:=#[]}::a.defers} W)(hstop:∀c W lx,X c lx->BD T w0 W (lx++Y0 w.heap.size)->c.wpIn Fence.wide n P Q {a with defers:={target:= .collected w.heap.size,args:=#[]}::a.defers} W):
  (Code.rangeFunc g ps assign body).wpIn Fence.wide n P Q a w:=by
 refine ZB hg eg (fun b W=>BD T w0 W (R b++Y0 w.heap.size)) (fun c W=>∃lx,X c lx/\BD T w0 W (lx++Y0 w.heap.size)) Fin arg hps (fun b W o h=>h.Zl) (fun c W o ⟨lx,hx,h⟩=>⟨lx,hx,h.Zl⟩) b0 (fun o=>h0.loop o) ?_ ?_
  (fun b W hF hj _ _=>hdone b W hF hj) (fun c W ⟨lx,hx,h⟩ _ _=>hstop c W lx hx h)
 .intro b xs b' W ZJ hj hlt
  obtain⟨o0,ho⟩:=hj.Y3;refine wpIn_mono (Y7 b xs b' W o0 ZJ ho) ?_;rintro ex a1 Wa hpost;cases ex with
  |ret=>exact hpost
  |exit id=>exact hpost
  |goto t=>exact hpost
  |panic ch=>exact hpost
  |outgrown=>exact hpost
  |normal=>
   obtain⟨m,hL,hb⟩:=hpost;refine⟨BD.kept (m:=[]) (by simpa using ho) hL,fun o=>?_⟩;have hL2:=hL.Zh (o':=o);refine wpIn_mono (hb _ o hL2) ?_;rintro e a3 W3 hp;cases e with
   |normal=>obtain⟨m3,h3⟩:=hp;exact⟨hL2.kept h3,h3.aF.Y1⟩
   |ret=>obtain⟨lx,m3,hx,h3⟩:=hp;exact⟨hL2.kept h3,lx,hx,h3.aF.Y1⟩
   |exit id=>obtain⟨lx,m3,hx,h3⟩:=hp;exact⟨hL2.kept h3,lx,hx,h3.aF.Y1⟩
   |goto t=>obtain⟨lx,m3,hx,h3⟩:=hp;exact⟨hL2.kept h3,lx,hx,h3.aF.Y1⟩
   |panic ch=>exact hp
   |outgrown=>exact hp
 .intro J' Zu hJ hC hCx hY W hW'
  exact hiter J' Zu (fun b W h=>(hJ b W h).1) (fun b W b' W' h1 h2 h3=>hC b W b' W' h1 h2 h3) hY W hW'
def fact(p:Prop):ai where
 holds _ fp:=fp=[]/\p
 keep:=fun h _=>h
 lt:=fun⟨h1,_⟩ k hk=>by subst h1;simp at hk
section
variable {T:List Nat} {w0 w w':World} {l:List ai}
theorem BD.fact(h:BD T w0 w l)(i:Nat){p:Prop}(hi:l[i]? =some (fact p)):p:=let ⟨_,h,_⟩:=h.get i hi;h.2
theorem BD.addFact(h:BD T w0 w l){p:Prop}(hp:p):BD T w0 w (l++[Proofs.YtddnnapoaonmjaaGreatDoor.fact p]):=h.new (t':=Proofs.YtddnnapoaonmjaaGreatDoor.fact p) (f':=[]) ⟨rfl,hp⟩ ⟨Touch.refl _ _,by simp⟩
theorem BD.Z6(h:BD T w0 w l)(i:Nat){p q:Prop}(hi:l[i]? =some (Proofs.YtddnnapoaonmjaaGreatDoor.fact p))(hq:q):BD T w0 w (l.set i (Proofs.YtddnnapoaonmjaaGreatDoor.fact q)):=by
 obtain⟨f,⟨hf,_⟩,_,hs⟩:=h.step i hi;subst hf;exact hs w (Proofs.YtddnnapoaonmjaaGreatDoor.fact q) [] ⟨rfl,hq⟩ (AA.refl _ _)
theorem BD.shut(h:BD T w0 w l)(i:Nat){D:Nat}(hi:l[i]? =some (Proofs.YtddnnapoaonmjaaGreatDoor.mark D)):BD T w0 (w.putObj D (.deferred none)) (l.set i (some1 D)):=by
 obtain⟨f,⟨hf,hm⟩,_,hs⟩:=h.step i hi;subst hf;exact hs _ (some1 D) [D] ⟨rfl,by simpa using(Array.getElem?_eq_some_iff.1 hm).1⟩ ⟨(Touch.refl _ w).putObj (.inr (by simp)) _,fun k hk=> .inl hk⟩
end
section
open Go.RowKit
def pX(es:List MapEntry)(xs:List Int):Prop:=es.map (fun e=>(e.key,e.val))=xs.map (fun x=>(Value.int .i64 x,Value.bool true))
theorem pX.nil:pX [] []:=rfl
theorem pX.cons{e:MapEntry}{es:List MapEntry}{xs:List Int}(h:pX (e::es) xs):∃x r,xs=x::r/\e.key= .int .i64 x/\e.val= .bool true/\pX es r:=by
 cases xs with
 |nil=>simp[pX]at h
 |cons x r=>simp[pX]at h;exact⟨x,r,rfl,h.1.1,h.1.2,h.2⟩
section
variable {P:Program} {w:World} {t K E:TypeId} {r clock:Nat} {es:Array MapEntry} {xs:List Int}
theorem bO(b:Bool)(n:Nat)(hk:P.underlying K=some (.int .i64))(x:Int):(Instr.checkKey b (n+1) K (.int .i64 x)).run P w= .ok () w:=by
 simp[Instr.checkKey,run_underlying hk]
theorem bR(hk:P.underlying K=some (.int .i64))(x:Int)(l:List MapEntry){o:Option (Nat×Value)}(hf:Instr.findNow (.int .i64) (.int .i64 x) l 0=some o):(Instr.findKey K (.int .i64 x) l).run P w= .ok o w:=by
 simp[Instr.findKey,run_underlying hk,hf]
theorem bX(hr:w.heap[r]? =some (.map es clock)):(getObj r).run P w= .ok (.map es clock) w:=by
 simp[getObj,Sem.run,hr]
theorem ny(o:Obj)(hr:w.heap[r]? =some (.map es clock)):(setObj r o).run P w= .ok () (w.putObj r o):=by
 simp[setObj,Sem.run,hr,World.putObj]
end
end
theorem Y5{fn:Func}{ra:Tmp}(hres:fn.results=#[ResultVar.cell ra 4]){tmps:Array Value}{b:Nat}(ZV:tmps.getD ra undef= .pointer (some ⟨b,0,none⟩)){W:World}{c:Bool}(hc:W.cell? ⟨b,0,none⟩=some (.bool c)):
  (results fn tmps).run prog W= .ok (.bool c) W:=by
 rw[Array.getD_eq_getD_getElem?]at ZV;simp only[results,hres];simp[go_sem,ZV,hc]
theorem BD.c1w{T:List Nat}{w0 w:World}{l:List ai}(h:BD T w0 w l)(i:Nat){b:Nat}{t:TypeId}{x0:Value}(hi:l[i]? =some (Proofs.YtddnnapoaonmjaaGreatDoor.box b t #[x0])):w.cell? ⟨b,0,none⟩=some x0:=(h.c1 i hi).1
section
variable {n:Nat} {T:List Nat} {w W:World} {l:List ai} {fn:Func} {ra:Tmp} (hres:fn.results=#[ResultVar.cell ra 4]) {tmps:Array Value} {b:Nat} (ZV:tmps.getD ra undef= .pointer (some ⟨b,0,none⟩))
 (HK:BD T w W l) (i:Nat) {u:Value} (hi:l[i]? =some (box b 4 #[u])) {c:Bool} (hc:c=true) {R:Ending->World->Prop}
include hres ZV HK hi hc
theorem Z4{D:Nat}(m:Nat)(hm:l[m]? =some (mark D))(hR:∀W',BD T w W' ((l.set i (box b 4 #[true])).set m (some1 D))->R (.returned (.bool true)) W'):
  bodyPostM Fence.wide n prog fn R .ret {tmps:=tmps,defers:=[{target:= .collected D,args:=#[]}]} (W.setCell ⟨b,0,none⟩ (.bool c)):=by
 subst hc;have h1:=HK.set i hi 0 (.bool true);have hi':=(List.getElem?_eq_some_iff.1 hi).1;have e1:#[u].setIfInBounds 0 (.bool true)=#[.bool true]:=rfl;rw[e1]at h1;have hne:i≠m:=by
  rintro rfl;rw[hi]at hm;have :=congrArg (fun t=>t.map fun t=>t.holds w [D]) hm;have h2:=HK.get i hi;obtain⟨f,⟨hf,hb⟩,_⟩:=h2;obtain⟨f',⟨hf',hb'⟩,_⟩:=HK.get i (hi.trans hm);obtain⟨f3,⟨hf3,hb3⟩,_⟩:=HK.get i (t:=mark D) (hi.trans hm);have e:=Option.some.inj hm;have h5:(box b 4 #[u]).holds W [b]:=⟨rfl,hb⟩;rw[e]at h5;obtain⟨h6,h7⟩:=h5;have :b=D:=by simpa using h6
  subst this;unfold Cg at hb;rw[hb]at h7;cases h7
 have hm1:(l.set i (box b 4 #[true]))[m]? =some (mark D):=by rw[List.getElem?_set_ne hne];exact hm
 have h2:=h1.shut m hm1;refine Y6 (v:= .bool true) [D] _ (by simpa using h1.mark m hm1) (by simp) (Y5 hres ZV (h2.c1w (t:=4) i ?_)) (hR _ h2);rw[List.getElem?_set_ne hne.symm,List.getElem?_set_self hi']
end
section
open Go.RowKit
def ac3(tmps:Array Value):ResultVar->Sem Value
 | .tmp t=>pure (tmps.getD t undef)
 | .cell a t=>do loadVar t (<-asAddr (tmps.getD a undef))
theorem abm(fn:Func)(tmps:Array Value):results fn tmps=(do let vs <-fn.results.mapM (ac3 tmps);pure (if h:vs.size=1 then vs[0]else .tuple vs)):=by
 unfold results;congr 2
def abA(P:Program)(M:LG)(tmps:Array Value)(r:ResultVar)(v:Value):Prop:=∀T w0 w,BD T w0 w M.flatten->(ac3 tmps r).run P w= .ok v w
section
variable {P:Program} {M:LG} {tmps:Array Value} {r1 r2 r3 r4 r5:ResultVar} {v1 v2 v3 v4 v5 v:Value} {fn:Func} {t:Tmp} {ty:TypeId} {b k z s:Nat} {us:List Value}
theorem acJ{T:List Nat}{w0 w:World}(h:BD T w0 w M.flatten)(s:Nat):BD T w0 w (gat M s++(aaE M s []).flatten):=h.prm (aa7 M s)
theorem aaZ(hv:tmps.getD t undef=v:=by first |(go_simp;done)|(go_simp;with_reducible rfl)):abA P M tmps (.tmp t) v:=fun T w0 w _=>by rw[<-hv];rfl
theorem aa0(hp:tmps.getD t undef= .pointer (some ⟨b,k,none⟩):=by rfl)(hl:LdM b k v M s:=by(repeat (first |exact LdM.here (by first |assumption|((repeat (first |exact abv.box (by simp only[List.getElem?_toArray,List.getElem?_cons_zero,List.getElem?_cons_succ];exact rfl)|apply abv.tail));done)|fail)|apply LdM.there));done)(hy:∀w,w.cell? ⟨b,k,none⟩=some v->(loadVar ty ⟨b,k,none⟩).run P w= .ok v w:=by intro w hc;first |(go_simp;done)|fail):abA P M tmps (.cell t ty) v:=fun T w0 w h=>by
 unfold ac3;dsimp only;rw[hp];exact hy w (hl.at T w0 w _ (acJ h s))
theorem abC(hu:acB P ty=true)(hz:∀w,(sizeOf ty).run P w= .ok us.length w){w:World}(hc:∀j v,us[j]? =some v->w.cell? ⟨b,k+j,none⟩=some v):(loadVar ty ⟨b,k,none⟩).run P w= .ok (.agg us.toArray) w:=by
 have hlc:(loadCells ⟨b,k,none⟩ us.length).run P w= .ok us.toArray w:=run_loadCells_list (P:=P) w ⟨b,k,none⟩ us (fun j v hv=>by rw[Addr.add_lit];exact hc j v hv);have hz:=abS hz;cases hq:P.info? ty with
 |none=>simp[hq]at hz
 |some i=>
  have hs:i.size=us.length:=by simpa[hq]using hz
  have hagg:(isAgg ty).run P w= .ok true w:=by
   unfold acB at hu;unfold isAgg;cases hud:P.underlying ty with
   |none=>simp[hud]at hu
   |some td=>
    rw[Sem.run_bind,run_underlying hud w];rw[hud]at hu;cases td<;>simp_all
  simp[loadVar,Sem.run_bind,hagg,sizeOf,typeInfo,hq,hs,hlc]
theorem aaF(hp:tmps.getD t undef= .pointer (some ⟨b,k,none⟩):=by rfl)(hz:∀w,(sizeOf ty).run P w= .ok z w:=by intro w;first |(go_simp;done)|(go_simp;with_reducible rfl))(hl:abE b k z us M s:=by(repeat (first |exact abE.here (by first |assumption|((repeat (first |exact abd.box (by simp only[List.drop_zero,List.drop_succ_cons,List.take_succ_cons,List.take_zero];exact rfl) rfl|apply abd.tail));done)|fail)|apply abE.there));done)(hu:acB P ty=true:=by kernel_rfl):abA P M tmps (.cell t ty) (.agg us.toArray):=fun T w0 w h=>by
 obtain⟨hzl,hc⟩:=hl.at;subst hzl;unfold ac3;dsimp only;rw[hp];exact abC hu hz (hc T w0 w _ (acJ h s))
variable {T:List Nat} {w0 w:World}
theorem res1(h:fn.results=#[r1])(h1:abA P M tmps r1 v1)(hl:BD T w0 w M.flatten):(results fn tmps).run P w= .ok v1 w:=by
 have e1:=h1 _ _ _ hl;rw[abm,h];simp[e1]
theorem res2(h:fn.results=#[r1,r2])(h1:abA P M tmps r1 v1)(h2:abA P M tmps r2 v2)(hl:BD T w0 w M.flatten):(results fn tmps).run P w= .ok (.tuple #[v1,v2]) w:=by
 have e1:=h1 _ _ _ hl;have e2:=h2 _ _ _ hl;rw[abm,h];simp[e1,e2]
theorem res3(h:fn.results=#[r1,r2,r3])(h1:abA P M tmps r1 v1)(h2:abA P M tmps r2 v2)(h3:abA P M tmps r3 v3)(hl:BD T w0 w M.flatten):(results fn tmps).run P w= .ok (.tuple #[v1,v2,v3]) w:=by
 have e1:=h1 _ _ _ hl;have e2:=h2 _ _ _ hl;have e3:=h3 _ _ _ hl;rw[abm,h];simp[e1,e2,e3]
theorem res4(h:fn.results=#[r1,r2,r3,r4])(h1:abA P M tmps r1 v1)(h2:abA P M tmps r2 v2)(h3:abA P M tmps r3 v3)(h4:abA P M tmps r4 v4)(hl:BD T w0 w M.flatten):(results fn tmps).run P w= .ok (.tuple #[v1,v2,v3,v4]) w:=by
 have e1:=h1 _ _ _ hl;have e2:=h2 _ _ _ hl;have e3:=h3 _ _ _ hl;have e4:=h4 _ _ _ hl;rw[abm,h];simp[e1,e2,e3,e4]
end
section
variable {P:Program} {Q:Exit->Act->LG->Prop} {a a':Act} {M Y:LG} {fn:Func} {k:Nat} {R:Ending->LG->Prop} {v:Value}
theorem W.abg(h:R (.returned v) Y)(hQ:∀a M,Q .ret a M=BQ P fn k R .ret a M:=by intro a M;first |(dsimp only[acM,acf];done)|exact rfl)(hd:a.defers=[]:=by rfl)(hr:∀T w0 w,BD T w0 w M.flatten->(results fn a.tmps).run P w= .ok v w:=by
   intro T w0 w hl;first
   |exact res1 rfl (by first |exact aaZ|exact aa0|exact aaF) hl
   |exact res2 rfl (by first |exact aaZ|exact aa0|exact aaF) (by first |exact aaZ|exact aa0|exact aaF) hl
   |exact res3 rfl (by first |exact aaZ|exact aa0|exact aaF) (by first |exact aaZ|exact aa0|exact aaF) (by first |exact aaZ|exact aa0|exact aaF) hl
   |exact res4 rfl (by first |exact aaZ|exact aa0|exact aaF) (by first |exact aaZ|exact aa0|exact aaF) (by first |exact aaZ|exact aa0|exact aaF) (by first |exact aaZ|exact aa0|exact aaF) hl
   |exact results_none rfl _ _ _
   |fail)(hY:M.take k=Y:=by simp only[List.take_succ_cons,List.take_zero,List.length_cons,List.length_nil,Nat.reduceAdd];exact rfl)(hk:Y.length=k:=by rfl):W P .ret Q a M:=
 W.ret (by rw[hQ];exact⟨hd,v,Y,fun T w0 w hl=>⟨hr T w0 w hl,hY▸acE k hl⟩,hk,h⟩)
theorem aai.go{f:FuncId}{n:Nat}{args:Array Value}{X:LG}{c:Code}(hf:P.funcs[f]? =some fn)(hn:fn.ntmps=n)(h:W P c (BQ P fn X.length R) a X)(hb:fn.body=some c:=by rfl)(ha:({tmps:=args++Array.replicate (n-args.size) undef,defers:=[]}:Act)=a:=by simp only[List.size_toArray,List.length_cons,List.length_nil,Nat.reduceAdd,Nat.reduceSub,Array.replicate_succ,Array.replicate_zero,List.push_toArray,List.append_toArray,nAq,cAq];exact rfl):aai P f args X R:=
 aai.enter hf hb (by rw[hn,ha];exact h)
end
end
section
open Go.RowKit
structure Kp(p:Prop):Prop where
 o:p
theorem W.ab9{P:Program}{y:Code}{Q:Exit->Act->LG->Prop}{a:Act}{M:LG}(h:W P y Q a M):W P .skip (acf (W P y Q) Q) a M:=W.skip h
theorem go{G H:Prop}(k:H)(h:Kp H->G:=by
  intro kq;repeat (first |refine fsq ?_|refine lsq ?_|refine lq ?_|refine sq ?_|refine yq ?_|refine uq ?_|refine W.seq ?_|refine W.rgp ?_|refine W.ab7 ?_|refine W.ace ?_|refine W.ab9 ?_|refine W.block ?_|(refine fnq ?_;dsimp only[acf,acM])|(refine W.skip ?_;dsimp only[acf,acM])|(refine W.exit ?_;simp only[acf,acM, ↓reduceIte]))
  exact kq.o):G:=h ⟨k⟩
theorem go1{G:Prop}{H:Nat->Prop}(k:∀g1,H g1)(h:(Kp (∀g1,H g1))->G:=by
  intro kq;repeat (first |refine fsq ?_|refine lsq ?_|refine lq ?_|refine sq ?_|refine yq ?_|refine uq ?_|refine mq fun _=>?_|refine W.seq ?_|refine W.rgp ?_|refine W.ab7 ?_|refine W.ace ?_|refine W.ab9 ?_|refine W.block ?_|(refine fnq ?_;dsimp only[acf,acM])|(refine W.skip ?_;dsimp only[acf,acM])|(refine W.exit ?_;simp only[acf,acM, ↓reduceIte]))
  rename_i g1;exact kq.o g1):G:=h ⟨k⟩
theorem go2{G:Prop}{H:Nat->Nat->Prop}(k:∀g1 g2,H g1 g2)(h:(Kp (∀g1 g2,H g1 g2))->G:=by
  intro kq;repeat (first |refine fsq ?_|refine lsq ?_|refine lq ?_|refine sq ?_|refine yq ?_|refine uq ?_|refine mq fun _=>?_|refine W.seq ?_|refine W.rgp ?_|refine W.ab7 ?_|refine W.ace ?_|refine W.ab9 ?_|refine W.block ?_|(refine fnq ?_;dsimp only[acf,acM])|(refine W.skip ?_;dsimp only[acf,acM])|(refine W.exit ?_;simp only[acf,acM, ↓reduceIte]))
  rename_i g1 g2;exact kq.o g1 g2):G:=h ⟨k⟩
theorem go3{G:Prop}{H:Nat->Nat->Nat->Prop}(k:∀g1 g2 g3,H g1 g2 g3)(h:(Kp (∀g1 g2 g3,H g1 g2 g3))->G:=by
  intro kq;repeat (first |refine fsq ?_|refine lsq ?_|refine lq ?_|refine sq ?_|refine yq ?_|refine uq ?_|refine mq fun _=>?_|refine W.seq ?_|refine W.rgp ?_|refine W.ab7 ?_|refine W.ace ?_|refine W.ab9 ?_|refine W.block ?_|(refine fnq ?_;dsimp only[acf,acM])|(refine W.skip ?_;dsimp only[acf,acM])|(refine W.exit ?_;simp only[acf,acM, ↓reduceIte]))
  rename_i g1 g2 g3;exact kq.o g1 g2 g3):G:=h ⟨k⟩
theorem go4{G:Prop}{H:Nat->Nat->Nat->Nat->Prop}(k:∀g1 g2 g3 g4,H g1 g2 g3 g4)(h:(Kp (∀g1 g2 g3 g4,H g1 g2 g3 g4))->G:=by
  intro kq;repeat (first |refine fsq ?_|refine lsq ?_|refine lq ?_|refine sq ?_|refine yq ?_|refine uq ?_|refine mq fun _=>?_|refine W.seq ?_|refine W.rgp ?_|refine W.ab7 ?_|refine W.ace ?_|refine W.ab9 ?_|refine W.block ?_|(refine fnq ?_;dsimp only[acf,acM])|(refine W.skip ?_;dsimp only[acf,acM])|(refine W.exit ?_;simp only[acf,acM, ↓reduceIte]))
  rename_i g1 g2 g3 g4;exact kq.o g1 g2 g3 g4):G:=h ⟨k⟩
end
section
open Go.RowKit
theorem aat{P:World->Prop}{b k:Nat}{v:Value}(h:∀W,P W->W.cell? ⟨b,k,none⟩=some v):abv [aA P] b k v:=fun T w0 w R hl=>h _ (hl.still 0 rfl)
theorem abz{g:List ai}{b k:Nat}{u v:Value}(h:abv g b k u)(h2:abv g b (k+1) v):abd g b k 2 [u,v]:=⟨rfl,fun T w0 w R hl j x hx=>match j,hx with
 |0,hx=>by cases hx;exact h T w0 w R hl
 |1,hx=>by cases hx;exact h2 T w0 w R hl
 |j+2,hx=>by simp at hx⟩
theorem aam{P:Program}{f:FuncId}{args:Array Value}{v:Value}(h:∀w,Calls P f args w fun e w'=>e= .returned v/\Touch [] w w'):aai P f args [] (xq (fun _:Unit=>True) (fun _=>v) fun _=>[]):=fun T w hl=>(h w).mono fun e w' ⟨he,ht⟩=>⟨[],rfl,⟨(),trivial,he,rfl⟩,hl.touch ht⟩
theorem abM{P:Program}{f:FuncId}{args:Array Value}{v:Value}(h:aai P f args [] (xq (fun _:Unit=>True) (fun _=>v) fun _=>[]))(w:World):Calls P f args w fun e w'=>e= .returned v/\Touch [] w w':=(h [] w (BD.nil _ _)).mono fun e w' ⟨Y,h1,⟨_,_,he,hY⟩,hl⟩=>⟨he,hl.BN⟩
theorem aas{P:World->Prop}{b k z:Nat}{us:List Value}(h:∀W,P W->∀j u,us[j]? =some u->W.cell? ⟨b,k+j,none⟩=some u)(hz:us.length=z:=by rfl):abd [aA P] b k z us:=⟨hz,fun T w0 w R hl=>h _ (hl.still 0 rfl)⟩
theorem acT{g:List ai}{b k z:Nat}{us us':List Value}(h:abd g b k z us)(j n:Nat)(hu:(us.drop j).take n=us')(hn:us'.length=n:=by rfl):abd g b (k+j) n us':=⟨hn,fun T w0 w R hl i v hv=>by
 rw[<-hu,List.getElem?_take]at hv;split at hv
 .rw[List.getElem?_drop]at hv
  rw[Nat.add_assoc];exact h.2 T w0 w R hl _ v hv
 .cases hv⟩
theorem abF{P:Program}{f:FuncId}{args:Array Value}{v:Value}(h:∀w,Calls P f args w fun e w'=>e= .returned v/\w=w'):aai P f args [] (xq (fun _:Unit=>True) (fun _=>v) fun _=>[]):=aam fun w=>(h w).mono fun e w' ⟨he,hw⟩=>⟨he,hw▸Touch.refl _ _⟩
theorem aai.aaT{P:Program}{f:FuncId}{args:Array Value}{t:ai}{R:Ending->LG->Prop}{T:List Nat}{w:World}(hl:BD T w w [t])(h:aai P f args [[t]] R){R':Ending->World->Prop}(k:∀e w' Y,R e Y->BD T w w' Y.flatten->R' e w'):Calls P f args w R':=(h T w hl).mono fun e w' ⟨Y,_,hR,hl'⟩=>k e w' Y hR hl'
theorem aax{P:Program}{f:FuncId}{args:Array Value}{α:Type}{H:α->(World->Prop)->Prop}{vf:α->Value}{S:World->Prop}{R:Ending->(World->Prop)->Prop}(h:∀T w,BD T w w [aA S]->Calls P f args w fun e w'=>∃Q rest,R e Q/\BD T w w' (aA Q::rest))(k:∀e Q,R e Q->∃x,H x Q/\e= .returned (vf x)):aai P f args [[aA S]] (xq (fun x:α×(World->Prop)=>H x.1 x.2) (fun x=>vf x.1) fun x=>[[aA x.2]]):=fun T w hl=>(h T w hl).mono fun e w' ⟨Q,r,hR,hl'⟩=>by
 obtain⟨x,hx,he⟩:=k e Q hR;exact⟨[[aA Q]],rfl,⟨(x,Q),hx,he,rfl⟩,BD.less (m:=[aA Q]) hl'⟩
theorem aa1{P:Program}{f:FuncId}{args:Array Value}{α:Type}{H:α->Prop}{vf:α->Value}{S:World->Prop}{R:Ending->Prop}(h:∀w,S w->Calls P f args w fun e w'=>R e/\Touch [] w w')(k:∀e,R e->∃x,H x/\e= .returned (vf x)):aai P f args [[aA S]] (xq H vf fun _=>[[aA S]]):=fun T w hl=>(h w (hl.still 0 rfl)).mono fun e w' ⟨hR,ht⟩=>by
 obtain⟨x,hx,he⟩:=k e hR;exact⟨[[aA S]],rfl,⟨x,hx,he,rfl⟩,hl.touch ht⟩
end
section
open Go.RowKit
def adq(g:List ai)(e size:Nat)(v:Value)(n:Nat)(xs:List Value):Prop:=∀T w0 w R,BD T w0 w (g++R)->BD T w0 w (aS e size v n xs::R)
theorem adE{e size n:Nat}{v:Value}{xs:List Value}:adq [aS e size v n xs] e size v n xs:=fun _ _ _ _ h=>h
theorem adu{b e size k:Nat}{cs:Array Value}{xs:List Value}(hk:cs.size=k*size:=by simp)(hm:k<=maxLen:=by simp[maxLen])(hx:cs.toList=xs:=by rfl):adq [box b e cs] e size (.slice (some ⟨b,0,none⟩) k k) k xs:=fun T w0 w R h=>by
 refine h.ZP 0 (t':=aS e size (.slice (some ⟨b,0,none⟩) k k) k xs) rfl fun f ⟨h1,h2⟩=>⟨by simp[h1,sb,Value.ownBlock],?_,.inr ⟨b,k,cs,rfl,h2,Nat.le_refl _,hm,by omega,?_⟩⟩
 .rw[<-hx,Array.length_toList,hk]
 .rw[<-hk,<-Array.length_toList,List.take_length,hx]
def ac6(g:List ai)(sa:Option Addr)(m:Nat)(news:List Value):Prop:=∀T w0 w R,BD T w0 w (g++R)->m=0\/∃a,sa=some a/\∀j u,news[j]? =some u->w.cell? (a.add j)=some u
theorem adV{b ty m:Nat}{cs:Array Value}{us:List Value}(hx:cs.toList=us:=by rfl):ac6 [box b ty cs] (some ⟨b,0,none⟩) m us:=fun T w0 w R h=> .inr ⟨_,rfl,fun j u hu=>by
 rw[Addr.add_lit,Cg.cell (h.box 0 rfl),Nat.zero_add];rw[<-hx]at hu;simpa using hu⟩
theorem acP{P:World->Prop}{sa:Option Addr}{m:Nat}{news:List Value}(h:∀W,P W->m=0\/∃a,sa=some a/\∀j u,news[j]? =some u->W.cell? (a.add j)=some u):ac6 [aA P] sa m news:=fun T w0 w R hl=>h w (hl.still 0 rfl)
inductive adl (e size:Nat) (v:Value) (n:Nat) (xs:List Value):LG->Nat->Prop where
 |here {g:List ai} {M:LG} (h:adq g e size v n xs):adl e size v n xs (g::M) 0
 |there {g:List ai} {M:LG} {s:Nat} (h:adl e size v n xs M s):adl e size v n xs (g::M) (s+1)
theorem adl.at{e size n s:Nat}{v:Value}{xs:List Value}{M:LG}(h:adl e size v n xs M s):adq (gat M s) e size v n xs:=by
 induction h with
 |here h=>exact h
 |there _ ih=>rw[abf];exact ih
inductive acv (sa:Option Addr) (m:Nat) (news:List Value) (g':List ai):LG->Nat->Prop where
 |here {M:LG} (h:ac6 g' sa m news):acv sa m news g' (g'::M) 0
 |there {g:List ai} {M:LG} {s:Nat} (h:acv sa m news g' M s):acv sa m news g' (g::M) (s+1)
theorem acv.at{sa:Option Addr}{m s:Nat}{news:List Value}{g':List ai}{M:LG}(h:acv sa m news g' M s):gat M s=g'/\ac6 g' sa m news:=by
 induction h with
 |here h=>exact⟨rfl,h⟩
 |there _ ih=>rw[abf];exact ih
def adJ(P:Program)(t e size bytes:Nat):Prop:=∃i z,P.underlying t=some (.slice e)/\P.info? e=some i/\i.zero=some z/\i.size=size/\i.bytes=bytes/\z.cells.size=size/\0<size
theorem adz{P:Program}{t e size bytes:Nat}{z:Value}(h:(P.info? e).map (fun i=>(i.zero,i.size,i.bytes))=some (some z,size,bytes))(hu:P.underlying t=some (.slice e):=by rfl)(hz:z.cells.size=size:=by rfl)(hs:0<size:=by decide):adJ P t e size bytes:=by
 obtain⟨i,h1,h2,h3,h4⟩:=info_parts h;exact⟨i,z,hu,h1,h2,h3,h4,hz,hs⟩
section
variable {P:Program} {ops:Array Oper} {Q:Exit->Act->LG->Prop} {a:Act} {M:LG} {k N:Nat} {t t':Tr}
theorem apq{d:Tmp}{x y:Operand}{ty vz:TypeId}{pos:String}{Sm:Array Edge}{e size bytes n m c dc sd ss nm:Nat}{xs news ys:List Value}{da sa:Option Addr}{gs:List ai}{A:Option Addr->Nat->Act}{M':Option Addr->Nat->LG}(hI:adJ P ty e size bytes)(hl:news.length=m*size)(h1:∀u∈news,u.oneCell'=true)(h63:nm<=4000000)(hby:bytes<=4096)(h:∀aa cap,DrN P ops Q k t' (A aa cap) (M' aa cap))(hi:ops[N]? =some (Oper.mk (some d) (.call {callee:= .builtin .append,args:=#[x,y],argTypes:=#[ty,ty]}) vz pos Sm none):=by rfl)(hx:a.eval x= .slice da n dc:=by rfl)(hy:a.eval y= .slice sa m c:=by rfl)(hd:adl e size (.slice da n dc) n xs M sd:=by(repeat (first |exact adl.here (by first |exact adE|exact adu)|apply adl.there));done)(hs:acv sa m news gs M ss:=by(repeat (first |exact acv.here (by first |assumption|exact adV)|apply acv.there));done)(hn:[sd,ss].Nodup:=by decide)(hnm:n+m=nm:=by(try simp only[Nat.zero_add]);exact rfl)(hys:xs++news=ys:=by(try simp only[nAq,cAq]);exact rfl)(ht:aa4 N (.c false [sd] [ss]) t t':=by first |exact aa4.p|exact aa4.d)(ha:∀aa cap,a.put (some d) (.slice aa nm cap)=A aa cap:=by intro aa cap;(try simp only[Act.put,sAq,sZq,sSq]);exact rfl)(hM:∀aa cap,puts M [sd] [[aS e size (.slice aa nm cap) nm ys]]=M' aa cap:=by intro aa cap;(try simp only[puts,abn,aa6,aaA]);exact rfl)(hm:N+1=k:=by simp only[Nat.reduceAdd];exact rfl):DrN P ops Q N t a M:=by
 obtain⟨i,z,e1,e2,e3,e4,e5,e6,e7⟩:=hI;obtain⟨hg,hsrc⟩:=hs.at;refine abo ht hi ⟨_,hi,hn,fun en Y=>∃aa cap,en= .returned (.slice aa nm cap)/\Y=[[aS e size (.slice aa nm cap) nm ys]],⟨rfl,fun T w0 w Rr hl0=>?_⟩,?_⟩
 .have hg2:gets M [sd]=gat M sd:=by simp[gets]
  have hg3:gets M [ss]=gs:=by simp[gets,hg]
  rw[hg2,hg3]at hl0;rw[hg3];have hr:=hd.at T w0 w _ hl0;have hsr:=hsrc T w0 w (Rr++gat M sd) (hl0.prm (by rw[<-List.append_assoc gs];exact List.perm_append_comm));subst hnm hys;obtain⟨aa,cap,w',hrun,h2,h3,h4⟩:=mV (P:=P) w ty vz e i z size bytes e1 e2 e3 e4 e5 e6 e7 (.slice da n dc) n xs (hr.aZ 0 rfl) sa m c news hl hsr h1 (by simp only[maxLen];omega) (by
   have :(n+m)*bytes<=4000000*4096:=Nat.mul_le_mul h63 hby
   omega)
  unfold Oper.ends execOp;simp only[resolve,invoke,builtin,Sem.run_bind,Sem.run_pure,Result.andThen_ok,List.map_toArray,List.map_cons,List.map_nil,hx,hy,hrun];refine⟨_,rfl,⟨aa,cap,rfl,rfl⟩,?_⟩;have :=hr.bG 0 rfl h3 h2 h4;simpa using this
 .rintro en Y ⟨aa,cap,rfl,rfl⟩ _ _
  show DrN P ops Q (N+1) t' (a.put (some d) (.slice aa nm cap)) (puts M [sd] _)
  rw[hm,ha,hM];exact h aa cap
theorem mbq{d:Tmp}{op:Op}{vz:TypeId}{pos:String}{Sm:Array Edge}{gd:Option (Nat×Bool)}{tt n:Nat}{ty:TypeId}{cs:Array Value}{A:Nat->Act}{M':Nat->LG}(h:∀g,DrN P ops Q k t' (A g) (M' g))(hi:ops[N]? =some (Oper.mk (some d) op vz pos Sm gd):=by rfl)(hw:Region.wanted (Oper.mk (some d) op vz pos Sm gd) (yielded ops a.tmps)=true:=by rfl)(hal:∀w,(execOp a.eval (Oper.mk (some d) op vz pos Sm gd)).run P w= .ok (.value (.slice (some ⟨w.heap.size,0,none⟩) n n)) (w.alloc (.cells cs ty)):=by intro w;first |(go_simp;done)|(go_simp;with_reducible rfl))(hln:Len M tt:=by(repeat (first |exact Len.nil|apply Len.cons));done)(ht:aa4 N (.m tt) t t':=by first |exact aa4.p|exact aa4.d)(ha:∀g,a.put (some d) (.slice (some ⟨g,0,none⟩) n n)=A g:=by intro g;(try simp only[Act.put,sAq,sZq,sSq]);exact rfl)(hM:∀g,aaE M tt [box g ty cs]=M' g:=by intro g;simp only[abn,aaA];exact rfl)(hm:N+1=k:=by simp only[Nat.reduceAdd];exact rfl):DrN P ops Q N t a M:=
 abo ht hi ⟨_,hi,hln.at,fun g=> .slice (some ⟨g,0,none⟩) n n,ty,cs,⟨hw,hal⟩,fun g _=>by
  show DrN P ops Q (N+1) t' (a.put (some d) (.slice (some ⟨g,0,none⟩) n n)) (aaE M tt [box g ty cs])
  rw[hm,ha g,hM g];exact h g⟩
end
section
variable {P:Program} {Q:Exit->Act->LG->Prop} {a a':Act} {M:LG} {fn:Func} {k:Nat} {R:Ending->LG->Prop} {v:Value}
theorem W.ady(Y:LG)(hY:∀T w0 w,BD T w0 w M.flatten->BD T w0 w Y.flatten)(h:R (.returned v) Y)(hQ:∀a M,Q .ret a M=BQ P fn k R .ret a M:=by intro a M;first |(dsimp only[acM,acf];done)|exact rfl)(hd:a.defers=[]:=by rfl)(hr:∀T w0 w,BD T w0 w M.flatten->(results fn a.tmps).run P w= .ok v w:=by
   intro T w0 w hl;first
   |exact res1 rfl (by first |exact aaZ|exact aa0|exact aaF) hl
   |exact res2 rfl (by first |exact aaZ|exact aa0|exact aaF) (by first |exact aaZ|exact aa0|exact aaF) hl
   |exact res3 rfl (by first |exact aaZ|exact aa0|exact aaF) (by first |exact aaZ|exact aa0|exact aaF) (by first |exact aaZ|exact aa0|exact aaF) hl
   |exact res4 rfl (by first |exact aaZ|exact aa0|exact aaF) (by first |exact aaZ|exact aa0|exact aaF) (by first |exact aaZ|exact aa0|exact aaF) (by first |exact aaZ|exact aa0|exact aaF) hl
   |exact results_none rfl _ _ _
   |fail)(hk:Y.length=k:=by rfl):W P .ret Q a M:=
 W.ret (by rw[hQ];exact⟨hd,v,Y,fun T w0 w hl=>⟨hr T w0 w hl,hY T w0 w hl⟩,hk,h⟩)
end
inductive abV:Tr->Prop where
 |p:abV .p
 |n:abV (.d [])
 |c {i:Nat} {tr:List (Nat×aaw)} (h:abV (.d tr)):abV (.d ((i,.y [])::tr))
def RdG(P:Program)(f:FuncId)(args:Array Value)(X:LG)(R:Ending->Prop):Prop:=∀T w0 w,BD T w0 w X.flatten->Calls P f args w fun e w'=>R e/\Touch [] w w'
theorem ado{P:Program}{f:FuncId}{args:Array Value}{v:Value}{m:List ai}(h:∀T w0 w,BD T w0 w m->Calls P f args w fun e w'=>e= .returned v/\Touch [] w w'):RdG P f args [m] fun e=>∃x:Unit,True/\e= .returned ((fun _=>v) x):=fun T w0 w hl=>(h T w0 w (by simpa using hl)).mono fun e w' ⟨he,ht⟩=>⟨⟨(),trivial,he⟩,ht⟩
theorem adh{P:Program}{f:FuncId}{args:Array Value}{c:List PanicEntry}{m:List ai}(h:∀T w0 w,BD T w0 w m->Calls P f args w fun e w'=>e= .panicked c/\Touch [] w w'):RdG P f args [m] fun e=>e= .panicked c:=fun T w0 w hl=>h T w0 w (by simpa using hl)
section
variable {P:Program} {ops:Array Oper} {Q:Exit->Act->LG->Prop} {a:Act} {M:LG} {n m:Nat} {t t':Tr}
theorem crr{d:Tmp}{op:Op}{vz:TypeId}{pos:String}{Sm:Array Edge}{gd:Option (Nat×Bool)}{f:FuncId}{args:Array Value}{X:LG}{α:Type}{H:α->Prop}{vf:α->Value}{A:α->Act}{rd:List Nat}(hc:RdG P f args X fun e=>∃x,H x/\e= .returned (vf x))(h:∀x,H x->DrN P ops Q m t' (A x) M)(hi:ops[n]? =some (Oper.mk (some d) op vz pos Sm gd):=by rfl)(hw:Region.wanted (Oper.mk (some d) op vz pos Sm gd) (yielded ops a.tmps)=true:=by rfl)(hy:∀w,(execOp a.eval (Oper.mk (some d) op vz pos Sm gd)).run P w= .ok (.enter f args) w:=by intro w;first |(go_simp;done)|(go_simp;with_reducible rfl)|(go_simp;rfl))(hl:abL M X rd:=by repeat (first |exact abL.nil|(apply abL.cons;focus ((repeat (first |with_reducible exact AtM.here|exact AtM.fresh|apply AtM.there));done))))(hn:rd.Nodup:=by decide)(ha:∀x,a.put (some d) (vf x)=A x:=by intro x;(try simp only[Act.put,sAq,sZq,sSq]);exact rfl)(hm:n+1=m:=by simp only[Nat.reduceAdd];exact rfl)(ht:aa4 n (.c false [] rd) t t':=by first |exact aa4.p|exact aa4.d):DrN P ops Q n t a M:=by
 obtain⟨h1,h2⟩:=hl.gets;refine abo ht hi ⟨_,hi,hn,fun e Y=>(∃x,H x/\e= .returned (vf x))/\Y=[],⟨hw,fun T w0 w R hg=>?_⟩,?_⟩
 .rw[h1]at hg|-
  have hg:BD T w0 w (X.flatten++R):=hg;unfold Oper.ends;rw[hy w];exact(hc T w0 w hg.less).mono fun e w' ⟨hR,ht⟩=>⟨[],rfl,⟨hR,rfl⟩,hg.touch ht⟩
 .rintro e Y ⟨⟨x,hx,rfl⟩,rfl⟩ _ _
  show DrN P ops Q (n+1) t' (a.put (some d) (vf x)) M
  rw[hm,ha];exact h x hx
theorem prr{Y:LG}{k:Nat}{fn:Func}{R:Ending->LG->Prop}{d:Option Tmp}{op:Op}{vz:TypeId}{pos:String}{Sm:Array Edge}{gd:Option (Nat×Bool)}{f:FuncId}{args:Array Value}{X:LG}{c:List PanicEntry}{rd:List Nat}(hc:RdG P f args X fun e=>e= .panicked c)(h:R (.panicked c) Y)(hQ:∀a M,Q (.panic c) a M=BQ P fn k R (.panic c) a M:=by intro a M;first |(dsimp only[acM,acf];done)|exact rfl)(hd:a.defers=[]:=by rfl)(hi:ops[n]? =some (Oper.mk d op vz pos Sm gd):=by rfl)(hw:Region.wanted (Oper.mk d op vz pos Sm gd) (yielded ops a.tmps)=true:=by rfl)(hy:∀w,(execOp a.eval (Oper.mk d op vz pos Sm gd)).run P w= .ok (.enter f args) w:=by intro w;first |(go_simp;done)|(go_simp;with_reducible rfl)|(go_simp;rfl))(hl:abL M X rd:=by repeat (first |exact abL.nil|(apply abL.cons;focus ((repeat (first |with_reducible exact AtM.here|exact AtM.fresh|apply AtM.there));done))))(hn:rd.Nodup:=by decide)(hY:M.take k=Y:=by simp only[List.take_succ_cons,List.take_zero,List.length_cons,List.length_nil,Nat.reduceAdd];exact rfl)(hk:Y.length=k:=by rfl)(ht:aa4 n (.c true [] rd) t t':=by first |exact aa4.p|exact aa4.d)(hf:abV t':=by first |exact abV.p|((repeat (first |exact abV.n|apply abV.c));done)):DrN P ops Q n t a M:=by
 obtain⟨h1,h2⟩:=hl.gets;refine abo ht hi ⟨_,hi,hn,fun e Y=>e= .panicked c/\Y=[],⟨hw,fun T w0 w R hg=>?_⟩,?_⟩
 .rw[h1]at hg|-
  have hg:BD T w0 w (X.flatten++R):=hg;unfold Oper.ends;rw[hy w];exact(hc T w0 w hg.less).mono fun e w' ⟨hR,ht⟩=>⟨[],rfl,⟨hR,rfl⟩,hg.touch ht⟩
 .rintro e Z ⟨rfl,rfl⟩ _ _
  exact⟨rfl,by rw[hQ];exact⟨hd,Y,fun T w0 w hl=>by rw[<-hY];exact acE k hl,hk,h⟩⟩
end
theorem ade{P:Program}{f:FuncId}{args:Array Value}{c:List PanicEntry}(h:∀w,Calls P f args w fun e w'=>e= .panicked c/\w=w'):aai P f args [] fun e Y=>e= .panicked c/\Y=[]:=fun T w hl=>(h w).mono fun e w' ⟨he,hw⟩=>⟨[],rfl,⟨he,rfl⟩,hw▸hl⟩
theorem pfq{P:Program}{ops:Array Oper}{Q:Exit->Act->LG->Prop}{a:Act}{M Y:LG}{n k:Nat}{t t':Tr}{fn:Func}{R:Ending->LG->Prop}{d:Option Tmp}{op:Op}{vz:TypeId}{pos:String}{Sm:Array Edge}{gd:Option (Nat×Bool)}{f:FuncId}{args:Array Value}{X Yf:LG}{c:List PanicEntry}{rs:List Nat}(hc:aai P f args X fun e Z=>e= .panicked c/\Z=Yf)(h:R (.panicked c) Y)(hQ:∀a M,Q (.panic c) a M=BQ P fn k R (.panic c) a M:=by intro a M;first |(dsimp only[acM,acf];done)|exact rfl)(hd:a.defers=[]:=by rfl)(hi:ops[n]? =some (Oper.mk d op vz pos Sm gd):=by rfl)(hw:Region.wanted (Oper.mk d op vz pos Sm gd) (yielded ops a.tmps)=true:=by rfl)(hy:∀w,(execOp a.eval (Oper.mk d op vz pos Sm gd)).run P w= .ok (.enter f args) w:=by intro w;first |(go_simp;done)|(go_simp;with_reducible rfl)|(go_simp;rfl))(hl:abL M X rs:=by repeat (first |exact abL.nil|(apply abL.cons;focus ((repeat (first |with_reducible exact AtM.here|exact AtM.fresh|apply AtM.there));done))))(hn:rs.Nodup:=by decide)(hY:(puts M rs Yf).take k=Y:=by simp only[puts,abn,aa6,aaA,List.take_succ_cons,List.take_zero,List.length_cons,List.length_nil,Nat.reduceAdd];exact rfl)(hk:Y.length=k:=by rfl)(ht:aa4 n (.c true rs []) t t':=by first |exact aa4.p|exact aa4.d)(hf:abV t':=by first |exact abV.p|((repeat (first |exact abV.n|apply abV.c));done)):DrN P ops Q n t a M:=
 pq hc (fun e Z ⟨he,hZ⟩=>⟨c,he,by rw[hQ];exact⟨hd,Y,fun T w0 w hl=>by rw[<-hY,<-hZ];exact acE k hl,hk,h⟩⟩) hi hw hy hl hn ht
end
section
open Go.RowKit
theorem pfy{P:Program}{ops:Array Oper}{Q:Exit->Act->LG->Prop}{a:Act}{M:LG}{n k:Nat}{t t':Tr}{fn:Func}{R:Ending->LG->Prop}{d:Option Tmp}{op:Op}{vz:TypeId}{pos:String}{Sm:Array Edge}{gd:Option (Nat×Bool)}{f:FuncId}{args:Array Value}{X Yf:LG}{c:List PanicEntry}{rs:List Nat}(hc:aai P f args X fun e Z=>e= .panicked c/\Z=Yf)(Y:LG)(hY:∀T w0 w,BD T w0 w (puts M rs Yf).flatten->BD T w0 w Y.flatten)(h:R (.panicked c) Y)(hQ:∀a M,Q (.panic c) a M=BQ P fn k R (.panic c) a M:=by intro a M;first |(dsimp only[acM,acf];done)|exact rfl)(hd:a.defers=[]:=by rfl)(hi:ops[n]? =some (Oper.mk d op vz pos Sm gd):=by rfl)(hw:Region.wanted (Oper.mk d op vz pos Sm gd) (yielded ops a.tmps)=true:=by rfl)(hy:∀w,(execOp a.eval (Oper.mk d op vz pos Sm gd)).run P w= .ok (.enter f args) w:=by intro w;first |(go_simp;done)|(go_simp;with_reducible rfl)|(go_simp;rfl))(hl:abL M X rs:=by repeat (first |exact abL.nil|(apply abL.cons;focus ((repeat (first |with_reducible exact AtM.here|exact AtM.fresh|apply AtM.there));done))))(hn:rs.Nodup:=by decide)(hk:Y.length=k:=by rfl)(ht:aa4 n (.c true rs []) t t':=by first |exact aa4.p|exact aa4.d)(hf:abV t':=by first |exact abV.p|((repeat (first |exact abV.n|apply abV.c));done)):DrN P ops Q n t a M:=
 pq hc (fun e Z ⟨he,hZ⟩=>⟨c,he,by rw[hQ];exact⟨hd,Y,fun T w0 w hl=>hY T w0 w (by rw[<-hZ];exact hl),hk,h⟩⟩) hi hw hy hl hn ht
def adS(a:Act)(js:List Nat)(v:Nat->Value):Act:={a with tmps:=js.foldl (fun t j=>t.setIfInBounds j (v j)) a.tmps}
theorem W.loopv{P:Program}{c:Code}{Q:Exit->Act->LG->Prop}{a:Act}{M:LG}(js:List Nat)(J:Nat->(Nat->Value)->LG->Prop)(n:Nat)(h0:J n (fun j=>a.tmps.getD j undef) M)(round:∀n v M a1,J n v M->adS a js v=a1->W P c (acf (fun a' M'=>∃m,m<n/\a'=adS a js (fun j=>a'.tmps.getD j undef)/\J m (fun j=>a'.tmps.getD j undef) M') Q) a1 M)(hself:adS a js (fun j=>a.tmps.getD j undef)=a:=by kernel_rfl):W P (.loop c) Q a M:=
 W.loop (fun n a' M=>∃v,a'=adS a js v/\J n v M) n ⟨_,hself.symm,h0⟩ fun n a' M ⟨v,ha,hJ⟩=>(round n v M a' hJ ha.symm).mono fun e a2 M2 q=>by
  cases e<;>first |exact q|skip
  obtain⟨m,hm,ha2,hJ2⟩:=q;exact⟨m,hm,_,ha2,hJ2⟩
theorem adN{T:List Nat}{w0 w:World}{M r:LG}(h:BD T w0 w (M++r).flatten):BD T w0 w M.flatten:=by
 rw[List.flatten_append]at h;exact h.less
end
def bI(vc:Value)(most:Nat)(vl:Value):Value:= .agg #[vc,(most:Int),vl]
structure gu(w:World)(vc vl:Value)(s:Ar):Prop where
 Dh:w.ownsRow 0 53 1 vc s.C.length (words s.C)
 log:w.ownsRow 0 197 5 vl s.L.length (aJ s.L)
 tQ:s.C.length<=65536
 most:s.most<=65536
theorem gu.touch{w w':World}{vc vl:Value}{s:Ar}(h:gu w vc vl s)(ht:Touch [] w w'):gu w' vc vl s:=⟨dW h.Dh ht (by simp),dW h.log ht (by simp),h.tQ,h.most⟩
theorem gu.keep{w w':World}{vc vl:Value}{s:Ar}(h:gu w vc vl s)(hs:∀b∈sb vc++sb vl,w'.heap[b]? =w.heap[b]?):gu w' vc vl s:=
 ⟨dN h.Dh (fun b hb=>hs b (List.mem_append_left _ hb)),dN h.log (fun b hb=>hs b (List.mem_append_right _ hb)),h.tQ,h.most⟩
theorem iR(l:List Nat):∀u∈words l,u.oneCell'=true:=by
 intro u hu;simp only[words,List.mem_map]at hu;obtain⟨n,_,rfl⟩:=hu;rfl
theorem dV(l:List Acc):∀u∈aJ l,u.oneCell'=true:=by
 intro u hu;simp only[aJ,List.mem_flatMap]at hu;obtain⟨x,_,hx⟩:=hu;exact gZ x u hx
theorem gF(W:World)(e:TypeId)(size:Nat):(W.alloc (.cells #[] e)).ownsRow 0 e size (.slice (some ⟨W.heap.size,0,none⟩) 0 0) 0 []:=
 ⟨by simp,.inr ⟨W.heap.size,0,#[],rfl,Nat.zero_le _,heap_alloc_new W _,Nat.le_refl _,by simp[maxLen],by simp,by simp⟩⟩
theorem lD(w:World)(vc vl:Value)(s:Ar)(n:Int)(h:gu w vc vl s):Calls prog 271 #[bI vc s.most vl,n] w fun e w'=>
  ∃CQ,e= .returned (.tuple #[bI CQ s.most vl,.int .i64 ((s.au n).2.1:Int),.int .i64 ((s.au n).2.2:Int)])/\gu w' CQ vl (s.au n).1/\Touch [] w w'/\∀b∈sb CQ,b∈sb vc\/w.heap.size<=b:=by
 obtain⟨i0,hi,hz0,hz1,hz2⟩:=info_parts fB;obtain⟨aa,cp,rfl,hc1,hc2⟩:=aK h.Dh;obtain⟨la,lp,rfl,hl1,hl2⟩:=aK h.log;have HA:=hdq h;have hcl:=h.tQ;have hml:=h.most;unfold bI;by_cases hn:n<0
 .have hv:s.au n=(s,0,2):=by simp[Ar.au,hn]
  rw[hv];go_enter func271,ntmps271
  go_wp2;refine bodyPost_ret (v:= .tuple #[.agg #[.slice aa s.C.length cp,(s.most:Int),.slice la s.L.length lp],(),(2:Int)]) (by simp[results,results271,go_sem]) rfl ?_;refine⟨_,rfl,HA.o.touch ?_,?_,fun b hb=> .inl hb⟩;all_goals exact((Touch.refl [] w).alloc _).alloc _
 .by_cases hf:(s.most:Int)-(s.C.length:Int)<n
  .have hv:s.au n=(s,0,6):=by simp[Ar.au,hn,hf]
   rw[hv];go_enter func271,ntmps271
   go_wp2;refine bodyPost_ret (v:= .tuple #[.agg #[.slice aa s.C.length cp,(s.most:Int),.slice la s.L.length lp],(),(6:Int)]) (by simp[results,results271,go_sem]) rfl ?_;refine⟨_,rfl,HA.o.touch ?_,?_,fun b hb=> .inl hb⟩;all_goals exact((Touch.refl [] w).alloc _).alloc _
  .obtain⟨k,rfl⟩:=Int.eq_ofNat_of_zero_le (Int.not_lt.1 hn)
   have hv:s.au (k:Int)=({s with C:=s.C++List.replicate k 0},s.C.length,0):=by simp[Ar.au,hn,hf]
   rw[hv];have hk:s.C.length+k<=s.most:=by omega
   have HB:Hid (Cg (((w.alloc (.cells #[.slice aa s.C.length cp,(s.most:Int),.slice la s.L.length lp] 33)).alloc (.cells #[True,(),True] 33)).alloc (.cells #[] 53)) w.heap.size 33 #[.slice aa s.C.length cp,(s.most:Int),.slice la s.L.length lp]):=
    ((Cg.new w _ _).alloc _).alloc _
   have HR:Hid (Cg (((w.alloc (.cells #[.slice aa s.C.length cp,(s.most:Int),.slice la s.L.length lp] 33)).alloc (.cells #[True,(),True] 33)).alloc (.cells #[] 53)) (w.heap.size+1) 33 #[True,(),True]):=by
    have :=(Cg.new (w.alloc (.cells #[.slice aa s.C.length cp,(s.most:Int),.slice la s.L.length lp] 33)) 33 #[True,(),True]).alloc (.cells #[] 53);rw[World.size_alloc]at this;exact this
   have HT0:Hid (Touch [] w (((w.alloc (.cells #[.slice aa s.C.length cp,(s.most:Int),.slice la s.L.length lp] 33)).alloc (.cells #[True,(),True] 33)).alloc (.cells #[] 53))):=(((Touch.refl [] w).alloc _).alloc _).alloc _;have HE:Hid ((((w.alloc (.cells #[.slice aa s.C.length cp,(s.most:Int),.slice la s.L.length lp] 33)).alloc (.cells #[True,(),True] 33)).alloc (.cells #[] 53)).ownsRow 0 53 1 (.slice (some ⟨w.heap.size+1+1,0,none⟩) 0 0) 0 []):=by
    have :=gF ((w.alloc (.cells #[.slice aa s.C.length cp,(s.most:Int),.slice la s.L.length lp] 33)).alloc (.cells #[True,(),True] 33)) 53 1;rw[World.size_alloc,World.size_alloc]at this;exact this
   have hbl:w.heap.size<w.heap.size+1+1:=by omega
   go_enter func271,ntmps271
   go_wp2_with (at_builtin;go_must (refine bW _ rfl (.tmp 23) (.tmp 25) 30 rfl 53 i0 (.int .u64 0) 1 8 underlying30 hi hz0 hz1 hz2 rfl (by decide) (.slice (some ⟨w.heap.size+1+1,0,none⟩) 0 0) 0 [] rfl HE.o (.slice aa s.C.length cp) s.C.length (words s.C) rfl (dW HA.o.Dh HT0.o (by simp)) (iR _) (by simp only[maxLen];omega) (by omega) ?_);intro a1 c1 w1 hown hgrow hat;refine Hid.o ?_)
   rw[Nat.zero_add,List.nil_append]at hown;rw[Nat.zero_add]at hat;have HT1:Hid (Touch [] w w1):=HT0.o.grown hgrow (fun j hj=> .inr (by simp[Value.ownBlock]at hj;omega));have HB1:Hid (Cg w1 w.heap.size 33 #[.slice aa s.C.length cp,(s.most:Int),.slice la s.L.length lp]):=HB.o.grown hgrow (by simp[Value.ownBlock];omega);have HR1:Hid (Cg w1 (w.heap.size+1) 33 #[True,(),True]):=HR.o.grown hgrow (by simp[Value.ownBlock]);have HO1:=hdq hown;have FR:Hid (∀j∈sb (.slice a1 s.C.length c1),w.heap.size<=j):=by
    intro j hj;rcases hat with h1|h1
    .rw[sb,h1]at hj
     have :j=w.heap.size+1+1:=by simpa[Value.ownBlock]using hj
     omega
    .rw[sb,h1]at hj
     have :j=w.heap.size+1+1+1:=by simpa using hj
     omega
   refine hdq ?_;go_wp2_with (at_builtin;go_must (refine iG _ rfl (.tmp 26) (.tmp 27) 30 3 rfl 53 i0 (.int .u64 0) .i64 .i64 underlying30 underlying3 hi hz0 hz1 hz2 rfl rfl (.slice a1 s.C.length c1) s.C.length (words s.C) rfl HO1.o k rfl (by omega) ?_);intro a2 c2 w2 hown hgrow hat;refine Hid.o ?_)
   have HT2:Hid (Touch [] w w2):=HT1.o.grown hgrow (fun j hj=> .inr (FR.o j (by simp[sb,hj])));have hn0:w.heap.size∉sb (.slice a1 s.C.length c1):=own_ne HO1.o HB1.o (by decide);have HB2:Hid (Cg w2 w.heap.size 33 #[.slice aa s.C.length cp,(s.most:Int),.slice la s.L.length lp]):=HB1.o.grown hgrow (fun hc=>hn0 (by simp[sb,<-hc]));have HR2:Hid (Cg w2 (w.heap.size+1) 33 #[True,(),True]):=HR1.o.grown hgrow (fun hc=>own_ne HO1.o HR1.o (by decide) (by simp[sb,<-hc]));have Fs:=hdq hown;have Gy:Hid (∀j∈sb (.slice a2 (s.C.length+k) c2),w.heap.size<=j):=by
    intro j hj;rcases hat with h1|h1
    .exact FR.o j (by rw[sb,<-h1];exact hj)
    .rw[sb,h1]at hj
     have :j=w1.heap.size:=by simpa using hj
     have :=HT1.o.size;omega
   have b0:=HB2.o.cell 0;have b1:=HB2.o.cell 1;have b2:=HB2.o.cell 2;have r0:=HR2.o.cell 0;have r1:=HR2.o.cell 1;have r2:=HR2.o.cell 2;have g0:=HB2.o.frozen 0;have e0:=HR2.o.frozen 0;have e1:=HR2.o.frozen 1;have e2:=HR2.o.frozen 2;simp at b0 b1 b2 r0 r1 r2
   refine hdq ?_;go_wp2;have hf:=(((HR2.o.far (p:=⟨w.heap.size,0,none⟩) (by simp) (.slice a2 (s.C.length+k) c2)).set 0 (.slice a2 (s.C.length+k) c2)).set 1 (.int .i64 (s.most:Int))).set 2 (.slice la s.L.length lp);have q0:=hf.cell 0;have q1:=hf.cell 1;have q2:=hf.cell 2;simp at q0 q1 q2
   have HTF:Hid (Touch [] w ((((w2.setCell ⟨w.heap.size,0,none⟩ (.slice a2 (s.C.length+k) c2)).setCell ⟨w.heap.size+1,0,none⟩ (.slice a2 (s.C.length+k) c2)).setCell ⟨w.heap.size+1,1,none⟩ (.int .i64 (s.most:Int))).setCell ⟨w.heap.size+1,2,none⟩ (.slice la s.L.length lp))):=
    (((HT2.o.setCell ⟨w.heap.size,0,none⟩ _ (.inr (Nat.le_refl _))).setCell ⟨w.heap.size+1,0,none⟩ _ (.inr (Nat.le_succ _))).setCell ⟨w.heap.size+1,1,none⟩ _ (.inr (Nat.le_succ _))).setCell ⟨w.heap.size+1,2,none⟩ _ (.inr (Nat.le_succ _))
   have n0:=own_ne Fs.o HB2.o (by decide);have n1:=own_ne Fs.o HR2.o (by decide);refine bodyPost_ret (v:= .tuple #[.agg #[.slice a2 (s.C.length+k) c2,(s.most:Int),.slice la s.L.length lp],(s.C.length:Int),()]) (by simp[results,results271,go_sem,q0,q1,q2]) rfl ?_;refine⟨_,rfl,⟨?_,dW HA.o.log HTF.o (by simp),by simp;omega,hml⟩,HTF.o,fun b hb=> .inr (Gy.o b hb)⟩;have :=dh (dh (dh (dh Fs.o ⟨w.heap.size,0,none⟩ (.slice a2 (s.C.length+k) c2) n0) ⟨w.heap.size+1,0,none⟩ (.slice a2 (s.C.length+k) c2) n1) ⟨w.heap.size+1,1,none⟩ (.int .i64 (s.most:Int)) n1) ⟨w.heap.size+1,2,none⟩ (.slice la s.L.length lp) n1;simp only[List.length_append,List.length_replicate,mR,kI];exact this
def jq(w:World)(vc vl:Value)(s:Ar)(r:Ar×Acc×Nat)(e:Ending)(w':World):Prop:=
 ∃CQ Dk,e= .returned (.tuple #[bI CQ s.most Dk,r.2.1.val,(r.2.2:Int)])/\gu w' CQ Dk r.1/\Touch [] w w'/\∀b∈sb CQ++sb Dk,b∈sb vc++sb vl\/w.heap.size<=b
theorem nH(w:World)(vc vl:Value)(s:Ar)(op:Nat)(at_:Int)(x y:Int)(h:gu w vc vl s)(hat:¬(0<=at_/\at_<(s.C.length:Int)))(D9:Nat->Nat×Bool):
  Calls prog 289 #[bI vc s.most vl,(op:Int),at_,.int .u64 x,.int .u64 y] w (jq w vc vl s (s.iw op at_ D9)):=by
 obtain⟨aa,cp,rfl,hc1,hc2⟩:=aK h.Dh;obtain⟨la,lp,rfl,hl1,hl2⟩:=aK h.log;have HA:=hdq h;have hcl:=h.tQ;have hv:s.iw op at_ D9=(s,Acc.zero,4):=by simp only[Ar.iw];rw[if_neg hat]
 rw[hv];unfold bI;go_enter func289,ntmps289
 by_cases h1:at_<0
 .go_wp2
  refine bodyPost_ret (v:= .tuple #[.agg #[.slice aa s.C.length cp,(s.most:Int),.slice la s.L.length lp],Acc.zero.val,(4:Int)]) (by simp[results,results289,go_sem,Acc.val,Acc.zero]) rfl ?_;exact⟨_,_,rfl,HA.o.touch ((((Touch.refl [] w).alloc _).alloc _).alloc _),(((Touch.refl [] w).alloc _).alloc _).alloc _,fun b hb=> .inl hb⟩
 .have h2:(s.C.length:Int)<=at_:=by omega
  go_wp2;refine bodyPost_ret (v:= .tuple #[.agg #[.slice aa s.C.length cp,(s.most:Int),.slice la s.L.length lp],Acc.zero.val,(4:Int)]) (by simp[results,results289,go_sem,Acc.val,Acc.zero]) rfl ?_;exact⟨_,_,rfl,HA.o.touch ((((Touch.refl [] w).alloc _).alloc _).alloc _),(((Touch.refl [] w).alloc _).alloc _).alloc _,fun b hb=> .inl hb⟩
theorem ig{W:World}{g:Nat}{x:Acc}(h:Cg W g 197 x.cells.toArray):W.ownsRow 0 197 5 (.slice (some ⟨g,0,none⟩) 1 1) 1 x.cells:=
 ⟨by simp[Acc.cells],.inr ⟨g,1,x.cells.toArray,rfl,Nat.zero_le _,h,Nat.le_refl _,by simp[maxLen],by simp[Acc.cells],by simp[Acc.cells]⟩⟩
theorem BD.iB{T:List Nat}{w0 w:World}{l:List ai}(h:BD T w0 w l)(e:TypeId)(size:Nat):BD T w0 (w.alloc (.cells #[] e)) (l++[Proofs.YtddnnapoaonmjaaGreatDoor.row e size (.slice (some ⟨w.heap.size,0,none⟩) 0 0) 0 []]):=
 h.new (t':=Proofs.YtddnnapoaonmjaaGreatDoor.row e size (.slice (some ⟨w.heap.size,0,none⟩) 0 0) 0 []) ⟨rfl,gF w e size⟩ ⟨(Touch.refl [] w).alloc _,fun k hk=> .inr (by simp[sb,Value.ownBlock]at hk;omega)⟩
theorem BD.Jp{w0 w:World}{l:List ai}(h:BD [] w0 w l)(i:Nat){e:TypeId}{size:Nat}{v:Value}{n:Nat}{xs:List Value}(hi:l[i]? =some (Proofs.YtddnnapoaonmjaaGreatDoor.row e size v n xs)):∀k∈sb v,w0.heap.size<=k:=by
 obtain⟨f,⟨hf,_⟩,hg⟩:=h.get i hi;subst hf;exact fun k hk=>(hg k hk).elim (fun h=>by simp at h) id
theorem je{w WF:World}{vc vl cv lv:Value}{s:Ar}{l:List ai}{x:Acc}(h:gu w vc vl s)(HL:BD [] w WF l)(h3:l[3]? =some (row 53 1 cv s.C.length (words (s.C.set x.at_ x.new))))(h5:l[5]? =some (row 197 5 lv (s.L.length+1) (aJ s.L++x.cells))){hq':x.at_<s.C.length}(Fa:s.C[x.at_]=x.old)(hq:x.at_<s.C.length):
  jq w vc vl s (s.acc x.op x.at_ x.new x.did,x,0) (.returned (.tuple #[bI cv s.most lv,x.val,.int .i64 ((0:Nat):Int)])) WF:=by
 have hg:s.C.getD x.at_ 0=x.old:=by simp[List.getD,hq,Fa]
 refine⟨cv,lv,rfl,⟨?_,?_,?_,h.most⟩,Touch.of_below HL.below [],?_⟩
 .have :=HL.row 3 h3
  simpa[Ar.acc]using this
 .have :=HL.row 5 h5
  simp only[Ar.acc,hg,List.length_append,List.length_cons,List.length_nil,kC];simpa[aJ]using this
 .simpa[Ar.acc]using h.tQ
 .intro b hb
  rcases List.mem_append.1 hb with hb|hb
  .exact .inr (HL.Jp 3 h3 b hb)
  .exact .inr (HL.Jp 5 h5 b hb)
theorem yE(w:World)(vc vl:Value)(s:Ar)(q:Nat)(was:Nat)(x y:Int)(h:gu w vc vl s)(hq:q<s.C.length)(EH:Hid (s.C[q]=was))(hL:s.L.length<=1048576):
  Calls prog 289 #[bI vc s.most vl,(1:Int),(q:Int),.int .u64 x,.int .u64 y] w (jq w vc vl s (s.acc 1 q was true,⟨1,q,was,was,true⟩,0)):=by
 obtain⟨i0,hi,CY,CU,CX⟩:=info_parts fB;obtain⟨j0,hj,EZ,jz1,ER⟩:=info_parts gy;obtain⟨ca,cp,cur,rfl,hcur,hc1,hc2,hc3,hc4⟩:=fC h.Dh (by omega);obtain⟨la,lp,rfl,hl1,hl2⟩:=aK h.log;have HA:=hdq h;have hcl:=h.tQ;have hcal:ca<w.heap.size:=hcur.lt;unfold bI;go_enter func289,ntmps289
 have hlt1:¬(q:Int)<0:=by omega
 have hlt2:¬(s.C.length:Int)<=(q:Int):=by omega
 go_upto_region 3 with fail
 obtain⟨W,hW⟩:∃W,((w.alloc (.cells #[.slice (some ⟨ca,0,none⟩) s.C.length cp,(s.most:Int),.slice la s.L.length lp] 33)).alloc (.cells #[True,(),True] 33)).alloc (.cells #[(),(),.int .u64 0,.int .u64 0,false] 197)=W:=⟨_,rfl⟩;rw[hW];have Fy:Hid (Touch [] w W):=hW▸(((Touch.refl [] w).alloc _).alloc _).alloc _;have EW:=hdq ((((BD.nil' w).alloc 33 #[.slice (some ⟨ca,0,none⟩) s.C.length cp,(s.most:Int),.slice la s.L.length lp]).alloc 33 #[True,(),True]).alloc 197 #[(),(),.int .u64 0,.int .u64 0,false]);rw[hW]at EW;simp only[nAq,cAq,World.size_alloc]at EW;have HRW:=hdq (HA.o.touch Fy.o);have cW:W.cell? ⟨ca,q,none⟩=some (.int .u64 (was:Int)):=by
  rw[dI HRW.o.Dh q (by rw[cO];exact hq)];simp[words,EH.o]
 obtain⟨b0,_,_,_,_,_,hl5⟩:=EW.o.c3 0 rfl;have HE:=hdq (gF W 53 1);have Hf:=hdq ((Touch.refl [] W).alloc (.cells #[] 53));go_upto_region 17 with (at_builtin;go_must (refine bW _ rfl (.tmp 51) (.tmp 53) 30 rfl 53 i0 (.int .u64 0) 1 8 underlying30 hi CY CU CX rfl (by decide) (.slice (some ⟨W.heap.size,0,none⟩) 0 0) 0 [] rfl HE.o (.slice (some ⟨ca,0,none⟩) s.C.length cp) s.C.length (words s.C) rfl (dW HRW.o.Dh Hf.o (by simp)) (iR _) (by simp only[maxLen];omega) (by omega) ?_);intro a1 c1 w1 hown hgrow hat;refine Hid.o ?_)
 rw[Nat.zero_add,List.nil_append]at hown;rw[Nat.zero_add]at hat;obtain⟨g1,c1',cur1,hv1,Fh,_,_,_,_⟩:=fC hown (by omega);injection hv1 with e1 e2 e3
 subst e1 e3;have BB:=hdq ((EW.o.new (t':=row 53 1 (.slice (some ⟨W.heap.size,0,none⟩) 0 0) 0 []) ⟨rfl,HE.o⟩ ⟨(Touch.refl [] W).alloc _,fun k hk=> .inr (by simp[sb,Value.ownBlock]at hk;omega)⟩).grown 3 rfl hgrow hown hat);simp only[nAq,cAq,sSq,sZq]at BB;have hwd:=EW.o.size;have o1:w1.cell? ⟨g1,q,none⟩=some (.int .u64 (was:Int)):=by
  rw[dI hown q (by rw[cO];exact hq)];simp[words,EH.o]
 have o2:=dH hown q;obtain⟨b0,_,_,_,_,_,hl5⟩:=BB.o.c3 0 rfl;refine hdq ?_;go_upto_region 17 with fail
 obtain⟨V,hV⟩:∃V,(w1.setCell ⟨g1,q,none⟩ (.int .u64 (was:Int))).alloc (.cells #[(1:Int),(q:Int),.int .u64 (was:Int),.int .u64 (was:Int),true] 197)=V:=⟨_,rfl⟩;have DK:=hdq ((BB.o.tZ 3 rfl q (.int .u64 (was:Int))).alloc 197 #[(1:Int),(q:Int),.int .u64 (was:Int),.int .u64 (was:Int),true]);rw[hV,<-jB]at DK;simp only[nAq,cAq,sSq,sZq,World.size_setCell]at DK;obtain⟨b17,ED⟩:∃b17,w1.heap.size=b17:=⟨_,rfl⟩;rw[hV,ED];rw[ED]at DK;obtain⟨v0,v1,v2,_,_,_,hl5⟩:=DK.o.c3 0 rfl;obtain⟨x0,x1,x2,x3,x4,_,_,_,_,_,CZ⟩:=DK.o.c5 4 rfl;obtain⟨_,_,_,_,_,_,DY⟩:=DK.o.c3 1 rfl;obtain⟨_,_,_,_,_,_,_,_,_,_,D5⟩:=DK.o.c5 2 rfl;have n1:=DK.o.ne 4 1 rfl rfl (by decide);have n2:=DK.o.ne 4 2 rfl rfl (by decide);have n3:=Ne.symm n1;have n4:=Ne.symm n2;have n5:w.heap.size≠w.heap.size+1+1:=by omega
 have n6:w.heap.size+1+1≠w.heap.size:=by omega
 have GI:Hid (V.ownsRow 0 197 5 (.slice la s.L.length lp) s.L.length (aJ s.L)):=dN HA.o.log (fun k hk=>DK.o.below.block k (iW HA.o.log k hk));have Gj:=hdq ((DK.o.iB 197 5).drew);have Gs:=hdq (((DK.o.iB 197 5).alloc 197 #[(1:Int),(q:Int),.int .u64 (was:Int),.int .u64 (was:Int),true]).drew);have Gm:=hdq ((((DK.o.alloc 197 #[(1:Int),(q:Int),.int .u64 (was:Int),.int .u64 (was:Int),true]).iB 197 5).drew).pick [0,1,2,3,4,6,5] (by decide) (by simp));simp only[nAq,cAq,World.size_alloc,List.filterMap_cons,List.filterMap_nil,List.getElem?_cons_zero,List.getElem?_cons_succ]at Gj Gs Gm;have HRa:=hdq (dx (GI.o.alloc (.cells #[] 197)));have HRb:=hdq (dx ((GI.o.alloc (.cells #[] 197)).alloc (.cells #[(1:Int),(q:Int),.int .u64 (was:Int),.int .u64 (was:Int),true] 197)));have HRc:=hdq (dx ((GI.o.alloc (.cells #[(1:Int),(q:Int),.int .u64 (was:Int),.int .u64 (was:Int),true] 197)).alloc (.cells #[] 197)));go_region_held3 (fun w'=>w'.cell? ⟨w.heap.size,1,none⟩=some (.int .i64 (s.most:Int))/\w'.cell? ⟨w.heap.size,2,none⟩=some (.slice la s.L.length lp)/\w'.cell? ⟨b17,0,none⟩=some (.int .i64 1)/\w'.cell? ⟨b17,1,none⟩=some (.int .i64 (q:Int))/\w'.cell? ⟨b17,2,none⟩=some (.int .u64 (was:Int))/\w'.cell? ⟨b17,3,none⟩=some (.int .u64 (was:Int))/\w'.cell? ⟨b17,4,none⟩=some (.bool true)) (go_keep) (first
  |(refine aR _ (by rfl) (.tmp 68) (.tmp 70) 31 (by rfl) 197 j0 _ 5 40 underlying31 hj EZ jz1 ER rfl (by decide) (.slice (some ⟨V.heap.size,0,none⟩) 0 0) 0 [] (by rfl) (Gj.o.row 5 rfl) (.slice la s.L.length lp) s.L.length (aJ s.L) (by rfl) HRa.o (dV _) (by simp only[maxLen];omega) (by omega) ?_;intro a2 c2 w2 hown hgrow hat;simp only[Nat.zero_add,nAq]at hown hat|-;have HL2:=hdq (Gj.o.grown 5 rfl hgrow hown hat);simp only[sSq,sZq]at HL2;obtain⟨v0,v1,v2,_,_,_,hl5⟩:=HL2.o.c3 0 rfl;obtain⟨x0,x1,x2,x3,x4,_,_,_,_,_,CZ⟩:=HL2.o.c5 4 rfl;obtain⟨Ef,_,_,E5,_,_,DY⟩:=HL2.o.c3 1 rfl;obtain⟨FM,_,_,_,_,FQ,_,_,_,_,D5⟩:=HL2.o.c5 2 rfl)
  |(refine aR _ (by rfl) (.tmp 68) (.tmp 70) 31 (by rfl) 197 j0 _ 5 40 underlying31 hj EZ jz1 ER rfl (by decide) (.slice (some ⟨V.heap.size,0,none⟩) 0 0) 0 [] (by rfl) (Gs.o.row 5 rfl) (.slice la s.L.length lp) s.L.length (aJ s.L) (by rfl) HRb.o (dV _) (by simp only[maxLen];omega) (by omega) ?_;intro a2 c2 w2 hown hgrow hat;simp only[Nat.zero_add,nAq]at hown hat|-;have HL2:=hdq (Gs.o.grown 5 rfl hgrow hown hat);simp only[sSq,sZq]at HL2;obtain⟨v0,v1,v2,_,_,_,hl5⟩:=HL2.o.c3 0 rfl;obtain⟨x0,x1,x2,x3,x4,_,_,_,_,_,CZ⟩:=HL2.o.c5 4 rfl;obtain⟨Ef,_,_,E5,_,_,DY⟩:=HL2.o.c3 1 rfl;obtain⟨FM,_,_,_,_,FQ,_,_,_,_,D5⟩:=HL2.o.c5 2 rfl)
  |(refine aR _ (by rfl) (.tmp 68) (.tmp 70) 31 (by rfl) 197 j0 _ 5 40 underlying31 hj EZ jz1 ER rfl (by decide) (.slice (some ⟨V.heap.size+1,0,none⟩) 0 0) 0 [] (by rfl) (Gm.o.row 5 rfl) (.slice la s.L.length lp) s.L.length (aJ s.L) (by rfl) HRc.o (dV _) (by simp only[maxLen];omega) (by omega) ?_;intro a2 c2 w2 hown hgrow hat;simp only[Nat.zero_add,nAq]at hown hat|-;have HL2:=hdq (Gm.o.grown 5 rfl hgrow hown hat);simp only[sSq,sZq]at HL2;obtain⟨v0,v1,v2,_,_,_,hl5⟩:=HL2.o.c3 0 rfl;obtain⟨x0,x1,x2,x3,x4,_,_,_,_,_,CZ⟩:=HL2.o.c5 4 rfl;obtain⟨Ef,_,_,E5,_,_,DY⟩:=HL2.o.c3 1 rfl;obtain⟨FM,_,_,_,_,FQ,_,_,_,_,D5⟩:=HL2.o.c5 2 rfl)
  |(refine aR _ (by rfl) (.tmp 71) (.tmp 73) 31 (by rfl) 197 j0 _ 5 40 underlying31 hj EZ jz1 ER rfl (by decide) (.slice a2 s.L.length c2) s.L.length (aJ s.L) (by rfl) ((HL2.o.alloc _ _).row 5 rfl) (.slice (some ⟨w2.heap.size,0,none⟩) 1 1) 1 (Acc.cells ⟨1,q,was,was,true⟩) (by rfl) (ig ((HL2.o.alloc _ _).box 6 rfl)) (gZ _) (by simp only[maxLen];omega) (by omega) ?_;intro a3 c3 w3 hown hgrow hat;have BF:=hdq ((HL2.o.alloc _ _).grown 5 rfl hgrow hown hat);simp only[sSq,sZq,cAq,nAq]at BF;obtain⟨v0,v1,v2,_,_,_,hl5⟩:=BF.o.c3 0 rfl;obtain⟨x0,x1,x2,x3,x4,_,_,_,_,_,CZ⟩:=BF.o.c5 4 rfl;obtain⟨Ef,GJ,GA,E5,Gv,GH,DY⟩:=BF.o.c3 1 rfl;obtain⟨FM,Gf,Gt,Gu,Gx,FQ,GD,GQ,Gp,Gq,D5⟩:=BF.o.c5 2 rfl)
  |(refine aR _ (by rfl) (.tmp 71) (.tmp 73) 31 (by rfl) 197 j0 _ 5 40 underlying31 hj EZ jz1 ER rfl (by decide) (.slice a2 s.L.length c2) s.L.length (aJ s.L) (by rfl) (HL2.o.row 5 rfl) (.slice (some ⟨_,0,none⟩) 1 1) 1 (Acc.cells ⟨1,q,was,was,true⟩) (by rfl) (ig (HL2.o.box 6 rfl)) (gZ _) (by simp only[maxLen];omega) (by omega) ?_;intro a3 c3 w3 hown hgrow hat;have BF:=hdq (HL2.o.grown 5 rfl hgrow hown hat);simp only[sSq,sZq,cAq,nAq]at BF;obtain⟨v0,v1,v2,_,_,_,hl5⟩:=BF.o.c3 0 rfl;obtain⟨x0,x1,x2,x3,x4,_,_,_,_,_,CZ⟩:=BF.o.c5 4 rfl;obtain⟨Ef,GJ,GA,E5,Gv,GH,DY⟩:=BF.o.c3 1 rfl;obtain⟨FM,Gf,Gt,Gu,Gx,FQ,GD,GQ,Gp,Gq,D5⟩:=BF.o.c5 2 rfl))
 all_goals go_wp2
 all_goals have FE:=hdq ((((((((BF.o.set 1 rfl 0 (.slice (some ⟨g1,0,none⟩) s.C.length c1)).set 1 rfl 1 (.int .i64 (s.most:Int))).set 1 rfl 2 (.slice a3 (s.L.length+1) c3)).set 2 rfl 0 (.int .i64 1)).set 2 rfl 1 (.int .i64 (q:Int))).set 2 rfl 2 (.int .u64 (was:Int))).set 2 rfl 3 (.int .u64 (was:Int))).set 2 rfl 4 (.bool true))
 all_goals simp only[sSq,sZq,sAq]at FE
 all_goals obtain⟨y0,y1,y2,_,_,_,_⟩:=FE.o.c3 1 rfl
 all_goals obtain⟨z0,z1,z2,z3,z4,_,_,_,_,_,_⟩:=FE.o.c5 2 rfl
 all_goals refine bodyPost_ret (v:= .tuple #[.agg #[.slice (some ⟨g1,0,none⟩) s.C.length c1,(s.most:Int),.slice a3 (s.L.length+1) c3],.agg #[(1:Int),(q:Int),.int .u64 (was:Int),.int .u64 (was:Int),true],()]) (by simp[results,results289,go_sem,y0,y1,y2,z0,z1,z2,z3,z4]) rfl ?_
 all_goals exact je (x:=⟨1,q,was,was,true⟩) HA.o FE.o rfl rfl EH.o hq
theorem vJ(w:World)(vc vl:Value)(s:Ar)(q:Nat)(was:Nat)(v:Nat)(y:Int)(h:gu w vc vl s)(hq:q<s.C.length)(EH:Hid (s.C[q]=was))(hL:s.L.length<=1048576):
  Calls prog 289 #[bI vc s.most vl,(2:Int),(q:Int),.int .u64 (v:Int),.int .u64 y] w (jq w vc vl s (s.acc 2 q v true,⟨2,q,was,v,true⟩,0)):=by
 obtain⟨i0,hi,CY,CU,CX⟩:=info_parts fB;obtain⟨j0,hj,EZ,jz1,ER⟩:=info_parts gy;obtain⟨ca,cp,cur,rfl,hcur,hc1,hc2,hc3,hc4⟩:=fC h.Dh (by omega);obtain⟨la,lp,rfl,hl1,hl2⟩:=aK h.log;have HA:=hdq h;have hcl:=h.tQ;have hcal:ca<w.heap.size:=hcur.lt;unfold bI;go_enter func289,ntmps289
 have hlt1:¬(q:Int)<0:=by omega
 have hlt2:¬(s.C.length:Int)<=(q:Int):=by omega
 go_upto_region 3 with fail
 obtain⟨W,hW⟩:∃W,((w.alloc (.cells #[.slice (some ⟨ca,0,none⟩) s.C.length cp,(s.most:Int),.slice la s.L.length lp] 33)).alloc (.cells #[True,(),True] 33)).alloc (.cells #[(),(),.int .u64 0,.int .u64 0,false] 197)=W:=⟨_,rfl⟩;rw[hW];have Fy:Hid (Touch [] w W):=hW▸(((Touch.refl [] w).alloc _).alloc _).alloc _;have EW:=hdq ((((BD.nil' w).alloc 33 #[.slice (some ⟨ca,0,none⟩) s.C.length cp,(s.most:Int),.slice la s.L.length lp]).alloc 33 #[True,(),True]).alloc 197 #[(),(),.int .u64 0,.int .u64 0,false]);rw[hW]at EW;simp only[nAq,cAq,World.size_alloc]at EW;have HRW:=hdq (HA.o.touch Fy.o);have cW:W.cell? ⟨ca,q,none⟩=some (.int .u64 (was:Int)):=by
  rw[dI HRW.o.Dh q (by rw[cO];exact hq)];simp[words,EH.o]
 obtain⟨b0,_,_,_,_,_,hl5⟩:=EW.o.c3 0 rfl;have HE:=hdq (gF W 53 1);have Hf:=hdq ((Touch.refl [] W).alloc (.cells #[] 53));go_upto_region 17 with (at_builtin;go_must (refine bW _ rfl (.tmp 51) (.tmp 53) 30 rfl 53 i0 (.int .u64 0) 1 8 underlying30 hi CY CU CX rfl (by decide) (.slice (some ⟨W.heap.size,0,none⟩) 0 0) 0 [] rfl HE.o (.slice (some ⟨ca,0,none⟩) s.C.length cp) s.C.length (words s.C) rfl (dW HRW.o.Dh Hf.o (by simp)) (iR _) (by simp only[maxLen];omega) (by omega) ?_);intro a1 c1 w1 hown hgrow hat;refine Hid.o ?_)
 rw[Nat.zero_add,List.nil_append]at hown;rw[Nat.zero_add]at hat;obtain⟨g1,c1',cur1,hv1,Fh,_,_,_,_⟩:=fC hown (by omega);injection hv1 with e1 e2 e3
 subst e1 e3;have BB:=hdq ((EW.o.new (t':=row 53 1 (.slice (some ⟨W.heap.size,0,none⟩) 0 0) 0 []) ⟨rfl,HE.o⟩ ⟨(Touch.refl [] W).alloc _,fun k hk=> .inr (by simp[sb,Value.ownBlock]at hk;omega)⟩).grown 3 rfl hgrow hown hat);simp only[nAq,cAq,sSq,sZq]at BB;have hwd:=EW.o.size;have o1:w1.cell? ⟨g1,q,none⟩=some (.int .u64 (was:Int)):=by
  rw[dI hown q (by rw[cO];exact hq)];simp[words,EH.o]
 have o2:=dH hown q;obtain⟨b0,_,_,_,_,_,hl5⟩:=BB.o.c3 0 rfl;refine hdq ?_;go_upto_region 17 with fail
 obtain⟨V,hV⟩:∃V,(w1.setCell ⟨g1,q,none⟩ (.int .u64 (v:Int))).alloc (.cells #[(2:Int),(q:Int),.int .u64 (was:Int),.int .u64 (v:Int),true] 197)=V:=⟨_,rfl⟩;have DK:=hdq ((BB.o.tZ 3 rfl q (.int .u64 (v:Int))).alloc 197 #[(2:Int),(q:Int),.int .u64 (was:Int),.int .u64 (v:Int),true]);rw[hV,<-jB]at DK;simp only[nAq,cAq,sSq,sZq,World.size_setCell]at DK;obtain⟨b17,ED⟩:∃b17,w1.heap.size=b17:=⟨_,rfl⟩;rw[hV,ED];rw[ED]at DK;obtain⟨v0,v1,v2,_,_,_,hl5⟩:=DK.o.c3 0 rfl;obtain⟨x0,x1,x2,x3,x4,_,_,_,_,_,CZ⟩:=DK.o.c5 4 rfl;obtain⟨_,_,_,_,_,_,DY⟩:=DK.o.c3 1 rfl;obtain⟨_,_,_,_,_,_,_,_,_,_,D5⟩:=DK.o.c5 2 rfl;have n1:=DK.o.ne 4 1 rfl rfl (by decide);have n2:=DK.o.ne 4 2 rfl rfl (by decide);have n3:=Ne.symm n1;have n4:=Ne.symm n2;have n5:w.heap.size≠w.heap.size+1+1:=by omega
 have n6:w.heap.size+1+1≠w.heap.size:=by omega
 have GI:Hid (V.ownsRow 0 197 5 (.slice la s.L.length lp) s.L.length (aJ s.L)):=dN HA.o.log (fun k hk=>DK.o.below.block k (iW HA.o.log k hk));have Gj:=hdq ((DK.o.iB 197 5).drew);have Gs:=hdq (((DK.o.iB 197 5).alloc 197 #[(2:Int),(q:Int),.int .u64 (was:Int),.int .u64 (v:Int),true]).drew);have Gm:=hdq ((((DK.o.alloc 197 #[(2:Int),(q:Int),.int .u64 (was:Int),.int .u64 (v:Int),true]).iB 197 5).drew).pick [0,1,2,3,4,6,5] (by decide) (by simp));simp only[nAq,cAq,World.size_alloc,List.filterMap_cons,List.filterMap_nil,List.getElem?_cons_zero,List.getElem?_cons_succ]at Gj Gs Gm;have HRa:=hdq (dx (GI.o.alloc (.cells #[] 197)));have HRb:=hdq (dx ((GI.o.alloc (.cells #[] 197)).alloc (.cells #[(2:Int),(q:Int),.int .u64 (was:Int),.int .u64 (v:Int),true] 197)));have HRc:=hdq (dx ((GI.o.alloc (.cells #[(2:Int),(q:Int),.int .u64 (was:Int),.int .u64 (v:Int),true] 197)).alloc (.cells #[] 197)));go_region_held3 (fun w'=>w'.cell? ⟨w.heap.size,1,none⟩=some (.int .i64 (s.most:Int))/\w'.cell? ⟨w.heap.size,2,none⟩=some (.slice la s.L.length lp)/\w'.cell? ⟨b17,0,none⟩=some (.int .i64 2)/\w'.cell? ⟨b17,1,none⟩=some (.int .i64 (q:Int))/\w'.cell? ⟨b17,2,none⟩=some (.int .u64 (was:Int))/\w'.cell? ⟨b17,3,none⟩=some (.int .u64 (v:Int))/\w'.cell? ⟨b17,4,none⟩=some (.bool true)) (go_keep) (first
  |(refine aR _ (by rfl) (.tmp 68) (.tmp 70) 31 (by rfl) 197 j0 _ 5 40 underlying31 hj EZ jz1 ER rfl (by decide) (.slice (some ⟨V.heap.size,0,none⟩) 0 0) 0 [] (by rfl) (Gj.o.row 5 rfl) (.slice la s.L.length lp) s.L.length (aJ s.L) (by rfl) HRa.o (dV _) (by simp only[maxLen];omega) (by omega) ?_;intro a2 c2 w2 hown hgrow hat;simp only[Nat.zero_add,nAq]at hown hat|-;have HL2:=hdq (Gj.o.grown 5 rfl hgrow hown hat);simp only[sSq,sZq]at HL2;obtain⟨v0,v1,v2,_,_,_,hl5⟩:=HL2.o.c3 0 rfl;obtain⟨x0,x1,x2,x3,x4,_,_,_,_,_,CZ⟩:=HL2.o.c5 4 rfl;obtain⟨Ef,_,_,E5,_,_,DY⟩:=HL2.o.c3 1 rfl;obtain⟨FM,_,_,_,_,FQ,_,_,_,_,D5⟩:=HL2.o.c5 2 rfl)
  |(refine aR _ (by rfl) (.tmp 68) (.tmp 70) 31 (by rfl) 197 j0 _ 5 40 underlying31 hj EZ jz1 ER rfl (by decide) (.slice (some ⟨V.heap.size,0,none⟩) 0 0) 0 [] (by rfl) (Gs.o.row 5 rfl) (.slice la s.L.length lp) s.L.length (aJ s.L) (by rfl) HRb.o (dV _) (by simp only[maxLen];omega) (by omega) ?_;intro a2 c2 w2 hown hgrow hat;simp only[Nat.zero_add,nAq]at hown hat|-;have HL2:=hdq (Gs.o.grown 5 rfl hgrow hown hat);simp only[sSq,sZq]at HL2;obtain⟨v0,v1,v2,_,_,_,hl5⟩:=HL2.o.c3 0 rfl;obtain⟨x0,x1,x2,x3,x4,_,_,_,_,_,CZ⟩:=HL2.o.c5 4 rfl;obtain⟨Ef,_,_,E5,_,_,DY⟩:=HL2.o.c3 1 rfl;obtain⟨FM,_,_,_,_,FQ,_,_,_,_,D5⟩:=HL2.o.c5 2 rfl)
  |(refine aR _ (by rfl) (.tmp 68) (.tmp 70) 31 (by rfl) 197 j0 _ 5 40 underlying31 hj EZ jz1 ER rfl (by decide) (.slice (some ⟨V.heap.size+1,0,none⟩) 0 0) 0 [] (by rfl) (Gm.o.row 5 rfl) (.slice la s.L.length lp) s.L.length (aJ s.L) (by rfl) HRc.o (dV _) (by simp only[maxLen];omega) (by omega) ?_;intro a2 c2 w2 hown hgrow hat;simp only[Nat.zero_add,nAq]at hown hat|-;have HL2:=hdq (Gm.o.grown 5 rfl hgrow hown hat);simp only[sSq,sZq]at HL2;obtain⟨v0,v1,v2,_,_,_,hl5⟩:=HL2.o.c3 0 rfl;obtain⟨x0,x1,x2,x3,x4,_,_,_,_,_,CZ⟩:=HL2.o.c5 4 rfl;obtain⟨Ef,_,_,E5,_,_,DY⟩:=HL2.o.c3 1 rfl;obtain⟨FM,_,_,_,_,FQ,_,_,_,_,D5⟩:=HL2.o.c5 2 rfl)
  |(refine aR _ (by rfl) (.tmp 71) (.tmp 73) 31 (by rfl) 197 j0 _ 5 40 underlying31 hj EZ jz1 ER rfl (by decide) (.slice a2 s.L.length c2) s.L.length (aJ s.L) (by rfl) ((HL2.o.alloc _ _).row 5 rfl) (.slice (some ⟨w2.heap.size,0,none⟩) 1 1) 1 (Acc.cells ⟨2,q,was,v,true⟩) (by rfl) (ig ((HL2.o.alloc _ _).box 6 rfl)) (gZ _) (by simp only[maxLen];omega) (by omega) ?_;intro a3 c3 w3 hown hgrow hat;have BF:=hdq ((HL2.o.alloc _ _).grown 5 rfl hgrow hown hat);simp only[sSq,sZq,cAq,nAq]at BF;obtain⟨v0,v1,v2,_,_,_,hl5⟩:=BF.o.c3 0 rfl;obtain⟨x0,x1,x2,x3,x4,_,_,_,_,_,CZ⟩:=BF.o.c5 4 rfl;obtain⟨Ef,GJ,GA,E5,Gv,GH,DY⟩:=BF.o.c3 1 rfl;obtain⟨FM,Gf,Gt,Gu,Gx,FQ,GD,GQ,Gp,Gq,D5⟩:=BF.o.c5 2 rfl)
  |(refine aR _ (by rfl) (.tmp 71) (.tmp 73) 31 (by rfl) 197 j0 _ 5 40 underlying31 hj EZ jz1 ER rfl (by decide) (.slice a2 s.L.length c2) s.L.length (aJ s.L) (by rfl) (HL2.o.row 5 rfl) (.slice (some ⟨_,0,none⟩) 1 1) 1 (Acc.cells ⟨2,q,was,v,true⟩) (by rfl) (ig (HL2.o.box 6 rfl)) (gZ _) (by simp only[maxLen];omega) (by omega) ?_;intro a3 c3 w3 hown hgrow hat;have BF:=hdq (HL2.o.grown 5 rfl hgrow hown hat);simp only[sSq,sZq,cAq,nAq]at BF;obtain⟨v0,v1,v2,_,_,_,hl5⟩:=BF.o.c3 0 rfl;obtain⟨x0,x1,x2,x3,x4,_,_,_,_,_,CZ⟩:=BF.o.c5 4 rfl;obtain⟨Ef,GJ,GA,E5,Gv,GH,DY⟩:=BF.o.c3 1 rfl;obtain⟨FM,Gf,Gt,Gu,Gx,FQ,GD,GQ,Gp,Gq,D5⟩:=BF.o.c5 2 rfl))
 all_goals go_wp2
 all_goals have FE:=hdq ((((((((BF.o.set 1 rfl 0 (.slice (some ⟨g1,0,none⟩) s.C.length c1)).set 1 rfl 1 (.int .i64 (s.most:Int))).set 1 rfl 2 (.slice a3 (s.L.length+1) c3)).set 2 rfl 0 (.int .i64 2)).set 2 rfl 1 (.int .i64 (q:Int))).set 2 rfl 2 (.int .u64 (was:Int))).set 2 rfl 3 (.int .u64 (v:Int))).set 2 rfl 4 (.bool true))
 all_goals simp only[sSq,sZq,sAq]at FE
 all_goals obtain⟨y0,y1,y2,_,_,_,_⟩:=FE.o.c3 1 rfl
 all_goals obtain⟨z0,z1,z2,z3,z4,_,_,_,_,_,_⟩:=FE.o.c5 2 rfl
 all_goals refine bodyPost_ret (v:= .tuple #[.agg #[.slice (some ⟨g1,0,none⟩) s.C.length c1,(s.most:Int),.slice a3 (s.L.length+1) c3],.agg #[(2:Int),(q:Int),.int .u64 (was:Int),.int .u64 (v:Int),true],()]) (by simp[results,results289,go_sem,y0,y1,y2,z0,z1,z2,z3,z4]) rfl ?_
 all_goals exact je (x:=⟨2,q,was,v,true⟩) HA.o FE.o rfl rfl EH.o hq
end Go.Proofs.YtddnnapoaonmjaaGreatDoor
