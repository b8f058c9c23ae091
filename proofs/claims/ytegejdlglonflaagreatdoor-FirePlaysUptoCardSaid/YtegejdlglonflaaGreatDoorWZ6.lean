/-
  Texts of FirePlays, laid together by program.
-/
import Derived.Test.YtegejdlglonflaaGreatDoorWZ3
import Derived.Test.YtegejdlglonflaaGreatDoorWZ4
import Derived.Test.YtegejdlglonflaaGreatDoorWZ5
import Derived.MapKept
import Derived.Defers
import Derived.Recover
namespace Go.Proofs.YtegejdlglonflaaGreatDoor
open Go.RowKit Go.Shelf Go.Proofs.Tryz
set_option maxRecDepth 100000
set_option maxHeartbeats 8000000
set_option linter.unusedVariables false
set_option linter.unusedSimpArgs false
section
open Go.RowKit
section
variable {P:Program} {t e:TypeId} {i:TypeInfo} (ht:P.underlying t=some (.slice e)) (hi:P.info? e=some i)
include ht hi
theorem kZ(a:Option Addr)(n cap lo:Nat)(hlo:lo<=n)(hn:n<=cap):∃sa:Option Addr,(n=lo\/sa=a.map (·.add (lo*i.size)))/\∀W,(Instr.slice t (.slice a n cap) (some (.int .i64 (lo:Int))) none none).run P W= .ok (.slice sa (n-lo) (cap-lo)) W:=by
 refine⟨if cap=lo then a else a.map (·.add (lo*i.size)),?_,fun W=>?_⟩
 .by_cases hc:cap=lo
  .exact .inl (by omega)
  .exact .inr (by rw[if_neg hc])
 .have h1:(0:Int)<=(lo:Int)/\(lo:Int)<=(n:Int):=by omega
  simp[Instr.slice,run_underlying ht,Instr.sliceBounds,Instr.sliceBound,asIntOf,h1,sizeOf,typeInfo,hi]
  intro h;omega
theorem UH(a:Option Addr)(n cap up:Nat)(hup:up<=cap)(W:World):(Instr.slice t (.slice a n cap) none (some (.int .i64 (up:Int))) none).run P W= .ok (.slice a up cap) W:=by
 have h1:(0:Int)<=(up:Int)/\(up:Int)<=(cap:Int):=by omega
 have h2:(if cap=0 then a else a.map (·.add (0*i.size)))=a:=by
  split
  .rfl
  .cases a with
   |none=>rfl
   |some a=>simp[Addr.add]
 simp only[Nat.zero_mul]at h2;simp[Instr.slice,run_underlying ht,Instr.sliceBounds,Instr.sliceBound,asIntOf,h1,sizeOf,typeInfo,hi]
 rw[if_pos hup,h2]
theorem qV(a:Option Addr)(n cap up:Nat)(hup:up<=cap)(W:World):(Instr.slice t (.slice a n cap) none (some (.int .i64 (up:Int))) (some (.int .i64 (up:Int)))).run P W= .ok (.slice a up up) W:=by
 have h1:(0:Int)<=(up:Int)/\(up:Int)<=(cap:Int):=by omega
 have h3:(0:Int)<=(up:Int)/\(up:Int)<=(up:Int):=by omega
 have h2:(if up=0 then a else a.map (·.add (0*i.size)))=a:=by
  split
  .rfl
  .cases a with
   |none=>rfl
   |some a=>simp[Addr.add]
 simp only[Nat.zero_mul]at h2;simp[Instr.slice,run_underlying ht,Instr.sliceBounds,Instr.sliceBound,asIntOf,h1,h3,sizeOf,typeInfo,hi]
 rw[if_pos hup,h2]
end
theorem vR{w:World}{e size g n cap lo:Nat}{xs:List Value}(h:dZ w e size (.slice (some ⟨g,0,none⟩) n cap) n xs){sa:Option Addr}{k:Nat}(hk:lo*k=lo*size)(hs:n=lo\/sa=(some (⟨g,0,none⟩:Addr)).map (·.add (lo*k))):
  n-lo=0\/∃a,sa=some a/\∀j u,(xs.drop (lo*size))[j]? =some u->w.cell? (a.add j)=some u:=by
 rcases hs with h0|rfl
 .exact .inl (by omega)
 .refine .inr ⟨_,rfl,fun j u hu=>?_⟩
  show w.cell? (((⟨g,0,none⟩:Addr).add (lo*k)).add j)=some u
  rw[hk,Addr.add_lit,Addr.add_lit,Nat.zero_add];rw[List.getElem?_drop]at hu;obtain⟨hj,rfl⟩:=List.getElem?_eq_some_iff.1 hu;exact eT h _ hj
end
def fZ(b:Nat)(o:Obj):ai where
 holds w fp:=fp=[b]/\w.heap[b]? =some o
 keep:=fun⟨h1,h2⟩ he=>⟨h1,(he b (by simp[h1])).trans h2⟩
 lt:=fun⟨h1,h2⟩ k hk=>by subst h1;simp at hk;subst hk;exact(Array.getElem?_eq_some_iff.1 h2).1
def marks(D:Nat)(o:Obj):List ai:=[mark D,fZ (D+1) o]
def Y0(D:Nat):List ai:=[mark D,some1 (D+1)]
section
variable {T:List Nat} {w0 w w':World} {l:List ai} {D:Nat}
theorem BD.aF{m:List ai}(h:BD T w0 w (l++m)):BD T w0 w l:=by
 obtain⟨hb,F,h1,h2⟩:=h;exact⟨hb,F,fun i t hi=>h1 i t (by rw[List.getElem?_append_left (List.getElem?_eq_some_iff.1 hi).1];exact hi),fun i j hi hj=>h2 i j (by simp;omega) (by simp;omega)⟩
theorem BD.Y3(h:BD T w0 w (l++Y0 D)):∃o,BD T w0 w (l++marks D o):=by
 have hi:(l++Y0 D)[l.length+1]? =some (some1 (D+1)):=by simp[Y0]
 obtain⟨f,⟨hf,hb⟩,_,hs⟩:=h.step (l.length+1) hi;subst hf;refine⟨w.heap[D+1],?_⟩;have :=hs w (fZ (D+1) w.heap[D+1]) [D+1] ⟨rfl,Array.getElem?_eq_getElem hb⟩ (AA.refl _ _);simpa[Y0,marks,List.set_append]using this
theorem BD.Y1{o:Obj}(h:BD T w0 w (l++marks D o)):BD T w0 w (l++Y0 D):=by
 have hi:(l++marks D o)[l.length+1]? =some (fZ (D+1) o):=by simp[marks]
 obtain⟨f,⟨hf,hb⟩,_,hs⟩:=h.step (l.length+1) hi;subst hf;have :=hs w (some1 (D+1)) [D+1] ⟨rfl,(Array.getElem?_eq_some_iff.1 hb).1⟩ (AA.refl _ _);simpa[Y0,marks,List.set_append]using this
theorem BD.Zh{o o':Obj}{m:List ai}(h:BD T w0 w (l++marks D o++m)):BD T w0 (w.putObj (D+1) o') (l++marks D o'++m):=by
 have hi:(l++marks D o++m)[l.length+1]? =some (fZ (D+1) o):=by simp[marks]
 obtain⟨f,⟨hf,hb⟩,_,hs⟩:=h.step (l.length+1) hi;subst hf;have :=hs (w.putObj (D+1) o') (fZ (D+1) o') [D+1] ⟨rfl,World.putObj_heap_same (Array.getElem?_eq_some_iff.1 hb).1⟩ ⟨(Touch.refl _ w).putObj (.inr (by simp)) o',fun k hk=> .inl hk⟩;simpa[Y0,marks,List.set_append]using this
theorem BD.Zl{o':Obj}(h:BD T w0 w (l++Y0 D)):BD T w0 (w.putObj (D+1) o') (l++Y0 D):=by
 obtain⟨o,ho⟩:=h.Y3;have :=BD.Zh (m:=[]) (o':=o') (by simpa using ho);simp only[List.append_nil]at this;exact this.Y1
theorem BD.Ze{o:Obj}{m:List ai}(h:BD T w0 w (l++marks D o++m)):w.heap[D]? =some (.deferred (some []))/\w.heap[D+1]? =some o:=by
 have h1:(l++marks D o++m)[l.length]? =some (Proofs.YtegejdlglonflaaGreatDoor.mark D):=by simp[marks]
 have h2:(l++marks D o++m)[l.length+1]? =some (fZ (D+1) o):=by simp[marks]
 obtain⟨_,⟨_,h3⟩,_⟩:=h.get _ h2;exact⟨h.mark _ h1,h3⟩
theorem BD.kept{l':List ai}{o:Obj}{m m':List ai}(h:BD T w0 w (l++marks D o++m))(h':BD T w0 w' (l'++marks D o++m')):Kept D w w':=by
 obtain⟨a,b⟩:=h.Ze;obtain⟨c,d⟩:=h'.Ze;exact⟨c.trans a.symm,d.trans b.symm⟩
end
def ZN(T:List Nat)(w0:World)(D:Nat)(o:Obj)(l':List ai)(X:Code->List ai->Prop):Exit->Act->World->Prop
 | .normal,_,W=>∃m,BD T w0 W (l'++marks D o++m)
 | .ret,_,W=>∃lx m,X .ret lx/\BD T w0 W (lx++marks D o++m)
 | .exit id,_,W=>∃lx m,X (.exit id) lx/\BD T w0 W (lx++marks D o++m)
 | .goto t,_,W=>∃lx m,X (.goto t) lx/\BD T w0 W (lx++marks D o++m)
 | .panic _,_,_=>False
 | .outgrown,_,_=>False
section
variable {T:List Nat} {w0 w w':World} {l:List ai}
theorem BD.shut(h:BD T w0 w l)(i:Nat){D:Nat}(hi:l[i]? =some (Proofs.YtegejdlglonflaaGreatDoor.mark D)):BD T w0 (w.putObj D (.deferred none)) (l.set i (some1 D)):=by
 obtain⟨f,⟨hf,hm⟩,_,hs⟩:=h.step i hi;subst hf;exact hs _ (some1 D) [D] ⟨rfl,by simpa using(Array.getElem?_eq_some_iff.1 hm).1⟩ ⟨(Touch.refl _ w).putObj (.inr (by simp)) _,fun k hk=> .inl hk⟩
end
section
open Go.RowKit
def pX(es:List MapEntry)(xs:List Int):Prop:=es.map (fun e=>(e.key,e.val))=xs.map (fun x=>(Value.int .i64 x,Value.bool true))
theorem pX.nil:pX [] []:=rfl
theorem pX.cons{e:MapEntry}{es:List MapEntry}{xs:List Int}(h:pX (e::es) xs):∃x r,xs=x::r/\e.key= .int .i64 x/\e.val= .bool true/\pX es r:=by
 cases xs with
 |nil=>simp[pX]at h
 |cons x r=>simp[pX]at h;exact⟨x,r,rfl,h.1.1,h.1.2,h.2⟩
section
variable {P:Program} {w:World} {t K E:TypeId} {r clock:Nat} {es:Array MapEntry} {xs:List Int}
theorem bO(b:Bool)(n:Nat)(hk:P.underlying K=some (.int .i64))(x:Int):(Instr.checkKey b (n+1) K (.int .i64 x)).run P w= .ok () w:=by
 simp[Instr.checkKey,run_underlying hk]
theorem bR(hk:P.underlying K=some (.int .i64))(x:Int)(l:List MapEntry){o:Option (Nat×Value)}(hf:Instr.findNow (.int .i64) (.int .i64 x) l 0=some o):(Instr.findKey K (.int .i64 x) l).run P w= .ok o w:=by
 simp[Instr.findKey,run_underlying hk,hf]
theorem bX(hr:w.heap[r]? =some (.map es clock)):(getObj r).run P w= .ok (.map es clock) w:=by
 simp[getObj,Sem.run,hr]
theorem ny(o:Obj)(hr:w.heap[r]? =some (.map es clock)):(setObj r o).run P w= .ok () (w.putObj r o):=by
 simp[setObj,Sem.run,hr,World.putObj]
end
end
section
open Go.RowKit
def aA(P:World->Prop):ai where
 holds w fp:=(∀k∈fp,k<w.heap.size)/\∀W,(∀k∈fp,W.heap[k]? =w.heap[k]?)->P W
 keep:=fun{w w' fp} ⟨h1,h2⟩ he=>⟨fun k hk=>by
  have :=he k hk;rw[Array.getElem?_eq_getElem (h1 k hk)]at this;exact(Array.getElem?_eq_some_iff.1 this).1,fun W hW=>h2 W (fun k hk=>(hW k hk).trans (he k hk))⟩
 lt:=fun h k hk=>h.1 k hk
section
variable {T:List Nat} {w0 w w':World} {l:List ai} {P Q:World->Prop} {t t1 t2 t12 t':ai}
theorem BD.still(h:BD T w0 w l)(i:Nat)(hi:l[i]? =some (aA P)):P w:=by
 obtain⟨f,hf,_⟩:=h.get i hi;exact hf.2 w (fun _ _=>rfl)
theorem BD.ZP(h:BD T w0 w l)(i:Nat)(hi:l[i]? =some t)(ht:∀f,t.holds w f->t'.holds w f):BD T w0 w (l.set i t'):=by
 obtain⟨f,hf,_,hs⟩:=h.step i hi;exact hs w t' f (ht f hf) (AA.refl f w)
theorem BD.jh(h:BD T w0 w l)(i:Nat)(hi:l[i]? =some t)(hP:∀W f,t.holds W f->P W):BD T w0 w (l.set i (aA P)):=
 h.ZP i hi (fun f hf=>⟨t.lt hf,fun W hW=>hP W f (t.keep hf hW)⟩)
theorem BD.Mc(h:BD T w0 w (l++[t2]))(j:Nat)(hj:l[j]? =some t1)(hm:∀f1 f2,t1.holds w f1->t2.holds w f2->t12.holds w (f1++f2)):BD T w0 w (l.set j t12):=by
 have hlt:=(List.getElem?_eq_some_iff.1 hj).1;have h1:BD T w0 w ((l.take j++l.drop (j+1))++[t1,t2]):=by
  refine h.uz (fun i=>if i<j then i else if i<l.length-1 then i+1 else if i=l.length-1 then j else l.length) ?_ ?_
  .intro i t hi
   have hil:=(List.getElem?_eq_some_iff.1 hi).1;simp only[List.length_append,List.length_take,List.length_drop,List.length_cons,List.length_nil]at hil;by_cases c1:i<j
   .rw[if_pos c1]
    rw[List.getElem?_append_left (by simp;omega),List.getElem?_append_left (by simp;omega),List.getElem?_take_of_lt c1]at hi;rw[List.getElem?_append_left (by omega)];exact hi
   .rw[if_neg c1]
    by_cases c2:i<l.length-1
    .rw[if_pos c2]
     rw[List.getElem?_append_left (by simp;omega),List.getElem?_append_right (by simp;omega),List.getElem?_drop]at hi;rw[List.getElem?_append_left (by omega)];rw[List.length_take,show j+1+(i-min j l.length)=i+1 by omega]at hi;exact hi
    .rw[if_neg c2]
     rw[List.getElem?_append_right (by simp;omega)]at hi;by_cases c3:i=l.length-1
     .rw[if_pos c3,List.getElem?_append_left hlt,hj]
      rw[show i-(l.take j++l.drop (j+1)).length=0 by simp;omega]at hi;simpa using hi
     .rw[if_neg c3,List.getElem?_append_right (Nat.le_refl _),Nat.sub_self]
      rw[show i-(l.take j++l.drop (j+1)).length=1 by simp;omega]at hi;simpa using hi
  .intro a b ha hb hab
   simp only[List.length_append,List.length_take,List.length_drop,List.length_cons,List.length_nil]at ha hb;split at hab<;>split at hab<;>(try split at hab)<;>(try split at hab)<;>(try split at hab)<;>(try split at hab)<;>omega
 have h2:=h1.merge hm;refine h2.uz (fun i=>if i<j then i else if i=j then l.length-1 else i-1) ?_ ?_
 .intro i t hi
  have hil:=(List.getElem?_eq_some_iff.1 hi).1;simp only[List.length_set]at hil;by_cases c1:i<j
  .rw[if_pos c1,List.getElem?_append_left (by simp;omega),List.getElem?_append_left (by simp;omega),List.getElem?_take_of_lt c1]
   rwa[List.getElem?_set_ne (by omega)]at hi
  .rw[if_neg c1]
   by_cases c2:i=j
   .subst c2
    rw[if_pos rfl,List.getElem?_append_right (by simp;omega),show l.length-1-(l.take i++l.drop (i+1)).length=0 by simp;omega];rw[List.getElem?_set_self hlt]at hi;simpa using hi
   .rw[if_neg c2,List.getElem?_append_left (by simp;omega),List.getElem?_append_right (by simp;omega),List.getElem?_drop,List.length_take,show j+1+(i-1-min j l.length)=i by omega]
    rwa[List.getElem?_set_ne (by omega)]at hi
 .intro a b ha hb hab
  simp only[List.length_set]at ha hb;split at hab<;>split at hab<;>(try split at hab)<;>(try split at hab)<;>omega
theorem BD.settle(h:BD T w0 w (l++[t]))(j:Nat)(hj:l[j]? =some (aA P))(hQ:∀W f,P W->t.holds W f->Q W):BD T w0 w (l.set j (aA Q)):=
 h.Mc j hj (fun f1 f2 ⟨a1,a2⟩ hb=>⟨fun k hk=>(List.mem_append.1 hk).elim (a1 k) (t.lt hb k),fun W hW=>hQ W f2 (a2 W (fun k hk=>hW k (List.mem_append_left _ hk))) (t.keep hb (fun k hk=>hW k (List.mem_append_right _ hk)))⟩)
theorem BD.weaken(h:BD T w0 w l)(i:Nat)(hi:l[i]? =some (aA P))(hQ:∀W,P W->Q W):BD T w0 w (l.set i (aA Q)):=
 h.jh i hi (fun W f hf=>hQ W (hf.2 W (fun _ _=>rfl)))
def Gi(w0 W:World):Prop:=∀k,k<w0.heap.size->W.heap[k]? =w0.heap[k]?
theorem BD.old0(w:World):BD (List.range w.heap.size) w w [aA (Gi w)]:=
 ⟨Touch.refl _ _,fun _=>List.range w.heap.size,fun i t hi=>by
  cases i with
  |zero=>
   simp at hi;subst hi
   exact⟨⟨fun k hk=>List.mem_range.1 hk,fun W hW k hk=>hW k (List.mem_range.2 hk)⟩,fun k hk=> .inl hk⟩
  |succ i=>simp at hi,fun i j hi hj hij=>by simp at hi hj;omega⟩
theorem BD.lg(h:BD T w0 w l)(ho:Gi w0 w):Touch [] w0 w:=⟨h.1.os,h.1.tape,h.1.output,h.1.size,fun k hk _=>ho k hk⟩
end
end
section
open Go.RowKit
theorem aat{P:World->Prop}{b k:Nat}{v:Value}(h:∀W,P W->W.cell? ⟨b,k,none⟩=some v):abv [aA P] b k v:=fun T w0 w R hl=>h _ (hl.still 0 rfl)
theorem abz{g:List ai}{b k:Nat}{u v:Value}(h:abv g b k u)(h2:abv g b (k+1) v):abd g b k 2 [u,v]:=⟨rfl,fun T w0 w R hl j x hx=>match j,hx with
 |0,hx=>by cases hx;exact h T w0 w R hl
 |1,hx=>by cases hx;exact h2 T w0 w R hl
 |j+2,hx=>by simp at hx⟩
theorem aam{P:Program}{f:FuncId}{args:Array Value}{v:Value}(h:∀w,Calls P f args w fun e w'=>e= .returned v/\Touch [] w w'):aai P f args [] (xq (fun _:Unit=>True) (fun _=>v) fun _=>[]):=fun T w hl=>(h w).mono fun e w' ⟨he,ht⟩=>⟨[],rfl,⟨(),trivial,he,rfl⟩,hl.touch ht⟩
theorem abM{P:Program}{f:FuncId}{args:Array Value}{v:Value}(h:aai P f args [] (xq (fun _:Unit=>True) (fun _=>v) fun _=>[]))(w:World):Calls P f args w fun e w'=>e= .returned v/\Touch [] w w':=(h [] w (BD.nil _ _)).mono fun e w' ⟨Y,h1,⟨_,_,he,hY⟩,hl⟩=>⟨he,hl.BN⟩
theorem aas{P:World->Prop}{b k z:Nat}{us:List Value}(h:∀W,P W->∀j u,us[j]? =some u->W.cell? ⟨b,k+j,none⟩=some u)(hz:us.length=z:=by rfl):abd [aA P] b k z us:=⟨hz,fun T w0 w R hl=>h _ (hl.still 0 rfl)⟩
theorem ahr{g:List ai}{b k z:Nat}{us:List Value}(h:abd g b k z us)(j:Nat){v:Value}(hv:us[j]? =some v:=by rfl):abv g b (k+j) v:=fun T w0 w R hl=>h.2 T w0 w R hl j v hv
theorem acT{g:List ai}{b k z:Nat}{us us':List Value}(h:abd g b k z us)(j n:Nat)(hu:(us.drop j).take n=us')(hn:us'.length=n:=by rfl):abd g b (k+j) n us':=⟨hn,fun T w0 w R hl i v hv=>by
 rw[<-hu,List.getElem?_take]at hv;split at hv
 .rw[List.getElem?_drop]at hv
  rw[Nat.add_assoc];exact h.2 T w0 w R hl _ v hv
 .cases hv⟩
theorem abF{P:Program}{f:FuncId}{args:Array Value}{v:Value}(h:∀w,Calls P f args w fun e w'=>e= .returned v/\w=w'):aai P f args [] (xq (fun _:Unit=>True) (fun _=>v) fun _=>[]):=aam fun w=>(h w).mono fun e w' ⟨he,hw⟩=>⟨he,hw▸Touch.refl _ _⟩
theorem aai.aaT{P:Program}{f:FuncId}{args:Array Value}{t:ai}{R:Ending->LG->Prop}{T:List Nat}{w:World}(hl:BD T w w [t])(h:aai P f args [[t]] R){R':Ending->World->Prop}(k:∀e w' Y,R e Y->BD T w w' Y.flatten->R' e w'):Calls P f args w R':=(h T w hl).mono fun e w' ⟨Y,_,hR,hl'⟩=>k e w' Y hR hl'
theorem aax{P:Program}{f:FuncId}{args:Array Value}{α:Type}{H:α->(World->Prop)->Prop}{vf:α->Value}{S:World->Prop}{R:Ending->(World->Prop)->Prop}(h:∀T w,BD T w w [aA S]->Calls P f args w fun e w'=>∃Q rest,R e Q/\BD T w w' (aA Q::rest))(k:∀e Q,R e Q->∃x,H x Q/\e= .returned (vf x)):aai P f args [[aA S]] (xq (fun x:α×(World->Prop)=>H x.1 x.2) (fun x=>vf x.1) fun x=>[[aA x.2]]):=fun T w hl=>(h T w hl).mono fun e w' ⟨Q,r,hR,hl'⟩=>by
 obtain⟨x,hx,he⟩:=k e Q hR;exact⟨[[aA Q]],rfl,⟨(x,Q),hx,he,rfl⟩,BD.less (m:=[aA Q]) hl'⟩
theorem aa1{P:Program}{f:FuncId}{args:Array Value}{α:Type}{H:α->Prop}{vf:α->Value}{S:World->Prop}{R:Ending->Prop}(h:∀w,S w->Calls P f args w fun e w'=>R e/\Touch [] w w')(k:∀e,R e->∃x,H x/\e= .returned (vf x)):aai P f args [[aA S]] (xq H vf fun _=>[[aA S]]):=fun T w hl=>(h w (hl.still 0 rfl)).mono fun e w' ⟨hR,ht⟩=>by
 obtain⟨x,hx,he⟩:=k e hR;exact⟨[[aA S]],rfl,⟨x,hx,he,rfl⟩,hl.touch ht⟩
end
section
open Go.RowKit
def adq(g:List ai)(e size:Nat)(v:Value)(n:Nat)(xs:List Value):Prop:=∀T w0 w R,BD T w0 w (g++R)->BD T w0 w (aS e size v n xs::R)
theorem adE{e size n:Nat}{v:Value}{xs:List Value}:adq [aS e size v n xs] e size v n xs:=fun _ _ _ _ h=>h
theorem adu{b e size k:Nat}{cs:Array Value}{xs:List Value}(hk:cs.size=k*size:=by simp)(hm:k<=maxLen:=by simp[maxLen])(hx:cs.toList=xs:=by rfl):adq [box b e cs] e size (.slice (some ⟨b,0,none⟩) k k) k xs:=fun T w0 w R h=>by
 refine h.ZP 0 (t':=aS e size (.slice (some ⟨b,0,none⟩) k k) k xs) rfl fun f ⟨h1,h2⟩=>⟨by simp[h1,sb,Value.ownBlock],?_,.inr ⟨b,k,cs,rfl,h2,Nat.le_refl _,hm,by omega,?_⟩⟩
 .rw[<-hx,Array.length_toList,hk]
 .rw[<-hk,<-Array.length_toList,List.take_length,hx]
def ac6(g:List ai)(sa:Option Addr)(m:Nat)(news:List Value):Prop:=∀T w0 w R,BD T w0 w (g++R)->m=0\/∃a,sa=some a/\∀j u,news[j]? =some u->w.cell? (a.add j)=some u
theorem adV{b ty m:Nat}{cs:Array Value}{us:List Value}(hx:cs.toList=us:=by rfl):ac6 [box b ty cs] (some ⟨b,0,none⟩) m us:=fun T w0 w R h=> .inr ⟨_,rfl,fun j u hu=>by
 rw[Addr.add_lit,Cg.cell (h.box 0 rfl),Nat.zero_add];rw[<-hx]at hu;simpa using hu⟩
theorem acP{P:World->Prop}{sa:Option Addr}{m:Nat}{news:List Value}(h:∀W,P W->m=0\/∃a,sa=some a/\∀j u,news[j]? =some u->W.cell? (a.add j)=some u):ac6 [aA P] sa m news:=fun T w0 w R hl=>h w (hl.still 0 rfl)
inductive adl (e size:Nat) (v:Value) (n:Nat) (xs:List Value):LG->Nat->Prop where
 |here {g:List ai} {M:LG} (h:adq g e size v n xs):adl e size v n xs (g::M) 0
 |there {g:List ai} {M:LG} {s:Nat} (h:adl e size v n xs M s):adl e size v n xs (g::M) (s+1)
theorem adl.at{e size n s:Nat}{v:Value}{xs:List Value}{M:LG}(h:adl e size v n xs M s):adq (gat M s) e size v n xs:=by
 induction h with
 |here h=>exact h
 |there _ ih=>rw[abf];exact ih
inductive acv (sa:Option Addr) (m:Nat) (news:List Value) (g':List ai):LG->Nat->Prop where
 |here {M:LG} (h:ac6 g' sa m news):acv sa m news g' (g'::M) 0
 |there {g:List ai} {M:LG} {s:Nat} (h:acv sa m news g' M s):acv sa m news g' (g::M) (s+1)
theorem acv.at{sa:Option Addr}{m s:Nat}{news:List Value}{g':List ai}{M:LG}(h:acv sa m news g' M s):gat M s=g'/\ac6 g' sa m news:=by
 induction h with
 |here h=>exact⟨rfl,h⟩
 |there _ ih=>rw[abf];exact ih
def adJ(P:Program)(t e size bytes:Nat):Prop:=∃i z,P.underlying t=some (.slice e)/\P.info? e=some i/\i.zero=some z/\i.size=size/\i.bytes=bytes/\z.cells.size=size/\0<size
theorem adz{P:Program}{t e size bytes:Nat}{z:Value}(h:(P.info? e).map (fun i=>(i.zero,i.size,i.bytes))=some (some z,size,bytes))(hu:P.underlying t=some (.slice e):=by rfl)(hz:z.cells.size=size:=by rfl)(hs:0<size:=by decide):adJ P t e size bytes:=by
 obtain⟨i,h1,h2,h3,h4⟩:=info_parts h;exact⟨i,z,hu,h1,h2,h3,h4,hz,hs⟩
section
variable {P:Program} {ops:Array Oper} {Q:Exit->Act->LG->Prop} {a:Act} {M:LG} {k N:Nat} {t t':Tr}
theorem apq{d:Tmp}{x y:Operand}{ty vz:TypeId}{pos:String}{Sm:Array Edge}{e size bytes n m c dc sd ss nm:Nat}{xs news ys:List Value}{da sa:Option Addr}{gs:List ai}{A:Option Addr->Nat->Act}{M':Option Addr->Nat->LG}(hI:adJ P ty e size bytes)(hl:news.length=m*size)(h1:∀u∈news,u.oneCell'=true)(h63:nm<=4000000)(hby:bytes<=4096)(h:∀aa cap,DrN P ops Q k t' (A aa cap) (M' aa cap))(hi:ops[N]? =some (Oper.mk (some d) (.call {callee:= .builtin .append,args:=#[x,y],argTypes:=#[ty,ty]}) vz pos Sm none):=by rfl)(hx:a.eval x= .slice da n dc:=by rfl)(hy:a.eval y= .slice sa m c:=by rfl)(hd:adl e size (.slice da n dc) n xs M sd:=by(repeat (first |exact adl.here (by first |exact adE|exact adu)|apply adl.there));done)(hs:acv sa m news gs M ss:=by(repeat (first |exact acv.here (by first |assumption|exact adV)|apply acv.there));done)(hn:[sd,ss].Nodup:=by decide)(hnm:n+m=nm:=by(try simp only[Nat.zero_add]);exact rfl)(hys:xs++news=ys:=by(try simp only[nAq,cAq]);exact rfl)(ht:aa4 N (.c false [sd] [ss]) t t':=by first |exact aa4.p|exact aa4.d)(ha:∀aa cap,a.put (some d) (.slice aa nm cap)=A aa cap:=by intro aa cap;(try simp only[Act.put,sAq,sZq,sSq]);exact rfl)(hM:∀aa cap,puts M [sd] [[aS e size (.slice aa nm cap) nm ys]]=M' aa cap:=by intro aa cap;(try simp only[puts,abn,aa6,aaA]);exact rfl)(hm:N+1=k:=by simp only[Nat.reduceAdd];exact rfl):DrN P ops Q N t a M:=by
 obtain⟨i,z,e1,e2,e3,e4,e5,e6,e7⟩:=hI;obtain⟨hg,hsrc⟩:=hs.at;refine abo ht hi ⟨_,hi,hn,fun en Y=>∃aa cap,en= .returned (.slice aa nm cap)/\Y=[[aS e size (.slice aa nm cap) nm ys]],⟨rfl,fun T w0 w Rr hl0=>?_⟩,?_⟩
 .have hg2:gets M [sd]=gat M sd:=by simp[gets]
  have hg3:gets M [ss]=gs:=by simp[gets,hg]
  rw[hg2,hg3]at hl0;rw[hg3];have hr:=hd.at T w0 w _ hl0;have hsr:=hsrc T w0 w (Rr++gat M sd) (hl0.prm (by rw[<-List.append_assoc gs];exact List.perm_append_comm));subst hnm hys;obtain⟨aa,cap,w',hrun,h2,h3,h4⟩:=mV (P:=P) w ty vz e i z size bytes e1 e2 e3 e4 e5 e6 e7 (.slice da n dc) n xs (hr.aZ 0 rfl) sa m c news hl hsr h1 (by simp only[maxLen];omega) (by
   have :(n+m)*bytes<=4000000*4096:=Nat.mul_le_mul h63 hby
   omega)
  unfold Oper.ends execOp;simp only[resolve,invoke,builtin,Sem.run_bind,Sem.run_pure,Result.andThen_ok,List.map_toArray,List.map_cons,List.map_nil,hx,hy,hrun];refine⟨_,rfl,⟨aa,cap,rfl,rfl⟩,?_⟩;have :=hr.bG 0 rfl h3 h2 h4;simpa using this
 .rintro en Y ⟨aa,cap,rfl,rfl⟩ _ _
  show DrN P ops Q (N+1) t' (a.put (some d) (.slice aa nm cap)) (puts M [sd] _)
  rw[hm,ha,hM];exact h aa cap
theorem mbq{d:Tmp}{op:Op}{vz:TypeId}{pos:String}{Sm:Array Edge}{gd:Option (Nat×Bool)}{tt n:Nat}{ty:TypeId}{cs:Array Value}{A:Nat->Act}{M':Nat->LG}(h:∀g,DrN P ops Q k t' (A g) (M' g))(hi:ops[N]? =some (Oper.mk (some d) op vz pos Sm gd):=by rfl)(hw:Region.wanted (Oper.mk (some d) op vz pos Sm gd) (yielded ops a.tmps)=true:=by rfl)(hal:∀w,(execOp a.eval (Oper.mk (some d) op vz pos Sm gd)).run P w= .ok (.value (.slice (some ⟨w.heap.size,0,none⟩) n n)) (w.alloc (.cells cs ty)):=by intro w;first |(go_simp;done)|(go_simp;with_reducible rfl))(hln:Len M tt:=by(repeat (first |exact Len.nil|apply Len.cons));done)(ht:aa4 N (.m tt) t t':=by first |exact aa4.p|exact aa4.d)(ha:∀g,a.put (some d) (.slice (some ⟨g,0,none⟩) n n)=A g:=by intro g;(try simp only[Act.put,sAq,sZq,sSq]);exact rfl)(hM:∀g,aaE M tt [box g ty cs]=M' g:=by intro g;simp only[abn,aaA];exact rfl)(hm:N+1=k:=by simp only[Nat.reduceAdd];exact rfl):DrN P ops Q N t a M:=
 abo ht hi ⟨_,hi,hln.at,fun g=> .slice (some ⟨g,0,none⟩) n n,ty,cs,⟨hw,hal⟩,fun g _=>by
  show DrN P ops Q (N+1) t' (a.put (some d) (.slice (some ⟨g,0,none⟩) n n)) (aaE M tt [box g ty cs])
  rw[hm,ha g,hM g];exact h g⟩
end
section
variable {P:Program} {Q:Exit->Act->LG->Prop} {a a':Act} {M:LG} {fn:Func} {k:Nat} {R:Ending->LG->Prop} {v:Value}
theorem W.ady(Y:LG)(hY:∀T w0 w,BD T w0 w M.flatten->BD T w0 w Y.flatten)(h:R (.returned v) Y)(hQ:∀a M,Q .ret a M=BQ P fn k R .ret a M:=by intro a M;first |(dsimp only[acM,acf];done)|exact rfl)(hd:a.defers=[]:=by rfl)(hr:∀T w0 w,BD T w0 w M.flatten->(results fn a.tmps).run P w= .ok v w:=by
   intro T w0 w hl;first
   |exact res1 rfl (by first |exact aaZ|exact aa0|exact aaF) hl
   |exact res2 rfl (by first |exact aaZ|exact aa0|exact aaF) (by first |exact aaZ|exact aa0|exact aaF) hl
   |exact res3 rfl (by first |exact aaZ|exact aa0|exact aaF) (by first |exact aaZ|exact aa0|exact aaF) (by first |exact aaZ|exact aa0|exact aaF) hl
   |exact res4 rfl (by first |exact aaZ|exact aa0|exact aaF) (by first |exact aaZ|exact aa0|exact aaF) (by first |exact aaZ|exact aa0|exact aaF) (by first |exact aaZ|exact aa0|exact aaF) hl
   |exact results_none rfl _ _ _
   |fail)(hk:Y.length=k:=by rfl):W P .ret Q a M:=
 W.ret (by rw[hQ];exact⟨hd,v,Y,fun T w0 w hl=>⟨hr T w0 w hl,hY T w0 w hl⟩,hk,h⟩)
end
inductive abV:Tr->Prop where
 |p:abV .p
 |n:abV (.d [])
 |c {i:Nat} {tr:List (Nat×aaw)} (h:abV (.d tr)):abV (.d ((i,.y [])::tr))
def RdG(P:Program)(f:FuncId)(args:Array Value)(X:LG)(R:Ending->Prop):Prop:=∀T w0 w,BD T w0 w X.flatten->Calls P f args w fun e w'=>R e/\Touch [] w w'
theorem ado{P:Program}{f:FuncId}{args:Array Value}{v:Value}{m:List ai}(h:∀T w0 w,BD T w0 w m->Calls P f args w fun e w'=>e= .returned v/\Touch [] w w'):RdG P f args [m] fun e=>∃x:Unit,True/\e= .returned ((fun _=>v) x):=fun T w0 w hl=>(h T w0 w (by simpa using hl)).mono fun e w' ⟨he,ht⟩=>⟨⟨(),trivial,he⟩,ht⟩
theorem adh{P:Program}{f:FuncId}{args:Array Value}{c:List PanicEntry}{m:List ai}(h:∀T w0 w,BD T w0 w m->Calls P f args w fun e w'=>e= .panicked c/\Touch [] w w'):RdG P f args [m] fun e=>e= .panicked c:=fun T w0 w hl=>h T w0 w (by simpa using hl)
section
variable {P:Program} {ops:Array Oper} {Q:Exit->Act->LG->Prop} {a:Act} {M:LG} {n m:Nat} {t t':Tr}
theorem crr{d:Tmp}{op:Op}{vz:TypeId}{pos:String}{Sm:Array Edge}{gd:Option (Nat×Bool)}{f:FuncId}{args:Array Value}{X:LG}{α:Type}{H:α->Prop}{vf:α->Value}{A:α->Act}{rd:List Nat}(hc:RdG P f args X fun e=>∃x,H x/\e= .returned (vf x))(h:∀x,H x->DrN P ops Q m t' (A x) M)(hi:ops[n]? =some (Oper.mk (some d) op vz pos Sm gd):=by rfl)(hw:Region.wanted (Oper.mk (some d) op vz pos Sm gd) (yielded ops a.tmps)=true:=by rfl)(hy:∀w,(execOp a.eval (Oper.mk (some d) op vz pos Sm gd)).run P w= .ok (.enter f args) w:=by intro w;first |(go_simp;done)|(go_simp;with_reducible rfl)|(go_simp;rfl))(hl:abL M X rd:=by repeat (first |exact abL.nil|(apply abL.cons;focus ((repeat (first |with_reducible exact AtM.here|exact AtM.fresh|apply AtM.there));done))))(hn:rd.Nodup:=by decide)(ha:∀x,a.put (some d) (vf x)=A x:=by intro x;(try simp only[Act.put,sAq,sZq,sSq]);exact rfl)(hm:n+1=m:=by simp only[Nat.reduceAdd];exact rfl)(ht:aa4 n (.c false [] rd) t t':=by first |exact aa4.p|exact aa4.d):DrN P ops Q n t a M:=by
 obtain⟨h1,h2⟩:=hl.gets;refine abo ht hi ⟨_,hi,hn,fun e Y=>(∃x,H x/\e= .returned (vf x))/\Y=[],⟨hw,fun T w0 w R hg=>?_⟩,?_⟩
 .rw[h1]at hg|-
  have hg:BD T w0 w (X.flatten++R):=hg;unfold Oper.ends;rw[hy w];exact(hc T w0 w hg.less).mono fun e w' ⟨hR,ht⟩=>⟨[],rfl,⟨hR,rfl⟩,hg.touch ht⟩
 .rintro e Y ⟨⟨x,hx,rfl⟩,rfl⟩ _ _
  show DrN P ops Q (n+1) t' (a.put (some d) (vf x)) M
  rw[hm,ha];exact h x hx
theorem prr{Y:LG}{k:Nat}{fn:Func}{R:Ending->LG->Prop}{d:Option Tmp}{op:Op}{vz:TypeId}{pos:String}{Sm:Array Edge}{gd:Option (Nat×Bool)}{f:FuncId}{args:Array Value}{X:LG}{c:List PanicEntry}{rd:List Nat}(hc:RdG P f args X fun e=>e= .panicked c)(h:R (.panicked c) Y)(hQ:∀a M,Q (.panic c) a M=BQ P fn k R (.panic c) a M:=by intro a M;first |(dsimp only[acM,acf];done)|exact rfl)(hd:a.defers=[]:=by rfl)(hi:ops[n]? =some (Oper.mk d op vz pos Sm gd):=by rfl)(hw:Region.wanted (Oper.mk d op vz pos Sm gd) (yielded ops a.tmps)=true:=by rfl)(hy:∀w,(execOp a.eval (Oper.mk d op vz pos Sm gd)).run P w= .ok (.enter f args) w:=by intro w;first |(go_simp;done)|(go_simp;with_reducible rfl)|(go_simp;rfl))(hl:abL M X rd:=by repeat (first |exact abL.nil|(apply abL.cons;focus ((repeat (first |with_reducible exact AtM.here|exact AtM.fresh|apply AtM.there));done))))(hn:rd.Nodup:=by decide)(hY:M.take k=Y:=by simp only[List.take_succ_cons,List.take_zero,List.length_cons,List.length_nil,Nat.reduceAdd];exact rfl)(hk:Y.length=k:=by rfl)(ht:aa4 n (.c true [] rd) t t':=by first |exact aa4.p|exact aa4.d)(hf:abV t':=by first |exact abV.p|((repeat (first |exact abV.n|apply abV.c));done)):DrN P ops Q n t a M:=by
 obtain⟨h1,h2⟩:=hl.gets;refine abo ht hi ⟨_,hi,hn,fun e Y=>e= .panicked c/\Y=[],⟨hw,fun T w0 w R hg=>?_⟩,?_⟩
 .rw[h1]at hg|-
  have hg:BD T w0 w (X.flatten++R):=hg;unfold Oper.ends;rw[hy w];exact(hc T w0 w hg.less).mono fun e w' ⟨hR,ht⟩=>⟨[],rfl,⟨hR,rfl⟩,hg.touch ht⟩
 .rintro e Z ⟨rfl,rfl⟩ _ _
  exact⟨rfl,by rw[hQ];exact⟨hd,Y,fun T w0 w hl=>by rw[<-hY];exact acE k hl,hk,h⟩⟩
end
theorem ade{P:Program}{f:FuncId}{args:Array Value}{c:List PanicEntry}(h:∀w,Calls P f args w fun e w'=>e= .panicked c/\w=w'):aai P f args [] fun e Y=>e= .panicked c/\Y=[]:=fun T w hl=>(h w).mono fun e w' ⟨he,hw⟩=>⟨[],rfl,⟨he,rfl⟩,hw▸hl⟩
theorem ags{P:Program}{f:FuncId}{args:Array Value}{v:Value}{m:List ai}(h:∀T w0 w,BD T w0 w m->Calls P f args w fun e w'=>e= .returned v/\Touch [] w w'):aai P f args [m] (xq (fun _:Unit=>True) (fun _=>v) fun _=>[m]):=fun T w hl=>(h T w w (by simpa using hl)).mono fun e w' ⟨he,ht⟩=>⟨[m],rfl,⟨(),trivial,he,rfl⟩,hl.touch ht⟩
theorem pfq{P:Program}{ops:Array Oper}{Q:Exit->Act->LG->Prop}{a:Act}{M Y:LG}{n k:Nat}{t t':Tr}{fn:Func}{R:Ending->LG->Prop}{d:Option Tmp}{op:Op}{vz:TypeId}{pos:String}{Sm:Array Edge}{gd:Option (Nat×Bool)}{f:FuncId}{args:Array Value}{X Yf:LG}{c:List PanicEntry}{rs:List Nat}(hc:aai P f args X fun e Z=>e= .panicked c/\Z=Yf)(h:R (.panicked c) Y)(hQ:∀a M,Q (.panic c) a M=BQ P fn k R (.panic c) a M:=by intro a M;first |(dsimp only[acM,acf];done)|exact rfl)(hd:a.defers=[]:=by rfl)(hi:ops[n]? =some (Oper.mk d op vz pos Sm gd):=by rfl)(hw:Region.wanted (Oper.mk d op vz pos Sm gd) (yielded ops a.tmps)=true:=by rfl)(hy:∀w,(execOp a.eval (Oper.mk d op vz pos Sm gd)).run P w= .ok (.enter f args) w:=by intro w;first |(go_simp;done)|(go_simp;with_reducible rfl)|(go_simp;rfl))(hl:abL M X rs:=by repeat (first |exact abL.nil|(apply abL.cons;focus ((repeat (first |with_reducible exact AtM.here|exact AtM.fresh|apply AtM.there));done))))(hn:rs.Nodup:=by decide)(hY:(puts M rs Yf).take k=Y:=by simp only[puts,abn,aa6,aaA,List.take_succ_cons,List.take_zero,List.length_cons,List.length_nil,Nat.reduceAdd];exact rfl)(hk:Y.length=k:=by rfl)(ht:aa4 n (.c true rs []) t t':=by first |exact aa4.p|exact aa4.d)(hf:abV t':=by first |exact abV.p|((repeat (first |exact abV.n|apply abV.c));done)):DrN P ops Q n t a M:=
 pq hc (fun e Z ⟨he,hZ⟩=>⟨c,he,by rw[hQ];exact⟨hd,Y,fun T w0 w hl=>by rw[<-hY,<-hZ];exact acE k hl,hk,h⟩⟩) hi hw hy hl hn ht
end
section
open Go.RowKit
theorem pfy{P:Program}{ops:Array Oper}{Q:Exit->Act->LG->Prop}{a:Act}{M:LG}{n k:Nat}{t t':Tr}{fn:Func}{R:Ending->LG->Prop}{d:Option Tmp}{op:Op}{vz:TypeId}{pos:String}{Sm:Array Edge}{gd:Option (Nat×Bool)}{f:FuncId}{args:Array Value}{X Yf:LG}{c:List PanicEntry}{rs:List Nat}(hc:aai P f args X fun e Z=>e= .panicked c/\Z=Yf)(Y:LG)(hY:∀T w0 w,BD T w0 w (puts M rs Yf).flatten->BD T w0 w Y.flatten)(h:R (.panicked c) Y)(hQ:∀a M,Q (.panic c) a M=BQ P fn k R (.panic c) a M:=by intro a M;first |(dsimp only[acM,acf];done)|exact rfl)(hd:a.defers=[]:=by rfl)(hi:ops[n]? =some (Oper.mk d op vz pos Sm gd):=by rfl)(hw:Region.wanted (Oper.mk d op vz pos Sm gd) (yielded ops a.tmps)=true:=by rfl)(hy:∀w,(execOp a.eval (Oper.mk d op vz pos Sm gd)).run P w= .ok (.enter f args) w:=by intro w;first |(go_simp;done)|(go_simp;with_reducible rfl)|(go_simp;rfl))(hl:abL M X rs:=by repeat (first |exact abL.nil|(apply abL.cons;focus ((repeat (first |with_reducible exact AtM.here|exact AtM.fresh|apply AtM.there));done))))(hn:rs.Nodup:=by decide)(hk:Y.length=k:=by rfl)(ht:aa4 n (.c true rs []) t t':=by first |exact aa4.p|exact aa4.d)(hf:abV t':=by first |exact abV.p|((repeat (first |exact abV.n|apply abV.c));done)):DrN P ops Q n t a M:=
 pq hc (fun e Z ⟨he,hZ⟩=>⟨c,he,by rw[hQ];exact⟨hd,Y,fun T w0 w hl=>hY T w0 w (by rw[<-hZ];exact hl),hk,h⟩⟩) hi hw hy hl hn ht
def adS(a:Act)(js:List Nat)(v:Nat->Value):Act:={a with tmps:=js.foldl (fun t j=>t.setIfInBounds j (v j)) a.tmps}
theorem W.aeo{P:Program}{c:Code}{Q:Exit->Act->LG->Prop}{a:Act}{M:LG}(js:List Nat)(J:Nat->(Nat->Value)->LG->Prop)(n:Nat)(h0:J n (fun j=>a.tmps.getD j undef) M)(round:∀n v M a1,J n v M->adS a js v=a1->W P c (acf (fun a' M'=>∃m,m<n/\a'=adS a js (fun j=>a'.tmps.getD j undef)/\J m (fun j=>a'.tmps.getD j undef) M') Q) a1 M)(hself:adS a js (fun j=>a.tmps.getD j undef)=a:=by kernel_rfl):W P (.loop c) Q a M:=
 W.loop (fun n a' M=>∃v,a'=adS a js v/\J n v M) n ⟨_,hself.symm,h0⟩ fun n a' M ⟨v,ha,hJ⟩=>(round n v M a' hJ ha.symm).mono fun e a2 M2 q=>by
  cases e<;>first |exact q|skip
  obtain⟨m,hm,ha2,hJ2⟩:=q;exact⟨m,hm,_,ha2,hJ2⟩
theorem adN{T:List Nat}{w0 w:World}{M r:LG}(h:BD T w0 w (M++r).flatten):BD T w0 w M.flatten:=by
 rw[List.flatten_append]at h;exact h.less
end
section
open Go.RowKit
def agT(P:Program)(l:List Deferred):Prop:=∃fv cap D args,l=[{target:= .fn fv cap,args:=#[]}]/\(∀w,(invoke (.fn fv cap) #[]).run P w= .ok (.enter D args) w)/\∀w,CallsD P D args .returning w fun e u' w'=>e= .returned (.tuple #[])/\u'= .returning/\w=w'
def BQD(P:Program)(fn:Func)(n:Nat)(R:Ending->LG->Prop):Exit->Act->LG->Prop
 | .normal,a,M| .ret,a,M=>(a.defers=[]\/agT P a.defers)/\∃v Y,(∀T w0 w,BD T w0 w M.flatten->(results fn a.tmps).run P w= .ok v w/\BD T w0 w Y.flatten)/\Y.length=n/\R (.returned v) Y
 |_,_,_=>False
theorem aai.enterD{P:Program}{c:Code}{f:FuncId}{fn:Func}{args:Array Value}{X:LG}{R:Ending->LG->Prop}(hf:P.funcs[f]? =some fn)(hb:fn.body=some c)(h:W P c (BQD P fn X.length R) {tmps:=args++Array.replicate (fn.ntmps-args.size) undef,defers:=[]} X):aai P f args X R:=fun T w hl=>by
 refine calls_of_wp_defers hf hb (Code.wp_mono (fun e a w' ⟨M,hl,hQ⟩=>?_) (h T w w hl));have key:∀(a:Act) (w':World),BD T w w' M.flatten->((a.defers=[]\/agT P a.defers)/\∃v Y,(∀T w0 w,BD T w0 w M.flatten->(results fn a.tmps).run P w= .ok v w/\BD T w0 w Y.flatten)/\Y.length=X.length/\R (.returned v) Y)->Leaves P fn a.tmps (fun e w'=>∃Y,Y.length=X.length/\R e Y/\BD T w w' Y.flatten) a.defers .returning w':=by
  rintro a w' hl ⟨hd,v,Y,h1,h2,h3⟩;have h4:=h1 _ _ _ hl;rcases hd with hd|⟨fv,cap,D,args,hd,hi,hc⟩
  .rw[hd]
   exact⟨v,h4.1,Y,h2,h3,h4.2⟩
  .rw[hd]
   refine leaves_cons (by simp) (hi w') ((hc w').mono ?_);rintro e u' w'' ⟨rfl,rfl,rfl⟩;exact⟨v,h4.1,Y,h2,h3,h4.2⟩
 cases e with
 |normal=>exact key a w' hl hQ
 |ret=>exact key a w' hl hQ
 |panic c=>exact hQ.elim
 |exit i=>exact hQ.elim
 |goto l=>exact hQ.elim
 |outgrown=>exact hQ.elim
theorem aai.goD{P:Program}{fn:Func}{a:Act}{R:Ending->LG->Prop}{f:FuncId}{n:Nat}{args:Array Value}{X:LG}{c:Code}(hf:P.funcs[f]? =some fn)(hn:fn.ntmps=n)(h:W P c (BQD P fn X.length R) a X)(hb:fn.body=some c:=by rfl)(ha:({tmps:=args++Array.replicate (n-args.size) undef,defers:=[]}:Act)=a:=by simp only[List.size_toArray,List.length_cons,List.length_nil,Nat.reduceAdd,Nat.reduceSub,Array.replicate_succ,Array.replicate_zero,List.push_toArray,List.append_toArray,nAq,cAq];exact rfl):aai P f args X R:=
 aai.enterD hf hb (by rw[hn,ha];exact h)
section
variable {P:Program} {ops:Array Oper} {Q:Exit->Act->LG->Prop} {a:Act} {M Y:LG} {n m k:Nat} {fn:Func} {R:Ending->LG->Prop} {v:Value}
theorem dfq{op:Op}{vz:TypeId}{pos:String}{Sm:Array Edge}{d:Deferred}{a':Act}(h:DrN P ops Q m .p a' M)(hi:ops[n]? =some (Oper.mk none op vz pos Sm none):=by rfl)(hd:∀w,(execOp a.eval (Oper.mk none op vz pos Sm none)).run P w= .ok (.defer d) w:=by intro w;first |(go_simp;done)|(go_simp;with_reducible rfl)|(go_simp;rfl))(ha:{a with defers:=d::a.defers}=a':=by exact rfl)(hm:n+1=m:=by simp only[Nat.reduceAdd];exact rfl):DrN P ops Q n .p a M:=by
 intro T w0 w hl;have hlt:n<ops.size:=(Array.getElem?_eq_some_iff.1 hi).1;rw[show ops.size-n=(ops.size-(n+1))+1 from by omega,List.range'_succ,wpOps_cons];have hw:wpOp P ops (QW T w0 Q) n (fun a' w'=>∃M',BD T w0 w' M'.flatten/\DrN P ops Q (n+1) .p a' M') a w:=by
  unfold wpOp Oper.wp;have hwn:Region.wanted (Oper.mk none op vz pos Sm none) (yielded ops a.tmps)=true:=rfl;simp only[hi,hwn,if_true];refine .inl ?_;rw[hd w];exact⟨M,hl,by rw[hm];show DrN P ops Q m .p {a with defers:=d::a.defers} M;rw[ha];exact h⟩
 exact wpOp_mono (fun a' w' ⟨M',hl',hd'⟩=>hd' T w0 w' hl') hw
theorem W.afZ(hd:a.defers=[]\/agT P a.defers)(h:R (.returned v) Y)(hQ:∀a M,Q .ret a M=BQD P fn k R .ret a M:=by intro a M;first |(dsimp only[acM,acf];done)|exact rfl)(hr:∀T w0 w,BD T w0 w M.flatten->(results fn a.tmps).run P w= .ok v w:=by
   intro T w0 w hl;first
   |exact res1 rfl (by first |exact aaZ|exact aa0|exact aaF) hl
   |exact res2 rfl (by first |exact aaZ|exact aa0|exact aaF) (by first |exact aaZ|exact aa0|exact aaF) hl
   |exact res3 rfl (by first |exact aaZ|exact aa0|exact aaF) (by first |exact aaZ|exact aa0|exact aaF) (by first |exact aaZ|exact aa0|exact aaF) hl
   |exact results_none rfl _ _ _
   |fail)(hY:M.take k=Y:=by simp only[List.take_succ_cons,List.take_zero,List.length_cons,List.length_nil,Nat.reduceAdd];exact rfl)(hk:Y.length=k:=by rfl):W P .ret Q a M:=
 W.ret (by rw[hQ];exact⟨hd,v,Y,fun T w0 w hl=>⟨hr T w0 w hl,hY▸acE k hl⟩,hk,h⟩)
end
end
section
open Go.RowKit
def adk(es:List MapEntry)(l:List (Int×Value)):Prop:=es.map (fun e=>(e.key,e.val))=l.map fun p=>(Value.int .i64 p.1,p.2)
def acs:List (Int×Value)->Int->Option Value
 |[],_=>none
 |p::l,k=>if k=p.1 then some p.2 else acs l k
theorem adk.cons{e:MapEntry}{es:List MapEntry}{l:List (Int×Value)}(h:adk (e::es) l):∃p r,l=p::r/\e.key= .int .i64 p.1/\e.val=p.2/\adk es r:=by
 cases l with
 |nil=>simp[adk]at h
 |cons p r=>simp[adk]at h;exact⟨p,r,rfl,h.1.1,h.1.2,h.2⟩
theorem aeA(y:Int):∀(es:List MapEntry) (l:List (Int×Value)) (i:Nat),adk es l->(acs l y=none/\Instr.findNow (.int .i64) (.int .i64 y) es i=some none)\/∃v j,acs l y=some v/\l[j]? =some (y,v)/\Instr.findNow (.int .i64) (.int .i64 y) es i=some (some (i+j,v))/\∀v' z,acs (l.set j (y,v')) z=if z=y then some v' else acs l z:=by
 intro es;induction es with
 |nil=>
  intro l i h;cases l with
  |nil=>exact .inl ⟨rfl,rfl⟩
  |cons p r=>simp[adk]at h
 |cons e es ih=>
  intro l i h;obtain⟨⟨k,u⟩,r,rfl,hk,hv,hr⟩:=h.cons;by_cases hky:y=k
  .subst hky
   refine .inr ⟨u,0,by simp[acs],rfl,?_,fun v' z=>?_⟩
   .simp[Instr.findNow,Instr.sameNow,hk,hv]
   .by_cases hz:z=y<;>simp[acs,hz]
  .have hf:Instr.sameNow (.int .i64) (.int .i64 y) e.key=some false:=by simp[Instr.sameNow,hk,hky]
   rcases ih r (i+1) hr with ⟨h1,h2⟩|⟨v,j,h1,h2,h3,h4⟩
   .exact .inl ⟨by simp[acs,hky,h1],by simp only[Instr.findNow,hf];exact h2⟩
   .refine .inr ⟨v,j+1,by simp[acs,hky,h1],by simpa using h2,by simp only[Instr.findNow,hf];rw[h3];congr 3;omega,fun v' z=>?_⟩
    simp only[sSq,acs,h4];by_cases hz:z=k
    .subst hz;simp[Ne.symm hky]
    .simp[hz]
theorem ael(l:List (Int×Value))(y:Int)(v:Value)(h:acs l y=none)(z:Int):acs (l++[(y,v)]) z=if z=y then some v else acs l z:=by
 induction l with
 |nil=>by_cases hz:z=y<;>simp[acs,hz]
 |cons p r ih=>
  simp only[acs]at h;split at h
  .cases h
  .rename_i hp
   simp only[cAq,acs,ih h];by_cases hz:z=p.1
   .subst hz;simp[Ne.symm hp]
   .simp[hz]
section
variable {P:Program} {w:World} {t K E:TypeId} {r clock:Nat} {es:Array MapEntry} {l:List (Int×Value)}
structure aeh(es:List MapEntry)(clock:Nat):Prop where
 nd:(es.map (·.born)).Nodup
 lt:∀e∈es,e.born<clock
theorem aeh.push{es:List MapEntry}{clock:Nat}(h:aeh es clock)(k v:Value):aeh (es++[⟨k,v,clock⟩]) (clock+1):=by
 refine⟨?_,fun e he=>?_⟩
 .simp only[List.map_append,List.map_cons,List.map_nil]
  rw[List.nodup_append];refine⟨h.nd,by simp,fun a ha b' hb'=>?_⟩;obtain⟨e,he,rfl⟩:=List.mem_map.1 ha;have :=h.lt e he;simp at hb'
  omega
 .rcases List.mem_append.1 he with he|he
  .have :=h.lt e he;omega
  .simp at he;subst he;simp
theorem aeh.modify{es:Array MapEntry}{clock:Nat}(h:aeh es.toList clock)(j:Nat)(g:MapEntry->MapEntry)(hg:∀e,(g e).born=e.born):aeh (es.modify j g).toList clock:=by
 have e:(es.modify j g).toList.map (·.born)=es.toList.map (·.born):=by
  apply List.ext_getElem
  .simp
  .intro i h1 h2
   simp only[List.getElem_map,Array.getElem_toList,Array.getElem_modify];split
   .exact hg _
   .rfl
 refine⟨by rw[e];exact h.nd,fun x hx=>?_⟩;have hm:x.born∈es.toList.map (·.born):=by rw[<-e];exact List.mem_map_of_mem hx
 obtain⟨z,hz,hzb⟩:=List.mem_map.1 hm;rw[<-hzb];exact h.lt z hz
theorem afW(ht:P.underlying t=some (.map K E))(hk:P.underlying K=some (.int .i64))(hr:w.heap[r]? =some (.map es clock))(hs:adk es.toList l)(hb:aeh es.toList clock)(y:Int)(v:Value):
  ∃es' clock' l',(Instr.mapUpdate t (.map (some r)) (.int .i64 y) v).run P w= .ok () (w.putObj r (.map es' clock'))/\adk es'.toList l'/\(∀z,acs l' z=if z=y then some v else acs l z)/\aeh es'.toList clock':=by
 rcases aeA y es.toList l 0 hs with ⟨h1,h2⟩|⟨u,j,h1,h2,h3,h4⟩
 .refine⟨es.push ⟨.int .i64 y,v,clock⟩,clock+1,l++[(y,v)],?_,?_,ael l y v h1,by rw[Array.toList_push];exact hb.push _ _⟩
  .simp[Instr.mapUpdate,run_underlying ht,bX hr,bO false 9999 hk,bR hk y es.toList h2,ny _ hr]
  .unfold adk at hs|-
   simp only[Array.toList_push,List.map_append,hs,List.map_cons,List.map_nil]
 .rw[Nat.zero_add]at h3
  have hlen:es.toList.length=l.length:=by have :=congrArg List.length hs;simpa using this
  have hj:j<l.length:=(List.getElem?_eq_some_iff.1 h2).1;have hjs:j<es.size:=by simpa using(by omega:j<es.toList.length)
  have hkey:es[j].key= .int .i64 y/\es[j].val=u:=by
   have h:=congrArg (fun l=>l[j]?) hs;simp only[List.getElem?_map,h2]at h;rw[List.getElem?_eq_getElem (by simpa using hjs)]at h;simpa using h
  refine⟨es.modify j fun e=>{e with key:= .int .i64 y,val:=v},clock,l.set j (y,v),?_,?_,h4 v,hb.modify j _ (fun _=>rfl)⟩
  .have hst:∀W,(Instr.keyThatStays (.int .i64 y) (.int .i64 y)).run P W= .ok (.int .i64 y) W:=fun W=>by simp[Instr.keyThatStays,Instr.sameBits]
   simp[Instr.mapUpdate,run_underlying ht,bX hr,bO false 9999 hk,bR hk y es.toList h3,ny _ hr,Array.getElem?_eq_getElem hjs,hkey.1,hst]
  .unfold adk at hs|-
   rw[List.map_set,<-hs];apply List.ext_getElem
   .simp
   .intro i h1' h2'
    simp only[List.getElem_map,Array.getElem_toList,List.getElem_set];by_cases hij:j=i
    .subst hij
     simp[Array.getElem_modify]
    .simp[Array.getElem_modify,hij]
theorem af7(ht:P.underlying t=some (.map K E))(hk:P.underlying K=some (.int .i64))(hr:w.heap[r]? =some (.map es clock))(hs:adk es.toList l){z:Value}(hz:(zeroValue E).run P w= .ok z w)(y:Int):
  (Instr.lookup t (.map (some r)) (.int .i64 y) false).run P w= .ok ((acs l y).getD z) w:=by
 rcases aeA y es.toList l 0 hs with ⟨h1,h2⟩|⟨u,j,h1,h2,h3,h4⟩
 .simp[Instr.lookup,run_underlying ht,bX hr,bO es.isEmpty 9999 hk,bR hk y es.toList h2,hz,h1]
 .simp[Instr.lookup,run_underlying ht,bX hr,bO es.isEmpty 9999 hk,bR hk y es.toList h3,h1]
theorem afG(ht:P.underlying t=some (.map K E))(hk:P.underlying K=some (.int .i64))(hr:w.heap[r]? =some (.map es clock))(hs:adk es.toList l){z:Value}(hz:(zeroValue E).run P w= .ok z w)(y:Int):
  (Instr.lookup t (.map (some r)) (.int .i64 y) true).run P w= .ok (.tuple #[(acs l y).getD z,.bool (acs l y).isSome]) w:=by
 rcases aeA y es.toList l 0 hs with ⟨h1,h2⟩|⟨u,j,h1,h2,h3,h4⟩
 .simp[Instr.lookup,run_underlying ht,bX hr,bO es.isEmpty 9999 hk,bR hk y es.toList h2,hz,h1]
 .simp[Instr.lookup,run_underlying ht,bX hr,bO es.isEmpty 9999 hk,bR hk y es.toList h3,h1]
end
section
variable {P:Program} {w:World} {t K E:TypeId} {r clock:Nat} {es:Array MapEntry} {l:List (Int×Value)}
theorem aht(hs:adk es.toList l){j:Nat}{y:Int}{u:Value}(h:l[j]? =some (y,u)):∃hj:j<es.size,es[j].key= .int .i64 y/\es[j].val=u:=by
 have hlen:es.toList.length=l.length:=by have :=congrArg List.length hs;simpa using this
 have hj:j<l.length:=(List.getElem?_eq_some_iff.1 h).1;have hjs:j<es.size:=by simpa using(by omega:j<es.toList.length)
 refine⟨hjs,?_⟩;have h':=congrArg (fun l=>l[j]?) hs;simp only[List.getElem?_map,h]at h';rw[List.getElem?_eq_getElem (by simpa using hjs)]at h';simpa using h'
theorem afA(ht:P.underlying t=some (.map K E))(hk:P.underlying K=some (.int .i64))(hr:w.heap[r]? =some (.map es clock))(hs:adk es.toList l){z:Value}(hz:∀w,(zeroValue E).run P w= .ok z w)(y:Int)(hb:es.toList.map (·.born) |>.Nodup)(hlt:∀e∈es.toList,e.born<clock):
  ∃es' clock' l' j st,(Instr.mapEntry t (.map (some r)) (.int .i64 y)).run P w= .ok (.tuple #[(acs l y).getD z,.int .i64 (st:Nat)]) (w.putObj r (.map es' clock'))/\adk es'.toList l'/\(∀x,acs l' x=if x=y then some ((acs l y).getD z)else acs l x)/\(es'.toList.map (·.born)).Nodup/\(∀e∈es'.toList,e.born<clock')/\(∃hj:j<es'.size,es'[j].born=st/\es'[j].key= .int .i64 y)/\∀v' x,acs (l'.set j (y,v')) x=if x=y then some v' else acs l' x:=by
 rcases aeA y es.toList l 0 hs with ⟨h1,h2⟩|⟨u,j,h1,h2,h3,h4⟩
 .have hlen:es.toList.length=l.length:=by have :=congrArg List.length hs;simpa using this
  have hsz:es.size=l.length:=by simpa using hlen
  refine⟨es.push ⟨.int .i64 y,z,clock⟩,clock+1,l++[(y,z)],es.size,clock,?_,?_,?_,?_,?_,⟨by simp,by simp,by simp⟩,fun v' x=>?_⟩
  .simp[Instr.mapEntry,run_underlying ht,bX hr,bO false 9999 hk,bR hk y es.toList h2,ny _ hr,hz,h1,goInt]
  .unfold adk at hs|-
   simp only[Array.toList_push,List.map_append,hs,List.map_cons,List.map_nil]
  .rw[h1];exact ael l y z h1
  .simp only[Array.toList_push,List.map_append,List.map_cons,List.map_nil]
   rw[List.nodup_append];refine⟨hb,by simp,fun a ha b' hb'=>?_⟩;obtain⟨e,he,rfl⟩:=List.mem_map.1 ha;have :=hlt e he;simp at hb'
   omega
  .intro e he
   rw[Array.toList_push,List.mem_append]at he;rcases he with he|he
   .have :=hlt e he;omega
   .simp at he;subst he;simp
  .rw[hsz,List.set_append_right _ _ (by omega),Nat.sub_self,List.set_cons_zero]
   rw[ael l y v' h1,ael l y z h1];by_cases hx:x=y<;>simp[hx]
 .rw[Nat.zero_add]at h3
  obtain⟨hjs,hkey,hval⟩:=aht hs h2;have hself:es.modify j (fun e=>{e with key:= .int .i64 y})=es:=by
   apply Array.ext
   .simp
   .intro i h1' h2'
    rw[Array.getElem_modify];split
    .rename_i hij;subst hij;exact congrArg (fun k=>(⟨k,es[j].val,es[j].born⟩:MapEntry)) hkey.symm
    .rfl
  refine⟨es,clock,l,j,es[j].born,?_,hs,fun x=>?_,hb,hlt,⟨hjs,rfl,hkey⟩,h4⟩
  .have hst:∀W,(Instr.keyThatStays (.int .i64 y) (.int .i64 y)).run P W= .ok (.int .i64 y) W:=fun W=>by simp[Instr.keyThatStays,Instr.sameBits]
   simp[Instr.mapEntry,run_underlying ht,bX hr,bO false 9999 hk,bR hk y es.toList h3,ny _ hr,Array.getElem?_eq_getElem hjs,hkey,hst,hself,h1,goInt]
  .by_cases hx:x=y
   .subst hx;simp[h1]
   .simp[hx]
theorem afg(hr:w.heap[r]? =some (.map es clock))(hs:adk es.toList l){y:Int}{j st:Nat}(hj:∃hj:j<es.size,es[j].born=st/\es[j].key= .int .i64 y)(hb:(es.toList.map (·.born)).Nodup)(v:Value):
  (Instr.entryStore t (.map (some r)) (.int .i64 (st:Nat)) v).run P w= .ok () (w.putObj r (.map (es.modify j fun e=>{e with val:=v}) clock))/\adk (es.modify j fun e=>{e with val:=v}).toList (l.set j (y,v)):=by
 obtain⟨hj,h1,h2⟩:=hj;have hf:es.findIdx? (fun e=>(e.born:Int)==(st:Nat))=some j:=by
  rw[Array.findIdx?_eq_some_iff_getElem];refine⟨hj,by simp[h1],fun i hi hc=>?_⟩;have hi':i<es.size:=by omega
  have h3:es[i].born=es[j].born:=by rw[h1];simp at hc;omega
  have h4:=List.pairwise_iff_getElem.1 hb i j (by simpa using hi') (by simpa using hj) hi;exact h4 (by simpa using h3)
 refine⟨?_,?_⟩
 .simp[Instr.entryStore,bX hr,asInt,asIntOf,hf,ny _ hr]
 .unfold adk at hs|-
  rw[List.map_set,<-hs];apply List.ext_getElem
  .simp
  .intro i h1' h2'
   simp only[List.getElem_map,Array.getElem_toList,List.getElem_set];by_cases hij:j=i
   .subst hij
    simp[Array.getElem_modify,h2]
   .simp[Array.getElem_modify,hij]
end
def w9(r:Nat)(f:Int->Option Value):ai where
 holds w fp:=fp=[r]/\∃es clock l,w.heap[r]? =some (.map es clock)/\adk es.toList l/\(∀z,acs l z=f z)/\aeh es.toList clock
 keep:=fun⟨h1,es,c,ys,h2,h3⟩ he=>⟨h1,es,c,ys,(he r (by simp[h1])).trans h2,h3⟩
 lt:=fun⟨h1,es,c,ys,h2,_⟩ k hk=>by subst h1;simp at hk;subst hk;exact(Array.getElem?_eq_some_iff.1 h2).1
theorem BD.mapNew{T:List Nat}{w0 w:World}{l:List ai}(h:BD T w0 w l):BD T w0 (w.alloc (.map #[] 0)) (l++[w9 w.heap.size fun _=>none]):=
 h.new (t':=w9 w.heap.size fun _=>none) (f':=[w.heap.size]) ⟨rfl,#[],0,[],heap_alloc_new w _,rfl,fun _=>rfl,⟨by simp,by simp⟩⟩ ⟨(Touch.refl [] w).alloc _,fun k hk=> .inr (by simp at hk;omega)⟩
def adD(f:Int->Option Value)(y:Int)(v:Value):Int->Option Value:=fun z=>if z=y then some v else f z
theorem BD.mapSet{P:Program}{t K E:TypeId}{T:List Nat}{w0 w:World}{r:Nat}{f:Int->Option Value}{R:List ai}(ht:P.underlying t=some (.map K E))(hk:P.underlying K=some (.int .i64))(h:BD T w0 w (w9 r f::R))(y:Int)(v:Value):
  ∃w',(Instr.mapUpdate t (.map (some r)) (.int .i64 y) v).run P w= .ok () w'/\BD T w0 w' (w9 r (adD f y v)::R):=by
 obtain⟨fp,⟨hf,es,clock,ys,hr,hset,hys,hbn⟩,_,hs⟩:=h.step 0 rfl;subst hf;obtain⟨es',clock',l',hrun,hset',hx',hbn'⟩:=afW (P:=P) ht hk hr hset hbn y v;have hlt:=(Array.getElem?_eq_some_iff.1 hr).1;refine⟨_,hrun,?_⟩;have :=hs _ (w9 r (adD f y v)) [r] ⟨rfl,es',clock',l',World.putObj_heap_same hlt,hset',fun z=>by rw[hx',hys];rfl,hbn'⟩ ⟨(Touch.refl _ w).putObj (.inr (by simp)) _,fun k hk=> .inl hk⟩;simpa using this
def agJ(r:Nat)(f:Int->Option Value)(y:Int)(st:Nat):ai where
 holds w fp:=fp=[r]/\∃es clock l,w.heap[r]? =some (.map es clock)/\adk es.toList l/\(∀z,acs l z=f z)/\aeh es.toList clock/\∃j,(∃hj:j<es.size,es[j].born=st/\es[j].key= .int .i64 y)/\∀v' x,acs (l.set j (y,v')) x=if x=y then some v' else acs l x
 keep:=fun⟨h1,es,c,ys,h2,h3⟩ he=>⟨h1,es,c,ys,(he r (by simp[h1])).trans h2,h3⟩
 lt:=fun⟨h1,es,c,ys,h2,_⟩ k hk=>by subst h1;simp at hk;subst hk;exact(Array.getElem?_eq_some_iff.1 h2).1
theorem BD.mapEnt{P:Program}{t K E:TypeId}{T:List Nat}{w0 w:World}{r:Nat}{f:Int->Option Value}{R:List ai}{z:Value}(ht:P.underlying t=some (.map K E))(hk:P.underlying K=some (.int .i64))(hz:∀w,(zeroValue E).run P w= .ok z w)(h:BD T w0 w (w9 r f::R))(y:Int):
  ∃w' st,(Instr.mapEntry t (.map (some r)) (.int .i64 y)).run P w= .ok (.tuple #[(f y).getD z,.int .i64 (st:Nat)]) w'/\BD T w0 w' (agJ r (adD f y ((f y).getD z)) y st::R):=by
 obtain⟨fp,⟨hf,es,clock,ys,hr,hset,hys,hbn⟩,_,hs⟩:=h.step 0 rfl;subst hf;obtain⟨es',clock',l',j,st,hrun,hset',hx',hb1,hb2,hj,hj2⟩:=afA (P:=P) ht hk hr hset hz y hbn.nd hbn.lt;have hlt:=(Array.getElem?_eq_some_iff.1 hr).1;rw[hys]at hrun hx';refine⟨_,st,hrun,?_⟩;have :=hs _ (agJ r (adD f y ((f y).getD z)) y st) [r] ⟨rfl,es',clock',l',World.putObj_heap_same hlt,hset',fun x=>by rw[hx',hys];rfl,⟨hb1,hb2⟩,j,hj,hj2⟩ ⟨(Touch.refl _ w).putObj (.inr (by simp)) _,fun k hk=> .inl hk⟩;simpa using this
theorem BD.ahG{P:Program}{t:TypeId}{T:List Nat}{w0 w:World}{r st:Nat}{f:Int->Option Value}{y:Int}{R:List ai}(h:BD T w0 w (agJ r f y st::R))(v:Value):
  ∃w',(Instr.entryStore t (.map (some r)) (.int .i64 (st:Nat)) v).run P w= .ok () w'/\BD T w0 w' (w9 r (adD f y v)::R):=by
 obtain⟨fp,⟨hf,es,clock,ys,hr,hset,hys,hbn,j,hj,hj2⟩,_,hs⟩:=h.step 0 rfl;subst hf;obtain⟨hrun,hset'⟩:=afg (P:=P) (t:=t) hr hset hj hbn.nd v;have hlt:=(Array.getElem?_eq_some_iff.1 hr).1;refine⟨_,hrun,?_⟩;have :=hs _ (w9 r (adD f y v)) [r] ⟨rfl,_,clock,_,World.putObj_heap_same hlt,hset',fun x=>by rw[hj2,hys];rfl,hbn.modify j _ (fun _=>rfl)⟩ ⟨(Touch.refl _ w).putObj (.inr (by simp)) _,fun k hk=> .inl hk⟩;simpa using this
section
variable {P:Program} {ops:Array Oper} {Q:Exit->Act->LG->Prop} {a a':Act} {M M':LG} {m n:Nat} {t t':Tr}
theorem aeW{d:Tmp}{op:Op}{vz:TypeId}{pos:String}{Sm:Array Edge}{gd:Option (Nat×Bool)}{r s:Nat}{ty K E:TypeId}{f:Int->Option Value}{y:Int}{z v:Value}{b:Bool}(h:DrN P ops Q m t' a' M)(hi:ops[n]? =some (Oper.mk (some d) op vz pos Sm gd):=by rfl)(hw:Region.wanted (Oper.mk (some d) op vz pos Sm gd) (yielded ops a.tmps)=true:=by rfl)(ho:execOp a.eval (Oper.mk (some d) op vz pos Sm gd)=(do pure (.value (<-Instr.lookup ty (.map (some r)) (.int .i64 y) b))):=by rfl)(ht1:P.underlying ty=some (.map K E):=by rfl)(hk:P.underlying K=some (.int .i64):=by rfl)(hz:∀w,(zeroValue E).run P w= .ok z w:=by intro w;kernel_rfl)(hl:AtM M [w9 r f] s:=by(repeat (first |exact AtM.here|apply AtM.there));done)(hv:(if b then .tuple #[(f y).getD z,.bool (f y).isSome]else(f y).getD z)=v:=by first |(simp only[if_true,Bool.false_eq_true,if_false];exact rfl)|exact rfl)(ha:a.put (some d) v=a':=by(try simp only[Act.put,sAq,sZq,sSq]);exact rfl)(hm:n+1=m:=by simp only[Nat.reduceAdd];exact rfl)(ht:aa4 n (.y [s]) t t':=by first |exact aa4.p|exact aa4.d):DrN P ops Q n t a M:=by
 refine abo ht hi ⟨_,hi,by simp,v,.inl ⟨hw,fun w ⟨T,w0,R,hg⟩=>?_⟩,by show DrN P ops Q (n+1) t' (a.put (some d) v) M;rw[hm,ha];exact h⟩;have hg2:BD T w0 w (w9 r f::R):=by simpa[gets,hl.at]using hg
 obtain⟨fp,⟨hf,es,clock,ys,hr,hset,hys,_⟩,_,_⟩:=hg2.step 0 rfl;rw[ho];subst hv;cases b
 .simp[af7 ht1 hk hr hset (hz w) y,hys]
 .simp[afG ht1 hk hr hset (hz w) y,hys]
theorem mapS{op:Op}{vz:TypeId}{pos:String}{Sm:Array Edge}{gd:Option (Nat×Bool)}{r s:Nat}{ty K E:TypeId}{f:Int->Option Value}{y:Int}{v:Value}(h:DrN P ops Q m t' a M')(hi:ops[n]? =some (Oper.mk none op vz pos Sm gd):=by rfl)(hw:Region.wanted (Oper.mk none op vz pos Sm gd) (yielded ops a.tmps)=true:=by rfl)(ho:execOp a.eval (Oper.mk none op vz pos Sm gd)=(do Instr.mapUpdate ty (.map (some r)) (.int .i64 y) v;pure .skip):=by rfl)(hl:AtM M [w9 r f] s:=by(repeat (first |exact AtM.here|apply AtM.there));done)(ht1:P.underlying ty=some (.map K E):=by rfl)(hk:P.underlying K=some (.int .i64):=by rfl)(hM:aaE M s [w9 r (adD f y v)]=M':=by simp only[aa6,aaA];exact rfl)(hm:n+1=m:=by simp only[Nat.reduceAdd];exact rfl)(ht:aa4 n (.s s) t t':=by first |exact aa4.p|exact aa4.d):DrN P ops Q n t a M:=by
 refine abo ht hi ⟨_,hi,undef,[w9 r (adD f y v)],⟨hw,fun T w0 w R hg=>?_⟩,by show DrN P ops Q (n+1) t' a (aaE M s _);rw[hm,hM];exact h⟩;rw[hl.at]at hg;obtain⟨w',h1,h2⟩:=BD.mapSet (P:=P) ht1 hk (by simpa using hg) y v;exact⟨w',.inr ⟨by rw[ho];simp[h1],rfl⟩,by simpa using h2⟩
theorem mapN{d:Tmp}{op:Op}{vz:TypeId}{pos:String}{Sm:Array Edge}{tt:Nat}{ty:TypeId}{A:Nat->Act}{N:Nat->LG}(h:∀g,DrN P ops Q m t' (A g) (N g))(hi:ops[n]? =some (Oper.mk (some d) op vz pos Sm none):=by rfl)(ho:∀w,(execOp a.eval (Oper.mk (some d) op vz pos Sm none)).run P w= .ok (.value (.map (some w.heap.size))) (w.alloc (.map #[] 0)):=by intro w;kernel_rfl)(hln:Len M tt:=by(repeat (first |exact Len.nil|apply Len.cons));done)(ha:∀g,a.put (some d) (.map (some g))=A g:=by intro g;(try simp only[Act.put,sAq,sZq,sSq]);exact rfl)(hM:∀g,puts M [tt] [[w9 g fun _=>none]]=N g:=by intro g;simp only[puts,abn,aa6,aaA];exact rfl)(hm:n+1=m:=by simp only[Nat.reduceAdd];exact rfl)(ht:aa4 n (.c false [tt] []) t t':=by first |exact aa4.p|exact aa4.d):DrN P ops Q n t a M:=by
 refine abo ht hi ⟨_,hi,by simp,fun en Y=>∃g,en= .returned (.map (some g))/\Y=[[w9 g fun _=>none]],⟨rfl,fun T w0 w R hl0=>?_⟩,?_⟩
 .have hg2:gets M [tt]=[]:=by simp[gets,hln.at]
  rw[hg2]at hl0;unfold Oper.ends;rw[ho];refine⟨_,rfl,⟨_,rfl,rfl⟩,?_⟩;have h2:=BD.mapNew (by simpa[gets]using hl0);simpa[gets]using h2.prm List.perm_append_comm
 .rintro en Y ⟨g,rfl,rfl⟩ _ _
  show DrN P ops Q (n+1) t' (a.put (some d) (.map (some g))) (puts M [tt] _)
  rw[hm,ha,hM];exact h g
theorem mapE{d:Tmp}{op:Op}{vz:TypeId}{pos:String}{Sm:Array Edge}{r s:Nat}{ty K E:TypeId}{f:Int->Option Value}{y:Int}{z:Value}{A:Nat->Act}{N:Nat->LG}(h:∀st,DrN P ops Q m t' (A st) (N st))(hi:ops[n]? =some (Oper.mk (some d) op vz pos Sm none):=by rfl)(ho:execOp a.eval (Oper.mk (some d) op vz pos Sm none)=(do pure (.value (<-Instr.mapEntry ty (.map (some r)) (.int .i64 y)))):=by rfl)(ht1:P.underlying ty=some (.map K E):=by rfl)(hk:P.underlying K=some (.int .i64):=by rfl)(hz:∀w,(zeroValue E).run P w= .ok z w:=by intro w;kernel_rfl)(hl:AtM M [w9 r f] s:=by(repeat (first |exact AtM.here|apply AtM.there));done)(ha:∀st:Nat,a.put (some d) (.tuple #[(f y).getD z,.int .i64 (st:Nat)])=A st:=by intro st;(try simp only[Act.put,sAq,sZq,sSq]);exact rfl)(hM:∀st,puts M [s] [[agJ r (adD f y ((f y).getD z)) y st]]=N st:=by intro st;simp only[puts,abn,aa6,aaA];exact rfl)(hm:n+1=m:=by simp only[Nat.reduceAdd];exact rfl)(ht:aa4 n (.c false [s] []) t t':=by first |exact aa4.p|exact aa4.d):DrN P ops Q n t a M:=by
 refine abo ht hi ⟨_,hi,by simp,fun en Y=>∃st:Nat,en= .returned (.tuple #[(f y).getD z,.int .i64 (st:Nat)])/\Y=[[agJ r (adD f y ((f y).getD z)) y st]],⟨rfl,fun T w0 w R hl0=>?_⟩,?_⟩
 .have hg2:gets M [s]=[w9 r f]:=by simp[gets,hl.at]
  rw[hg2]at hl0;obtain⟨w',st,h1,h2⟩:=BD.mapEnt (P:=P) ht1 hk hz (by simpa[gets]using hl0) y;unfold Oper.ends;rw[ho];simp only[Sem.run_bind,h1,Result.andThen_ok,Sem.run_pure];exact⟨_,rfl,⟨st,rfl,rfl⟩,by simpa[gets]using h2⟩
 .rintro en Y ⟨st,rfl,rfl⟩ _ _
  show DrN P ops Q (n+1) t' (a.put (some d) (.tuple #[(f y).getD z,.int .i64 (st:Nat)])) (puts M [s] _)
  rw[hm,ha,hM];exact h st
theorem mapT{op:Op}{vz:TypeId}{pos:String}{Sm:Array Edge}{gd:Option (Nat×Bool)}{r s st:Nat}{ty:TypeId}{f:Int->Option Value}{y:Int}{v:Value}(h:DrN P ops Q m t' a M')(hi:ops[n]? =some (Oper.mk none op vz pos Sm gd):=by rfl)(hw:Region.wanted (Oper.mk none op vz pos Sm gd) (yielded ops a.tmps)=true:=by rfl)(ho:execOp a.eval (Oper.mk none op vz pos Sm gd)=(do Instr.entryStore ty (.map (some r)) (.int .i64 (st:Nat)) v;pure .skip):=by rfl)(hl:AtM M [agJ r f y st] s:=by(repeat (first |exact AtM.here|apply AtM.there));done)(hM:aaE M s [w9 r (adD f y v)]=M':=by simp only[aa6,aaA];exact rfl)(hm:n+1=m:=by simp only[Nat.reduceAdd];exact rfl)(ht:aa4 n (.s s) t t':=by first |exact aa4.p|exact aa4.d):DrN P ops Q n t a M:=by
 refine abo ht hi ⟨_,hi,undef,[w9 r (adD f y v)],⟨hw,fun T w0 w R hg=>?_⟩,by show DrN P ops Q (n+1) t' a (aaE M s _);rw[hm,hM];exact h⟩;rw[hl.at]at hg;obtain⟨w',h1,h2⟩:=BD.ahG (P:=P) (t:=ty) (by simpa using hg) v;exact⟨w',.inr ⟨by rw[ho];simp[h1],rfl⟩,by simpa using h2⟩
end
end
section
open Go.RowKit
def ah7{α:Type}(p:α->Prop)(l:α->List ai):ai where
 holds w fp:=∃a,p a/\∃F:Nat->List Nat,(∀(i:Nat) (t:ai),(l a)[i]? =some t->t.holds w (F i))/\(∀k∈fp,∃i,i<(l a).length/\k∈F i)/\(∀i,i<(l a).length->∀k∈F i,k∈fp)/\∀i j,i<(l a).length->j<(l a).length->i≠j->∀k∈F i,k∉F j
 keep:=fun{w w' fp} ⟨a,hp,F,h1,h2,h3,h4⟩ he=>⟨a,hp,F,fun i (t:ai) hi=>t.keep (h1 i t hi) (fun k hk=>he k (h3 i (List.getElem?_eq_some_iff.1 hi).1 k hk)),h2,h3,h4⟩
 lt:=fun{w fp} ⟨a,hp,F,h1,h2,h3,h4⟩ k hk=>by
  obtain⟨i,hi,hki⟩:=h2 k hk;exact(l a)[i].lt (h1 i _ (List.getElem?_eq_getElem hi)) k hki
section
variable {α:Type} {p:α->Prop} {l:α->List ai} {T:List Nat} {w0 w:World} {r:List ai}
theorem BD.anyIn{a:α}(h:BD T w0 w (l a++r))(hp:p a):BD T w0 w (ah7 p l::r):=by
 obtain⟨ht,F,h1,h2⟩:=h;have hF:∀k,k∈(List.range (l a).length).flatMap F↔∃i,i<(l a).length/\k∈F i:=fun k=>by simp[List.mem_flatMap,List.mem_range]
 have hl:∀i t,(l a)[i]? =some t->(l a++r)[i]? =some t:=fun i t hi=>by rw[List.getElem?_append_left (List.getElem?_eq_some_iff.1 hi).1];exact hi
 have hlt:∀i,i<(l a).length->i<(l a++r).length:=fun i hi=>by rw[List.length_append];omega
 refine⟨ht,fun i=>match i with |0=>(List.range (l a).length).flatMap F|i+1=>F ((l a).length+i),fun i t hi=>?_,fun i j hi hj hij k hk=>?_⟩
 .match i,hi with
  |0,hi=>
   have ht0:ah7 p l=t:=by simpa using hi
   subst ht0;refine⟨⟨a,hp,F,fun i t hi=>(h1 i t (hl i t hi)).1,fun k hk=>(hF k).1 hk,fun i hi k hk=>(hF k).2 ⟨i,hi,hk⟩,fun i j hi hj hij=>h2 i j (hlt i hi) (hlt j hj) hij⟩,fun k hk=>?_⟩;obtain⟨i,hi,hki⟩:=(hF k).1 hk;exact(h1 i _ (hl i _ (List.getElem?_eq_getElem hi))).2 k hki
  |i+1,hi=>
   refine h1 ((l a).length+i) t ?_;rw[List.getElem?_append_right (by omega),Nat.add_sub_cancel_left];simpa using hi
 .have hr:∀i,i+1<(ah7 p l::r).length->(l a).length+i<(l a++r).length:=fun i hi=>by simp at hi|-;omega
  match i,j,hi,hj,hij,hk with
  |0,0,_,_,hij,_=>exact absurd rfl hij
  |0,j+1,_,hj,_,hk=>
   obtain⟨i,hi,hki⟩:=(hF k).1 hk;exact h2 i ((l a).length+j) (hlt i hi) (hr j hj) (by omega) k hki
  |i+1,0,hi,_,_,hk=>
   intro hk0;obtain⟨j,hj,hkj⟩:=(hF k).1 hk0;exact h2 j ((l a).length+i) (hlt j hj) (hr i hi) (by omega) k hkj hk
  |i+1,j+1,hi,hj,hij,hk=>exact h2 _ _ (hr i hi) (hr j hj) (by omega) k hk
theorem BD.anyOut(h:BD T w0 w (ah7 p l::r)):∃a,p a/\BD T w0 w (l a++r):=by
 obtain⟨ht,G,h1,h2⟩:=h;obtain⟨⟨a,hp,F,f1,f2,f3,f4⟩,hT⟩:=h1 0 _ rfl;refine⟨a,hp,ht,fun i=>if i<(l a).length then F i else G (i-(l a).length+1),fun i t hi=>?_,fun i j hi hj hij k hk=>?_⟩
 .by_cases hia:i<(l a).length
  .simp only[if_pos hia]
   rw[List.getElem?_append_left hia]at hi;exact⟨f1 i t hi,fun k hk=>hT k (f3 i hia k hk)⟩
  .simp only[if_neg hia]
   rw[List.getElem?_append_right (by omega)]at hi;exact h1 _ t (by simpa using hi)
 .have hG:∀i,¬i<(l a).length->i<(l a++r).length->i-(l a).length+1<(ah7 p l::r).length:=fun i h1 h2=>by simp at h2|-;omega
  have h0:0<(ah7 p l::r).length:=by simp
  by_cases hia:i<(l a).length<;>by_cases hja:j<(l a).length
  .simp only[if_pos hia]at hk
   simp only[if_pos hja];exact f4 i j hia hja hij k hk
  .simp only[if_pos hia]at hk
   simp only[if_neg hja];exact h2 0 _ h0 (hG j hja hj) (by omega) k (f3 i hia k hk)
  .simp only[if_neg hia]at hk
   simp only[if_pos hja];exact fun hkj=>h2 0 _ h0 (hG i hia hi) (by omega) k (f3 j hja k hkj) hk
  .simp only[if_neg hia]at hk
   simp only[if_neg hja];exact h2 _ _ (hG i hia hi) (hG j hja hj) (by omega) k hk
end
end
theorem afC{f:FuncId}{args:Array Value}{p:Prop}{w:World}(h:aai prog f args [[aA (Gi w)]] (xq (fun c:Bool=>c=true↔p) (fun c=> .bool c) fun _=>[[aA (Gi w)]])):Calls prog f args w (aI p w):=
 (h (List.range w.heap.size) w (by simpa using BD.old0 w)).mono fun e w' ⟨Y,_,⟨c,hc,he,hY⟩,hl⟩=>by
  subst hY;have hl':BD (List.range w.heap.size) w w' [aA (Gi w)]:=by simpa using hl
  exact⟨c,he,hc,hl'.lg (hl'.still 0 rfl)⟩
theorem aia{w:World}{b k:Nat}{v:Value}(h:w.cell? ⟨b,k,none⟩=some v):abv [aA (Gi w)] b k v:=aat fun W ho=>by
 rw[<-h];simp[World.cell?,ho b (World.block_lt_of_cell? w ⟨b,k,none⟩ h)]
def bI(vc:Value)(most:Nat)(vl:Value):Value:= .agg #[vc,(most:Int),vl]
structure gu(w:World)(vc vl:Value)(s:Ar):Prop where
 Dh:w.ownsRow 0 177 1 vc s.C.length (words s.C)
 log:w.ownsRow 0 290 5 vl s.L.length (aJ s.L)
 tQ:s.C.length<=65536
 most:s.most<=65536
theorem gu.touch{w w':World}{vc vl:Value}{s:Ar}(h:gu w vc vl s)(ht:Touch [] w w'):gu w' vc vl s:=⟨dW h.Dh ht (by simp),dW h.log ht (by simp),h.tQ,h.most⟩
theorem gu.keep{w w':World}{vc vl:Value}{s:Ar}(h:gu w vc vl s)(hs:∀b∈sb vc++sb vl,w'.heap[b]? =w.heap[b]?):gu w' vc vl s:=
 ⟨dN h.Dh (fun b hb=>hs b (List.mem_append_left _ hb)),dN h.log (fun b hb=>hs b (List.mem_append_right _ hb)),h.tQ,h.most⟩
theorem iR(l:List Nat):∀u∈words l,u.oneCell'=true:=by
 intro u hu;simp only[words,List.mem_map]at hu;obtain⟨n,_,rfl⟩:=hu;rfl
theorem dV(l:List Acc):∀u∈aJ l,u.oneCell'=true:=by
 intro u hu;simp only[aJ,List.mem_flatMap]at hu;obtain⟨x,_,hx⟩:=hu;exact gZ x u hx
theorem gF(W:World)(e:TypeId)(size:Nat):(W.alloc (.cells #[] e)).ownsRow 0 e size (.slice (some ⟨W.heap.size,0,none⟩) 0 0) 0 []:=
 ⟨by simp,.inr ⟨W.heap.size,0,#[],rfl,Nat.zero_le _,heap_alloc_new W _,Nat.le_refl _,by simp[maxLen],by simp,by simp⟩⟩
theorem lD(w:World)(vc vl:Value)(s:Ar)(n:Int)(h:gu w vc vl s):Calls prog 218 #[bI vc s.most vl,n] w fun e w'=>
  ∃CQ,e= .returned (.tuple #[bI CQ s.most vl,.int .i64 ((s.au n).2.1:Int),.int .i64 ((s.au n).2.2:Int)])/\gu w' CQ vl (s.au n).1/\Touch [] w w'/\∀b∈sb CQ,b∈sb vc\/w.heap.size<=b:=by
 obtain⟨i0,hi,hz0,hz1,hz2⟩:=info_parts fB;obtain⟨aa,cp,rfl,hc1,hc2⟩:=aK h.Dh;obtain⟨la,lp,rfl,hl1,hl2⟩:=aK h.log;have HA:=hdq h;have hcl:=h.tQ;have hml:=h.most;clear h;unfold bI;by_cases hn:n<0
 .have hv:s.au n=(s,0,2):=by simp[Ar.au,hn]
  rw[hv];go_enter func218,ntmps218
  go_wp2;refine bodyPost_ret (v:= .tuple #[.agg #[.slice aa s.C.length cp,(s.most:Int),.slice la s.L.length lp],(),(2:Int)]) (by simp[results,results218,go_sem]) rfl ?_;refine⟨_,rfl,HA.o.touch ?_,?_,fun b hb=> .inl hb⟩;all_goals exact((Touch.refl [] w).alloc _).alloc _
 .by_cases hf:(s.most:Int)-(s.C.length:Int)<n
  .have hv:s.au n=(s,0,6):=by simp[Ar.au,hn,hf]
   rw[hv];go_enter func218,ntmps218
   go_wp2;refine bodyPost_ret (v:= .tuple #[.agg #[.slice aa s.C.length cp,(s.most:Int),.slice la s.L.length lp],(),(6:Int)]) (by simp[results,results218,go_sem]) rfl ?_;refine⟨_,rfl,HA.o.touch ?_,?_,fun b hb=> .inl hb⟩;all_goals exact((Touch.refl [] w).alloc _).alloc _
  .obtain⟨k,rfl⟩:=Int.eq_ofNat_of_zero_le (Int.not_lt.1 hn)
   have hv:s.au (k:Int)=({s with C:=s.C++List.replicate k 0},s.C.length,0):=by simp[Ar.au,hn,hf]
   rw[hv];have hk:s.C.length+k<=s.most:=by omega
   have HB:Hid (Cg (((w.alloc (.cells #[.slice aa s.C.length cp,(s.most:Int),.slice la s.L.length lp] 42)).alloc (.cells #[True,(),True] 42)).alloc (.cells #[] 177)) w.heap.size 42 #[.slice aa s.C.length cp,(s.most:Int),.slice la s.L.length lp]):=
    ((Cg.new w _ _).alloc _).alloc _
   have HR:Hid (Cg (((w.alloc (.cells #[.slice aa s.C.length cp,(s.most:Int),.slice la s.L.length lp] 42)).alloc (.cells #[True,(),True] 42)).alloc (.cells #[] 177)) (w.heap.size+1) 42 #[True,(),True]):=by
    have :=(Cg.new (w.alloc (.cells #[.slice aa s.C.length cp,(s.most:Int),.slice la s.L.length lp] 42)) 42 #[True,(),True]).alloc (.cells #[] 177);rw[World.size_alloc]at this;exact this
   have HT0:Hid (Touch [] w (((w.alloc (.cells #[.slice aa s.C.length cp,(s.most:Int),.slice la s.L.length lp] 42)).alloc (.cells #[True,(),True] 42)).alloc (.cells #[] 177))):=(((Touch.refl [] w).alloc _).alloc _).alloc _;have HE:Hid ((((w.alloc (.cells #[.slice aa s.C.length cp,(s.most:Int),.slice la s.L.length lp] 42)).alloc (.cells #[True,(),True] 42)).alloc (.cells #[] 177)).ownsRow 0 177 1 (.slice (some ⟨w.heap.size+1+1,0,none⟩) 0 0) 0 []):=by
    have :=gF ((w.alloc (.cells #[.slice aa s.C.length cp,(s.most:Int),.slice la s.L.length lp] 42)).alloc (.cells #[True,(),True] 42)) 177 1;rw[World.size_alloc,World.size_alloc]at this;exact this
   have hbl:w.heap.size<w.heap.size+1+1:=by omega
   clear hv hl1 hl2 hc1 hc2;go_enter func218,ntmps218
   go_wp2_with (at_builtin;go_must (refine bW _ rfl (.tmp 23) (.tmp 25) 39 rfl 177 i0 (.int .u64 0) 1 8 underlying39 hi hz0 hz1 hz2 rfl (by decide) (.slice (some ⟨w.heap.size+1+1,0,none⟩) 0 0) 0 [] rfl HE.o (.slice aa s.C.length cp) s.C.length (words s.C) rfl (dW HA.o.Dh HT0.o (by simp)) (iR _) (by simp only[maxLen];omega) (by omega) ?_);intro a1 c1 w1 hown hgrow hat;refine Hid.o ?_)
   rw[Nat.zero_add,List.nil_append]at hown;rw[Nat.zero_add]at hat;have HT1:Hid (Touch [] w w1):=HT0.o.grown hgrow (fun j hj=> .inr (by simp[Value.ownBlock]at hj;omega));have HB1:Hid (Cg w1 w.heap.size 42 #[.slice aa s.C.length cp,(s.most:Int),.slice la s.L.length lp]):=HB.o.grown hgrow (by simp[Value.ownBlock];omega);have HR1:Hid (Cg w1 (w.heap.size+1) 42 #[True,(),True]):=HR.o.grown hgrow (by simp[Value.ownBlock]);have HO1:=hdq hown;have FR:Hid (∀j∈sb (.slice a1 s.C.length c1),w.heap.size<=j):=by
    intro j hj;rcases hat with h1|h1
    .rw[sb,h1]at hj
     have :j=w.heap.size+1+1:=by simpa[Value.ownBlock]using hj
     omega
    .rw[sb,h1]at hj
     have :j=w.heap.size+1+1+1:=by simpa using hj
     omega
   clear hown hgrow hat HB HE HT0 HR;refine hdq ?_;go_wp2_with (at_builtin;go_must (refine iG _ rfl (.tmp 26) (.tmp 27) 39 3 rfl 177 i0 (.int .u64 0) .i64 .i64 underlying39 underlying3 hi hz0 hz1 hz2 rfl rfl (.slice a1 s.C.length c1) s.C.length (words s.C) rfl HO1.o k rfl (by omega) ?_);intro a2 c2 w2 hown hgrow hat;refine Hid.o ?_)
   have HT2:Hid (Touch [] w w2):=HT1.o.grown hgrow (fun j hj=> .inr (FR.o j (by simp[sb,hj])));have hn0:w.heap.size∉sb (.slice a1 s.C.length c1):=own_ne HO1.o HB1.o (by decide);have HB2:Hid (Cg w2 w.heap.size 42 #[.slice aa s.C.length cp,(s.most:Int),.slice la s.L.length lp]):=HB1.o.grown hgrow (fun hc=>hn0 (by simp[sb,<-hc]));have HR2:Hid (Cg w2 (w.heap.size+1) 42 #[True,(),True]):=HR1.o.grown hgrow (fun hc=>own_ne HO1.o HR1.o (by decide) (by simp[sb,<-hc]));have Fs:=hdq hown;have Gy:Hid (∀j∈sb (.slice a2 (s.C.length+k) c2),w.heap.size<=j):=by
    intro j hj;rcases hat with h1|h1
    .exact FR.o j (by rw[sb,<-h1];exact hj)
    .rw[sb,h1]at hj
     have :j=w1.heap.size:=by simpa using hj
     have :=HT1.o.size;omega
   have b0:=HB2.o.cell 0;have b1:=HB2.o.cell 1;have b2:=HB2.o.cell 2;have r0:=HR2.o.cell 0;have r1:=HR2.o.cell 1;have r2:=HR2.o.cell 2;have g0:=HB2.o.frozen 0;have e0:=HR2.o.frozen 0;have e1:=HR2.o.frozen 1;have e2:=HR2.o.frozen 2;simp at b0 b1 b2 r0 r1 r2
   clear hown hgrow hat hn0 HB1 HR1 HT1;refine hdq ?_;go_wp2;have hf:=(((HR2.o.far (p:=⟨w.heap.size,0,none⟩) (by simp) (.slice a2 (s.C.length+k) c2)).set 0 (.slice a2 (s.C.length+k) c2)).set 1 (.int .i64 (s.most:Int))).set 2 (.slice la s.L.length lp);have q0:=hf.cell 0;have q1:=hf.cell 1;have q2:=hf.cell 2;simp at q0 q1 q2
   have HTF:Hid (Touch [] w ((((w2.setCell ⟨w.heap.size,0,none⟩ (.slice a2 (s.C.length+k) c2)).setCell ⟨w.heap.size+1,0,none⟩ (.slice a2 (s.C.length+k) c2)).setCell ⟨w.heap.size+1,1,none⟩ (.int .i64 (s.most:Int))).setCell ⟨w.heap.size+1,2,none⟩ (.slice la s.L.length lp))):=
    (((HT2.o.setCell ⟨w.heap.size,0,none⟩ _ (.inr (Nat.le_refl _))).setCell ⟨w.heap.size+1,0,none⟩ _ (.inr (Nat.le_succ _))).setCell ⟨w.heap.size+1,1,none⟩ _ (.inr (Nat.le_succ _))).setCell ⟨w.heap.size+1,2,none⟩ _ (.inr (Nat.le_succ _))
   have n0:=own_ne Fs.o HB2.o (by decide);have n1:=own_ne Fs.o HR2.o (by decide);refine bodyPost_ret (v:= .tuple #[.agg #[.slice a2 (s.C.length+k) c2,(s.most:Int),.slice la s.L.length lp],(s.C.length:Int),()]) (by simp[results,results218,go_sem,q0,q1,q2]) rfl ?_;refine⟨_,rfl,⟨?_,dW HA.o.log HTF.o (by simp),by simp;omega,hml⟩,HTF.o,fun b hb=> .inr (Gy.o b hb)⟩;have :=dh (dh (dh (dh Fs.o ⟨w.heap.size,0,none⟩ (.slice a2 (s.C.length+k) c2) n0) ⟨w.heap.size+1,0,none⟩ (.slice a2 (s.C.length+k) c2) n1) ⟨w.heap.size+1,1,none⟩ (.int .i64 (s.most:Int)) n1) ⟨w.heap.size+1,2,none⟩ (.slice la s.L.length lp) n1;simp only[List.length_append,List.length_replicate,mR,kI];exact this
end Go.Proofs.YtegejdlglonflaaGreatDoor
