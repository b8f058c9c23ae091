/-
  Texts of WorldCopies, laid together by program.
-/
import Derived.Test.YtddnnapoaonmjaaGreatDoorWZ16
namespace Go.Proofs.YtddnnapoaonmjaaGreatDoor
open Go.RowKit Go.Shelf Go.Proofs.Tryz
set_option maxRecDepth 100000
set_option maxHeartbeats 8000000
set_option linter.unusedVariables false
set_option linter.unusedSimpArgs false
theorem uR(w:World)(b g:Nat)(v1 v2 v3:Value)(h:Fe w b g v1 v2 v3)(bb o m c:Nat)(hv:v1= .slice (some ⟨bb,o,none⟩) m c)(k:Nat)(hk:k<m)(p:Nat)(hp:w.cell? ⟨bb,o+k,none⟩=some (.pointer (some ⟨p,0,none⟩))):
  Calls prog 72 #[b,(k:Int)] w fun e w'=>e= .returned (.pointer (some ⟨p,0,none⟩))/\Touch [] w w':=by
 have HF:=hdq (fun W bw (hW:Touch [] w W) (hb:W.cell? ⟨bw,0,none⟩=some (.pointer (some ⟨b,0,none⟩)))=>um W b g bw v1 v2 v3 (h.touch hW) hb bb o m c hv k hk);have HT:=hdq ((Touch.refl [] w).alloc (.cells #[b] 25));have HP:=hdq (HT.o.cellOf hp);have Ep:= @mfq;have hbl:bb<w.heap.size:=World.block_lt_of_cell? _ _ hp;go_enter func72,ntmps72
 go_wp2_with fail
 refine(HF.o _ _ HT.o ?_).mono ?_
 .simp[go_sem]
 rintro e w' ⟨rfl,rfl⟩;have hp2:=HP.o;go_wp2;go_ret
 exact⟨rfl,HT.o⟩
theorem tF(w:World)(b g:Nat)(v1 v2 v3:Value)(h:Fe w b g v1 v2 v3)(a:Option Addr)(m c:Nat)(hv:v1= .slice a m c)(k:Int)(hk:¬(0<=k/\k<(m:Int))):
  Calls prog 72 #[b,k] w fun e w'=>e= .panicked (aX 4)/\Touch [] w w':=by
 have HF:=hdq (fun W bw (hW:Touch [] w W) (hb:W.cell? ⟨bw,0,none⟩=some (.pointer (some ⟨b,0,none⟩)))=>rC W b g bw v1 v2 v3 (h.touch hW) hb a m c hv k hk);have HT:=hdq ((Touch.refl [] w).alloc (.cells #[b] 25));have Ep:= @mfq;go_enter func72,ntmps72
 go_wp2_with fail
 refine(HF.o _ _ HT.o ?_).mono ?_
 .simp[go_sem]
 rintro e w' ⟨rfl,rfl⟩;dsimp only;exact⟨rfl,rfl,HT.o⟩
theorem wD(w:World)(b g:Nat)(v1 v2 v3:Value)(h:Fe w b g v1 v2 v3)(bb o m c:Nat)(hv:v2= .slice (some ⟨bb,o,none⟩) m c)(k:Nat)(hk:k<m)(p:Nat)(hp:w.cell? ⟨bb,o+k,none⟩=some (.pointer (some ⟨p,0,none⟩))):
  Calls prog 107 #[b,(k:Int)] w fun e w'=>e= .returned (.pointer (some ⟨p,0,none⟩))/\Touch [] w w':=by
 have HF:=hdq (fun W bw (hW:Touch [] w W) (hb:W.cell? ⟨bw,0,none⟩=some (.pointer (some ⟨b,0,none⟩)))=>tY W b g bw v1 v2 v3 (h.touch hW) hb bb o m c hv k hk);have HT:=hdq ((Touch.refl [] w).alloc (.cells #[b] 25));have HP:=hdq (HT.o.cellOf hp);have Ep:= @mfq;have hbl:bb<w.heap.size:=World.block_lt_of_cell? _ _ hp;go_enter func107,ntmps107
 go_wp2_with fail
 refine(HF.o _ _ HT.o ?_).mono ?_
 .simp[go_sem]
 rintro e w' ⟨rfl,rfl⟩;have hp2:=HP.o;go_wp2;go_ret
 exact⟨rfl,HT.o⟩
theorem tu(w:World)(b g:Nat)(v1 v2 v3:Value)(h:Fe w b g v1 v2 v3)(a:Option Addr)(m c:Nat)(hv:v2= .slice a m c)(k:Int)(hk:¬(0<=k/\k<(m:Int))):
  Calls prog 107 #[b,k] w fun e w'=>e= .panicked (aX 4)/\Touch [] w w':=by
 have HF:=hdq (fun W bw (hW:Touch [] w W) (hb:W.cell? ⟨bw,0,none⟩=some (.pointer (some ⟨b,0,none⟩)))=>ru W b g bw v1 v2 v3 (h.touch hW) hb a m c hv k hk);have HT:=hdq ((Touch.refl [] w).alloc (.cells #[b] 25));have Ep:= @mfq;go_enter func107,ntmps107
 go_wp2_with fail
 refine(HF.o _ _ HT.o ?_).mono ?_
 .simp[go_sem]
 rintro e w' ⟨rfl,rfl⟩;dsimp only;exact⟨rfl,rfl,HT.o⟩
theorem vV(w:World)(b g:Nat)(v1 v2 v3:Value)(h:Fe w b g v1 v2 v3)(bb o m c:Nat)(hv:v3= .slice (some ⟨bb,o,none⟩) m c)(k:Nat)(hk:k<m):
  Calls prog 66 #[b,(k:Int)] w fun e w'=>e= .returned (.pointer (some ⟨bb,o+k*11,none⟩))/\Touch [] w w':=by
 have HF:=hdq (fun W bw (hW:Touch [] w W) (hb:W.cell? ⟨bw,0,none⟩=some (.pointer (some ⟨b,0,none⟩)))=>uF W b g bw v1 v2 v3 (h.touch hW) hb bb o m c hv k hk);have HT:=hdq ((Touch.refl [] w).alloc (.cells #[b] 25));have Ep:= @mfq;go_enter func66,ntmps66
 go_wp2_with fail
 refine(HF.o _ _ HT.o ?_).mono ?_
 .simp[go_sem]
 rintro e w' ⟨rfl,rfl⟩;go_wp2;go_ret
 exact⟨rfl,HT.o⟩
theorem tq(w:World)(b g:Nat)(v1 v2 v3:Value)(h:Fe w b g v1 v2 v3)(a:Option Addr)(m c:Nat)(hv:v3= .slice a m c)(k:Int)(hk:¬(0<=k/\k<(m:Int))):
  Calls prog 66 #[b,k] w fun e w'=>e= .panicked (aX 4)/\Touch [] w w':=by
 have HF:=hdq (fun W bw (hW:Touch [] w W) (hb:W.cell? ⟨bw,0,none⟩=some (.pointer (some ⟨b,0,none⟩)))=>rq W b g bw v1 v2 v3 (h.touch hW) hb a m c hv k hk);have HT:=hdq ((Touch.refl [] w).alloc (.cells #[b] 25));have Ep:= @mfq;go_enter func66,ntmps66
 go_wp2_with fail
 refine(HF.o _ _ HT.o ?_).mono ?_
 .simp[go_sem]
 rintro e w' ⟨rfl,rfl⟩;dsimp only;exact⟨rfl,rfl,HT.o⟩
theorem yg(w:World)(v:Int):Calls prog 89 #[v,()] w fun e w'=>e= .returned (.int .i64 v)/\w=w':=by
 go_enter func89,ntmps89
 go_wp2_with fail
 refine(require_ok _ _).mono ?_;rintro e w' ⟨rfl,rfl⟩;dsimp only;go_wp2;go_ret
 exact⟨rfl,rfl⟩
theorem vK(w:World)(v:Int)(er:Int)(her:er≠0):Calls prog 89 #[v,er] w fun e w'=>e= .panicked (aX er)/\w=w':=by
 have hb:(er==0)=false:=by simpa using her
 go_enter func89,ntmps89
 go_wp2_with fail
 refine(aY _ _).mono ?_;rintro e w' ⟨rfl,rfl⟩;dsimp only;exact⟨rfl,rfl,rfl⟩
theorem jf(w:World)(v:Int):Calls prog 121 #[v,()] w fun e w'=>e= .returned (.int .i64 v)/\w=w':=by
 go_enter func121,ntmps121
 go_wp2_with fail
 refine(require_ok _ _).mono ?_;rintro e w' ⟨rfl,rfl⟩;dsimp only;go_wp2;go_ret
 exact⟨rfl,rfl⟩
theorem iN(w:World)(v:Int)(er:Int)(her:er≠0):Calls prog 121 #[v,er] w fun e w'=>e= .panicked (aX er)/\w=w':=by
 have hb:(er==0)=false:=by simpa using her
 go_enter func121,ntmps121
 go_wp2_with fail
 refine(aY _ _).mono ?_;rintro e w' ⟨rfl,rfl⟩;dsimp only;exact⟨rfl,rfl,rfl⟩
theorem kX(w:World)(v:Bool):Calls prog 93 #[v,()] w fun e w'=>e= .returned (.bool v)/\w=w':=by
 go_enter func93,ntmps93
 go_wp2_with fail
 refine(require_ok _ _).mono ?_;rintro e w' ⟨rfl,rfl⟩;dsimp only;go_wp2;go_ret
 exact⟨rfl,rfl⟩
theorem jX(w:World)(v:Bool)(er:Int)(her:er≠0):Calls prog 93 #[v,er] w fun e w'=>e= .panicked (aX er)/\w=w':=by
 have hb:(er==0)=false:=by simpa using her
 go_enter func93,ntmps93
 go_wp2_with fail
 refine(aY _ _).mono ?_;rintro e w' ⟨rfl,rfl⟩;dsimp only;exact⟨rfl,rfl,rfl⟩
theorem lI(w:World)(v:Option Addr):Calls prog 81 #[.pointer v,()] w fun e w'=>e= .returned (.pointer v)/\w=w':=by
 go_enter func81,ntmps81
 go_wp2_with fail
 refine(require_ok _ _).mono ?_;rintro e w' ⟨rfl,rfl⟩;dsimp only;go_wp2;go_ret
 exact⟨rfl,rfl⟩
theorem kg(w:World)(v:Option Addr)(er:Int)(her:er≠0):Calls prog 81 #[.pointer v,er] w fun e w'=>e= .panicked (aX er)/\w=w':=by
 have hb:(er==0)=false:=by simpa using her
 go_enter func81,ntmps81
 go_wp2_with fail
 refine(aY _ _).mono ?_;rintro e w' ⟨rfl,rfl⟩;dsimp only;exact⟨rfl,rfl,rfl⟩
theorem lm(w:World)(v:Option Addr):Calls prog 84 #[.pointer v,()] w fun e w'=>e= .returned (.pointer v)/\w=w':=by
 go_enter func84,ntmps84
 go_wp2_with fail
 refine(require_ok _ _).mono ?_;rintro e w' ⟨rfl,rfl⟩;dsimp only;go_wp2;go_ret
 exact⟨rfl,rfl⟩
theorem ku(w:World)(v:Option Addr)(er:Int)(her:er≠0):Calls prog 84 #[.pointer v,er] w fun e w'=>e= .panicked (aX er)/\w=w':=by
 have hb:(er==0)=false:=by simpa using her
 go_enter func84,ntmps84
 go_wp2_with fail
 refine(aY _ _).mono ?_;rintro e w' ⟨rfl,rfl⟩;dsimp only;exact⟨rfl,rfl,rfl⟩
theorem Nf(T:List Nat)(w:World)(c:Nat)(ca f:Int)(q:Nat)(es:List ME)(P:World->Prop)(h:BD T w w (mQ c ca f q es P))(hP:∀W,P W->∀e∈es,e.v.In W)(hn:∀e∈es,e.v.nodes<=256)(hes:es.length<=4096):
  Calls prog 54 #[c] w fun e w'=>∃(c2 q2:Nat) (ys:List ME),e= .returned (.pointer (some ⟨c2,0,none⟩))/\ys.map ME.plain=es.map ME.plain/\BD T w w' (mQ c ca f q es P++[box c2 211 #[ca,f,q2],aQ q2 ys,bS (ys.map ME.v)]):=by
 have HP:=hdq hP;have HN:=hdq hn;have BG:=hdq h;unfold mQ at BG;obtain⟨d0,d1,d2,_,_,_,hl,_,_⟩:=BG.o.c3 0 rfl;have HC:=hdq (fun W (hW:Touch [] w W)=>xV W q es ((BG.o.touch hW).qAt 1 rfl) (fun e he=>⟨HP.o _ ((BG.o.touch hW).still 2 rfl) e he,HN.o e he⟩) (by omega));go_enter func54,ntmps54
 go_wp2_with fail
 refine(fA _ _ _ _ _ (BG.o.kS 0 rfl)).mono ?_;rintro e w' ⟨rfl,rfl⟩;go_wp2_with fail
 go_region_held3 (fun w'=>w'.cell? ⟨c,2,none⟩=some (.pointer (some ⟨q,0,none⟩))) (go_keep) (first
  |(go_at_call 141;refine(HC.o _ (Touch.refl [] w).drew).mono ?_;rintro e w2 ⟨q2,ys,rfl,hpl,hL⟩;have HL2:=hdq (BG.o.drew.join hL);(simp only[nAq,cAq]at HL2);have EA:=hdq hpl;obtain⟨d0,d1,d2,_,_,_,hl,_,_⟩:=HL2.o.c3 0 rfl)
  |(go_at_call 143;refine(Il _ (some ⟨q2,0,none⟩) c 0 2 ca f d0 (by simpa using d1)).mono ?_;rintro e w3 ⟨rfl,hb,ht⟩;have BF:=hdq (HL2.o.new (t':=box w2.heap.size 211 #[ca,f,q2]) (f':=[w2.heap.size]) ⟨rfl,hb⟩ ⟨ht,fun k hk=> .inr (by simp at hk;omega)⟩);(simp only[nAq,cAq]at BF);obtain⟨d0,d1,d2,_,_,_,hl,_,_⟩:=BF.o.c3 0 rfl))
 go_wp2;go_ret
 refine⟨w2.heap.size,q2,ys,rfl,EA.o,?_⟩;exact BF.o.sel [0,1,2,5,3,4] (l':=[box c 211 #[ca,f,q],aQ q es,aA P]++[box w2.heap.size 211 #[ca,f,q2],aQ q2 ys,bS (ys.map ME.v)]) rfl (by decide)
structure Ce where
 c:Nat
 cell:Int
 M:Nat
 q1:Nat
 q2:Nat
 es1:List ME
 es2:List ME
def Ce.ts(x:Ce):List ai:=gB x.c x.cell x.M x.q1 x.q2 x.es1 x.es2
structure Ch where
 c:Nat
 a:Int
 f:Int
 q:Nat
 es:List ME
def Ch.ts(y:Ch):List ai:=[box y.c 211 #[y.a,y.f,y.q],aQ y.q y.es]
def bL.cells(v:bL):List Value:=[.int .i64 v.thread,.slice v.jr v.gm v.jv,.slice v.ko v.kz v.jR,.int .i64 v.flag,.bool v.parked,.bool v.done,.int .i64 v.branch,.int .i64 v.kind,.int .i64 v.num,.slice v.lA v.lN v.lC,.int .i64 v.partner]
structure WS where
 wb:Nat
 ga:Nat
 s:Ar
 P:World->Prop
 BI:List Ce
 cos:List Ch
 sys:List bL
 a1:Option Addr
 c1:Nat
 a2:Option Addr
 c2:Nat
 a3:Option Addr
 c3:Nat
def bP(l:List Ce):List Value:=l.map fun x=> .pointer (some ⟨x.c,0,none⟩)
def bK(l:List Ch):List Value:=l.map fun x=> .pointer (some ⟨x.c,0,none⟩)
def aU(l:List bL):List Value:=l.flatMap bL.cells
def WS.head(x:WS):List ai:=
 [box x.wb 86 #[x.ga,.slice x.a1 x.BI.length x.c1,.slice x.a2 x.cos.length x.c2,.slice x.a3 x.sys.length x.c3],arena x.ga x.s,aA x.P,
  aS 118 1 (.slice x.a1 x.BI.length x.c1) x.BI.length (bP x.BI),aS 122 1 (.slice x.a2 x.cos.length x.c2) x.cos.length (bK x.cos),aS 61 11 (.slice x.a3 x.sys.length x.c3) x.sys.length (aU x.sys)]
def WS.ts(x:WS):List ai:=x.head++(x.BI.flatMap Ce.ts++x.cos.flatMap Ch.ts)
theorem nA{α:Type}(f:α->List ai)(m:Nat)(hf:∀a,(f a).length=m)(l:List α):(l.flatMap f).length=m*l.length:=by
 induction l with
 |nil=>simp
 |cons a l ih=>simp[hf,ih,Nat.mul_succ,Nat.add_comm]
theorem flat_get{α:Type}(f:α->List ai)(m:Nat)(hf:∀a,(f a).length=m)(l:List α)(k:Nat)(hk:k<l.length)(r:Nat)(hr:r<m):(l.flatMap f)[m*k+r]? =(f l[k])[r]? :=by
 induction l generalizing k with
 |nil=>simp at hk
 |cons a l ih=>
  rw[List.flatMap_cons];cases k with
  |zero=>rw[List.getElem?_append_left (by rw[hf];omega)];simp
  |succ k=>
   rw[List.getElem?_append_right (by rw[hf,Nat.mul_succ];omega),hf,show m*(k+1)+r-m=m*k+r from by rw[Nat.mul_succ];omega];exact ih k (by simpa using hk)
theorem Je{α:Type}(f:α->List ai)(m:Nat)(hf:∀a,(f a).length=m)(l:List α)(k:Nat)(hk:k<l.length)(r:Nat)(hr:r<m)(t:ai)(b:α)(hb:(f l[k]).set r t=f b):(l.flatMap f).set (m*k+r) t=(l.set k b).flatMap f:=by
 induction l generalizing k with
 |nil=>simp at hk
 |cons a l ih=>
  rw[List.flatMap_cons];cases k with
  |zero=>
   rw[List.set_append_left _ _ (by rw[hf];omega)];simp only[sZq,List.flatMap_cons];rw[<-hb];simp
  |succ k=>
   rw[List.set_append_right _ _ (by rw[hf,Nat.mul_succ];omega),hf,show m*(k+1)+r-m=m*k+r from by rw[Nat.mul_succ];omega];simp only[sSq,List.flatMap_cons];rw[ih k (by simpa using hk) (by simpa using hb)]
theorem WS.kW(x:WS)(r0:List ai)(k:Nat)(hk:k<x.BI.length)(r:Nat)(hr:r<4):(x.ts++r0)[6+(4*k+r)]? =x.BI[k].ts[r]? :=by
 have hl:=nA Ce.ts 4 (fun _=>rfl) x.BI;unfold WS.ts;rw[List.append_assoc,List.getElem?_append_right (by simp[WS.head]),show 6+(4*k+r)-x.head.length=4*k+r from by simp[WS.head],List.getElem?_append_left (by rw[List.length_append,hl];omega),List.getElem?_append_left (by rw[hl];omega)];exact flat_get Ce.ts 4 (fun _=>rfl) x.BI k hk r hr
section
variable {T:List Nat} {w0 w:World} {x:WS} {r0:List ai}
theorem BD.Cb(h:BD T w0 w (x.ts++r0)):Fe w x.wb x.ga (.slice x.a1 x.BI.length x.c1) (.slice x.a2 x.cos.length x.c2) (.slice x.a3 x.sys.length x.c3):=by
 have hb:=h.box 0 (b:=x.wb) (t:=86) (cs:=#[.pointer (some ⟨x.ga,0,none⟩),.slice x.a1 x.BI.length x.c1,.slice x.a2 x.cos.length x.c2,.slice x.a3 x.sys.length x.c3]) rfl;exact⟨hb.cell 0,hb.cell 1,hb.cell 2,hb.cell 3⟩
theorem BD.oM(h:BD T w0 w (x.ts++r0))(k:Nat)(hk:k<x.BI.length):jZ w x.BI[k].c x.BI[k].cell x.BI[k].M x.BI[k].q1 x.BI[k].q2:=
 h.xP (6+(4*k+0)) (6+(4*k+1)) (x.kW r0 k hk 0 (by omega)) (x.kW r0 k hk 1 (by omega))
theorem BD.Lp(h:BD T w0 w (x.ts++r0))(k:Nat)(hk:k<x.BI.length):Calls prog 72 #[x.wb,(k:Int)] w fun e w'=>e= .returned (.pointer (some ⟨x.BI[k].c,0,none⟩))/\Touch [] w w':=by
 have hr:=h.aZ 3 (e:=118) (size:=1) (v:= .slice x.a1 x.BI.length x.c1) (n:=x.BI.length) (xs:=bP x.BI) rfl;obtain⟨g,cap',cur,hv,hg,_⟩:=gD hr (by omega);injection hv with h1 _ h3
 have hc:=eT (g:=g) (cap:=x.c1) (by rw[<-h1];exact hr) k (by simpa[bP]using hk);refine uR w x.wb x.ga _ _ _ h.Cb g 0 x.BI.length x.c1 (by rw[h1]) k hk x.BI[k].c ?_;rw[Nat.zero_add,hc];simp[bP]
theorem BD.nK(h:BD T w0 w (x.ts++r0))(k:Int)(hk:¬(0<=k/\k<(x.BI.length:Int))):Calls prog 72 #[x.wb,k] w fun e w'=>e= .panicked (aX 4)/\Touch [] w w':=
 tF w x.wb x.ga _ _ _ h.Cb x.a1 x.BI.length x.c1 rfl k hk
end
def WS.ar(x:WS)(s:Ar):WS:={x with s:=s}
theorem WS.iy(x:WS)(s:Ar)(r:List ai):(x.ts++r).set 1 (arena x.ga s)=(x.ar s).ts++r:=rfl
def at_{α:Type}(l:List α)(k:Int):Option α:=if 0<=k then l[k.toNat]? else none
theorem gI{α:Type}{l:List α}{n:Nat}(h:n<l.length):at_ l (n:Int)=some l[n]:=by unfold at_;rw[if_pos (by omega),Int.toNat_natCast,List.getElem?_eq_getElem h]
theorem gM{α:Type}{l:List α}{k:Int}(h:¬(0<=k/\k<(l.length:Int))):at_ l k=none:=by
 unfold at_;by_cases h0:0<=k
 .rw[if_pos h0,List.getElem?_eq_none (by omega)]
 .rw[if_neg h0]
def rB(s:Ar):Option (Bool×Nat×Ar)->Bool×Int×Ar
 |none=>(false,4,s)
 |some r=>if r.2.1=0 then(r.1,0,r.2.2)else(false,(r.2.1:Int),r.2.2)
def rE(s:Ar):Option (Nat×Ar)->Int×Ar
 |none=>(4,s)
 |some r=>((r.1:Int),r.2)
def dM(s:Ar)(c:Int):Bool×Nat×Ar:=((s.swap c 0 1).2.1.did,(s.swap c 0 1).2.2,(s.swap c 0 1).1)
def fH(s:Ar)(f:Int):Bool×Nat×Ar:=((decide ((s.load f).2.2=0)&&decide ((s.load f).2.1.old≠0)),(s.load f).2.2,(s.load f).1)
def bY(s:Ar)(c:Int):Nat×Ar:=(s.wH c,(s.swap c 1 0).1)
def iA(s:Ar)(f:Int):Nat×Ar:=((if(s.swap f 0 1).2.2=0/\(s.swap f 0 1).2.1.did=false then 150 else(s.swap f 0 1).2.2),(s.swap f 0 1).1)
theorem WS.uq(x:WS)(r0:List ai)(k:Nat)(hk:k<x.cos.length)(r:Nat)(hr:r<2):(x.ts++r0)[6+(4*x.BI.length+(2*k+r))]? =x.cos[k].ts[r]? :=by
 have hl:=nA Ce.ts 4 (fun _=>rfl) x.BI;have hm:=nA Ch.ts 2 (fun _=>rfl) x.cos;unfold WS.ts;rw[List.append_assoc,List.getElem?_append_right (by simp[WS.head]),show 6+(4*x.BI.length+(2*k+r))-x.head.length=4*x.BI.length+(2*k+r) from by simp[WS.head],List.getElem?_append_left (by rw[List.length_append,hl,hm];omega),List.getElem?_append_right (by rw[hl];omega),hl,show 4*x.BI.length+(2*k+r)-4*x.BI.length=2*k+r from by omega];exact flat_get Ch.ts 2 (fun _=>rfl) x.cos k hk r hr
section
variable {T:List Nat} {w0 w:World} {x:WS} {r0:List ai}
theorem BD.r9(h:BD T w0 w (x.ts++r0))(k:Nat)(hk:k<x.cos.length):Calls prog 107 #[x.wb,(k:Int)] w fun e w'=>e= .returned (.pointer (some ⟨x.cos[k].c,0,none⟩))/\Touch [] w w':=by
 have hr:=h.aZ 4 (e:=122) (size:=1) (v:= .slice x.a2 x.cos.length x.c2) (n:=x.cos.length) (xs:=bK x.cos) rfl;obtain⟨g,cap',cur,hv,hg,_⟩:=gD hr (by omega);injection hv with h1 _ h3
 have hc:=eT (g:=g) (cap:=x.c2) (by rw[<-h1];exact hr) k (by simpa[bK]using hk);refine wD w x.wb x.ga _ _ _ h.Cb g 0 x.cos.length x.c2 (by rw[h1]) k hk x.cos[k].c ?_;rw[Nat.zero_add,hc];simp[bK]
theorem BD.iP(h:BD T w0 w (x.ts++r0))(k:Int)(hk:¬(0<=k/\k<(x.cos.length:Int))):Calls prog 107 #[x.wb,k] w fun e w'=>e= .panicked (aX 4)/\Touch [] w w':=
 tu w x.wb x.ga _ _ _ h.Cb x.a2 x.cos.length x.c2 rfl k hk
end
def l5(T:List Nat)(w:World)(er:Int)(l':List ai)(e:Ending)(w':World):Prop:=(∃v Fq,Ends e (.int .i64 v) Fq (.int .i64 0)/\er=if Fq=0 then v else Fq)/\BD T w w' l'
theorem qF(T:List Nat)(w0 w:World)(l:List ai)(D:FuncId)(caps:Array Value)(er:Int)(l':List ai)(h:BD T w0 w l)(hen:∀args w,(callFunc D args).run prog w= .ok (.enter D args) w)(hd:∀T' W,BD T' W W l->Calls prog D caps W (l5 T' W er l')):
  Calls prog 95 #[.func (.func D) #[] caps] w fun e w'=>e= .returned (.int .i64 er)/\BD T w0 w' l':=by
 have HP:=hdq (l7 T w0 w l D caps (fun v Fq l''=>er=(if Fq=0 then v else Fq)/\l''=l') h hen (fun T' W hW=>(hd T' W hW).mono fun e w' ⟨⟨v,Fq,he,hr⟩,hL⟩=>⟨v,Fq,l',he,⟨hr,rfl⟩,hL⟩));go_enter func95,ntmps95
 go_wp2_with fail
 refine HP.o.mono ?_;rintro e w' ⟨v,Fq,l'',rfl,⟨hr,rfl⟩,hL⟩;have HL:=hdq hL;have HR:=hdq hr;by_cases h0:Fq=0
 .have hb:(Fq != 0)=false:=by simp[h0]
  have HE:Hid (er=v):=by have :=HR.o;rw[if_pos h0]at this;exact this
  go_wp2;go_ret
  exact⟨by rw[HE.o];rfl,HL.o⟩
 .have hb:(Fq != 0)=true:=by simp[h0]
  have HE:Hid (er=Fq):=by have :=HR.o;rw[if_neg h0]at this;exact this
  go_wp2;go_ret
  exact⟨by rw[HE.o];rfl,HL.o⟩
theorem mkf(fn:Fn)(first cap:Array Value)(w:World):(Instr.makeFunc fn first cap).run prog w= .ok (.func fn first cap) w:=rfl
theorem abx{x:WS}:abv x.ts x.wb 0 (.pointer (some ⟨x.ga,0,none⟩)):=fun T w0 w R hl=>(BD.Cb (r0:=R) hl).1
theorem adr(x:WS)(n:Nat)(hn:n<x.BI.length):RdG prog 72 #[x.wb,(n:Int)] [x.ts] fun e=>∃y:Unit,True/\e= .returned ((fun _=> .pointer (some ⟨x.BI[n].c,0,none⟩)) y):=ado fun T w0 w hl=>BD.Lp (r0:=[]) (by simpa using hl) n hn
theorem acR(x:WS)(k:Int)(hk:¬(0<=k/\k<(x.BI.length:Int))):RdG prog 72 #[x.wb,k] [x.ts] fun e=>e= .panicked (aX 4):=adh fun T w0 w hl=>BD.nK (r0:=[]) (by simpa using hl) k hk
theorem acZ(x:WS)(n:Nat)(hn:n<x.cos.length):RdG prog 107 #[x.wb,(n:Int)] [x.ts] fun e=>∃y:Unit,True/\e= .returned ((fun _=> .pointer (some ⟨x.cos[n].c,0,none⟩)) y):=ado fun T w0 w hl=>BD.r9 (r0:=[]) (by simpa using hl) n hn
theorem abI(x:WS)(k:Int)(hk:¬(0<=k/\k<(x.cos.length:Int))):RdG prog 107 #[x.wb,k] [x.ts] fun e=>e= .panicked (aX 4):=adh fun T w0 w hl=>BD.iP (r0:=[]) (by simpa using hl) k hk
theorem wm{x:WS}{s':Ar}{f:FuncId}{args:Array Value}{v:Value}(h:∀T w,BD T w w (x.ts++[])->Calls prog f args w fun e w'=>e= .returned v/\BD T w w' ((x.ts++[]).set 1 (arena x.ga s'))):aai prog f args [x.ts] (xq (fun _:Unit=>True) (fun _=>v) fun _=>[(x.ar s').ts]):=fun T w hl=>(h T w (by simpa using hl)).mono fun e w' ⟨he,hl'⟩=>⟨[(x.ar s').ts],rfl,⟨(),trivial,he,rfl⟩,by rw[WS.iy]at hl';simpa using hl'⟩
theorem aco{D:FuncId}{caps:Array Value}{X:LG}{R:Bool->Int->LG->Prop}(hen:∀args w,(callFunc D args).run prog w= .ok (.enter D args) w)(hd:aai prog D caps X fun e Y=>∃v er,Ends e (.bool v) er (.bool false)/\R v er Y):aai prog 91 #[.func (.func D) #[] caps] X fun e Y=>∃v er,e= .returned (.tuple #[.bool v,.int .i64 er])/\R v er Y:=fun T w hl=>
 (iK T w w X.flatten D caps (fun v er l'=>∃Y,l'=Y.flatten/\Y.length=X.length/\R v er Y) hl hen (fun T' W hW=>(hd T' W hW).mono fun e w' ⟨Y,hY,⟨v,er,he,hR⟩,hl'⟩=>⟨v,er,Y.flatten,he,⟨Y,rfl,hY,hR⟩,hl'⟩)).mono fun e w' ⟨v,er,l',he,⟨Y,hl1,hY,hR⟩,hl'⟩=>⟨Y,hY,⟨v,er,he,hR⟩,hl1▸hl'⟩
theorem abU{D:FuncId}{caps:Array Value}{X Y0:LG}{er:Int}(hY:Y0.length=X.length)(hen:∀args w,(callFunc D args).run prog w= .ok (.enter D args) w)(hd:aai prog D caps X fun e Y=>(∃v Fq,Ends e (.int .i64 v) Fq (.int .i64 0)/\er=if Fq=0 then v else Fq)/\Y=Y0):aai prog 95 #[.func (.func D) #[] caps] X (xq (fun _:Unit=>True) (fun _=> .int .i64 er) fun _=>Y0):=fun T w hl=>
 (qF T w w X.flatten D caps er Y0.flatten hl hen (fun T' W hW=>(hd T' W hW).mono fun e w' ⟨Y,_,⟨he,hYY⟩,hl'⟩=>⟨he,hYY▸hl'⟩)).mono fun e w' ⟨he,hl'⟩=>⟨Y0,hY,⟨(),trivial,he,rfl⟩,hl'⟩
theorem dr1q{P:Program}{G:Prop}(h:G:=by
  refine W.rgd ?_;repeat (refine' rgk ?_;rotate_left)
  refine rgz 0 ?_ ?_;refine go ?_;refine crr hC fun _ _=>?_;refine go ?_;refine cr hL fun _ _=>?_;refine go ?_;first
  |(refine cr (abF fun w=>kX w r.1) fun _ _=>?_;refine go ?_;refine W.abg ?_;exact⟨r.1,0,.inl ⟨rfl,rfl⟩,rfl,rfl,rfl⟩)
  |(refine pfq (ade fun w=>jX w r.1 r.2.1 (by omega)) ?_;exact⟨false,_,.inr ⟨rfl,rfl⟩,rfl,rfl,rfl⟩)
  kernel_rfl):G:=h
theorem okBq{G:Prop}(h:G:=by
  rw[hR];refine go ?_;by_cases h0:r.2.1=0
  .simp only[h0]at hL
   simp only[rB,if_pos h0];exact dr1q (P:=prog)
  .simp only[rB,if_neg h0]
   exact dr1q (P:=prog)):G:=h
theorem badq{G:Prop}(h:G:=by
  rw[hR];refine go ?_;refine W.rgo [0,1,3,4,5,6,7,2,8,9,10,11,12] ?_;repeat (refine' rgk ?_;rotate_left)
  refine rgz 0 ?_ ?_;refine go ?_;refine jmq 3 ?_;refine go ?_;refine jmq 2 ?_;refine prr hC ?_;exact⟨false,4,.inr ⟨rfl,rfl⟩,rfl,rfl,rfl⟩
  kernel_rfl):G:=h
theorem okEq{G:Prop}(h:G:=by
  rw[hR];refine go ?_;refine W.rgd ?_;repeat (refine' rgk ?_;rotate_left)
  refine rgz 0 ?_ ?_;refine go ?_;refine crr hC fun _ _=>?_;refine go ?_;refine cr hL fun _ _=>?_;refine go ?_;refine W.abg ?_;exact⟨⟨_,0,.inl ⟨rfl,rfl⟩,by simp[rE]⟩,rfl⟩
  kernel_rfl):G:=h
theorem adI{G:Prop}(h:G:=by
  rw[hR];refine go ?_;refine W.rgo [0,1,3,4,5,6,7,2,8,9] ?_;repeat (refine' rgk ?_;rotate_left)
  refine rgz 0 ?_ ?_;refine go ?_;refine jmq 3 ?_;refine go ?_;refine jmq 2 ?_;refine prr hC ?_;exact⟨⟨0,4,.inr ⟨rfl,rfl⟩,by simp[rE]⟩,rfl⟩
  kernel_rfl):G:=h
def WS.fQ(x:WS)(k:Int):Bool×Int×Ar:=rB x.s ((at_ x.BI k).map fun y=>dM x.s y.cell)
theorem adU(x:WS)(b2 b3:Nat)(k:Int)(hn:x.s.L.length<1000000):aai prog 92 #[b2,b3] [x.ts,[box b2 25 #[x.wb]],[box b3 3 #[k]]] fun e Y=>∃v er,Ends e (.bool v) er (.bool false)/\v=(x.fQ k).1/\er=(x.fQ k).2.1/\Y=[(x.ar (x.fQ k).2.2).ts,[box b2 25 #[x.wb]],[box b3 3 #[k]]]:=by
 have hx:=abx (x:=x);by_cases hk:0<=k/\k<(x.BI.length:Int)
 .obtain⟨n,rfl⟩:=Int.eq_ofNat_of_zero_le hk.1
  have hnk:n<x.BI.length:=by omega
  have hC:=adr x n hnk;have hR:x.fQ (n:Int)=rB x.s (some (dM x.s (x.BI[n]).cell)):=by unfold WS.fQ;rw[gI hnk];rfl
  obtain⟨r,hr⟩:∃r,dM x.s (x.BI[n]).cell=r:=⟨_,rfl⟩;have hL:aai prog 94 #[.pointer (some ⟨x.BI[n].c,0,none⟩),x.ga] [x.ts] (xq (fun _:Unit=>True) (fun _=> .tuple #[.bool r.1,(r.2.1:Int)]) fun _=>[(x.ar r.2.2).ts]):=by
   subst hr;exact wm fun T w h=>h.chLock 1 (g:=x.ga) (s:=x.s) rfl (h.oM n hnk) (by omega)
  rw[hr]at hR;refine aai.go func92 ntmps92 ?_;exact okBq
 .have hC:=acR x k hk
  have hR:x.fQ k=rB x.s none:=by unfold WS.fQ;rw[gM hk];rfl
  refine aai.go func92 ntmps92 ?_;exact badq
theorem ul(T:List Nat)(w:World)(x:WS)(k:Int)(h:BD T w w x.ts)(hn:x.s.L.length<1000000):
  Calls prog 24 #[x.wb,k] w fun e w'=>e= .returned (.tuple #[.bool (x.fQ k).1,.int .i64 (x.fQ k).2.1])/\BD T w w' (x.ar (x.fQ k).2.2).ts:=by
 have hg:aai prog 24 #[x.wb,k] [x.ts] (xq (fun _:Unit=>True) (fun _=> .tuple #[.bool (x.fQ k).1,.int .i64 (x.fQ k).2.1]) fun _=>[(x.ar (x.fQ k).2.2).ts]):=by
  have Ep:=mkf;refine aai.go func24 ntmps24 ?_;refine go2 fun b2 b3=>?_;refine cq (aco (enters_of func92 (by kernel_rfl) rfl) (adU x b2 b3 k hn)) ?_;rintro _ _ ⟨_,_,rfl,rfl,rfl,rfl⟩;refine⟨_,rfl,nq ?_⟩;refine go ?_;refine W.abg ?_;exact⟨(),trivial,rfl,rfl⟩
 exact(hg T w (by simpa using h)).mono fun e w' ⟨Y,_,⟨_,_,he,hY⟩,hl⟩=>⟨he,by rw[hY]at hl;simpa using hl⟩
def WS.cK(x:WS)(k:Int):Bool×Int×Ar:=rB x.s ((at_ x.cos k).map fun y=>dM x.s y.a)
theorem adm(x:WS)(b2 b3:Nat)(k:Int)(hn:x.s.L.length<1000000):aai prog 106 #[b2,b3] [x.ts,[box b2 25 #[x.wb]],[box b3 3 #[k]]] fun e Y=>∃v er,Ends e (.bool v) er (.bool false)/\v=(x.cK k).1/\er=(x.cK k).2.1/\Y=[(x.ar (x.cK k).2.2).ts,[box b2 25 #[x.wb]],[box b3 3 #[k]]]:=by
 have hx:=abx (x:=x);by_cases hk:0<=k/\k<(x.cos.length:Int)
 .obtain⟨n,rfl⟩:=Int.eq_ofNat_of_zero_le hk.1
  have hnk:n<x.cos.length:=by omega
  have hC:=acZ x n hnk;have hR:x.cK (n:Int)=rB x.s (some (dM x.s (x.cos[n]).a)):=by unfold WS.cK;rw[gI hnk];rfl
  obtain⟨r,hr⟩:∃r,dM x.s (x.cos[n]).a=r:=⟨_,rfl⟩;have hL:aai prog 108 #[.pointer (some ⟨x.cos[n].c,0,none⟩),x.ga] [x.ts] (xq (fun _:Unit=>True) (fun _=> .tuple #[.bool r.1,(r.2.1:Int)]) fun _=>[(x.ar r.2.2).ts]):=by
   subst hr;exact wm fun T w h=>h.cLock 1 (6+(4*x.BI.length+(2*n+0))) (g:=x.ga) (s:=x.s) rfl (x.uq _ n hnk 0 (by omega)) (by omega)
  rw[hr]at hR;refine aai.go func106 ntmps106 ?_;exact okBq
 .have hC:=abI x k hk
  have hR:x.cK k=rB x.s none:=by unfold WS.cK;rw[gM hk];rfl
  refine aai.go func106 ntmps106 ?_;exact badq
theorem xZ(T:List Nat)(w:World)(x:WS)(k:Int)(h:BD T w w x.ts)(hn:x.s.L.length<1000000):
  Calls prog 29 #[x.wb,k] w fun e w'=>e= .returned (.tuple #[.bool (x.cK k).1,.int .i64 (x.cK k).2.1])/\BD T w w' (x.ar (x.cK k).2.2).ts:=by
 have hg:aai prog 29 #[x.wb,k] [x.ts] (xq (fun _:Unit=>True) (fun _=> .tuple #[.bool (x.cK k).1,.int .i64 (x.cK k).2.1]) fun _=>[(x.ar (x.cK k).2.2).ts]):=by
  have Ep:=mkf;refine aai.go func29 ntmps29 ?_;refine go2 fun b2 b3=>?_;refine cq (aco (enters_of func106 (by kernel_rfl) rfl) (adm x b2 b3 k hn)) ?_;rintro _ _ ⟨_,_,rfl,rfl,rfl,rfl⟩;refine⟨_,rfl,nq ?_⟩;refine go ?_;refine W.abg ?_;exact⟨(),trivial,rfl,rfl⟩
 exact(hg T w (by simpa using h)).mono fun e w' ⟨Y,_,⟨_,_,he,hY⟩,hl⟩=>⟨he,by rw[hY]at hl;simpa using hl⟩
def WS.eY(x:WS)(k:Int):Bool×Int×Ar:=rB x.s ((at_ x.cos k).map fun y=>fH x.s y.f)
theorem adH(x:WS)(b2 b3:Nat)(k:Int)(hn:x.s.L.length<1000000):aai prog 111 #[b2,b3] [x.ts,[box b2 25 #[x.wb]],[box b3 3 #[k]]] fun e Y=>∃v er,Ends e (.bool v) er (.bool false)/\v=(x.eY k).1/\er=(x.eY k).2.1/\Y=[(x.ar (x.eY k).2.2).ts,[box b2 25 #[x.wb]],[box b3 3 #[k]]]:=by
 have hx:=abx (x:=x);by_cases hk:0<=k/\k<(x.cos.length:Int)
 .obtain⟨n,rfl⟩:=Int.eq_ofNat_of_zero_le hk.1
  have hnk:n<x.cos.length:=by omega
  have hC:=acZ x n hnk;have hR:x.eY (n:Int)=rB x.s (some (fH x.s (x.cos[n]).f)):=by unfold WS.eY;rw[gI hnk];rfl
  obtain⟨r,hr⟩:∃r,fH x.s (x.cos[n]).f=r:=⟨_,rfl⟩;have hL:aai prog 112 #[.pointer (some ⟨x.cos[n].c,0,none⟩),x.ga] [x.ts] (xq (fun _:Unit=>True) (fun _=> .tuple #[.bool r.1,(r.2.1:Int)]) fun _=>[(x.ar r.2.2).ts]):=by
   subst hr;exact wm fun T w h=>h.cFired 1 (6+(4*x.BI.length+(2*n+0))) (g:=x.ga) (s:=x.s) rfl (x.uq _ n hnk 0 (by omega)) (by omega) rfl rfl rfl
  rw[hr]at hR;refine aai.go func111 ntmps111 ?_;exact okBq
 .have hC:=abI x k hk
  have hR:x.eY k=rB x.s none:=by unfold WS.eY;rw[gM hk];rfl
  refine aai.go func111 ntmps111 ?_;exact badq
theorem zJ(T:List Nat)(w:World)(x:WS)(k:Int)(h:BD T w w x.ts)(hn:x.s.L.length<1000000):
  Calls prog 31 #[x.wb,k] w fun e w'=>e= .returned (.tuple #[.bool (x.eY k).1,.int .i64 (x.eY k).2.1])/\BD T w w' (x.ar (x.eY k).2.2).ts:=by
 have hg:aai prog 31 #[x.wb,k] [x.ts] (xq (fun _:Unit=>True) (fun _=> .tuple #[.bool (x.eY k).1,.int .i64 (x.eY k).2.1]) fun _=>[(x.ar (x.eY k).2.2).ts]):=by
  have Ep:=mkf;refine aai.go func31 ntmps31 ?_;refine go2 fun b2 b3=>?_;refine cq (aco (enters_of func111 (by kernel_rfl) rfl) (adH x b2 b3 k hn)) ?_;rintro _ _ ⟨_,_,rfl,rfl,rfl,rfl⟩;refine⟨_,rfl,nq ?_⟩;refine go ?_;refine W.abg ?_;exact⟨(),trivial,rfl,rfl⟩
 exact(hg T w (by simpa using h)).mono fun e w' ⟨Y,_,⟨_,_,he,hY⟩,hl⟩=>⟨he,by rw[hY]at hl;simpa using hl⟩
def WS.eF(x:WS)(k:Int):Int×Ar:=rE x.s ((at_ x.BI k).map fun y=>bY x.s y.cell)
theorem adw(x:WS)(b2 b3:Nat)(k:Int)(hn:x.s.L.length<1000000):aai prog 96 #[b2,b3] [x.ts,[box b2 25 #[x.wb]],[box b3 3 #[k]]] fun e Y=>(∃v Fq,Ends e (.int .i64 v) Fq (.int .i64 0)/\(x.eF k).1=if Fq=0 then v else Fq)/\Y=[(x.ar (x.eF k).2).ts,[box b2 25 #[x.wb]],[box b3 3 #[k]]]:=by
 have hx:=abx (x:=x);by_cases hk:0<=k/\k<(x.BI.length:Int)
 .obtain⟨n,rfl⟩:=Int.eq_ofNat_of_zero_le hk.1
  have hnk:n<x.BI.length:=by omega
  have hC:=adr x n hnk;have hR:x.eF (n:Int)=rE x.s (some (bY x.s (x.BI[n]).cell)):=by unfold WS.eF;rw[gI hnk];rfl
  obtain⟨r,hr⟩:∃r,bY x.s (x.BI[n]).cell=r:=⟨_,rfl⟩;have hL:aai prog 97 #[.pointer (some ⟨x.BI[n].c,0,none⟩),x.ga] [x.ts] (xq (fun _:Unit=>True) (fun _=> .int .i64 (r.1:Int)) fun _=>[(x.ar r.2).ts]):=by
   subst hr;exact wm fun T w h=>h.Jm 1 (g:=x.ga) (s:=x.s) rfl (h.oM n hnk) (by omega)
  rw[hr]at hR;refine aai.go func96 ntmps96 ?_;exact okEq
 .have hC:=acR x k hk
  have hR:x.eF k=rE x.s none:=by unfold WS.eF;rw[gM hk];rfl
  refine aai.go func96 ntmps96 ?_;exact adI
theorem vP(T:List Nat)(w:World)(x:WS)(k:Int)(h:BD T w w x.ts)(hn:x.s.L.length<1000000):
  Calls prog 25 #[x.wb,k] w fun e w'=>e= .returned (.int .i64 (x.eF k).1)/\BD T w w' (x.ar (x.eF k).2).ts:=by
 have hg:aai prog 25 #[x.wb,k] [x.ts] (xq (fun _:Unit=>True) (fun _=> .int .i64 (x.eF k).1) fun _=>[(x.ar (x.eF k).2).ts]):=by
  have Ep:=mkf;refine aai.go func25 ntmps25 ?_;refine go2 fun b2 b3=>?_;refine cr (abU (by rfl) (enters_of func96 (by kernel_rfl) rfl) (adw x b2 b3 k hn)) fun _ _=>?_;refine go ?_;refine W.abg ?_;exact⟨(),trivial,rfl,rfl⟩
 exact(hg T w (by simpa using h)).mono fun e w' ⟨Y,_,⟨_,_,he,hY⟩,hl⟩=>⟨he,by rw[hY]at hl;simpa using hl⟩
def WS.bZ(x:WS)(k:Int):Int×Ar:=rE x.s ((at_ x.cos k).map fun y=>bY x.s y.a)
theorem ac9(x:WS)(b2 b3:Nat)(k:Int)(hn:x.s.L.length<1000000):aai prog 109 #[b2,b3] [x.ts,[box b2 25 #[x.wb]],[box b3 3 #[k]]] fun e Y=>(∃v Fq,Ends e (.int .i64 v) Fq (.int .i64 0)/\(x.bZ k).1=if Fq=0 then v else Fq)/\Y=[(x.ar (x.bZ k).2).ts,[box b2 25 #[x.wb]],[box b3 3 #[k]]]:=by
 have hx:=abx (x:=x);by_cases hk:0<=k/\k<(x.cos.length:Int)
 .obtain⟨n,rfl⟩:=Int.eq_ofNat_of_zero_le hk.1
  have hnk:n<x.cos.length:=by omega
  have hC:=acZ x n hnk;have hR:x.bZ (n:Int)=rE x.s (some (bY x.s (x.cos[n]).a)):=by unfold WS.bZ;rw[gI hnk];rfl
  obtain⟨r,hr⟩:∃r,bY x.s (x.cos[n]).a=r:=⟨_,rfl⟩;have hL:aai prog 110 #[.pointer (some ⟨x.cos[n].c,0,none⟩),x.ga] [x.ts] (xq (fun _:Unit=>True) (fun _=> .int .i64 (r.1:Int)) fun _=>[(x.ar r.2).ts]):=by
   subst hr;exact wm fun T w h=>h.OB 1 (6+(4*x.BI.length+(2*n+0))) (g:=x.ga) (s:=x.s) rfl (x.uq _ n hnk 0 (by omega)) (by omega)
  rw[hr]at hR;refine aai.go func109 ntmps109 ?_;exact okEq
 .have hC:=abI x k hk
  have hR:x.bZ k=rE x.s none:=by unfold WS.bZ;rw[gM hk];rfl
  refine aai.go func109 ntmps109 ?_;exact adI
theorem tK(T:List Nat)(w:World)(x:WS)(k:Int)(h:BD T w w x.ts)(hn:x.s.L.length<1000000):
  Calls prog 30 #[x.wb,k] w fun e w'=>e= .returned (.int .i64 (x.bZ k).1)/\BD T w w' (x.ar (x.bZ k).2).ts:=by
 have hg:aai prog 30 #[x.wb,k] [x.ts] (xq (fun _:Unit=>True) (fun _=> .int .i64 (x.bZ k).1) fun _=>[(x.ar (x.bZ k).2).ts]):=by
  have Ep:=mkf;refine aai.go func30 ntmps30 ?_;refine go2 fun b2 b3=>?_;refine cr (abU (by rfl) (enters_of func109 (by kernel_rfl) rfl) (ac9 x b2 b3 k hn)) fun _ _=>?_;refine go ?_;refine W.abg ?_;exact⟨(),trivial,rfl,rfl⟩
 exact(hg T w (by simpa using h)).mono fun e w' ⟨Y,_,⟨_,_,he,hY⟩,hl⟩=>⟨he,by rw[hY]at hl;simpa using hl⟩
def WS.ja(x:WS)(k:Int):Int×Ar:=rE x.s ((at_ x.cos k).map fun y=>iA x.s y.f)
theorem adT(x:WS)(b2 b3:Nat)(k:Int)(hn:x.s.L.length<1000000):aai prog 113 #[b2,b3] [x.ts,[box b2 25 #[x.wb]],[box b3 3 #[k]]] fun e Y=>(∃v Fq,Ends e (.int .i64 v) Fq (.int .i64 0)/\(x.ja k).1=if Fq=0 then v else Fq)/\Y=[(x.ar (x.ja k).2).ts,[box b2 25 #[x.wb]],[box b3 3 #[k]]]:=by
 have hx:=abx (x:=x);by_cases hk:0<=k/\k<(x.cos.length:Int)
 .obtain⟨n,rfl⟩:=Int.eq_ofNat_of_zero_le hk.1
  have hnk:n<x.cos.length:=by omega
  have hC:=acZ x n hnk;have hR:x.ja (n:Int)=rE x.s (some (iA x.s (x.cos[n]).f)):=by unfold WS.ja;rw[gI hnk];rfl
  obtain⟨r,hr⟩:∃r,iA x.s (x.cos[n]).f=r:=⟨_,rfl⟩;have hL:aai prog 114 #[.pointer (some ⟨x.cos[n].c,0,none⟩),x.ga] [x.ts] (xq (fun _:Unit=>True) (fun _=> .int .i64 (r.1:Int)) fun _=>[(x.ar r.2).ts]):=by
   subst hr;exact wm fun T w h=>h.cFire 1 (6+(4*x.BI.length+(2*n+0))) (g:=x.ga) (s:=x.s) rfl (x.uq _ n hnk 0 (by omega)) (by omega) rfl rfl
  rw[hr]at hR;refine aai.go func113 ntmps113 ?_;exact okEq
 .have hC:=abI x k hk
  have hR:x.ja k=rE x.s none:=by unfold WS.ja;rw[gM hk];rfl
  refine aai.go func113 ntmps113 ?_;exact adI
theorem Kh(T:List Nat)(w:World)(x:WS)(k:Int)(h:BD T w w x.ts)(hn:x.s.L.length<1000000):
  Calls prog 32 #[x.wb,k] w fun e w'=>e= .returned (.int .i64 (x.ja k).1)/\BD T w w' (x.ar (x.ja k).2).ts:=by
 have hg:aai prog 32 #[x.wb,k] [x.ts] (xq (fun _:Unit=>True) (fun _=> .int .i64 (x.ja k).1) fun _=>[(x.ar (x.ja k).2).ts]):=by
  have Ep:=mkf;refine aai.go func32 ntmps32 ?_;refine go2 fun b2 b3=>?_;refine cr (abU (by rfl) (enters_of func113 (by kernel_rfl) rfl) (adT x b2 b3 k hn)) fun _ _=>?_;refine go ?_;refine W.abg ?_;exact⟨(),trivial,rfl,rfl⟩
 exact(hg T w (by simpa using h)).mono fun e w' ⟨Y,_,⟨_,_,he,hY⟩,hl⟩=>⟨he,by rw[hY]at hl;simpa using hl⟩
end Go.Proofs.YtddnnapoaonmjaaGreatDoor
