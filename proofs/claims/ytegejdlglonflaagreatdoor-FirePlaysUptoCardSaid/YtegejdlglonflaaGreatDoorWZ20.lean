/-
  Texts of FirePlays, laid together by program.
-/
import Derived.Test.YtegejdlglonflaaGreatDoorWZ19
namespace Go.Proofs.YtegejdlglonflaaGreatDoor
open Go.RowKit Go.Shelf Go.Proofs.Tryz
set_option maxRecDepth 100000
set_option maxHeartbeats 8000000
set_option linter.unusedVariables false
set_option linter.unusedSimpArgs false
def Nexted(T:List Nat)(w0:World)(l:List ai)(i q:Nat)(es:List ME)(e:Ending)(w':World):Prop:=
 (∃x r,es=x::r/\e= .returned (.tuple #[x.val,true])/\BD T w0 w' (l.set i (aQ q r)))\/(es=[]/\e= .returned (.tuple #[ME.zero.val,false])/\BD T w0 w' (l.set i (aQ q [])))
section
variable {T:List Nat} {w0 w:World} {l:List ai} {g c q:Nat} {a f:Int} {s:Ar} {es:List ME}
theorem ng{t1:ai}:(l++[t1])[l.length]? =some t1:=by simp
theorem BD.cLock(h:BD T w0 w l)(i j:Nat)(hi:l[i]? =some (arena g s))(hj:l[j]? =some (Proofs.YtegejdlglonflaaGreatDoor.box c 269 #[a,f,q]))(hn:s.L.length<4611686018427387904):
  Calls prog 82 #[c,g] w fun e w'=>e= .returned (.tuple #[.bool (s.swap a 0 1).2.1.did,.int .i64 ((s.swap a 0 1).2.2:Int)])/\BD T w0 w' (l.set i (arena g (s.swap a 0 1).1)):=
 Lock_c w c a f q (h.kS j hj) _ (fun w'=>BD T w0 w' (l.set i (arena g (s.swap a 0 1).1))) _ _ (fun W hW=>(h.touch hW).ar i hi (fun fp hI=>zC W g fp s hI a hn))
theorem BD.OB(h:BD T w0 w l)(i j:Nat)(hi:l[i]? =some (arena g s))(hj:l[j]? =some (Proofs.YtegejdlglonflaaGreatDoor.box c 269 #[a,f,q]))(hn:s.L.length<4611686018427387904):
  Calls prog 294 #[c,g] w fun e w'=>e= .returned (.int .i64 (s.wH a:Int))/\BD T w0 w' (l.set i (arena g (s.swap a 1 0).1)):=
 Kz w c a f q (h.kS j hj) _ (fun w'=>BD T w0 w' (l.set i (arena g (s.swap a 1 0).1))) _ (fun W hW=>(h.touch hW).ar i hi (fun fp hI=>uW W g fp s hI a hn))
theorem BD.cFired(h:BD T w0 w l)(i j:Nat)(hi:l[i]? =some (arena g s))(hj:l[j]? =some (Proofs.YtegejdlglonflaaGreatDoor.box c 269 #[a,f,q]))(hn:s.L.length<4611686018427387904){d:Bool}{er:Nat}{s':Ar}(hd:d=(decide ((s.load f).2.2=0)&&decide ((s.load f).2.1.old≠0)))(he:(s.load f).2.2=er)(hs:(s.load f).1=s'):
  Calls prog 77 #[c,g] w fun e w'=>e= .returned (.tuple #[d,(er:Int)])/\BD T w0 w' (l.set i (arena g s')):=by
 subst he hs;exact Nr w c a f q (h.kS j hj) _ (fun w'=>BD T w0 w' (l.set i (arena g (s.load f).1))) _ _ _ hd (fun W hW=>(h.touch hW).ar i hi (fun fp hI=>vO W g fp s f hI hn))
theorem BD.cFire(h:BD T w0 w l)(i j:Nat)(hi:l[i]? =some (arena g s))(hj:l[j]? =some (Proofs.YtegejdlglonflaaGreatDoor.box c 269 #[a,f,q]))(hn:s.L.length<4611686018427387904){fe:Nat}{s':Ar}(hfe:fe=if(s.swap f 0 1).2.2=0/\(s.swap f 0 1).2.1.did=false then 150 else(s.swap f 0 1).2.2)(hs:(s.swap f 0 1).1=s'):
  Calls prog 149 #[c,g] w fun e w'=>e= .returned (.int .i64 (fe:Int))/\BD T w0 w' (l.set i (arena g s')):=by
 subst hs;exact Fire_c w c a f q (h.kS j hj) _ (fun w'=>BD T w0 w' (l.set i (arena g (s.swap f 0 1).1))) _ _ _ _ hfe (fun W hW=>(h.touch hW).ar i hi (fun fp hI=>kP W g fp s f hI hn 0 1 wd0 wd1))
theorem BD.cNext(h:BD T w0 w l)(i j:Nat)(hi:l[i]? =some (aQ q es))(hj:l[j]? =some (Proofs.YtegejdlglonflaaGreatDoor.box c 269 #[a,f,q]))(hes:es.length<=1048576):
  Calls prog 80 #[c] w (Nexted T w0 l i q es):=by
 obtain⟨d0,d1,d2,hl,hl2⟩:=(h.kS j hj).cells;have hil:=(List.getElem?_eq_some_iff.1 hi).1;have HC:=hdq ((h.kS j hj).touch ((Touch.refl [] w).alloc (.cells #[(),(),(),(),(),(),True] 65)));have h1:=h.alloc 65 #[(),(),(),(),(),(),True];have HP:=hdq (h1.OX i (by rw[List.getElem?_append_left hil];exact hi) 0 hes);have HI:=hdq hil;clear h h1 hi hj hil;go_enter func80,ntmps80
 go_wp2_with fail
 refine(fA _ _ _ _ _ HC.o).mono ?_;rintro e w' ⟨rfl,rfl⟩;go_wp2_with fail
 refine HP.o.mono ?_;rintro e w2 (⟨x,_,hx,rfl,hL⟩|⟨hn,rfl,hL⟩)
 .obtain⟨r,rfl⟩:∃r,es=x::r:=by
   cases es with
   |nil=>simp at hx
   |cons y r=>simp at hx;exact⟨r,by rw[hx]⟩
  rw[List.set_append_left _ _ HI.o]at hL;have HL:=hdq hL;clear hL hx HC HP;simp only[bB];obtain⟨x0,x1,x2,x3,x4,x5,x6,⟨f0,f1,f2,f3,f4,f5,f6⟩,z1,_,_⟩:=HL.o.c7 (l.set i (aQ q ((x::r).eraseIdx (Int.toNat 0)))).length ng;go_wp2;have C8:=hdq (HL.o.iD (l.set i (aQ q ((x::r).eraseIdx (Int.toNat 0)))).length ng x.sync x.thread x.branch x.flag x.v.kind x.v.num (.slice x.v.addr x.v.parts.length x.v.cap));obtain⟨s0,s1,s2,s3,s4,s5,s6,_⟩:=C8.o.c7 (l.set i (aQ q ((x::r).eraseIdx (Int.toNat 0)))).length (List.getElem?_set_self (by simp));refine bodyPost_ret (v:= .tuple #[x.val,true]) (by simp[results,results80,go_sem,s0,s1,s2,s3,s4,s5,s6,bB]) rfl ?_;refine .inl ⟨x,r,rfl,rfl,?_⟩;have h:=C8.o;rw[List.set_append_right _ _ (Nat.le_refl _)]at h;exact h.aF
 .obtain rfl:es=[]:=by
   cases es with
   |nil=>rfl
   |cons y r=>exact absurd ⟨by decide,by simp⟩ hn
  rw[List.set_append_left _ _ HI.o]at hL;have HL:=hdq hL;clear hL hn HC HP;have hzv:ME.zero.val= .agg #[(),(),(),(),(),(),True]:=rfl;rw[hzv];obtain⟨x0,x1,x2,x3,x4,x5,x6,⟨f0,f1,f2,f3,f4,f5,f6⟩,z1,_,_⟩:=HL.o.c7 (l.set i (aQ q [])).length ng;go_wp2;have C8:=hdq (HL.o.iD (l.set i (aQ q [])).length ng 0 0 0 0 0 0 (.slice none 0 0));obtain⟨s0,s1,s2,s3,s4,s5,s6,_⟩:=C8.o.c7 (l.set i (aQ q [])).length (List.getElem?_set_self (by simp));refine bodyPost_ret (v:= .tuple #[.agg #[(),(),(),(),(),(),True],false]) (by simp[results,results80,go_sem,s0,s1,s2,s3,s4,s5,s6]) rfl ?_;refine .inr ⟨rfl,rfl,?_⟩;have h:=C8.o;rw[List.set_append_right _ _ (Nat.le_refl _)]at h;exact h.aF
end
structure Ce where
 c:Nat
 cell:Int
 M:Nat
 q1:Nat
 q2:Nat
 es1:List ME
 es2:List ME
def Ce.ts(x:Ce):List ai:=gB x.c x.cell x.M x.q1 x.q2 x.es1 x.es2
structure Ch where
 c:Nat
 a:Int
 f:Int
 q:Nat
 es:List ME
def Ch.ts(y:Ch):List ai:=[box y.c 269 #[y.a,y.f,y.q],aQ y.q y.es]
def bL.cells(v:bL):List Value:=[.int .i64 v.thread,.slice v.jr v.gm v.jv,.slice v.ko v.kz v.jR,.int .i64 v.flag,.bool v.parked,.bool v.done,.int .i64 v.branch,.int .i64 v.kind,.int .i64 v.num,.slice v.lA v.lN v.lC,.int .i64 v.partner]
structure WS where
 wb:Nat
 ga:Nat
 s:Ar
 P:World->Prop
 BI:List Ce
 cos:List Ch
 sys:List bL
 a1:Option Addr
 c1:Nat
 a2:Option Addr
 c2:Nat
 a3:Option Addr
 c3:Nat
def bP(l:List Ce):List Value:=l.map fun x=> .pointer (some ⟨x.c,0,none⟩)
def bK(l:List Ch):List Value:=l.map fun x=> .pointer (some ⟨x.c,0,none⟩)
def aU(l:List bL):List Value:=l.flatMap bL.cells
def WS.head(x:WS):List ai:=
 [box x.wb 167 #[x.ga,.slice x.a1 x.BI.length x.c1,.slice x.a2 x.cos.length x.c2,.slice x.a3 x.sys.length x.c3],arena x.ga x.s,aA x.P,
  aS 193 1 (.slice x.a1 x.BI.length x.c1) x.BI.length (bP x.BI),aS 158 1 (.slice x.a2 x.cos.length x.c2) x.cos.length (bK x.cos),aS 60 11 (.slice x.a3 x.sys.length x.c3) x.sys.length (aU x.sys)]
def WS.ts(x:WS):List ai:=x.head++(x.BI.flatMap Ce.ts++x.cos.flatMap Ch.ts)
theorem nA{α:Type}(f:α->List ai)(m:Nat)(hf:∀a,(f a).length=m)(l:List α):(l.flatMap f).length=m*l.length:=by
 induction l with
 |nil=>simp
 |cons a l ih=>simp[hf,ih,Nat.mul_succ,Nat.add_comm]
theorem flat_get{α:Type}(f:α->List ai)(m:Nat)(hf:∀a,(f a).length=m)(l:List α)(k:Nat)(hk:k<l.length)(r:Nat)(hr:r<m):(l.flatMap f)[m*k+r]? =(f l[k])[r]? :=by
 induction l generalizing k with
 |nil=>simp at hk
 |cons a l ih=>
  rw[List.flatMap_cons];cases k with
  |zero=>rw[List.getElem?_append_left (by rw[hf];omega)];simp
  |succ k=>
   rw[List.getElem?_append_right (by rw[hf,Nat.mul_succ];omega),hf,show m*(k+1)+r-m=m*k+r from by rw[Nat.mul_succ];omega];exact ih k (by simpa using hk)
theorem Je{α:Type}(f:α->List ai)(m:Nat)(hf:∀a,(f a).length=m)(l:List α)(k:Nat)(hk:k<l.length)(r:Nat)(hr:r<m)(t:ai)(b:α)(hb:(f l[k]).set r t=f b):(l.flatMap f).set (m*k+r) t=(l.set k b).flatMap f:=by
 induction l generalizing k with
 |nil=>simp at hk
 |cons a l ih=>
  rw[List.flatMap_cons];cases k with
  |zero=>
   rw[List.set_append_left _ _ (by rw[hf];omega)];simp only[sZq,List.flatMap_cons];rw[<-hb];simp
  |succ k=>
   rw[List.set_append_right _ _ (by rw[hf,Nat.mul_succ];omega),hf,show m*(k+1)+r-m=m*k+r from by rw[Nat.mul_succ];omega];simp only[sSq,List.flatMap_cons];rw[ih k (by simpa using hk) (by simpa using hb)]
theorem WS.kW(x:WS)(r0:List ai)(k:Nat)(hk:k<x.BI.length)(r:Nat)(hr:r<4):(x.ts++r0)[6+(4*k+r)]? =x.BI[k].ts[r]? :=by
 have hl:=nA Ce.ts 4 (fun _=>rfl) x.BI;unfold WS.ts;rw[List.append_assoc,List.getElem?_append_right (by simp[WS.head]),show 6+(4*k+r)-x.head.length=4*k+r from by simp[WS.head],List.getElem?_append_left (by rw[List.length_append,hl];omega),List.getElem?_append_left (by rw[hl];omega)];exact flat_get Ce.ts 4 (fun _=>rfl) x.BI k hk r hr
section
variable {T:List Nat} {w0 w:World} {x:WS} {r0:List ai}
theorem BD.Cb(h:BD T w0 w (x.ts++r0)):Fe w x.wb x.ga (.slice x.a1 x.BI.length x.c1) (.slice x.a2 x.cos.length x.c2) (.slice x.a3 x.sys.length x.c3):=by
 have hb:=h.box 0 (b:=x.wb) (t:=167) (cs:=#[.pointer (some ⟨x.ga,0,none⟩),.slice x.a1 x.BI.length x.c1,.slice x.a2 x.cos.length x.c2,.slice x.a3 x.sys.length x.c3]) rfl;exact⟨hb.cell 0,hb.cell 1,hb.cell 2,hb.cell 3⟩
theorem BD.oM(h:BD T w0 w (x.ts++r0))(k:Nat)(hk:k<x.BI.length):jZ w x.BI[k].c x.BI[k].cell x.BI[k].M x.BI[k].q1 x.BI[k].q2:=
 h.xP (6+(4*k+0)) (6+(4*k+1)) (x.kW r0 k hk 0 (by omega)) (x.kW r0 k hk 1 (by omega))
theorem BD.Lp(h:BD T w0 w (x.ts++r0))(k:Nat)(hk:k<x.BI.length):Calls prog 153 #[x.wb,(k:Int)] w fun e w'=>e= .returned (.pointer (some ⟨x.BI[k].c,0,none⟩))/\Touch [] w w':=by
 have hr:=h.aZ 3 (e:=193) (size:=1) (v:= .slice x.a1 x.BI.length x.c1) (n:=x.BI.length) (xs:=bP x.BI) rfl;obtain⟨g,cap',cur,hv,hg,_⟩:=gD hr (by omega);injection hv with h1 _ h3
 have hc:=eT (g:=g) (cap:=x.c1) (by rw[<-h1];exact hr) k (by simpa[bP]using hk);refine uR w x.wb x.ga _ _ _ h.Cb g 0 x.BI.length x.c1 (by rw[h1]) k hk x.BI[k].c ?_;rw[Nat.zero_add,hc];simp[bP]
theorem BD.nK(h:BD T w0 w (x.ts++r0))(k:Int)(hk:¬(0<=k/\k<(x.BI.length:Int))):Calls prog 153 #[x.wb,k] w fun e w'=>e= .panicked (aX 4)/\Touch [] w w':=
 tF w x.wb x.ga _ _ _ h.Cb x.a1 x.BI.length x.c1 rfl k hk
end
def WS.ar(x:WS)(s:Ar):WS:={x with s:=s}
theorem WS.iy(x:WS)(s:Ar)(r:List ai):(x.ts++r).set 1 (arena x.ga s)=(x.ar s).ts++r:=rfl
def at_{α:Type}(l:List α)(k:Int):Option α:=if 0<=k then l[k.toNat]? else none
theorem gI{α:Type}{l:List α}{n:Nat}(h:n<l.length):at_ l (n:Int)=some l[n]:=by unfold at_;rw[if_pos (by omega),Int.toNat_natCast,List.getElem?_eq_getElem h]
theorem gM{α:Type}{l:List α}{k:Int}(h:¬(0<=k/\k<(l.length:Int))):at_ l k=none:=by
 unfold at_;by_cases h0:0<=k
 .rw[if_pos h0,List.getElem?_eq_none (by omega)]
 .rw[if_neg h0]
def rB(s:Ar):Option (Bool×Nat×Ar)->Bool×Int×Ar
 |none=>(false,4,s)
 |some r=>if r.2.1=0 then(r.1,0,r.2.2)else(false,(r.2.1:Int),r.2.2)
def rE(s:Ar):Option (Nat×Ar)->Int×Ar
 |none=>(4,s)
 |some r=>((r.1:Int),r.2)
def dM(s:Ar)(c:Int):Bool×Nat×Ar:=((s.swap c 0 1).2.1.did,(s.swap c 0 1).2.2,(s.swap c 0 1).1)
def fH(s:Ar)(f:Int):Bool×Nat×Ar:=((decide ((s.load f).2.2=0)&&decide ((s.load f).2.1.old≠0)),(s.load f).2.2,(s.load f).1)
def bY(s:Ar)(c:Int):Nat×Ar:=(s.wH c,(s.swap c 1 0).1)
def iA(s:Ar)(f:Int):Nat×Ar:=((if(s.swap f 0 1).2.2=0/\(s.swap f 0 1).2.1.did=false then 150 else(s.swap f 0 1).2.2),(s.swap f 0 1).1)
theorem WS.uq(x:WS)(r0:List ai)(k:Nat)(hk:k<x.cos.length)(r:Nat)(hr:r<2):(x.ts++r0)[6+(4*x.BI.length+(2*k+r))]? =x.cos[k].ts[r]? :=by
 have hl:=nA Ce.ts 4 (fun _=>rfl) x.BI;have hm:=nA Ch.ts 2 (fun _=>rfl) x.cos;unfold WS.ts;rw[List.append_assoc,List.getElem?_append_right (by simp[WS.head]),show 6+(4*x.BI.length+(2*k+r))-x.head.length=4*x.BI.length+(2*k+r) from by simp[WS.head],List.getElem?_append_left (by rw[List.length_append,hl,hm];omega),List.getElem?_append_right (by rw[hl];omega),hl,show 4*x.BI.length+(2*k+r)-4*x.BI.length=2*k+r from by omega];exact flat_get Ch.ts 2 (fun _=>rfl) x.cos k hk r hr
section
variable {T:List Nat} {w0 w:World} {x:WS} {r0:List ai}
theorem BD.r9(h:BD T w0 w (x.ts++r0))(k:Nat)(hk:k<x.cos.length):Calls prog 76 #[x.wb,(k:Int)] w fun e w'=>e= .returned (.pointer (some ⟨x.cos[k].c,0,none⟩))/\Touch [] w w':=by
 have hr:=h.aZ 4 (e:=158) (size:=1) (v:= .slice x.a2 x.cos.length x.c2) (n:=x.cos.length) (xs:=bK x.cos) rfl;obtain⟨g,cap',cur,hv,hg,_⟩:=gD hr (by omega);injection hv with h1 _ h3
 have hc:=eT (g:=g) (cap:=x.c2) (by rw[<-h1];exact hr) k (by simpa[bK]using hk);refine wD w x.wb x.ga _ _ _ h.Cb g 0 x.cos.length x.c2 (by rw[h1]) k hk x.cos[k].c ?_;rw[Nat.zero_add,hc];simp[bK]
theorem BD.iP(h:BD T w0 w (x.ts++r0))(k:Int)(hk:¬(0<=k/\k<(x.cos.length:Int))):Calls prog 76 #[x.wb,k] w fun e w'=>e= .panicked (aX 4)/\Touch [] w w':=
 tu w x.wb x.ga _ _ _ h.Cb x.a2 x.cos.length x.c2 rfl k hk
end
def l5(T:List Nat)(w:World)(er:Int)(l':List ai)(e:Ending)(w':World):Prop:=(∃v Fq,Ends e (.int .i64 v) Fq (.int .i64 0)/\er=if Fq=0 then v else Fq)/\BD T w w' l'
theorem qF(T:List Nat)(w0 w:World)(l:List ai)(D:FuncId)(caps:Array Value)(er:Int)(l':List ai)(h:BD T w0 w l)(hen:∀args w,(callFunc D args).run prog w= .ok (.enter D args) w)(hd:∀T' W,BD T' W W l->Calls prog D caps W (l5 T' W er l')):
  Calls prog 116 #[.func (.func D) #[] caps] w fun e w'=>e= .returned (.int .i64 er)/\BD T w0 w' l':=by
 have HP:=hdq (l7 T w0 w l D caps (fun v Fq l''=>er=(if Fq=0 then v else Fq)/\l''=l') h hen (fun T' W hW=>(hd T' W hW).mono fun e w' ⟨⟨v,Fq,he,hr⟩,hL⟩=>⟨v,Fq,l',he,⟨hr,rfl⟩,hL⟩));clear h hd hen;go_enter func116,ntmps116
 go_wp2_with fail
 refine HP.o.mono ?_;rintro e w' ⟨v,Fq,l'',rfl,⟨hr,rfl⟩,hL⟩;have HL:=hdq hL;have HR:=hdq hr;clear hL hr HP;by_cases h0:Fq=0
 .have hb:(Fq != 0)=false:=by simp[h0]
  have HE:Hid (er=v):=by have :=HR.o;rw[if_pos h0]at this;exact this
  clear h0 HR;go_wp2;go_ret
  exact⟨by rw[HE.o];rfl,HL.o⟩
 .have hb:(Fq != 0)=true:=by simp[h0]
  have HE:Hid (er=Fq):=by have :=HR.o;rw[if_neg h0]at this;exact this
  clear h0 HR;go_wp2;go_ret
  exact⟨by rw[HE.o];rfl,HL.o⟩
theorem mkf(fn:Fn)(first cap:Array Value)(w:World):(Instr.makeFunc fn first cap).run prog w= .ok (.func fn first cap) w:=rfl
theorem abx{x:WS}:abv x.ts x.wb 0 (.pointer (some ⟨x.ga,0,none⟩)):=fun T w0 w R hl=>(BD.Cb (r0:=R) hl).1
theorem adr(x:WS)(n:Nat)(hn:n<x.BI.length):RdG prog 153 #[x.wb,(n:Int)] [x.ts] fun e=>∃y:Unit,True/\e= .returned ((fun _=> .pointer (some ⟨x.BI[n].c,0,none⟩)) y):=ado fun T w0 w hl=>BD.Lp (r0:=[]) (by simpa using hl) n hn
theorem acR(x:WS)(k:Int)(hk:¬(0<=k/\k<(x.BI.length:Int))):RdG prog 153 #[x.wb,k] [x.ts] fun e=>e= .panicked (aX 4):=adh fun T w0 w hl=>BD.nK (r0:=[]) (by simpa using hl) k hk
theorem acZ(x:WS)(n:Nat)(hn:n<x.cos.length):RdG prog 76 #[x.wb,(n:Int)] [x.ts] fun e=>∃y:Unit,True/\e= .returned ((fun _=> .pointer (some ⟨x.cos[n].c,0,none⟩)) y):=ado fun T w0 w hl=>BD.r9 (r0:=[]) (by simpa using hl) n hn
theorem abI(x:WS)(k:Int)(hk:¬(0<=k/\k<(x.cos.length:Int))):RdG prog 76 #[x.wb,k] [x.ts] fun e=>e= .panicked (aX 4):=adh fun T w0 w hl=>BD.iP (r0:=[]) (by simpa using hl) k hk
theorem wm{x:WS}{s':Ar}{f:FuncId}{args:Array Value}{v:Value}(h:∀T w,BD T w w (x.ts++[])->Calls prog f args w fun e w'=>e= .returned v/\BD T w w' ((x.ts++[]).set 1 (arena x.ga s'))):aai prog f args [x.ts] (xq (fun _:Unit=>True) (fun _=>v) fun _=>[(x.ar s').ts]):=fun T w hl=>(h T w (by simpa using hl)).mono fun e w' ⟨he,hl'⟩=>⟨[(x.ar s').ts],rfl,⟨(),trivial,he,rfl⟩,by rw[WS.iy]at hl';simpa using hl'⟩
theorem aco{D:FuncId}{caps:Array Value}{X:LG}{R:Bool->Int->LG->Prop}(hen:∀args w,(callFunc D args).run prog w= .ok (.enter D args) w)(hd:aai prog D caps X fun e Y=>∃v er,Ends e (.bool v) er (.bool false)/\R v er Y):aai prog 73 #[.func (.func D) #[] caps] X fun e Y=>∃v er,e= .returned (.tuple #[.bool v,.int .i64 er])/\R v er Y:=fun T w hl=>
 (iK T w w X.flatten D caps (fun v er l'=>∃Y,l'=Y.flatten/\Y.length=X.length/\R v er Y) hl hen (fun T' W hW=>(hd T' W hW).mono fun e w' ⟨Y,hY,⟨v,er,he,hR⟩,hl'⟩=>⟨v,er,Y.flatten,he,⟨Y,rfl,hY,hR⟩,hl'⟩)).mono fun e w' ⟨v,er,l',he,⟨Y,hl1,hY,hR⟩,hl'⟩=>⟨Y,hY,⟨v,er,he,hR⟩,hl1▸hl'⟩
theorem abU{D:FuncId}{caps:Array Value}{X Y0:LG}{er:Int}(hY:Y0.length=X.length)(hen:∀args w,(callFunc D args).run prog w= .ok (.enter D args) w)(hd:aai prog D caps X fun e Y=>(∃v Fq,Ends e (.int .i64 v) Fq (.int .i64 0)/\er=if Fq=0 then v else Fq)/\Y=Y0):aai prog 116 #[.func (.func D) #[] caps] X (xq (fun _:Unit=>True) (fun _=> .int .i64 er) fun _=>Y0):=fun T w hl=>
 (qF T w w X.flatten D caps er Y0.flatten hl hen (fun T' W hW=>(hd T' W hW).mono fun e w' ⟨Y,_,⟨he,hYY⟩,hl'⟩=>⟨he,hYY▸hl'⟩)).mono fun e w' ⟨he,hl'⟩=>⟨Y0,hY,⟨(),trivial,he,rfl⟩,hl'⟩
theorem dr1q{P:Program}{G:Prop}(h:G:=by
  refine W.rgd ?_;repeat (refine' rgk ?_;rotate_left)
  refine rgz 0 ?_ ?_;refine go ?_;refine crr hC fun _ _=>?_;refine go ?_;refine cr hL fun _ _=>?_;refine go ?_;first
  |(refine cr (abF fun w=>kX w r.1) fun _ _=>?_;refine go ?_;refine W.abg ?_;exact⟨r.1,0,.inl ⟨rfl,rfl⟩,rfl,rfl,rfl⟩)
  |(refine pfq (ade fun w=>jX w r.1 r.2.1 (by omega)) ?_;exact⟨false,_,.inr ⟨rfl,rfl⟩,rfl,rfl,rfl⟩)
  kernel_rfl):G:=h
theorem okBq{G:Prop}(h:G:=by
  rw[hR];clear hR;refine go ?_;by_cases h0:r.2.1=0
  .simp only[h0]at hL
   simp only[rB,if_pos h0];exact dr1q (P:=prog)
  .simp only[rB,if_neg h0]
   exact dr1q (P:=prog)):G:=h
theorem badq{G:Prop}(h:G:=by
  rw[hR];clear hR hk;refine go ?_;refine W.rgo [0,1,3,4,5,6,7,2,8,9,10,11,12] ?_;repeat (refine' rgk ?_;rotate_left)
  refine rgz 0 ?_ ?_;refine go ?_;refine jmq 3 ?_;refine go ?_;refine jmq 2 ?_;refine prr hC ?_;exact⟨false,4,.inr ⟨rfl,rfl⟩,rfl,rfl,rfl⟩
  kernel_rfl):G:=h
theorem okEq{G:Prop}(h:G:=by
  rw[hR];clear hR;refine go ?_;refine W.rgd ?_;repeat (refine' rgk ?_;rotate_left)
  refine rgz 0 ?_ ?_;refine go ?_;refine crr hC fun _ _=>?_;refine go ?_;refine cr hL fun _ _=>?_;refine go ?_;refine W.abg ?_;exact⟨⟨_,0,.inl ⟨rfl,rfl⟩,by simp[rE]⟩,rfl⟩
  kernel_rfl):G:=h
theorem adI{G:Prop}(h:G:=by
  rw[hR];clear hR hk;refine go ?_;refine W.rgo [0,1,3,4,5,6,7,2,8,9] ?_;repeat (refine' rgk ?_;rotate_left)
  refine rgz 0 ?_ ?_;refine go ?_;refine jmq 3 ?_;refine go ?_;refine jmq 2 ?_;refine prr hC ?_;exact⟨⟨0,4,.inr ⟨rfl,rfl⟩,by simp[rE]⟩,rfl⟩
  kernel_rfl):G:=h
def WS.fQ(x:WS)(k:Int):Bool×Int×Ar:=rB x.s ((at_ x.BI k).map fun y=>dM x.s y.cell)
theorem adU(x:WS)(b2 b3:Nat)(k:Int)(hn:x.s.L.length<1000000):aai prog 152 #[b2,b3] [x.ts,[box b2 48 #[x.wb]],[box b3 3 #[k]]] fun e Y=>∃v er,Ends e (.bool v) er (.bool false)/\v=(x.fQ k).1/\er=(x.fQ k).2.1/\Y=[(x.ar (x.fQ k).2.2).ts,[box b2 48 #[x.wb]],[box b3 3 #[k]]]:=by
 have hx:=abx (x:=x);by_cases hk:0<=k/\k<(x.BI.length:Int)
 .obtain⟨n,rfl⟩:=Int.eq_ofNat_of_zero_le hk.1
  have hnk:n<x.BI.length:=by omega
  have hC:=adr x n hnk;have hR:x.fQ (n:Int)=rB x.s (some (dM x.s (x.BI[n]).cell)):=by unfold WS.fQ;rw[gI hnk];rfl
  obtain⟨r,hr⟩:∃r,dM x.s (x.BI[n]).cell=r:=⟨_,rfl⟩;have hL:aai prog 154 #[.pointer (some ⟨x.BI[n].c,0,none⟩),x.ga] [x.ts] (xq (fun _:Unit=>True) (fun _=> .tuple #[.bool r.1,(r.2.1:Int)]) fun _=>[(x.ar r.2.2).ts]):=by
   subst hr;exact wm fun T w h=>h.chLock 1 (g:=x.ga) (s:=x.s) rfl (h.oM n hnk) (by omega)
  rw[hr]at hR;clear hr hk hn;refine aai.go func152 ntmps152 ?_;exact okBq
 .have hC:=acR x k hk
  have hR:x.fQ k=rB x.s none:=by unfold WS.fQ;rw[gM hk];rfl
  refine aai.go func152 ntmps152 ?_;exact badq
theorem ul(T:List Nat)(w:World)(x:WS)(k:Int)(h:BD T w w x.ts)(hn:x.s.L.length<1000000):
  Calls prog 57 #[x.wb,k] w fun e w'=>e= .returned (.tuple #[.bool (x.fQ k).1,.int .i64 (x.fQ k).2.1])/\BD T w w' (x.ar (x.fQ k).2.2).ts:=by
 have hg:aai prog 57 #[x.wb,k] [x.ts] (xq (fun _:Unit=>True) (fun _=> .tuple #[.bool (x.fQ k).1,.int .i64 (x.fQ k).2.1]) fun _=>[(x.ar (x.fQ k).2.2).ts]):=by
  have Ep:=mkf;refine aai.go func57 ntmps57 ?_;refine go2 fun b2 b3=>?_;refine cq (aco (enters_of func152 (by kernel_rfl) rfl) (adU x b2 b3 k hn)) ?_;rintro _ _ ⟨_,_,rfl,rfl,rfl,rfl⟩;refine⟨_,rfl,nq ?_⟩;refine go ?_;refine W.abg ?_;exact⟨(),trivial,rfl,rfl⟩
 exact(hg T w (by simpa using h)).mono fun e w' ⟨Y,_,⟨_,_,he,hY⟩,hl⟩=>⟨he,by rw[hY]at hl;simpa using hl⟩
def WS.cK(x:WS)(k:Int):Bool×Int×Ar:=rB x.s ((at_ x.cos k).map fun y=>dM x.s y.a)
theorem adm(x:WS)(b2 b3:Nat)(k:Int)(hn:x.s.L.length<1000000):aai prog 81 #[b2,b3] [x.ts,[box b2 48 #[x.wb]],[box b3 3 #[k]]] fun e Y=>∃v er,Ends e (.bool v) er (.bool false)/\v=(x.cK k).1/\er=(x.cK k).2.1/\Y=[(x.ar (x.cK k).2.2).ts,[box b2 48 #[x.wb]],[box b3 3 #[k]]]:=by
 have hx:=abx (x:=x);by_cases hk:0<=k/\k<(x.cos.length:Int)
 .obtain⟨n,rfl⟩:=Int.eq_ofNat_of_zero_le hk.1
  have hnk:n<x.cos.length:=by omega
  have hC:=acZ x n hnk;have hR:x.cK (n:Int)=rB x.s (some (dM x.s (x.cos[n]).a)):=by unfold WS.cK;rw[gI hnk];rfl
  obtain⟨r,hr⟩:∃r,dM x.s (x.cos[n]).a=r:=⟨_,rfl⟩;have hL:aai prog 82 #[.pointer (some ⟨x.cos[n].c,0,none⟩),x.ga] [x.ts] (xq (fun _:Unit=>True) (fun _=> .tuple #[.bool r.1,(r.2.1:Int)]) fun _=>[(x.ar r.2.2).ts]):=by
   subst hr;exact wm fun T w h=>h.cLock 1 (6+(4*x.BI.length+(2*n+0))) (g:=x.ga) (s:=x.s) rfl (x.uq _ n hnk 0 (by omega)) (by omega)
  rw[hr]at hR;clear hr hk hn;refine aai.go func81 ntmps81 ?_;exact okBq
 .have hC:=abI x k hk
  have hR:x.cK k=rB x.s none:=by unfold WS.cK;rw[gM hk];rfl
  refine aai.go func81 ntmps81 ?_;exact badq
theorem xZ(T:List Nat)(w:World)(x:WS)(k:Int)(h:BD T w w x.ts)(hn:x.s.L.length<1000000):
  Calls prog 18 #[x.wb,k] w fun e w'=>e= .returned (.tuple #[.bool (x.cK k).1,.int .i64 (x.cK k).2.1])/\BD T w w' (x.ar (x.cK k).2.2).ts:=by
 have hg:aai prog 18 #[x.wb,k] [x.ts] (xq (fun _:Unit=>True) (fun _=> .tuple #[.bool (x.cK k).1,.int .i64 (x.cK k).2.1]) fun _=>[(x.ar (x.cK k).2.2).ts]):=by
  have Ep:=mkf;refine aai.go func18 ntmps18 ?_;refine go2 fun b2 b3=>?_;refine cq (aco (enters_of func81 (by kernel_rfl) rfl) (adm x b2 b3 k hn)) ?_;rintro _ _ ⟨_,_,rfl,rfl,rfl,rfl⟩;refine⟨_,rfl,nq ?_⟩;refine go ?_;refine W.abg ?_;exact⟨(),trivial,rfl,rfl⟩
 exact(hg T w (by simpa using h)).mono fun e w' ⟨Y,_,⟨_,_,he,hY⟩,hl⟩=>⟨he,by rw[hY]at hl;simpa using hl⟩
def WS.eY(x:WS)(k:Int):Bool×Int×Ar:=rB x.s ((at_ x.cos k).map fun y=>fH x.s y.f)
theorem adH(x:WS)(b2 b3:Nat)(k:Int)(hn:x.s.L.length<1000000):aai prog 74 #[b2,b3] [x.ts,[box b2 48 #[x.wb]],[box b3 3 #[k]]] fun e Y=>∃v er,Ends e (.bool v) er (.bool false)/\v=(x.eY k).1/\er=(x.eY k).2.1/\Y=[(x.ar (x.eY k).2.2).ts,[box b2 48 #[x.wb]],[box b3 3 #[k]]]:=by
 have hx:=abx (x:=x);by_cases hk:0<=k/\k<(x.cos.length:Int)
 .obtain⟨n,rfl⟩:=Int.eq_ofNat_of_zero_le hk.1
  have hnk:n<x.cos.length:=by omega
  have hC:=acZ x n hnk;have hR:x.eY (n:Int)=rB x.s (some (fH x.s (x.cos[n]).f)):=by unfold WS.eY;rw[gI hnk];rfl
  obtain⟨r,hr⟩:∃r,fH x.s (x.cos[n]).f=r:=⟨_,rfl⟩;have hL:aai prog 77 #[.pointer (some ⟨x.cos[n].c,0,none⟩),x.ga] [x.ts] (xq (fun _:Unit=>True) (fun _=> .tuple #[.bool r.1,(r.2.1:Int)]) fun _=>[(x.ar r.2.2).ts]):=by
   subst hr;exact wm fun T w h=>h.cFired 1 (6+(4*x.BI.length+(2*n+0))) (g:=x.ga) (s:=x.s) rfl (x.uq _ n hnk 0 (by omega)) (by omega) rfl rfl rfl
  rw[hr]at hR;clear hr hk hn;refine aai.go func74 ntmps74 ?_;exact okBq
 .have hC:=abI x k hk
  have hR:x.eY k=rB x.s none:=by unfold WS.eY;rw[gM hk];rfl
  refine aai.go func74 ntmps74 ?_;exact badq
theorem zJ(T:List Nat)(w:World)(x:WS)(k:Int)(h:BD T w w x.ts)(hn:x.s.L.length<1000000):
  Calls prog 16 #[x.wb,k] w fun e w'=>e= .returned (.tuple #[.bool (x.eY k).1,.int .i64 (x.eY k).2.1])/\BD T w w' (x.ar (x.eY k).2.2).ts:=by
 have hg:aai prog 16 #[x.wb,k] [x.ts] (xq (fun _:Unit=>True) (fun _=> .tuple #[.bool (x.eY k).1,.int .i64 (x.eY k).2.1]) fun _=>[(x.ar (x.eY k).2.2).ts]):=by
  have Ep:=mkf;refine aai.go func16 ntmps16 ?_;refine go2 fun b2 b3=>?_;refine cq (aco (enters_of func74 (by kernel_rfl) rfl) (adH x b2 b3 k hn)) ?_;rintro _ _ ⟨_,_,rfl,rfl,rfl,rfl⟩;refine⟨_,rfl,nq ?_⟩;refine go ?_;refine W.abg ?_;exact⟨(),trivial,rfl,rfl⟩
 exact(hg T w (by simpa using h)).mono fun e w' ⟨Y,_,⟨_,_,he,hY⟩,hl⟩=>⟨he,by rw[hY]at hl;simpa using hl⟩
def WS.eF(x:WS)(k:Int):Int×Ar:=rE x.s ((at_ x.BI k).map fun y=>bY x.s y.cell)
theorem adw(x:WS)(b2 b3:Nat)(k:Int)(hn:x.s.L.length<1000000):aai prog 157 #[b2,b3] [x.ts,[box b2 48 #[x.wb]],[box b3 3 #[k]]] fun e Y=>(∃v Fq,Ends e (.int .i64 v) Fq (.int .i64 0)/\(x.eF k).1=if Fq=0 then v else Fq)/\Y=[(x.ar (x.eF k).2).ts,[box b2 48 #[x.wb]],[box b3 3 #[k]]]:=by
 have hx:=abx (x:=x);by_cases hk:0<=k/\k<(x.BI.length:Int)
 .obtain⟨n,rfl⟩:=Int.eq_ofNat_of_zero_le hk.1
  have hnk:n<x.BI.length:=by omega
  have hC:=adr x n hnk;have hR:x.eF (n:Int)=rE x.s (some (bY x.s (x.BI[n]).cell)):=by unfold WS.eF;rw[gI hnk];rfl
  obtain⟨r,hr⟩:∃r,bY x.s (x.BI[n]).cell=r:=⟨_,rfl⟩;have hL:aai prog 158 #[.pointer (some ⟨x.BI[n].c,0,none⟩),x.ga] [x.ts] (xq (fun _:Unit=>True) (fun _=> .int .i64 (r.1:Int)) fun _=>[(x.ar r.2).ts]):=by
   subst hr;exact wm fun T w h=>h.Jm 1 (g:=x.ga) (s:=x.s) rfl (h.oM n hnk) (by omega)
  rw[hr]at hR;clear hr hk hn;refine aai.go func157 ntmps157 ?_;exact okEq
 .have hC:=acR x k hk
  have hR:x.eF k=rE x.s none:=by unfold WS.eF;rw[gM hk];rfl
  refine aai.go func157 ntmps157 ?_;exact adI
theorem vP(T:List Nat)(w:World)(x:WS)(k:Int)(h:BD T w w x.ts)(hn:x.s.L.length<1000000):
  Calls prog 60 #[x.wb,k] w fun e w'=>e= .returned (.int .i64 (x.eF k).1)/\BD T w w' (x.ar (x.eF k).2).ts:=by
 have hg:aai prog 60 #[x.wb,k] [x.ts] (xq (fun _:Unit=>True) (fun _=> .int .i64 (x.eF k).1) fun _=>[(x.ar (x.eF k).2).ts]):=by
  have Ep:=mkf;refine aai.go func60 ntmps60 ?_;refine go2 fun b2 b3=>?_;refine cr (abU (by rfl) (enters_of func157 (by kernel_rfl) rfl) (adw x b2 b3 k hn)) fun _ _=>?_;refine go ?_;refine W.abg ?_;exact⟨(),trivial,rfl,rfl⟩
 exact(hg T w (by simpa using h)).mono fun e w' ⟨Y,_,⟨_,_,he,hY⟩,hl⟩=>⟨he,by rw[hY]at hl;simpa using hl⟩
def WS.bZ(x:WS)(k:Int):Int×Ar:=rE x.s ((at_ x.cos k).map fun y=>bY x.s y.a)
theorem ac9(x:WS)(b2 b3:Nat)(k:Int)(hn:x.s.L.length<1000000):aai prog 293 #[b2,b3] [x.ts,[box b2 48 #[x.wb]],[box b3 3 #[k]]] fun e Y=>(∃v Fq,Ends e (.int .i64 v) Fq (.int .i64 0)/\(x.bZ k).1=if Fq=0 then v else Fq)/\Y=[(x.ar (x.bZ k).2).ts,[box b2 48 #[x.wb]],[box b3 3 #[k]]]:=by
 have hx:=abx (x:=x);by_cases hk:0<=k/\k<(x.cos.length:Int)
 .obtain⟨n,rfl⟩:=Int.eq_ofNat_of_zero_le hk.1
  have hnk:n<x.cos.length:=by omega
  have hC:=acZ x n hnk;have hR:x.bZ (n:Int)=rE x.s (some (bY x.s (x.cos[n]).a)):=by unfold WS.bZ;rw[gI hnk];rfl
  obtain⟨r,hr⟩:∃r,bY x.s (x.cos[n]).a=r:=⟨_,rfl⟩;have hL:aai prog 294 #[.pointer (some ⟨x.cos[n].c,0,none⟩),x.ga] [x.ts] (xq (fun _:Unit=>True) (fun _=> .int .i64 (r.1:Int)) fun _=>[(x.ar r.2).ts]):=by
   subst hr;exact wm fun T w h=>h.OB 1 (6+(4*x.BI.length+(2*n+0))) (g:=x.ga) (s:=x.s) rfl (x.uq _ n hnk 0 (by omega)) (by omega)
  rw[hr]at hR;clear hr hk hn;refine aai.go func293 ntmps293 ?_;exact okEq
 .have hC:=abI x k hk
  have hR:x.bZ k=rE x.s none:=by unfold WS.bZ;rw[gM hk];rfl
  refine aai.go func293 ntmps293 ?_;exact adI
theorem tK(T:List Nat)(w:World)(x:WS)(k:Int)(h:BD T w w x.ts)(hn:x.s.L.length<1000000):
  Calls prog 254 #[x.wb,k] w fun e w'=>e= .returned (.int .i64 (x.bZ k).1)/\BD T w w' (x.ar (x.bZ k).2).ts:=by
 have hg:aai prog 254 #[x.wb,k] [x.ts] (xq (fun _:Unit=>True) (fun _=> .int .i64 (x.bZ k).1) fun _=>[(x.ar (x.bZ k).2).ts]):=by
  have Ep:=mkf;refine aai.go func254 ntmps254 ?_;refine go2 fun b2 b3=>?_;refine cr (abU (by rfl) (enters_of func293 (by kernel_rfl) rfl) (ac9 x b2 b3 k hn)) fun _ _=>?_;refine go ?_;refine W.abg ?_;exact⟨(),trivial,rfl,rfl⟩
 exact(hg T w (by simpa using h)).mono fun e w' ⟨Y,_,⟨_,_,he,hY⟩,hl⟩=>⟨he,by rw[hY]at hl;simpa using hl⟩
def WS.ja(x:WS)(k:Int):Int×Ar:=rE x.s ((at_ x.cos k).map fun y=>iA x.s y.f)
theorem adT(x:WS)(b2 b3:Nat)(k:Int)(hn:x.s.L.length<1000000):aai prog 148 #[b2,b3] [x.ts,[box b2 48 #[x.wb]],[box b3 3 #[k]]] fun e Y=>(∃v Fq,Ends e (.int .i64 v) Fq (.int .i64 0)/\(x.ja k).1=if Fq=0 then v else Fq)/\Y=[(x.ar (x.ja k).2).ts,[box b2 48 #[x.wb]],[box b3 3 #[k]]]:=by
 have hx:=abx (x:=x);by_cases hk:0<=k/\k<(x.cos.length:Int)
 .obtain⟨n,rfl⟩:=Int.eq_ofNat_of_zero_le hk.1
  have hnk:n<x.cos.length:=by omega
  have hC:=acZ x n hnk;have hR:x.ja (n:Int)=rE x.s (some (iA x.s (x.cos[n]).f)):=by unfold WS.ja;rw[gI hnk];rfl
  obtain⟨r,hr⟩:∃r,iA x.s (x.cos[n]).f=r:=⟨_,rfl⟩;have hL:aai prog 149 #[.pointer (some ⟨x.cos[n].c,0,none⟩),x.ga] [x.ts] (xq (fun _:Unit=>True) (fun _=> .int .i64 (r.1:Int)) fun _=>[(x.ar r.2).ts]):=by
   subst hr;exact wm fun T w h=>h.cFire 1 (6+(4*x.BI.length+(2*n+0))) (g:=x.ga) (s:=x.s) rfl (x.uq _ n hnk 0 (by omega)) (by omega) rfl rfl
  rw[hr]at hR;clear hr hk hn;refine aai.go func148 ntmps148 ?_;exact okEq
 .have hC:=abI x k hk
  have hR:x.ja k=rE x.s none:=by unfold WS.ja;rw[gM hk];rfl
  refine aai.go func148 ntmps148 ?_;exact adI
theorem Kh(T:List Nat)(w:World)(x:WS)(k:Int)(h:BD T w w x.ts)(hn:x.s.L.length<1000000):
  Calls prog 55 #[x.wb,k] w fun e w'=>e= .returned (.int .i64 (x.ja k).1)/\BD T w w' (x.ar (x.ja k).2).ts:=by
 have hg:aai prog 55 #[x.wb,k] [x.ts] (xq (fun _:Unit=>True) (fun _=> .int .i64 (x.ja k).1) fun _=>[(x.ar (x.ja k).2).ts]):=by
  have Ep:=mkf;refine aai.go func55 ntmps55 ?_;refine go2 fun b2 b3=>?_;refine cr (abU (by rfl) (enters_of func148 (by kernel_rfl) rfl) (adT x b2 b3 k hn)) fun _ _=>?_;refine go ?_;refine W.abg ?_;exact⟨(),trivial,rfl,rfl⟩
 exact(hg T w (by simpa using h)).mono fun e w' ⟨Y,_,⟨_,_,he,hY⟩,hl⟩=>⟨he,by rw[hY]at hl;simpa using hl⟩
end Go.Proofs.YtegejdlglonflaaGreatDoor
