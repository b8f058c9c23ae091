/-
  Texts of WorldCopies, laid together by program.
-/
import Derived.Test.YtddnnapoaonmjaaGreatDoorWZ13
import Derived.Laws.CopyOwn
namespace Go.Proofs.YtddnnapoaonmjaaGreatDoor
open Go.RowKit Go.Shelf Go.Proofs.Tryz
set_option maxRecDepth 100000
set_option maxHeartbeats 8000000
set_option linter.unusedVariables false
set_option linter.unusedSimpArgs false
section
attribute [local go_sem] Oper.semAt_some
theorem kK.all{n:Nat}{xs:List PE}{k:Nat}{err:Int}(h:kK n xs k err)(hok:∀x∈xs,x.Ok)(hn:n+xs.length<=4096):k=xs.length/\err=0:=by
 obtain⟨_,h2,h3,h4|⟨hk,h4|h4⟩⟩:=h
 .exact⟨h4.2,h4.1⟩
 .exact absurd (hok _ (List.getElem_mem hk)) h4.2
 .omega
end
theorem kK.one{x y:PE}{k:Nat}{err:Int}(h:kK 4095 [x,y] k err)(hx:x.Ok)(hy:y.Ok):k=1/\err=6:=by
 obtain⟨h1,h2,h3,h4⟩:=h;have hk:k=0\/k=1:=by omega
 rcases hk with rfl|rfl
 .rcases h4 with h4|⟨hk,h4|h4⟩
  .simp at h4
  .exact absurd hx h4.2
  .omega
 .rcases h4 with h4|⟨hk,h4|h4⟩
  .simp at h4
  .exact absurd hy h4.2
  .exact⟨rfl,h4.1⟩
section
def kN(w:World)(c:Nat)(l f:Int)(q:Nat):Prop:=Cg w c 211 #[l,f,q]
theorem kN.touch{w w':World}{c:Nat}{l f:Int}{q:Nat}(h:kN w c l f q)(ht:Touch [] w w'):kN w' c l f q:=Cg.touch h ht (by simp)
theorem kN.cells{w:World}{c:Nat}{l f:Int}{q:Nat}(h:kN w c l f q):w.cell? ⟨c,0,none⟩=some (.int .i64 l)/\w.cell? ⟨c,1,none⟩=some (.int .i64 f)/\w.cell? ⟨c,2,none⟩=some (.pointer (some ⟨q,0,none⟩))/\c<w.heap.size/\c<w.heap.size+1:=by
 have hl:=Cg.lt h;exact⟨Cg.cell h 0,Cg.cell h 1,Cg.cell h 2,hl,by omega⟩
theorem BD.kS{T:List Nat}{w0 w:World}{l:List ai}{c:Nat}{a f:Int}{q:Nat}(h:BD T w0 w l)(i:Nat)(hi:l[i]? =some (Proofs.YtddnnapoaonmjaaGreatDoor.box c 211 #[a,f,q])):kN w c a f q:=h.box i hi
section
variable (w:World) (c:Nat) (l f:Int) (q:Nat) (hc:kN w c l f q)
include hc
theorem fA:Calls prog 142 #[c] w fun e w'=>e= .returned (.bool false)/\w=w':=by
 obtain⟨c0,c1,c2,hl,_⟩:=hc.cells;go_enter func142,ntmps142
 go_wp2;go_ret
 exact⟨rfl,rfl⟩
end
theorem KX(l f:Int)(w:World):Calls prog 204 #[.agg #[l,f]] w fun e w'=>e= .returned (.int .i64 l)/\Touch [] w w':=by
 have HT:=hdq ((Touch.refl [] w).alloc (.cells #[l,f] 209));go_enter func204,ntmps204
 go_wp2;go_ret
 exact⟨rfl,HT.o⟩
theorem lQ(l f:Int)(w:World):Calls prog 207 #[.agg #[l,f]] w fun e w'=>e= .returned (.int .i64 f)/\Touch [] w w':=by
 have HT:=hdq ((Touch.refl [] w).alloc (.cells #[l,f] 209));go_enter func207,ntmps207
 go_wp2;go_ret
 exact⟨rfl,HT.o⟩
section
variable (w:World) (c:Nat) (l f:Int) (q:Nat) (hc:kN w c l f q) (p:Option Addr) (R:World->Prop)
include hc
theorem Lock_c(d:Bool)(er:Nat)(h:∀W,Touch [] w W->Calls prog 203 #[.pointer p,l] W fun e w'=>e= .returned (.tuple #[d,(er:Int)])/\R w'):
  Calls prog 108 #[c,.pointer p] w fun e w'=>e= .returned (.tuple #[d,(er:Int)])/\R w':=by
 obtain⟨c0,c1,c2,hl,_⟩:=hc.cells;have HC:=hdq hc;have H:=hdq h;go_enter func108,ntmps108
 go_wp2_with fail
 refine(fA _ _ _ _ _ HC.o).mono ?_;rintro e w' ⟨rfl,rfl⟩;go_wp2_with fail
 refine(KX _ _ _).mono ?_;rintro e w1 ⟨rfl,ht⟩;have H1:=hdq (H.o w1 ht);go_wp2_with fail
 refine H1.o.mono ?_;rintro e w2 ⟨rfl,hr⟩;have HR:=hdq hr;go_wp2;go_ret2
 exact⟨rfl,HR.o⟩
theorem Kz(er:Nat)(h:∀W,Touch [] w W->Calls prog 205 #[.pointer p,l] W fun e w'=>e= .returned (.int .i64 (er:Int))/\R w'):
  Calls prog 110 #[c,.pointer p] w fun e w'=>e= .returned (.int .i64 (er:Int))/\R w':=by
 obtain⟨c0,c1,c2,hl,_⟩:=hc.cells;have HC:=hdq hc;have H:=hdq h;go_enter func110,ntmps110
 go_wp2_with fail
 refine(fA _ _ _ _ _ HC.o).mono ?_;rintro e w' ⟨rfl,rfl⟩;go_wp2_with fail
 refine(KX _ _ _).mono ?_;rintro e w1 ⟨rfl,ht⟩;have H1:=hdq (H.o w1 ht);go_wp2_with fail
 refine H1.o.mono ?_;rintro e w2 ⟨rfl,hr⟩;have HR:=hdq hr;go_wp2;go_ret
 exact⟨rfl,HR.o⟩
theorem Nr(v er:Nat)(d:Bool)(hd:d=(decide (er=0)&&decide (v≠0)))(h:∀W,Touch [] w W->Calls prog 206 #[.pointer p,f] W fun e w'=>e= .returned (.tuple #[.int .u64 (v:Int),(er:Int)])/\R w'):
  Calls prog 112 #[c,.pointer p] w fun e w'=>e= .returned (.tuple #[d,(er:Int)])/\R w':=by
 obtain⟨c0,c1,c2,hl,_⟩:=hc.cells;have HC:=hdq hc;have H:=hdq h;have eg:=enters_of func206 (by kernel_rfl) rfl;have HD:=hdq hd;clear hc h hd;by_cases he:er=0
 .subst he
  by_cases hv:v=0
  .subst hv
   obtain rfl:d=false:=by rw[HD.o];rfl
   go_enter func112,ntmps112
   go_wp2_with fail
   refine(fA _ _ _ _ _ HC.o).mono ?_;rintro e w' ⟨rfl,rfl⟩;go_wp2_with fail
   refine(lQ _ _ _).mono ?_;rintro e w1 ⟨rfl,ht⟩;have H1:=hdq (H.o w1 ht);clear ht H;go_wp2_with fail
   refine H1.o.mono ?_;rintro e w2 ⟨rfl,hr⟩;have HR:=hdq hr;clear hr;go_wp2;go_ret2
   exact⟨rfl,HR.o⟩
  .obtain rfl:d=true:=by rw[HD.o];simp[hv]
   have hv':((v:Int) != 0)=true:=by simp;omega
   go_enter func112,ntmps112
   go_wp2_with fail
   refine(fA _ _ _ _ _ HC.o).mono ?_;rintro e w' ⟨rfl,rfl⟩;go_wp2_with fail
   refine(lQ _ _ _).mono ?_;rintro e w1 ⟨rfl,ht⟩;have H1:=hdq (H.o w1 ht);clear ht H;go_wp2_with fail
   refine H1.o.mono ?_;rintro e w2 ⟨rfl,hr⟩;have HR:=hdq hr;clear hr;go_wp2;go_ret2
   exact⟨rfl,HR.o⟩
 .obtain rfl:d=false:=by rw[HD.o];simp[he]
  have he':((er:Int)==0)=false:=by simp;omega
  go_enter func112,ntmps112
  go_wp2_with fail
  refine(fA _ _ _ _ _ HC.o).mono ?_;rintro e w' ⟨rfl,rfl⟩;go_wp2_with fail
  refine(lQ _ _ _).mono ?_;rintro e w1 ⟨rfl,ht⟩;have H1:=hdq (H.o w1 ht);clear ht H;go_wp2_with fail
  refine H1.o.mono ?_;rintro e w2 ⟨rfl,hr⟩;have HR:=hdq hr;clear hr;go_wp2;go_ret2
  exact⟨rfl,HR.o⟩
theorem Fire_c(v er:Nat)(d:Bool)(fe:Nat)(hfe:fe=if er=0/\d=false then 150 else er)(h:∀W,Touch [] w W->Calls prog 208 #[.pointer p,f,.int .u64 0,.int .u64 1] W fun e w'=>e= .returned (.tuple #[.int .u64 (v:Int),d,(er:Int)])/\R w'):
  Calls prog 114 #[c,.pointer p] w fun e w'=>e= .returned (.int .i64 (fe:Int))/\R w':=by
 obtain⟨c0,c1,c2,hl,_⟩:=hc.cells;have HC:=hdq hc;have H:=hdq h;have eg:=enters_of func208 (by kernel_rfl) rfl;have HD:=hdq hfe;clear hc h hfe;by_cases he:er=0
 .subst he
  cases d with
  |true=>
   obtain rfl:fe=0:=by rw[HD.o];rfl
   go_enter func114,ntmps114
   go_wp2;refine bT 0 rfl ?_;go_wp2_with fail
   refine(fA _ _ _ _ _ HC.o).mono ?_;rintro e w' ⟨rfl,rfl⟩;go_wp2_with fail
   refine(lQ _ _ _).mono ?_;rintro e w1 ⟨rfl,ht⟩;have H1:=hdq (H.o w1 ht);clear ht H;go_wp2_with fail
   refine H1.o.mono ?_;rintro e w2 ⟨rfl,hr⟩;have HR:=hdq hr;clear hr;go_wp2;go_step3
   go_wp2;refine fO ?_;go_ret
   exact⟨rfl,HR.o⟩
  |false=>
   obtain rfl:fe=150:=by rw[HD.o];rfl
   go_enter func114,ntmps114
   go_wp2;refine bT 0 rfl ?_;go_wp2_with fail
   refine(fA _ _ _ _ _ HC.o).mono ?_;rintro e w' ⟨rfl,rfl⟩;go_wp2_with fail
   refine(lQ _ _ _).mono ?_;rintro e w1 ⟨rfl,ht⟩;have H1:=hdq (H.o w1 ht);clear ht H;go_wp2_with fail
   refine H1.o.mono ?_;rintro e w2 ⟨rfl,hr⟩;have HR:=hdq hr;clear hr;go_wp2;go_step3
   go_wp2;refine fO ?_;go_ret
   exact⟨rfl,HR.o⟩
 .obtain rfl:fe=er:=by rw[HD.o];simp[he]
  have he':((fe:Int)==0)=false:=by simp;omega
  go_enter func114,ntmps114
  go_wp2;refine bT 0 rfl ?_;go_wp2_with fail
  refine(fA _ _ _ _ _ HC.o).mono ?_;rintro e w' ⟨rfl,rfl⟩;go_wp2_with fail
  refine(lQ _ _ _).mono ?_;rintro e w1 ⟨rfl,ht⟩;have H1:=hdq (H.o w1 ht);clear ht H;go_wp2_with fail
  refine H1.o.mono ?_;rintro e w2 ⟨rfl,hr⟩;have HR:=hdq hr;clear hr;go_wp2;go_step3
  go_wp2;refine fO ?_;go_ret
  exact⟨rfl,HR.o⟩
end
theorem pY(q:Option Addr)(w:World)(h:prog.built 211 [(1,.pointer q)]=some #[.int .i64 0,.int .i64 0,.pointer q]):(Instr.build 211 #[(1,.pointer q)]).run prog w= .ok (.agg #[(),(),.pointer q]) w:=run_build w 211 _ _ h
attribute [local go_sem] pY
theorem Il(w:World)(q:Option Addr)(b o cap:Nat)(l f:Int)(h0:w.cell? ⟨b,o,none⟩=some (.int .i64 l))(h1:w.cell? ⟨b,o+1,none⟩=some (.int .i64 f)):
  Calls prog 143 #[.pointer q,.slice (some ⟨b,o,none⟩) 2 cap] w fun e w'=>e= .returned (.pointer (some ⟨w.heap.size,0,none⟩))/\Cg w' w.heap.size 211 #[l,f,.pointer q]/\Touch [] w w':=by
 have hbc:∀W,(Instr.build 211 #[(1,.pointer q)]).run prog W= .ok (.agg #[(),(),.pointer q]) W:=fun W=>pY q W (by cases q<;>rfl);obtain⟨w2,hcp,hbk,hbl⟩:∃w2,(Builtin.copy_ #[49,49] 3 #[.slice (some ⟨w.heap.size,0,none⟩) 2 2,.slice (some ⟨b,o,none⟩) 2 cap]).run prog (w.alloc (.cells #[(),(),.pointer q] 211))= .ok (.int .i64 2) w2/\
   Cg w2 w.heap.size 211 #[l,f,.pointer q]/\Below w.heap.size w w2:=by
  have hb:Cg (w.alloc (.cells #[(),(),.pointer q] 211)) w.heap.size 211 #[(),(),.pointer q]:=Cg.new w _ _;have hT:=(Touch.refl [] w).alloc (.cells #[(),(),.pointer q] 211);have hr:=run_copy_row (P:=prog) (w.alloc (.cells #[(),(),.pointer q] 211)) 49 49 3 3 w.heap.size 0 2 2 ⟨b,o,none⟩ 2 cap _ _ [.int .i64 l,.int .i64 f] underlying49 (by kernel_rfl) hb rfl (fun j v hj=>by
   match j,hj with
   |0,hj=>simp at hj;subst hj;rw[Addr.add_lit];exact hT.cellOf h0
   |1,hj=>simp at hj;subst hj;rw[Addr.add_lit];exact hT.cellOf h1
   |j+2,hj=>simp at hj) (by simp) (by simp[Value.oneCell'])
  refine⟨_,hr,?_,below_setRow hT.below (Nat.le_refl _) _⟩;exact setRow_heap _ _ _ _ _ _ hb
 have HB:=hdq hbk;have HL:=hdq hbl;go_enter func143,ntmps143
 go_wp2;go_ret
 exact⟨rfl,HB.o,Touch.of_below HL.o []⟩
theorem BD.cNew{T:List Nat}{w0 w:World}{l:List ai}{g:Nat}{s:Ar}(h:BD T w0 w l)(i:Nat)(hi:l[i]? =some (arena g s))(hok:s.C.length+2<=s.most):
  Calls prog 85 #[g] w fun e w'=>∃q c,e= .returned (.tuple #[.pointer (some ⟨c,0,none⟩),()])/\
   BD T w0 w' (l.set i (arena g (s.au 2).1)++[aQ q [],bS [],Proofs.YtddnnapoaonmjaaGreatDoor.box c 211 #[(s.C.length:Int),(s.C.length+1:Int),.pointer (some ⟨q,0,none⟩)]]):=by
 have hal:=h.ar i hi (fun fp hI=>lV w g fp s 2 hI);have e1:(s.au 2).2.1=s.C.length/\(s.au 2).2.2=0:=by unfold Ar.au;rw[if_neg (by omega),if_neg (by omega)];exact⟨rfl,rfl⟩
 rw[e1.1,e1.2]at hal;have HA:=hdq hal;have hm:=(h.nP i hi).2.2;go_enter func85,ntmps85
 go_wp2;refine bT 0 rfl ?_;go_wp2_with fail
 refine HA.o.mono ?_;rintro e w1 ⟨rfl,hL⟩;have HL:=hdq hL;go_wp2_with fail
 refine(Km w1 HL.o).mono ?_;rintro e w2 ⟨q,rfl,hL⟩;have HL2:=hdq hL.yS;go_wp2_with fail
 refine(Il _ _ _ _ _ (s.C.length:Int) (s.C.length+1:Int) (by simp) (by simp)).mono ?_;rintro e w3 ⟨rfl,hb,ht⟩;have BF:Hid (BD T w0 w3 (l.set i (arena g (s.au 2).1)++[aQ q [],bS [],Proofs.YtddnnapoaonmjaaGreatDoor.box (w2.heap.size+1) 211 #[(s.C.length:Int),(s.C.length+1:Int),.pointer (some ⟨q,0,none⟩)]])):=by
  have h1:=(HL2.o.dL (.cells #[(s.C.length:Int),(s.C.length+1:Int)] 3)).new (t':=Proofs.YtddnnapoaonmjaaGreatDoor.box (w2.heap.size+1) 211 #[(s.C.length:Int),(s.C.length+1:Int),.pointer (some ⟨q,0,none⟩)]) (f':=[w2.heap.size+1]) ⟨rfl,by simpa using hb⟩ ⟨ht,fun k hk=> .inr (by simp at hk;simp;omega)⟩;unfold Hid;simpa using h1
 go_wp2;go_step3
 go_wp2;refine fO ?_;go_ret2
 exact⟨q,_,rfl,by simpa using BF.o⟩
theorem BD.Au{T:List Nat}{w0 w:World}{l:List ai}{g:Nat}{s:Ar}(h:BD T w0 w l)(i:Nat)(hi:l[i]? =some (arena g s))(hok:¬s.C.length+2<=s.most):
  Calls prog 85 #[g] w fun e w'=>e= .returned (.tuple #[.pointer none,(6:Int)])/\BD T w0 w' (l.set i (arena g (s.au 2).1)):=by
 have hal:=h.ar i hi (fun fp hI=>lV w g fp s 2 hI);have hm:=(h.nP i hi).2.2;have e1:(s.au 2).2.1=0/\(s.au 2).2.2=6:=by unfold Ar.au;rw[if_neg (by omega),if_pos (by omega)];exact⟨rfl,rfl⟩
 rw[e1.1,e1.2]at hal;have HA:=hdq hal;go_enter func85,ntmps85
 go_wp2;refine bT 0 rfl ?_;go_wp2_with fail
 refine HA.o.mono ?_;rintro e w1 ⟨rfl,hL⟩;have HL:=hdq hL;go_wp2;go_step3
 refine⟨rfl,?_⟩;go_wp2;refine dO ?_;go_ret2
 exact⟨rfl,HL.o⟩
end
def NoQ(W:World)(p:Option Addr):Prop:=p=none\/∃g,p=some ⟨g,0,none⟩/\W.cell? ⟨g,0,none⟩=some (.bool false)
theorem NoQ.touch{w w':World}{p:Option Addr}(h:NoQ w p)(ht:Touch [] w w'):NoQ w' p:=by
 rcases h with h|⟨g,h1,h2⟩
 .exact .inl h
 .exact .inr ⟨g,h1,ht.cellOf h2⟩
theorem none_n(w:World)(p:Option Addr)(h:NoQ w p):Calls prog 219 #[.pointer p] w fun e w'=>e= .returned (.bool true)/\w=w':=by
 rcases h with rfl|⟨g,rfl,h⟩
 .exact XG w
 .exact WT g w h
theorem All_n(w:World)(p:Option Addr)(h:NoQ w p):Calls prog 181 #[.pointer p] w fun e w'=>∃bx,e= .returned (.func (.func 251) #[] #[.pointer (some ⟨bx,0,none⟩)])/\BD [] w w' [allT bx (.slice none 0 0) []]:=by
 have HN:=hdq (fun W (hW:Touch [] w W)=>none_n W p (h.touch hW));go_enter func181,ntmps181
 go_wp2_with fail
 refine ah ?_;intro w1 hw1;have BB:=hdq (((BD.nil' w).DN hw1).gK 47 7).yS;simp only[nAq,cAq]at BB;generalize hb3:w.heap.size=b3 at BB|-;refine(HN.o _ BB.o.BN).mono ?_;rintro e w' ⟨rfl,rfl⟩;go_wp2;go_ret
 exact⟨b3,rfl,BD.shutAll (l:=[]) (ys:=[]) rfl BB.o⟩
def Nexted(T:List Nat)(w0:World)(l:List ai)(i q:Nat)(es:List ME)(e:Ending)(w':World):Prop:=
 (∃x r,es=x::r/\e= .returned (.tuple #[x.val,true])/\BD T w0 w' (l.set i (aQ q r)))\/(es=[]/\e= .returned (.tuple #[ME.zero.val,false])/\BD T w0 w' (l.set i (aQ q [])))
section
variable {T:List Nat} {w0 w:World} {l:List ai} {g c q:Nat} {a f:Int} {s:Ar} {es:List ME}
theorem ng{t1:ai}:(l++[t1])[l.length]? =some t1:=by simp
theorem BD.cLock(h:BD T w0 w l)(i j:Nat)(hi:l[i]? =some (arena g s))(hj:l[j]? =some (Proofs.YtddnnapoaonmjaaGreatDoor.box c 211 #[a,f,q]))(hn:s.L.length<4611686018427387904):
  Calls prog 108 #[c,g] w fun e w'=>e= .returned (.tuple #[.bool (s.swap a 0 1).2.1.did,.int .i64 ((s.swap a 0 1).2.2:Int)])/\BD T w0 w' (l.set i (arena g (s.swap a 0 1).1)):=
 Lock_c w c a f q (h.kS j hj) _ (fun w'=>BD T w0 w' (l.set i (arena g (s.swap a 0 1).1))) _ _ (fun W hW=>(h.touch hW).ar i hi (fun fp hI=>zC W g fp s hI a hn))
theorem BD.OB(h:BD T w0 w l)(i j:Nat)(hi:l[i]? =some (arena g s))(hj:l[j]? =some (Proofs.YtddnnapoaonmjaaGreatDoor.box c 211 #[a,f,q]))(hn:s.L.length<4611686018427387904):
  Calls prog 110 #[c,g] w fun e w'=>e= .returned (.int .i64 (s.wH a:Int))/\BD T w0 w' (l.set i (arena g (s.swap a 1 0).1)):=
 Kz w c a f q (h.kS j hj) _ (fun w'=>BD T w0 w' (l.set i (arena g (s.swap a 1 0).1))) _ (fun W hW=>(h.touch hW).ar i hi (fun fp hI=>uW W g fp s hI a hn))
theorem BD.cFired(h:BD T w0 w l)(i j:Nat)(hi:l[i]? =some (arena g s))(hj:l[j]? =some (Proofs.YtddnnapoaonmjaaGreatDoor.box c 211 #[a,f,q]))(hn:s.L.length<4611686018427387904){d:Bool}{er:Nat}{s':Ar}(hd:d=(decide ((s.load f).2.2=0)&&decide ((s.load f).2.1.old≠0)))(he:(s.load f).2.2=er)(hs:(s.load f).1=s'):
  Calls prog 112 #[c,g] w fun e w'=>e= .returned (.tuple #[d,(er:Int)])/\BD T w0 w' (l.set i (arena g s')):=by
 subst he hs;exact Nr w c a f q (h.kS j hj) _ (fun w'=>BD T w0 w' (l.set i (arena g (s.load f).1))) _ _ _ hd (fun W hW=>(h.touch hW).ar i hi (fun fp hI=>vO W g fp s f hI hn))
theorem BD.cFire(h:BD T w0 w l)(i j:Nat)(hi:l[i]? =some (arena g s))(hj:l[j]? =some (Proofs.YtddnnapoaonmjaaGreatDoor.box c 211 #[a,f,q]))(hn:s.L.length<4611686018427387904){fe:Nat}{s':Ar}(hfe:fe=if(s.swap f 0 1).2.2=0/\(s.swap f 0 1).2.1.did=false then 150 else(s.swap f 0 1).2.2)(hs:(s.swap f 0 1).1=s'):
  Calls prog 114 #[c,g] w fun e w'=>e= .returned (.int .i64 (fe:Int))/\BD T w0 w' (l.set i (arena g s')):=by
 subst hs;exact Fire_c w c a f q (h.kS j hj) _ (fun w'=>BD T w0 w' (l.set i (arena g (s.swap f 0 1).1))) _ _ _ _ hfe (fun W hW=>(h.touch hW).ar i hi (fun fp hI=>kP W g fp s f hI hn 0 1 wd0 wd1))
theorem BD.cNext(h:BD T w0 w l)(i j:Nat)(hi:l[i]? =some (aQ q es))(hj:l[j]? =some (Proofs.YtddnnapoaonmjaaGreatDoor.box c 211 #[a,f,q]))(hes:es.length<=1048576):
  Calls prog 118 #[c] w (Nexted T w0 l i q es):=by
 obtain⟨d0,d1,d2,hl,hl2⟩:=(h.kS j hj).cells;have hil:=(List.getElem?_eq_some_iff.1 hi).1;have HC:=hdq ((h.kS j hj).touch ((Touch.refl [] w).alloc (.cells #[(),(),(),(),(),(),True] 47)));have h1:=h.alloc 47 #[(),(),(),(),(),(),True];have HP:=hdq (h1.OX i (by rw[List.getElem?_append_left hil];exact hi) 0 hes);have HI:=hdq hil;go_enter func118,ntmps118
 go_wp2_with fail
 refine(fA _ _ _ _ _ HC.o).mono ?_;rintro e w' ⟨rfl,rfl⟩;go_wp2_with fail
 refine HP.o.mono ?_;rintro e w2 (⟨x,_,hx,rfl,hL⟩|⟨hn,rfl,hL⟩)
 .obtain⟨r,rfl⟩:∃r,es=x::r:=by
   cases es with
   |nil=>simp at hx
   |cons y r=>simp at hx;exact⟨r,by rw[hx]⟩
  rw[List.set_append_left _ _ HI.o]at hL;have HL:=hdq hL;simp only[bB];obtain⟨x0,x1,x2,x3,x4,x5,x6,⟨f0,f1,f2,f3,f4,f5,f6⟩,z1,_,_⟩:=HL.o.c7 (l.set i (aQ q ((x::r).eraseIdx (Int.toNat 0)))).length ng;go_wp2;have C8:=hdq (HL.o.iD (l.set i (aQ q ((x::r).eraseIdx (Int.toNat 0)))).length ng x.sync x.thread x.branch x.flag x.v.kind x.v.num (.slice x.v.addr x.v.parts.length x.v.cap));obtain⟨s0,s1,s2,s3,s4,s5,s6,_⟩:=C8.o.c7 (l.set i (aQ q ((x::r).eraseIdx (Int.toNat 0)))).length (List.getElem?_set_self (by simp));refine bodyPost_ret (v:= .tuple #[x.val,true]) (by simp[results,results118,go_sem,s0,s1,s2,s3,s4,s5,s6,bB]) rfl ?_;refine .inl ⟨x,r,rfl,rfl,?_⟩;have h:=C8.o;rw[List.set_append_right _ _ (Nat.le_refl _)]at h;exact h.aF
 .obtain rfl:es=[]:=by
   cases es with
   |nil=>rfl
   |cons y r=>exact absurd ⟨by decide,by simp⟩ hn
  rw[List.set_append_left _ _ HI.o]at hL;have HL:=hdq hL;have hzv:ME.zero.val= .agg #[(),(),(),(),(),(),True]:=rfl;rw[hzv];obtain⟨x0,x1,x2,x3,x4,x5,x6,⟨f0,f1,f2,f3,f4,f5,f6⟩,z1,_,_⟩:=HL.o.c7 (l.set i (aQ q [])).length ng;go_wp2;have C8:=hdq (HL.o.iD (l.set i (aQ q [])).length ng 0 0 0 0 0 0 (.slice none 0 0));obtain⟨s0,s1,s2,s3,s4,s5,s6,_⟩:=C8.o.c7 (l.set i (aQ q [])).length (List.getElem?_set_self (by simp));refine bodyPost_ret (v:= .tuple #[.agg #[(),(),(),(),(),(),True],false]) (by simp[results,results118,go_sem,s0,s1,s2,s3,s4,s5,s6]) rfl ?_;refine .inr ⟨rfl,rfl,?_⟩;have h:=C8.o;rw[List.set_append_right _ _ (Nat.le_refl _)]at h;exact h.aF
end
def mQ(c:Nat)(ca f:Int)(q:Nat)(es:List ME)(P:World->Prop):List ai:=[box c 211 #[ca,f,q],aQ q es,aA P]
theorem Nq(T:List Nat)(w:World)(c:Nat)(ca f:Int)(q:Nat)(es:List ME)(P:World->Prop)(x:ME)(h:BD T w w (mQ c ca f q es P))(hP:∀W,P W->x.v.In W)(hes:es.length<=4096):
  Calls prog 116 #[c,x.val] w fun e w'=>∃(k:Nat) (err:Int) (ys:List ME),e= .returned (.int .i64 err)/\kK es.length [x.plain] k err/\ys.map ME.plain=[x.plain].take k/\BD T w w' (mQ c ca f q (es++ys) (fun W=>P W/\∀y∈ys,y.v.In W)):=by
 have HP:=hdq hP;have BG:=hdq h;unfold mQ at BG;simp only[bB];go_enter func116,ntmps116
 go_wp2_with fail
 refine ah ?_;intro w1 hw1;have BB:=hdq (BG.o.DN hw1);simp only[nAq,cAq]at BB;generalize hb3:w.heap.size=b3 at BB|-;refine(fA _ _ _ _ _ (BB.o.kS 0 rfl)).mono ?_;rintro e w' ⟨rfl,rfl⟩;obtain⟨d0,d1,d2,_,_,_,hl,_,_⟩:=BB.o.c3 0 rfl;obtain⟨x0,x1,x2,x3,x4,x5,x6,_,hl3,_,_⟩:=BB.o.c7 3 rfl;have HL2:=hdq (BB.o.alloc 47 #[x.sync,x.thread,x.branch,x.flag,x.v.kind,x.v.num,.slice x.v.addr x.v.parts.length x.v.cap]).drew;simp only[nAq,cAq]at HL2;have HPU:=hdq (HL2.o.JK (xs:=[x]) (a:=some ⟨w1.heap.size,0,none⟩) (cap:=1) 1 2 rfl rfl (by decide) (fun W hW=>⟨vG rfl (hW 4 _ (by decide) rfl),fun y hy=>by
  simp at hy;subst hy
  obtain⟨fz,_,hs⟩:=hW 2 (aA P) (by decide) rfl;exact HP.o W (hs W (fun _ _=>rfl))⟩) (by simp) hes)
 go_wp2_with fail
 go_region_held3 (fun w'=>w'.cell? ⟨c,2,none⟩=some (.pointer (some ⟨q,0,none⟩))/\w'.cell? ⟨b3,0,none⟩=some (.int .i64 x.sync)/\w'.cell? ⟨b3,1,none⟩=some (.int .i64 x.thread)/\w'.cell? ⟨b3,2,none⟩=some (.int .i64 x.branch)/\w'.cell? ⟨b3,3,none⟩=some (.int .i64 x.flag)/\w'.cell? ⟨b3,4,none⟩=some (.int .i64 x.v.kind)/\w'.cell? ⟨b3,5,none⟩=some (.int .i64 x.v.num)/\w'.cell? ⟨b3,6,none⟩=some (.slice x.v.addr x.v.parts.length x.v.cap)) (go_keep) (first
  |(go_at_call 200;refine HPU.o.mono ?_;rintro e w4 ⟨k,err,ys,rfl,hR,hp,hL⟩;have BH:=hdq hL;(simp only[sZq,sSq]at BH);have HR:=hdq hR;have HPY:=hdq hp;obtain⟨d0,d1,d2,_,_,_,hl,_,_⟩:=BH.o.c3 0 rfl;obtain⟨x0,x1,x2,x3,x4,x5,x6,_,hl3,_,_⟩:=BH.o.c7 3 rfl))
 go_wp2;go_ret
 exact⟨k,err,ys,rfl,HR.o,HPY.o,BH.o.sel [0,1,2] rfl (by decide)⟩
theorem Mk(T:List Nat)(w:World)(c:Nat)(ca f:Int)(q:Nat)(es:List ME)(P:World->Prop)(h:BD T w w (mQ c ca f q es P))(hes:es.length<=4096):
  Calls prog 118 #[c] w fun e w'=>∃(y:ME) (b:Bool),e= .returned (.tuple #[y.val,b])/\kF es 0 y b/\BD T w w' (mQ c ca f q (if b=true then es.eraseIdx 0 else es) P):=by
 refine(BD.cNext h 1 0 rfl rfl (by omega)).mono ?_;rintro e w' (⟨x,r,rfl,rfl,hL⟩|⟨rfl,rfl,hL⟩)
 .exact⟨x,true,rfl,.inl ⟨rfl,by omega,rfl⟩,hL⟩
 .exact⟨ME.zero,false,rfl,.inr ⟨rfl,by simp,rfl⟩,hL⟩
section
variable {T:List Nat} {w0 w:World}
theorem BD.vg{h0 h1 s:ai}{A Y B:List ai}(h:BD T w0 w ([h0,h1,s]++A++Y++B)):∃T',BD T' w w (Y++[s])/\∀w' Y' s',BD T' w w' (Y'++[s'])->BD T w0 w' ([h0,h1,s']++A++Y'++B):=by
 have e1:BD T w0 w (Y++[s]++(A++B++[h0,h1])):=by
  have g1:BD T w0 w ([]++([h0,h1,s]++A)++(Y++B)):=by simpa using h
  have g2:=g1.aB;have g3:BD T w0 w (Y++(B++[h0,h1])++([s]++A)):=by simpa using g2
  have g4:=g3.aB;have g5:BD T w0 w ((Y++[s]++A)++(B++[h0,h1])):=by simpa using g4
  simpa using g5
 obtain⟨T',hF,hb⟩:=e1.aN;refine⟨T',hF,fun w' Y' s' hL=>?_⟩;have k1:=hb w' (Y'++[s']) hL;have k2:BD T w0 w' (Y'++([s']++A)++(B++[h0,h1])):=by simpa using k1
 have k3:=k2.aB;have k4:BD T w0 w' ([]++(Y'++B)++([h0,h1,s']++A)):=by simpa using k3
 have k5:=k4.aB;simpa using k5
end
end Go.Proofs.YtddnnapoaonmjaaGreatDoor
