/-
  Texts of FirePlays, laid together by program.
-/
import Derived.Test.YtegejdlglonflaaGreatDoorWZ14
import Derived.Laws.CopyOwn
namespace Go.Proofs.YtegejdlglonflaaGreatDoor
open Go.RowKit Go.Shelf Go.Proofs.Tryz
set_option maxRecDepth 100000
set_option maxHeartbeats 8000000
set_option linter.unusedVariables false
set_option linter.unusedSimpArgs false
def kF(rs:List ME)(i:Int)(x:ME)(c:Bool):Prop:=(c=true/\0<=i/\rs[i.toNat]? =some x)\/(c=false/\¬(0<=i/\i<(rs.length:Int))/\x=ME.zero)
theorem kF.inq{rs:List ME}{i:Int}{x:ME}{c:Bool}(h:kF rs i x c){p:ME->Prop}(h0:p ME.zero)(hp:∀r∈rs,p r):p x:=by
 rcases h with ⟨_,_,h⟩|⟨_,_,rfl⟩
 .exact hp x (List.mem_of_getElem? h)
 .exact h0
theorem kF.plain{rs:List ME}{es:List PE}{i:Int}{x y:ME}{c d:Bool}(h:kF rs i x c)(hy:AtR es i y d)(he:es=rs.map ME.plain):y.plain=x.plain/\d=c:=by
 subst he;rcases h with ⟨rfl,h1,h2⟩|⟨rfl,h1,rfl⟩
 .have hlt:=(List.getElem?_eq_some_iff.1 h2).1
  rcases hy with ⟨rfl,h3,h4⟩|⟨rfl,h3,rfl⟩
  .rw[List.getElem?_map,h2]at h4
   simp at h4
   exact⟨h4.symm,rfl⟩
  .simp only[List.length_map]at h3
   omega
 .rcases hy with ⟨rfl,h3,h4⟩|⟨rfl,h3,rfl⟩
  .have hlt:=(List.getElem?_eq_some_iff.1 h4).1
   simp only[List.length_map]at hlt;omega
  .exact⟨rfl,rfl⟩
def YG(rs:List ME)(i:Int)(w:World)(e:Ending)(w':World):Prop:=∃x c,e= .returned (.tuple #[x.val,.bool c])/\kF rs i x c/\Touch [] w w'
theorem Vx(w:World)(a:Option Addr)(cap:Nat)(rs:List ME)(i:Int)(he:fo w a rs):Calls prog 297 #[.agg #[.slice a rs.length cap],i] w (YG rs i w):=by
 have hbe:=sH;simp only[bB,ME.zero,MT.zero,MT.kind,MT.num,MT.addr,MT.parts,MT.cap,List.length_nil]at hbe;by_cases hin:0<=i/\i<(rs.length:Int)
 .obtain⟨k,rfl⟩:=Int.eq_ofNat_of_zero_le hin.1
  have hk:k<rs.length:=by omega
  have hk1:¬(k:Int)<0:=by omega
  have hk2:¬(rs.length:Int)<=(k:Int):=by omega
  have hk3:¬rs.length<=k:=by omega
  have hk4:(k:Int)<(rs.length:Int):=by omega
  have hk0:(0:Int)<=(k:Int):=by omega
  obtain⟨b,o,rfl,hbb,p0,p1,p2,p3,p4,p5,p6⟩:=he k hk;have Jy:Hid (rs[k]? =some rs[k]):=by unfold Hid;simp[hk]
  generalize rs[k]=x at p0 p1 p2 p3 p4 p5 p6 Jy;have HY1:Hid (yX w b (o+k*7) x):=⟨p0,p1,p2,p3,p4,p5,p6⟩;clear he hin p0 p1 p2 p3 p4 p5 p6;go_enter func297,ntmps297
  go_upto_region 1 with fail
  refine ay ?_;intro w1 hw1;have HL:=hdq ((BD.nil' w).DZ hw1);have HTT:=hdq HL.o.BN;simp only[nAq,cAq]at HL;generalize hb4:w.heap.size+1=b4 at HL|-;generalize hb2:w.heap.size=b2 at HL|-;clear hw1 hb4 hb2;obtain⟨q0,fq,zq,_,_⟩:=HL.o.c1 0 rfl;obtain⟨_,_,_,_,_,_,_,_,zr,_,_⟩:=HL.o.c7 1 rfl;obtain⟨p0,p1,p2,p3,p4,p5,p6⟩:=HY1.o.touch HTT.o;have zb:b<w1.heap.size:=Nat.lt_of_lt_of_le hbb HTT.o.size;go_wp2;have Ca:=hdq (HL.o.iD 1 rfl x.sync x.thread x.branch x.flag x.v.kind x.v.num (.slice x.v.addr x.v.parts.length x.v.cap));simp only[sZq,sSq]at Ca;obtain⟨s0,s1,s2,s3,s4,s5,s6,_⟩:=Ca.o.c7 1 rfl;refine bodyPost_ret (v:= .tuple #[x.val,true]) (by simp[results,results297,go_sem,s0,s1,s2,s3,s4,s5,s6,bB]) rfl ?_;exact⟨x,true,rfl,.inl ⟨rfl,by omega,Jy.o⟩,Ca.o.BN⟩
 .have Ed:=hdq hin
  have hor:i<0\/(rs.length:Int)<=i:=by omega
  clear hin he;rcases hor with hi|hi
  all_goals
   go_enter func297,ntmps297
   go_upto_region 1 with fail
   refine ay ?_;intro w1 hw1;have HL:=hdq ((BD.nil' w).DZ hw1);have HTT:=hdq HL.o.BN;simp only[nAq,cAq]at HL;generalize hb4:w.heap.size+1=b4 at HL|-;generalize hb2:w.heap.size=b2 at HL|-;clear hw1 hb4 hb2;obtain⟨q0,fq,zq,_,_⟩:=HL.o.c1 0 rfl;obtain⟨_,_,_,_,_,_,_,_,zr,_,_⟩:=HL.o.c7 1 rfl;go_wp2;have Ca:=hdq (HL.o.iD 1 rfl 0 0 0 0 0 0 (.slice none 0 0));simp only[sZq,sSq]at Ca;obtain⟨s0,s1,s2,s3,s4,s5,s6,_⟩:=Ca.o.c7 1 rfl;refine bodyPost_ret (v:= .tuple #[ME.zero.val,false]) (by simp[results,results297,go_sem,s0,s1,s2,s3,s4,s5,s6,bB,ME.zero,MT.zero,MT.kind,MT.num,MT.addr,MT.parts,MT.cap]) rfl ?_;exact⟨ME.zero,false,rfl,.inr ⟨rfl,Ed.o,rfl⟩,Ca.o.BN⟩
section
open Go.RowKit
section
variable {T:List Nat} {w0 w w':World} {l:List ai} {g:Nat} {es:List ME}
def Beside(l:List ai)(i:Nat)(W:World):Prop:=∀j u,j≠i->l[j]? =some u->∃f,u.holds W f
theorem BD.OX(h:BD T w0 w l)(i:Nat)(hi:l[i]? =some (aQ g es))(z:Int)(hes:es.length<=1048576):
  Calls prog 182 #[g,z] w fun e w'=>(∃x,0<=z/\es[z.toNat]? =some x/\e= .returned (.tuple #[x.val,true])/\BD T w0 w' (l.set i (aQ g (es.eraseIdx z.toNat))))\/
   (¬(0<=z/\z<(es.length:Int))/\e= .returned (.tuple #[ME.zero.val,false])/\BD T w0 w' (l.set i (aQ g es))):=by
 obtain⟨T',h1,hb⟩:=h.qL i hi;refine(Drop_q T' w g es z h1 hes).mono ?_;rintro e w' (⟨x,h0,hx,rfl,hL⟩|⟨hn,rfl,hL⟩)
 .exact .inl ⟨x,h0,hx,rfl,hb _ _ _ hL⟩
 .exact .inr ⟨hn,rfl,hb _ _ _ hL⟩
theorem vG{W:World}{b c:Nat}{xs:List ME}{cs:Array Value}(hcs:cs=(aM xs).toArray)(h:∃f,(box b c cs).holds W f):fo W (some ⟨b,0,none⟩) xs:=by
 obtain⟨f,_,hb⟩:=h;subst hcs;intro i hi;have hl:=fU xs;have hc:∀q,q<7->W.cell? ⟨b,0+i*7+q,none⟩=xs[i].cells[q]? :=fun q hq=>by
  rw[Nat.zero_add,hb.cell (i*7+q),<-jT xs i hi q hq,List.getElem?_toArray]
 exact⟨b,0,rfl,hb.lt,hc 0 (by omega),hc 1 (by omega),hc 2 (by omega),hc 3 (by omega),hc 4 (by omega),hc 5 (by omega),hc 6 (by omega)⟩
end
end
section
attribute [local go_sem] Oper.semAt_some
theorem kK.all{n:Nat}{xs:List PE}{k:Nat}{err:Int}(h:kK n xs k err)(hok:∀x∈xs,x.Ok)(hn:n+xs.length<=4096):k=xs.length/\err=0:=by
 obtain⟨_,h2,h3,h4|⟨hk,h4|h4⟩⟩:=h
 .exact⟨h4.2,h4.1⟩
 .exact absurd (hok _ (List.getElem_mem hk)) h4.2
 .omega
end
theorem kK.one{x y:PE}{k:Nat}{err:Int}(h:kK 4095 [x,y] k err)(hx:x.Ok)(hy:y.Ok):k=1/\err=6:=by
 obtain⟨h1,h2,h3,h4⟩:=h;have hk:k=0\/k=1:=by omega
 rcases hk with rfl|rfl
 .rcases h4 with h4|⟨hk,h4|h4⟩
  .simp at h4
  .exact absurd hx h4.2
  .omega
 .rcases h4 with h4|⟨hk,h4|h4⟩
  .simp at h4
  .exact absurd hy h4.2
  .exact⟨rfl,h4.1⟩
section
def kN(w:World)(c:Nat)(l f:Int)(q:Nat):Prop:=Cg w c 269 #[l,f,q]
theorem kN.touch{w w':World}{c:Nat}{l f:Int}{q:Nat}(h:kN w c l f q)(ht:Touch [] w w'):kN w' c l f q:=Cg.touch h ht (by simp)
theorem kN.cells{w:World}{c:Nat}{l f:Int}{q:Nat}(h:kN w c l f q):w.cell? ⟨c,0,none⟩=some (.int .i64 l)/\w.cell? ⟨c,1,none⟩=some (.int .i64 f)/\w.cell? ⟨c,2,none⟩=some (.pointer (some ⟨q,0,none⟩))/\c<w.heap.size/\c<w.heap.size+1:=by
 have hl:=Cg.lt h;exact⟨Cg.cell h 0,Cg.cell h 1,Cg.cell h 2,hl,by omega⟩
theorem BD.kS{T:List Nat}{w0 w:World}{l:List ai}{c:Nat}{a f:Int}{q:Nat}(h:BD T w0 w l)(i:Nat)(hi:l[i]? =some (Proofs.YtegejdlglonflaaGreatDoor.box c 269 #[a,f,q])):kN w c a f q:=h.box i hi
section
variable (w:World) (c:Nat) (l f:Int) (q:Nat) (hc:kN w c l f q)
include hc
theorem fA:Calls prog 178 #[c] w fun e w'=>e= .returned (.bool false)/\w=w':=by
 obtain⟨c0,c1,c2,hl,_⟩:=hc.cells;clear hc;go_enter func178,ntmps178
 go_wp2;go_ret
 exact⟨rfl,rfl⟩
end
theorem KX(l f:Int)(w:World):Calls prog 184 #[.agg #[l,f]] w fun e w'=>e= .returned (.int .i64 l)/\Touch [] w w':=by
 have HT:=hdq ((Touch.refl [] w).alloc (.cells #[l,f] 266));go_enter func184,ntmps184
 go_wp2;go_ret
 exact⟨rfl,HT.o⟩
theorem lQ(l f:Int)(w:World):Calls prog 180 #[.agg #[l,f]] w fun e w'=>e= .returned (.int .i64 f)/\Touch [] w w':=by
 have HT:=hdq ((Touch.refl [] w).alloc (.cells #[l,f] 266));go_enter func180,ntmps180
 go_wp2;go_ret
 exact⟨rfl,HT.o⟩
section
variable (w:World) (c:Nat) (l f:Int) (q:Nat) (hc:kN w c l f q) (p:Option Addr) (R:World->Prop)
include hc
theorem Lock_c(d:Bool)(er:Nat)(h:∀W,Touch [] w W->Calls prog 183 #[.pointer p,l] W fun e w'=>e= .returned (.tuple #[d,(er:Int)])/\R w'):
  Calls prog 82 #[c,.pointer p] w fun e w'=>e= .returned (.tuple #[d,(er:Int)])/\R w':=by
 obtain⟨c0,c1,c2,hl,_⟩:=hc.cells;have HC:=hdq hc;have H:=hdq h;clear hc h;go_enter func82,ntmps82
 go_wp2_with fail
 refine(fA _ _ _ _ _ HC.o).mono ?_;rintro e w' ⟨rfl,rfl⟩;go_wp2_with fail
 refine(KX _ _ _).mono ?_;rintro e w1 ⟨rfl,ht⟩;have H1:=hdq (H.o w1 ht);clear ht H;go_wp2_with fail
 refine H1.o.mono ?_;rintro e w2 ⟨rfl,hr⟩;have HR:=hdq hr;clear hr;go_wp2;go_ret2
 exact⟨rfl,HR.o⟩
theorem Kz(er:Nat)(h:∀W,Touch [] w W->Calls prog 292 #[.pointer p,l] W fun e w'=>e= .returned (.int .i64 (er:Int))/\R w'):
  Calls prog 294 #[c,.pointer p] w fun e w'=>e= .returned (.int .i64 (er:Int))/\R w':=by
 obtain⟨c0,c1,c2,hl,_⟩:=hc.cells;have HC:=hdq hc;have H:=hdq h;clear hc h;go_enter func294,ntmps294
 go_wp2_with fail
 refine(fA _ _ _ _ _ HC.o).mono ?_;rintro e w' ⟨rfl,rfl⟩;go_wp2_with fail
 refine(KX _ _ _).mono ?_;rintro e w1 ⟨rfl,ht⟩;have H1:=hdq (H.o w1 ht);clear ht H;go_wp2_with fail
 refine H1.o.mono ?_;rintro e w2 ⟨rfl,hr⟩;have HR:=hdq hr;clear hr;go_wp2;go_ret
 exact⟨rfl,HR.o⟩
theorem Nr(v er:Nat)(d:Bool)(hd:d=(decide (er=0)&&decide (v≠0)))(h:∀W,Touch [] w W->Calls prog 179 #[.pointer p,f] W fun e w'=>e= .returned (.tuple #[.int .u64 (v:Int),(er:Int)])/\R w'):
  Calls prog 77 #[c,.pointer p] w fun e w'=>e= .returned (.tuple #[d,(er:Int)])/\R w':=by
 obtain⟨c0,c1,c2,hl,_⟩:=hc.cells;have HC:=hdq hc;have H:=hdq h;have eg:=enters_of func179 (by kernel_rfl) rfl;have HD:=hdq hd;clear hc h hd;by_cases he:er=0
 .subst he
  by_cases hv:v=0
  .subst hv
   obtain rfl:d=false:=by rw[HD.o];rfl
   go_enter func77,ntmps77
   go_wp2_with fail
   refine(fA _ _ _ _ _ HC.o).mono ?_;rintro e w' ⟨rfl,rfl⟩;go_wp2_with fail
   refine(lQ _ _ _).mono ?_;rintro e w1 ⟨rfl,ht⟩;have H1:=hdq (H.o w1 ht);clear ht H;go_wp2_with fail
   refine H1.o.mono ?_;rintro e w2 ⟨rfl,hr⟩;have HR:=hdq hr;clear hr;go_wp2;go_ret2
   exact⟨rfl,HR.o⟩
  .obtain rfl:d=true:=by rw[HD.o];simp[hv]
   have hv':((v:Int) != 0)=true:=by simp;omega
   go_enter func77,ntmps77
   go_wp2_with fail
   refine(fA _ _ _ _ _ HC.o).mono ?_;rintro e w' ⟨rfl,rfl⟩;go_wp2_with fail
   refine(lQ _ _ _).mono ?_;rintro e w1 ⟨rfl,ht⟩;have H1:=hdq (H.o w1 ht);clear ht H;go_wp2_with fail
   refine H1.o.mono ?_;rintro e w2 ⟨rfl,hr⟩;have HR:=hdq hr;clear hr;go_wp2;go_ret2
   exact⟨rfl,HR.o⟩
 .obtain rfl:d=false:=by rw[HD.o];simp[he]
  have he':((er:Int)==0)=false:=by simp;omega
  go_enter func77,ntmps77
  go_wp2_with fail
  refine(fA _ _ _ _ _ HC.o).mono ?_;rintro e w' ⟨rfl,rfl⟩;go_wp2_with fail
  refine(lQ _ _ _).mono ?_;rintro e w1 ⟨rfl,ht⟩;have H1:=hdq (H.o w1 ht);clear ht H;go_wp2_with fail
  refine H1.o.mono ?_;rintro e w2 ⟨rfl,hr⟩;have HR:=hdq hr;clear hr;go_wp2;go_ret2
  exact⟨rfl,HR.o⟩
theorem Fire_c(v er:Nat)(d:Bool)(fe:Nat)(hfe:fe=if er=0/\d=false then 150 else er)(h:∀W,Touch [] w W->Calls prog 238 #[.pointer p,f,.int .u64 0,.int .u64 1] W fun e w'=>e= .returned (.tuple #[.int .u64 (v:Int),d,(er:Int)])/\R w'):
  Calls prog 149 #[c,.pointer p] w fun e w'=>e= .returned (.int .i64 (fe:Int))/\R w':=by
 obtain⟨c0,c1,c2,hl,_⟩:=hc.cells;have HC:=hdq hc;have H:=hdq h;have eg:=enters_of func238 (by kernel_rfl) rfl;have HD:=hdq hfe;clear hc h hfe;by_cases he:er=0
 .subst he
  cases d with
  |true=>
   obtain rfl:fe=0:=by rw[HD.o];rfl
   go_enter func149,ntmps149
   go_wp2;refine bT 0 rfl ?_;go_wp2_with fail
   refine(fA _ _ _ _ _ HC.o).mono ?_;rintro e w' ⟨rfl,rfl⟩;go_wp2_with fail
   refine(lQ _ _ _).mono ?_;rintro e w1 ⟨rfl,ht⟩;have H1:=hdq (H.o w1 ht);clear ht H;go_wp2_with fail
   refine H1.o.mono ?_;rintro e w2 ⟨rfl,hr⟩;have HR:=hdq hr;clear hr;go_wp2;go_step3
   go_wp2;refine fO ?_;go_ret
   exact⟨rfl,HR.o⟩
  |false=>
   obtain rfl:fe=150:=by rw[HD.o];rfl
   go_enter func149,ntmps149
   go_wp2;refine bT 0 rfl ?_;go_wp2_with fail
   refine(fA _ _ _ _ _ HC.o).mono ?_;rintro e w' ⟨rfl,rfl⟩;go_wp2_with fail
   refine(lQ _ _ _).mono ?_;rintro e w1 ⟨rfl,ht⟩;have H1:=hdq (H.o w1 ht);clear ht H;go_wp2_with fail
   refine H1.o.mono ?_;rintro e w2 ⟨rfl,hr⟩;have HR:=hdq hr;clear hr;go_wp2;go_step3
   go_wp2;refine fO ?_;go_ret
   exact⟨rfl,HR.o⟩
 .obtain rfl:fe=er:=by rw[HD.o];simp[he]
  have he':((fe:Int)==0)=false:=by simp;omega
  go_enter func149,ntmps149
  go_wp2;refine bT 0 rfl ?_;go_wp2_with fail
  refine(fA _ _ _ _ _ HC.o).mono ?_;rintro e w' ⟨rfl,rfl⟩;go_wp2_with fail
  refine(lQ _ _ _).mono ?_;rintro e w1 ⟨rfl,ht⟩;have H1:=hdq (H.o w1 ht);clear ht H;go_wp2_with fail
  refine H1.o.mono ?_;rintro e w2 ⟨rfl,hr⟩;have HR:=hdq hr;clear hr;go_wp2;go_step3
  go_wp2;refine fO ?_;go_ret
  exact⟨rfl,HR.o⟩
end
theorem pY(q:Option Addr)(w:World)(h:prog.built 269 [(1,.pointer q)]=some #[.int .i64 0,.int .i64 0,.pointer q]):(Instr.build 269 #[(1,.pointer q)]).run prog w= .ok (.agg #[(),(),.pointer q]) w:=run_build w 269 _ _ h
attribute [local go_sem] pY
theorem Il(w:World)(q:Option Addr)(b o cap:Nat)(l f:Int)(h0:w.cell? ⟨b,o,none⟩=some (.int .i64 l))(h1:w.cell? ⟨b,o+1,none⟩=some (.int .i64 f)):
  Calls prog 203 #[.pointer q,.slice (some ⟨b,o,none⟩) 2 cap] w fun e w'=>e= .returned (.pointer (some ⟨w.heap.size,0,none⟩))/\Cg w' w.heap.size 269 #[l,f,.pointer q]/\Touch [] w w':=by
 have hbc:∀W,(Instr.build 269 #[(1,.pointer q)]).run prog W= .ok (.agg #[(),(),.pointer q]) W:=fun W=>pY q W (by cases q<;>rfl);obtain⟨w2,hcp,hbk,hbl⟩:∃w2,(Builtin.copy_ #[54,54] 3 #[.slice (some ⟨w.heap.size,0,none⟩) 2 2,.slice (some ⟨b,o,none⟩) 2 cap]).run prog (w.alloc (.cells #[(),(),.pointer q] 269))= .ok (.int .i64 2) w2/\
   Cg w2 w.heap.size 269 #[l,f,.pointer q]/\Below w.heap.size w w2:=by
  have hb:Cg (w.alloc (.cells #[(),(),.pointer q] 269)) w.heap.size 269 #[(),(),.pointer q]:=Cg.new w _ _;have hT:=(Touch.refl [] w).alloc (.cells #[(),(),.pointer q] 269);have hr:=run_copy_row (P:=prog) (w.alloc (.cells #[(),(),.pointer q] 269)) 54 54 3 3 w.heap.size 0 2 2 ⟨b,o,none⟩ 2 cap _ _ [.int .i64 l,.int .i64 f] underlying54 (by kernel_rfl) hb rfl (fun j v hj=>by
   match j,hj with
   |0,hj=>simp at hj;subst hj;rw[Addr.add_lit];exact hT.cellOf h0
   |1,hj=>simp at hj;subst hj;rw[Addr.add_lit];exact hT.cellOf h1
   |j+2,hj=>simp at hj) (by simp) (by simp[Value.oneCell'])
  refine⟨_,hr,?_,below_setRow hT.below (Nat.le_refl _) _⟩;exact setRow_heap _ _ _ _ _ _ hb
 have HB:=hdq hbk;have HL:=hdq hbl;clear hbk hbl;go_enter func203,ntmps203
 go_wp2;go_ret
 exact⟨rfl,HB.o,Touch.of_below HL.o []⟩
theorem BD.cNew{T:List Nat}{w0 w:World}{l:List ai}{g:Nat}{s:Ar}(h:BD T w0 w l)(i:Nat)(hi:l[i]? =some (arena g s))(hok:s.C.length+2<=s.most):
  Calls prog 108 #[g] w fun e w'=>∃q c,e= .returned (.tuple #[.pointer (some ⟨c,0,none⟩),()])/\
   BD T w0 w' (l.set i (arena g (s.au 2).1)++[aQ q [],bS [],Proofs.YtegejdlglonflaaGreatDoor.box c 269 #[(s.C.length:Int),(s.C.length+1:Int),.pointer (some ⟨q,0,none⟩)]]):=by
 have hal:=h.ar i hi (fun fp hI=>lV w g fp s 2 hI);have e1:(s.au 2).2.1=s.C.length/\(s.au 2).2.2=0:=by unfold Ar.au;rw[if_neg (by omega),if_neg (by omega)];exact⟨rfl,rfl⟩
 rw[e1.1,e1.2]at hal;have HA:=hdq hal;have hm:=(h.nP i hi).2.2;clear hal e1 h hi;go_enter func108,ntmps108
 go_wp2;refine bT 0 rfl ?_;go_wp2_with fail
 refine HA.o.mono ?_;rintro e w1 ⟨rfl,hL⟩;have HL:=hdq hL;clear hL HA;go_wp2_with fail
 refine(Km w1 HL.o).mono ?_;rintro e w2 ⟨q,rfl,hL⟩;have HL2:=hdq hL.yS;clear hL HL;go_wp2_with fail
 refine(Il _ _ _ _ _ (s.C.length:Int) (s.C.length+1:Int) (by simp) (by simp)).mono ?_;rintro e w3 ⟨rfl,hb,ht⟩;have BF:Hid (BD T w0 w3 (l.set i (arena g (s.au 2).1)++[aQ q [],bS [],Proofs.YtegejdlglonflaaGreatDoor.box (w2.heap.size+1) 269 #[(s.C.length:Int),(s.C.length+1:Int),.pointer (some ⟨q,0,none⟩)]])):=by
  have h1:=(HL2.o.dL (.cells #[(s.C.length:Int),(s.C.length+1:Int)] 3)).new (t':=Proofs.YtegejdlglonflaaGreatDoor.box (w2.heap.size+1) 269 #[(s.C.length:Int),(s.C.length+1:Int),.pointer (some ⟨q,0,none⟩)]) (f':=[w2.heap.size+1]) ⟨rfl,by simpa using hb⟩ ⟨ht,fun k hk=> .inr (by simp at hk;simp;omega)⟩;unfold Hid;simpa using h1
 clear hb ht HL2;go_wp2;go_step3
 go_wp2;refine fO ?_;go_ret2
 exact⟨q,_,rfl,by simpa using BF.o⟩
theorem BD.Au{T:List Nat}{w0 w:World}{l:List ai}{g:Nat}{s:Ar}(h:BD T w0 w l)(i:Nat)(hi:l[i]? =some (arena g s))(hok:¬s.C.length+2<=s.most):
  Calls prog 108 #[g] w fun e w'=>e= .returned (.tuple #[.pointer none,(6:Int)])/\BD T w0 w' (l.set i (arena g (s.au 2).1)):=by
 have hal:=h.ar i hi (fun fp hI=>lV w g fp s 2 hI);have hm:=(h.nP i hi).2.2;have e1:(s.au 2).2.1=0/\(s.au 2).2.2=6:=by unfold Ar.au;rw[if_neg (by omega),if_pos (by omega)];exact⟨rfl,rfl⟩
 rw[e1.1,e1.2]at hal;have HA:=hdq hal;clear hal e1 h hi;go_enter func108,ntmps108
 go_wp2;refine bT 0 rfl ?_;go_wp2_with fail
 refine HA.o.mono ?_;rintro e w1 ⟨rfl,hL⟩;have HL:=hdq hL;clear hL HA;go_wp2;go_step3
 refine⟨rfl,?_⟩;go_wp2;refine dO ?_;go_ret2
 exact⟨rfl,HL.o⟩
end
end Go.Proofs.YtegejdlglonflaaGreatDoor
