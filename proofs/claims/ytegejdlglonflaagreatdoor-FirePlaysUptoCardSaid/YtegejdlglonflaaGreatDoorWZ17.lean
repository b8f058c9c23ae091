/-
  Texts of FirePlays, laid together by program.
-/
import Derived.Test.YtegejdlglonflaaGreatDoorWZ16
namespace Go.Proofs.YtegejdlglonflaaGreatDoor
open Go.RowKit Go.Shelf Go.Proofs.Tryz
set_option maxRecDepth 100000
set_option maxHeartbeats 8000000
set_option linter.unusedVariables false
set_option linter.unusedSimpArgs false
section
open Go.RowKit
section
variable {T:List Nat} {w0 w w':World} {l:List ai} {ts:List MT} {sh:List (Option Addr×Nat×Nat)}
theorem BD.JK{P:World->Prop}{g:Nat}{es xs:List ME}{a:Option Addr}{cap:Nat}(h:BD T w0 w l)(i j:Nat)(hi:l[i]? =some (aQ g es))(hj:l[j]? =some (aA P))(hij:i≠j)(hsrc:∀W,Beside l i W->fo W a xs/\∀x∈xs,x.v.In W)(hn:xs.length<=1099511627776)(hes:es.length<=4096):
  Calls prog 212 #[g,.slice a xs.length cap] w fun e w'=>∃(k:Nat) (err:Int) (ys:List ME),e= .returned (.int .i64 err)/\kK es.length (xs.map ME.plain) k err/\ys.map ME.plain=(xs.map ME.plain).take k/\BD T w0 w' ((l.set i (aQ g (es++ys))).set j (aA fun W=>P W/\∀y∈ys,y.v.In W)):=by
 obtain⟨T',h1,_,hk,hb⟩:=h.frameK i hi;refine(Push_q T' w g es xs a cap h1 (fun W hW=>hsrc W (hk W hW)) hn hes).mono ?_;rintro e w' ⟨k,err,ys,rfl,hR,hp,hL⟩;refine⟨k,err,ys,rfl,hR,hp,BD.settle (hb _ _ _ hL) j ?_ (fun W f hW hf=>⟨hW,fun y hy=>hf.2 _ (List.mem_map.2 ⟨y,hy,rfl⟩)⟩)⟩;rwa[List.getElem?_set_ne hij]
end
end
def gW(q1 q2:Nat):Obj:= .map #[⟨.int .i64 1,.pointer (some ⟨q1,0,none⟩),0⟩,⟨.int .i64 2,.pointer (some ⟨q2,0,none⟩),1⟩] 2
def Hg(s:Int)(q1 q2:Nat):Option Addr:=if s=1 then some ⟨q1,0,none⟩else if s=2 then some ⟨q2,0,none⟩else none
def jZ(w:World)(c:Nat)(at_:Int)(M q1 q2:Nat):Prop:=Cg w c 296 #[at_,.map (some M)]/\w.heap[M]? =some (gW q1 q2)
theorem jZ.touch{w w':World}{c:Nat}{a:Int}{M q1 q2:Nat}(h:jZ w c a M q1 q2)(ht:Touch [] w w'):jZ w' c a M q1 q2:=
 ⟨Cg.touch h.1 ht (by simp),(ht.block M (Array.getElem?_eq_some_iff.1 h.2).1 (by simp)).trans h.2⟩
theorem jZ.cells{w:World}{c:Nat}{a:Int}{M q1 q2:Nat}(h:jZ w c a M q1 q2):w.cell? ⟨c,0,none⟩=some (.int .i64 a)/\w.cell? ⟨c,1,none⟩=some (.map (some M))/\c<w.heap.size/\c<w.heap.size+1:=by
 have hl:=Cg.lt h.1;exact⟨Cg.cell h.1 0,Cg.cell h.1 1,hl,by omega⟩
def bJ(w:World):Prop:=w.cell? ⟨1,0,none⟩=some (.int .i64 1)/\w.cell? ⟨1,1,none⟩=some (.int .i64 2)
theorem bJ.touch{w w':World}(h:bJ w)(ht:Touch [] w w'):bJ w':=⟨ht.cellOf h.1,ht.cellOf h.2⟩
theorem iT(w:World)(M q1 q2:Nat)(h:w.heap[M]? =some (gW q1 q2))(s:Int):(Instr.lookup 294 (.map (some M)) (.int .i64 s) false).run prog w= .ok (.pointer (Hg s q1 q2)) w:=by
 unfold gW at h;have hu:=underlying294;have hk:=underlying182;unfold Hg;by_cases h1:s=1
 .subst h1
  have hf:Instr.findNow (.int .i64) (.int .i64 1) [⟨.int .i64 1,.pointer (some ⟨q1,0,none⟩),0⟩,⟨.int .i64 2,.pointer (some ⟨q2,0,none⟩),1⟩] 0=some (some (0,.pointer (some ⟨q1,0,none⟩))):=by kernel_rfl
  simp[Instr.lookup,run_underlying hu,bX h,bO false 9999 hk,bR hk 1 _ hf]
 by_cases h2:s=2
 .subst h2
  have hf:Instr.findNow (.int .i64) (.int .i64 2) [⟨.int .i64 1,.pointer (some ⟨q1,0,none⟩),0⟩,⟨.int .i64 2,.pointer (some ⟨q2,0,none⟩),1⟩] 0=some (some (1,.pointer (some ⟨q2,0,none⟩))):=by kernel_rfl
  simp[Instr.lookup,run_underlying hu,bX h,bO false 9999 hk,bR hk 2 _ hf]
 .have hf:Instr.findNow (.int .i64) (.int .i64 s) [⟨.int .i64 1,.pointer (some ⟨q1,0,none⟩),0⟩,⟨.int .i64 2,.pointer (some ⟨q2,0,none⟩),1⟩] 0=some none:=by
   have e1:Instr.sameNow (.int .i64) (.int .i64 s) (.int .i64 1)=some false:=by simp[Instr.sameNow,h1]
   have e2:Instr.sameNow (.int .i64) (.int .i64 s) (.int .i64 2)=some false:=by simp[Instr.sameNow,h2]
   simp[Instr.findNow,e1,e2]
  have hz:(zeroValue 267).run prog w= .ok (.pointer none) w:=by kernel_rfl
  simp[Instr.lookup,run_underlying hu,bX h,bO false 9999 hk,bR hk s _ hf,hz,h1,h2]
theorem IY(w:World)(M:Nat):(binOp .eql 294 (.map (some M)) (.map none)).run prog w= .ok (.bool false) w:=by kernel_rfl
section
variable (w:World) (c:Nat) (a:Int) (M q1 q2:Nat) (hc:jZ w c a M q1 q2)
include hc
theorem jC:Calls prog 201 #[c] w fun e w'=>e= .returned (.bool false)/\w=w':=by
 obtain⟨c0,c1,hl,_⟩:=hc.cells;have hmn:=IY w M;clear hc;go_enter func201,ntmps201
 go_wp2;go_ret
 exact⟨rfl,rfl⟩
theorem uw(s:Int):Calls prog 287 #[c,s] w fun e w'=>e= .returned (.pointer (Hg s q1 q2))/\w=w':=by
 obtain⟨c0,c1,hl,_⟩:=hc.cells;have HC:=hdq hc;have hlk:=iT w M q1 q2 hc.2 s;clear hc;go_enter func287,ntmps287
 go_wp2_with fail
 refine(jC _ _ _ _ _ _ HC.o).mono ?_;rintro e w' ⟨rfl,rfl⟩;go_wp2;go_ret
 exact⟨rfl,rfl⟩
end
theorem rJ(h:Int)(W:World):(Instr.makeMap 294 (some (.int .i64 h))).run prog W= .ok (.map (some W.heap.size)) (W.alloc (.map #[] 0)):=by
 simp[Instr.makeMap,run_underlying underlying294,asInt,asIntOf,newObj]
 rfl
theorem mX(w:World)(M:Nat)(es:Array MapEntry)(clock:Nat)(hr:w.heap[M]? =some (.map es clock))(s:Int)(hf:Instr.findNow (.int .i64) (.int .i64 s) es.toList 0=some none)(v:Value):
  (Instr.mapUpdate 294 (.map (some M)) (.int .i64 s) v).run prog w= .ok () (w.putObj M (.map (es.push ⟨.int .i64 s,v,clock⟩) (clock+1))):=by
 simp[Instr.mapUpdate,run_underlying underlying294,bX hr,bO false 9999 underlying182,bR underlying182 s es.toList hf,ny _ hr]
theorem BD.via{T:List Nat}{w0 w w':World}{l:List ai}(h:BD T w0 w l)(e:w=w'):BD T w0 w' l:=e▸h
theorem jW{Q:Exit->Act->World->Prop}{ex:Exit}{a:Act}{W:World}(h:∀w2,W=w2->Q ex a w2):Q ex a W:=h W rfl
theorem BD.G8{T:List Nat}{w0 w:World}{l:List ai}(h:BD T w0 w l)(i:Nat){b:Nat}{o:Obj}(hi:l[i]? =some (fZ b o)):w.heap[b]? =some o:=let ⟨_,h,_⟩:=h.get i hi;h.2
theorem BD.gq{T:List Nat}{w0 w:World}{l:List ai}(h:BD T w0 w l)(i:Nat){b:Nat}{o:Obj}(hi:l[i]? =some (fZ b o))(o':Obj):BD T w0 (w.putObj b o') (l.set i (fZ b o')):=by
 obtain⟨f,⟨hf,hb⟩,_,hs⟩:=h.step i hi;subst hf;exact hs _ (fZ b o') [b] ⟨rfl,World.putObj_heap_same (Array.getElem?_eq_some_iff.1 hb).1⟩ ⟨(Touch.refl _ w).putObj (.inr (by simp)) o',fun k hk=> .inl hk⟩
theorem BD.xK{T:List Nat}{w0 w:World}{l:List ai}(h:BD T w0 w l)(o:Obj):BD T w0 (w.alloc o) (l++[fZ w.heap.size o]):=
 h.new (t':=fZ w.heap.size o) (f':=[w.heap.size]) ⟨rfl,heap_alloc_new w _⟩ ⟨(Touch.refl [] w).alloc _,fun k hk=> .inr (by simp at hk;omega)⟩
theorem BD.xP{T:List Nat}{w0 w:World}{l:List ai}{c M q1 q2:Nat}{a:Int}(h:BD T w0 w l)(i j:Nat)(hi:l[i]? =some (Proofs.YtegejdlglonflaaGreatDoor.box c 296 #[a,.map (some M)]))(hj:l[j]? =some (fZ M (gW q1 q2))):jZ w c a M q1 q2:=⟨h.box i hi,h.G8 j hj⟩
def gB(c:Nat)(a:Int)(M q1 q2:Nat)(es1 es2:List ME):List ai:=[box c 296 #[a,.map (some M)],fZ M (gW q1 q2),aQ q1 es1,aQ q2 es2]
theorem open_c(T:List Nat)(w:World)(c b:Nat)(a:Int)(h:BD T w w [box c 296 #[a,.map none],box b 182 #[(1:Int),(2:Int)]]):
  Calls prog 216 #[c,.slice (some ⟨b,0,none⟩) 2 2] w fun e w'=>e= .returned (.tuple #[])/\∃M q1 q2,BD T w w' (gB c a M q1 q2 [] []):=by
 have BG:=hdq h;clear h;obtain⟨c0,c1,f0,f1,hl,_,_⟩:=BG.o.c2 0 rfl;have hmk:=rJ 2;go_enter func216,ntmps216
 have g1:=BG.o.c2 1 rfl;obtain⟨s0,s1,_,_,sl,_,_⟩:=g1;have hx1:c≠w.heap.size:=by omega
 have hx2:=Ne.symm hx1;go_wp2_with fail
 refine ay ?_;intro w1 hw1;have BB:=hdq (((BG.o.set 0 rfl 1 (.map (some w.heap.size))).xK (.map #[] 0)).via hw1);simp only[World.size_setCell,nAq,cAq,sZq,sAq,sSq]at BB;generalize hM:w.heap.size=M at BB|-;clear hw1 hM BG c0 c1 f0 f1 hl s0 s1 sl hmk hx1 hx2;go_loopw [14] (fun i wr=>(i= .int .i64 0/\Hid (BD T w wr [box c 296 #[a,.map (some M)],box b 182 #[(1:Int),(2:Int)],fZ M (.map #[] 0)]))\/
   (i= .int .i64 1/\∃q1,Hid (BD T w wr [box c 296 #[a,.map (some M)],box b 182 #[(1:Int),(2:Int)],fZ M (.map #[⟨.int .i64 1,.pointer (some ⟨q1,0,none⟩),0⟩] 1),aQ q1 []]))\/
   (i= .int .i64 2/\∃q1 q2,Hid (BD T w wr [box c 296 #[a,.map (some M)],box b 182 #[(1:Int),(2:Int)],fZ M (gW q1 q2),aQ q1 [],aQ q2 []]))) (fun i _=>2-(intOf i).toNat)
 case atStart=>exact .inl ⟨rfl,BB⟩
 case round=>
  clear BB;rcases hrel with ⟨rfl,HK⟩|⟨rfl,q1,HK⟩|⟨rfl,q1,q2,HK⟩
  .obtain⟨c0,c1,f0,f1,hl,_,_⟩:=HK.o.c2 0 rfl
   obtain⟨s0,s1,_,_,sl,_,_⟩:=HK.o.c2 1 rfl;go_wp2_with fail
   go_region_held3 (fun w'=>w'.cell? ⟨c,1,none⟩=some (.map (some M))) (go_keep) (first
    |(go_at_call 206;refine(Km _ HK.o.drew).mono ?_;rintro e w3 ⟨q1,rfl,hL⟩;have BF:=hdq hL;(simp only[nAq,cAq]at BF);clear hL c0 c1 f0 f1 hl;obtain⟨c0,c1,f0,f1,hl,_,_⟩:=BF.o.c2 0 rfl;have hmu:=mX w3 M #[] 0 (BF.o.G8 2 rfl) 1 rfl (.pointer (some ⟨q1,0,none⟩));have hk1:=(fun o=>((BF.o.gq 2 rfl o).c2 0 rfl).2.1);(simp only[List.push_toArray,nAq,Nat.reduceAdd]at hmu)))
   rename_i hHeld;clear hHeld hmu hk1 c0 c1 f0 f1 hl s0 s1 sl HK;refine jW ?_;intro w4 hw4;have BH:Hid (BD T w w4 [box c 296 #[a,.map (some M)],box b 182 #[(1:Int),(2:Int)],fZ M (.map #[⟨.int .i64 1,.pointer (some ⟨q1,0,none⟩),0⟩] 1),aQ q1 []]):=(BF.o.gq 2 rfl (.map #[⟨.int .i64 1,.pointer (some ⟨q1,0,none⟩),0⟩] 1)).via hw4;clear hw4 BF;go_wp2;go_roundw
   case rel=>exact .inr (.inl ⟨by go_num,q1,BH⟩)
   case measure=>simp[intOf]
  .obtain⟨c0,c1,f0,f1,hl,_,_⟩:=HK.o.c2 0 rfl
   obtain⟨s0,s1,_,_,sl,_,_⟩:=HK.o.c2 1 rfl;go_wp2_with fail
   go_region_held3 (fun w'=>w'.cell? ⟨c,1,none⟩=some (.map (some M))) (go_keep) (first
    |(go_at_call 206;refine(Km _ HK.o.drew).mono ?_;rintro e w3 ⟨q2,rfl,hL⟩;have BF:=hdq hL;(simp only[nAq,cAq]at BF);clear hL c0 c1 f0 f1 hl;obtain⟨c0,c1,f0,f1,hl,_,_⟩:=BF.o.c2 0 rfl;have hmu:=mX w3 M #[⟨.int .i64 1,.pointer (some ⟨q1,0,none⟩),0⟩] 1 (BF.o.G8 2 rfl) 2 rfl (.pointer (some ⟨q2,0,none⟩));have hk1:=(fun o=>((BF.o.gq 2 rfl o).c2 0 rfl).2.1);(simp only[List.push_toArray,nAq,cAq,Nat.reduceAdd]at hmu)))
   rename_i hHeld;clear hHeld hmu hk1 c0 c1 f0 f1 hl s0 s1 sl HK;refine jW ?_;intro w4 hw4;have BH:Hid (BD T w w4 [box c 296 #[a,.map (some M)],box b 182 #[(1:Int),(2:Int)],fZ M (gW q1 q2),aQ q1 [],aQ q2 []]):=(BF.o.gq 2 rfl (gW q1 q2)).via hw4;clear hw4 BF;go_wp2;go_roundw
   case rel=>exact .inr (.inr ⟨by go_num,q1,q2,BH⟩)
   case measure=>simp[intOf]
  .go_wp2
   go_end0
   exact⟨rfl,M,q1,q2,HK.o.sel [0,2,3,4] rfl (by decide)⟩
theorem BD.chNew{T:List Nat}{w0 w:World}{l:List ai}{g:Nat}{s:Ar}(h:BD T w0 w l)(i:Nat)(hi:l[i]? =some (arena g s))(hS:∀W,BD T w0 W (l.set i (arena g (s.au 1).1))->bJ W)(hok:s.C.length+1<=s.most):
  Calls prog 125 #[g] w fun e w'=>∃c M q1 q2,e= .returned (.tuple #[.pointer (some ⟨c,0,none⟩),()])/\BD T w0 w' (l.set i (arena g (s.au 1).1)++gB c (s.C.length:Int) M q1 q2 [] []):=by
 have hal:=h.ar i hi (fun fp hI=>oJ w g fp s hI);have e1:(s.au 1).2.1=s.C.length/\(s.au 1).2.2=0:=by unfold Ar.au;rw[if_neg (by omega),if_neg (by omega)];exact⟨rfl,rfl⟩
 rw[e1.1,e1.2]at hal;have HA:=hdq hal;clear hal e1 h hi;go_enter func125,ntmps125
 go_wp2;refine bT 0 rfl ?_;go_wp2_with fail
 refine HA.o.mono ?_;rintro e w1 ⟨rfl,hL⟩;have HL:=hdq hL;obtain⟨t0,t1⟩:=hS w1 hL;have tl:1<w1.heap.size:=World.block_lt_of_cell? _ _ t0;have tl1:1<w1.heap.size+1:=by omega
 clear hL HA;have hbc:∀W,(Instr.build 296 #[(0,.agg #[(s.C.length:Int)])]).run prog W= .ok (.agg #[(s.C.length:Int),.map none]) W:=fun W=>run_build W 296 _ _ (by kernel_rfl);have hbl:∀W,(Instr.build 293 #[(0,.int .i64 (s.C.length:Int))]).run prog W= .ok (.agg #[(s.C.length:Int)]) W:=fun W=>run_build W 293 _ _ (by kernel_rfl);go_wp2_with fail
 refine ah ?_;intro w2 hw2;have HL2:=hdq (((HL.o.alloc 296 #[(s.C.length:Int),.map none]).alloc 182 #[(1:Int),(2:Int)]).via hw2);simp only[World.size_alloc]at HL2;generalize hc:w1.heap.size=c at HL2|-;clear hw2 hc t0 t1 tl tl1 HL hbc hbl;have h2:BD T w0 w2 ([Proofs.YtegejdlglonflaaGreatDoor.box c 296 #[(s.C.length:Int),.map none],Proofs.YtegejdlglonflaaGreatDoor.box (c+1) 182 #[(1:Int),(2:Int)]]++l.set i (arena g (s.au 1).1)):=by
  have :=BD.aB (a:=[]) (b:=l.set i (arena g (s.au 1).1)) (c:=[Proofs.YtegejdlglonflaaGreatDoor.box c 296 #[(s.C.length:Int),.map none],Proofs.YtegejdlglonflaaGreatDoor.box (c+1) 182 #[(1:Int),(2:Int)]]) (by simpa using HL2.o);simpa using this
 obtain⟨T',hF,hb⟩:=h2.aN;refine(open_c T' w2 c (c+1) _ hF).mono ?_;rintro e w3 ⟨rfl,M,q1,q2,hL⟩;have BF:Hid (BD T w0 w3 (l.set i (arena g (s.au 1).1)++gB c (s.C.length:Int) M q1 q2 [] [])):=by
  have :=BD.aB (a:=[]) (b:=gB c (s.C.length:Int) M q1 q2 [] []) (c:=l.set i (arena g (s.au 1).1)) (by simpa using hb _ _ hL);simpa[Hid]using this
 clear hL hb hF h2 HL2;go_wp2;go_step3
 go_wp2;refine fO ?_;go_ret2
 exact⟨c,M,q1,q2,rfl,BF.o⟩
theorem BD.xA{T:List Nat}{w0 w:World}{l:List ai}{g:Nat}{s:Ar}(h:BD T w0 w l)(i:Nat)(hi:l[i]? =some (arena g s))(hok:¬s.C.length+1<=s.most):
  Calls prog 125 #[g] w fun e w'=>e= .returned (.tuple #[.pointer none,(6:Int)])/\BD T w0 w' (l.set i (arena g (s.au 1).1)):=by
 have hal:=h.ar i hi (fun fp hI=>oJ w g fp s hI);have hm:=(h.nP i hi).2.2;have e1:(s.au 1).2.1=0/\(s.au 1).2.2=6:=by unfold Ar.au;rw[if_neg (by omega),if_pos (by omega)];exact⟨rfl,rfl⟩
 rw[e1.1,e1.2]at hal;have HA:=hdq hal;clear hal e1 h hi;go_enter func125,ntmps125
 go_wp2;refine bT 0 rfl ?_;go_wp2_with fail
 refine HA.o.mono ?_;rintro e w1 ⟨rfl,hL⟩;have HL:=hdq hL;clear hL HA;go_wp2;go_step3
 refine⟨rfl,?_⟩;go_wp2;refine dO ?_;go_ret2
 exact⟨rfl,HL.o⟩
theorem try_l(w:World)(a:Int)(p:Option Addr)(R:World->Prop)(b:Bool)(er:Int)(hf:∀W,Touch [] w W->Calls prog 183 #[.pointer p,a] W fun e w'=>e= .returned (.tuple #[b,er])/\R w'):Calls prog 241 #[.agg #[a],.pointer p] w fun e w'=>e= .returned (.tuple #[b,er])/\R w':=by
 have HF:=hdq (hf _ ((Touch.refl [] w).alloc (.cells #[a] 293)));clear hf;go_enter func241,ntmps241
 go_wp2_with fail
 refine HF.o.mono ?_;rintro e w' ⟨rfl,hr⟩;have HR:=hdq hr;clear hr;go_wp2;go_ret2
 exact⟨rfl,HR.o⟩
theorem free_l(w:World)(a:Int)(p:Option Addr)(R:World->Prop)(er:Int)(hf:∀W,Touch [] w W->Calls prog 292 #[.pointer p,a] W fun e w'=>e= .returned (.int .i64 er)/\R w'):Calls prog 242 #[.agg #[a],.pointer p] w fun e w'=>e= .returned (.int .i64 er)/\R w':=by
 have HF:=hdq (hf _ ((Touch.refl [] w).alloc (.cells #[a] 293)));clear hf;go_enter func242,ntmps242
 go_wp2_with fail
 refine HF.o.mono ?_;rintro e w' ⟨rfl,hr⟩;have HR:=hdq hr;clear hr;go_wp2;go_ret
 exact⟨rfl,HR.o⟩
section
variable (w:World) (c:Nat) (a:Int) (M q1 q2:Nat) (hc:jZ w c a M q1 q2) (p:Option Addr) (R:World->Prop)
include hc
theorem Oe(b:Bool)(er:Int)(hf:∀W,Touch [] w W->Calls prog 183 #[.pointer p,a] W fun e w'=>e= .returned (.tuple #[b,er])/\R w'):Calls prog 154 #[c,.pointer p] w fun e w'=>e= .returned (.tuple #[b,er])/\R w':=by
 obtain⟨c0,c1,hl,hl1⟩:=hc.cells;have HC:=hdq hc;have HT:=hdq (try_l w a p R b er hf);clear hc hf;go_enter func154,ntmps154
 go_wp2_with fail
 refine(jC _ _ _ _ _ _ HC.o).mono ?_;rintro e w' ⟨rfl,rfl⟩;go_wp2_with fail
 refine HT.o.mono ?_;rintro e w' ⟨rfl,hr⟩;have HR:=hdq hr;clear hr;go_wp2;go_ret2
 exact⟨rfl,HR.o⟩
theorem Bl(er:Int)(hf:∀W,Touch [] w W->Calls prog 292 #[.pointer p,a] W fun e w'=>e= .returned (.int .i64 er)/\R w'):Calls prog 158 #[c,.pointer p] w fun e w'=>e= .returned (.int .i64 er)/\R w':=by
 obtain⟨c0,c1,hl,hl1⟩:=hc.cells;have HC:=hdq hc;have HT:=hdq (free_l w a p R er hf);clear hc hf;go_enter func158,ntmps158
 go_wp2_with fail
 refine(jC _ _ _ _ _ _ HC.o).mono ?_;rintro e w' ⟨rfl,rfl⟩;go_wp2_with fail
 refine HT.o.mono ?_;rintro e w' ⟨rfl,hr⟩;have HR:=hdq hr;clear hr;go_wp2;go_ret
 exact⟨rfl,HR.o⟩
end
section
variable {T:List Nat} {w0 w:World} {l:List ai} {g c M q1 q2:Nat} {a:Int} {s:Ar}
theorem BD.chLock(h:BD T w0 w l)(i:Nat)(hi:l[i]? =some (arena g s))(hc:jZ w c a M q1 q2)(hn:s.L.length<4611686018427387904):
  Calls prog 154 #[c,g] w fun e w'=>e= .returned (.tuple #[.bool (s.swap a 0 1).2.1.did,.int .i64 ((s.swap a 0 1).2.2:Int)])/\BD T w0 w' (l.set i (arena g (s.swap a 0 1).1)):=
 Oe w c a M q1 q2 hc _ (fun w'=>BD T w0 w' (l.set i (arena g (s.swap a 0 1).1))) _ _ (fun W hW=>(h.touch hW).ar i hi (fun fp hI=>zC W g fp s hI a hn))
theorem BD.Jm(h:BD T w0 w l)(i:Nat)(hi:l[i]? =some (arena g s))(hc:jZ w c a M q1 q2)(hn:s.L.length<4611686018427387904):
  Calls prog 158 #[c,g] w fun e w'=>e= .returned (.int .i64 (s.wH a:Int))/\BD T w0 w' (l.set i (arena g (s.swap a 1 0).1)):=
 Bl w c a M q1 q2 hc _ (fun w'=>BD T w0 w' (l.set i (arena g (s.swap a 1 0).1))) _ (fun W hW=>(h.touch hW).ar i hi (fun fp hI=>uW W g fp s hI a hn))
end
end Go.Proofs.YtegejdlglonflaaGreatDoor
