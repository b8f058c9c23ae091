/-
  Texts of FirePlays, laid together by program.
-/
import Derived.Test.YtegejdlglonflaaGreatDoorWZ13
import Derived.Test.YtegejdlglonflaaGreatDoorWZ17
namespace Go.Proofs.YtegejdlglonflaaGreatDoor
open Go.RowKit Go.Shelf Go.Proofs.Tryz
set_option maxRecDepth 100000
set_option maxHeartbeats 8000000
set_option linter.unusedVariables false
set_option linter.unusedSimpArgs false
def Fe(w:World)(b g:Nat)(v1 v2 v3:Value):Prop:=w.cell? ⟨b,0,none⟩=some (.pointer (some ⟨g,0,none⟩))/\w.cell? ⟨b,1,none⟩=some v1/\w.cell? ⟨b,2,none⟩=some v2/\w.cell? ⟨b,3,none⟩=some v3
theorem Fe.touch{w w':World}{b g:Nat}{v1 v2 v3:Value}(h:Fe w b g v1 v2 v3)(ht:Touch [] w w'):Fe w' b g v1 v2 v3:=⟨ht.cellOf h.1,ht.cellOf h.2.1,ht.cellOf h.2.2.1,ht.cellOf h.2.2.2⟩
theorem Fe.lt{w:World}{b g:Nat}{v1 v2 v3:Value}(h:Fe w b g v1 v2 v3):b<w.heap.size:=World.block_lt_of_cell? _ _ h.1
theorem dG(w:World)(b g:Nat)(v1 v2 v3:Value)(h:Fe w b g v1 v2 v3):Calls prog 96 #[b] w fun e w'=>e= .returned (.bool false)/\w=w':=by
 have hl:=h.lt;obtain⟨h0,h1,h2,h3⟩:=h;clear h1 h2 h3;go_enter func96,ntmps96
 go_wp2;go_ret
 exact⟨rfl,rfl⟩
theorem rQ(w:World)(b g bw:Nat)(v1 v2 v3:Value)(h:Fe w b g v1 v2 v3)(hb:w.cell? ⟨bw,0,none⟩=some (.pointer (some ⟨b,0,none⟩)))(a:Option Addr)(m c:Nat)(hv:v3= .slice a m c):Calls prog 164 #[bw] w fun e w'=>e= .returned (.slice a m c)/\w=w':=by
 have hl:=h.lt;have hbl:bw<w.heap.size:=World.block_lt_of_cell? _ _ hb;subst hv;obtain⟨h0,h1,h2,h3⟩:=h;go_enter func164,ntmps164
 go_wp2;go_ret
 exact⟨rfl,rfl⟩
theorem uF(w:World)(b g bw:Nat)(v1 v2 v3:Value)(h:Fe w b g v1 v2 v3)(hb:w.cell? ⟨bw,0,none⟩=some (.pointer (some ⟨b,0,none⟩)))(bb o m c:Nat)(hv:v3= .slice (some ⟨bb,o,none⟩) m c)(k:Nat)(hk:k<m):
  Calls prog 163 #[b,(k:Int),.func (.func 164) #[] #[bw]] w fun e w'=>e= .returned (.pointer (some ⟨bb,o+k*11,none⟩))/\w=w':=by
 have HN:=hdq (dG w b g v1 v2 v3 h);have JS:=hdq (rQ w b g bw v1 v2 v3 h hb _ m c hv);have hk0:(0:Int)<=(k:Int):=by omega
 have hk1:(k:Int)<(m:Int):=by omega
 clear h hb hv;go_enter func163,ntmps163
 go_wp2_with fail
 refine HN.o.mono ?_;rintro e w' ⟨rfl,rfl⟩;go_wp2_with fail
 refine(require_ok _ _).mono ?_;rintro e w' ⟨rfl,rfl⟩;go_wp2_with fail
 refine JS.o.mono ?_;rintro e w' ⟨rfl,rfl⟩;go_wp2_with fail
 refine(require_ok _ _).mono ?_;rintro e w' ⟨rfl,rfl⟩;dsimp only;go_wp2;go_ret
 exact⟨rfl,rfl⟩
theorem rq(w:World)(b g bw:Nat)(v1 v2 v3:Value)(h:Fe w b g v1 v2 v3)(hb:w.cell? ⟨bw,0,none⟩=some (.pointer (some ⟨b,0,none⟩)))(a:Option Addr)(m c:Nat)(hv:v3= .slice a m c)(k:Int)(hk:¬(0<=k/\k<(m:Int))):
  Calls prog 163 #[b,k,.func (.func 164) #[] #[bw]] w fun e w'=>e= .panicked (aX 4)/\w=w':=by
 have HN:=hdq (dG w b g v1 v2 v3 h);have JS:=hdq (rQ w b g bw v1 v2 v3 h hb a m c hv);clear h hb hv;go_enter func163,ntmps163
 go_wp2_with fail
 refine HN.o.mono ?_;rintro e w' ⟨rfl,rfl⟩;go_wp2_with fail
 refine(require_ok _ _).mono ?_;rintro e w' ⟨rfl,rfl⟩;go_wp2_with fail
 refine JS.o.mono ?_;rintro e w' ⟨rfl,rfl⟩;by_cases hk0:0<=k
 .have hk2:¬k<(m:Int):=fun h=>hk ⟨hk0,h⟩
  have hd2:decide (k<(m:Int))=false:=by simpa using hk2
  have hd3:decide (0<=k)=true:=by simpa using hk0
  clear hk;go_wp2_with fail
  refine(aY _ _).mono ?_;rintro e w' ⟨rfl,rfl⟩;dsimp only;exact⟨rfl,rfl,rfl⟩
 .have hd3:decide (0<=k)=false:=by simpa using hk0
  clear hk;go_wp2_with fail
  refine(aY _ _).mono ?_;rintro e w' ⟨rfl,rfl⟩;dsimp only;exact⟨rfl,rfl,rfl⟩
theorem rO(w:World)(b g bw:Nat)(v1 v2 v3:Value)(h:Fe w b g v1 v2 v3)(hb:w.cell? ⟨bw,0,none⟩=some (.pointer (some ⟨b,0,none⟩)))(a:Option Addr)(m c:Nat)(hv:v2= .slice a m c):Calls prog 177 #[bw] w fun e w'=>e= .returned (.slice a m c)/\w=w':=by
 have hl:=h.lt;have hbl:bw<w.heap.size:=World.block_lt_of_cell? _ _ hb;subst hv;obtain⟨h0,h1,h2,h3⟩:=h;go_enter func177,ntmps177
 go_wp2;go_ret
 exact⟨rfl,rfl⟩
theorem tY(w:World)(b g bw:Nat)(v1 v2 v3:Value)(h:Fe w b g v1 v2 v3)(hb:w.cell? ⟨bw,0,none⟩=some (.pointer (some ⟨b,0,none⟩)))(bb o m c:Nat)(hv:v2= .slice (some ⟨bb,o,none⟩) m c)(k:Nat)(hk:k<m):
  Calls prog 176 #[b,(k:Int),.func (.func 177) #[] #[bw]] w fun e w'=>e= .returned (.pointer (some ⟨bb,o+k,none⟩))/\w=w':=by
 have HN:=hdq (dG w b g v1 v2 v3 h);have JS:=hdq (rO w b g bw v1 v2 v3 h hb _ m c hv);have hk0:(0:Int)<=(k:Int):=by omega
 have hk1:(k:Int)<(m:Int):=by omega
 clear h hb hv;go_enter func176,ntmps176
 go_wp2_with fail
 refine HN.o.mono ?_;rintro e w' ⟨rfl,rfl⟩;go_wp2_with fail
 refine(require_ok _ _).mono ?_;rintro e w' ⟨rfl,rfl⟩;go_wp2_with fail
 refine JS.o.mono ?_;rintro e w' ⟨rfl,rfl⟩;go_wp2_with fail
 refine(require_ok _ _).mono ?_;rintro e w' ⟨rfl,rfl⟩;dsimp only;go_wp2;go_ret
 exact⟨rfl,rfl⟩
theorem ru(w:World)(b g bw:Nat)(v1 v2 v3:Value)(h:Fe w b g v1 v2 v3)(hb:w.cell? ⟨bw,0,none⟩=some (.pointer (some ⟨b,0,none⟩)))(a:Option Addr)(m c:Nat)(hv:v2= .slice a m c)(k:Int)(hk:¬(0<=k/\k<(m:Int))):
  Calls prog 176 #[b,k,.func (.func 177) #[] #[bw]] w fun e w'=>e= .panicked (aX 4)/\w=w':=by
 have HN:=hdq (dG w b g v1 v2 v3 h);have JS:=hdq (rO w b g bw v1 v2 v3 h hb a m c hv);clear h hb hv;go_enter func176,ntmps176
 go_wp2_with fail
 refine HN.o.mono ?_;rintro e w' ⟨rfl,rfl⟩;go_wp2_with fail
 refine(require_ok _ _).mono ?_;rintro e w' ⟨rfl,rfl⟩;go_wp2_with fail
 refine JS.o.mono ?_;rintro e w' ⟨rfl,rfl⟩;by_cases hk0:0<=k
 .have hk2:¬k<(m:Int):=fun h=>hk ⟨hk0,h⟩
  have hd2:decide (k<(m:Int))=false:=by simpa using hk2
  have hd3:decide (0<=k)=true:=by simpa using hk0
  clear hk;go_wp2_with fail
  refine(aY _ _).mono ?_;rintro e w' ⟨rfl,rfl⟩;dsimp only;exact⟨rfl,rfl,rfl⟩
 .have hd3:decide (0<=k)=false:=by simpa using hk0
  clear hk;go_wp2_with fail
  refine(aY _ _).mono ?_;rintro e w' ⟨rfl,rfl⟩;dsimp only;exact⟨rfl,rfl,rfl⟩
theorem sJ(w:World)(b g bw:Nat)(v1 v2 v3:Value)(h:Fe w b g v1 v2 v3)(hb:w.cell? ⟨bw,0,none⟩=some (.pointer (some ⟨b,0,none⟩)))(a:Option Addr)(m c:Nat)(hv:v1= .slice a m c):Calls prog 240 #[bw] w fun e w'=>e= .returned (.slice a m c)/\w=w':=by
 have hl:=h.lt;have hbl:bw<w.heap.size:=World.block_lt_of_cell? _ _ hb;subst hv;obtain⟨h0,h1,h2,h3⟩:=h;go_enter func240,ntmps240
 go_wp2;go_ret
 exact⟨rfl,rfl⟩
theorem um(w:World)(b g bw:Nat)(v1 v2 v3:Value)(h:Fe w b g v1 v2 v3)(hb:w.cell? ⟨bw,0,none⟩=some (.pointer (some ⟨b,0,none⟩)))(bb o m c:Nat)(hv:v1= .slice (some ⟨bb,o,none⟩) m c)(k:Nat)(hk:k<m):
  Calls prog 239 #[b,(k:Int),.func (.func 240) #[] #[bw]] w fun e w'=>e= .returned (.pointer (some ⟨bb,o+k,none⟩))/\w=w':=by
 have HN:=hdq (dG w b g v1 v2 v3 h);have JS:=hdq (sJ w b g bw v1 v2 v3 h hb _ m c hv);have hk0:(0:Int)<=(k:Int):=by omega
 have hk1:(k:Int)<(m:Int):=by omega
 clear h hb hv;go_enter func239,ntmps239
 go_wp2_with fail
 refine HN.o.mono ?_;rintro e w' ⟨rfl,rfl⟩;go_wp2_with fail
 refine(require_ok _ _).mono ?_;rintro e w' ⟨rfl,rfl⟩;go_wp2_with fail
 refine JS.o.mono ?_;rintro e w' ⟨rfl,rfl⟩;go_wp2_with fail
 refine(require_ok _ _).mono ?_;rintro e w' ⟨rfl,rfl⟩;dsimp only;go_wp2;go_ret
 exact⟨rfl,rfl⟩
theorem rC(w:World)(b g bw:Nat)(v1 v2 v3:Value)(h:Fe w b g v1 v2 v3)(hb:w.cell? ⟨bw,0,none⟩=some (.pointer (some ⟨b,0,none⟩)))(a:Option Addr)(m c:Nat)(hv:v1= .slice a m c)(k:Int)(hk:¬(0<=k/\k<(m:Int))):
  Calls prog 239 #[b,k,.func (.func 240) #[] #[bw]] w fun e w'=>e= .panicked (aX 4)/\w=w':=by
 have HN:=hdq (dG w b g v1 v2 v3 h);have JS:=hdq (sJ w b g bw v1 v2 v3 h hb a m c hv);clear h hb hv;go_enter func239,ntmps239
 go_wp2_with fail
 refine HN.o.mono ?_;rintro e w' ⟨rfl,rfl⟩;go_wp2_with fail
 refine(require_ok _ _).mono ?_;rintro e w' ⟨rfl,rfl⟩;go_wp2_with fail
 refine JS.o.mono ?_;rintro e w' ⟨rfl,rfl⟩;by_cases hk0:0<=k
 .have hk2:¬k<(m:Int):=fun h=>hk ⟨hk0,h⟩
  have hd2:decide (k<(m:Int))=false:=by simpa using hk2
  have hd3:decide (0<=k)=true:=by simpa using hk0
  clear hk;go_wp2_with fail
  refine(aY _ _).mono ?_;rintro e w' ⟨rfl,rfl⟩;dsimp only;exact⟨rfl,rfl,rfl⟩
 .have hd3:decide (0<=k)=false:=by simpa using hk0
  clear hk;go_wp2_with fail
  refine(aY _ _).mono ?_;rintro e w' ⟨rfl,rfl⟩;dsimp only;exact⟨rfl,rfl,rfl⟩
def NoQ(W:World)(p:Option Addr):Prop:=p=none\/∃g,p=some ⟨g,0,none⟩/\W.cell? ⟨g,0,none⟩=some (.bool false)
theorem NoQ.touch{w w':World}{p:Option Addr}(h:NoQ w p)(ht:Touch [] w w'):NoQ w' p:=by
 rcases h with h|⟨g,h1,h2⟩
 .exact .inl h
 .exact .inr ⟨g,h1,ht.cellOf h2⟩
theorem none_n(w:World)(p:Option Addr)(h:NoQ w p):Calls prog 258 #[.pointer p] w fun e w'=>e= .returned (.bool true)/\w=w':=by
 rcases h with rfl|⟨g,rfl,h⟩
 .exact XG w
 .exact WT g w h
theorem All_n(w:World)(p:Option Addr)(h:NoQ w p):Calls prog 300 #[.pointer p] w fun e w'=>∃bx,e= .returned (.func (.func 307) #[] #[.pointer (some ⟨bx,0,none⟩)])/\BD [] w w' [allT bx (.slice none 0 0) []]:=by
 have HN:=hdq (fun W (hW:Touch [] w W)=>none_n W p (h.touch hW));clear h;go_enter func300,ntmps300
 go_wp2_with fail
 refine ah ?_;intro w1 hw1;have BB:=hdq (((BD.nil' w).DN hw1).gK 65 7).yS;simp only[nAq,cAq]at BB;generalize hb3:w.heap.size=b3 at BB|-;clear hb3 hw1;refine(HN.o _ BB.o.BN).mono ?_;rintro e w' ⟨rfl,rfl⟩;go_wp2;go_ret
 exact⟨b3,rfl,BD.shutAll (l:=[]) (ys:=[]) rfl BB.o⟩
theorem uR(w:World)(b g:Nat)(v1 v2 v3:Value)(h:Fe w b g v1 v2 v3)(bb o m c:Nat)(hv:v1= .slice (some ⟨bb,o,none⟩) m c)(k:Nat)(hk:k<m)(p:Nat)(hp:w.cell? ⟨bb,o+k,none⟩=some (.pointer (some ⟨p,0,none⟩))):
  Calls prog 153 #[b,(k:Int)] w fun e w'=>e= .returned (.pointer (some ⟨p,0,none⟩))/\Touch [] w w':=by
 have HF:=hdq (fun W bw (hW:Touch [] w W) (hb:W.cell? ⟨bw,0,none⟩=some (.pointer (some ⟨b,0,none⟩)))=>um W b g bw v1 v2 v3 (h.touch hW) hb bb o m c hv k hk);have HT:=hdq ((Touch.refl [] w).alloc (.cells #[b] 48));have HP:=hdq (HT.o.cellOf hp);have Ep:= @mfq;have hbl:bb<w.heap.size:=World.block_lt_of_cell? _ _ hp;clear h hv;go_enter func153,ntmps153
 go_wp2_with fail
 refine(HF.o _ _ HT.o ?_).mono ?_
 .simp[go_sem]
 rintro e w' ⟨rfl,rfl⟩;have hp2:=HP.o;go_wp2;go_ret
 exact⟨rfl,HT.o⟩
theorem tF(w:World)(b g:Nat)(v1 v2 v3:Value)(h:Fe w b g v1 v2 v3)(a:Option Addr)(m c:Nat)(hv:v1= .slice a m c)(k:Int)(hk:¬(0<=k/\k<(m:Int))):
  Calls prog 153 #[b,k] w fun e w'=>e= .panicked (aX 4)/\Touch [] w w':=by
 have HF:=hdq (fun W bw (hW:Touch [] w W) (hb:W.cell? ⟨bw,0,none⟩=some (.pointer (some ⟨b,0,none⟩)))=>rC W b g bw v1 v2 v3 (h.touch hW) hb a m c hv k hk);have HT:=hdq ((Touch.refl [] w).alloc (.cells #[b] 48));have Ep:= @mfq;clear h hv hk;go_enter func153,ntmps153
 go_wp2_with fail
 refine(HF.o _ _ HT.o ?_).mono ?_
 .simp[go_sem]
 rintro e w' ⟨rfl,rfl⟩;dsimp only;exact⟨rfl,rfl,HT.o⟩
theorem wD(w:World)(b g:Nat)(v1 v2 v3:Value)(h:Fe w b g v1 v2 v3)(bb o m c:Nat)(hv:v2= .slice (some ⟨bb,o,none⟩) m c)(k:Nat)(hk:k<m)(p:Nat)(hp:w.cell? ⟨bb,o+k,none⟩=some (.pointer (some ⟨p,0,none⟩))):
  Calls prog 76 #[b,(k:Int)] w fun e w'=>e= .returned (.pointer (some ⟨p,0,none⟩))/\Touch [] w w':=by
 have HF:=hdq (fun W bw (hW:Touch [] w W) (hb:W.cell? ⟨bw,0,none⟩=some (.pointer (some ⟨b,0,none⟩)))=>tY W b g bw v1 v2 v3 (h.touch hW) hb bb o m c hv k hk);have HT:=hdq ((Touch.refl [] w).alloc (.cells #[b] 48));have HP:=hdq (HT.o.cellOf hp);have Ep:= @mfq;have hbl:bb<w.heap.size:=World.block_lt_of_cell? _ _ hp;clear h hv;go_enter func76,ntmps76
 go_wp2_with fail
 refine(HF.o _ _ HT.o ?_).mono ?_
 .simp[go_sem]
 rintro e w' ⟨rfl,rfl⟩;have hp2:=HP.o;go_wp2;go_ret
 exact⟨rfl,HT.o⟩
theorem tu(w:World)(b g:Nat)(v1 v2 v3:Value)(h:Fe w b g v1 v2 v3)(a:Option Addr)(m c:Nat)(hv:v2= .slice a m c)(k:Int)(hk:¬(0<=k/\k<(m:Int))):
  Calls prog 76 #[b,k] w fun e w'=>e= .panicked (aX 4)/\Touch [] w w':=by
 have HF:=hdq (fun W bw (hW:Touch [] w W) (hb:W.cell? ⟨bw,0,none⟩=some (.pointer (some ⟨b,0,none⟩)))=>ru W b g bw v1 v2 v3 (h.touch hW) hb a m c hv k hk);have HT:=hdq ((Touch.refl [] w).alloc (.cells #[b] 48));have Ep:= @mfq;clear h hv hk;go_enter func76,ntmps76
 go_wp2_with fail
 refine(HF.o _ _ HT.o ?_).mono ?_
 .simp[go_sem]
 rintro e w' ⟨rfl,rfl⟩;dsimp only;exact⟨rfl,rfl,HT.o⟩
theorem vV(w:World)(b g:Nat)(v1 v2 v3:Value)(h:Fe w b g v1 v2 v3)(bb o m c:Nat)(hv:v3= .slice (some ⟨bb,o,none⟩) m c)(k:Nat)(hk:k<m):
  Calls prog 64 #[b,(k:Int)] w fun e w'=>e= .returned (.pointer (some ⟨bb,o+k*11,none⟩))/\Touch [] w w':=by
 have HF:=hdq (fun W bw (hW:Touch [] w W) (hb:W.cell? ⟨bw,0,none⟩=some (.pointer (some ⟨b,0,none⟩)))=>uF W b g bw v1 v2 v3 (h.touch hW) hb bb o m c hv k hk);have HT:=hdq ((Touch.refl [] w).alloc (.cells #[b] 48));have Ep:= @mfq;clear h hv;go_enter func64,ntmps64
 go_wp2_with fail
 refine(HF.o _ _ HT.o ?_).mono ?_
 .simp[go_sem]
 rintro e w' ⟨rfl,rfl⟩;go_wp2;go_ret
 exact⟨rfl,HT.o⟩
theorem tq(w:World)(b g:Nat)(v1 v2 v3:Value)(h:Fe w b g v1 v2 v3)(a:Option Addr)(m c:Nat)(hv:v3= .slice a m c)(k:Int)(hk:¬(0<=k/\k<(m:Int))):
  Calls prog 64 #[b,k] w fun e w'=>e= .panicked (aX 4)/\Touch [] w w':=by
 have HF:=hdq (fun W bw (hW:Touch [] w W) (hb:W.cell? ⟨bw,0,none⟩=some (.pointer (some ⟨b,0,none⟩)))=>rq W b g bw v1 v2 v3 (h.touch hW) hb a m c hv k hk);have HT:=hdq ((Touch.refl [] w).alloc (.cells #[b] 48));have Ep:= @mfq;clear h hv hk;go_enter func64,ntmps64
 go_wp2_with fail
 refine(HF.o _ _ HT.o ?_).mono ?_
 .simp[go_sem]
 rintro e w' ⟨rfl,rfl⟩;dsimp only;exact⟨rfl,rfl,HT.o⟩
theorem yg(w:World)(v:Int):Calls prog 112 #[v,()] w fun e w'=>e= .returned (.int .i64 v)/\w=w':=by
 go_enter func112,ntmps112
 go_wp2_with fail
 refine(require_ok _ _).mono ?_;rintro e w' ⟨rfl,rfl⟩;dsimp only;go_wp2;go_ret
 exact⟨rfl,rfl⟩
theorem vK(w:World)(v:Int)(er:Int)(her:er≠0):Calls prog 112 #[v,er] w fun e w'=>e= .panicked (aX er)/\w=w':=by
 have hb:(er==0)=false:=by simpa using her
 go_enter func112,ntmps112
 go_wp2_with fail
 refine(aY _ _).mono ?_;rintro e w' ⟨rfl,rfl⟩;dsimp only;exact⟨rfl,rfl,rfl⟩
theorem jf(w:World)(v:Int):Calls prog 120 #[v,()] w fun e w'=>e= .returned (.int .i64 v)/\w=w':=by
 go_enter func120,ntmps120
 go_wp2_with fail
 refine(require_ok _ _).mono ?_;rintro e w' ⟨rfl,rfl⟩;dsimp only;go_wp2;go_ret
 exact⟨rfl,rfl⟩
theorem iN(w:World)(v:Int)(er:Int)(her:er≠0):Calls prog 120 #[v,er] w fun e w'=>e= .panicked (aX er)/\w=w':=by
 have hb:(er==0)=false:=by simpa using her
 go_enter func120,ntmps120
 go_wp2_with fail
 refine(aY _ _).mono ?_;rintro e w' ⟨rfl,rfl⟩;dsimp only;exact⟨rfl,rfl,rfl⟩
theorem kX(w:World)(v:Bool):Calls prog 75 #[v,()] w fun e w'=>e= .returned (.bool v)/\w=w':=by
 go_enter func75,ntmps75
 go_wp2_with fail
 refine(require_ok _ _).mono ?_;rintro e w' ⟨rfl,rfl⟩;dsimp only;go_wp2;go_ret
 exact⟨rfl,rfl⟩
theorem jX(w:World)(v:Bool)(er:Int)(her:er≠0):Calls prog 75 #[v,er] w fun e w'=>e= .panicked (aX er)/\w=w':=by
 have hb:(er==0)=false:=by simpa using her
 go_enter func75,ntmps75
 go_wp2_with fail
 refine(aY _ _).mono ?_;rintro e w' ⟨rfl,rfl⟩;dsimp only;exact⟨rfl,rfl,rfl⟩
theorem lI(w:World)(v:Option Addr):Calls prog 124 #[.pointer v,()] w fun e w'=>e= .returned (.pointer v)/\w=w':=by
 go_enter func124,ntmps124
 go_wp2_with fail
 refine(require_ok _ _).mono ?_;rintro e w' ⟨rfl,rfl⟩;dsimp only;go_wp2;go_ret
 exact⟨rfl,rfl⟩
theorem kg(w:World)(v:Option Addr)(er:Int)(her:er≠0):Calls prog 124 #[.pointer v,er] w fun e w'=>e= .panicked (aX er)/\w=w':=by
 have hb:(er==0)=false:=by simpa using her
 go_enter func124,ntmps124
 go_wp2_with fail
 refine(aY _ _).mono ?_;rintro e w' ⟨rfl,rfl⟩;dsimp only;exact⟨rfl,rfl,rfl⟩
theorem lm(w:World)(v:Option Addr):Calls prog 107 #[.pointer v,()] w fun e w'=>e= .returned (.pointer v)/\w=w':=by
 go_enter func107,ntmps107
 go_wp2_with fail
 refine(require_ok _ _).mono ?_;rintro e w' ⟨rfl,rfl⟩;dsimp only;go_wp2;go_ret
 exact⟨rfl,rfl⟩
theorem ku(w:World)(v:Option Addr)(er:Int)(her:er≠0):Calls prog 107 #[.pointer v,er] w fun e w'=>e= .panicked (aX er)/\w=w':=by
 have hb:(er==0)=false:=by simpa using her
 go_enter func107,ntmps107
 go_wp2_with fail
 refine(aY _ _).mono ?_;rintro e w' ⟨rfl,rfl⟩;dsimp only;exact⟨rfl,rfl,rfl⟩
end Go.Proofs.YtegejdlglonflaaGreatDoor
