/-
  Texts of WorldCopies, laid together by program.
-/
import Derived.Test.YtddnnapoaonmjaaGreatDoorWZ20
import Derived.Test.YtddnnapoaonmjaaGreatDoorWZ22
namespace Go.Proofs.YtddnnapoaonmjaaGreatDoor
open Go.RowKit Go.Shelf Go.Proofs.Tryz
set_option maxRecDepth 100000
set_option maxHeartbeats 8000000
set_option linter.unusedVariables false
set_option linter.unusedSimpArgs false
def bD(W:World)(es:List ME):Prop:=∀e∈es,e.v.In W/\e.v.nodes<=256
def WS.fD(x:WS)(W:World):Prop:=(∀c∈x.BI,bD W c.es1/\bD W c.es2)/\∀c∈x.cos,bD W c.es
def WS.knows(x:WS)(Q:World->Prop):WS:={x with P:=fun W=>x.P W/\Q W}
section
variable {T:List Nat} {w0 w w':World} {x:WS} {r0:List ai}
theorem BD.IB(h:BD T w0 w (x.ts++r0))(ht:Touch [] w w')(vs:List MT)(hin:∀t∈vs,t.In w')(hn:∀t∈vs,∀k∈t.blocks,w.heap.size<=k):BD T w0 w' ((x.knows (fun W=>∀t∈vs,t.In W)).ts++r0):=
 (h.gH ht hin hn).settle 2 rfl (fun W f hp hv=>⟨hp,hv.2⟩)
theorem BD.YL(h:BD T w0 w (x.ts++r0))(k:Nat)(hk:k<x.BI.length):Kk w x.BI[k].q1 x.BI[k].es1/\Kk w x.BI[k].q2 x.BI[k].es2:=
 ⟨h.qAt (6+(4*k+2)) (x.kW r0 k hk 2 (by omega)),h.qAt (6+(4*k+3)) (x.kW r0 k hk 3 (by omega))⟩
theorem BD.wLook1(h:BD T w0 w (x.ts++r0))(hv:∀W,x.P W->x.fD W)(k:Nat)(hk:k<x.BI.length)(i:Int):
  Calls prog 101 #[.pointer (some ⟨x.BI[k].c,0,none⟩),(1:Int),i] w fun e w'=>∃y b,e= .returned (.tuple #[y.val,.bool b])/\AtR (x.BI[k].es1.map ME.plain) i y b/\BD T w0 w' ((x.knows (fun W=>∀t∈[y.v],t.In W)).ts++r0):=by
 have hin:=(hv w (h.still 2 rfl)).1 x.BI[k] (List.getElem_mem hk);refine(zh w _ _ _ _ _ (h.oM k hk) 1 x.BI[k].q1 x.BI[k].es1 i rfl (h.YL k hk).1 hin.1).mono ?_;rintro e w' ⟨y,b,rfl,hR,hy,hb,ht⟩;exact⟨y,b,rfl,hR,h.IB ht [y.v] (by simpa using hy) (by simpa using hb)⟩
theorem BD.wLook2(h:BD T w0 w (x.ts++r0))(hv:∀W,x.P W->x.fD W)(k:Nat)(hk:k<x.BI.length)(i:Int):
  Calls prog 101 #[.pointer (some ⟨x.BI[k].c,0,none⟩),(2:Int),i] w fun e w'=>∃y b,e= .returned (.tuple #[y.val,.bool b])/\AtR (x.BI[k].es2.map ME.plain) i y b/\BD T w0 w' ((x.knows (fun W=>∀t∈[y.v],t.In W)).ts++r0):=by
 have hin:=(hv w (h.still 2 rfl)).1 x.BI[k] (List.getElem_mem hk);refine(zh w _ _ _ _ _ (h.oM k hk) 2 x.BI[k].q2 x.BI[k].es2 i rfl (h.YL k hk).2 hin.2).mono ?_;rintro e w' ⟨y,b,rfl,hR,hy,hb,ht⟩;exact⟨y,b,rfl,hR,h.IB ht [y.v] (by simpa using hy) (by simpa using hb)⟩
end
def j4(x:WS)(k s i:Int)(v:aL)(er:Int)(x':WS):Prop:=
 (¬(s=1\/s=2)/\v=aL.zero/\er=2/\x'=x)\/((s=1\/s=2)/\¬(0<=k/\k<(x.BI.length:Int))/\v=aL.zero/\er=4/\x'=x)\/
 ∃(n:Nat) (hn:n<x.BI.length) (y:ME) (b:Bool),k=(n:Int)/\er=0/\v=aL.of y b/\
  ((s=1/\AtR (x.BI[n].es1.map ME.plain) i y b/\x'=x.knows (fun W=>∀t∈[y.v],t.In W))\/
  (s=2/\AtR (x.BI[n].es2.map ME.plain) i y b/\x'=x.knows (fun W=>∀t∈[y.v],t.In W)))
def Az(T:List Nat)(w:World)(x:WS)(k s i:Int)(b4 b5 b6 b7:Nat)(en:Ending)(w':World):Prop:=∃(v:aL) (er:Int) (x':WS),j4 x k s i v er x'/\((er=0/\en= .returned v.val)\/(v=aL.zero/\en= .panicked (aX er)))/\BD T w w' (x'.ts++bV x k s i b4 b5 b6 b7)
theorem Me(T:List Nat)(w:World)(x:WS)(b4 b5 b6 b7:Nat)(k s i:Int)(h:BD T w w (x.ts++bV x k s i b4 b5 b6 b7))(hS:∀W,x.P W->bJ W)(hv:∀W,x.P W->x.fD W):
  Calls prog 99 #[b4,b5,b6,b7] w (Az T w x k s i b4 b5 b6 b7):=by
 have BG:=hdq h;have HS:=hdq hS;have HQ:=hdq hv;go_enter func99,ntmps99
 go_upto_region 1 with fail
 refine ay ?_;intro w1 hw1;have BB:Hid (BD T w w1 (x.ts++(bV x k s i b4 b5 b6 b7++[jm w.heap.size]))):=by
  have h1:=BG.o.DN hw1;rw[List.append_assoc]at h1;exact h1
 generalize hbf:w.heap.size=bf at BB|-;obtain⟨⟨p0,q0,s0,i0⟩,z4,z5,z6,z7⟩:=BB.o.bV;by_cases hs:s=1\/s=2
 .by_cases hk:0<=k/\k<(x.BI.length:Int)
  .obtain⟨n,rfl⟩:=Int.eq_ofNat_of_zero_le hk.1
   have hnk:n<x.BI.length:=by omega
   rcases hs with rfl|rfl
   .skip
    have HC:=hdq (fun W (hW:Touch [] w1 W)=>(BB.o.touch hW).sj (HS.o _ ((BB.o.touch hW).still 2 rfl)) 1 (by decide) n hnk);have CV:=hdq (fun W (hW:Touch [] w1 W)=>(BB.o.touch hW).wLook1 HQ.o n hnk i);generalize hcn:x.BI[n].c=cn at HC CV;have FV:=hdq hcn;have BZ:=hdq (Touch.refl [] w1).drew;go_wp2_with fail
    refine hrq (S:=fun w'=>w'.cell? ⟨b4,0,none⟩=some (.pointer (some ⟨x.wb,0,none⟩))/\w'.cell? ⟨b5,0,none⟩=some (.int .i64 (n:Int))/\w'.cell? ⟨b6,0,none⟩=some (.int .i64 1)/\w'.cell? ⟨b7,0,none⟩=some (.int .i64 i)) fun hHeld=>?_;refine tkq 0 6 ?_;refine tkq 1 7 ?_;refine tkq 2 8 ?_;refine tkq 4 10 ?_;refine tkq 5 11 ?_;refine rdq 3 rfl fun K hK=>?_;go_simp;refine(HC.o _ BZ.o).mono ?_;rintro en w2 ⟨rfl,ht⟩;have HT1:=hdq (BZ.o.trans' ht);have HL2:=hdq (BB.o.touch HT1.o);obtain⟨⟨p0,q0,s0,i0⟩,z4,z5,z6,z7⟩:=HL2.o.bV;go_simp;refine kpq hK.o fun hHeld=>?_;refine rdq 6 rfl fun K hK=>?_;go_simp;refine(CV.o _ HT1.o).mono ?_;rintro en w3 ⟨y,b,rfl,hR,hL⟩;obtain rfl:=FV.o;have HR:=hdq hR;obtain⟨⟨p0,q0,s0,i0⟩,z4,z5,z6,z7⟩:=hL.bV;have BF:=hdq (BD.aB (a:=[]) (c:=[jm bf]) (b:=_++bV x (n:Int) 1 i b4 b5 b6 b7) (by rw[List.nil_append,List.append_assoc];exact hL));simp only[nAq,cAq,jm]at BF;obtain⟨⟨f0,f1,f2,f3,f4,f5,f6,f7⟩,⟨g0,g1,g2,g3,g4,g5,g6,g7⟩,zf,_,_⟩:=BF.o.dA 0 rfl;obtain⟨n4,n5,n6,n7⟩:=BF.o.uI;simp only[bB];go_simp;refine kpq hK.o fun hHeld=>?_;refine tkq 7 5 ?_;refine tkq 8 13 ?_;refine tkq 9 14 ?_;refine tkq 10 15 ?_;refine opq 11 fun hHeld=>?_;refine tkq 12 16 ?_;refine opq 13 fun hHeld=>?_;refine dnq ?_;have BH:=hdq ((((((((BF.o.set 0 rfl 0 (.int .i64 y.sync)).set 0 rfl 1 (.int .i64 y.thread)).set 0 rfl 2 (.int .i64 y.branch)).set 0 rfl 3 (.int .i64 y.flag)).set 0 rfl 4 (.int .i64 y.v.kind)).set 0 rfl 5 (.int .i64 y.v.num)).set 0 rfl 6 (.slice y.v.addr y.v.parts.length y.v.cap)).set 0 rfl 7 (.bool b));simp only[sZq,sAq,sSq]at BH;refine ax (Q:=Exit.then _ _) ?_;intro w4 hw4;have Ca:=hdq (BH.o.toW (by with_reducible exact hw4));obtain⟨⟨f0,f1,f2,f3,f4,f5,f6,f7⟩,⟨g0,g1,g2,g3,g4,g5,g6,g7⟩,zf,_,_⟩:=Ca.o.dA 0 rfl;have Db:=hdq ((((((((Ca.o.set 0 rfl 0 (.int .i64 y.sync)).set 0 rfl 1 (.int .i64 y.thread)).set 0 rfl 2 (.int .i64 y.branch)).set 0 rfl 3 (.int .i64 y.flag)).set 0 rfl 4 (.int .i64 y.v.kind)).set 0 rfl 5 (.int .i64 y.v.num)).set 0 rfl 6 (.slice y.v.addr y.v.parts.length y.v.cap)).set 0 rfl 7 (.bool b));simp only[sZq,sAq,sSq]at Db;go_wp2;refine aP ?_;intro w5 DC;have C8:=hdq (Db.o.toW DC);obtain⟨⟨f0,f1,f2,f3,f4,f5,f6,f7⟩,_,_⟩:=C8.o.dA 0 rfl;refine bodyPost_ret (v:=(aL.of y b).val) (by simp[results,results99,go_sem,f0,f1,f2,f3,f4,f5,f6,f7,aL.val,aL.of]) rfl ?_;exact⟨aL.of y b,0,_,.inr (.inr ⟨n,hnk,y,b,rfl,rfl,rfl,.inl ⟨rfl,HR.o,rfl⟩⟩),.inl ⟨rfl,rfl⟩,BD.aF (BD.aB (a:=[]) (b:=[_]) C8.o)⟩
   .skip
    have HC:=hdq (fun W (hW:Touch [] w1 W)=>(BB.o.touch hW).sj (HS.o _ ((BB.o.touch hW).still 2 rfl)) 2 (by decide) n hnk);have CV:=hdq (fun W (hW:Touch [] w1 W)=>(BB.o.touch hW).wLook2 HQ.o n hnk i);generalize hcn:x.BI[n].c=cn at HC CV;have FV:=hdq hcn;have BZ:=hdq (Touch.refl [] w1).drew;go_wp2_with fail
    refine hrq (S:=fun w'=>w'.cell? ⟨b4,0,none⟩=some (.pointer (some ⟨x.wb,0,none⟩))/\w'.cell? ⟨b5,0,none⟩=some (.int .i64 (n:Int))/\w'.cell? ⟨b6,0,none⟩=some (.int .i64 2)/\w'.cell? ⟨b7,0,none⟩=some (.int .i64 i)) fun hHeld=>?_;refine tkq 0 6 ?_;refine tkq 1 7 ?_;refine tkq 2 8 ?_;refine tkq 4 10 ?_;refine tkq 5 11 ?_;refine rdq 3 rfl fun K hK=>?_;go_simp;refine(HC.o _ BZ.o).mono ?_;rintro en w2 ⟨rfl,ht⟩;have HT1:=hdq (BZ.o.trans' ht);have HL2:=hdq (BB.o.touch HT1.o);obtain⟨⟨p0,q0,s0,i0⟩,z4,z5,z6,z7⟩:=HL2.o.bV;go_simp;refine kpq hK.o fun hHeld=>?_;refine rdq 6 rfl fun K hK=>?_;go_simp;refine(CV.o _ HT1.o).mono ?_;rintro en w3 ⟨y,b,rfl,hR,hL⟩;obtain rfl:=FV.o;have HR:=hdq hR;obtain⟨⟨p0,q0,s0,i0⟩,z4,z5,z6,z7⟩:=hL.bV;have BF:=hdq (BD.aB (a:=[]) (c:=[jm bf]) (b:=_++bV x (n:Int) 2 i b4 b5 b6 b7) (by rw[List.nil_append,List.append_assoc];exact hL));simp only[nAq,cAq,jm]at BF;obtain⟨⟨f0,f1,f2,f3,f4,f5,f6,f7⟩,⟨g0,g1,g2,g3,g4,g5,g6,g7⟩,zf,_,_⟩:=BF.o.dA 0 rfl;obtain⟨n4,n5,n6,n7⟩:=BF.o.uI;simp only[bB];go_simp;refine kpq hK.o fun hHeld=>?_;refine tkq 7 5 ?_;refine tkq 8 13 ?_;refine tkq 9 14 ?_;refine tkq 10 15 ?_;refine opq 11 fun hHeld=>?_;refine tkq 12 16 ?_;refine opq 13 fun hHeld=>?_;refine dnq ?_;have BH:=hdq ((((((((BF.o.set 0 rfl 0 (.int .i64 y.sync)).set 0 rfl 1 (.int .i64 y.thread)).set 0 rfl 2 (.int .i64 y.branch)).set 0 rfl 3 (.int .i64 y.flag)).set 0 rfl 4 (.int .i64 y.v.kind)).set 0 rfl 5 (.int .i64 y.v.num)).set 0 rfl 6 (.slice y.v.addr y.v.parts.length y.v.cap)).set 0 rfl 7 (.bool b));simp only[sZq,sAq,sSq]at BH;refine ax (Q:=Exit.then _ _) ?_;intro w4 hw4;have Ca:=hdq (BH.o.toW (by with_reducible exact hw4));obtain⟨⟨f0,f1,f2,f3,f4,f5,f6,f7⟩,⟨g0,g1,g2,g3,g4,g5,g6,g7⟩,zf,_,_⟩:=Ca.o.dA 0 rfl;have Db:=hdq ((((((((Ca.o.set 0 rfl 0 (.int .i64 y.sync)).set 0 rfl 1 (.int .i64 y.thread)).set 0 rfl 2 (.int .i64 y.branch)).set 0 rfl 3 (.int .i64 y.flag)).set 0 rfl 4 (.int .i64 y.v.kind)).set 0 rfl 5 (.int .i64 y.v.num)).set 0 rfl 6 (.slice y.v.addr y.v.parts.length y.v.cap)).set 0 rfl 7 (.bool b));simp only[sZq,sAq,sSq]at Db;go_wp2;refine aP ?_;intro w5 DC;have C8:=hdq (Db.o.toW DC);obtain⟨⟨f0,f1,f2,f3,f4,f5,f6,f7⟩,_,_⟩:=C8.o.dA 0 rfl;refine bodyPost_ret (v:=(aL.of y b).val) (by simp[results,results99,go_sem,f0,f1,f2,f3,f4,f5,f6,f7,aL.val,aL.of]) rfl ?_;exact⟨aL.of y b,0,_,.inr (.inr ⟨n,hnk,y,b,rfl,rfl,rfl,.inr ⟨rfl,HR.o,rfl⟩⟩),.inl ⟨rfl,rfl⟩,BD.aF (BD.aB (a:=[]) (b:=[_]) C8.o)⟩
  .have HC:=hdq (fun W (hW:Touch [] w1 W)=>(BB.o.touch hW).nL (HS.o _ ((BB.o.touch hW).still 2 rfl)) s hs k hk)
   have HK:Hid (¬(0<=k/\k<(x.BI.length:Int))/\(s=1\/s=2)):=⟨hk,hs⟩;have BZ:=hdq (Touch.refl [] w1).drew;go_wp2_with fail
   refine hrq (S:=fun w'=>w'.cell? ⟨b4,0,none⟩=some (.pointer (some ⟨x.wb,0,none⟩))/\w'.cell? ⟨b5,0,none⟩=some (.int .i64 k)/\w'.cell? ⟨b6,0,none⟩=some (.int .i64 s)/\w'.cell? ⟨b7,0,none⟩=some (.int .i64 i)) fun hHeld=>?_;refine tkq 0 6 ?_;refine tkq 1 7 ?_;refine tkq 2 8 ?_;refine tkq 4 10 ?_;refine tkq 5 11 ?_;refine rdq 3 rfl fun K hK=>?_;go_simp;refine(HC.o _ BZ.o).mono ?_;rintro en w2 ⟨rfl,ht⟩;dsimp only;have h2:=BB.o.touch (BZ.o.trans' ht);rw[<-List.append_assoc]at h2;exact⟨rfl,aL.zero,4,x,.inr (.inl ⟨HK.o.2,HK.o.1,rfl,rfl,rfl⟩),.inr ⟨rfl,rfl⟩,h2.aF⟩
 .have HC:=hdq (fun W (hW:Touch [] w1 W)=>(BB.o.touch hW).nR (HS.o _ ((BB.o.touch hW).still 2 rfl)) s hs k)
  have HK:Hid (¬(s=1\/s=2)):=hs;have BZ:=hdq (Touch.refl [] w1).drew;go_wp2_with fail
  refine hrq (S:=fun w'=>w'.cell? ⟨b4,0,none⟩=some (.pointer (some ⟨x.wb,0,none⟩))/\w'.cell? ⟨b5,0,none⟩=some (.int .i64 k)/\w'.cell? ⟨b6,0,none⟩=some (.int .i64 s)/\w'.cell? ⟨b7,0,none⟩=some (.int .i64 i)) fun hHeld=>?_;refine tkq 0 6 ?_;refine tkq 1 7 ?_;refine tkq 2 8 ?_;refine tkq 4 10 ?_;refine tkq 5 11 ?_;refine rdq 3 rfl fun K hK=>?_;go_simp;refine(HC.o _ BZ.o).mono ?_;rintro en w2 ⟨rfl,ht⟩;dsimp only;have h2:=BB.o.touch (BZ.o.trans' ht);rw[<-List.append_assoc]at h2;exact⟨rfl,aL.zero,2,x,.inl ⟨HK.o,rfl,rfl,rfl⟩,.inr ⟨rfl,rfl⟩,h2.aF⟩
theorem KC(T:List Nat)(w:World)(x:WS)(k s i:Int)(h:BD T w w x.ts)(hS:∀W,x.P W->bJ W)(hv:∀W,x.P W->x.fD W):
  Calls prog 26 #[x.wb,k,s,i] w fun en w'=>∃(v:aL) (er:Int) (x':WS),en= .returned (.tuple #[v.ent,v.is,.int .i64 er])/\j4 x k s i v er x'/\BD T w w' x'.ts:=by
 have Ep:= @mfq;have BG:=hdq h;go_enter func26,ntmps26
 go_wp2_with fail
 refine ah ?_;intro w1 hw1;have BB:=hdq ((((((BG.o.alloc 25 #[x.wb]).alloc 3 #[k]).alloc 41 #[s]).alloc 3 #[i]).alloc 47 #[(),(),(),(),(),(),True]).toW hw1);simp only[World.size_alloc,List.append_assoc,cAq,nAq]at BB;generalize Kj:w.heap.size+1+1+1+1=b8 at BB|-;generalize EF:w.heap.size+1+1+1=b7 at BB|-;generalize hb6:w.heap.size+1+1=b6 at BB|-;generalize hb5:w.heap.size+1=b5 at BB|-;generalize hb4:w.heap.size=b4 at BB|-;refine(jy T w w1 _ _ _ (fun v er l'=>∃x',j4 x k s i v er x'/\l'=x'.ts++bV x k s i b4 b5 b6 b7++[dJ b8]) BB.o (enters_of func99 (by kernel_rfl) rfl) (fun T' W hW=>?_)).mono ?_
 .obtain⟨T2,hF,hb⟩:=BD.aN (m:=x.ts++bV x k s i b4 b5 b6 b7) (r:=[dJ b8]) (by rw[List.append_assoc];exact hW)
  refine(Me T2 W x b4 b5 b6 b7 k s i hF hS hv).mono ?_;rintro en w' ⟨v,er,x',hx,he,hL⟩;exact⟨v,er,_,he,⟨x',hx,rfl⟩,hb _ _ hL⟩
 rintro en w2 ⟨v,er,l',rfl,⟨x',hx,rfl⟩,hL⟩;have HX:=hdq hx;have BF:=hdq hL;unfold aL.val;dsimp only;go_upto_region 2 with fail
 refine ay ?_;intro w3 hw3;have BH:=hdq (BD.aB (a:=[]) (b:=x'.ts++bV x k s i b4 b5 b6 b7) (c:=[dJ b8,box w2.heap.size 168 #[v.sync,v.thread,v.branch,v.flag,v.kind,v.num,.slice v.lA v.lN v.lC,v.is]]) (by simpa using(BF.o.DN hw3)));simp only[nAq,cAq,dJ]at BH;generalize FK:w2.heap.size=b9 at BH|-;obtain⟨e0,e1,e2,e3,e4,e5,e6,⟨ef0,ef1,ef2,ef3,ef4,ef5,ef6⟩,ze,_,_⟩:=BH.o.c7 0 rfl;obtain⟨⟨f0,f1,f2,f3,f4,f5,f6,f7⟩,⟨g0,g1,g2,g3,g4,g5,g6,g7⟩,zf,_,_⟩:=BH.o.dA 1 rfl;have hne:=BH.o.ne 0 1 rfl rfl (by decide);have hne':=Ne.symm hne;go_wp2_with fail
 refine hrq (S:=fun w'=>w'.cell? ⟨b9,0,none⟩=some (.int .i64 v.sync)/\w'.cell? ⟨b9,1,none⟩=some (.int .i64 v.thread)/\w'.cell? ⟨b9,2,none⟩=some (.int .i64 v.branch)/\w'.cell? ⟨b9,3,none⟩=some (.int .i64 v.flag)/\w'.cell? ⟨b9,4,none⟩=some (.int .i64 v.kind)/\w'.cell? ⟨b9,5,none⟩=some (.int .i64 v.num)/\w'.cell? ⟨b9,6,none⟩=some (.slice v.lA v.lN v.lC)/\w'.cell? ⟨b9,7,none⟩=some (.bool v.is)) fun hHeld=>?_;refine tkq 0 18 ?_;refine tkq 1 19 ?_;refine tkq 2 20 ?_;refine tkq 3 21 ?_;refine tkq 4 22 ?_;refine opq 5 fun hHeld=>?_;refine tkq 6 9 ?_;refine tkq 7 10 ?_;refine dnq ?_;have Ca:=hdq (((((((BH.o.set 0 rfl 0 (.int .i64 v.sync)).set 0 rfl 1 (.int .i64 v.thread)).set 0 rfl 2 (.int .i64 v.branch)).set 0 rfl 3 (.int .i64 v.flag)).set 0 rfl 4 (.int .i64 v.kind)).set 0 rfl 5 (.int .i64 v.num)).set 0 rfl 6 (.slice v.lA v.lN v.lC)).drew;simp only[sZq,sAq,sSq]at Ca;go_wp2;refine aP ?_;intro w5 DC;have C8:=hdq (Ca.o.toW DC);obtain⟨e0,e1,e2,e3,e4,e5,e6,_,ze,_,_⟩:=C8.o.c7 0 rfl;refine bodyPost_ret (v:= .tuple #[v.ent,v.is,.int .i64 er]) (by simp[results,results26,go_sem,e0,e1,e2,e3,e4,e5,e6,aL.ent]) rfl ?_;have hz:BD T w w5 (x'.ts++bV x k s i b4 b5 b6 b7++[_,_]):=BD.aB (a:=[]) (b:=[_,_]) C8.o;exact⟨v,er,x',rfl,HX.o,(BD.aF (BD.aF hz))⟩
theorem IX:(prog.info? 118).map (fun i=>(i.zero,i.size,i.bytes))=some (some (.pointer none),1,8):=by kernel_rfl
theorem Jo:(prog.info? 122).map (fun i=>(i.zero,i.size,i.bytes))=some (some (.pointer none),1,8):=by kernel_rfl
theorem zI(c:Nat):∀u∈[Value.pointer (some ⟨c,0,none⟩)],u.oneCell'=true:=by simp[Value.oneCell']
def WS.sI(x:WS)(s:Ar)(y:Ce)(a:Option Addr)(c:Nat):WS:={x with s:=s,BI:=x.BI++[y],a1:=a,c1:=c}
def WS.sV(x:WS)(s:Ar)(P:World->Prop)(y:Ch)(a:Option Addr)(c:Nat):WS:={x with s:=s,P:=P,cos:=x.cos++[y],a2:=a,c2:=c}
def WS.oq(x:WS)(s:Ar)(vb v:Value)(n:Nat)(xs:List Value):List ai:=
 [box x.wb 86 #[x.ga,vb,.slice x.a2 x.cos.length x.c2,.slice x.a3 x.sys.length x.c3],arena x.ga s,aA x.P,aS 118 1 v n xs,aS 122 1 (.slice x.a2 x.cos.length x.c2) x.cos.length (bK x.cos),aS 61 11 (.slice x.a3 x.sys.length x.c3) x.sys.length (aU x.sys)]
def WS.oK(x:WS)(s:Ar)(P:World->Prop)(vb v:Value)(n:Nat)(xs:List Value):List ai:=
 [box x.wb 86 #[x.ga,.slice x.a1 x.BI.length x.c1,vb,.slice x.a3 x.sys.length x.c3],arena x.ga s,aA P,aS 118 1 (.slice x.a1 x.BI.length x.c1) x.BI.length (bP x.BI),aS 122 1 v n xs,aS 61 11 (.slice x.a3 x.sys.length x.c3) x.sys.length (aU x.sys)]
theorem WS.KP(x:WS)(s:Ar)(y:Ce)(a:Option Addr)(c:Nat)(r0:List ai):(x.sI s y a c).ts++r0=x.oq s (.slice a (x.BI.length+1) c) (.slice a (x.BI.length+1) c) (x.BI.length+1) (bP x.BI++[.pointer (some ⟨y.c,0,none⟩)])++x.BI.flatMap Ce.ts++y.ts++(x.cos.flatMap Ch.ts++r0):=by
 simp[WS.sI,WS.ts,WS.head,WS.oq,bP,List.flatMap_append]
theorem WS.Ij(x:WS)(s:Ar)(P:World->Prop)(y:Ch)(a:Option Addr)(c:Nat)(r0:List ai):(x.sV s P y a c).ts++r0=x.oK s P (.slice a (x.cos.length+1) c) (.slice a (x.cos.length+1) c) (x.cos.length+1) (bK x.cos++[.pointer (some ⟨y.c,0,none⟩)])++(x.BI.flatMap Ce.ts++x.cos.flatMap Ch.ts)++y.ts++r0:=by
 simp[WS.sV,WS.ts,WS.head,WS.oK,bK,List.flatMap_append]
theorem BD.joinCh{T:List Nat}{w0 w:World}{x:WS}{s:Ar}{y:Ce}{a:Option Addr}{c:Nat}{r0:List ai}(h:BD T w0 w (x.oq s (.slice a (x.BI.length+1) c) (.slice a (x.BI.length+1) c) (x.BI.length+1) (bP x.BI++[.pointer (some ⟨y.c,0,none⟩)])++(x.BI.flatMap Ce.ts++x.cos.flatMap Ch.ts)++r0++y.ts)):BD T w0 w ((x.sI s y a c).ts++r0):=by
 rw[x.KP];exact BD.aB (a:=x.oq s (.slice a (x.BI.length+1) c) (.slice a (x.BI.length+1) c) (x.BI.length+1) (bP x.BI++[.pointer (some ⟨y.c,0,none⟩)])++x.BI.flatMap Ce.ts) (b:=x.cos.flatMap Ch.ts++r0) (c:=y.ts) (by simpa only[List.append_assoc]using h)
theorem BD.joinCo{T:List Nat}{w0 w:World}{x:WS}{s:Ar}{P:World->Prop}{y:Ch}{a:Option Addr}{c:Nat}{r0:List ai}(h:BD T w0 w (x.oK s P (.slice a (x.cos.length+1) c) (.slice a (x.cos.length+1) c) (x.cos.length+1) (bK x.cos++[.pointer (some ⟨y.c,0,none⟩)])++(x.BI.flatMap Ce.ts++x.cos.flatMap Ch.ts)++r0++y.ts)):BD T w0 w ((x.sV s P y a c).ts++r0):=by
 rw[x.Ij];exact BD.aB (a:=x.oK s P (.slice a (x.cos.length+1) c) (.slice a (x.cos.length+1) c) (x.cos.length+1) (bK x.cos++[.pointer (some ⟨y.c,0,none⟩)])++(x.BI.flatMap Ce.ts++x.cos.flatMap Ch.ts)) (b:=r0) (c:=y.ts) h
theorem jg(s:Ar)(n:Nat)(hn:0<n)(h:¬s.C.length+n<=s.most):(s.au (n:Int)).1=s:=by
 unfold Ar.au;rw[if_neg (by omega),if_pos (by omega)]
def jG(x:WS)(v er:Int)(x':WS):Prop:=
 (x.s.C.length+1<=x.s.most/\v=(x.BI.length:Int)/\er=0/\∃c M q1 q2 a cap,x'=x.sI (x.s.au 1).1 ⟨c,(x.s.C.length:Int),M,q1,q2,[],[]⟩ a cap)\/(¬x.s.C.length+1<=x.s.most/\v=0/\er=6/\x'=x)
def jE(x:WS)(v er:Int)(x':WS):Prop:=
 (x.s.C.length+2<=x.s.most/\v=(x.cos.length:Int)/\er=0/\∃c q a cap,x'=x.sV (x.s.au 2).1 x.P ⟨c,(x.s.C.length:Int),(x.s.C.length+1:Int),q,[]⟩ a cap)\/(¬x.s.C.length+2<=x.s.most/\v=0/\er=6/\x'=x)
def wB(x:WS)(b2:Nat):ai:=box b2 25 #[x.wb]
theorem BD.jc{T:List Nat}{w0 w:World}{x:WS}{m:List ai}{b2:Nat}{r:List ai}(h:BD T w0 w (m++(wB x b2::r))):w.cell? ⟨b2,0,none⟩=some (.pointer (some ⟨x.wb,0,none⟩))/\b2<w.heap.size:=by
 have h4:=h.box m.length (b:=b2) (t:=25) (cs:=#[.pointer (some ⟨x.wb,0,none⟩)]) (by simp[wB]);exact⟨h4.cell 0,h4.lt⟩
theorem ad7(x:WS)(m:List ai)(hm:∀T w0 w,BD T w0 w m->∃v1 v2 v3,Fe w x.wb x.ga v1 v2 v3):RdG prog 49 #[x.wb] [m] fun e=>∃y:Unit,True/\e= .returned ((fun _=> .bool false) y):=ado fun T w0 w hl=>by
 obtain⟨v1,v2,v3,h⟩:=hm T w0 w hl;exact(dG w x.wb x.ga v1 v2 v3 h).mono fun e w' ⟨he,hw⟩=>⟨he,hw▸Touch.refl _ _⟩
theorem aci(x:WS)(v1 v2 v3:Value):RdG prog 49 #[x.wb] [[box x.wb 86 #[x.ga,v1,v2,v3]]] fun e=>∃y:Unit,True/\e= .returned ((fun _=> .bool false) y):=ad7 x _ fun T w0 w hl=>by
 have hb:=hl.box 0 (b:=x.wb) rfl;exact⟨v1,v2,v3,hb.cell 0,hb.cell 1,hb.cell 2,hb.cell 3⟩
theorem acj{D:FuncId}{caps:Array Value}{X:LG}{R:Int->Int->LG->Prop}(hen:∀args w,(callFunc D args).run prog w= .ok (.enter D args) w)(hd:aai prog D caps X fun e Y=>∃v er,Ends e (.int .i64 v) er (.int .i64 0)/\R v er Y):aai prog 78 #[.func (.func D) #[] caps] X fun e Y=>∃v er,e= .returned (.tuple #[.int .i64 v,.int .i64 er])/\R v er Y:=fun T w hl=>
 (lH T w w X.flatten D caps (fun v er l'=>∃Y,l'=Y.flatten/\Y.length=X.length/\R v er Y) hl hen (fun T' W hW=>(hd T' W hW).mono fun e w' ⟨Y,hY,⟨v,er,he,hR⟩,hl'⟩=>⟨v,er,Y.flatten,he,⟨Y,rfl,hY,hR⟩,hl'⟩)).mono fun e w' ⟨v,er,l',he,⟨Y,hl1,hY,hR⟩,hl'⟩=>⟨Y,hY,⟨v,er,he,hR⟩,hl1▸hl'⟩
theorem aeb{T:List Nat}{w0 w:World}{g:Nat}{s:Ar}{q c:Nat}{f o:Int}(h:BD T w0 w ([arena g s]++[aQ q [],bS [],Proofs.YtddnnapoaonmjaaGreatDoor.box c 211 #[f,o,q]])):BD T w0 w (arena g s::Ch.ts ⟨c,f,o,q,[]⟩):=by
 exact h.sel [0,3,1] (l':=[arena g s,Proofs.YtddnnapoaonmjaaGreatDoor.box c 211 #[f,o,q],aQ q []]) rfl (by decide)
theorem aec(x:WS)(b2:Nat)(hS:∀W,x.P W->bJ W)(hn:x.BI.length<=1000000):aai prog 79 #[b2] [x.ts,[box b2 25 #[x.wb]]] fun e Y=>∃v er x',jG x v er x'/\Ends e (.int .i64 v) er (.int .i64 0)/\Y=[x'.ts,[box b2 25 #[x.wb]]]:=by
 by_cases hok:x.s.C.length+1<=x.s.most
 .have hN:aai prog 82 #[x.ga] [[arena x.ga x.s],[aA x.P]] (xq (fun _:Nat×Nat×Nat×Nat=>True) (fun y=> .tuple #[.pointer (some ⟨y.1,0,none⟩),()]) fun y=>[arena x.ga (x.s.au 1).1::gB y.1 (x.s.C.length:Int) y.2.1 y.2.2.1 y.2.2.2 [] [],[aA x.P]]):=fun T w hl=>(BD.chNew (l:=[_,_]) hl 0 rfl (fun W hW=>hS W (hW.still 1 rfl)) hok).mono fun e w' ⟨c,M,q1,q2,he,hl'⟩=>⟨[arena x.ga (x.s.au 1).1::gB c (x.s.C.length:Int) M q1 q2 [] [],[aA x.P]],rfl,⟨(c,M,q1,q2),trivial,he,rfl⟩,by simpa using BD.aB (a:=[arena x.ga (x.s.au 1).1]) (b:=[aA x.P]) (c:=gB c (x.s.C.length:Int) M q1 q2 [] []) hl'⟩
  have hRes:=fun y:Option Addr=>abF fun w=>lI w y;have hI:adJ prog 83 118 1 8:=adz IX;have hn1:x.BI.length+1<=4000000:=by omega
  have hwr:IntKind.i64.wrap (x.BI.length:Int)=(x.BI.length:Int):=IntWalk.i64_in _ (by omega);have hC:=aci x (.slice x.a1 x.BI.length x.c1) (.slice x.a2 x.cos.length x.c2) (.slice x.a3 x.sys.length x.c3);refine aai.go func79 ntmps79 ?_;refine W.turn (M':=[[box x.wb 86 #[x.ga,.slice x.a1 x.BI.length x.c1,.slice x.a2 x.cos.length x.c2,.slice x.a3 x.sys.length x.c3]],[arena x.ga x.s],[aA x.P],[aS 118 1 (.slice x.a1 x.BI.length x.c1) x.BI.length (bP x.BI)],[aS 122 1 (.slice x.a2 x.cos.length x.c2) x.cos.length (bK x.cos),aS 61 11 (.slice x.a3 x.sys.length x.c3) x.sys.length (aU x.sys)]++(x.BI.flatMap Ce.ts++x.cos.flatMap Ch.ts),[box b2 25 #[x.wb]]]) ?_ (fun T w0 w hl=>by simpa[WS.ts,WS.head]using hl);refine go ?_;refine crr hC fun _ _=>?_;refine go ?_;refine cr (abF fun w=>require_ok w 1) fun _ _=>?_;refine go ?_;refine W.rgd ?_;repeat (refine' rgk ?_;rotate_left)
  refine rgz 0 ?_ ?_;refine go ?_;refine cr hN fun y _=>?_;refine go ?_;refine cr (hRes _) fun _ _=>?_;refine go ?_;refine mbq (hal:=by intro w;go_simp;exact⟨rfl,rfl⟩) fun b5=>?_;refine apq (news:=[.pointer (some ⟨y.1,0,none⟩)]) (m:=1) hI rfl (zI _) hn1 (by decide) (hnm:=rfl) fun aa cap=>?_;refine go ?_;refine W.ady [(x.sI (x.s.au 1).1 ⟨y.1,(x.s.C.length:Int),y.2.1,y.2.2.1,y.2.2.2,[],[]⟩ aa cap).ts,[box b2 25 #[x.wb]]] (fun T w0 w hl=>BD.less (m:=(x.sI (x.s.au 1).1 ⟨y.1,(x.s.C.length:Int),y.2.1,y.2.2.1,y.2.2.2,[],[]⟩ aa cap).ts++[box b2 25 #[x.wb]]) (r:=[box b5 118 #[.pointer (some ⟨y.1,0,none⟩)]]) (by
   have h2:=BD.aB (a:=[_,_]) (b:=gB y.1 (x.s.C.length:Int) y.2.1 y.2.2.1 y.2.2.2 [] []) (c:=_) (by simpa using hl);rw[List.append_assoc];exact BD.joinCh (r0:=[box b2 25 #[x.wb],box b5 118 #[.pointer (some ⟨y.1,0,none⟩)]]) (by simpa[WS.oq,Ce.ts]using h2))) ?_
  exact⟨_,0,_,.inl ⟨hok,rfl,rfl,y.1,y.2.1,y.2.2.1,y.2.2.2,aa,cap,rfl⟩,.inl ⟨rfl,rfl⟩,rfl⟩
  kernel_rfl
 .have hN:aai prog 82 #[x.ga] [[arena x.ga x.s]] (xq (fun _:Unit=>True) (fun _=> .tuple #[.pointer none,(6:Int)]) fun _=>[[arena x.ga x.s]]):=fun T w hl=>(BD.xA (l:=[_]) hl 0 rfl hok).mono fun e w' ⟨he,hl'⟩=>⟨_,rfl,⟨(),trivial,he,rfl⟩,by rw[show(x.s.au 1).1=x.s from jg x.s 1 (by omega) hok]at hl';exact hl'⟩
  have hB:=fun w=>kg w none 6 (by decide);have hC:=aci x (.slice x.a1 x.BI.length x.c1) (.slice x.a2 x.cos.length x.c2) (.slice x.a3 x.sys.length x.c3);refine aai.go func79 ntmps79 ?_;refine W.turn (M':=[[box x.wb 86 #[x.ga,.slice x.a1 x.BI.length x.c1,.slice x.a2 x.cos.length x.c2,.slice x.a3 x.sys.length x.c3]],[arena x.ga x.s],[aA x.P],[aS 118 1 (.slice x.a1 x.BI.length x.c1) x.BI.length (bP x.BI)],[aS 122 1 (.slice x.a2 x.cos.length x.c2) x.cos.length (bK x.cos),aS 61 11 (.slice x.a3 x.sys.length x.c3) x.sys.length (aU x.sys)]++(x.BI.flatMap Ce.ts++x.cos.flatMap Ch.ts),[box b2 25 #[x.wb]]]) ?_ (fun T w0 w hl=>by simpa[WS.ts,WS.head]using hl);refine go ?_;refine crr hC fun _ _=>?_;refine go ?_;refine cr (abF fun w=>require_ok w 1) fun _ _=>?_;refine go ?_;refine W.rgd ?_;repeat (refine' rgk ?_;rotate_left)
  refine rgz 0 ?_ ?_;refine go ?_;refine cr hN fun _ _=>?_;refine go ?_;refine pfy (rs:=[]) (ade hB) [x.ts,[box b2 25 #[x.wb]]] (fun T w0 w hl=>by simpa[WS.ts,WS.head,wB,puts]using hl) ?_;exact⟨0,6,x,.inr ⟨hok,rfl,rfl,rfl⟩,.inr ⟨rfl,rfl⟩,rfl⟩
  kernel_rfl
theorem IA(T:List Nat)(w:World)(x:WS)(h:BD T w w x.ts)(hS:∀W,x.P W->bJ W)(hn:x.BI.length<=1000000):
  Calls prog 21 #[x.wb] w fun e w'=>∃(v er:Int) (x':WS),e= .returned (.tuple #[.int .i64 v,.int .i64 er])/\jG x v er x'/\BD T w w' x'.ts:=by
 have hg:aai prog 21 #[x.wb] [x.ts] (xq (fun y:Int×Int×WS=>jG x y.1 y.2.1 y.2.2) (fun y=> .tuple #[.int .i64 y.1,.int .i64 y.2.1]) fun y=>[y.2.2.ts]):=by
  have Ep:=mkf;refine aai.go func21 ntmps21 ?_;refine go1 fun b2=>?_;refine cq (acj (enters_of func79 (by kernel_rfl) rfl) (R:=fun v er Y=>∃x',jG x v er x'/\Y=[x'.ts,[box b2 25 #[x.wb]]]) ((aec x b2 hS hn).mono fun e Y ⟨v,er,x',hm,he,hY⟩=>⟨v,er,he,x',hm,hY⟩)) ?_;rintro _ _ ⟨v,er,rfl,x',hm,rfl⟩;refine⟨_,rfl,nq ?_⟩;refine go ?_;refine W.abg ?_;exact⟨(v,er,x'),hm,rfl,rfl⟩
 exact(hg T w (by simpa using h)).mono fun e w' ⟨Y,_,⟨x',hm,he,hY⟩,hl⟩=>⟨_,_,_,he,hm,by rw[hY]at hl;simpa using hl⟩
theorem aea(x:WS)(b2:Nat)(hn:x.cos.length<=1000000):aai prog 83 #[b2] [x.ts,[box b2 25 #[x.wb]]] fun e Y=>∃v er x',jE x v er x'/\Ends e (.int .i64 v) er (.int .i64 0)/\Y=[x'.ts,[box b2 25 #[x.wb]]]:=by
 by_cases hok:x.s.C.length+2<=x.s.most
 .have hN:aai prog 85 #[x.ga] [[arena x.ga x.s]] (xq (fun _:Nat×Nat=>True) (fun y=> .tuple #[.pointer (some ⟨y.2,0,none⟩),()]) fun y=>[arena x.ga (x.s.au 2).1::Ch.ts ⟨y.2,(x.s.C.length:Int),(x.s.C.length+1:Int),y.1,[]⟩]):=fun T w hl=>(BD.cNew (l:=[_]) hl 0 rfl hok).mono fun e w' ⟨q,c,he,hl'⟩=>⟨[arena x.ga (x.s.au 2).1::Ch.ts ⟨c,(x.s.C.length:Int),(x.s.C.length+1:Int),q,[]⟩],rfl,⟨(q,c),trivial,he,rfl⟩,by simpa using aeb hl'⟩
  have hRes:=fun y:Option Addr=>abF fun w=>lm w y;have hI:adJ prog 84 122 1 8:=adz Jo;have hn1:x.cos.length+1<=4000000:=by omega
  have hwr:IntKind.i64.wrap (x.cos.length:Int)=(x.cos.length:Int):=IntWalk.i64_in _ (by omega);have hC:=aci x (.slice x.a1 x.BI.length x.c1) (.slice x.a2 x.cos.length x.c2) (.slice x.a3 x.sys.length x.c3);refine aai.go func83 ntmps83 ?_;refine W.turn (M':=[[box x.wb 86 #[x.ga,.slice x.a1 x.BI.length x.c1,.slice x.a2 x.cos.length x.c2,.slice x.a3 x.sys.length x.c3]],[arena x.ga x.s],[aA x.P,aS 118 1 (.slice x.a1 x.BI.length x.c1) x.BI.length (bP x.BI)],[aS 122 1 (.slice x.a2 x.cos.length x.c2) x.cos.length (bK x.cos)],aS 61 11 (.slice x.a3 x.sys.length x.c3) x.sys.length (aU x.sys)::(x.BI.flatMap Ce.ts++x.cos.flatMap Ch.ts),[box b2 25 #[x.wb]]]) ?_ (fun T w0 w hl=>by simpa[WS.ts,WS.head]using hl);refine go ?_;refine crr hC fun _ _=>?_;refine go ?_;refine cr (abF fun w=>require_ok w 1) fun _ _=>?_;refine go ?_;refine W.rgd ?_;repeat (refine' rgk ?_;rotate_left)
  refine rgz 0 ?_ ?_;refine go ?_;refine cr hN fun y _=>?_;refine go ?_;refine cr (hRes _) fun _ _=>?_;refine go ?_;refine mbq (hal:=by intro w;go_simp;exact⟨rfl,rfl⟩) fun b5=>?_;refine apq (news:=[.pointer (some ⟨y.2,0,none⟩)]) (m:=1) hI rfl (zI _) hn1 (by decide) (hnm:=rfl) fun aa cap=>?_;refine go ?_;refine W.ady [(x.sV (x.s.au 2).1 x.P ⟨y.2,(x.s.C.length:Int),(x.s.C.length+1:Int),y.1,[]⟩ aa cap).ts,[box b2 25 #[x.wb]]] (fun T w0 w hl=>BD.less (m:=(x.sV (x.s.au 2).1 x.P ⟨y.2,(x.s.C.length:Int),(x.s.C.length+1:Int),y.1,[]⟩ aa cap).ts++[box b2 25 #[x.wb]]) (r:=[box b5 122 #[.pointer (some ⟨y.2,0,none⟩)]]) (by
   have h2:=BD.aB (a:=[_,_]) (b:=Ch.ts ⟨y.2,(x.s.C.length:Int),(x.s.C.length+1:Int),y.1,[]⟩) (c:=_) (by simpa using hl);rw[List.append_assoc];exact BD.joinCo (r0:=[box b2 25 #[x.wb],box b5 122 #[.pointer (some ⟨y.2,0,none⟩)]]) (by simpa[WS.oK,Ch.ts]using h2))) ?_
  exact⟨_,0,_,.inl ⟨hok,rfl,rfl,y.2,y.1,aa,cap,rfl⟩,.inl ⟨rfl,rfl⟩,rfl⟩
  kernel_rfl
 .have hN:aai prog 85 #[x.ga] [[arena x.ga x.s]] (xq (fun _:Unit=>True) (fun _=> .tuple #[.pointer none,(6:Int)]) fun _=>[[arena x.ga x.s]]):=fun T w hl=>(BD.Au (l:=[_]) hl 0 rfl hok).mono fun e w' ⟨he,hl'⟩=>⟨_,rfl,⟨(),trivial,he,rfl⟩,by rw[show(x.s.au 2).1=x.s from jg x.s 2 (by omega) hok]at hl';exact hl'⟩
  have hB:=fun w=>ku w none 6 (by decide);have hC:=aci x (.slice x.a1 x.BI.length x.c1) (.slice x.a2 x.cos.length x.c2) (.slice x.a3 x.sys.length x.c3);refine aai.go func83 ntmps83 ?_;refine W.turn (M':=[[box x.wb 86 #[x.ga,.slice x.a1 x.BI.length x.c1,.slice x.a2 x.cos.length x.c2,.slice x.a3 x.sys.length x.c3]],[arena x.ga x.s],[aA x.P,aS 118 1 (.slice x.a1 x.BI.length x.c1) x.BI.length (bP x.BI)],[aS 122 1 (.slice x.a2 x.cos.length x.c2) x.cos.length (bK x.cos)],aS 61 11 (.slice x.a3 x.sys.length x.c3) x.sys.length (aU x.sys)::(x.BI.flatMap Ce.ts++x.cos.flatMap Ch.ts),[box b2 25 #[x.wb]]]) ?_ (fun T w0 w hl=>by simpa[WS.ts,WS.head]using hl);refine go ?_;refine crr hC fun _ _=>?_;refine go ?_;refine cr (abF fun w=>require_ok w 1) fun _ _=>?_;refine go ?_;refine W.rgd ?_;repeat (refine' rgk ?_;rotate_left)
  refine rgz 0 ?_ ?_;refine go ?_;refine cr hN fun _ _=>?_;refine go ?_;refine pfy (rs:=[]) (ade hB) [x.ts,[box b2 25 #[x.wb]]] (fun T w0 w hl=>by simpa[WS.ts,WS.head,wB,puts]using hl) ?_;exact⟨0,6,x,.inr ⟨hok,rfl,rfl,rfl⟩,.inr ⟨rfl,rfl⟩,rfl⟩
  kernel_rfl
theorem Lc(T:List Nat)(w:World)(x:WS)(h:BD T w w x.ts)(hn:x.cos.length<=1000000):
  Calls prog 22 #[x.wb] w fun e w'=>∃(v er:Int) (x':WS),e= .returned (.tuple #[.int .i64 v,.int .i64 er])/\jE x v er x'/\BD T w w' x'.ts:=by
 have hg:aai prog 22 #[x.wb] [x.ts] (xq (fun y:Int×Int×WS=>jE x y.1 y.2.1 y.2.2) (fun y=> .tuple #[.int .i64 y.1,.int .i64 y.2.1]) fun y=>[y.2.2.ts]):=by
  have Ep:=mkf;refine aai.go func22 ntmps22 ?_;refine go1 fun b2=>?_;refine cq (acj (enters_of func83 (by kernel_rfl) rfl) (R:=fun v er Y=>∃x',jE x v er x'/\Y=[x'.ts,[box b2 25 #[x.wb]]]) ((aea x b2 hn).mono fun e Y ⟨v,er,x',hm,he,hY⟩=>⟨v,er,he,x',hm,hY⟩)) ?_;rintro _ _ ⟨v,er,rfl,x',hm,rfl⟩;refine⟨_,rfl,nq ?_⟩;refine go ?_;refine W.abg ?_;exact⟨(v,er,x'),hm,rfl,rfl⟩
 exact(hg T w (by simpa using h)).mono fun e w' ⟨Y,_,⟨x',hm,he,hY⟩,hl⟩=>⟨_,_,_,he,hm,by rw[hY]at hl;simpa using hl⟩
theorem uZ(l:List bL)(n j:Nat)(hn:n<l.length)(hj:j<11)(u:Value)(v':bL)(h:l[n].cells.set j u=v'.cells):(aU l).set (n*11+j) u=aU (l.set n v'):=by
 induction l generalizing n with
 |nil=>simp at hn
 |cons a l ih=>
  unfold aU at ih|-;rw[List.flatMap_cons];have hl:a.cells.length=11:=rfl;cases n with
  |zero=>
   rw[List.set_append_left _ _ (by rw[hl];omega)];simp only[sZq,List.flatMap_cons];rw[<-h];simp
  |succ n=>
   rw[List.set_append_right _ _ (by rw[hl];omega),hl,show(n+1)*11+j-11=n*11+j from by omega];simp only[sSq,List.flatMap_cons];rw[ih n (by simpa using hn) (by simpa using h)]
def WS.eP(x:WS)(n:Nat)(v:bL):WS:={x with sys:=x.sys.set n v}
section
variable {T:List Nat} {w0 w:World} {x:WS} {r0:List ai}
theorem BD.wK(h:BD T w0 w (x.ts++r0))(n:Nat)(hn:n<x.sys.length)(g:Nat)(hg:x.a3=some ⟨g,0,none⟩)(j:Nat)(hj:j<11)(u:Value)(v':bL)(hv:x.sys[n].cells.set j u=v'.cells):
  BD T w0 (w.setCell ⟨g,n*11+j,none⟩ u) ((x.eP n v').ts++r0):=by
 have h1:=h.pI 5 (e:=61) (size:=11) (g:=g) (n:=x.sys.length) (cap:=x.c3) (xs:=aU x.sys) (by rw[<-hg];rfl) (n*11+j) u;rw[uZ _ _ _ hn hj u v' hv,<-hg]at h1;rw[show(x.eP n v').ts++r0=(x.ts++r0).set 5 (aS 61 11 (.slice x.a3 x.sys.length x.c3) x.sys.length (aU (x.sys.set n v'))) from by simp[WS.eP,WS.ts,WS.head]];exact h1
theorem BD.om(h:BD T w0 w (x.ts++r0))(g:Nat)(hg:x.a3=some ⟨g,0,none⟩)(j:Nat):w.frozen? ⟨g,j,none⟩=false:=by
 have hr:=h.aZ 5 (e:=61) (size:=11) (v:= .slice x.a3 x.sys.length x.c3) (n:=x.sys.length) (xs:=aU x.sys) rfl;rw[hg]at hr;exact ji hr j
theorem BD.jA(h:BD T w0 w (x.ts++r0))(n:Nat)(hn:n<x.sys.length)(g:Nat)(hg:x.a3=some ⟨g,0,none⟩)(r:Nat)(hr:r<11):w.cell? ⟨g,n*11+r,none⟩=x.sys[n].cells[r]? :=by
 obtain⟨g4,hg4,hc⟩:=h.dU n hn;rw[hg]at hg4;injection hg4 with hg4
 injection hg4 with hg4
 subst hg4;exact hc r hr
end
def wG(x:WS)(k er:Int)(x':WS):Prop:=
 (¬(0<=k/\k<(x.sys.length:Int))/\er=4/\x'=x)\/∃(n:Nat) (hn:n<x.sys.length),k=(n:Int)/\er=0/\x'=x.eP n {x.sys[n]with parked:=false}
theorem Wake_w(T:List Nat)(w:World)(x:WS)(k:Int)(h:BD T w w x.ts)(hlen:x.sys.length<=1000000):
  Calls prog 42 #[x.wb,k] w fun e w'=>∃(er:Int) (x':WS),e= .returned (.int .i64 er)/\wG x k er x'/\BD T w w' x'.ts:=by
 have BG:Hid (BD T w w (x.ts++[])):=by rw[List.append_nil];exact h
 have HN:=hdq (dG w x.wb x.ga _ _ _ BG.o.Cb);obtain⟨w0',w1',w2',w3'⟩:=BG.o.Cb;have zw:=BG.o.Cb.lt;go_enter func42,ntmps42
 go_wp2_with fail
 refine HN.o.mono ?_;rintro e w' ⟨rfl,rfl⟩;by_cases hk:0<=k/\k<(x.sys.length:Int)
 .obtain⟨n,rfl⟩:=Int.eq_ofNat_of_zero_le hk.1
  have hnk:n<x.sys.length:=by omega
  obtain⟨g3,hg3,hx⟩:=BG.o.dU n hnk;have f4:w.cell? ⟨g3,n*11+4,none⟩=some (.bool x.sys[n].parked):=BG.o.jA n hnk g3 hg3 4 (by omega);have z4:=BG.o.om g3 hg3 (n*11+4);have zg:g3<w.heap.size:=World.block_lt_of_cell? _ _ f4;have BB:=hdq (BG.o.wK n hnk g3 hg3 4 (by omega) (.bool false) {x.sys[n]with parked:=false} rfl);have HE:Hid (wG x (n:Int) 0 (x.eP n {x.sys[n]with parked:=false})):= .inr ⟨n,hnk,rfl,rfl,rfl⟩;generalize x.eP n {x.sys[n]with parked:=false}=x' at BB HE;generalize x.sys[n].parked=pk at f4;rw[hg3]at w3';have h1:¬((n:Int)<0):=by omega
  have h2:¬((x.sys.length:Int)<=(n:Int)):=by omega
  go_wp2;go_ret
  rw[List.append_nil]at BB;exact⟨0,x',rfl,HE.o,BB.o⟩
 .have HE:Hid (wG x k 4 x):= .inl ⟨hk,rfl,rfl⟩
  have BB:Hid (BD T w w x.ts):=by have h:=BG.o;rw[List.append_nil]at h;exact h
  generalize x.sys.length=m at w3' hk hlen;generalize x.a3=aa at w3';by_cases h1:k<0
  .go_wp2
   go_ret
   exact⟨4,x,rfl,HE.o,BB.o⟩
  .have h2:(m:Int)<=k:=by omega
   go_wp2;go_ret
   exact⟨4,x,rfl,HE.o,BB.o⟩
def kB(b:Nat)(k:Int):ai:=box b 3 #[k]
theorem BD.kBAt{T:List Nat}{w0 w:World}{m:List ai}{t:ai}{b:Nat}{k:Int}{r:List ai}(h:BD T w0 w (m++(t::kB b k::r))):w.cell? ⟨b,0,none⟩=some (.int .i64 k)/\b<w.heap.size:=by
 have h4:=h.box (m.length+1) (b:=b) (t:=3) (cs:=#[.int .i64 k]) (by simp[kB]);exact⟨h4.cell 0,h4.lt⟩
def jk(x:WS)(k:Int)(v:Bool)(er:Int)(x':WS):Prop:=
 (¬(0<=k/\k<(x.sys.length:Int))/\v=false/\er=4/\x'=x)\/∃(n:Nat) (hn:n<x.sys.length) (r:Nat×Nat×Ar),k=(n:Int)/\r=fT x.s x.sys[n].flag/\
  ((r.2.1≠0/\v=false/\er=(r.2.1:Int)/\x'=x.ar r.2.2)\/(r.2.1=0/\v=((r.1:Int) != 2)/\er=0/\x'=(x.ar r.2.2).eP n {x.sys[n]with parked:=((r.1:Int) != 2)}))
def Ji(T:List Nat)(w:World)(x:WS)(k:Int)(b2 b3:Nat)(en:Ending)(w':World):Prop:=∃(v:Bool) (er:Int) (x':WS),jk x k v er x'/\Ends en (.bool v) er (.bool false)/\BD T w w' (x'.ts++[wB x b2,kB b3 k])
theorem NT(T:List Nat)(w:World)(x:WS)(b2 b3:Nat)(k:Int)(h:BD T w w (x.ts++[wB x b2,kB b3 k]))(hn:x.s.L.length<1000000):
  Calls prog 134 #[b2,b3] w (Ji T w x k b2 b3):=by
 have BG:=hdq h;have HN:=hdq hn;obtain⟨p0,zp⟩:=BG.o.jc;obtain⟨q0,zq⟩:=BG.o.kBAt;by_cases hk:0<=k/\k<(x.sys.length:Int)
 .obtain⟨n,rfl⟩:=Int.eq_ofNat_of_zero_le hk.1
  have hnk:n<x.sys.length:=by omega
  obtain⟨g3,hg3,hx⟩:=BG.o.dU n hnk;have HC:=hdq (BG.o.nC n hnk g3 hg3);have HG:=hdq hg3;obtain⟨fl,hfl⟩:∃fl,x.sys[n].flag=fl:=⟨_,rfl⟩;have HFL:=hdq hfl;obtain⟨r,hr⟩:∃r,fT x.s fl=r:=⟨_,rfl⟩;have HR:=hdq hr;go_enter func134,ntmps134
  go_wp2_with fail
  refine HC.o.mono ?_;rintro e w1 ⟨rfl,ht⟩;have BB:=hdq (BG.o.touch ht);obtain⟨p0,zp⟩:=BB.o.jc;obtain⟨w0',w1',w2',w3'⟩:=BB.o.Cb;have zw:=BB.o.Cb.lt;have f3:w1.cell? ⟨g3,n*11+3,none⟩=some (.int .i64 fl):=HFL.o▸BB.o.jA n hnk g3 HG.o 3 (by omega);have zg:g3<w1.heap.size:=World.block_lt_of_cell? _ _ f3;have CV:Hid (∀W,Touch [] w1 W->Calls prog 130 #[x.ga,.int .i64 fl] W fun e w'=>e= .returned (.tuple #[(r.1:Int),(r.2.1:Int)])/\BD T w w' ((x.ar r.2.2).ts++[wB x b2,kB b3 (n:Int)])):=fun W hW=>by
   have hCH:=(BB.o.touch hW).Ih 1 (g:=x.ga) (s:=x.s) rfl fl r.2.2 r.1 r.2.1 (by have :=HN.o;omega) (by rw[<-HR.o];rfl) (by rw[<-HR.o];rfl);simp only[WS.iy]at hCH;exact hCH
  have BZ:=hdq (Touch.refl [] w1).drew;go_wp2_with fail
  refine hrq (S:=fun w'=>w'.cell? ⟨b2,0,none⟩=some (.pointer (some ⟨x.wb,0,none⟩))/\w'.cell? ⟨x.wb,0,none⟩=some (.pointer (some ⟨x.ga,0,none⟩))/\w'.cell? ⟨g3,n*11+3,none⟩=some (.int .i64 fl)) fun hHeld=>?_;refine tkq 0 8 ?_;refine tkq 1 9 ?_;refine tkq 2 10 ?_;refine tkq 3 11 ?_;refine tkq 4 12 ?_;refine tkq 5 13 ?_;refine tkq 6 14 ?_;refine tkq 7 15 ?_;refine tkq 8 16 ?_;refine rdq 9 rfl fun K hK=>?_;go_simp;refine(CV.o _ BZ.o).mono ?_;rintro en w2 ⟨rfl,hL⟩;have HL2:=hdq hL;obtain⟨p0,zp⟩:=HL2.o.jc;have w0':w2.cell? ⟨x.wb,0,none⟩=some (.pointer (some ⟨x.ga,0,none⟩)):=HL2.o.Cb.1;have zw:x.wb<w2.heap.size:=HL2.o.Cb.lt;have f3:w2.cell? ⟨g3,n*11+3,none⟩=some (.int .i64 fl):=HFL.o▸HL2.o.jA n hnk g3 HG.o 3 (by omega);have zg:g3<w2.heap.size:=World.block_lt_of_cell? _ _ f3;have f4:w2.cell? ⟨g3,n*11+4,none⟩=some (.bool x.sys[n].parked):=HL2.o.jA n hnk g3 HG.o 4 (by omega);have z4:=HL2.o.om g3 HG.o (n*11+4);go_simp;refine kpq hK.o fun hHeld=>?_;refine tkq 10 18 ?_;refine tkq 11 19 ?_;refine rdq 12 rfl fun K hK=>?_;go_simp;by_cases h0:r.2.1=0
  .rw[h0]
   refine(jf _ _).mono ?_;rintro en w3 ⟨rfl,rfl⟩;go_simp;refine kpq hK.o fun hHeld=>?_;refine tkq 13 4 ?_;refine dnq ?_;have BF:=hdq (HL2.o.wK n hnk g3 HG.o 4 (by omega) (.bool ((r.1:Int) != 2)) {x.sys[n]with parked:=((r.1:Int) != 2)} rfl);have HE:Hid (jk x (n:Int) ((r.1:Int) != 2) 0 ((x.ar r.2.2).eP n {x.sys[n]with parked:=((r.1:Int) != 2)})):= .inr ⟨n,hnk,r,rfl,by rw[HFL.o,HR.o],.inr ⟨h0,rfl,rfl,rfl⟩⟩;generalize (x.ar r.2.2).eP n {x.sys[n]with parked:=((r.1:Int) != 2)}=x' at BF HE;generalize x.sys[n].parked=pk at f4;go_wp2;go_ret
   exact⟨_,0,x',HE.o,.inl ⟨rfl,rfl⟩,BF.o⟩
  .refine(iN _ _ _ (by omega)).mono ?_
   rintro e w3 ⟨rfl,rfl⟩;dsimp only;exact⟨rfl,false,(r.2.1:Int),_,.inr ⟨n,hnk,r,rfl,by rw[HFL.o,HR.o],.inl ⟨h0,rfl,rfl,rfl⟩⟩,.inr ⟨rfl,rfl⟩,HL2.o⟩
 .have E9:=hdq (BG.o.fE k hk)
  have HE:Hid (jk x k false 4 x):= .inl ⟨hk,rfl,rfl,rfl⟩;go_enter func134,ntmps134
  go_wp2_with fail
  refine E9.o.mono ?_;rintro e w1 ⟨rfl,ht⟩;dsimp only;exact⟨rfl,false,4,x,HE.o,.inr ⟨rfl,rfl⟩,BG.o.touch ht⟩
theorem Jz(T:List Nat)(w:World)(x:WS)(k:Int)(h:BD T w w x.ts)(hn:x.s.L.length<1000000):
  Calls prog 41 #[x.wb,k] w fun e w'=>∃(v:Bool) (er:Int) (x':WS),e= .returned (.tuple #[.bool v,.int .i64 er])/\jk x k v er x'/\BD T w w' x'.ts:=by
 have Ep:= @mfq;have BG:=hdq h;go_enter func41,ntmps41
 go_wp2_with fail
 refine ah ?_;intro w1 hw1;have BB:=hdq (BG.o.DZ hw1);generalize hb3:w.heap.size+1=b3 at BB|-;generalize hb2:w.heap.size=b2 at BB|-;refine(iK T w w1 _ _ _ (fun v er l'=>∃x',jk x k v er x'/\l'=x'.ts++[wB x b2,kB b3 k]) BB.o (enters_of func134 (by kernel_rfl) rfl) (fun T' W hW=>?_)).mono ?_
 .refine(NT T' W x b2 b3 k hW hn).mono ?_
  rintro e w' ⟨v,er,x',hx,he,hL⟩;exact⟨v,er,_,he,⟨x',hx,rfl⟩,hL⟩
 rintro e w' ⟨v,er,l',rfl,⟨x',hx,rfl⟩,hL⟩;have HL2:=hdq hL.aF;have HX:=hdq hx;dsimp only;go_wp2;go_ret2
 exact⟨v,er,x',rfl,HX.o,HL2.o⟩
theorem BD.uM{T:List Nat}{w0 w w':World}{x:WS}{r0:List ai}{Q:World->Prop}(h:BD T w0 w (x.ts++r0))(h':BD [] w w' [aA Q]):BD T w0 w' ((x.knows Q).ts++r0):=
 (h.join h').settle 2 rfl (fun W f hp hv=>⟨hp,hv.2 W (fun _ _=>rfl)⟩)
theorem BD.Kt{T:List Nat}{w0 w:World}{x:WS}{r0:List ai}{ms:List MS}(h:BD T w0 w (x.ts++r0))(hms:x.sys=ms.map MS.raw)(n:Nat)(hn:n<ms.length)(g:Nat)(hg:x.a3=some ⟨g,0,none⟩)(r:Nat)(hr:r<11):w.cell? ⟨g,n*11+r,none⟩=ms[n].raw.cells[r]? :=by
 have h1:=h.jA n (by rw[hms];simpa using hn) g hg r hr;rw[h1];simp only[hms,List.getElem_map]
def qJ(x:WS)(ms:List MS)(k:Int)(v:bL)(er:Int)(x':WS):Prop:=
 (¬(0<=k/\k<(ms.length:Int))/\v=bL.zero/\er=4/\x'=x)\/∃(n:Nat) (hn:n<ms.length) (s':MS),k=(n:Int)/\er=0/\v=s'.raw/\s'.plain=ms[n].plain/\x'=x.knows (fun W=>s'.In W)
def Aj(T:List Nat)(w:World)(x:WS)(ms:List MS)(k:Int)(b2 b3:Nat)(en:Ending)(w':World):Prop:=∃(v:bL) (er:Int) (x':WS),qJ x ms k v er x'/\((er=0/\en= .returned v.val)\/(v=bL.zero/\en= .panicked (aX er)))/\BD T w w' (x'.ts++[wB x b2,kB b3 k])
def oH(b:Nat):ai:=box b 61 #[(),True,True,(),false,false,(),(),(),True,()]
theorem Nl(T:List Nat)(w:World)(x:WS)(ms:List MS)(b2 b3:Nat)(k:Int)(h:BD T w w (x.ts++[wB x b2,kB b3 k]))(hms:x.sys=ms.map MS.raw)(hin:∀W,x.P W->∀m∈ms,m.In W):
  Calls prog 65 #[b2,b3] w (Aj T w x ms k b2 b3):=by
 have BG:=hdq h;have HMS:=hdq hms;have Ed:=hdq hin;have hlen:x.sys.length=ms.length:=by rw[hms];simp
 obtain⟨p0,zp⟩:=BG.o.jc;obtain⟨q0,zq⟩:=BG.o.kBAt;go_enter func65,ntmps65
 go_wp2_with fail
 refine ah ?_;intro w1 hw1;have BB:Hid (BD T w w1 (x.ts++([wB x b2,kB b3 k]++[oH w.heap.size]))):=by
  have h1:=BG.o.DN hw1;rw[List.append_assoc]at h1;exact h1
 generalize hbf:w.heap.size=bf at BB|-;by_cases hk:0<=k/\k<(x.sys.length:Int)
 .obtain⟨n,rfl⟩:=Int.eq_ofNat_of_zero_le hk.1
  have hnk:n<x.sys.length:=by omega
  have hnm:n<ms.length:=by omega
  obtain⟨g3,hg3,hx⟩:=BB.o.dU n hnk;have HC:=hdq (BB.o.nC n hnk g3 hg3);have HG:=hdq hg3;refine HC.o.mono ?_;rintro e w2 ⟨rfl,ht⟩;have HL2:=hdq (BB.o.touch ht);have HA:=hdq (fun r hr=>HL2.o.Kt HMS.o n hnm g3 HG.o r hr);have HI:=hdq (Ed.o _ (HL2.o.still 2 rfl) _ (List.getElem_mem hnm));have HE:Hid (∀s':MS,s'.plain=ms[n].plain->qJ x ms (n:Int) s'.raw 0 (x.knows (fun W=>s'.In W))):=fun s' hs=> .inr ⟨n,hnm,s',rfl,rfl,rfl,hs,rfl⟩;generalize ms[n]=m at HA HI HE;have p0:w2.cell? ⟨g3,n*11,none⟩=some (.int .i64 m.thread):=HA.o 0 (by omega);have p1:w2.cell? ⟨g3,n*11+1,none⟩=some (.slice m.ba m.bases.length m.bc):=HA.o 1 (by omega);have p2:w2.cell? ⟨g3,n*11+2,none⟩=some (.slice m.ca m.conds.length m.cc):=HA.o 2 (by omega);have p3:w2.cell? ⟨g3,n*11+3,none⟩=some (.int .i64 m.flag):=HA.o 3 (by omega);have p4:w2.cell? ⟨g3,n*11+4,none⟩=some (.bool m.parked):=HA.o 4 (by omega);have p5:w2.cell? ⟨g3,n*11+5,none⟩=some (.bool m.done):=HA.o 5 (by omega);have p6:w2.cell? ⟨g3,n*11+6,none⟩=some (.int .i64 m.branch):=HA.o 6 (by omega);have p7:w2.cell? ⟨g3,n*11+7,none⟩=some (.int .i64 m.v.kind):=HA.o 7 (by omega);have p8:w2.cell? ⟨g3,n*11+8,none⟩=some (.int .i64 m.v.num):=HA.o 8 (by omega);have p9:w2.cell? ⟨g3,n*11+9,none⟩=some (.slice m.v.addr m.v.parts.length m.v.cap):=HA.o 9 (by omega);have Ef:w2.cell? ⟨g3,n*11+10,none⟩=some (.int .i64 m.partner):=HA.o 10 (by omega);go_wp2_with fail
  refine(xw m w2 HI.o).mono ?_;rintro e w3 ⟨s',rfl,hp,hL⟩;have BF:=hdq (HL2.o.uM hL);have HE3:=hdq (HE.o s' hp);have BH:=hdq (BD.aB (a:=[]) (c:=[oH bf]) (b:=(x.knows (fun W=>s'.In W)).ts++[wB x b2,kB b3 (n:Int)]) (by rw[List.nil_append,List.append_assoc];exact BF.o));simp only[nAq,cAq,oH]at BH;obtain⟨p0,p1,p2,p3,p4,p5,p6,p7,p8,p9,Ef,⟨f0,f1,f2,f3,f4,f5,f6,f7,f8,f9,f10⟩,zp,_,_⟩:=BH.o.c11 0 rfl;have Ca:=hdq (((((((((((BH.o.set 0 rfl 0 (.int .i64 s'.thread)).set 0 rfl 1 (.slice s'.ba s'.bases.length s'.bc)).set 0 rfl 2 (.slice s'.ca s'.conds.length s'.cc)).set 0 rfl 3 (.int .i64 s'.flag)).set 0 rfl 4 (.bool s'.parked)).set 0 rfl 5 (.bool s'.done)).set 0 rfl 6 (.int .i64 s'.branch)).set 0 rfl 7 (.int .i64 s'.v.kind)).set 0 rfl 8 (.int .i64 s'.v.num)).set 0 rfl 9 (.slice s'.v.addr s'.v.parts.length s'.v.cap)).set 0 rfl 10 (.int .i64 s'.partner));simp only[sSq,sZq,sAq]at Ca;have HB:=hdq (Ca.o.c11 0 rfl);simp only[MS.val];go_wp2;obtain⟨p0,p1,p2,p3,p4,p5,p6,p7,p8,p9,Ef,_,zp,_,_⟩:=HB.o;refine bodyPost_ret (v:=s'.raw.val) (by simp[results,results65,go_sem,p0,p1,p2,p3,p4,p5,p6,p7,p8,p9,Ef,bL.val,MS.raw]) rfl ?_;exact⟨_,0,_,HE3.o,.inl ⟨rfl,rfl⟩,BD.aF (BD.aB (a:=[]) (b:=[_]) Ca.o)⟩
 .have HC:=hdq (BB.o.fE k hk)
  have HE:Hid (qJ x ms k bL.zero 4 x):= .inl ⟨by rw[<-hlen];exact hk,rfl,rfl,rfl⟩;refine HC.o.mono ?_;rintro e w2 ⟨rfl,ht⟩;dsimp only;have h2:=BB.o.touch ht;rw[<-List.append_assoc]at h2;exact⟨rfl,_,4,x,HE.o,.inr ⟨rfl,rfl⟩,h2.aF⟩
theorem aaK(T:List Nat)(w:World)(x:WS)(ms:List MS)(k:Int)(h:BD T w w x.ts)(hms:x.sys=ms.map MS.raw)(hin:∀W,x.P W->∀m∈ms,m.In W):
  Calls prog 15 #[x.wb,k] w fun e w'=>∃(v:bL) (er:Int) (x':WS),e= .returned (.tuple #[v.val,.bool (er==0)])/\qJ x ms k v er x'/\BD T w w' x'.ts:=by
 have Ep:= @mfq;have BG:=hdq h;have HMS:=hdq hms;have Ed:=hdq hin;go_enter func15,ntmps15
 go_wp2_with fail
 refine ah ?_;intro w1 hw1;have BB:=hdq ((((BG.o.alloc 25 #[x.wb]).alloc 3 #[k]).alloc 61 #[(),True,True,(),false,false,(),(),(),True,()]).toW hw1);simp only[World.size_alloc,List.append_assoc,cAq,nAq]at BB;generalize hb4:w.heap.size+1+1=b4 at BB|-;generalize hb3:w.heap.size+1=b3 at BB|-;generalize hb2:w.heap.size=b2 at BB|-;refine(sZ T w w1 _ _ _ (fun v er l'=>∃x',qJ x ms k v er x'/\l'=x'.ts++[wB x b2,kB b3 k]++[oH b4]) BB.o (enters_of func65 (by kernel_rfl) rfl) (fun T' W hW=>?_)).mono ?_
 .obtain⟨T2,hF,hb⟩:=BD.aN (m:=x.ts++[wB x b2,kB b3 k]) (r:=[oH b4]) (by rw[List.append_assoc];exact hW)
  refine(Nl T2 W x ms b2 b3 k hF HMS.o Ed.o).mono ?_;rintro en w' ⟨v,er,x',hx,he,hL⟩;exact⟨v,er,_,he,⟨x',hx,rfl⟩,hb _ _ hL⟩
 rintro en w2 ⟨v,er,l',rfl,⟨x',hx,rfl⟩,hL⟩;have HX:=hdq hx;have BF:=hdq hL;unfold bL.val;dsimp only;go_upto_region 2 with fail
 refine ay ?_;intro w3 hw3;have BH:=hdq (BD.aB (a:=[]) (b:=x'.ts++[wB x b2,kB b3 k]) (c:=[oH b4,box w2.heap.size 61 #[v.thread,.slice v.jr v.gm v.jv,.slice v.ko v.kz v.jR,v.flag,v.parked,v.done,v.branch,v.kind,v.num,.slice v.lA v.lN v.lC,v.partner]]) (by simpa[oH]using(BF.o.DN hw3)));simp only[nAq,cAq,oH]at BH;generalize FK:w2.heap.size=b9 at BH|-;obtain⟨p0,p1,p2,p3,p4,p5,p6,p7,p8,p9,Ef,⟨f0,f1,f2,f3,f4,f5,f6,f7,f8,f9,f10⟩,zp,_,_⟩:=BH.o.c11 0 rfl;obtain⟨q0,q1,q2,q3,q4,q5,q6,q7,q8,q9,E5,_,zq,_,_⟩:=BH.o.c11 1 rfl;have Ca:=hdq (((((((((((BH.o.set 0 rfl 0 (.int .i64 v.thread)).set 0 rfl 1 (.slice v.jr v.gm v.jv)).set 0 rfl 2 (.slice v.ko v.kz v.jR)).set 0 rfl 3 (.int .i64 v.flag)).set 0 rfl 4 (.bool v.parked)).set 0 rfl 5 (.bool v.done)).set 0 rfl 6 (.int .i64 v.branch)).set 0 rfl 7 (.int .i64 v.kind)).set 0 rfl 8 (.int .i64 v.num)).set 0 rfl 9 (.slice v.lA v.lN v.lC)).set 0 rfl 10 (.int .i64 v.partner));simp only[sSq,sZq,sAq]at Ca;go_wp2;refine aP ?_;intro w5 DC;have C8:=hdq (Ca.o.toW DC);obtain⟨p0,p1,p2,p3,p4,p5,p6,p7,p8,p9,Ef,_,zp,_,_⟩:=C8.o.c11 0 rfl;have heq:∀W,(binOp .eql 26 (.int .i64 er) (.int .i64 0)).run prog W= .ok (.bool (er==0)) W:=fun W=>by simp[go_sem]
 refine bodyPost_ret (v:= .tuple #[v.val,.bool (er==0)]) (by simp[results,results15,go_sem,p0,p1,p2,p3,p4,p5,p6,p7,p8,p9,Ef,bL.val]) rfl ?_;refine⟨v,er,x',rfl,HX.o,?_⟩;have hz:BD T w w5 (x'.ts++[wB x b2,kB b3 k]++[_,_]):=BD.aB (a:=[]) (b:=[_,_]) C8.o;exact BD.aF (BD.aF hz)
theorem nW{P:Program}{f:FuncId}{args:Array Value}{w:World}{n:Nat}{v:Value}(h:Calls P f args (w.drewN n) fun e w'=>e= .returned v/\w.drewN n=w'):Calls P f args (w.drewN n) fun e w''=>e= .returned v/\∃m,w''=w.drewN m:=
 h.mono fun _ _ ⟨he,hm⟩=>⟨he,n,hm.symm⟩
def bL.qN(y:bL)(br:Int)(v:MT)(pt:Int):bL:={y with done:=true,branch:=br,kind:=v.kind,num:=v.num,lA:=v.addr,lN:=v.parts.length,lC:=v.cap,partner:=pt}
def gN(x:WS)(k br:Int)(v:MT)(pt:Int)(er:Int)(x':WS):Prop:=
 (¬(0<=k/\k<(x.sys.length:Int))/\er=4/\x'=x)\/∃(n:Nat) (hn:n<x.sys.length),k=(n:Int)/\
  ((¬((0<=br/\br<(x.sys[n].gm:Int))/\v.plain.Ok/\(-1<=pt/\pt<(x.sys.length:Int)))/\er=2/\x'=x)\/
  (((0<=br/\br<(x.sys[n].gm:Int))/\v.plain.Ok/\(-1<=pt/\pt<(x.sys.length:Int)))/\((x.sys[n].done=true/\er=160/\x'=x)\/
   (x.sys[n].done=false/\er=0/\∃v':MT,v'.plain=v.plain/\x'=(x.knows (fun W=>∀t∈[v'],t.In W)).eP n (x.sys[n].qN br v' pt)))))
def iq(x:WS)(k br:Int)(v:MT)(pt:Int)(b5 b6 b7 b8 b9:Nat):List ai:=[wB x b5,kB b6 k,kB b7 br,box b8 45 #[v.kind,v.num,.slice v.addr v.parts.length v.cap],kB b9 pt]
theorem BD.iq{T:List Nat}{w0 w:World}{x:WS}{m:List ai}{k br:Int}{v:MT}{pt:Int}{b5 b6 b7 b8 b9:Nat}{r:List ai}(h:BD T w0 w (m++(iq x k br v pt b5 b6 b7 b8 b9++r))):
  (w.cell? ⟨b5,0,none⟩=some (.pointer (some ⟨x.wb,0,none⟩))/\w.cell? ⟨b6,0,none⟩=some (.int .i64 k)/\w.cell? ⟨b7,0,none⟩=some (.int .i64 br)/\w.cell? ⟨b8,0,none⟩=some (.int .i64 v.kind)/\w.cell? ⟨b8,1,none⟩=some (.int .i64 v.num)/\w.cell? ⟨b8,2,none⟩=some (.slice v.addr v.parts.length v.cap)/\w.cell? ⟨b9,0,none⟩=some (.int .i64 pt))/\b5<w.heap.size/\b6<w.heap.size/\b7<w.heap.size/\b8<w.heap.size/\b9<w.heap.size:=by
 have h5:=h.box m.length (b:=b5) (t:=25) (cs:=#[.pointer (some ⟨x.wb,0,none⟩)]) (by simp[Proofs.YtddnnapoaonmjaaGreatDoor.iq,wB]);have h6:=h.box (m.length+1) (b:=b6) (t:=3) (cs:=#[.int .i64 k]) (by simp[Proofs.YtddnnapoaonmjaaGreatDoor.iq,kB]);have h7:=h.box (m.length+2) (b:=b7) (t:=3) (cs:=#[.int .i64 br]) (by simp[Proofs.YtddnnapoaonmjaaGreatDoor.iq,kB]);have h8:=h.box (m.length+3) (b:=b8) (t:=45) (cs:=#[.int .i64 v.kind,.int .i64 v.num,.slice v.addr v.parts.length v.cap]) (by simp[Proofs.YtddnnapoaonmjaaGreatDoor.iq]);have h9:=h.box (m.length+4) (b:=b9) (t:=3) (cs:=#[.int .i64 pt]) (by simp[Proofs.YtddnnapoaonmjaaGreatDoor.iq,kB]);exact⟨⟨h5.cell 0,h6.cell 0,h7.cell 0,h8.cell 0,h8.cell 1,h8.cell 2,h9.cell 0⟩,h5.lt,h6.lt,h7.lt,h8.lt,h9.lt⟩
theorem BD.comNe{T:List Nat}{w0 w:World}{x:WS}{k br:Int}{v:MT}{pt:Int}{b5 b6 b7 b8 b9 g:Nat}(h:BD T w0 w (x.ts++Proofs.YtddnnapoaonmjaaGreatDoor.iq x k br v pt b5 b6 b7 b8 b9))(hg:x.a3=some ⟨g,0,none⟩):b5≠g/\b7≠g/\b8≠g/\b9≠g:=by
 have hr:(x.ts++Proofs.YtddnnapoaonmjaaGreatDoor.iq x k br v pt b5 b6 b7 b8 b9)[5]? =some (aS 61 11 (.slice (some ⟨g,0,none⟩) x.sys.length x.c3) x.sys.length (aU x.sys)):=by rw[<-hg];rfl
 have hl:6<=x.ts.length:=by simp[WS.ts,WS.head]
 have h5:=h.ol 5 (x.ts.length) (b:=b5) (t:=25) (cs:=#[.pointer (some ⟨x.wb,0,none⟩)]) hr (by simp[Proofs.YtddnnapoaonmjaaGreatDoor.iq,wB]) (by omega);have h7:=h.ol 5 (x.ts.length+2) (b:=b7) (t:=3) (cs:=#[.int .i64 br]) hr (by simp[Proofs.YtddnnapoaonmjaaGreatDoor.iq,kB]) (by omega);have h8:=h.ol 5 (x.ts.length+3) (b:=b8) (t:=45) (cs:=#[.int .i64 v.kind,.int .i64 v.num,.slice v.addr v.parts.length v.cap]) hr (by simp[Proofs.YtddnnapoaonmjaaGreatDoor.iq]) (by omega);have h9:=h.ol 5 (x.ts.length+4) (b:=b9) (t:=3) (cs:=#[.int .i64 pt]) hr (by simp[Proofs.YtddnnapoaonmjaaGreatDoor.iq,kB]) (by omega);exact⟨Ne.symm h5,Ne.symm h7,Ne.symm h8,Ne.symm h9⟩
theorem BD.fV{T:List Nat}{w0 w:World}{x:WS}{r0:List ai}(h:BD T w0 w (x.ts++r0))(n:Nat)(hn:n<x.sys.length)(g:Nat)(hg:x.a3=some ⟨g,0,none⟩)(j:Nat)(hj:j<11)(u:Value)(y v':bL)(hy:x.sys[n]=y)(hv:y.cells.set j u=v'.cells):
  BD T w0 (w.setCell ⟨g,n*11+j,none⟩ u) ((x.eP n v').ts++r0):=h.wK n hn g hg j hj u v' (by rw[hy];exact hv)
theorem WS.dD(x:WS)(n:Nat)(a b:bL):(x.eP n a).eP n b=x.eP n b:=by simp[WS.eP]
theorem WS.eX(x:WS)(n:Nat)(hn:n<x.sys.length)(a:bL):(x.eP n a).sys[n]'(by simpa[WS.eP]using hn)=a:=by simp[WS.eP]
theorem BD.M8{T:List Nat}{w0 w:World}{x:WS}{r0:List ai}(h:BD T w0 w (x.ts++r0))(n:Nat)(hn:n<x.sys.length)(g:Nat)(hg:x.a3=some ⟨g,0,none⟩)(y:bL)(hy:x.sys[n]=y)(br:Int)(v:MT)(pt:Int):
  BD T w0 ((((((w.setCell ⟨g,n*11+5,none⟩ (.bool true)).setCell ⟨g,n*11+6,none⟩ (.int .i64 br)).setCell ⟨g,n*11+7,none⟩ (.int .i64 v.kind)).setCell ⟨g,n*11+8,none⟩ (.int .i64 v.num)).setCell ⟨g,n*11+9,none⟩ (.slice v.addr v.parts.length v.cap)).setCell ⟨g,n*11+10,none⟩ (.int .i64 pt)) ((x.eP n (y.qN br v pt)).ts++r0):=by
 have hl:∀a,n<(x.eP n a).sys.length:=fun a=>by simpa[WS.eP]using hn
 have h1:=h.fV n hn g hg 5 (by omega) (.bool true) y {y with done:=true} hy rfl;have h2:=h1.fV n (hl _) g hg 6 (by omega) (.int .i64 br) _ {y with done:=true,branch:=br} (x.eX n hn _) rfl;rw[WS.dD]at h2;have h3:=h2.fV n (hl _) g hg 7 (by omega) (.int .i64 v.kind) _ {y with done:=true,branch:=br,kind:=v.kind} (x.eX n hn _) rfl;rw[WS.dD]at h3;have h4:=h3.fV n (hl _) g hg 8 (by omega) (.int .i64 v.num) _ {y with done:=true,branch:=br,kind:=v.kind,num:=v.num} (x.eX n hn _) rfl;rw[WS.dD]at h4;have h5:=h4.fV n (hl _) g hg 9 (by omega) (.slice v.addr v.parts.length v.cap) _ {y with done:=true,branch:=br,kind:=v.kind,num:=v.num,lA:=v.addr,lN:=v.parts.length,lC:=v.cap} (x.eX n hn _) rfl;rw[WS.dD]at h5;have h6:=h5.fV n (hl _) g hg 10 (by omega) (.int .i64 pt) _ (y.qN br v pt) (x.eX n hn _) rfl;rw[WS.dD]at h6;exact h6
def wY(T:List Nat)(w:World)(x:WS)(k br:Int)(v:MT)(pt:Int)(b5 b6 b7 b8 b9:Nat)(en:Ending)(w':World):Prop:=∃er l' x',gN x k br v pt er x'/\l'=x'.ts++iq x k br v pt b5 b6 b7 b8 b9/\l5 T w er l' en w'
theorem Bo(T:List Nat)(w:World)(x:WS)(k br:Int)(v:MT)(pt:Int)(b5 b6 b7 b8 b9:Nat)(h:BD T w w (x.ts++iq x k br v pt b5 b6 b7 b8 b9))(hv:∀W,x.P W->v.In W)(hlen:x.sys.length<=1000000):
  Calls prog 131 #[b5,b6,b7,b8,b9] w (wY T w x k br v pt b5 b6 b7 b8 b9):=by
 have BG:=hdq h;have HV:=hdq hv;clear h hv;obtain⟨⟨p5,p6,p7,p8,q8,r8,p9⟩,z5,z6,z7,z8,z9⟩:=BD.iq (r:=[]) (by simpa only[List.append_nil]using BG.o);by_cases hk:0<=k/\k<(x.sys.length:Int)
 .obtain⟨n,rfl⟩:=Int.eq_ofNat_of_zero_le hk.1
  have hnk:n<x.sys.length:=by omega
  clear hk;obtain⟨g3,hg3,hx⟩:=BG.o.dU n hnk;clear hx;have HC:=hdq (BG.o.nC n hnk g3 hg3);have HG:=hdq hg3;clear hg3;obtain⟨ba,hba⟩:∃u,x.sys[n].jr=u:=⟨_,rfl⟩;obtain⟨bn,hbn⟩:∃u,x.sys[n].gm=u:=⟨_,rfl⟩;obtain⟨bc,hbc⟩:∃u,x.sys[n].jv=u:=⟨_,rfl⟩;obtain⟨dn,hdn⟩:∃u,x.sys[n].done=u:=⟨_,rfl⟩;have HB:=hdq hba;have HBN:=hdq hbn;have HBC:=hdq hbc;have HD:=hdq hdn;clear hba hbn hbc hdn;have HE2:Hid (¬((0<=br/\br<(bn:Int))/\v.plain.Ok/\(-1<=pt/\pt<(x.sys.length:Int)))->gN x (n:Int) br v pt 2 x):=fun hno=> .inr ⟨n,hnk,rfl,.inl ⟨by rw[HBN.o];exact hno,rfl,rfl⟩⟩;have OI:Hid (((0<=br/\br<(bn:Int))/\v.plain.Ok/\(-1<=pt/\pt<(x.sys.length:Int)))->dn=true->gN x (n:Int) br v pt 160 x):=fun hy hd=> .inr ⟨n,hnk,rfl,.inr ⟨by rw[HBN.o];exact hy,.inl ⟨HD.o.trans hd,rfl,rfl⟩⟩⟩;have HE0:Hid (((0<=br/\br<(bn:Int))/\v.plain.Ok/\(-1<=pt/\pt<(x.sys.length:Int)))->dn=false->∀v':MT,v'.plain=v.plain->gN x (n:Int) br v pt 0 ((x.knows (fun W=>∀t∈[v'],t.In W)).eP n (x.sys[n].qN br v' pt))):=fun hy hd v' hv'=> .inr ⟨n,hnk,rfl,.inr ⟨by rw[HBN.o];exact hy,.inr ⟨HD.o.trans hd,rfl,v',hv',rfl⟩⟩⟩;go_enter func131,ntmps131
  go_wp2_with fail
  refine HC.o.mono ?_;rintro e w1 ⟨rfl,ht⟩;have BB:=hdq (BG.o.touch ht);clear ht HC BG;clear p5 p6 p7 p8 q8 r8 p9 z5 z6 z7 z8 z9;obtain⟨⟨p5,p6,p7,p8,q8,r8,p9⟩,z5,z6,z7,z8,z9⟩:=BD.iq (r:=[]) (by simpa only[List.append_nil]using BB.o);have f1:w1.cell? ⟨g3,n*11+1,none⟩=some (.slice ba bn bc):=HB.o▸HBN.o▸HBC.o▸BB.o.jA n hnk g3 HG.o 1 (by omega);have zg:g3<w1.heap.size:=World.block_lt_of_cell? _ _ f1;by_cases hc1:0<=br
  .by_cases hc2:br<(bn:Int)
   .skip
    go_wp2_with fail
    go_quiet ((go_at_call 80;exact nW (require_ok _ _)))
    refine ax (Q:=Exit.then _ _) ?_;intro w2 hw2;have HL2:=hdq ((BB.o.drewN _).toW hw2);have D6:Hid (0<=br/\br<(bn:Int)):=⟨hc1,hc2⟩;clear hw2 BB f1 zg;clear p5 p6 p7 p8 q8 r8 p9 z5 z6 z7 z8 z9;obtain⟨⟨p5,p6,p7,p8,q8,r8,p9⟩,z5,z6,z7,z8,z9⟩:=BD.iq (r:=[]) (by simpa only[List.append_nil]using HL2.o);go_wp2_with fail
    refine(jH v w2 (HV.o _ (HL2.o.still 2 rfl))).mono ?_;rintro e w3 ⟨⟨z,rfl,hz,hiff⟩,ht⟩;have BF:=hdq (HL2.o.touch ht);clear ht HL2;clear p5 p6 p7 p8 q8 r8 p9 z5 z6 z7 z8 z9;obtain⟨⟨p5,p6,p7,p8,q8,r8,p9⟩,z5,z6,z7,z8,z9⟩:=BD.iq (r:=[]) (by simpa only[List.append_nil]using BF.o);by_cases hvo:v.plain.Ok
    .obtain rfl:=hiff.2 hvo
     have HVO:=hdq hvo;clear hvo hz hiff hc1 hc2;go_wp2_with fail
     refine(require_ok _ _).mono ?_;rintro e wq ⟨rfl,rfl⟩;dsimp only;obtain⟨w0',w1',w2',w3'⟩:=BF.o.Cb;have zw:=BF.o.Cb.lt;clear w0' w1' w2';by_cases hc1:(-1:Int)<=pt
     .by_cases hc2:pt<(x.sys.length:Int)
      .skip
       go_wp2_with fail
       go_quiet ((go_at_call 80;exact nW (require_ok _ _)))
       refine ax (Q:=Exit.then _ _) ?_;intro w4 hw4;have BH:=hdq ((BF.o.drewN _).toW hw4);have EC:Hid ((0<=br/\br<(bn:Int))/\v.plain.Ok/\(-1<=pt/\pt<(x.sys.length:Int))):=⟨⟨D6.o.1,D6.o.2⟩,HVO.o,⟨hc1,hc2⟩⟩;clear hw4 BF HE2 hc1 hc2;clear p5 p6 p7 p8 q8 r8 p9 z5 z6 z7 z8 z9;obtain⟨⟨p5,p6,p7,p8,q8,r8,p9⟩,z5,z6,z7,z8,z9⟩:=BD.iq (r:=[]) (by simpa only[List.append_nil]using BH.o);have f5:w4.cell? ⟨g3,n*11+5,none⟩=some (.bool dn):=HD.o▸BH.o.jA n hnk g3 HG.o 5 (by omega);have zg:g3<w4.heap.size:=World.block_lt_of_cell? _ _ f5;go_wp2_with fail
       cases dn with
       |true=>
        refine(aY _ _).mono ?_;rintro e wq ⟨rfl,rfl⟩;dsimp only;exact⟨rfl,160,_,x,OI.o EC.o rfl,rfl,⟨0,160,.inr ⟨rfl,rfl⟩,rfl⟩,BH.o⟩
       |false=>
        refine(require_ok _ _).mono ?_;rintro e wq ⟨rfl,rfl⟩;dsimp only;have LU:Hid (∀W,Touch [] w4 W->Calls prog 133 #[v.val] W (yu v W)):=fun W hW=>qG v W (HV.o _ ((BH.o.touch hW).still 2 rfl)) (by rw[<-MT.cu];exact EC.o.2.1.1);have HE:=hdq (HE0.o EC.o rfl);have BZ:=hdq (Touch.refl [] w4).drew;obtain⟨n5,n7,n8,n9⟩:=BH.o.comNe HG.o;have m7:=Ne.symm n7;have m8:=Ne.symm n8;have m9:=Ne.symm n9;clear HE0 OI EC f5 HD;go_wp2_with fail
        refine hrq (S:=fun w'=>w'.cell? ⟨b7,0,none⟩=some (.int .i64 br)/\w'.cell? ⟨b8,0,none⟩=some (.int .i64 v.kind)/\w'.cell? ⟨b8,1,none⟩=some (.int .i64 v.num)/\w'.cell? ⟨b8,2,none⟩=some (.slice v.addr v.parts.length v.cap)/\w'.cell? ⟨b9,0,none⟩=some (.int .i64 pt)) fun hHeld=>?_;refine tkq 0 44 ?_;refine tkq 1 45 ?_;refine tkq 2 46 ?_;refine tkq 3 47 ?_;refine tkq 4 48 ?_;refine tkq 5 49 ?_;refine tkq 7 51 ?_;refine rdq 6 rfl fun K hK=>?_;go_simp;refine(LU.o _ BZ.o).mono ?_;rintro en w5 ⟨v',rfl,hp,hin,hnew,ht⟩;have Ca:=hdq (BH.o.drew.IB ht [v'] (by simpa using hin) (by simpa using hnew));have HE5:=hdq (HE.o v' hp);obtain⟨y,hy⟩:∃y,x.sys[n]=y:=⟨_,rfl⟩;have Db:=hdq (Ca.o.M8 (x:=x.knows _) n hnk g3 HG.o y hy br v' pt);rw[hy]at HE5;clear hp hin hnew ht HE LU BZ HB HBN HBC hHeld;clear p5 p6 p7 p8 q8 r8 p9 z5 z6 z7 z8 z9;obtain⟨⟨p5,p6,p7,p8,q8,r8,p9⟩,z5,z6,z7,z8,z9⟩:=BD.iq (r:=[]) (by simpa only[List.append_nil]using Ca.o);have f5:w5.cell? ⟨g3,n*11+5,none⟩=some (.bool y.done):=hy▸Ca.o.jA (x:=x.knows _) n hnk g3 HG.o 5 (by omega);have zf5:=Ca.o.om (x:=x.knows _) g3 HG.o (n*11+5);have f6:w5.cell? ⟨g3,n*11+6,none⟩=some (.int .i64 y.branch):=hy▸Ca.o.jA (x:=x.knows _) n hnk g3 HG.o 6 (by omega);have zf6:=Ca.o.om (x:=x.knows _) g3 HG.o (n*11+6);have f7:w5.cell? ⟨g3,n*11+7,none⟩=some (.int .i64 y.kind):=hy▸Ca.o.jA (x:=x.knows _) n hnk g3 HG.o 7 (by omega);have zf7:=Ca.o.om (x:=x.knows _) g3 HG.o (n*11+7);have f8:w5.cell? ⟨g3,n*11+8,none⟩=some (.int .i64 y.num):=hy▸Ca.o.jA (x:=x.knows _) n hnk g3 HG.o 8 (by omega);have zf8:=Ca.o.om (x:=x.knows _) g3 HG.o (n*11+8);have f9:w5.cell? ⟨g3,n*11+9,none⟩=some (.slice y.lA y.lN y.lC):=hy▸Ca.o.jA (x:=x.knows _) n hnk g3 HG.o 9 (by omega);have zf9:=Ca.o.om (x:=x.knows _) g3 HG.o (n*11+9);have f10:w5.cell? ⟨g3,n*11+10,none⟩=some (.int .i64 y.partner):=hy▸Ca.o.jA (x:=x.knows _) n hnk g3 HG.o 10 (by omega);have zf10:=Ca.o.om (x:=x.knows _) g3 HG.o (n*11+10);have zg:g3<w5.heap.size:=World.block_lt_of_cell? _ _ f5;clear BH;simp only[MT.val,MT.sl];go_simp;refine kpq hK.o fun hHeld=>?_;clear hK K;refine tkq 8 52 ?_;refine tkq 9 53 ?_;have hl1:∀a,n<((x.knows (fun W=>∀t∈[v'],t.In W)).eP n a).sys.length:=fun a=>by simpa[WS.eP,WS.knows]using hnk
        have HS5:=hdq (Ca.o.fV (x:=x.knows _) n hnk g3 HG.o 5 (by omega) (.bool true) y {y with done:=true} hy rfl);have HS6:=hdq (HS5.o.fV n (hl1 _) g3 HG.o 6 (by omega) (.int .i64 br) _ {y with done:=true,branch:=br} (WS.eX (x.knows _) n hnk _) rfl);rw[WS.dD]at HS6;have HS7:=hdq (HS6.o.fV n (hl1 _) g3 HG.o 7 (by omega) (.int .i64 v'.kind) _ {y with done:=true,branch:=br,kind:=v'.kind} (WS.eX (x.knows _) n hnk _) rfl);rw[WS.dD]at HS7;have HS8:=hdq (HS7.o.fV n (hl1 _) g3 HG.o 8 (by omega) (.int .i64 v'.num) _ {y with done:=true,branch:=br,kind:=v'.kind,num:=v'.num} (WS.eX (x.knows _) n hnk _) rfl);rw[WS.dD]at HS8;have HS9:=hdq (HS8.o.fV n (hl1 _) g3 HG.o 9 (by omega) (.slice v'.addr v'.parts.length v'.cap) _ {y with done:=true,branch:=br,kind:=v'.kind,num:=v'.num,lA:=v'.addr,lN:=v'.parts.length,lC:=v'.cap} (WS.eX (x.knows _) n hnk _) rfl);rw[WS.dD]at HS9;have Ns:=hdq (HS9.o.fV n (hl1 _) g3 HG.o 10 (by omega) (.int .i64 pt) _ (y.qN br v' pt) (WS.eX (x.knows _) n hnk _) rfl);rw[WS.dD]at Ns;clear Db;obtain⟨⟨_,_,s7,t7,u7,v7,s9⟩,_⟩:=BD.iq (r:=[]) (by simpa only[List.append_nil]using HS5.o);refine rdq 10 rfl fun K hK=>?_;go_simp;refine hK.o _ _ ⟨s7,t7,u7,v7,s9⟩ (fun hHeld=>?_);clear hK K s7 t7 u7 v7 s9;(try simp only[Act.put,sAq,sZq,sSq])
        refine tkq 11 54 ?_;refine tkq 12 55 ?_;obtain⟨⟨_,_,s7,t7,u7,v7,s9⟩,_⟩:=BD.iq (r:=[]) (by simpa only[List.append_nil]using HS6.o);refine rdq 13 rfl fun K hK=>?_;go_simp;refine hK.o _ _ ⟨s7,t7,u7,v7,s9⟩ (fun hHeld=>?_);clear hK K s7 t7 u7 v7 s9;(try simp only[Act.put,sAq,sZq,sSq])
        refine tkq 14 56 ?_;refine tkq 15 57 ?_;obtain⟨⟨_,_,s7,t7,u7,v7,s9⟩,_⟩:=BD.iq (r:=[]) (by simpa only[List.append_nil]using HS9.o);refine rdq 16 rfl fun K hK=>?_;go_simp;refine hK.o _ _ ⟨s7,t7,u7,v7,s9⟩ (fun hHeld=>?_);clear hK K s7 t7 u7 v7 s9;(try simp only[Act.put,sAq,sZq,sSq])
        refine tkq 17 58 ?_;refine tkq 18 59 ?_;obtain⟨⟨_,_,s7,t7,u7,v7,s9⟩,_⟩:=BD.iq (r:=[]) (by simpa only[List.append_nil]using Ns.o);refine rdq 19 rfl fun K hK=>?_;go_simp;refine hK.o _ _ ⟨s7,t7,u7,v7,s9⟩ (fun hHeld=>?_);clear hK K s7 t7 u7 v7 s9;(try simp only[Act.put,sAq,sZq,sSq])
        refine dxq Ns fun w7 C8=>?_;clear HS5 HS6 HS7 HS8 HS9 Ns Ca f5 f6 f7 f8 f9 f10 zf5 zf6 zf7 zf8 zf9 zf10 zg hHeld p5 p6 p7 p8 q8 r8 p9;go_wp2;go_ret
        exact⟨0,_,_,HE5.o,rfl,⟨0,0,.inl ⟨rfl,rfl⟩,rfl⟩,C8.o⟩
      .have hd2:decide (pt<(x.sys.length:Int))=false:=decide_eq_false hc2
       go_wp2_with fail
       refine hrq (S:=fun w'=>w'.cell? ⟨b9,0,none⟩=some (.int .i64 pt)/\w'.cell? ⟨b5,0,none⟩=some (.pointer (some ⟨x.wb,0,none⟩))/\w'.cell? ⟨x.wb,3,none⟩=some (.slice x.a3 x.sys.length x.c3)) fun hHeld=>?_;refine tkq 0 26 ?_;refine tkq 1 27 ?_;refine tkq 2 28 ?_;refine tkq 3 29 ?_;refine tkq 4 30 ?_;refine tkq 5 31 ?_;refine tkq 6 32 ?_;refine tkq 7 33 ?_;refine tkq 8 34 ?_;refine tkq 9 35 ?_;refine tkq 10 36 ?_;refine rdq 11 rfl fun K hK=>?_;go_simp;(try rw[hd2])
       refine(aY _ _).mono ?_;rintro en wq ⟨rfl,rfl⟩;dsimp only;exact⟨rfl,2,_,x,HE2.o (fun h=>(fun h=>absurd h.2 (by omega)) h.2.2),rfl,⟨0,2,.inr ⟨rfl,rfl⟩,rfl⟩,BF.o.drew⟩
     .have hd1:decide ((-1:Int)<=pt)=false:=decide_eq_false hc1
      go_wp2_with fail
      refine hrq (S:=fun w'=>w'.cell? ⟨b9,0,none⟩=some (.int .i64 pt)/\w'.cell? ⟨b5,0,none⟩=some (.pointer (some ⟨x.wb,0,none⟩))/\w'.cell? ⟨x.wb,3,none⟩=some (.slice x.a3 x.sys.length x.c3)) fun hHeld=>?_;refine tkq 0 26 ?_;refine tkq 1 27 ?_;refine tkq 2 28 ?_;refine skq 3 29 ?_;refine skq 4 30 ?_;refine skq 5 31 ?_;refine skq 6 32 ?_;refine skq 7 33 ?_;refine skq 8 34 ?_;refine skq 9 35 ?_;refine tkq 10 36 ?_;refine rdq 11 rfl fun K hK=>?_;go_simp;(try rw[hd1])
      refine(aY _ _).mono ?_;rintro en wq ⟨rfl,rfl⟩;dsimp only;exact⟨rfl,2,_,x,HE2.o (fun h=>(fun h=>absurd h.1 (by omega)) h.2.2),rfl,⟨0,2,.inr ⟨rfl,rfl⟩,rfl⟩,BF.o.drew⟩
    .obtain rfl:z=40:=hz.resolve_left (fun h=>hvo (hiff.1 h))
     go_wp2_with fail
     refine(aY _ _).mono ?_;rintro e wq ⟨rfl,rfl⟩;dsimp only;exact⟨rfl,2,_,x,HE2.o (fun h=>hvo h.2.1),rfl,⟨0,2,.inr ⟨rfl,rfl⟩,rfl⟩,BF.o⟩
   .have hd2:decide (br<(bn:Int))=false:=decide_eq_false hc2
    go_wp2_with fail
    refine hrq (S:=fun w'=>w'.cell? ⟨b7,0,none⟩=some (.int .i64 br)/\w'.cell? ⟨g3,n*11+1,none⟩=some (.slice ba bn bc)) fun hHeld=>?_;refine tkq 0 10 ?_;refine tkq 1 11 ?_;refine tkq 2 12 ?_;refine tkq 3 13 ?_;refine tkq 4 14 ?_;refine tkq 5 15 ?_;refine tkq 6 16 ?_;refine tkq 7 17 ?_;refine tkq 8 18 ?_;refine tkq 9 19 ?_;refine tkq 10 20 ?_;refine rdq 11 rfl fun K hK=>?_;go_simp;(try rw[hd2])
    refine(aY _ _).mono ?_;rintro en wq ⟨rfl,rfl⟩;dsimp only;exact⟨rfl,2,_,x,HE2.o (fun h=>(fun h=>absurd h.2 (by omega)) h.1),rfl,⟨0,2,.inr ⟨rfl,rfl⟩,rfl⟩,BB.o.drew⟩
  .have hd1:decide (0<=br)=false:=decide_eq_false hc1
   go_wp2_with fail
   refine hrq (S:=fun w'=>w'.cell? ⟨b7,0,none⟩=some (.int .i64 br)/\w'.cell? ⟨g3,n*11+1,none⟩=some (.slice ba bn bc)) fun hHeld=>?_;refine tkq 0 10 ?_;refine tkq 1 11 ?_;refine tkq 2 12 ?_;refine skq 3 13 ?_;refine skq 4 14 ?_;refine skq 5 15 ?_;refine skq 6 16 ?_;refine skq 7 17 ?_;refine skq 8 18 ?_;refine skq 9 19 ?_;refine tkq 10 20 ?_;refine rdq 11 rfl fun K hK=>?_;go_simp;(try rw[hd1])
   refine(aY _ _).mono ?_;rintro en wq ⟨rfl,rfl⟩;dsimp only;exact⟨rfl,2,_,x,HE2.o (fun h=>(fun h=>absurd h.1 (by omega)) h.1),rfl,⟨0,2,.inr ⟨rfl,rfl⟩,rfl⟩,BB.o.drew⟩
 .have HE:Hid (gN x k br v pt 4 x):= .inl ⟨hk,rfl,rfl⟩
  have E9:=hdq (BG.o.fE k hk);clear hk;go_enter func131,ntmps131
  go_wp2_with fail
  refine E9.o.mono ?_;rintro e w1 ⟨rfl,ht⟩;dsimp only;exact⟨rfl,4,_,x,HE.o,rfl,⟨0,4,.inr ⟨rfl,rfl⟩,rfl⟩,BG.o.touch ht⟩
theorem qz(T:List Nat)(w:World)(x:WS)(k br:Int)(v:MT)(pt:Int)(h:BD T w w x.ts)(hv:∀W,x.P W->v.In W)(hlen:x.sys.length<=1000000):
  Calls prog 40 #[x.wb,k,br,v.val,pt] w fun en w'=>∃er x',en= .returned (.int .i64 er)/\gN x k br v pt er x'/\BD T w w' x'.ts:=by
 have Ep:= @mfq;have BG:=hdq h;clear h;simp only[MT.val,MT.sl];go_enter func40,ntmps40
 go_wp2_with fail
 refine ah ?_;intro w1 hw1;have BB:=hdq ((((((BG.o.alloc 25 #[x.wb]).alloc 3 #[k]).alloc 3 #[br]).alloc 45 #[v.kind,v.num,.slice v.addr v.parts.length v.cap]).alloc 3 #[pt]).toW hw1);simp only[World.size_alloc,List.append_assoc,cAq,nAq]at BB;generalize FK:w.heap.size+1+1+1+1=b9 at BB|-;generalize Kj:w.heap.size+1+1+1=b8 at BB|-;generalize EF:w.heap.size+1+1=b7 at BB|-;generalize hb6:w.heap.size+1=b6 at BB|-;generalize hb5:w.heap.size=b5 at BB|-;clear hw1 FK Kj EF hb6 hb5 BG;refine(yJ T w w1 _ _ _ (fun er l'=>∃x',gN x k br v pt er x'/\l'=x'.ts++iq x k br v pt b5 b6 b7 b8 b9) BB.o (enters_of func131 (by kernel_rfl) rfl) (fun T' W hW=>?_)).mono ?_
 .refine(Bo T' W x k br v pt b5 b6 b7 b8 b9 hW hv hlen).mono ?_
  rintro en w' ⟨er,l',x',hx,rfl,ht⟩;exact⟨er,_,⟨x',hx,rfl⟩,ht⟩
 rintro en w' ⟨er,l',rfl,⟨x',hx,rfl⟩,hL⟩;have HL2:=hdq hL.aF;have HX:=hdq hx;clear hL BB hx;dsimp only;go_wp2;go_ret
 exact⟨er,x',rfl,HX.o,HL2.o⟩
end Go.Proofs.YtddnnapoaonmjaaGreatDoor
