/-
  Texts of WorldCopies, laid together by program.
-/
import Derived.Test.YtddnnapoaonmjaaGreatDoorWZ15
namespace Go.Proofs.YtddnnapoaonmjaaGreatDoor
open Go.RowKit Go.Shelf Go.Proofs.Tryz
set_option maxRecDepth 100000
set_option maxHeartbeats 8000000
set_option linter.unusedVariables false
set_option linter.unusedSimpArgs false
section
attribute [local go_sem] Oper.semAt_some
theorem JZ.touch{w w':World}{bx:Nat}{a:Option Addr}{cap:Nat}{ys:List ME}(h:JZ w bx a cap ys)(ht:Touch [] w w'):JZ w' bx a cap ys:=
 ⟨Cg.touch h.1 ht (by simp),h.2.1.touch ht,fun y hy=>(h.2.2 y hy).aO ht⟩
theorem ZE(fn:Fn)(x y:Array Value)(w:World):(binOp .eql 67 (.func fn x y) .nilFunc).run prog w= .ok (.bool false) w:=by kernel_rfl
theorem qI{x y:ME}(h:y.plain=x.plain):x.v.nodes=y.v.nodes:=by
 rw[<-MT.cu x.v,<-MT.cu y.v,show x.v.plain=x.plain.v from rfl,<-h];rfl
def aal(a2:Option Addr)(n2 c2 many b4 b5 b6 b7:Nat)(k:Nat):List ai:=
 [box b4 70 #[.slice a2 n2 c2],box b5 3 #[(many:Int)],box b6 4 #[false],box b7 3 #[(k:Int)],fact (k=0\/k<many)]
end
section
attribute [local go_sem] Oper.semAt_some
abbrev aaX(D y:Nat):ai:=box y 146 #[.func (.yield (D+1)) #[] #[]]
def wiE(D y:Nat)(o:Obj):List ai:=[aaX D y]++marks (y+1) o
abbrev WIt:Type:=Option (Nat×Option (Option ME×Nat×Obj))
def wiR(R:Nat->List ai)(D:Nat):WIt->List ai
 |none=>R 0
 |some (k,none)=>R k
 |some (k,some (none,y,o))=>R k++wiE D y o
 |some (k,some (some x,y,o))=>R k++[bS [x.v]]++wiE D y o
def wiXl(D:Nat)(lx:List ai):WIt->Option (List ai)
 |none=>none
 |some (_,none)=>some lx
 |some (_,some (_,y,o))=>some (lx++wiE D y o)
def wiX(T:List Nat)(w0:World)(D:Nat)(X:Code->List ai->Prop)(c:Code)(b:WIt)(W:World):Prop:=∃lx l,X c lx/\wiXl D lx b=some l/\BD T w0 W (l++Y0 D)
section
variable {T:List Nat} {w0 w:World} {l:List ai} {D y:Nat} {o o':Obj}
theorem BD.aaB{m:List ai}(h:BD T w0 w (l++wiE D y o++m)):BD T w0 (w.putObj (y+2) o') (l++wiE D y o'++m):=by
 have h1:BD T w0 w ((l++[aaX D y])++marks (y+1) o++m):=by simpa[wiE]using h
 have h2:=h1.Zh (o':=o');simpa[wiE]using h2
theorem BD.wiAt{m:List ai}(h:BD T w0 w (l++wiE D y o++m)):w.heap[y+1]? =some (.deferred (some []))/\w.heap[y+2]? =some o/\Cg w y 146 #[.func (.yield (D+1)) #[] #[]]:=by
 have h1:BD T w0 w ((l++[aaX D y])++marks (y+1) o++m):=by simpa[wiE]using h
 have h2:=h1.Ze;exact⟨h2.1,h2.2,h.box l.length (by simp[wiE])⟩
theorem BD.aaR{m:List ai}(h:BD T w0 w (l++wiE D y o++m)):BD T w0 (w.putObj (y+1) (.deferred none)) (l++m):=by
 have h1:=h.shut (l.length+1) (D:=y+1) (by simp[wiE,marks]);have e:(l++wiE D y o++m).set (l.length+1) (some1 (y+1))=l++[aaX D y,some1 (y+1),fZ (y+2) o]++m:=by
  simp[wiE,marks,List.set_append]
 rw[e]at h1;exact h1.aB.aF
end
theorem aav{n:Nat}{gop:Operand}{ps:Array Tmp}{assign body:Code}{Q:Exit->Act->World->Prop}{a:Act}{w w0:World}{T:List Nat}{bv bx:Nat}{ra:Option Addr}{rc:Nat}{ys:List ME}(hg:a.eval gop= .func (.func 75) #[] #[bv])(hps:ps.size=2)(hL:ys.length<=1048576)(hnn:∀y∈ys,y.v.nodes<=256)(R:Nat->List ai)(X:Code->List ai->Prop)(hA:∀W,Touch T w0 W->JZ W bx ra rc ys/\W.cell? ⟨bv,0,none⟩=some (.func (.func 251) #[] #[bx]))(h0:BD T w0 w (R 0))(Y7:∀(k:Nat) (x:ME) (W:World) (o0:Obj) (E:List ai),E.length=3->k<ys.length->(ys.map ME.plain)[k]? =some x.plain->BD T w0 W (R k++[bS [x.v]]++E++marks w.heap.size o0)->
   assign.wpIn (Fence.wide.inRound (w.heap.size+1)) (n-1-1) prog (Exit.then (fun a1 W1=>∃m,BD T w0 W1 (R k++[bS [x.v]]++E++marks w.heap.size o0++m)/\
    ∀W2 o,BD T w0 W2 (R k++[bS [x.v]]++E++marks w.heap.size o++m)->body.wpIn (Fence.wide.inRound (w.heap.size+1)) (n-1-1) prog (ZN T w0 w.heap.size o (R (k+1)++E) (fun c l=>∃lx,l=lx++E/\X c lx)) a1 W2) (fun _ _ _=>False))
    {tmps:=(ps.zip #[.int .i64 (k:Int),x.val]).foldl (fun t (p,v)=>t.setIfInBounds p v) a.tmps,defers:=[]} W)(hdone:∀W,BD T w0 W (R ys.length++Y0 w.heap.size)->Q .normal {a with defers:={target:= .collected w.heap.size,args:=#[]}::a.defers} W)(hstop:∀c W lx,X c lx->BD T w0 W (lx++Y0 w.heap.size)->c.wpIn Fence.wide n prog Q {a with defers:={target:= .collected w.heap.size,args:=#[]}::a.defers} W):
  (Code.rangeFunc gop ps assign body).wpIn Fence.wide n prog Q a w:=by
 refine Wl (β:=WIt) hg (enters_of func75 (by kernel_rfl) rfl) (fun b W=>BD T w0 W (wiR R w.heap.size b++Y0 w.heap.size)) (wiX T w0 w.heap.size X) (fun b=>b=some (ys.length,none))
  (fun b xs b'=>∃k x y o,b=some (k,some (some x,y,o))/\k<ys.length/\(ys.map ME.plain)[k]? =some x.plain/\xs=#[.int .i64 (k:Int),x.val]/\b'=some (k+1,some (none,y,o)))
  (fun b xs b' ⟨_,_,_,_,_,_,_,hx,_⟩=>by rw[hx,hps];rfl) (fun b W o h=>h.Zl) (fun c b W o ⟨lx,l,hx,hl,h⟩=>⟨lx,l,hx,hl,h.Zl⟩) none (fun o=>h0.loop o) ?_ ?_ (fun b W hF hj _ _=>by subst hF;exact hdone W hj) ?_
 .rintro b xs b' W ⟨k,x,y,o1,rfl,hk,hp,rfl,rfl⟩ hj hlt
  obtain⟨o0,ho⟩:=BD.Y3 hj;refine wpIn_mono (Y7 k x W o0 (wiE w.heap.size y o1) rfl hk hp ho) ?_;rintro ex a1 Wa hpost;cases ex with
  |ret=>exact hpost
  |exit id=>exact hpost
  |goto t=>exact hpost
  |panic ch=>exact hpost
  |outgrown=>exact hpost
  |normal=>
   obtain⟨m,hL,hb⟩:=hpost;refine⟨BD.kept (m:=[]) (by simpa using ho) hL,fun o=>?_⟩;have hL2:=hL.Zh (o':=o);refine wpIn_mono (hb _ o hL2) ?_;rintro e a3 W3 hp;cases e with
   |normal=>obtain⟨m3,h3⟩:=hp;exact⟨hL2.kept h3,h3.aF.Y1⟩
   |ret=>obtain⟨_,m3,⟨lx,rfl,hx⟩,h3⟩:=hp;exact⟨hL2.kept h3,lx,_,hx,rfl,h3.aF.Y1⟩
   |exit id=>obtain⟨_,m3,⟨lx,rfl,hx⟩,h3⟩:=hp;exact⟨hL2.kept h3,lx,_,hx,rfl,h3.aF.Y1⟩
   |goto t=>obtain⟨_,m3,⟨lx,rfl,hx⟩,h3⟩:=hp;exact⟨hL2.kept h3,lx,_,hx,rfl,h3.aF.Y1⟩
   |panic ch=>exact hp
   |outgrown=>exact hp
 .intro J' Zu hJ hC hJx hCx hY W hW'
  generalize w.heap.size=D at *;have hJL:∀b W,J' b W->BD T w0 W (wiR R D b++Y0 D):=fun b W h=>(hJ b W h).1;have hlt:D+1<W.heap.size:=(hJ none W hW').2;have hrec:=hJL none W hW';obtain⟨hAll,hv⟩:=hA W hrec.BN;have HC:=hdq hC;have HJ:=hdq hJL;have HLT:=hdq (fun b W h=>(hJ b W h).2);have HJX:=hdq hJx;have HCX:=hdq hCx;have HYY:=hdq hY;have HW:=hdq hW';have HRR:=hdq hrec;have HAA:=hdq hA;refine callsIn_of_wp_marks func75 rfl trivial ?_ rfl;simp only[ntmps75,List.size_toArray,List.length_cons,List.length_nil,Nat.reduceAdd,Nat.reduceSub,Array.replicate_succ,Array.replicate_zero,List.push_toArray,List.append_toArray,nAq,cAq];have z1:bv<W.heap.size:=World.block_lt_of_cell? _ _ hv;have z2:bv<W.heap.size+1:=by omega
  have h1:=HRR.o.alloc 146 #[.func (.yield (D+1)) #[] #[]];have HKT:=hdq ((Touch.refl [] W).alloc (.cells #[.func (.yield (D+1)) #[] #[]] 146));gi_wp2_with fail
  refine Y9 ?_;gi_wp2_with fail
  refine wpIn_label ?_;gi_wp2_with fail
  refine ZO ?_;intro w1 hw1;have hz1:w1.heap.size=W.heap.size+1:=by rw[<-hw1];simp
  rw[hw1]at h1 HKT;generalize hy:W.heap.size=y at h1 hz1 hlt|-;have BB:=hdq h1;have HM:=hdq (fun V V' (h:D+1<V.heap.size) (S:List Nat) (hS:∀k∈S,D+1<k) (ht:Touch S V V')=>(ht.kept h (fun hc=>by have :=hS _ hc;omega) (fun hc=>by have :=hS _ hc;omega):Kept D V V'));refine ZB (β:=Nat×Option ME) rfl (enters_of func251 (by kernel_rfl) rfl)
   (fun b V=>∃o,J' (some (b.1,some (b.2,y,o))) V)
   (fun c V=>c= .exit 0/\∃k o,Zu (some (k,some (none,y,o))) V)
   (fun b=>b=(ys.length,none))
   (fun b xs b'=>∃x,b.2=some x/\b.1<ys.length/\(ys.map ME.plain)[b.1]? =some x.plain/\xs=#[.int .i64 (b.1:Int),x.val]/\b'=(b.1+1,none))
   (fun b xs b' ⟨_,_,_,_,hx,_⟩=>by rw[hx];rfl) ?_ ?_ (0,none) ?_ ?_ ?_ ?_ ?_
  .rintro⟨k,ox⟩ V o2 ⟨o1,h⟩
   refine⟨o2,HC.o _ V _ _ h ?_ (HM.o V _ (HLT.o _ _ h) [y+2] (by simp;omega) (by rw[hz1];exact(Touch.refl _ V).putObj (.inr (by simp)) o2))⟩;have hl:=HJ.o _ _ h;rw[hz1];rcases ox with _|x
   .exact BD.aaB hl
   .exact BD.aaB hl
  .rintro c V o2 ⟨hc,k,o1,h⟩
   refine⟨hc,k,o2,HCX.o _ V _ _ h (fun c ⟨lx,l,hx,hl,hL⟩=>⟨lx,_,hx,rfl,?_⟩) (HM.o V _ (HJX.o _ _ h).2 [y+2] (by simp;omega) (by rw[hz1];exact(Touch.refl _ V).putObj (.inr (by simp)) o2))⟩;cases hl
   rw[hz1];exact BD.aaB hL
  .intro o
   obtain⟨o',h3⟩:=BD.Y3 (BB.o.loop o);rw[hz1]at h3;refine⟨o',HC.o none W _ _ HW.o ?_ (HM.o W _ (HLT.o _ _ HW.o) [] (by simp) ((HKT.o.alloc _).alloc _))⟩;have h4:BD T w0 ((w1.alloc (.deferred (some []))).alloc o) (R 0++Y0 D++wiE D y o'):=by simpa[wiE,wiR]using h3
   exact h4.aB
  .rintro⟨k,ox⟩ xs b' V ⟨x,hx,hk,hp,rfl,rfl⟩ ⟨o1,hj⟩ hlt1
   dsimp only at hx hk hp hj;subst hx;have HJV:=hdq hj;have HP:=hdq hp;have DK:=hdq (BD.alloc (HJ.o _ _ hj) 47 #[x.sync,x.thread,x.branch,x.flag,x.v.kind,x.v.num,.slice x.v.addr x.v.parts.length x.v.cap]);have hltV:=HLT.o _ _ hj;rw[hz1]at hlt1|-;rw[bB];gi_wp2
   have ht1:=(Touch.refl [] V).alloc (.cells #[x.sync,x.thread,x.branch,x.flag,x.v.kind,x.v.num,.slice x.v.addr x.v.parts.length x.v.cap] 47);refine⟨ht1.kept hlt1 (by simp) (by simp),fun o2=>?_⟩;have h5:BD T w0 (World.putObj (World.alloc V (.cells #[x.sync,x.thread,x.branch,x.flag,x.v.kind,x.v.num,.slice x.v.addr x.v.parts.length x.v.cap] 47)) (y+2) o2) ((R k++[bS [x.v]])++wiE D y o2++(Y0 D++[box V.heap.size 47 #[x.sync,x.thread,x.branch,x.flag,x.v.kind,x.v.num,.slice x.v.addr x.v.parts.length x.v.cap]])):=BD.aaB (o:=o1) (by simpa[wiR]using DK.o);obtain⟨V2,hV2⟩:∃V2,World.putObj (World.alloc V (.cells #[x.sync,x.thread,x.branch,x.flag,x.v.kind,x.v.num,.slice x.v.addr x.v.parts.length x.v.cap] 47)) (y+2) o2=V2:=⟨_,rfl⟩;have HT2:Hid (Touch [y+2] V V2):=hV2▸((Touch.refl [y+2] V).alloc (.cells #[x.sync,x.thread,x.branch,x.flag,x.v.kind,x.v.num,.slice x.v.addr x.v.parts.length x.v.cap] 47)).putObj (.inr (by simp)) o2;have RJ:Hid (Cg V2 V.heap.size 47 #[x.sync,x.thread,x.branch,x.flag,x.v.kind,x.v.num,.slice x.v.addr x.v.parts.length x.v.cap]):=hV2▸(Cg.new V 47 #[x.sync,x.thread,x.branch,x.flag,x.v.kind,x.v.num,.slice x.v.addr x.v.parts.length x.v.cap]).putObj (by omega) o2;rw[hV2]at h5|-;generalize hbe:V.heap.size=be at h5 RJ|-;have HJ2:Hid (J' (some (k,some (some x,y,o2))) V2):=by
    refine HC.o _ V _ _ HJV.o ?_ (HM.o V V2 hltV [y+2] (by simp;omega) HT2.o);exact BD.aF (m:=[box be 47 #[x.sync,x.thread,x.branch,x.flag,x.v.kind,x.v.num,.slice x.v.addr x.v.parts.length x.v.cap]]) (by simpa[wiR]using h5)
   have HW2:=hdq (BD.wiAt h5);have hy0:=ZA (n:=n-1-1-1-1) (HYY.o (some (k,some (some x,y,o2))) _ (some (k+1,some (none,y,o2))) V2 ⟨k,x,y,o2,rfl,hk,HP.o,rfl,rfl⟩ HJ2.o);rw[bB]at hy0;obtain⟨fn,tmps,assign,body,hy,hR⟩:=hy0;have HR:=hdq hR;have g1:=HW2.o.2.2.cell 0;have e0:=RJ.o.cell 0;have e1:=RJ.o.cell 1;have e2:=RJ.o.cell 2;have e3:=RJ.o.cell 3;have e4:=RJ.o.cell 4;have e5:=RJ.o.cell 5;have e6:=RJ.o.cell 6;simp at g1 e0 e1 e2 e3 e4 e5 e6
   gi_wp2_with fail
   refine⟨Zy,HR.o.mono ?_⟩;rintro e V4 (⟨rfl,hj⟩|⟨rfl,hj⟩)
   .have HJ4:=hdq hj
    gi_wp2
    have hw4:=BD.wiAt (HJ.o _ _ HJ4.o);exact⟨⟨hw4.1.trans HW2.o.1.symm,hw4.2.1.trans HW2.o.2.1.symm⟩,o2,HJ4.o⟩
   .have HJ4:=hdq hj
    gi_wp2
    obtain⟨c,lx,l,hx,hl,hL⟩:=(HJX.o _ _ HJ4.o).1;cases hl
    have hw4:=BD.wiAt hL;exact⟨⟨hw4.1.trans HW2.o.1.symm,hw4.2.1.trans HW2.o.2.1.symm⟩,rfl,k+1,o2,HJ4.o⟩
  .intro J2 Jx2 hJ2 hC2 hCx2 hY2 V hV
   refine CallsIn.mono (Zn (n-1-1) (w1.heap.size+1) bx ra rc ys hL hnn (fun k V=>J2 (k,none) V) (fun k x V=>J2 (k,some x) V/\(ys.map ME.plain)[k]? =some x.plain) Jx2 (fun k V h=>?_) ?_ ?_ V hV) ?_
   .obtain⟨o,h⟩:=(hJ2 _ _ h).1
    exact(HAA.o V (HJ.o _ _ h).BN).1
   .intro k V V' x h ht hin hb hp
    obtain⟨⟨o,h1⟩,h2⟩:=hJ2 _ _ h;refine⟨hC2 (k,none) V (k,some x) V' h ⟨o,HC.o _ V _ _ h1 ?_ (ht.kept (HLT.o _ _ h1) (by simp) (by simp))⟩ (ht.kept h2 (by simp) (by simp)),hp⟩;have h3:BD T w0 V (R k++(wiE D y o++Y0 D)):=by simpa[wiR]using HJ.o _ _ h1
    have h4:=(h3.gH (vs:=[x.v]) ht (by simpa using hin) (by simpa using hb)).aB;simpa[wiR]using h4
   .rintro k x V hk ⟨h,hp⟩
    exact hY2 (k,some x) _ (k+1,none) V ⟨x,rfl,hk,hp,rfl,rfl⟩ h
   .rintro e V ⟨hv,⟨k,hk,hj⟩|hx⟩
    .exact⟨hv,.inl ⟨(k,none),by rw[hk],hj⟩⟩
    .exact⟨hv,.inr hx⟩
  .rintro b V rfl ⟨o,h⟩ hm hlt1
   have h1:BD T w0 V (R ys.length++wiE D y o++Y0 D):=HJ.o _ _ h;rw[hz1]at hm hlt1|-;gi_wp2
   refine Y6 (v:= .tuple #[]) [y+1] _ (fun k hk=>by simp at hk;subst hk;exact hm) (by simp) (results_none rfl _ _ _) ⟨⟨_,rfl⟩,.inl ⟨some (ys.length,none),rfl,?_⟩⟩;exact HC.o _ V _ _ h h1.aaR (HM.o V _ (HLT.o _ _ h) [y+1] (by simp;omega) ((Touch.refl _ V).putObj (.inr (by simp)) _))
  .rintro c V ⟨rfl,k,o,h⟩ hm hlt1
   rw[hz1]at hm hlt1|-;gi_wp2
   refine noGoto_normal ?_;refine Y6 (v:= .tuple #[]) [y+1] _ (fun k hk=>by simp at hk;subst hk;exact hm) (by simp) (results_none rfl _ _ _) ⟨⟨_,rfl⟩,.inr ⟨some (k,none),?_⟩⟩;refine HCX.o _ V _ _ h (fun c ⟨lx,l,hx,hl,hL⟩=>⟨lx,_,hx,rfl,?_⟩) (HM.o V _ (HJX.o _ _ h).2 [y+1] (by simp;omega) ((Touch.refl _ V).putObj (.inr (by simp)) _));cases hl
   exact hL.aaR
 .rintro c b W ⟨lx,l,hx,hl,h⟩ hm hlt
  rcases b with _|⟨k,_|⟨ox,y,o⟩⟩
  .cases hl
  .cases hl;exact hstop c W lx hx h
  .cases hl;exact hstop c W lx hx (h.aB.aF)
end
section
attribute [local go_sem] Oper.semAt_some
def aaj(w:World)(bv bx:Nat)(a:Option Addr)(cap:Nat)(ys:List ME):Prop:=JZ w bx a cap ys/\w.cell? ⟨bv,0,none⟩=some (.func (.func 251) #[] #[bx])
theorem aaj.touch{w w':World}{bv bx:Nat}{a:Option Addr}{cap:Nat}{ys:List ME}(h:aaj w bv bx a cap ys)(ht:Touch [] w w'):aaj w' bv bx a cap ys:=⟨h.1.touch ht,ht.cellOf h.2⟩
theorem aaC(n:Nat)(w:World)(bv bx:Nat)(ra:Option Addr)(rc:Nat)(ys ls:List ME)(a2:Option Addr)(c2 many:Nat)(hA:aaj w bv bx ra rc ys)(hyn:∀y∈ys,y.v.nodes<=256)(hE:fo w a2 ls)(hin:∀x∈ls,x.v.In w/\x.v.nodes<=256)(hp:ys.map ME.plain=ls.map ME.plain)(hlen:ls.length<=1048576)(hm:many<=10000):
  CallsIn Fence.wide n prog 20 #[.func (.func 75) #[] #[bv],.slice a2 ls.length c2,(many:Int)] w fun e w'=>e= .returned (.bool true)/\Touch [] w w':=by
 have hyl:ys.length=ls.length:=by have :=congrArg List.length hp;simpa using this
 have HA:=hdq (fun W (hW:Touch [] w W)=>hA.touch hW);have HE:=hdq (fun W (hW:Touch [] w W)=>hE.touch hW);have HI:=hdq (fun x (hx:x∈ls) W (hW:Touch [] w W)=>(hin x hx).1.aO hW);have HN:=hdq (fun x (hx:x∈ls)=>(hin x hx).2);have HP:=hdq hp;have HYL:=hdq hyl;have HYN:=hdq hyn;refine callsIn_of_wp_marks func20 rfl trivial ?_ rfl;simp only[ntmps20,List.size_toArray,List.length_cons,List.length_nil,Nat.reduceAdd,Nat.reduceSub,Array.replicate_succ,Array.replicate_zero,List.push_toArray,List.append_toArray,nAq,cAq];have hnil:=ZE;gi_wp2_with fail
 refine ZO ?_;intro w4 hw4;have BF:=hdq (((BD.nil' w).UX rfl).DN hw4);simp only[nAq,cAq,World.size_alloc]at BF;generalize EF:w.heap.size+1+1+1=b7 at BF|-;generalize hb6:w.heap.size+1+1=b6 at BF|-;generalize hb5:w.heap.size+1=b5 at BF|-;generalize hb4:w.heap.size=b4 at BF|-;have Ca:Hid (BD [] w w4 (aal a2 ls.length c2 many b4 b5 b6 b7 0)):=BF.o.addFact (p:=(0=0\/0<many)) (.inl rfl);refine aav (bv:=bv) (bx:=bx) (ra:=ra) (rc:=rc) (ys:=ys) rfl rfl (by rw[HYL.o];exact hlen) HYN.o (aal a2 ls.length c2 many b4 b5 b6 b7)
  (fun c lx=>c= .exit 0/\∃k,lx=(aal a2 ls.length c2 many b4 b5 b6 b7 k).set 4 (fact (k<=ls.length/\k=max 1 many))) (fun W hW=>HA.o W hW) Ca.o ?Y7 ?hdone ?hstop
 case Y7=>
  intro k x W o0 E hE hk hxk h;obtain⟨t1,t2,t3,rfl⟩:∃t1 t2 t3,E=[t1,t2,t3]:=by
   rcases E with _|⟨t1,_|⟨t2,_|⟨t3,_|⟨_,_⟩⟩⟩⟩<;>first |exact⟨_,_,_,rfl⟩|(simp at hE)
  have hk':k<ls.length:=by rw[<-HYL.o];exact hk
  rw[HP.o,List.getElem?_map,List.getElem?_eq_getElem hk']at hxk;have HX:Hid (ls[k].plain=x.plain):=by unfold Hid;simpa using hxk
  generalize hD:w4.heap.size=D at h|-;have HK:=hdq h;rw[bB];gi_wp2
  refine⟨_,HK.o.alloc _ _,fun W2 o h2=>?_⟩;generalize hbe:W.heap.size=be at h2|-;have HK2:=hdq h2;simp only[aal,marks,nAq,cAq]at HK2;have HFa:Hid (k=0\/k<many):=HK2.o.fact 4 rfl;have HVX:Hid (x.v.In W2):=HK2.o.fD 5 rfl _ (by simp);have HLK:=hdq (HI.o ls[k] (List.getElem_mem hk') W2 HK2.o.BN);have HLN:=hdq (HN.o ls[k] (List.getElem_mem hk'));obtain⟨b2,o2,rfl,hbb2,hent⟩:=HE.o W2 HK2.o.BN k hk';generalize ls[k]=y at hent HX HLK HLN;have HY1:=hdq hent;have HX1:Hid (yX W2 be 0 x):=by obtain⟨c0,c1,c2,c3,c4,c5,c6,_⟩:=HK2.o.c7 11 rfl;exact⟨c0,c1,c2,c3,c4,c5,c6⟩
  obtain⟨_,_,_,_,_,_,_,_,zx,_,_⟩:=HK2.o.c7 11 rfl;obtain⟨n0,fn,zn,_,_⟩:=HK2.o.c1 3 rfl;obtain⟨l0,_,zl,_,_⟩:=HK2.o.c1 0 rfl;obtain⟨m0,_,zm,_,_⟩:=HK2.o.c1 1 rfl;have HN0:=hdq n0;have BG:=hdq l0;have HSE:=hdq (fun W (hW:Touch [] W2 W)=>gY x y W (HVX.o.aO hW) (HLK.o.aO hW) (by rw[qI HX.o];have :=HLN.o;omega) (by have :=HLN.o;omega));have HEQ:Hid (x.v.nodes<=256/\y.v.nodes<=256/\x.plain=y.plain):=⟨by rw[qI HX.o];exact HLN.o,HLN.o,HX.o.symm⟩;simp only[bB]at HSE;obtain⟨x0,x1,x2,x3,x4,x5,x6⟩:=HX1.o;obtain⟨y0,y1,y2,y3,y4,y5,y6⟩:=HY1.o;simp only[Nat.zero_add]at x1 x2 x3 x4 x5 x6;have hg1:¬(ls.length:Int)<=(k:Int):=by omega
  have hg2:¬ls.length<=k:=by omega
  have hg3:(k:Int)<(ls.length:Int):=by omega
  have hg4:decide ((ls.length:Int)<=(k:Int))=false:=by simp;omega
  have hk0:(0:Int)<=(k:Int):=by omega
  gi_wp2_with fail
  refine Zd (S:=fun w'=>w'.cell? ⟨b7,0,none⟩=some (.int .i64 (k:Int))/\w'.cell? ⟨b4,0,none⟩=some (.slice (some ⟨b2,o2,none⟩) ls.length c2)/\
   (w'.cell? ⟨be,0,none⟩=some (.int .i64 x.sync)/\w'.cell? ⟨be,1,none⟩=some (.int .i64 x.thread)/\w'.cell? ⟨be,2,none⟩=some (.int .i64 x.branch)/\w'.cell? ⟨be,3,none⟩=some (.int .i64 x.flag)/\w'.cell? ⟨be,4,none⟩=some (.int .i64 x.v.kind)/\w'.cell? ⟨be,5,none⟩=some (.int .i64 x.v.num)/\w'.cell? ⟨be,6,none⟩=some (.slice x.v.addr x.v.parts.length x.v.cap))/\
   (w'.cell? ⟨b2,o2+k*7,none⟩=some (.int .i64 y.sync)/\w'.cell? ⟨b2,o2+k*7+1,none⟩=some (.int .i64 y.thread)/\w'.cell? ⟨b2,o2+k*7+2,none⟩=some (.int .i64 y.branch)/\w'.cell? ⟨b2,o2+k*7+3,none⟩=some (.int .i64 y.flag)/\w'.cell? ⟨b2,o2+k*7+4,none⟩=some (.int .i64 y.v.kind)/\w'.cell? ⟨b2,o2+k*7+5,none⟩=some (.int .i64 y.v.num)/\w'.cell? ⟨b2,o2+k*7+6,none⟩=some (.slice y.v.addr y.v.parts.length y.v.cap)))
   (by rintro⟨_,_,h⟩;exact h) (by kernel_rfl) (by kernel_rfl) ?_ (fun hHeld=>?_)
  ·(try dsimp only)
   go_keep
  refine tkq 0 15 ?_;refine tkq 1 16 ?_;refine tkq 2 17 ?_;refine tkq 3 18 ?_;refine tkq 4 19 ?_;refine tkq 5 20 ?_;refine tkq 6 21 ?_;refine tkq 7 22 ?_;refine tkq 8 23 ?_;refine tkq 9 24 ?_;refine tkq 10 25 ?_;refine tkq 11 26 ?_;refine tkq 12 27 ?_;refine tkq 13 28 ?_;refine tkq 14 29 ?_;refine rdq 15 rfl fun K hK=>?_;go_simp;refine(HSE.o _ (Touch.refl [] W2).drew).mono ?_;rintro en wn ⟨cc,rfl,hcc,ht⟩;obtain rfl:cc=true:=hcc.2 HEQ.o;have HT:=hdq ((Touch.refl [] W2).drew.trans' ht);obtain⟨x0,x1,x2,x3,x4,x5,x6⟩:=HX1.o.touch HT.o;obtain⟨y0,y1,y2,y3,y4,y5,y6⟩:=HY1.o.touch HT.o;simp only[Nat.zero_add]at x1 x2 x3 x4 x5 x6;have n0:=HT.o.cellOf HN0.o;have l0:=HT.o.cellOf BG.o;go_simp;refine kpq hK.o fun hHeld=>?_;refine tkq 16 31 ?_;refine tkq 17 32 ?_;refine dnq ?_;have HK3:=hdq (HK2.o.touch HT.o);obtain⟨n0,fn,zn,_,_⟩:=HK3.o.c1 3 rfl;obtain⟨m0,_,zm,_,_⟩:=HK3.o.c1 1 rfl;have n5:=HK3.o.ne 1 3 rfl rfl (by decide);have n6:=Ne.symm n5;by_cases hmn:(many:Int)<=(k:Int)+1
  .gi_wp2_with fail
   have hs:=(HK3.o.set 3 rfl 0 (.int .i64 ((k:Int)+1))).Z6 4 rfl (q:=(k+1<=ls.length/\k+1=max 1 many)) ⟨by omega,by have :=HFa.o;omega⟩;exact⟨_,[],⟨_,rfl,rfl,k+1,rfl⟩,hs.sel [0,1,2,3,4,6,7,8,9,10] rfl (by decide)⟩
  .gi_wp2_with fail
   have hs:=(HK3.o.set 3 rfl 0 (.int .i64 ((k:Int)+1))).Z6 4 rfl (q:=(k+1=0\/k+1<many)) (.inr (by omega));exact⟨[],hs.sel [0,1,2,3,4,6,7,8,9,10] rfl (by decide)⟩
 case hdone=>
  intro W h;generalize hD:w4.heap.size=D at h|-;rw[HYL.o]at h;have HK:=hdq h;simp only[aal,Y0,nAq,cAq]at HK;obtain⟨n0,fn,zn,_,_⟩:=HK.o.c1 3 rfl;obtain⟨l0,_,zl,_,_⟩:=HK.o.c1 0 rfl;obtain⟨m0,_,zm,_,_⟩:=HK.o.c1 1 rfl;obtain⟨q0,qf,zq,_,_⟩:=HK.o.c1 2 rfl;have HFa:Hid (ls.length=0\/ls.length<many):=HK.o.fact 4 rfl;gi_wp2
  all_goals have hfa:=HFa.o
  all_goals exact Z4 results20 rfl HK.o 2 rfl (by first |rfl|(simp only[beq_iff_eq];omega)) 5 rfl (fun W' h=>⟨rfl,h.BN⟩)
 case hstop=>
  rintro c W lx ⟨rfl,k,rfl⟩ h;generalize hD:w4.heap.size=D at h|-;have HK:=hdq h;simp only[aal,Y0,nAq,cAq,sSq,sZq]at HK;obtain⟨n0,fn,zn,_,_⟩:=HK.o.c1 3 rfl;obtain⟨l0,_,zl,_,_⟩:=HK.o.c1 0 rfl;obtain⟨m0,_,zm,_,_⟩:=HK.o.c1 1 rfl;obtain⟨q0,qf,zq,_,_⟩:=HK.o.c1 2 rfl;have HFa:Hid (k<=ls.length/\k=max 1 many):=HK.o.fact 4 rfl;gi_wp2
  all_goals obtain⟨hfa,hfb⟩:=HFa.o
  all_goals exact Z4 results20 rfl HK.o 2 rfl (by first |rfl|(simp only[beq_iff_eq];omega)) 5 rfl (fun W' h=>⟨rfl,h.BN⟩)
theorem aaO(w:World)(bv bx:Nat)(ra:Option Addr)(rc:Nat)(ys ls:List ME)(a2:Option Addr)(c2 many:Nat)(hA:aaj w bv bx ra rc ys)(hyn:∀y∈ys,y.v.nodes<=256)(hE:fo w a2 ls)(hin:∀x∈ls,x.v.In w/\x.v.nodes<=256)(hp:ys.map ME.plain=ls.map ME.plain)(hlen:ls.length<=1048576)(hm:many<=10000):
  Calls prog 20 #[.func (.func 75) #[] #[bv],.slice a2 ls.length c2,(many:Int)] w fun e w'=>e= .returned (.bool true)/\Touch [] w w':=
 (callsIn_wide (n:=0)).1 (aaC 0 w bv bx ra rc ys ls a2 c2 many hA hyn hE hin hp hlen hm)

theorem aaq(n:Nat)(w:World)(many:Nat)(hm:many<=10000):
  CallsIn Fence.wide n prog 20 #[.func (.func 74) #[] #[],True,(many:Int)] w fun e w'=>e= .returned (.bool true)/\Touch [] w w':=by
 refine callsIn_of_wp_marks func20 rfl trivial ?_ rfl;simp only[ntmps20,List.size_toArray,List.length_cons,List.length_nil,Nat.reduceAdd,Nat.reduceSub,Array.replicate_succ,Array.replicate_zero,List.push_toArray,List.append_toArray,nAq,cAq];have hnil:=ZE;gi_wp2_with fail
 refine ZO ?_;intro w4 hw4;have BF:=hdq (((BD.nil' w).UX rfl).DN hw4);simp only[nAq,cAq,World.size_alloc]at BF;generalize EF:w.heap.size+1+1+1=b7 at BF|-;generalize hb6:w.heap.size+1+1=b6 at BF|-;generalize hb5:w.heap.size+1=b5 at BF|-;generalize hb4:w.heap.size=b4 at BF|-;have Ca:Hid (BD [] w w4 (aal none 0 0 many b4 b5 b6 b7 0)):=BF.o.addFact (p:=(0=0\/0<many)) (.inl rfl);refine Zg (β:=Unit) rfl (enters_of func74 (by kernel_rfl) rfl) (fun _=>aal none 0 0 many b4 b5 b6 b7 0) (fun _ _=>False) (fun _=>True) (fun _ _ _=>False) (fun _ _ _ h=>h.elim) () Ca.o (fun _ _ _ _ _ h=>h.elim) ?_ ?_ (fun c W lx h=>h.elim)
 .intro J' Zu hJ hC hY W hW'
  refine callsIn_of_wp func74 rfl trivial ?_ rfl;simp only[ntmps74,List.size_toArray,List.length_cons,List.length_nil,Nat.reduceAdd,Nat.reduceSub,Array.replicate_succ,Array.replicate_zero,List.push_toArray,List.append_toArray,nAq,cAq];have HJ:=hdq hW';gi_wp2
  go_end0
  exact⟨⟨_,rfl⟩,.inl ⟨_,trivial,HJ.o⟩⟩
 .rintro b W-h
  generalize hD:w4.heap.size=D at h|-;have HK:=hdq h;simp only[aal,Y0,nAq,cAq]at HK;obtain⟨n0,fn,zn,_,_⟩:=HK.o.c1 3 rfl;obtain⟨l0,_,zl,_,_⟩:=HK.o.c1 0 rfl;obtain⟨m0,_,zm,_,_⟩:=HK.o.c1 1 rfl;obtain⟨q0,qf,zq,_,_⟩:=HK.o.c1 2 rfl;have HFa:Hid (0=0\/0<many):= .inl rfl;gi_wp2
  all_goals have hfa:=HFa.o
  all_goals exact Z4 results20 rfl HK.o 2 rfl (by first |rfl|(simp only[beq_iff_eq];omega)) 5 rfl (fun W' h=>⟨rfl,h.BN⟩)
theorem aao(w:World)(many:Nat)(hm:many<=10000):Calls prog 20 #[.func (.func 74) #[] #[],True,(many:Int)] w fun e w'=>e= .returned (.bool true)/\Touch [] w w':=
 (callsIn_wide (n:=0)).1 (aaq 0 w many hm)
end
theorem kF.atR{es:List ME}{i:Int}{y:ME}{c:Bool}(h:kF es i y c):AtR (es.map ME.plain) i y c:=by
 rcases h with ⟨h1,h2,h3⟩|⟨h1,h2,h3⟩
 .exact .inl ⟨h1,h2,by rw[List.getElem?_map,h3];rfl⟩
 .exact .inr ⟨h1,by simpa using h2,h3⟩
theorem BD.qDropS{T:List Nat}{w0 w:World}{l:List ai}{g:Nat}{es:List ME}(h:BD T w0 w l)(i:Nat)(hi:l[i]? =some (aQ g es))(z:Int)(hes:es.length<=1048576):
  Calls prog 199 #[g,z] w fun e w'=>∃y c,e= .returned (.tuple #[y.val,.bool c])/\kF es z y c/\BD T w0 w' (l.set i (aQ g (if c=true then es.eraseIdx z.toNat else es))):=by
 refine(h.OX i hi z hes).mono ?_;rintro e w' (⟨y,h0,hy,rfl,hL⟩|⟨hn,rfl,hL⟩)
 .exact⟨y,true,rfl,.inl ⟨rfl,h0,hy⟩,hL⟩
 .exact⟨ME.zero,false,rfl,.inr ⟨rfl,hn,rfl⟩,hL⟩
theorem l9(es:List ME)(i:Nat):(es.eraseIdx i).map ME.plain=(es.map ME.plain).eraseIdx i:=by
 simp only[List.eraseIdx_eq_take_drop_succ,List.map_append,List.map_take,List.map_drop]
theorem kV.sub{P P1:World->Prop}{es rs es1 LY:List ME}{a a1:Option Addr}{cap Ld:Nat}(h:kV P es rs a cap)(hP1:∀W,P1 W->P W/\fo W a1 LY)(h1:es1.map ME.plain=LY.map ME.plain)(he:∀e∈es1,e∈es)(hr:∀r∈LY,r∈rs)(hl:es1.length<=es.length)(hc1:LY.length<=Ld):kV P1 es1 LY a1 Ld:=
 ⟨h1,hc1,Nat.le_trans hl h.2.2.1,fun e hh=>h.2.2.2.1 e (he e hh),fun W hW=>by
  obtain⟨h2,h3⟩:=hP1 W hW;obtain⟨g1,_,g3⟩:=h.2.2.2.2 W h2;exact⟨fun e hh=>g1 e (he e hh),h3,fun r hh=>g3 r (hr r hh)⟩⟩
theorem kV.drop{P P1:World->Prop}{es rs LY:List ME}{a a1:Option Addr}{cap Ld i:Nat}{c:Bool}(h:kV P es rs a cap)(hP1:∀W,P1 W->P W/\fo W a1 LY)(hrs:LY=if c=true then rs.eraseIdx i else rs)(hc1:LY.length<=Ld):kV P1 (if c=true then es.eraseIdx i else es) LY a1 Ld:=by
 subst hrs;cases c with
 |true=>exact h.sub hP1 (by simp only[if_true,l9,h.1]) (fun e he=>List.mem_of_mem_eraseIdx he) (fun e he=>List.mem_of_mem_eraseIdx he) (List.length_eraseIdx_le es i) hc1
 |false=>exact h.sub hP1 (by simpa using h.1) (fun e he=>he) (fun e he=>he) (Nat.le_refl _) hc1
section
variable (w:World) (c:Nat) (a:Int) (M q1 q2:Nat) (hc:jZ w c a M q1 q2) (s:Int)
include hc
theorem X0(g:Nat)(es:List ME)(hq:Hg s q1 q2=some ⟨g,0,none⟩)(h:Kk w g es)(hin:∀e∈es,e.v.In w/\e.v.nodes<=256)(hlen:es.length<=4096):Calls prog 73 #[c,s] w (TR es w):=by
 have HC:=hdq (fun W (hW:Touch [] w W)=>hc.touch hW);have HA:=hdq (All_q w g es h hin (by omega));go_enter func73,ntmps73
 go_wp2_with fail
 refine(uw _ _ _ _ _ _ (HC.o _ (Touch.refl [] w)) s).mono ?_;rintro e w' ⟨rfl,rfl⟩;rw[hq];go_wp2_with fail
 refine HA.o.mono ?_;rintro e w' ⟨bx,ra,rc,ys,rfl,hpy,hL⟩;have HPY:=hdq hpy;have HL:=hdq hL;go_wp2;go_ret
 exact⟨bx,ra,rc,ys,rfl,HPY.o,HL.o⟩
theorem Wz(hq:Hg s q1 q2=none):Calls prog 73 #[c,s] w (TR [] w):=by
 have HC:=hdq (fun W (hW:Touch [] w W)=>hc.touch hW);go_enter func73,ntmps73
 go_wp2_with fail
 refine(uw _ _ _ _ _ _ (HC.o _ (Touch.refl [] w)) s).mono ?_;rintro e w' ⟨rfl,rfl⟩;rw[hq];go_wp2_with fail
 refine(All_n w none (.inl rfl)).mono ?_;rintro e w' ⟨bx,rfl,hL⟩;have HL:=hdq hL;go_wp2;go_ret
 exact⟨bx,none,0,[],rfl,rfl,HL.o⟩
end
theorem Om(w:World)(g:Nat)(es:List ME)(i:Int)(bi:Nat)(h:Kk w g es)(hin:∀e∈es,e.v.In w/\e.v.nodes<=256)(hb:w.cell? ⟨bi,0,none⟩=some (.int .i64 i)):Calls prog 196 #[g,bi] w (tT (es.map ME.plain) i w):=by
 have HQ:=hdq (fun W (hW:Touch [] w W)=>h.touch hW);have HEI:=hdq (fun W (hW:Touch [] w W) x (hx:x∈es)=>(And.intro ((hin x hx).1.aO hW) (hin x hx).2:x.v.In W/\x.v.nodes<=256));have hbl:bi<w.heap.size:=World.block_lt_of_cell? _ _ hb;have hbl1:bi<w.heap.size+1:=by omega
 go_enter func196,ntmps196
 go_wp2_with fail
 refine ah ?_;intro w1 hw1;have BB:=hdq ((BD.nil' w).DN hw1);simp only[nAq]at BB;generalize hb3:w.heap.size=b3 at BB|-;refine(At_q w1 g es i (HQ.o _ BB.o.BN) (HEI.o _ BB.o.BN)).mono ?_;rintro e w2 ⟨x,cc,rfl,hR,EO,Er,ht⟩;have HL2:=hdq (BB.o.gH (vs:=[x.v]) ht (by simpa using EO) (by simpa using Er));have HR:=hdq hR;have HXN:Hid (∀k∈x.v.blocks,w.heap.size<=k):=fun k hk=>Nat.le_trans BB.o.size (Er k hk);simp only[nAq,cAq]at HL2;simp only[bB];obtain⟨r0,r1,r2,r3,r4,r5,r6,⟨f0,f1,f2,f3,f4,f5,f6⟩,zr,_,_⟩:=HL2.o.c7 0 rfl;go_wp2;have BF:=hdq (HL2.o.iD 0 rfl x.sync x.thread x.branch x.flag x.v.kind x.v.num (.slice x.v.addr x.v.parts.length x.v.cap));simp only[sZq,sSq]at BF;obtain⟨s0,s1,s2,s3,s4,s5,s6,_⟩:=BF.o.c7 0 rfl;refine bodyPost_ret (v:= .tuple #[x.val,cc]) (by simp[results,results196,go_sem,s0,s1,s2,s3,s4,s5,s6,bB]) rfl ?_;exact⟨x,cc,rfl,HR.o,BF.o.fD 1 rfl _ (by simp),HXN.o,BF.o.BN⟩
theorem wS(w:World)(c:Nat)(a:Int)(M q1 q2:Nat)(hc:jZ w c a M q1 q2)(s:Int)(g:Nat)(es:List ME)(i:Int)(bi:Nat)(hq:Hg s q1 q2=some ⟨g,0,none⟩)(h:Kk w g es)(hin:∀e∈es,e.v.In w/\e.v.nodes<=256)(hb:w.cell? ⟨bi,0,none⟩=some (.int .i64 i)):
  Calls prog 195 #[c,s,.func (.func 196) #[] #[bi]] w (tT (es.map ME.plain) i w):=by
 have HC:=hdq (fun W (hW:Touch [] w W)=>hc.touch hW);have HLK:=hdq (fun W (hW:Touch [] w W)=>Om W g es i bi (h.touch hW) (fun x hx=>⟨(hin x hx).1.aO hW,(hin x hx).2⟩) (hW.cellOf hb));go_enter func195,ntmps195
 go_wp2_with fail
 refine ah ?_;intro w1 hw1;have BB:=hdq ((BD.nil' w).DN hw1);simp only[nAq]at BB;generalize hb6:w.heap.size=b6 at BB|-;go_wp2_with fail
 refine(uw _ _ _ _ _ _ (HC.o _ BB.o.BN) s).mono ?_;rintro e w' ⟨rfl,rfl⟩;rw[hq];go_wp2_with fail
 refine(HLK.o _ BB.o.BN).mono ?_;rintro e w2 ⟨x,cc,rfl,hR,EO,Er,ht⟩;have HL2:=hdq (BB.o.gH (vs:=[x.v]) ht (by simpa using EO) (by simpa using Er));have HR:=hdq hR;have HXN:Hid (∀k∈x.v.blocks,w.heap.size<=k):=fun k hk=>Nat.le_trans BB.o.size (Er k hk);simp only[nAq,cAq]at HL2;simp only[bB];obtain⟨r0,r1,r2,r3,r4,r5,r6,⟨f0,f1,f2,f3,f4,f5,f6⟩,zr,_,_⟩:=HL2.o.c7 0 rfl;go_wp2;have BF:=hdq (HL2.o.iD 0 rfl x.sync x.thread x.branch x.flag x.v.kind x.v.num (.slice x.v.addr x.v.parts.length x.v.cap));simp only[sZq,sSq]at BF;obtain⟨s0,s1,s2,s3,s4,s5,s6,_⟩:=BF.o.c7 0 rfl;refine bodyPost_ret (v:= .tuple #[x.val,cc]) (by simp[results,results195,go_sem,s0,s1,s2,s3,s4,s5,s6,bB]) rfl ?_;exact⟨x,cc,rfl,HR.o,BF.o.fD 1 rfl _ (by simp),HXN.o,BF.o.BN⟩
theorem zh(w:World)(c:Nat)(a:Int)(M q1 q2:Nat)(hc:jZ w c a M q1 q2)(s:Int)(g:Nat)(es:List ME)(i:Int)(hq:Hg s q1 q2=some ⟨g,0,none⟩)(h:Kk w g es)(hin:∀e∈es,e.v.In w/\e.v.nodes<=256):
  Calls prog 101 #[c,s,i] w (tT (es.map ME.plain) i w):=by
 have HLK:=hdq (fun W (hW:Touch [] w W) bi (hb:W.cell? ⟨bi,0,none⟩=some (.int .i64 i))=>wS W c a M q1 q2 (hc.touch hW) s g es i bi hq (h.touch hW) (fun x hx=>⟨(hin x hx).1.aO hW,(hin x hx).2⟩) hb);go_enter func101,ntmps101
 go_wp2_with fail
 refine ah ?_;intro w1 hw1;have BB:=hdq ((BD.nil' w).DZ hw1);simp only[nAq,cAq]at BB;generalize hb6:w.heap.size+1=b6 at BB|-;generalize hb5:w.heap.size=b5 at BB|-;refine(HLK.o _ BB.o.BN b5 ((BB.o.box 0 rfl).cell 0)).mono ?_;rintro e w2 ⟨x,cc,rfl,hR,EO,Er,ht⟩;have HL2:=hdq (BB.o.gH (vs:=[x.v]) ht (by simpa using EO) (by simpa using Er));have HR:=hdq hR;have HXN:Hid (∀k∈x.v.blocks,w.heap.size<=k):=fun k hk=>Nat.le_trans BB.o.size (Er k hk);simp only[nAq,cAq]at HL2;simp only[bB];obtain⟨r0,r1,r2,r3,r4,r5,r6,⟨f0,f1,f2,f3,f4,f5,f6⟩,zr,_,_⟩:=HL2.o.c7 1 rfl;go_wp2;have BF:=hdq (HL2.o.iD 1 rfl x.sync x.thread x.branch x.flag x.v.kind x.v.num (.slice x.v.addr x.v.parts.length x.v.cap));simp only[sZq,sSq]at BF;obtain⟨s0,s1,s2,s3,s4,s5,s6,_⟩:=BF.o.c7 1 rfl;refine bodyPost_ret (v:= .tuple #[x.val,cc]) (by simp[results,results101,go_sem,s0,s1,s2,s3,s4,s5,s6,bB]) rfl ?_;exact⟨x,cc,rfl,HR.o,BF.o.fD 2 rfl _ (by simp),HXN.o,BF.o.BN⟩
theorem aP{P:Program}{fn:Func}{R:Ending->World->Prop}{ex:Exit}{a:Act}{W:World}(h:∀w2,W=w2->bodyPost P fn R ex a w2):bodyPost P fn R ex a W:=h W rfl
def qH(T:List Nat)(w:World)(g:Nat)(es:List ME)(z:Int)(e:Ending)(w':World):Prop:=∃y c rest,e= .returned (.tuple #[y.val,.bool c])/\kF es z y c/\BD T w w' (aQ g (if c=true then es.eraseIdx z.toNat else es)::rest)
theorem Mv(T:List Nat)(w:World)(g:Nat)(es:List ME)(z:Int)(bi:Nat)(h:BD T w w [aQ g es])(hes:es.length<=4096)(hb:w.cell? ⟨bi,0,none⟩=some (.int .i64 z)):Calls prog 198 #[g,bi] w (qH T w g es z):=by
 have BG:=hdq h;have hbl:bi<w.heap.size:=World.block_lt_of_cell? _ _ hb;have hbl1:bi<w.heap.size+1:=by omega
 go_enter func198,ntmps198
 go_wp2_with fail
 refine ah ?_;intro w1 hw1;have BB:=hdq (BG.o.DN hw1);simp only[nAq,cAq]at BB;generalize hb3:w.heap.size=b3 at BB|-;refine(BB.o.qDropS 0 rfl z (by omega)).mono ?_;rintro e w2 ⟨y,cc,rfl,hR,hL⟩;have HR:=hdq hR;have HL2:=hdq hL;simp only[sZq,cAq,nAq]at HL2;simp only[bB];obtain⟨r0,r1,r2,r3,r4,r5,r6,⟨f0,f1,f2,f3,f4,f5,f6⟩,zr,_,_⟩:=HL2.o.c7 1 rfl;go_wp2;have BF:=hdq (HL2.o.iD 1 rfl y.sync y.thread y.branch y.flag y.v.kind y.v.num (.slice y.v.addr y.v.parts.length y.v.cap));simp only[sZq,sSq]at BF;obtain⟨s0,s1,s2,s3,s4,s5,s6,_⟩:=BF.o.c7 1 rfl;refine bodyPost_ret (v:= .tuple #[y.val,cc]) (by simp[results,results198,go_sem,s0,s1,s2,s3,s4,s5,s6,bB]) rfl ?_;exact⟨y,cc,_,rfl,HR.o,BF.o⟩
theorem wV(T:List Nat)(w:World)(c:Nat)(a:Int)(M q1 q2:Nat)(hc:jZ w c a M q1 q2)(s:Int)(g:Nat)(es:List ME)(z:Int)(bi:Nat)(hq:Hg s q1 q2=some ⟨g,0,none⟩)(h:BD T w w [aQ g es])(hes:es.length<=4096)(hb:w.cell? ⟨bi,0,none⟩=some (.int .i64 z)):
  Calls prog 195 #[c,s,.func (.func 198) #[] #[bi]] w (qH T w g es z):=by
 have HC:=hdq (fun W (hW:Touch [] w W)=>hc.touch hW);have HBI:=hdq (fun W (hW:Touch [] w W)=>hW.cellOf hb);have BG:=hdq h;go_enter func195,ntmps195
 go_wp2_with fail
 refine ah ?_;intro w1 hw1;have HT1:Hid (Touch [] w w1):=hw1▸(Touch.refl [] w).alloc _;have BB:=hdq (BG.o.DN hw1);simp only[nAq,cAq]at BB;generalize hb6:w.heap.size=b6 at BB|-;go_wp2_with fail
 refine(uw _ _ _ _ _ _ (HC.o _ HT1.o) s).mono ?_;rintro e w' ⟨rfl,rfl⟩;rw[hq];obtain⟨T',hF,hbk⟩:=BB.o.qL 0 rfl;go_wp2_with fail
 refine(Mv T' w1 g es z bi hF hes (HBI.o _ HT1.o)).mono ?_;rintro e w2 ⟨y,cc,rest,rfl,hR,hL'⟩;have hL:=hbk _ _ _ hL';have HR:=hdq hR;have HL2:=hdq hL;simp only[sZq,cAq,nAq]at HL2;simp only[bB];obtain⟨r0,r1,r2,r3,r4,r5,r6,⟨f0,f1,f2,f3,f4,f5,f6⟩,zr,_,_⟩:=HL2.o.c7 1 rfl;go_wp2;have BF:=hdq (HL2.o.iD 1 rfl y.sync y.thread y.branch y.flag y.v.kind y.v.num (.slice y.v.addr y.v.parts.length y.v.cap));simp only[sZq,sSq]at BF;obtain⟨s0,s1,s2,s3,s4,s5,s6,_⟩:=BF.o.c7 1 rfl;refine bodyPost_ret (v:= .tuple #[y.val,cc]) (by simp[results,results195,go_sem,s0,s1,s2,s3,s4,s5,s6,bB]) rfl ?_;exact⟨y,cc,_,rfl,HR.o,BF.o⟩
theorem KL(T:List Nat)(w:World)(c:Nat)(a:Int)(M q1 q2:Nat)(hc:jZ w c a M q1 q2)(s:Int)(g:Nat)(es:List ME)(z:Int)(hq:Hg s q1 q2=some ⟨g,0,none⟩)(h:BD T w w [aQ g es])(hes:es.length<=4096):
  Calls prog 103 #[c,s,z] w (qH T w g es z):=by
 have HC:=hdq (fun W (hW:Touch [] w W)=>hc.touch hW);have BG:=hdq h;go_enter func103,ntmps103
 go_wp2_with fail
 refine ah ?_;intro w1 hw1;have HT1:Hid (Touch [] w w1):=hw1▸((Touch.refl [] w).alloc _).alloc _;have BB:=hdq (BG.o.DZ hw1);simp only[nAq,cAq]at BB;generalize hb6:w.heap.size+1=b6 at BB|-;generalize hb5:w.heap.size=b5 at BB|-;obtain⟨T',hF,hbk⟩:=BB.o.qL 0 rfl;refine(wV T' w1 c a M q1 q2 (HC.o _ HT1.o) s g es z b5 hq hF hes ((BB.o.box 1 rfl).cell 0)).mono ?_;rintro e w2 ⟨y,cc,rest,rfl,hR,hL'⟩;have hL:=hbk _ _ _ hL';have HR:=hdq hR;have HL2:=hdq hL;simp only[sZq,cAq,nAq]at HL2;simp only[bB];obtain⟨r0,r1,r2,r3,r4,r5,r6,⟨f0,f1,f2,f3,f4,f5,f6⟩,zr,_,_⟩:=HL2.o.c7 2 rfl;go_wp2;have BF:=hdq (HL2.o.iD 2 rfl y.sync y.thread y.branch y.flag y.v.kind y.v.num (.slice y.v.addr y.v.parts.length y.v.cap));simp only[sZq,sSq]at BF;obtain⟨s0,s1,s2,s3,s4,s5,s6,_⟩:=BF.o.c7 2 rfl;refine bodyPost_ret (v:= .tuple #[y.val,cc]) (by simp[results,results103,go_sem,s0,s1,s2,s3,s4,s5,s6,bB]) rfl ?_;exact⟨y,cc,_,rfl,HR.o,BF.o⟩
theorem BD.La{T:List Nat}{w0 w:World}{l:List ai}{c:Nat}{a:Int}{M q1 q2:Nat}{s:Int}{g:Nat}{es:List ME}(h:BD T w0 w l)(i:Nat)(hi:l[i]? =some (aQ g es))(hc:jZ w c a M q1 q2)(hq:Hg s q1 q2=some ⟨g,0,none⟩)(hes:es.length<=4096)(z:Int):
  Calls prog 103 #[c,s,z] w fun e w'=>∃y b,e= .returned (.tuple #[y.val,.bool b])/\kF es z y b/\BD T w0 w' (l.set i (aQ g (if b=true then es.eraseIdx z.toNat else es))):=by
 obtain⟨T',hF,hbk⟩:=h.qL i hi;refine(KL T' w c a M q1 q2 hc s g es z hq hF hes).mono ?_;rintro e w2 ⟨y,cc,rest,rfl,hR,hL'⟩;exact⟨y,cc,rfl,hR,hbk _ _ _ hL'⟩
theorem Lj(T:List Nat)(w:World)(c:Nat)(a:Int)(M q1 q2:Nat)(hc:jZ w c a M q1 q2)(s:Int)(g:Nat)(es:List ME)(P:World->Prop)(x:ME)(hq:Hg s q1 q2=some ⟨g,0,none⟩)(h:BD T w w [aQ g es,aA P])(hP:∀W,P W->x.v.In W)(hes:es.length<=4096):
  Calls prog 105 #[c,s,x.val] w fun e w'=>∃(k:Nat) (err:Int) (ys:List ME) (rest:List ai),e= .returned (.int .i64 err)/\kK es.length [x.plain] k err/\ys.map ME.plain=[x.plain].take k/\BD T w w' (aQ g (es++ys)::aA (fun W=>P W/\∀y∈ys,y.v.In W)::rest):=by
 have HP:=hdq hP;have HC:=hdq (fun W (hW:Touch [] w W)=>hc.touch hW);have BG:=hdq h;simp only[bB];go_enter func105,ntmps105
 go_wp2;refine bT 0 rfl ?_;go_wp2_with fail
 refine ah ?_;intro w1 hw1;have HT1:Hid (Touch [] w w1):=hw1▸(Touch.refl [] w).alloc _;have BB:=hdq (BG.o.DN hw1);simp only[nAq,cAq]at BB;generalize hb5:w.heap.size=b5 at BB|-;refine(uw _ _ _ _ _ _ (HC.o _ HT1.o) s).mono ?_;rintro e w' ⟨rfl,rfl⟩;rw[hq];go_wp2_with fail
 refine(jC _ _ _ _ _ _ (HC.o _ HT1.o)).mono ?_;rintro e w' ⟨rfl,rfl⟩;obtain⟨x0,x1,x2,x3,x4,x5,x6,_,hl3,_,_⟩:=BB.o.c7 2 rfl;have HL2:=hdq (BB.o.alloc 47 #[x.sync,x.thread,x.branch,x.flag,x.v.kind,x.v.num,.slice x.v.addr x.v.parts.length x.v.cap]);simp only[nAq,cAq]at HL2;have HPU:=hdq (HL2.o.JK (xs:=[x]) (a:=some ⟨w1.heap.size,0,none⟩) (cap:=1) 0 1 rfl rfl (by decide) (fun W hW=>⟨vG rfl (hW 3 _ (by decide) rfl),fun y hy=>by
  simp at hy;subst hy
  obtain⟨f,_,hs⟩:=hW 1 (aA P) (by decide) rfl;exact HP.o W (hs W (fun _ _=>rfl))⟩) (by simp) hes)
 simp only[List.length_cons,List.length_nil,Nat.reduceAdd]at HPU;go_wp2_with fail
 refine HPU.o.mono ?_;rintro e w4 ⟨k,err,ys,rfl,hR,hp,hL⟩;have BH:=hdq hL;simp only[sZq,sSq]at BH;have HR:=hdq hR;have HPY:=hdq hp;go_wp2;go_step3
 go_wp2;refine fO ?_;go_ret
 exact⟨k,err,ys,_,rfl,HR.o,HPY.o,BH.o⟩
theorem BD.Hu{T:List Nat}{w0 w:World}{l:List ai}{c:Nat}{a:Int}{M q1 q2:Nat}{s:Int}{g:Nat}{es:List ME}{P:World->Prop}(h:BD T w0 w l)(i j:Nat)(hi:l[i]? =some (aQ g es))(hj:l[j]? =some (aA P))(hij:i≠j)(hc:jZ w c a M q1 q2)(hq:Hg s q1 q2=some ⟨g,0,none⟩)(x:ME)(hP:∀W,P W->x.v.In W)(hes:es.length<=4096):
  Calls prog 105 #[c,s,x.val] w fun e w'=>∃(k:Nat) (err:Int) (ys:List ME),e= .returned (.int .i64 err)/\kK es.length [x.plain] k err/\ys.map ME.plain=[x.plain].take k/\BD T w0 w' ((l.set i (aQ g (es++ys))).set j (aA (fun W=>P W/\∀y∈ys,y.v.In W))):=by
 obtain⟨T',hF,hbk⟩:=h.ZT i j hi hj hij;refine(Lj T' w c a M q1 q2 hc s g es P x hq hF hP hes).mono ?_;rintro e w2 ⟨k,err,ys,rest,rfl,hR,hp,hL⟩;exact⟨k,err,ys,rfl,hR,hp,hbk _ _ _ _ hL⟩
end Go.Proofs.YtddnnapoaonmjaaGreatDoor
