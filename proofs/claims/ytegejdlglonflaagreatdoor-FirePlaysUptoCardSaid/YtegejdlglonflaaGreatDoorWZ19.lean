/-
  Texts of FirePlays, laid together by program.
-/
import Derived.Test.YtegejdlglonflaaGreatDoorWZ18
import Derived.Deep.CutRange
namespace Go.Proofs.YtegejdlglonflaaGreatDoor
open Go.RowKit Go.Shelf Go.Proofs.Tryz
set_option maxRecDepth 100000
set_option maxHeartbeats 8000000
set_option linter.unusedVariables false
set_option linter.unusedSimpArgs false
section
attribute [local go_sem] Oper.semAt_some
theorem JZ.touch{w w':World}{bx:Nat}{a:Option Addr}{cap:Nat}{ys:List ME}(h:JZ w bx a cap ys)(ht:Touch [] w w'):JZ w' bx a cap ys:=
 ⟨Cg.touch h.1 ht (by simp),h.2.1.touch ht,fun y hy=>(h.2.2 y hy).aO ht⟩
theorem qI{x y:ME}(h:y.plain=x.plain):x.v.nodes=y.v.nodes:=by
 rw[<-MT.cu x.v,<-MT.cu y.v,show x.v.plain=x.plain.v from rfl,<-h];rfl
end
section
attribute [local go_sem] Oper.semAt_some
abbrev aaX(D y:Nat):ai:=box y 366 #[.func (.yield (D+1)) #[] #[]]
def wiE(D y:Nat)(o:Obj):List ai:=[aaX D y]++marks (y+1) o
abbrev WIt:Type:=Option (Nat×Option (Option ME×Nat×Obj))
def wiR(R:Nat->List ai)(D:Nat):WIt->List ai
 |none=>R 0
 |some (k,none)=>R k
 |some (k,some (none,y,o))=>R k++wiE D y o
 |some (k,some (some x,y,o))=>R k++[bS [x.v]]++wiE D y o
def wiXl(D:Nat)(lx:List ai):WIt->Option (List ai)
 |none=>none
 |some (_,none)=>some lx
 |some (_,some (_,y,o))=>some (lx++wiE D y o)
def wiX(T:List Nat)(w0:World)(D:Nat)(X:Code->List ai->Prop)(c:Code)(b:WIt)(W:World):Prop:=∃lx l,X c lx/\wiXl D lx b=some l/\BD T w0 W (l++Y0 D)
section
variable {T:List Nat} {w0 w:World} {l:List ai} {D y:Nat} {o o':Obj}
theorem BD.aaB{m:List ai}(h:BD T w0 w (l++wiE D y o++m)):BD T w0 (w.putObj (y+2) o') (l++wiE D y o'++m):=by
 have h1:BD T w0 w ((l++[aaX D y])++marks (y+1) o++m):=by simpa[wiE]using h
 have h2:=h1.Zh (o':=o');simpa[wiE]using h2
theorem BD.wiAt{m:List ai}(h:BD T w0 w (l++wiE D y o++m)):w.heap[y+1]? =some (.deferred (some []))/\w.heap[y+2]? =some o/\Cg w y 366 #[.func (.yield (D+1)) #[] #[]]:=by
 have h1:BD T w0 w ((l++[aaX D y])++marks (y+1) o++m):=by simpa[wiE]using h
 have h2:=h1.Ze;exact⟨h2.1,h2.2,h.box l.length (by simp[wiE])⟩
theorem BD.aaR{m:List ai}(h:BD T w0 w (l++wiE D y o++m)):BD T w0 (w.putObj (y+1) (.deferred none)) (l++m):=by
 have h1:=h.shut (l.length+1) (D:=y+1) (by simp[wiE,marks]);have e:(l++wiE D y o++m).set (l.length+1) (some1 (y+1))=l++[aaX D y,some1 (y+1),fZ (y+2) o]++m:=by
  simp[wiE,marks,List.set_append]
 rw[e]at h1;exact h1.aB.aF
end
theorem aav{n:Nat}{gop:Operand}{ps:Array Tmp}{assign body:Code}{Q:Exit->Act->World->Prop}{a:Act}{w w0:World}{T:List Nat}{bv bx:Nat}{ra:Option Addr}{rc:Nat}{ys:List ME}(hg:a.eval gop= .func (.func 269) #[] #[bv])(hps:ps.size=2)(hL:ys.length<=1048576)(hnn:∀y∈ys,y.v.nodes<=256)(R:Nat->List ai)(X:Code->List ai->Prop)(hA:∀W,Touch T w0 W->JZ W bx ra rc ys/\W.cell? ⟨bv,0,none⟩=some (.func (.func 307) #[] #[bx]))(h0:BD T w0 w (R 0))(Y7:∀(k:Nat) (x:ME) (W:World) (o0:Obj) (E:List ai),E.length=3->k<ys.length->(ys.map ME.plain)[k]? =some x.plain->BD T w0 W (R k++[bS [x.v]]++E++marks w.heap.size o0)->
   assign.wpIn (Fence.wide.inRound (w.heap.size+1)) (n-1-1) prog (Exit.then (fun a1 W1=>∃m,BD T w0 W1 (R k++[bS [x.v]]++E++marks w.heap.size o0++m)/\
    ∀W2 o,BD T w0 W2 (R k++[bS [x.v]]++E++marks w.heap.size o++m)->body.wpIn (Fence.wide.inRound (w.heap.size+1)) (n-1-1) prog (ZN T w0 w.heap.size o (R (k+1)++E) (fun c l=>∃lx,l=lx++E/\X c lx)) a1 W2) (fun _ _ _=>False))
    {tmps:=(ps.zip #[.int .i64 (k:Int),x.val]).foldl (fun t (p,v)=>t.setIfInBounds p v) a.tmps,defers:=[]} W)(hdone:∀W,BD T w0 W (R ys.length++Y0 w.heap.size)->Q .normal {a with defers:={target:= .collected w.heap.size,args:=#[]}::a.defers} W)(hstop:∀c W lx,X c lx->BD T w0 W (lx++Y0 w.heap.size)->c.wpIn Fence.wide n prog Q {a with defers:={target:= .collected w.heap.size,args:=#[]}::a.defers} W):
  (Code.rangeFunc gop ps assign body).wpIn Fence.wide n prog Q a w:=by
 refine Wl (β:=WIt) hg (enters_of func269 (by kernel_rfl) rfl) (fun b W=>BD T w0 W (wiR R w.heap.size b++Y0 w.heap.size)) (wiX T w0 w.heap.size X) (fun b=>b=some (ys.length,none))
  (fun b xs b'=>∃k x y o,b=some (k,some (some x,y,o))/\k<ys.length/\(ys.map ME.plain)[k]? =some x.plain/\xs=#[.int .i64 (k:Int),x.val]/\b'=some (k+1,some (none,y,o)))
  (fun b xs b' ⟨_,_,_,_,_,_,_,hx,_⟩=>by rw[hx,hps];rfl) (fun b W o h=>h.Zl) (fun c b W o ⟨lx,l,hx,hl,h⟩=>⟨lx,l,hx,hl,h.Zl⟩) none (fun o=>h0.loop o) ?_ ?_ (fun b W hF hj _ _=>by subst hF;exact hdone W hj) ?_
 .rintro b xs b' W ⟨k,x,y,o1,rfl,hk,hp,rfl,rfl⟩ hj hlt
  obtain⟨o0,ho⟩:=BD.Y3 hj;refine wpIn_mono (Y7 k x W o0 (wiE w.heap.size y o1) rfl hk hp ho) ?_;rintro ex a1 Wa hpost;cases ex with
  |ret=>exact hpost
  |exit id=>exact hpost
  |goto t=>exact hpost
  |panic ch=>exact hpost
  |outgrown=>exact hpost
  |normal=>
   obtain⟨m,hL,hb⟩:=hpost;refine⟨BD.kept (m:=[]) (by simpa using ho) hL,fun o=>?_⟩;have hL2:=hL.Zh (o':=o);refine wpIn_mono (hb _ o hL2) ?_;rintro e a3 W3 hp;cases e with
   |normal=>obtain⟨m3,h3⟩:=hp;exact⟨hL2.kept h3,h3.aF.Y1⟩
   |ret=>obtain⟨_,m3,⟨lx,rfl,hx⟩,h3⟩:=hp;exact⟨hL2.kept h3,lx,_,hx,rfl,h3.aF.Y1⟩
   |exit id=>obtain⟨_,m3,⟨lx,rfl,hx⟩,h3⟩:=hp;exact⟨hL2.kept h3,lx,_,hx,rfl,h3.aF.Y1⟩
   |goto t=>obtain⟨_,m3,⟨lx,rfl,hx⟩,h3⟩:=hp;exact⟨hL2.kept h3,lx,_,hx,rfl,h3.aF.Y1⟩
   |panic ch=>exact hp
   |outgrown=>exact hp
 .intro J' Zu hJ hC hJx hCx hY W hW'
  generalize w.heap.size=D at *;have hJL:∀b W,J' b W->BD T w0 W (wiR R D b++Y0 D):=fun b W h=>(hJ b W h).1;have hlt:D+1<W.heap.size:=(hJ none W hW').2;have hrec:=hJL none W hW';obtain⟨hAll,hv⟩:=hA W hrec.BN;have HC:=hdq hC;have HJ:=hdq hJL;have HLT:=hdq (fun b W h=>(hJ b W h).2);have HJX:=hdq hJx;have HCX:=hdq hCx;have HYY:=hdq hY;have HW:=hdq hW';have HRR:=hdq hrec;have HAA:=hdq hA;clear hJ hC hJx hCx hY hW' hJL hrec Y7 hdone hstop hAll hA h0;refine callsIn_of_wp_marks func269 rfl trivial ?_ rfl;simp only[ntmps269,List.size_toArray,List.length_cons,List.length_nil,Nat.reduceAdd,Nat.reduceSub,Array.replicate_succ,Array.replicate_zero,List.push_toArray,List.append_toArray,nAq,cAq];have z1:bv<W.heap.size:=World.block_lt_of_cell? _ _ hv;have z2:bv<W.heap.size+1:=by omega
  have h1:=HRR.o.alloc 366 #[.func (.yield (D+1)) #[] #[]];have HKT:=hdq ((Touch.refl [] W).alloc (.cells #[.func (.yield (D+1)) #[] #[]] 366));gi_wp2_with fail
  refine Y9 ?_;gi_wp2_with fail
  refine wpIn_label ?_;gi_wp2_with fail
  refine ZO ?_;intro w1 hw1;have hz1:w1.heap.size=W.heap.size+1:=by rw[<-hw1];simp
  rw[hw1]at h1 HKT;generalize hy:W.heap.size=y at h1 hz1 hlt|-;have BB:=hdq h1;clear hw1 hy z1 z2 hv h1;have HM:=hdq (fun V V' (h:D+1<V.heap.size) (S:List Nat) (hS:∀k∈S,D+1<k) (ht:Touch S V V')=>(ht.kept h (fun hc=>by have :=hS _ hc;omega) (fun hc=>by have :=hS _ hc;omega):Kept D V V'));refine ZB (β:=Nat×Option ME) rfl (enters_of func307 (by kernel_rfl) rfl)
   (fun b V=>∃o,J' (some (b.1,some (b.2,y,o))) V)
   (fun c V=>c= .exit 0/\∃k o,Zu (some (k,some (none,y,o))) V)
   (fun b=>b=(ys.length,none))
   (fun b xs b'=>∃x,b.2=some x/\b.1<ys.length/\(ys.map ME.plain)[b.1]? =some x.plain/\xs=#[.int .i64 (b.1:Int),x.val]/\b'=(b.1+1,none))
   (fun b xs b' ⟨_,_,_,_,hx,_⟩=>by rw[hx];rfl) ?_ ?_ (0,none) ?_ ?_ ?_ ?_ ?_
  .rintro⟨k,ox⟩ V o2 ⟨o1,h⟩
   refine⟨o2,HC.o _ V _ _ h ?_ (HM.o V _ (HLT.o _ _ h) [y+2] (by simp;omega) (by rw[hz1];exact(Touch.refl _ V).putObj (.inr (by simp)) o2))⟩;have hl:=HJ.o _ _ h;rw[hz1];rcases ox with _|x
   .exact BD.aaB hl
   .exact BD.aaB hl
  .rintro c V o2 ⟨hc,k,o1,h⟩
   refine⟨hc,k,o2,HCX.o _ V _ _ h (fun c ⟨lx,l,hx,hl,hL⟩=>⟨lx,_,hx,rfl,?_⟩) (HM.o V _ (HJX.o _ _ h).2 [y+2] (by simp;omega) (by rw[hz1];exact(Touch.refl _ V).putObj (.inr (by simp)) o2))⟩;cases hl
   rw[hz1];exact BD.aaB hL
  .intro o
   obtain⟨o',h3⟩:=BD.Y3 (BB.o.loop o);rw[hz1]at h3;refine⟨o',HC.o none W _ _ HW.o ?_ (HM.o W _ (HLT.o _ _ HW.o) [] (by simp) ((HKT.o.alloc _).alloc _))⟩;have h4:BD T w0 ((w1.alloc (.deferred (some []))).alloc o) (R 0++Y0 D++wiE D y o'):=by simpa[wiE,wiR]using h3
   exact h4.aB
  .rintro⟨k,ox⟩ xs b' V ⟨x,hx,hk,hp,rfl,rfl⟩ ⟨o1,hj⟩ hlt1
   dsimp only at hx hk hp hj;subst hx;have HJV:=hdq hj;have HP:=hdq hp;have DK:=hdq (BD.alloc (HJ.o _ _ hj) 65 #[x.sync,x.thread,x.branch,x.flag,x.v.kind,x.v.num,.slice x.v.addr x.v.parts.length x.v.cap]);have hltV:=HLT.o _ _ hj;clear hj hp;rw[hz1]at hlt1|-;rw[bB];gi_wp2
   have ht1:=(Touch.refl [] V).alloc (.cells #[x.sync,x.thread,x.branch,x.flag,x.v.kind,x.v.num,.slice x.v.addr x.v.parts.length x.v.cap] 65);refine⟨ht1.kept hlt1 (by simp) (by simp),fun o2=>?_⟩;have h5:BD T w0 (World.putObj (World.alloc V (.cells #[x.sync,x.thread,x.branch,x.flag,x.v.kind,x.v.num,.slice x.v.addr x.v.parts.length x.v.cap] 65)) (y+2) o2) ((R k++[bS [x.v]])++wiE D y o2++(Y0 D++[box V.heap.size 65 #[x.sync,x.thread,x.branch,x.flag,x.v.kind,x.v.num,.slice x.v.addr x.v.parts.length x.v.cap]])):=BD.aaB (o:=o1) (by simpa[wiR]using DK.o);obtain⟨V2,hV2⟩:∃V2,World.putObj (World.alloc V (.cells #[x.sync,x.thread,x.branch,x.flag,x.v.kind,x.v.num,.slice x.v.addr x.v.parts.length x.v.cap] 65)) (y+2) o2=V2:=⟨_,rfl⟩;have HT2:Hid (Touch [y+2] V V2):=hV2▸((Touch.refl [y+2] V).alloc (.cells #[x.sync,x.thread,x.branch,x.flag,x.v.kind,x.v.num,.slice x.v.addr x.v.parts.length x.v.cap] 65)).putObj (.inr (by simp)) o2;have RJ:Hid (Cg V2 V.heap.size 65 #[x.sync,x.thread,x.branch,x.flag,x.v.kind,x.v.num,.slice x.v.addr x.v.parts.length x.v.cap]):=hV2▸(Cg.new V 65 #[x.sync,x.thread,x.branch,x.flag,x.v.kind,x.v.num,.slice x.v.addr x.v.parts.length x.v.cap]).putObj (by omega) o2;rw[hV2]at h5|-;generalize hbe:V.heap.size=be at h5 RJ|-;have HJ2:Hid (J' (some (k,some (some x,y,o2))) V2):=by
    refine HC.o _ V _ _ HJV.o ?_ (HM.o V V2 hltV [y+2] (by simp;omega) HT2.o);exact BD.aF (m:=[box be 65 #[x.sync,x.thread,x.branch,x.flag,x.v.kind,x.v.num,.slice x.v.addr x.v.parts.length x.v.cap]]) (by simpa[wiR]using h5)
   have HW2:=hdq (BD.wiAt h5);clear hV2 hbe h5 DK HT2 hltV HJV ht1;have hy0:=ZA (n:=n-1-1-1-1) (HYY.o (some (k,some (some x,y,o2))) _ (some (k+1,some (none,y,o2))) V2 ⟨k,x,y,o2,rfl,hk,HP.o,rfl,rfl⟩ HJ2.o);rw[bB]at hy0;obtain⟨fn,tmps,assign,body,hy,hR⟩:=hy0;have HR:=hdq hR;clear hR;have g1:=HW2.o.2.2.cell 0;have e0:=RJ.o.cell 0;have e1:=RJ.o.cell 1;have e2:=RJ.o.cell 2;have e3:=RJ.o.cell 3;have e4:=RJ.o.cell 4;have e5:=RJ.o.cell 5;have e6:=RJ.o.cell 6;simp at g1 e0 e1 e2 e3 e4 e5 e6
   gi_wp2_with fail
   refine⟨Zy,HR.o.mono ?_⟩;rintro e V4 (⟨rfl,hj⟩|⟨rfl,hj⟩)
   .have HJ4:=hdq hj
    clear hj hy;gi_wp2
    have hw4:=BD.wiAt (HJ.o _ _ HJ4.o);exact⟨⟨hw4.1.trans HW2.o.1.symm,hw4.2.1.trans HW2.o.2.1.symm⟩,o2,HJ4.o⟩
   .have HJ4:=hdq hj
    clear hj hy;gi_wp2
    obtain⟨c,lx,l,hx,hl,hL⟩:=(HJX.o _ _ HJ4.o).1;cases hl
    have hw4:=BD.wiAt hL;exact⟨⟨hw4.1.trans HW2.o.1.symm,hw4.2.1.trans HW2.o.2.1.symm⟩,rfl,k+1,o2,HJ4.o⟩
  .intro J2 Jx2 hJ2 hC2 hCx2 hY2 V hV
   refine CallsIn.mono (Zn (n-1-1) (w1.heap.size+1) bx ra rc ys hL hnn (fun k V=>J2 (k,none) V) (fun k x V=>J2 (k,some x) V/\(ys.map ME.plain)[k]? =some x.plain) Jx2 (fun k V h=>?_) ?_ ?_ V hV) ?_
   .obtain⟨o,h⟩:=(hJ2 _ _ h).1
    exact(HAA.o V (HJ.o _ _ h).BN).1
   .intro k V V' x h ht hin hb hp
    obtain⟨⟨o,h1⟩,h2⟩:=hJ2 _ _ h;refine⟨hC2 (k,none) V (k,some x) V' h ⟨o,HC.o _ V _ _ h1 ?_ (ht.kept (HLT.o _ _ h1) (by simp) (by simp))⟩ (ht.kept h2 (by simp) (by simp)),hp⟩;have h3:BD T w0 V (R k++(wiE D y o++Y0 D)):=by simpa[wiR]using HJ.o _ _ h1
    have h4:=(h3.gH (vs:=[x.v]) ht (by simpa using hin) (by simpa using hb)).aB;simpa[wiR]using h4
   .rintro k x V hk ⟨h,hp⟩
    exact hY2 (k,some x) _ (k+1,none) V ⟨x,rfl,hk,hp,rfl,rfl⟩ h
   .rintro e V ⟨hv,⟨k,hk,hj⟩|hx⟩
    .exact⟨hv,.inl ⟨(k,none),by rw[hk],hj⟩⟩
    .exact⟨hv,.inr hx⟩
  .rintro b V rfl ⟨o,h⟩ hm hlt1
   have h1:BD T w0 V (R ys.length++wiE D y o++Y0 D):=HJ.o _ _ h;rw[hz1]at hm hlt1|-;gi_wp2
   refine Y6 (v:= .tuple #[]) [y+1] _ (fun k hk=>by simp at hk;subst hk;exact hm) (by simp) (results_none rfl _ _ _) ⟨⟨_,rfl⟩,.inl ⟨some (ys.length,none),rfl,?_⟩⟩;exact HC.o _ V _ _ h h1.aaR (HM.o V _ (HLT.o _ _ h) [y+1] (by simp;omega) ((Touch.refl _ V).putObj (.inr (by simp)) _))
  .rintro c V ⟨rfl,k,o,h⟩ hm hlt1
   rw[hz1]at hm hlt1|-;gi_wp2
   refine noGoto_normal ?_;refine Y6 (v:= .tuple #[]) [y+1] _ (fun k hk=>by simp at hk;subst hk;exact hm) (by simp) (results_none rfl _ _ _) ⟨⟨_,rfl⟩,.inr ⟨some (k,none),?_⟩⟩;refine HCX.o _ V _ _ h (fun c ⟨lx,l,hx,hl,hL⟩=>⟨lx,_,hx,rfl,?_⟩) (HM.o V _ (HJX.o _ _ h).2 [y+1] (by simp;omega) ((Touch.refl _ V).putObj (.inr (by simp)) _));cases hl
   exact hL.aaR
 .rintro c b W ⟨lx,l,hx,hl,h⟩ hm hlt
  rcases b with _|⟨k,_|⟨ox,y,o⟩⟩
  .cases hl
  .cases hl;exact hstop c W lx hx h
  .cases hl;exact hstop c W lx hx (h.aB.aF)
end
theorem Cg.src{w:World}{g:Nat}{t:TypeId}{cs:Array Value}(h:Cg w g t cs):∀j u,cs.toList[j]? =some u->w.cell? ((⟨g,0,none⟩:Addr).add j)=some u:=by
 intro j u hu;rw[Addr.add_lit,Nat.zero_add,h.cell j];simpa using hu
theorem Vb(a:Option Addr)(n c:Nat)(w:World):(Instr.build 36 #[(0,.slice a n c)]).run prog w= .ok (.agg #[.slice a n c]) w:=run_build w 36 _ _ (by kernel_rfl)
theorem V9{w:World}{e size n cap:Nat}{a:Option Addr}{xs:List Value}(h:dZ w e size (.slice a n cap) n xs):n<=cap:=by
 obtain⟨a',c',hv,h1,_⟩:=mP h;injection hv with _ _ h3
 omega
theorem cells_one(x:ME):∀u∈x.cells,u.oneCell'=true:=by have :=qf [x];simpa[aM]using this
def TD(T:List Nat)(w:World)(P:World->Prop)(a:Option Addr)(rs:List ME)(w':World):Prop:=∃P':World->Prop,(∀W,P' W->P W/\fo W a rs)/\BD T w w' [aA P']
theorem TD.same{T:List Nat}{w w':World}{P:World->Prop}{a:Option Addr}{rs:List ME}{rest:List ai}(h:BD T w w' (aA P::rest))(hP:∀W,P W->fo W a rs):TD T w P a rs w':=⟨P,fun W hW=>⟨hW,hP W hW⟩,BD.aF (l:=[aA P]) (m:=rest) h⟩
theorem TD.made{T:List Nat}{w w':World}{P:World->Prop}{a:Option Addr}{cap n:Nat}{rs:List ME}(hn:rs.length=n)(h:BD T w w' [aA P,aS 65 7 (.slice a n cap) n (aM rs)]):TD T w P a rs w':=by
 subst hn;exact⟨fun W=>P W/\fo W a rs,fun W hW=>hW,BD.settle (l:=[aA P]) h 0 rfl (fun W f hW hf=>⟨hW,iL hf.2⟩)⟩
def YK(T:List Nat)(w:World)(P:World->Prop)(rs:List ME)(x:ME)(e:Ending)(w':World):Prop:=
 ∃(err:Int) (a':Option Addr) (cap':Nat) (rs':List ME),e= .returned (.tuple #[.agg #[.slice a' rs'.length cap'],err])/\rs'.length<=cap'/\((err=2/\¬x.plain.Ok/\rs'=rs)\/(err=6/\x.plain.Ok/\rs.length=4096/\rs'=rs)\/(err=0/\x.plain.Ok/\rs.length<4096/\rs'=rs++[x]))/\TD T w P a' rs' w'
theorem XI(T:List Nat)(w:World)(P:World->Prop)(a:Option Addr)(cap:Nat)(rs:List ME)(x:ME)(hcap:rs.length<=cap)(h:BD T w w [aA P])(hP:∀W,P W->fo W a rs/\x.v.In W)(hnx:x.v.nodes<=1048576)(hlen:rs.length<=4096):
  Calls prog 288 #[.agg #[.slice a rs.length cap],x.val] w (YK T w P rs x):=by
 have HP:=hdq hP;have BG:=hdq h;have hbq:=Vb;obtain⟨i0,hi0,CY,CU,CX⟩:=info_parts nD;clear h hP;simp only[bB];go_enter func288,ntmps288
 go_wp2_with fail
 refine ah ?_;intro w1 hw1;have BB:=hdq (BG.o.UX hw1);simp only[nAq,cAq]at BB;generalize hb4:w.heap.size+1+1=b4 at BB|-;generalize hb3:w.heap.size+1=b3 at BB|-;generalize hb2:w.heap.size=b2 at BB|-;clear hw1 hb4 hb3 hb2 BG;refine(Ww x w1 (HP.o _ (BB.o.still 0 rfl)).2 hnx).mono ?_;rintro e w3 ⟨cc,rfl,hcc,ht⟩;have BF:=hdq (BB.o.touch ht);have D6:=hdq hcc;clear hcc ht BB;obtain⟨v0,_,hl2,_,_⟩:=BF.o.c1 1 rfl;obtain⟨x0,x1,x2,x3,x4,x5,x6,_,hl3,_,_⟩:=BF.o.c7 2 rfl;obtain⟨u0,uf,hl4,_,_⟩:=BF.o.c1 3 rfl;cases cc with
 |false=>
  go_wp2;have BH:=hdq (BF.o.set 3 rfl 0 (.slice a rs.length cap));simp only[sSq,sZq,sAq]at BH;obtain⟨s0,_⟩:=BH.o.c1 3 rfl;refine bodyPost_ret (v:= .tuple #[.agg #[.slice a rs.length cap],(2:Int)]) (by simp[results,results288,go_sem,s0]) rfl ?_;exact⟨2,a,cap,rs,rfl,hcap,.inl ⟨rfl,fun hk=>(by have :=D6.o.2 hk;cases this),rfl⟩,TD.same BH.o (fun W hW=>(HP.o W hW).1)⟩
 |true=>
  have EC:Hid x.plain.Ok:=D6.o.1 rfl;clear D6;by_cases hfull:rs.length=4096
  .have hf1:(4096:Int)<=(rs.length:Int):=by omega
   have HFU:=hdq hfull;clear hfull;go_wp2;have BH:=hdq (BF.o.set 3 rfl 0 (.slice a rs.length cap));simp only[sSq,sZq,sAq]at BH;obtain⟨s0,_⟩:=BH.o.c1 3 rfl;refine bodyPost_ret (v:= .tuple #[.agg #[.slice a rs.length cap],(6:Int)]) (by simp[results,results288,go_sem,s0]) rfl ?_;exact⟨6,a,cap,rs,rfl,hcap,.inr (.inl ⟨rfl,EC.o,HFU.o,rfl⟩),TD.same BH.o (fun W hW=>(HP.o W hW).1)⟩
  .have hf1:¬(4096:Int)<=(rs.length:Int):=by omega
   have n1:=BF.o.ne 1 3 rfl rfl (by decide);have n2:=Ne.symm n1;have n3:=BF.o.ne 2 3 rfl rfl (by decide);have n4:=Ne.symm n3;go_wp2_with fail
   have Gj:=hdq ((BF.o.empty 65 7).drew);have Gs:=hdq (((BF.o.empty 65 7).alloc 65 #[x.sync,x.thread,x.branch,x.flag,x.v.kind,x.v.num,.slice x.v.addr x.v.parts.length x.v.cap]).drew);have Gm:=hdq ((((BF.o.alloc 65 #[x.sync,x.thread,x.branch,x.flag,x.v.kind,x.v.num,.slice x.v.addr x.v.parts.length x.v.cap]).empty 65 7).drew).pick [0,1,2,3,5,4] (by decide) (by simp));simp only[nAq,cAq,World.size_alloc,List.filterMap_cons,List.filterMap_nil,List.getElem?_cons_zero,List.getElem?_cons_succ]at Gj Gs Gm;go_region_held3 (fun w'=>w'.cell? ⟨b2,0,none⟩=some (.slice a rs.length cap)/\w'.cell? ⟨b3,0,none⟩=some (.int .i64 x.sync)/\w'.cell? ⟨b3,1,none⟩=some (.int .i64 x.thread)/\w'.cell? ⟨b3,2,none⟩=some (.int .i64 x.branch)/\w'.cell? ⟨b3,3,none⟩=some (.int .i64 x.flag)/\w'.cell? ⟨b3,4,none⟩=some (.int .i64 x.v.kind)/\w'.cell? ⟨b3,5,none⟩=some (.int .i64 x.v.num)/\w'.cell? ⟨b3,6,none⟩=some (.slice x.v.addr x.v.parts.length x.v.cap)) (go_keep) (first
    |(refine aD _ (by rfl) (.tmp 15) (.tmp 17) 34 (by rfl) 65 i0 _ 7 72 underlying34 hi0 CY CU CX rfl (by decide) (.slice (some ⟨w3.heap.size,0,none⟩) 0 0) 0 [] (by rfl) (Gj.o.aZ 4 rfl) a rs.length cap (aM rs) (by rfl) (fU rs) (HP.o _ (Gj.o.still 0 rfl)).1.src (qf rs) (by simp only[maxLen];omega) (by omega) ?_;intro a2 c2 w2 hown hgrow hat;simp only[Nat.zero_add,nAq]at hown hat|-;have BH:=hdq (Gj.o.bG 4 rfl hgrow hown hat);simp only[sSq,sZq]at BH;obtain⟨v0,_,hl2,_,_⟩:=BH.o.c1 1 rfl;obtain⟨x0,x1,x2,x3,x4,x5,x6,_,hl3,_,_⟩:=BH.o.c7 2 rfl;obtain⟨u0,uf,hl4,_,_⟩:=BH.o.c1 3 rfl;clear hown hgrow hat)
    |(refine aD _ (by rfl) (.tmp 15) (.tmp 17) 34 (by rfl) 65 i0 _ 7 72 underlying34 hi0 CY CU CX rfl (by decide) (.slice (some ⟨w3.heap.size,0,none⟩) 0 0) 0 [] (by rfl) (Gs.o.aZ 4 rfl) a rs.length cap (aM rs) (by rfl) (fU rs) (HP.o _ (Gs.o.still 0 rfl)).1.src (qf rs) (by simp only[maxLen];omega) (by omega) ?_;intro a2 c2 w2 hown hgrow hat;simp only[Nat.zero_add,nAq]at hown hat|-;have BH:=hdq (Gs.o.bG 4 rfl hgrow hown hat);simp only[sSq,sZq]at BH;obtain⟨v0,_,hl2,_,_⟩:=BH.o.c1 1 rfl;obtain⟨x0,x1,x2,x3,x4,x5,x6,_,hl3,_,_⟩:=BH.o.c7 2 rfl;obtain⟨u0,uf,hl4,_,_⟩:=BH.o.c1 3 rfl;clear hown hgrow hat)
    |(refine aD _ (by rfl) (.tmp 15) (.tmp 17) 34 (by rfl) 65 i0 _ 7 72 underlying34 hi0 CY CU CX rfl (by decide) (.slice (some ⟨w3.heap.size+1,0,none⟩) 0 0) 0 [] (by rfl) (Gm.o.aZ 4 rfl) a rs.length cap (aM rs) (by rfl) (fU rs) (HP.o _ (Gm.o.still 0 rfl)).1.src (qf rs) (by simp only[maxLen];omega) (by omega) ?_;intro a2 c2 w2 hown hgrow hat;simp only[Nat.zero_add,nAq]at hown hat|-;have BH:=hdq (Gm.o.bG 4 rfl hgrow hown hat);simp only[sSq,sZq]at BH;obtain⟨v0,_,hl2,_,_⟩:=BH.o.c1 1 rfl;obtain⟨x0,x1,x2,x3,x4,x5,x6,_,hl3,_,_⟩:=BH.o.c7 2 rfl;obtain⟨u0,uf,hl4,_,_⟩:=BH.o.c1 3 rfl;clear hown hgrow hat)
    |(refine aD _ (by rfl) (.tmp 18) (.tmp 20) 34 (by rfl) 65 i0 _ 7 72 underlying34 hi0 CY CU CX rfl (by decide) (.slice a2 rs.length c2) rs.length (aM rs) (by rfl) ((BH.o.alloc _ _).aZ 4 rfl) (some ⟨w2.heap.size,0,none⟩) 1 1 x.cells (by rfl) rfl (.inr ⟨_,rfl,((BH.o.alloc _ _).box 5 rfl).src⟩) (cells_one x) (by simp only[maxLen];omega) (by omega) ?_;intro a3 c3 w3 hown hgrow hat;have Ca:=hdq ((BH.o.alloc _ _).bG 4 rfl hgrow hown hat);simp only[sSq,sZq,cAq,nAq]at Ca;obtain⟨v0,_,hl2,_,_⟩:=Ca.o.c1 1 rfl;obtain⟨x0,x1,x2,x3,x4,x5,x6,_,hl3,_,_⟩:=Ca.o.c7 2 rfl;obtain⟨u0,uf,hl4,_,_⟩:=Ca.o.c1 3 rfl;clear hown hgrow hat)
    |(refine aD _ (by rfl) (.tmp 18) (.tmp 20) 34 (by rfl) 65 i0 _ 7 72 underlying34 hi0 CY CU CX rfl (by decide) (.slice a2 rs.length c2) rs.length (aM rs) (by rfl) (BH.o.aZ 4 rfl) (some ⟨_,0,none⟩) 1 1 x.cells (by rfl) rfl (.inr ⟨_,rfl,(BH.o.box 5 rfl).src⟩) (cells_one x) (by simp only[maxLen];omega) (by omega) ?_;intro a3 c3 w3 hown hgrow hat;have Ca:=hdq (BH.o.bG 4 rfl hgrow hown hat);simp only[sSq,sZq,cAq,nAq]at Ca;obtain⟨v0,_,hl2,_,_⟩:=Ca.o.c1 1 rfl;obtain⟨x0,x1,x2,x3,x4,x5,x6,_,hl3,_,_⟩:=Ca.o.c7 2 rfl;obtain⟨u0,uf,hl4,_,_⟩:=Ca.o.c1 3 rfl;clear hown hgrow hat))
   all_goals go_wp2
   all_goals have FE:=hdq (Ca.o.set 3 rfl 0 (.slice a3 (rs.length+1) c3))
   all_goals simp only[sSq,sZq,sAq]at FE
   all_goals obtain⟨s0,_⟩:=FE.o.c1 3 rfl
   all_goals refine bodyPost_ret (v:= .tuple #[.agg #[.slice a3 (rs.length+1) c3],()]) (by simp[results,results288,go_sem,s0]) rfl ?_
   all_goals refine⟨0,a3,c3,rs++[x],(by simp),(by have :=V9 (FE.o.aZ 4 rfl);simpa using this),.inr (.inr ⟨rfl,EC.o,by omega,rfl⟩),TD.made (cap:=c3) (n:=rs.length+1) (by simp) ?_⟩
   all_goals rw[iC,show aM [x]=x.cells from(by simp[aM])]
   all_goals exact FE.o.sel [0,4] rfl (by decide)
theorem X5(a:Addr)(i j:Nat):(a.add i).add j=a.add (i+j):=by
 unfold Addr.add;by_cases hi:i=0<;>by_cases hj:j=0<;>simp[hi,hj,Nat.add_assoc]
theorem fo.XP{w:World}{a sa:Option Addr}{rs:List ME}{lo k:Nat}(h:fo w a rs)(hk:k=7)(hs:rs.length=lo\/sa=a.map (·.add (lo*k))):rs.length-lo=0\/∃ad,sa=some ad/\∀j u,((aM rs).drop (lo*7))[j]? =some u->w.cell? (ad.add j)=some u:=by
 subst hk;rcases hs with hs|rfl
 .exact .inl (by omega)
 .rcases h.src with h0|⟨ad,rfl,hc⟩
  .exact .inl (by omega)
  .refine .inr ⟨ad.add (lo*7),rfl,fun j u hu=>?_⟩
   rw[X5];rw[List.getElem?_drop]at hu;exact hc _ _ hu
theorem fo.src_to{w:World}{a:Option Addr}{rs:List ME}{k:Nat}(h:fo w a rs)(hk:k<=rs.length):k=0\/∃ad,a=some ad/\∀j u,((aM rs).take (k*7))[j]? =some u->w.cell? (ad.add j)=some u:=by
 rcases h.src with h0|⟨ad,rfl,hc⟩
 .exact .inl (by omega)
 .refine .inr ⟨ad,rfl,fun j u hu=>hc j u ?_⟩
  rw[List.getElem?_take]at hu;split at hu
  .exact hu
  .cases hu
def Yc(T:List Nat)(w:World)(P:World->Prop)(rs:List ME)(i:Int)(e:Ending)(w':World):Prop:=
 ∃(a':Option Addr) (cap':Nat) (rs':List ME) (x:ME) (c:Bool),e= .returned (.tuple #[.agg #[.slice a' rs'.length cap'],x.val,c])/\rs'.length<=cap'/\kF rs i x c/\rs'=(if c=true then rs.eraseIdx i.toNat else rs)/\TD T w P a' rs' w'
theorem UU(T:List Nat)(w:World)(P:World->Prop)(a:Option Addr)(cap:Nat)(rs:List ME)(i:Int)(hcap:rs.length<=cap)(h:BD T w w [aA P])(hP:∀W,P W->fo W a rs)(hlen:rs.length<=1048576):
  Calls prog 260 #[.agg #[.slice a rs.length cap],i] w (Yc T w P rs i):=by
 have HP:=hdq hP;have BG:=hdq h;have hbq:=Vb;clear h hP;go_enter func260,ntmps260
 go_wp2_with fail
 refine ah ?_;intro w1 hw1;have BB:=hdq (BG.o.UX hw1);simp only[nAq,cAq]at BB;generalize hb5:w.heap.size+1+1=b5 at BB|-;generalize hb4:w.heap.size+1=b4 at BB|-;generalize hb2:w.heap.size=b2 at BB|-;clear hw1 hb5 hb4 hb2 BG;refine(Vx w1 a cap rs i (HP.o _ (BB.o.still 0 rfl))).mono ?_;rintro e w2 ⟨x,cc,rfl,hR,ht⟩;have HL2:=hdq (BB.o.touch ht);have HR:=hdq hR;clear hR ht BB;simp only[bB];obtain⟨v0,_,hl2,_,_⟩:=HL2.o.c1 1 rfl;go_upto_region 2 with fail
 refine ay ?_;intro w3 hw3;have BF:=hdq (HL2.o.DN hw3);simp only[nAq,cAq]at BF;generalize EF:w2.heap.size=b7 at BF|-;clear hw3 EF HL2 v0 hl2;obtain⟨v0,_,hl2,_,_⟩:=BF.o.c1 1 rfl;obtain⟨u0,uf,hl4,_,_⟩:=BF.o.c1 2 rfl;obtain⟨y0,y1,y2,y3,y4,y5,y6,⟨fy0,fy1,fy2,fy3,fy4,fy5,fy6⟩,hl5,_,_⟩:=BF.o.c7 3 rfl;obtain⟨x0,x1,x2,x3,x4,x5,x6,_,hl7,_,_⟩:=BF.o.c7 4 rfl;have n1:=BF.o.ne 1 2 rfl rfl (by decide);have n2:=BF.o.ne 1 3 rfl rfl (by decide);have n3:=BF.o.ne 2 3 rfl rfl (by decide);have n4:=BF.o.ne 2 4 rfl rfl (by decide);have n5:=BF.o.ne 3 4 rfl rfl (by decide);have m1:=Ne.symm n1;have m2:=Ne.symm n2;have m3:=Ne.symm n3;have m4:=Ne.symm n4;have m5:=Ne.symm n5;cases cc with
 |false=>
  go_wp2_with fail
  go_region_held3 (fun w'=>w'.cell? ⟨b2,0,none⟩=some (.slice a rs.length cap)/\w'.cell? ⟨b7,0,none⟩=some (.int .i64 x.sync)/\w'.cell? ⟨b7,1,none⟩=some (.int .i64 x.thread)/\w'.cell? ⟨b7,2,none⟩=some (.int .i64 x.branch)/\w'.cell? ⟨b7,3,none⟩=some (.int .i64 x.flag)/\w'.cell? ⟨b7,4,none⟩=some (.int .i64 x.v.kind)/\w'.cell? ⟨b7,5,none⟩=some (.int .i64 x.v.num)/\w'.cell? ⟨b7,6,none⟩=some (.slice x.v.addr x.v.parts.length x.v.cap)) (go_keep) (fail)
  go_wp2;have HF:=hdq (((BF.o.set 2 rfl 0 (.slice a rs.length cap)).iD 3 rfl x.sync x.thread x.branch x.flag x.v.kind x.v.num (.slice x.v.addr x.v.parts.length x.v.cap)).drew);simp only[sSq,sZq,sAq]at HF;obtain⟨q0,_⟩:=HF.o.c1 2 rfl;obtain⟨s0,s1,s2,s3,s4,s5,s6,_⟩:=HF.o.c7 3 rfl;refine bodyPost_ret (v:= .tuple #[.agg #[.slice a rs.length cap],x.val,false]) (by simp[results,results260,go_sem,q0,s0,s1,s2,s3,s4,s5,s6,bB]) rfl ?_;exact⟨a,cap,rs,x,false,rfl,hcap,HR.o,by simp,TD.same HF.o HP.o⟩
 |true=>
  obtain⟨hi0,hxi⟩:0<=i/\rs[i.toNat]? =some x:=by
   rcases HR.o with ⟨_,h1,h2⟩|⟨h,_⟩
   .exact⟨h1,h2⟩
   .cases h
  obtain⟨k,rfl⟩:=Int.eq_ofNat_of_zero_le hi0;have hk:k<rs.length:=(List.getElem?_eq_some_iff.1 hxi).1;obtain⟨i0,Vl,CY,CU,CX⟩:=info_parts nD;obtain⟨sa,hsa,hsl2⟩:=kZ underlying34 Vl a rs.length cap (k+1) (by omega) hcap;have hsl1:=fun W=>UH underlying34 Vl a rs.length cap k (by omega) W;have HSA:=hdq hsa;clear hsa hxi hi0;rw[show(((k+1:Nat)):Int)=(k:Int)+1 by omega]at hsl2;have hwk:IntKind.i64.wrap ((k:Int)+1)=(k:Int)+1:=IntWalk.i64_in _ (by omega);have LK:=hdq (BF.o.empty 65 7).drew;simp only[nAq,cAq]at LK;have HTL:Hid (((aM rs).take (k*7)).length=k*7):=by unfold Hid;rw[List.length_take,fU];omega
  have HLN:Hid (((aM rs).drop ((k+1)*7)).length=(rs.length-(k+1))*7):=by
   unfold Hid;rw[List.length_drop,fU,Nat.sub_mul]
  go_wp2_with fail
  go_region_held3 (fun w'=>w'.cell? ⟨b2,0,none⟩=some (.slice a rs.length cap)/\w'.cell? ⟨b7,0,none⟩=some (.int .i64 x.sync)/\w'.cell? ⟨b7,1,none⟩=some (.int .i64 x.thread)/\w'.cell? ⟨b7,2,none⟩=some (.int .i64 x.branch)/\w'.cell? ⟨b7,3,none⟩=some (.int .i64 x.flag)/\w'.cell? ⟨b7,4,none⟩=some (.int .i64 x.v.kind)/\w'.cell? ⟨b7,5,none⟩=some (.int .i64 x.v.num)/\w'.cell? ⟨b7,6,none⟩=some (.slice x.v.addr x.v.parts.length x.v.cap)) (go_keep) (first
   |(refine aD _ (by rfl) (.tmp 19) (.tmp 23) 34 (by rfl) 65 i0 _ 7 72 underlying34 Vl CY CU CX rfl (by decide) (.slice (some ⟨w3.heap.size,0,none⟩) 0 0) 0 [] (by rfl) (LK.o.aZ 5 rfl) a k cap ((aM rs).take (k*7)) (by rfl) HTL.o ((HP.o _ (LK.o.still 0 rfl)).src_to (by omega)) (fun u hu=>qf rs u (List.mem_of_mem_take hu)) (by simp only[maxLen];omega) (by omega) ?_;intro a8 c8 w8 hown hgrow hat;simp only[Nat.zero_add,nAq]at hown hat|-;have EX:=hdq (LK.o.bG 5 rfl hgrow hown hat);simp only[sSq,sZq]at EX;clear hown hgrow hat v0 hl2 u0 uf hl4 y0 y1 y2 y3 y4 y5 y6 fy0 fy1 fy2 fy3 fy4 fy5 fy6 hl5 x0 x1 x2 x3 x4 x5 x6 hl7;obtain⟨v0,_,hl2,_,_⟩:=EX.o.c1 1 rfl;obtain⟨u0,uf,hl4,_,_⟩:=EX.o.c1 2 rfl;obtain⟨y0,y1,y2,y3,y4,y5,y6,⟨fy0,fy1,fy2,fy3,fy4,fy5,fy6⟩,hl5,_,_⟩:=EX.o.c7 3 rfl;obtain⟨x0,x1,x2,x3,x4,x5,x6,_,hl7,_,_⟩:=EX.o.c7 4 rfl)
   |(refine aD _ (by rfl) (.tmp 24) (.tmp 29) 34 (by rfl) 65 i0 _ 7 72 underlying34 Vl CY CU CX rfl (by decide) (.slice a8 k c8) k ((aM rs).take (k*7)) (by rfl) (EX.o.aZ 5 rfl) sa (rs.length-(k+1)) (cap-(k+1)) ((aM rs).drop ((k+1)*7)) (by rfl) HLN.o ((HP.o _ (EX.o.still 0 rfl)).XP CU HSA.o) (fun u hu=>qf rs u (List.mem_of_mem_drop hu)) (by simp only[maxLen];omega) (by omega) ?_;intro a9 c9 w9 hown hgrow hat;have Rj:=hdq (EX.o.bG 5 rfl hgrow hown hat);simp only[sSq,sZq]at Rj;clear hown hgrow hat v0 hl2 u0 uf hl4 y0 y1 y2 y3 y4 y5 y6 fy0 fy1 fy2 fy3 fy4 fy5 fy6 hl5 x0 x1 x2 x3 x4 x5 x6 hl7;obtain⟨v0,_,hl2,_,_⟩:=Rj.o.c1 1 rfl;obtain⟨u0,uf,hl4,_,_⟩:=Rj.o.c1 2 rfl;obtain⟨y0,y1,y2,y3,y4,y5,y6,⟨fy0,fy1,fy2,fy3,fy4,fy5,fy6⟩,hl5,_,_⟩:=Rj.o.c7 3 rfl;obtain⟨x0,x1,x2,x3,x4,x5,x6,_,hl7,_,_⟩:=Rj.o.c7 4 rfl))
  have hel:k+(rs.length-(k+1))=(rs.eraseIdx k).length:=by rw[List.length_eraseIdx_of_lt hk];omega
  have hec:(aM rs).take (k*7)++(aM rs).drop ((k+1)*7)=aM (rs.eraseIdx k):=by rw[List.eraseIdx_eq_take_drop_succ,iC,qU,rA]
  go_wp2;have HF:=hdq (((Rj.o.set 2 rfl 0 (.slice a9 (k+(rs.length-(k+1))) c9)).iD 3 rfl x.sync x.thread x.branch x.flag x.v.kind x.v.num (.slice x.v.addr x.v.parts.length x.v.cap)));simp only[sSq,sZq,sAq]at HF;obtain⟨q0,_⟩:=HF.o.c1 2 rfl;obtain⟨s0,s1,s2,s3,s4,s5,s6,_⟩:=HF.o.c7 3 rfl;refine bodyPost_ret (v:= .tuple #[.agg #[.slice a9 (k+(rs.length-(k+1))) c9],x.val,true]) (by simp[results,results260,go_sem,q0,s0,s1,s2,s3,s4,s5,s6,bB]) rfl ?_;refine⟨a9,c9,rs.eraseIdx k,x,true,by rw[hel],?_,HR.o,by simp,TD.made (cap:=c9) hel.symm ?_⟩
  .have :=V9 (HF.o.aZ 5 rfl)
   rwa[hel]at this
  .rw[<-hec]
   exact HF.o.sel [0,5] rfl (by decide)
theorem BD.Va{T:List Nat}{w0 w:World}{l:List ai}{P:World->Prop}(h:BD T w0 w l)(j:Nat)(hj:l[j]? =some (aA P))(a:Option Addr)(cap:Nat)(rs:List ME)(x:ME)(hcap:rs.length<=cap)(hP:∀W,P W->fo W a rs/\x.v.In W)(hnx:x.v.nodes<=1048576)(hlen:rs.length<=4096):
  Calls prog 288 #[.agg #[.slice a rs.length cap],x.val] w fun e w'=>∃(err:Int) (a':Option Addr) (cap':Nat) (rs':List ME),e= .returned (.tuple #[.agg #[.slice a' rs'.length cap'],err])/\rs'.length<=cap'/\((err=2/\¬x.plain.Ok/\rs'=rs)\/(err=6/\x.plain.Ok/\rs.length=4096/\rs'=rs)\/(err=0/\x.plain.Ok/\rs.length<4096/\rs'=rs++[x]))/\
   ∃P':World->Prop,(∀W,P' W->P W/\fo W a' rs')/\BD T w0 w' (l.set j (aA P')):=by
 obtain⟨T',h1,hb⟩:=h.qL j hj;refine(XI T' w P a cap rs x hcap h1 hP hnx hlen).mono ?_;rintro e w' ⟨err,a',cap',rs',rfl,hcp,hc,P',hP',hL⟩;exact⟨err,a',cap',rs',rfl,hcp,hc,P',hP',hb _ _ [] hL⟩
theorem kK.unique{n:Nat}{xs:List PE}{k k':Nat}{err err':Int}(h:kK n xs k err)(h':kK n xs k' err'):k=k'/\err=err':=by
 obtain⟨h1,h2,h3,h4⟩:=h;obtain⟨g1,g2,g3,g4⟩:=h';have hk:k=k':=by
  rcases h4 with ⟨_,rfl⟩|⟨hlt,h4⟩
  .rcases g4 with ⟨_,rfl⟩|⟨glt,⟨_,g⟩|⟨_,_,g⟩⟩
   .rfl
   .exact absurd (h1 k' glt glt) g
   .omega
  .rcases g4 with ⟨_,rfl⟩|⟨glt,g4⟩
   .rcases h4 with ⟨_,g⟩|⟨_,_,g⟩
    .exact absurd (g1 k hlt hlt) g
    .omega
   .by_cases h5:k<k'
    .rcases h4 with ⟨_,g⟩|⟨_,_,g⟩
     .exact absurd (g1 k hlt h5) g
     .omega
    .by_cases h6:k'<k
     .rcases g4 with ⟨_,g⟩|⟨_,_,g⟩
      .exact absurd (h1 k' glt h6) g
      .omega
     .omega
 subst hk;refine⟨rfl,?_⟩;rcases h4 with ⟨rfl,h5⟩|⟨hlt,⟨rfl,h5⟩|⟨rfl,h5,_⟩⟩<;>rcases g4 with ⟨rfl,g5⟩|⟨glt,⟨rfl,g5⟩|⟨rfl,g5,_⟩⟩<;>first |rfl|omega|exact absurd h5 g5|exact absurd g5 h5
theorem BD.rDrop'{T:List Nat}{w0 w:World}{l:List ai}{P:World->Prop}(h:BD T w0 w l)(j:Nat)(hj:l[j]? =some (aA P))(a:Option Addr)(cap:Nat)(rs:List ME)(i:Int)(hcap:rs.length<=cap)(hP:∀W,P W->fo W a rs)(hlen:rs.length<=1048576):
  Calls prog 260 #[.agg #[.slice a rs.length cap],i] w fun e w'=>∃(a':Option Addr) (cap':Nat) (rs':List ME) (x:ME) (c:Bool),e= .returned (.tuple #[.agg #[.slice a' rs'.length cap'],x.val,c])/\rs'.length<=cap'/\kF rs i x c/\rs'=(if c=true then rs.eraseIdx i.toNat else rs)/\∃P':World->Prop,(∀W,P' W->P W/\fo W a' rs')/\BD T w0 w' (l.set j (aA P')):=by
 obtain⟨T',h1,hb⟩:=h.qL j hj;refine(UU T' w P a cap rs i hcap h1 hP hlen).mono ?_;rintro e w' ⟨a',cap',rs',x,c,rfl,hc,hR,hrs,P',hP',hL⟩;exact⟨a',cap',rs',x,c,rfl,hc,hR,hrs,P',hP',hb _ _ [] hL⟩
def YC(T:List Nat)(w:World)(P:World->Prop)(cell:Int)(rs:List ME)(x:ME)(e:Ending)(w':World):Prop:=
 ∃(err:Int) (a':Option Addr) (cap':Nat) (rs':List ME),e= .returned (.tuple #[.agg #[cell,.slice a' rs'.length cap'],err])/\rs'.length<=cap'/\((err=2/\¬x.plain.Ok/\rs'=rs)\/(err=6/\x.plain.Ok/\rs.length=4096/\rs'=rs)\/(err=0/\x.plain.Ok/\rs.length<4096/\rs'=rs++[x]))/\TD T w P a' rs' w'
theorem VF(T:List Nat)(w:World)(P:World->Prop)(cell:Int)(a:Option Addr)(cap:Nat)(rs:List ME)(x:ME)(hcap:rs.length<=cap)(h:BD T w w [aA P])(hP:∀W,P W->fo W a rs/\x.v.In W)(hnx:x.v.nodes<=1048576)(hlen:rs.length<=4096):
  Calls prog 226 #[.agg #[cell,.slice a rs.length cap],x.val] w (YC T w P cell rs x):=by
 have HP:=hdq hP;have BG:=hdq h;clear h hP;simp only[bB];go_enter func226,ntmps226
 go_wp2_with fail
 refine ah ?_;intro w1 hw1;have BB:=hdq (BG.o.UX hw1);simp only[nAq,cAq]at BB;generalize hb4:w.heap.size+1+1=b4 at BB|-;generalize hb3:w.heap.size+1=b3 at BB|-;generalize hb2:w.heap.size=b2 at BB|-;clear hw1 hb4 hb3 hb2 BG;refine(BB.o.Va 0 rfl a cap rs x hcap HP.o hnx hlen).mono ?_;rintro e w2 ⟨err,a',cap',rs',rfl,hcp,hc,P',hP',hL⟩;have HL2:=hdq hL;simp only[sZq]at HL2;have HC:=hdq hc;have LU:=hdq hcp;have WI:=hdq hP';clear hL hc hcp hP' BB;obtain⟨v0,v1,vf0,vf1,hl2,_,_⟩:=HL2.o.c2 1 rfl;obtain⟨u0,u1,Z8,Z9,hl4,_,_⟩:=HL2.o.c2 3 rfl;have n1:=HL2.o.ne 1 3 rfl rfl (by decide);have n2:=Ne.symm n1;go_wp2;have BH:=hdq ((((HL2.o.set 1 rfl 1 (.slice a' rs'.length cap')).set 3 rfl 0 (.int .i64 cell)).set 3 rfl 1 (.slice a' rs'.length cap')).dL (.cells #[.slice a' rs'.length cap'] 36));simp only[sSq,sZq,sAq]at BH;obtain⟨s0,s1,_⟩:=BH.o.c2 3 rfl;refine bodyPost_ret (v:= .tuple #[.agg #[cell,.slice a' rs'.length cap'],err]) (by simp[results,results226,go_sem,s0,s1]) rfl ?_;exact⟨err,a',cap',rs',rfl,LU.o,HC.o,P',WI.o,BD.aF (l:=[_]) (m:=[_,_,_]) BH.o⟩
def Yv(T:List Nat)(w:World)(P:World->Prop)(cell:Int)(rs:List ME)(e:Ending)(w':World):Prop:=
 ∃(a':Option Addr) (cap':Nat) (rs':List ME) (x:ME) (c:Bool),e= .returned (.tuple #[.agg #[cell,.slice a' rs'.length cap'],x.val,c])/\rs'.length<=cap'/\kF rs 0 x c/\rs'=(if c=true then rs.eraseIdx 0 else rs)/\TD T w P a' rs' w'
theorem VS(T:List Nat)(w:World)(P:World->Prop)(cell:Int)(a:Option Addr)(cap:Nat)(rs:List ME)(hcap:rs.length<=cap)(h:BD T w w [aA P])(hP:∀W,P W->fo W a rs)(hlen:rs.length<=1048576):
  Calls prog 185 #[.agg #[cell,.slice a rs.length cap]] w (Yv T w P cell rs):=by
 have HP:=hdq hP;have BG:=hdq h;clear h hP;go_enter func185,ntmps185
 go_wp2_with fail
 refine ah ?_;intro w1 hw1;have BB:=hdq (BG.o.UX hw1);simp only[nAq,cAq]at BB;generalize hb3:w.heap.size+1+1=b3 at BB|-;generalize hb2:w.heap.size+1=b2 at BB|-;generalize hb1:w.heap.size=b1 at BB|-;clear hw1 hb3 hb2 hb1 BG;refine(BB.o.rDrop' 0 rfl a cap rs 0 hcap HP.o hlen).mono ?_;rintro e w2 ⟨a',cap',rs',x,c,rfl,hcp,hR,hrs,P',hP',hL⟩;have HL2:=hdq hL;simp only[sZq]at HL2;have HR:=hdq hR;have HRS:=hdq hrs;have LU:=hdq hcp;have WI:=hdq hP';clear hL hR hrs hcp hP' BB;simp only[bB];obtain⟨v0,v1,vf0,vf1,hl2,_,_⟩:=HL2.o.c2 1 rfl;go_upto_region 3 with fail
 refine ay ?_;intro w3 hw3;have BF:Hid (BD T w w3 [aA P',box b1 38 #[cell,.slice a' rs'.length cap'],box b2 38 #[(),True],box b3 65 #[(),(),(),(),(),(),True],box w2.heap.size 36 #[.slice a' rs'.length cap'],box (w2.heap.size+1) 65 #[x.sync,x.thread,x.branch,x.flag,x.v.kind,x.v.num,.slice x.v.addr x.v.parts.length x.v.cap]]):=by
  have h:=((HL2.o.set 1 rfl 1 (.slice a' rs'.length cap')).alloc 36 #[.slice a' rs'.length cap']).alloc 65 #[x.sync,x.thread,x.branch,x.flag,x.v.kind,x.v.num,.slice x.v.addr x.v.parts.length x.v.cap];rw[hw3]at h;unfold Hid;simpa using h
 generalize hb6:w2.heap.size+1=b6 at BF|-;clear hw3 hb6 HL2 v0 v1 vf0 vf1 hl2;obtain⟨v0,v1,vf0,vf1,hl2,_,_⟩:=BF.o.c2 1 rfl;obtain⟨u0,u1,Z8,Z9,hl4,_,_⟩:=BF.o.c2 2 rfl;obtain⟨y0,y1,y2,y3,y4,y5,y6,⟨fy0,fy1,fy2,fy3,fy4,fy5,fy6⟩,hl5,_,_⟩:=BF.o.c7 3 rfl;obtain⟨x0,x1,x2,x3,x4,x5,x6,_,hl7,_,_⟩:=BF.o.c7 5 rfl;have n1:=BF.o.ne 1 2 rfl rfl (by decide);have n2:=BF.o.ne 1 3 rfl rfl (by decide);have n3:=BF.o.ne 2 3 rfl rfl (by decide);have n4:=BF.o.ne 2 5 rfl rfl (by decide);have n5:=BF.o.ne 3 5 rfl rfl (by decide);have m1:=Ne.symm n1;have m2:=Ne.symm n2;have m3:=Ne.symm n3;have m4:=Ne.symm n4;have m5:=Ne.symm n5;go_wp2_with fail
 go_region_held3 (fun w'=>w'.cell? ⟨b1,0,none⟩=some (.int .i64 cell)/\w'.cell? ⟨b1,1,none⟩=some (.slice a' rs'.length cap')/\w'.cell? ⟨b6,0,none⟩=some (.int .i64 x.sync)/\w'.cell? ⟨b6,1,none⟩=some (.int .i64 x.thread)/\w'.cell? ⟨b6,2,none⟩=some (.int .i64 x.branch)/\w'.cell? ⟨b6,3,none⟩=some (.int .i64 x.flag)/\w'.cell? ⟨b6,4,none⟩=some (.int .i64 x.v.kind)/\w'.cell? ⟨b6,5,none⟩=some (.int .i64 x.v.num)/\w'.cell? ⟨b6,6,none⟩=some (.slice x.v.addr x.v.parts.length x.v.cap)) (go_keep) (fail)
 go_wp2;have HF:=hdq (((((BF.o.set 2 rfl 0 (.int .i64 cell)).set 2 rfl 1 (.slice a' rs'.length cap')).iD 3 rfl x.sync x.thread x.branch x.flag x.v.kind x.v.num (.slice x.v.addr x.v.parts.length x.v.cap))).drew);simp only[sSq,sZq,sAq]at HF;obtain⟨q0,q1,_⟩:=HF.o.c2 2 rfl;obtain⟨s0,s1,s2,s3,s4,s5,s6,_⟩:=HF.o.c7 3 rfl;refine bodyPost_ret (v:= .tuple #[.agg #[cell,.slice a' rs'.length cap'],x.val,c]) (by simp[results,results185,go_sem,q0,q1,s0,s1,s2,s3,s4,s5,s6,bB]) rfl ?_;exact⟨a',cap',rs',x,c,rfl,LU.o,HR.o,HRS.o,P',WI.o,BD.aF (l:=[_]) (m:=[_,_,_,_,_]) HF.o⟩
structure CB where
 what:Int
 n:Int
 m:Int
 a:Option Addr
 cap:Nat
 l:List ME
def CB.val(x:CB):Value:= .agg #[x.what,x.n,x.m,.slice x.a x.l.length x.cap]
def CB.In(x:CB)(W:World):Prop:=fo W x.a x.l/\∀e∈x.l,e.v.In W
def CB.Few(x:CB):Prop:=x.l.length<=6/\∀e∈x.l,e.v.nodes<=256
def kV(P:World->Prop)(es rs:List ME)(a:Option Addr)(cap:Nat):Prop:=
 es.map ME.plain=rs.map ME.plain/\rs.length<=cap/\es.length<=4096/\(∀e∈es,e.v.nodes<=256)/\∀W,P W->(∀e∈es,e.v.In W)/\fo W a rs/\∀r∈rs,r.v.In W
theorem kV.len{P:World->Prop}{es rs:List ME}{a:Option Addr}{cap:Nat}(h:kV P es rs a cap):es.length=rs.length:=by have :=congrArg List.length h.1;simpa using this
theorem kF.atR{es:List ME}{i:Int}{y:ME}{c:Bool}(h:kF es i y c):AtR (es.map ME.plain) i y c:=by
 rcases h with ⟨h1,h2,h3⟩|⟨h1,h2,h3⟩
 .exact .inl ⟨h1,h2,by rw[List.getElem?_map,h3];rfl⟩
 .exact .inr ⟨h1,by simpa using h2,h3⟩
theorem l9(es:List ME)(i:Nat):(es.eraseIdx i).map ME.plain=(es.map ME.plain).eraseIdx i:=by
 simp only[List.eraseIdx_eq_take_drop_succ,List.map_append,List.map_take,List.map_drop]
theorem kV.sub{P P1:World->Prop}{es rs es1 LY:List ME}{a a1:Option Addr}{cap Ld:Nat}(h:kV P es rs a cap)(hP1:∀W,P1 W->P W/\fo W a1 LY)(h1:es1.map ME.plain=LY.map ME.plain)(he:∀e∈es1,e∈es)(hr:∀r∈LY,r∈rs)(hl:es1.length<=es.length)(hc1:LY.length<=Ld):kV P1 es1 LY a1 Ld:=
 ⟨h1,hc1,Nat.le_trans hl h.2.2.1,fun e hh=>h.2.2.2.1 e (he e hh),fun W hW=>by
  obtain⟨h2,h3⟩:=hP1 W hW;obtain⟨g1,_,g3⟩:=h.2.2.2.2 W h2;exact⟨fun e hh=>g1 e (he e hh),h3,fun r hh=>g3 r (hr r hh)⟩⟩
theorem kV.drop{P P1:World->Prop}{es rs LY:List ME}{a a1:Option Addr}{cap Ld i:Nat}{c:Bool}(h:kV P es rs a cap)(hP1:∀W,P1 W->P W/\fo W a1 LY)(hrs:LY=if c=true then rs.eraseIdx i else rs)(hc1:LY.length<=Ld):kV P1 (if c=true then es.eraseIdx i else es) LY a1 Ld:=by
 subst hrs;cases c with
 |true=>exact h.sub hP1 (by simp only[if_true,l9,h.1]) (fun e he=>List.mem_of_mem_eraseIdx he) (fun e he=>List.mem_of_mem_eraseIdx he) (List.length_eraseIdx_le es i) hc1
 |false=>exact h.sub hP1 (by simpa using h.1) (fun e he=>he) (fun e he=>he) (Nat.le_refl _) hc1
section
variable (w:World) (c:Nat) (a:Int) (M q1 q2:Nat) (hc:jZ w c a M q1 q2) (s:Int)
include hc
theorem X0(g:Nat)(es:List ME)(hq:Hg s q1 q2=some ⟨g,0,none⟩)(h:Kk w g es)(hin:∀e∈es,e.v.In w/\e.v.nodes<=256)(hlen:es.length<=4096):Calls prog 267 #[c,s] w (TR es w):=by
 have HC:=hdq (fun W (hW:Touch [] w W)=>hc.touch hW);have HA:=hdq (All_q w g es h hin (by omega));clear hc h hin;go_enter func267,ntmps267
 go_wp2_with fail
 refine(uw _ _ _ _ _ _ (HC.o _ (Touch.refl [] w)) s).mono ?_;rintro e w' ⟨rfl,rfl⟩;rw[hq];go_wp2_with fail
 refine HA.o.mono ?_;rintro e w' ⟨bx,ra,rc,ys,rfl,hpy,hL⟩;have HPY:=hdq hpy;have HL:=hdq hL;clear hpy hL;go_wp2;go_ret
 exact⟨bx,ra,rc,ys,rfl,HPY.o,HL.o⟩
theorem Wz(hq:Hg s q1 q2=none):Calls prog 267 #[c,s] w (TR [] w):=by
 have HC:=hdq (fun W (hW:Touch [] w W)=>hc.touch hW);clear hc;go_enter func267,ntmps267
 go_wp2_with fail
 refine(uw _ _ _ _ _ _ (HC.o _ (Touch.refl [] w)) s).mono ?_;rintro e w' ⟨rfl,rfl⟩;rw[hq];go_wp2_with fail
 refine(All_n w none (.inl rfl)).mono ?_;rintro e w' ⟨bx,rfl,hL⟩;have HL:=hdq hL;clear hL;go_wp2;go_ret
 exact⟨bx,none,0,[],rfl,rfl,HL.o⟩
end
theorem aP{P:Program}{fn:Func}{R:Ending->World->Prop}{ex:Exit}{a:Act}{W:World}(h:∀w2,W=w2->bodyPost P fn R ex a w2):bodyPost P fn R ex a W:=h W rfl
theorem Lj(T:List Nat)(w:World)(c:Nat)(a:Int)(M q1 q2:Nat)(hc:jZ w c a M q1 q2)(s:Int)(g:Nat)(es:List ME)(P:World->Prop)(x:ME)(hq:Hg s q1 q2=some ⟨g,0,none⟩)(h:BD T w w [aQ g es,aA P])(hP:∀W,P W->x.v.In W)(hes:es.length<=4096):
  Calls prog 222 #[c,s,x.val] w fun e w'=>∃(k:Nat) (err:Int) (ys:List ME) (rest:List ai),e= .returned (.int .i64 err)/\kK es.length [x.plain] k err/\ys.map ME.plain=[x.plain].take k/\BD T w w' (aQ g (es++ys)::aA (fun W=>P W/\∀y∈ys,y.v.In W)::rest):=by
 have HP:=hdq hP;have HC:=hdq (fun W (hW:Touch [] w W)=>hc.touch hW);have BG:=hdq h;clear h hP hc;simp only[bB];go_enter func222,ntmps222
 go_wp2;refine bT 0 rfl ?_;go_wp2_with fail
 refine ah ?_;intro w1 hw1;have HT1:Hid (Touch [] w w1):=hw1▸(Touch.refl [] w).alloc _;have BB:=hdq (BG.o.DN hw1);simp only[nAq,cAq]at BB;generalize hb5:w.heap.size=b5 at BB|-;clear hw1 hb5 BG;refine(uw _ _ _ _ _ _ (HC.o _ HT1.o) s).mono ?_;rintro e w' ⟨rfl,rfl⟩;rw[hq];go_wp2_with fail
 refine(jC _ _ _ _ _ _ (HC.o _ HT1.o)).mono ?_;rintro e w' ⟨rfl,rfl⟩;obtain⟨x0,x1,x2,x3,x4,x5,x6,_,hl3,_,_⟩:=BB.o.c7 2 rfl;have HL2:=hdq (BB.o.alloc 65 #[x.sync,x.thread,x.branch,x.flag,x.v.kind,x.v.num,.slice x.v.addr x.v.parts.length x.v.cap]);simp only[nAq,cAq]at HL2;have HPU:=hdq (HL2.o.JK (xs:=[x]) (a:=some ⟨w1.heap.size,0,none⟩) (cap:=1) 0 1 rfl rfl (by decide) (fun W hW=>⟨vG rfl (hW 3 _ (by decide) rfl),fun y hy=>by
  simp at hy;subst hy
  obtain⟨f,_,hs⟩:=hW 1 (aA P) (by decide) rfl;exact HP.o W (hs W (fun _ _=>rfl))⟩) (by simp) hes)
 simp only[List.length_cons,List.length_nil,Nat.reduceAdd]at HPU;go_wp2_with fail
 refine HPU.o.mono ?_;rintro e w4 ⟨k,err,ys,rfl,hR,hp,hL⟩;have BH:=hdq hL;simp only[sZq,sSq]at BH;have HR:=hdq hR;have HPY:=hdq hp;clear hL hR hp HPU HL2 BB x0 x1 x2 x3 x4 x5 x6 hl3;go_wp2;go_step3
 go_wp2;refine fO ?_;go_ret
 exact⟨k,err,ys,_,rfl,HR.o,HPY.o,BH.o⟩
theorem BD.Hu{T:List Nat}{w0 w:World}{l:List ai}{c:Nat}{a:Int}{M q1 q2:Nat}{s:Int}{g:Nat}{es:List ME}{P:World->Prop}(h:BD T w0 w l)(i j:Nat)(hi:l[i]? =some (aQ g es))(hj:l[j]? =some (aA P))(hij:i≠j)(hc:jZ w c a M q1 q2)(hq:Hg s q1 q2=some ⟨g,0,none⟩)(x:ME)(hP:∀W,P W->x.v.In W)(hes:es.length<=4096):
  Calls prog 222 #[c,s,x.val] w fun e w'=>∃(k:Nat) (err:Int) (ys:List ME),e= .returned (.int .i64 err)/\kK es.length [x.plain] k err/\ys.map ME.plain=[x.plain].take k/\BD T w0 w' ((l.set i (aQ g (es++ys))).set j (aA (fun W=>P W/\∀y∈ys,y.v.In W))):=by
 obtain⟨T',hF,hbk⟩:=h.ZT i j hi hj hij;refine(Lj T' w c a M q1 q2 hc s g es P x hq hF hP hes).mono ?_;rintro e w2 ⟨k,err,ys,rest,rfl,hR,hp,hL⟩;exact⟨k,err,ys,rfl,hR,hp,hbk _ _ _ _ hL⟩
def N7(w:World)(p:Option Addr):Prop:=p=none\/∃b,p=some ⟨b,0,none⟩/\w.cell? ⟨b,1,none⟩=some (.map none)
theorem N7.touch{w w':World}{p:Option Addr}(h:N7 w p)(ht:Touch [] w w'):N7 w' p:=by
 rcases h with rfl|⟨b,rfl,hb⟩
 .exact .inl rfl
 .exact .inr ⟨b,rfl,ht.cellOf hb⟩
theorem OG(W:World):(Instr.index 297 (.agg #[(1:Int),(2:Int)]) (.int .i64 0)).run prog W= .ok (.int .i64 1) W:=by kernel_rfl
theorem O6(W:World):(Instr.index 297 (.agg #[(1:Int),(2:Int)]) (.int .i64 1)).run prog W= .ok (.int .i64 2) W:=by kernel_rfl
def bM(s:Int):Int:=if s=1 then 2 else if s=2 then 1 else 0
theorem zB(w:World)(s:Int)(hS:bJ w):Calls prog 286 #[s] w fun e w'=>e= .returned (.int .i64 (bM s))/\w=w':=by
 obtain⟨t0,t1⟩:=hS;have tl:1<w.heap.size:=World.block_lt_of_cell? _ _ t0;go_enter func286,ntmps286
 go_wp2_with fail
 go_loopw [6] (fun i wr=>wr=w/\(i= .int .i64 0\/(i= .int .i64 1/\s≠1)\/(i= .int .i64 2/\s≠1/\s≠2))) (fun i _=>2-(intOf i).toNat)
 case atStart=>exact⟨rfl,.inl rfl⟩
 case round=>
  obtain⟨rfl,rfl|⟨rfl,h1⟩|⟨rfl,h1,h2⟩⟩:=hrel
  .have hi:=OG wr
   by_cases hs:s=1
   .subst hs
    go_wp2;go_ret
    exact⟨rfl,rfl⟩
   .have hs':¬(1:Int)=s:=fun e=>hs e.symm
    go_wp2;clear hi;go_roundw
    case rel=>exact⟨trivial,.inr (.inl ⟨by go_num,hs⟩)⟩
    case measure=>simp[intOf]
  .have hi:=O6 wr
   by_cases hs:s=2
   .subst hs
    go_wp2;go_ret
    exact⟨rfl,rfl⟩
   .have hs':¬(2:Int)=s:=fun e=>hs e.symm
    go_wp2;clear hi;go_roundw
    case rel=>exact⟨trivial,.inr (.inr ⟨by go_num,h1,hs⟩)⟩
    case measure=>simp[intOf]
  .have ho:bM s=0:=by unfold bM;rw[if_neg h1,if_neg h2]
   go_wp2;go_ret
   exact⟨by rw[ho];rfl,rfl⟩
end Go.Proofs.YtegejdlglonflaaGreatDoor
