/-
  Texts of FirePlays, laid together by program.
-/
import Derived.Test.YtegejdlglonflaaGreatDoorWZ41
namespace Go.Proofs.YtegejdlglonflaaGreatDoor
open Go.RowKit Go.Shelf Go.Proofs.Tryz
set_option maxRecDepth 100000
set_option maxHeartbeats 8000000
set_option linter.unusedVariables false
set_option linter.unusedSimpArgs false
theorem new9(P:World->Prop):aai prog 35 #[(9:Int)] [[aA P]] (xq (fun _:Nat×Nat=>True) (fun p=> .tuple #[.pointer (some ⟨p.1,0,none⟩),()]) fun p=>[(WS.empty p.1 p.2 9 P).ts]):=fun T w hl=>
 (OU T w P 9 (by decide) (by decide) (by simpa using hl)).mono fun e w' ⟨wb,ga,he,hL⟩=>⟨[(WS.empty wb ga 9 P).ts],rfl,⟨(wb,ga),trivial,he,rfl⟩,by simpa using hL⟩
def ag3(g:Nat)(W:World):Prop:=aG W (some ⟨g,0,none⟩) 7 1 ([aep].flatMap MB.cells)/\∀b∈[aep],b.Mem W
theorem agv{x:WS}{g:Nat}(hl3:x.sys.length<=100000):aai prog 37 #[x.wb,(),.slice (some ⟨g,0,none⟩) 1 1,True] [x.ts,[box g 114 #[(13:Int),(),(),(),True,True,True]]] (xq (fun y:Int×Int×WS=>abr (x.knows (ag3 g)) 0 [aep] [] y.1 y.2.1 y.2.2) (fun y=> .tuple #[.int .i64 y.1,.int .i64 y.2.1]) fun y=>[y.2.2.ts,[]]):=fun T w hl=>by
 have h0:BD T w w (x.ts++[box g 114 #[(13:Int),(),(),(),True,True,True]]):=by simpa using hl
 have h1:BD T w w (x.knows (ag3 g)).ts:=h0.settle 2 rfl (fun W f hp hf=>⟨hp,⟨by omega,fun i hi=>⟨g,0,rfl,hf.2.lt,fun j hj=>by
  obtain rfl:i=0:=by omega
  have hb:=hf.2;have h7:j=0\/j=1\/j=2\/j=3\/j=4\/j=5\/j=6:=by omega
  rcases h7 with rfl|rfl|rfl|rfl|rfl|rfl|rfl
  .exact hb.cell 0
  .exact hb.cell 1
  .exact hb.cell 2
  .exact hb.cell 3
  .exact hb.cell 4
  .exact hb.cell 5
  .exact hb.cell 6⟩⟩,fun b hb=>by
   obtain rfl:=List.mem_singleton.1 hb;exact⟨MT.dQ W,⟨gX _ _ _ _,by simp[aep]⟩,gX _ _ _ _⟩⟩)
 exact(uo T w (x.knows (ag3 g)) 0 (some ⟨g,0,none⟩) [aep] 1 none [] 0 h1 (fun W hW=>⟨hW.2,gX _ _ _ _⟩) hl3).mono fun e w' ⟨v,er,x',he,hx,hL⟩=>⟨[x'.ts,[]],rfl,⟨(v,er,x'),hx,he,rfl⟩,by simpa using hL⟩
def aes:Nat->Int
 |0=>1|1=>2|2=>3|3=>4|4=>5|5=>3|6=>6|_=>7
def mvs:Nat->Int×Int×Int×Int
 |1=>(4,0,0,0)|3=>(3,0, -1,0)|_=>(2,0,0,0)
def ahj(i:Nat):MPl:=ad6 aej i (aeS true) [afy]
structure agF(own:Int->pE)(wb:Nat)(P:World->Prop)(i:Nat)(x:WS)(ms:List MS)(E:ME):Prop where
 st:FSt own 0 (4+i) ahj x ms (aes i) E (7-i)
 keep:i<=3->ms.map MS.plain=[aeS true]
 one:ms.length=1
 co:x.cos.length=1
 wb:x.wb=wb
 P:∀W,x.P W->P W
theorem FSt.ent{own:Int->pE}{cd b:Nat}{fin:Nat->MPl}{x:WS}{ms:List MS}{e:ME}{n:Nat}(h:FSt own cd b fin x ms 4 e n):∃(k:Nat) (hk:k<ms.length),e.sync=(k:Int):=by
 cases h
 rename_i es he ho h;obtain⟨k,hk,hs,_⟩:=ho;exact⟨k,hk,hs⟩
theorem ahp{own:Int->pE}{wb:Nat}{P:World->Prop}{i:Nat}{x:WS}{ms:List MS}{E:ME}(h:agF own wb P i x ms E)(hi:i<7)(f:Nat):aai prog 14 #[f,wb] [[zo f E (aes i) 0],x.ts] (xq (fun s:Stp=>agF own wb P (i+1) s.x s.ms s.E) (fun s=> .tuple #[mvV (mvs i).1 (mvs i).2.1 (mvs i).2.2.1 (mvs i).2.2.2,()]) fun s=>[[zo f s.E (aes (i+1)) 0],s.x.ts]):=by
 have h7:i=0\/i=1\/i=2\/i=3\/i=4\/i=5\/i=6:=by omega
 have hS:=ae1 h.st (by rcases h7 with rfl|rfl|rfl|rfl|rfl|rfl|rfl<;>decide) (by omega) f;unfold aeJ at hS;rw[h.wb]at hS;refine hS.mono (xq.mono fun s hs=>?_);have ex:=hs.ex;have key:s.at_=aes (i+1)/\s.m+1=7-i/\(s.k1,s.k2,s.k3,s.k4)=mvs i/\(i≠3->i≠4->s.ms=ms):=by
  have hst:=h.st;have hkp:=h.keep;have h1:=h.one;clear h hS;rcases h7 with rfl|rfl|rfl|rfl|rfl|rfl|rfl
  .have e:=ex.n1 rfl
   exact⟨e,ex.cnt.resolve_right (by simp[aes]),by rw[ex.mv,e];simp[aes,mvs],fun _ _=>ex.keep (by decide) (by decide)⟩
  .have e:=ex.n2 rfl
   exact⟨e,ex.cnt.resolve_right (by simp[aes]),by rw[ex.mv,e];simp[aes,mvs],fun _ _=>ex.keep (by decide) (by decide)⟩
  .have e:=ex.n3 rfl
   exact⟨e,ex.cnt.resolve_right (by simp[aes]),by rw[ex.mv,e];simp[aes,mvs],fun _ _=>ex.keep (by decide) (by decide)⟩
  .obtain⟨k,hk,hE⟩:=FSt.ent hst
   obtain rfl:k=0:=by omega
   have e:=ex.n4 rfl fun j hj hje=>by
    obtain rfl:j=0:=by omega
    have h3:=hkp (Nat.le_refl _);match ms,h3,hk with
    |[m],h3,hk=>exact congrArg MPl.done (List.cons.inj h3).1
   exact⟨e,ex.cnt.resolve_right (by rw[e];simp),by rw[ex.mv,e,hE];simp[aes,mvs],fun h _=>absurd rfl h⟩
  .have e:=ex.n5 rfl
   exact⟨e,ex.cnt.resolve_right (by simp[aes]),by rw[ex.mv,e];simp[aes,mvs],fun _ h=>absurd rfl h⟩
  .have e:=ex.n3 rfl
   exact⟨e,ex.cnt.resolve_right (by simp[aes]),by rw[ex.mv,e];simp[aes,mvs],fun _ _=>ex.keep (by decide) (by decide)⟩
  .have e:=ex.n6 rfl
   exact⟨e,ex.cnt.resolve_right (by simp[aes]),by rw[ex.mv,e];simp[aes,mvs],fun _ _=>ex.keep (by decide) (by decide)⟩
 obtain⟨k1,k2,k3,k4⟩:=key;refine⟨s,⟨?_,fun h3=>?_,hs.len.trans h.one,hs.co.trans h.co,hs.wb.trans h.wb,fun W hW=>h.P W (hs.P W hW)⟩,?_,?_⟩
 .have e:7-(i+1)=s.m:=by omega
  rw[<-k1,e];exact hs.st
 .rw[k4 (by omega) (by omega)]
  exact h.keep (by omega)
 .rw[<-k3]
 .rw[k1];rfl
theorem ahy{own:Int->pE}{wb:Nat}{P:World->Prop}{x:WS}{ms:List MS}{E:ME}(h:agF own wb P 7 x ms E):aai prog 10 #[wb,()] [x.ts] (xq (fun p:MS×WS=>∃Q,p.2=x.knows Q) (fun p=> .tuple #[.agg #[.int .i64 p.1.thread,.slice p.1.ba p.1.bases.length p.1.bc,.slice p.1.ca p.1.conds.length p.1.cc,.int .i64 p.1.flag,false,true,(),(1:Int),.int .i64 p.1.v.num,.slice p.1.v.addr p.1.v.parts.length p.1.v.cap,.int .i64 p.1.partner],true]) fun p=>[p.2.ts]):=ac7 fun T w hl=>by
 obtain⟨hF,hfin⟩:x.Fair ms/\∀i (h:i<ms.length),ms[i].plain=ahj i:=by
  have hst:=h.st;cases hst with
  |s7 he hp=>exact⟨hp.fair,hp.fin⟩
 rw[<-h.wb];refine(aaK T w x ms 0 hl hF.good.sys hF.good.cont).mono fun e w' ⟨v,er,x',he,hx,hL⟩=>?_;rcases hx with ⟨hno,_⟩|⟨n,hn,s',hn0,rfl,rfl,hs',rfl⟩
 .exact absurd ⟨by omega,by rw[h.one];decide⟩ hno
 .obtain rfl:n=0:=by omega
  have hp:s'.plain=(0,[aep.plain],[],2,false,true,0,aej, -1):=hs'.trans ((hfin 0 hn).trans rfl);have e4:s'.parked=false:=congrArg (fun z=>z.2.2.2.2.1) hp;have e5:s'.done=true:=congrArg (fun z=>z.2.2.2.2.2.1) hp;have e6:s'.branch=0:=congrArg (fun z=>z.2.2.2.2.2.2.1) hp;have e7:s'.v.plain=aej:=congrArg (fun z=>z.2.2.2.2.2.2.2.1) hp;have e8:s'.v.kind=1:=by
   have :=congrArg (fun p=>match p with |MT.PT.mk k _ _=>k) e7;cases hv:s'.v with
   |mk k n a c l=>rw[hv]at this;exact this
  exact⟨(s',_),by rw[he];simp only[MS.raw,bL.val,e4,e5,e6,e8];rfl,⟨_,rfl⟩,hL⟩
theorem ag7{T:List Nat}{w0 w:World}{x:WS}{r:List ai}{P:World->Prop}(h:BD T w0 w (x.ts++r))(hP:∀W,x.P W->P W):BD T w0 w [aA P]:=
 (h.sel (l':=[aA x.P]) [2] (by rfl) (by simp)).weaken 0 rfl hP
def mvL(i:Nat):List Value:=[.int .i64 (mvs i).1,.int .i64 (mvs i).2.1,.int .i64 (mvs i).2.2.1,.int .i64 (mvs i).2.2.2]
theorem agU(a b c d a' b' c' d':Int):∀w,(binOp .neq 75 (mvV a b c d) (mvV a' b' c' d')).run prog w= .ok (.bool !(a==a'&&(b==b'&&(c==c'&&d==d')))) w:=by
 intro w;cases h0:(a==a')<;>cases h1:(b==b')<;>cases h2:(c==c')<;>cases h3:(d==d')<;>go_simp
theorem agw{own:Int->pE}{wb:Nat}{P:World->Prop}{x:WS}{ms:List MS}(h:W19 own 2 x ms [afy] true)(hwb:x.wb=wb)(hP:∀W,x.P W->P W):agF own wb P 0 x ms ME.zero:=by
 have hc:0<x.cos.length:=by rw[h.co];decide
 have he:=h.es hc;have hl:x.cos[0].es.length=1:=by have :=congrArg List.length he;simpa using this
 obtain⟨m,rfl,hm⟩:=h.one;have hst:FSt own 0 4 ahj x [m] 1 ME.zero (3*x.cos[0].es.length+4):= .s1 (fun _=>rfl) ⟨h.fair,h.inv.more (by omega),hc,fun i hi=>by
  obtain rfl:i=0:=by simpa using hi
  rw[he];show ad6 aej 0 m.plain [afy]=_
  rw[hm];rfl⟩
 rw[hl]at hst;exact⟨hst,fun _=>h.sy,rfl,h.co,hwb,hP⟩
abbrev ahn:Array Value:=#[.int .i64 2,.int .i64 0,.int .i64 0,.int .i64 0,.int .i64 4,.int .i64 0,.int .i64 0,.int .i64 0,.int .i64 2,.int .i64 0,.int .i64 0,.int .i64 0,.int .i64 3,.int .i64 0,.int .i64 (-1),.int .i64 0,.int .i64 2,.int .i64 0,.int .i64 0,.int .i64 0,.int .i64 2,.int .i64 0,.int .i64 0,.int .i64 0,.int .i64 2,.int .i64 0,.int .i64 0,.int .i64 0]
def WkJ(own:Int->pE)(wb:Nat)(P:World->Prop)(f g:Nat)(n:Nat)(v:Nat->Value)(M:LG):Prop:=∃(i:Nat) (x:WS) (ms:List MS) (E:ME),agF own wb P i x ms E/\i+n=7/\v 11= .int .i64 (i:Int)/\∀T w0 w,BD T w0 w M.flatten->BD T w0 w ([x.ts,[zo f E (aes i) 0],[box g 75 ahn]]:LG).flatten
theorem agZ(g i:Nat)(hi:i<7):abd [box g 75 ahn] g (i*4) 4 (mvL i):=by
 have h7:i=0\/i=1\/i=2\/i=3\/i=4\/i=5\/i=6:=by omega
 rcases h7 with rfl|rfl|rfl|rfl|rfl|rfl|rfl<;>exact abd.box rfl rfl
theorem agM{own:Int->pE}{wb:Nat}{P Q:World->Prop}{x:WS}{ms:List MS}{E:ME}(h:agF own wb P 7 x ms E):aai prog 16 #[wb,()] [(x.knows Q).ts] (xq (fun _:Unit=>True) (fun _=> .tuple #[true,()]) fun _=>[((x.knows Q).ar (x.eY 0).2.2).ts]):=by
 have hst:=h.st;rw[<-h.wb];cases hst with
 |s7 he hp=>
  have ho:=hp.inv.cf 0 hp.hc;obtain⟨h1,h2,_⟩:=afP hp.hc ho.2;have hC:=adY (m:=(x.knows Q).ts) fun T w hl=>zJ T w (x.knows Q) 0 hl (by have :=hp.inv.lg;show x.s.L.length<_;omega);rw[hp.inv.fr 0 hp.hc rfl]at h1;have e1:(x.knows Q).eY 0=x.eY 0:=rfl;have e2:(x.eY 0)=(true,0,(x.eY 0).2.2):=Prod.ext h1 (Prod.ext h2 rfl);rw[e1]at hC;rw[e2]at hC;exact hC
theorem aeH{P:World->Prop}(hP:∀W,P W->bJ W):aai prog 7 #[] [[aA P]] (xq (fun _:Unit=>True) (fun _=> .bool true) fun _=>[[aA P]]):=by
 refine aai.go func7 ntmps7 ?_;refine go ?_;refine cr (new9 P) fun p _=>?_;obtain⟨wb,ga⟩:=p;have hC:aai prog 36 #[wb] [(WS.empty wb ga 9 P).ts] (xq (fun y:Int×Int×WS=>jE (WS.empty wb ga 9 P) y.1 y.2.1 y.2.2) (fun y=> .tuple #[.int .i64 y.1,.int .i64 y.2.1]) fun y=>[y.2.2.ts]):=ac7 fun T w hl=>(Lc T w (WS.empty wb ga 9 P) hl (Nat.zero_le _)).mono fun e w' ⟨v,er,x',he,hx,hL⟩=>⟨(v,er,x'),he,hx,hL⟩;refine go ?_;refine cr hC fun y hy=>?_;obtain⟨v1,er1,x1⟩:=y;have hw1:x1.wb=wb/\x1.sys.length<=100000:=by rcases hy with ⟨_,_,_,_,_,_,_,rfl⟩|⟨_,_,_,rfl⟩<;>exact⟨rfl,Nat.zero_le _⟩
 have hB:=fun g=>agv (x:=x1) (g:=g) hw1.2;rw[hw1.1]at hB;refine go ?_;refine mbq (hal:=by intro w;go_simp;exact⟨rfl,rfl⟩) fun g=>?_;refine cr (hB g) fun z hz=>?_;obtain⟨v2,er2,x2⟩:=z;obtain⟨⟨own,ms,hW⟩,hw2,hP2⟩:=agt hP hy hz;have hE:aai prog 38 #[wb,(),()] [x2.ts] (xq (fun p:MT×WS=>p.1.plain= .mk 0 0 []/\W19 own 0 p.2 ms [] false/\(∀W,p.2.P W->p.1.In W)/\p.2.wb=wb/\∀W,p.2.P W->P W) (fun p=> .tuple #[.agg #[(),(),(),(2:Int),.int .i64 p.1.kind,.int .i64 p.1.num,.slice p.1.addr p.1.parts.length p.1.cap],()]) fun p=>[p.2.ts]):=ac7 fun T w hl=>by
  rw[<-hw2];exact(zn T w x2 ms 0 0 hl hW.fair.good.sys hW.fair.good.cont).mono fun e w' ⟨v,er,x',he,hx,hL⟩=>by
   obtain⟨rfl,u,hv,hu,hW',hin,hwb,hPP⟩:=agA hW hx;exact⟨(u,x'),by rw[he,hv];rfl,⟨hu,hW',hin,hwb,fun W h=>hP2 W (hPP W h)⟩,hL⟩
 refine go ?_;refine cr hE fun p hp=>?_;obtain⟨u,x3⟩:=p;dsimp only at hp;obtain⟨hu,hW3,hin3,hw3,hP3⟩:=hp;have hWt:aai prog 39 #[wb,(),.agg #[(),(),(),(2:Int),u.kind,u.num,.slice u.addr u.parts.length u.cap]] [x3.ts] (xq (fun p:Int×WS=>W19 own 1 p.2 ms [afy] false/\p.2.wb=wb/\∀W,p.2.P W->P W) (fun p=> .int .i64 p.1) fun p=>[p.2.ts]):=ac7 fun T w hl=>by
  rw[<-hw3];exact(ag9 T w x3 0 ⟨0,0,0,2,u⟩ hl hin3 hW3.fair.good.q2).mono fun e w' ⟨er,x',he,hx,hL⟩=>by
   obtain⟨hW',hwb,hPP⟩:=ahc hW3 (show(⟨0,0,0,2,u⟩:ME).plain=afy by simp only[ME.plain,hu,afy]) hx;exact⟨(er,x'),he,⟨hW',hwb,fun W h=>hP3 W (hPP W h)⟩,hL⟩
 refine go1 fun b3=>?_;refine cr hWt fun p hp=>?_;obtain⟨er4,x4⟩:=p;dsimp only at hp;obtain⟨hW4,hw4,hP4⟩:=hp;have hPk:aai prog 40 #[wb,()] [x4.ts] (xq (fun p:List MS×WS=>W19 own 2 p.2 p.1 [afy] true/\p.2.wb=wb/\∀W,p.2.P W->P W) (fun p=> .tuple #[true,()]) fun p=>[p.2.ts]):=ac7 fun T w hl=>by
  rw[<-hw4];exact(Jz T w x4 0 hl (by have :=hW4.inv.lg;omega)).mono fun e w' ⟨v,er,x',he,hx,hL⟩=>by
   obtain⟨rfl,rfl,⟨ms',hW'⟩,hwb,hPP⟩:=ahx hW4 hx;exact⟨(ms',x'),he,⟨hW',hwb,fun W h=>hP4 W (hPP W h)⟩,hL⟩
 refine go ?_;refine cr hPk fun p hp=>?_;obtain⟨ms5,x5⟩:=p;dsimp only at hp;obtain⟨hW5,DC,hP5⟩:=hp;have hs5:x5.sys.length<=1000000:=by have :=hW5.fair.good.l3;omega
 have hN:=aeU (x:=x5) hs5 0 ⟨Int.le_refl _,by rw[hW5.co];decide⟩;rw[DC]at hN;refine go ?_;refine cr hN fun f _=>?_;refine go ?_;refine cr (ad9 0) fun _ _=>?_;refine go ?_;refine cr (ad9 0) fun _ _=>?_;refine go ?_;refine cr (ad9 0) fun _ _=>?_;refine go1 fun b9=>?_;refine mbq (hal:=by intro w;go_simp;exact⟨rfl,rfl⟩) fun g2=>?_;refine go ?_;refine W.aeo [11,12,13,72,73,74,75,76,77,78,79,80,81,82,83,84,85,86,87,88,89,90,91,92,93,94] (WkJ own wb P f g2) 7 ⟨0,x5,ms5,ME.zero,agw hW5 DC hP5,rfl,rfl,fun T w0 w hl=>KN [0,1,4] hl⟩ ?_ (by kernel_rfl);rintro n v M a1 ⟨i,x,ms,E,hst,hi,hv,hM⟩ ha1;refine W.turn ?_ hM;simp only[adS,List.foldl,sAq,sZq,sSq,hv]at ha1;subst ha1;clear hv hM;by_cases hil:i<7
 .have e1:decide ((i:Int)<7)=true:=decide_eq_true (by omega)
  have e2:decide (i<7)=true:=decide_eq_true hil;have e3:(i:Int)<7:=by omega
  have e4:(0:Int)<=(i:Int):=by omega
  have hS:=ahp hst hil f;have hq:=agU (mvs i).1 (mvs i).2.1 (mvs i).2.2.1 (mvs i).2.2.2 (mvs i).1 (mvs i).2.1 (mvs i).2.2.1 (mvs i).2.2.2;simp only[beq_self_eq_true,Bool.and_self,Bool.not_true]at hq;have hl:=agZ g2 i hil;have hi2:n-1<n/\i+1+(n-1)=7:=by omega
  clear hi;unfold mvL at hl;generalize (mvs i).1=k1 at hS hq hl;generalize (mvs i).2.1=k2 at hS hq hl;generalize (mvs i).2.2.1=k3 at hS hq hl;generalize (mvs i).2.2.2=k4 at hS hq hl;refine go ?_;refine cr hS fun s hs=>?_;refine go1 fun b12=>?_;refine W.rgd ?_;repeat (refine' rgk ?_;rotate_left)
  refine rgz 0 ?_ ?_;refine go ?_;refine cr (ad9 0) fun _ _=>?_;refine go ?_;refine⟨n-1,hi2.1,by kernel_rfl,i+1,s.x,s.ms,s.E,hs,hi2.2,?_,fun T w0 w hl=>KN [0,1,2] hl⟩
  .exact abt i (by omega)
  all_goals kernel_rfl
 .obtain rfl:i=7:=by omega
  clear hil hi;have hsy:x.sys.length<=1000000:=(FSt.lg hst.st).2.1;have hcl:=hst.co;have hw7:=hst.wb;have hP7:=hst.P;have hov:∀y:WS,y.wb=wb->y.sys.length<=1000000->aai prog 14 #[.pointer (some ⟨f,0,none⟩),wb] [[zo f E 7 0],y.ts] (xq (fun _:Unit=>True) (fun _=> .tuple #[mvV 0 0 0 0,(100:Int)]) fun _=>[[zo f E 7 0],y.ts]):=fun y hy hs=>by rw[<-hy];exact ae4 hs f E 0
  have hno:∀y:WS,y.wb=wb->y.cos.length=1->y.sys.length<=1000000->aai prog 11 #[wb,(1:Int)] [y.ts] (xq (fun _:Unit=>True) (fun _=> .tuple #[.pointer none,(4:Int)]) fun _=>[y.ts]):=fun y hy hc hs=>by rw[<-hy];exact afO hs 1 (by rw[hc];decide)
  refine W.turn (M':=[x.ts,[zo f E 7 0],[box g2 75 ahn]]) ?_ (fun T w0 w hl=>hl);refine go ?_;refine cr (ahy hst) fun p hp=>?_;obtain⟨u,x6⟩:=p;obtain⟨Q,rfl⟩:=hp;have hFd:=agM (Q:=Q) hst;obtain⟨x7,hx7⟩:∃y,(x.knows Q).ar (x.eY 0).2.2=y:=⟨_,rfl⟩;have hw8:x7.wb=wb:=by rw[<-hx7];exact hw7
  have hP8:∀W,x7.P W->P W:=by rw[<-hx7];exact fun W h=>hP7 W h.1
  have hN7:=hno x7 hw8 (by rw[<-hx7];exact hcl) (by rw[<-hx7];exact hsy);have hO7:=hov x7 hw8 (by rw[<-hx7];exact hsy);rw[hx7]at hFd;clear hx7 hno hov hcl hsy hst;refine go1 fun b14=>?_;refine cr hFd fun _ _=>?_;refine go ?_;refine cr hN7 fun _ _=>?_;refine go ?_;refine cr hO7 fun _ _=>?_;refine go1 fun b20=>?_;refine cr (ad9 0) fun _ _=>?_;refine go ?_;refine cr (afx f E 7 0 rfl) fun _ _=>?_;refine go ?_;refine cr (ad9 4) fun _ _=>?_;refine go ?_;refine cr (ad9 100) fun _ _=>?_;refine go ?_;refine W.turn (M':=[[aA P]]) ?_ (fun T w0 w hl=>ag7 (r:=_) hl hP8);refine W.abg ?_;exact⟨(),trivial,rfl,rfl⟩
end Go.Proofs.YtegejdlglonflaaGreatDoor
