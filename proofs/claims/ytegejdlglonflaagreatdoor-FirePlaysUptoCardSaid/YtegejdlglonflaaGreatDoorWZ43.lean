/-
  Texts of FirePlays, laid together by program.
-/
import Derived.Test.YtegejdlglonflaaGreatDoorWZ40
namespace Go.Proofs.YtegejdlglonflaaGreatDoor
open Go.RowKit Go.Shelf Go.Proofs.Tryz
set_option maxRecDepth 100000
set_option maxHeartbeats 8000000
set_option linter.unusedVariables false
set_option linter.unusedSimpArgs false
abbrev aex:=Int->Option Value
def ab5(f:aex):Prop:=∀z,∃b:Bool,(f z).getD (.bool false)= .bool b
theorem ab5.put{f:aex}(h:ab5 f)(y:Int)(b:Bool):ab5 (adD f y (.bool b)):=fun z=>by
 unfold adD;by_cases hz:z=y
 .rw[if_pos hz];exact⟨b,rfl⟩
 .rw[if_neg hz];exact h z
def afi(own:Int->pE)(cl:Bool)(cd:Int)(la lf b:Nat)(x:WS)(ms:List MS)(r:RW)(L:PL)(B lk fd:Nat)(fl ff:aex)(w a c:Int):Prop:=
 aai prog 9 #[B,.agg #[w,a,c],cd] [[KE B x.wb r.v lk fd],x.ts++[r.th L],[w9 lk fl],[w9 fd ff]] (xq (fun p:S19×aex×aex=>afd own cl cd la lf (b+2) x ms L p.1/\ab5 p.2.1/\ab5 p.2.2) (fun _=> .tuple #[]) fun p=>[[KE B p.1.x.wb p.1.r.v lk fd],p.1.x.ts++[p.1.r.th p.1.L],[w9 lk p.2.1],[w9 fd p.2.2]])
section
variable {own:Int->pE} {cl:Bool} {cd:Int} {la lf b:Nat} {x:WS} {ms:List MS} {r:RW} {L:PL}
theorem afd.more{k:Nat}{p:S19}(h:afd own cl cd la lf b x ms L p)(hk:b<=k):afd own cl cd la lf k x ms L p:=⟨h.scn.more hk,h.wb,h.L,h.P,h.len⟩
theorem does_0(h:Scn own cl cd la lf b x ms r)(hb:4*b+8<1000000)(B lk fd:Nat)(fl ff:aex)(hfl:ab5 fl)(hff:ab5 ff)(a c:Int):afi own cl cd la lf b x ms r L B lk fd fl ff 0 a c:=by
 have hT:aai _ _ _ _ _:=ahu (L:=L) h B lk fd a c;refine aai.go func9 ntmps9 ?_;refine go1 fun b4=>?_;refine cr hT fun p hp=>?_;refine go ?_;refine bqn (Y:=[[KE B p.x.wb p.r.v lk fd],p.x.ts++[p.r.th p.L],[w9 lk fl],[w9 fd ff]]) ?_;exact⟨(p,fl,ff),⟨hp.more (by omega),hfl,hff⟩,rfl,rfl⟩
theorem does_1(h:Scn own true cd la lf b x ms r)(hb:4*b+8<1000000)(B lk fd:Nat)(fl ff:aex)(hfl:ab5 fl)(hff:ab5 ff)(a c:Int):afi own true cd la lf b x ms r L B lk fd fl ff 1 a c:=by
 have hLg:x.s.L.length<1000000:=by have :=h.inv.lg;omega
 have hT:=acY (Wq (L:=L) h.both h.inv.sys hLg a);have hTw:∀t,aai prog 48 #[x.wb,a] [x.ts++t] _:=fun t=>ad2 fun T w hl=>Oq T w x a hl hLg;simp only[RV.val]at hT;have hi:=agG h.inv a;refine aai.go func9 ntmps9 ?_;refine go1 fun b4=>?_;refine W.rgd ?_;repeat (refine' rgk ?_;rotate_left)
 refine rgz 0 ?_ ?_;refine go ?_;refine cr hT fun⟨v',L'⟩ ⟨Qy,hv⟩=>?_;refine go ?_;refine W.rgd ?_;repeat (refine' rgk ?_;rotate_left)
 refine rgz 0 ?_ ?_;refine go ?_;refine cr (hTw _) fun _ _=>?_;refine go ?_;refine bqn (Y:=[[KE B x.wb v' lk fd],(x.ar (x.fK a).2.2).ts++[RW.th {r with v:=v',s:=(x.fK a).2.2} L'],[w9 lk (fl)],[w9 fd (ff)]]) ?_;exact⟨(⟨x.ar (x.fK a).2.2,ms,{r with v:=v',s:=(x.fK a).2.2},L'⟩,fl,ff),⟨⟨(h.ar hv (Bh x a) hi).more (by omega),rfl,Qy,fun _ h=>h,rfl,rfl,rfl⟩,hfl,hff⟩,rfl,rfl⟩
 all_goals kernel_rfl
theorem ag4(h:o5 own cl cd la lf b x ms)(a:Int)(h1:(x.iH a).1=1)(n:Nat)(e:a=(n:Int))(hn:n<(x.ar (x.iH a).2.2).sys.length):(x.ar (x.iH a).2.2).s.val (x.ar (x.iH a).2.2).sys[n].flag≠2:=by
 subst e;have hn':n<x.sys.length:=hn;obtain⟨hm,e,hr⟩:=h.flag n hn';have h2:=h.f2 n hm;rw[<-e]at h2;obtain⟨t1,_,t3⟩:=agi hn' hr h2;show(x.iH (n:Int)).2.2.val x.sys[n].flag≠2
 rw[t3.v];rw[t1]at h1;omega
theorem does_2(h:Scn own cl cd la lf b x ms r)(hb:4*b+8<1000000)(B lk fd:Nat)(fl ff:aex)(hfl:ab5 fl)(hff:ab5 ff)(a c:Int):afi own cl cd la lf b x ms r L B lk fd fl ff 2 a c:=by
 have hLg:x.s.L.length<1000000:=by have :=h.inv.lg;omega
 have hT:=acY (XQ (L:=L) h.both h.inv.sys hLg a);have hTw:∀t,aai prog 50 #[x.wb,a] [x.ts++t] _:=fun t=>ad2 fun T w hl=>Look_w T w x a hl hLg;simp only[RV.val]at hT;have hi:=ahh h.inv a;by_cases h0:(x.iH a).2.1=0
 .by_cases h1:(x.iH a).1=1
  .have hi2:=afE (x:=x.ar (x.iH a).2.2) hi a (ag4 h.inv a h1)
   have hx1:∀v',PG r.v v'->Both (x.ar (x.iH a).2.2) ms {r with v:=v',s:=(x.iH a).2.2}:=fun v' hv=>QC h.both hv (LC x a);have hL1:(x.ar (x.iH a).2.2).s.L.length<1000000:=by have :=hi.lg;omega
   have hUw:∀t,aai prog 52 #[x.wb,a] [(x.ar (x.iH a).2.2).ts++t] _:=fun t=>ad2 fun T w hl=>Ah T w (x.ar (x.iH a).2.2) a hl hL1;rw[h0,h1]at hT hTw;clear h0 h1;refine aai.go func9 ntmps9 ?_;refine go1 fun b4=>?_;refine W.rgd ?_;repeat (refine' rgk ?_;rotate_left)
   refine rgz 0 ?_ ?_;refine go ?_;refine cr hT fun⟨v',L'⟩ ⟨Qy,hv⟩=>?_;have hU:=acY (UN (L:=L') (hx1 v' hv) h.inv.sys hL1 a);simp only[RV.val]at hU;refine go1 fun b6=>?_;refine W.rgd ?_;repeat (refine' rgk ?_;rotate_left)
   refine rgz 0 ?_ ?_;refine go ?_;refine cr (hTw _) fun _ _=>?_;refine go ?_;refine cr hU fun⟨v2,L2⟩ ⟨hLL2,hv2⟩=>?_;refine go ?_;refine W.rgd ?_;repeat (refine' rgk ?_;rotate_left)
   refine rgz 0 ?_ ?_;refine go ?_;refine cr (hUw _) fun _ _=>?_;refine go ?_;refine bqn (Y:=[[KE B x.wb v2 lk fd],((x.ar (x.iH a).2.2).ar ((x.ar (x.iH a).2.2).dX a).2).ts++[RW.th {r with v:=v2,s:=((x.ar (x.iH a).2.2).dX a).2} L2],[w9 lk fl],[w9 fd ff]]) ?_;exact⟨(⟨(x.ar (x.iH a).2.2).ar ((x.ar (x.iH a).2.2).dX a).2,ms,{r with v:=v2,s:=((x.ar (x.iH a).2.2).dX a).2},L2⟩,fl,ff),⟨⟨(Scn.ar (h.ar hv (LC x a) hi) hv2 (vI (x.ar (x.iH a).2.2) a) hi2).more (by omega),rfl,fun y hy=>hLL2 y (Qy y hy),fun _ h=>h,rfl,rfl,rfl⟩,hfl,hff⟩,rfl,rfl⟩
   all_goals kernel_rfl
  .have e1:((x.iH a).1==1)=false:=by simpa using h1
   have e2:decide ((x.iH a).1=1)=false:=decide_eq_false h1;rw[h0]at hT hTw;generalize (x.iH a).1=g at hT hTw e1 e2;clear h0 h1;refine aai.go func9 ntmps9 ?_;refine go1 fun b4=>?_;refine W.rgd ?_;repeat (refine' rgk ?_;rotate_left)
   refine rgz 0 ?_ ?_;refine go ?_;refine cr hT fun⟨v',L'⟩ ⟨Qy,hv⟩=>?_;refine go1 fun b6=>?_;refine W.rgd ?_;repeat (refine' rgk ?_;rotate_left)
   refine rgz 0 ?_ ?_;refine go ?_;refine cr (hTw _) fun _ _=>?_;refine go ?_;refine bqn (Y:=[[KE B x.wb v' lk fd],(x.ar (x.iH a).2.2).ts++[RW.th {r with v:=v',s:=(x.iH a).2.2} L'],[w9 lk (fl)],[w9 fd (ff)]]) ?_;exact⟨(⟨x.ar (x.iH a).2.2,ms,{r with v:=v',s:=(x.iH a).2.2},L'⟩,fl,ff),⟨⟨(h.ar hv (LC x a) hi).more (by omega),rfl,Qy,fun _ h=>h,rfl,rfl,rfl⟩,hfl,hff⟩,rfl,rfl⟩
   all_goals kernel_rfl
 .have e1:((x.iH a).2.1==0)=false:=by simpa using h0
  have e2:decide ((x.iH a).2.1=0)=false:=decide_eq_false h0;generalize (x.iH a).2.1=g at hT hTw e1 e2;generalize (x.iH a).1=g2 at hT hTw;clear h0;refine aai.go func9 ntmps9 ?_;refine go1 fun b4=>?_;refine W.rgd ?_;repeat (refine' rgk ?_;rotate_left)
  refine rgz 0 ?_ ?_;refine go ?_;refine cr hT fun⟨v',L'⟩ ⟨Qy,hv⟩=>?_;refine go1 fun b6=>?_;refine W.rgd ?_;repeat (refine' rgk ?_;rotate_left)
  refine rgz 0 ?_ ?_;refine go ?_;refine cr (hTw _) fun _ _=>?_;refine go ?_;refine bqn (Y:=[[KE B x.wb v' lk fd],(x.ar (x.iH a).2.2).ts++[RW.th {r with v:=v',s:=(x.iH a).2.2} L'],[w9 lk (fl)],[w9 fd (ff)]]) ?_;exact⟨(⟨x.ar (x.iH a).2.2,ms,{r with v:=v',s:=(x.iH a).2.2},L'⟩,fl,ff),⟨⟨(h.ar hv (LC x a) hi).more (by omega),rfl,Qy,fun _ h=>h,rfl,rfl,rfl⟩,hfl,hff⟩,rfl,rfl⟩
  all_goals kernel_rfl
theorem does_3(h:Scn own cl cd la lf b x ms r)(hb:4*b+8<1000000)(B lk fd:Nat)(fl ff:aex)(hfl:ab5 fl)(hff:ab5 ff)(a c:Int):afi own cl cd la lf b x ms r L B lk fd fl ff 3 a c:=by
 have hT:=ahP (L:=L) h hb B lk fd a;refine aai.go func9 ntmps9 ?_;refine go1 fun b4=>?_;refine cr hT fun p hp=>?_;refine go ?_;refine bqn (Y:=[[KE B p.x.wb p.r.v lk fd],p.x.ts++[p.r.th p.L],[w9 lk fl],[w9 fd ff]]) ?_;exact⟨(p,fl,ff),⟨hp,hfl,hff⟩,rfl,rfl⟩
theorem does_4(h:Scn own cl cd la lf b x ms r)(hb:4*b+8<1000000)(B lk fd:Nat)(fl ff:aex)(hfl:ab5 fl)(hff:ab5 ff)(a c:Int):afi own cl cd la lf b x ms r L B lk fd fl ff 4 a c:=by
 obtain⟨q,hq⟩:=hff a;cases q
 .by_cases hac:a=cd
  .subst hac
   have e1:(a != a)=false:=by simp
   have e2:(a==a)=true:=by simp
   have e3:decide (a=a)=true:=decide_eq_true rfl;refine aai.go func9 ntmps9 ?_;refine go1 fun b4=>?_;refine W.rgd ?_;repeat (refine' rgk ?_;rotate_left)
   refine rgz 0 ?_ ?_;refine go ?_;refine aeW (z:= .bool false) (v:= .bool false) (hv:=by simpa using hq) ?_;refine go ?_;refine bqn (Y:=[[KE B x.wb r.v lk fd],x.ts++[r.th L],[w9 lk fl],[w9 fd ff]]) ?_;exact⟨(⟨x,ms,r,L⟩,fl,ff),⟨⟨h.more (by omega),rfl,fun _ h=>h,fun _ h=>h,rfl,rfl,rfl⟩,hfl,hff⟩,rfl,rfl⟩
   all_goals kernel_rfl
  .have e1:(a != cd)=true:=by simpa using hac
   have e2:(a==cd)=false:=by simpa using hac
   have e3:decide (a=cd)=false:=decide_eq_false hac;have hLg:x.s.L.length<1000000:=by have :=h.inv.lg;omega
   have hT:=acY (Xg (L:=L) h.both hLg a);have hTw:∀t,aai prog 55 #[x.wb,a] [x.ts++t] _:=fun t=>ad2 fun T w hl=>Kh T w x a hl hLg;simp only[RV.val]at hT;have hi:=ahe h.inv a hac;refine aai.go func9 ntmps9 ?_;refine go1 fun b4=>?_;refine W.rgd ?_;repeat (refine' rgk ?_;rotate_left)
   refine rgz 0 ?_ ?_;refine go ?_;refine aeW (z:= .bool false) (v:= .bool false) (hv:=by simpa using hq) ?_;refine go ?_;refine W.rgd ?_;repeat (refine' rgk ?_;rotate_left)
   refine rgz 0 ?_ ?_;refine go ?_;refine mapS ?_;refine go ?_;refine W.rgd ?_;repeat (refine' rgk ?_;rotate_left)
   refine rgz 0 ?_ ?_;refine go ?_;refine cr hT fun⟨v',L'⟩ ⟨Qy,hv⟩=>?_;refine go ?_;refine W.rgd ?_;repeat (refine' rgk ?_;rotate_left)
   refine rgz 0 ?_ ?_;refine go ?_;refine cr (hTw _) fun _ _=>?_;refine go ?_;refine bqn (Y:=[[KE B x.wb v' lk fd],(x.ar (x.ja a).2).ts++[RW.th {r with v:=v',s:=(x.ja a).2} L'],[w9 lk (fl)],[w9 fd (adD ff a (.bool true))]]) ?_;exact⟨(⟨x.ar (x.ja a).2,ms,{r with v:=v',s:=(x.ja a).2},L'⟩,fl,adD ff a (.bool true)),⟨⟨(h.ar hv (vv x a) hi).more (by omega),rfl,Qy,fun _ h=>h,rfl,rfl,rfl⟩,hfl,hff.put a true⟩,rfl,rfl⟩
   all_goals kernel_rfl
 .skip
  refine aai.go func9 ntmps9 ?_;refine go1 fun b4=>?_;refine W.rgd ?_;repeat (refine' rgk ?_;rotate_left)
  refine rgz 0 ?_ ?_;refine go ?_;refine aeW (z:= .bool false) (v:= .bool true) (hv:=by simpa using hq) ?_;refine go ?_;refine bqn (Y:=[[KE B x.wb r.v lk fd],x.ts++[r.th L],[w9 lk fl],[w9 fd ff]]) ?_;exact⟨(⟨x,ms,r,L⟩,fl,ff),⟨⟨h.more (by omega),rfl,fun _ h=>h,fun _ h=>h,rfl,rfl,rfl⟩,hfl,hff⟩,rfl,rfl⟩
  all_goals kernel_rfl
theorem ab5.putv{f:aex}(h:ab5 f)(y:Int):ab5 (adD f y ((f y).getD (.bool false))):=by
 obtain⟨q,hq⟩:=h y;rw[hq];exact h.put y q
theorem does_5(h:Scn own cl cd la lf b x ms r)(hb:4*b+8<1000000)(B lk fd:Nat)(fl ff:aex)(hfl:ab5 fl)(hff:ab5 ff)(a c:Int):afi own cl cd la lf b x ms r L B lk fd fl ff 5 a c:=by
 obtain⟨q,hq⟩:=hfl a;cases q
 .skip
  have hLg:x.s.L.length<1000000:=by have :=h.inv.lg;omega
  have hT:=acY (Yg (L:=L) h.both hLg a);have hTw:∀t,aai prog 57 #[x.wb,a] [x.ts++t] _:=fun t=>ad2 fun T w hl=>ul T w x a hl hLg;simp only[RV.val]at hT;have hi:=afK h.inv a;generalize hg:(x.fQ a).1=g at hT hTw;clear hg;refine aai.go func9 ntmps9 ?_;refine go1 fun b4=>?_;refine W.rgd ?_;repeat (refine' rgk ?_;rotate_left)
  refine rgz 0 ?_ ?_;refine go ?_;refine cr hT fun⟨v',L'⟩ ⟨Qy,hv⟩=>?_;refine go1 fun b9=>?_;refine W.rgd ?_;repeat (refine' rgk ?_;rotate_left)
  refine rgz 0 ?_ ?_;refine go ?_;refine cr (hTw _) fun _ _=>?_;refine go ?_;refine W.rgd ?_;repeat (refine' rgk ?_;rotate_left)
  refine rgz 0 ?_ ?_;refine go ?_;refine aeW (z:= .bool false) (v:= .bool false) (hv:=by simpa using hq) ?_;refine go ?_;refine mapE (z:= .bool false) fun st=>?_;refine go ?_;refine mapT ?_;refine go ?_;refine bqn (Y:=[[KE B x.wb v' lk fd],(x.ar (x.fQ a).2.2).ts++[RW.th {r with v:=v',s:=(x.fQ a).2.2} L'],[w9 lk (adD (adD fl a ((fl a).getD (.bool false))) a (.bool g))],[w9 fd (ff)]]) ?_;exact⟨(⟨x.ar (x.fQ a).2.2,ms,{r with v:=v',s:=(x.fQ a).2.2},L'⟩,adD (adD fl a ((fl a).getD (.bool false))) a (.bool g),ff),⟨⟨(h.ar hv (mW x a) hi).more (by omega),rfl,Qy,fun _ h=>h,rfl,rfl,rfl⟩,hfl.putv a |>.put a g,hff⟩,rfl,rfl⟩
  all_goals kernel_rfl
 .skip
  have hLg:x.s.L.length<1000000:=by have :=h.inv.lg;omega
  have hT:=acY (Yg (L:=L) h.both hLg a);have hTw:∀t,aai prog 57 #[x.wb,a] [x.ts++t] _:=fun t=>ad2 fun T w hl=>ul T w x a hl hLg;simp only[RV.val]at hT;have hi:=afK h.inv a;generalize hg:(x.fQ a).1=g at hT hTw;clear hg;refine aai.go func9 ntmps9 ?_;refine go1 fun b4=>?_;refine W.rgd ?_;repeat (refine' rgk ?_;rotate_left)
  refine rgz 0 ?_ ?_;refine go ?_;refine cr hT fun⟨v',L'⟩ ⟨Qy,hv⟩=>?_;refine go1 fun b9=>?_;refine W.rgd ?_;repeat (refine' rgk ?_;rotate_left)
  refine rgz 0 ?_ ?_;refine go ?_;refine cr (hTw _) fun _ _=>?_;refine go ?_;refine W.rgd ?_;repeat (refine' rgk ?_;rotate_left)
  refine rgz 0 ?_ ?_;refine go ?_;refine aeW (z:= .bool false) (v:= .bool true) (hv:=by simpa using hq) ?_;refine go ?_;refine mapE (z:= .bool false) fun st=>?_;refine go ?_;refine mapT ?_;refine go ?_;refine bqn (Y:=[[KE B x.wb v' lk fd],(x.ar (x.fQ a).2.2).ts++[RW.th {r with v:=v',s:=(x.fQ a).2.2} L'],[w9 lk (adD (adD fl a ((fl a).getD (.bool false))) a (.bool true))],[w9 fd (ff)]]) ?_;exact⟨(⟨x.ar (x.fQ a).2.2,ms,{r with v:=v',s:=(x.fQ a).2.2},L'⟩,adD (adD fl a ((fl a).getD (.bool false))) a (.bool true),ff),⟨⟨(h.ar hv (mW x a) hi).more (by omega),rfl,Qy,fun _ h=>h,rfl,rfl,rfl⟩,hfl.putv a |>.put a true,hff⟩,rfl,rfl⟩
  all_goals kernel_rfl
theorem does_6(h:Scn own cl cd la lf b x ms r)(hb:4*b+8<1000000)(B lk fd:Nat)(fl ff:aex)(hfl:ab5 fl)(hff:ab5 ff)(a c:Int):afi own cl cd la lf b x ms r L B lk fd fl ff 6 a c:=by
 obtain⟨q,hq⟩:=hfl a;cases q
 .skip
  refine aai.go func9 ntmps9 ?_;refine go1 fun b4=>?_;refine W.rgd ?_;repeat (refine' rgk ?_;rotate_left)
  refine rgz 0 ?_ ?_;refine go ?_;refine aeW (z:= .bool false) (v:= .bool false) (hv:=by simpa using hq) ?_;refine go ?_;refine bqn (Y:=[[KE B x.wb r.v lk fd],x.ts++[r.th L],[w9 lk fl],[w9 fd ff]]) ?_;exact⟨(⟨x,ms,r,L⟩,fl,ff),⟨⟨h.more (by omega),rfl,fun _ h=>h,fun _ h=>h,rfl,rfl,rfl⟩,hfl,hff⟩,rfl,rfl⟩
  all_goals kernel_rfl
 .skip
  have hLg:x.s.L.length<1000000:=by have :=h.inv.lg;omega
  have hT:=acY (VK (L:=L) h.both hLg a);have hTw:∀t,aai prog 60 #[x.wb,a] [x.ts++t] _:=fun t=>ad2 fun T w hl=>vP T w x a hl hLg;simp only[RV.val]at hT;have hi:=afY h.inv a;refine aai.go func9 ntmps9 ?_;refine go1 fun b4=>?_;refine W.rgd ?_;repeat (refine' rgk ?_;rotate_left)
  refine rgz 0 ?_ ?_;refine go ?_;refine aeW (z:= .bool false) (v:= .bool true) (hv:=by simpa using hq) ?_;refine go ?_;refine W.rgd ?_;repeat (refine' rgk ?_;rotate_left)
  refine rgz 0 ?_ ?_;refine go ?_;refine mapS ?_;refine go ?_;refine W.rgd ?_;repeat (refine' rgk ?_;rotate_left)
  refine rgz 0 ?_ ?_;refine go ?_;refine cr hT fun⟨v',L'⟩ ⟨Qy,hv⟩=>?_;refine go ?_;refine W.rgd ?_;repeat (refine' rgk ?_;rotate_left)
  refine rgz 0 ?_ ?_;refine go ?_;refine cr (hTw _) fun _ _=>?_;refine go ?_;refine bqn (Y:=[[KE B x.wb v' lk fd],(x.ar (x.eF a).2).ts++[RW.th {r with v:=v',s:=(x.eF a).2} L'],[w9 lk (adD fl a (.bool false))],[w9 fd (ff)]]) ?_;exact⟨(⟨x.ar (x.eF a).2,ms,{r with v:=v',s:=(x.eF a).2},L'⟩,adD fl a (.bool false),ff),⟨⟨(h.ar hv (pV x a) hi).more (by omega),rfl,Qy,fun _ h=>h,rfl,rfl,rfl⟩,hfl.put a false,hff⟩,rfl,rfl⟩
  all_goals kernel_rfl
theorem aga{k er:Int}{v:Bool}{Q:World->Prop}{x':WS}(hx:jk {x with P:=Q} k v er x'):x'.cos.length=x.cos.length/\x'.BI.length=x.BI.length:=by
 rcases hx with ⟨_,_,_,rfl⟩|⟨n,hn,r,_,_,⟨_,_,_,rfl⟩|⟨_,_,_,rfl⟩⟩<;>exact⟨rfl,rfl⟩
theorem does_7(h:Scn own cl cd la lf b x ms r)(hb:4*b+8<1000000)(B lk fd:Nat)(fl ff:aex)(hfl:ab5 fl)(hff:ab5 ff)(a c:Int):afi own cl cd la lf b x ms r L B lk fd fl ff 7 a c:=by
 have hLg:x.s.L.length<1000000:=by have :=h.inv.lg;omega
 have hT:=ac4 (α:=Bool×Int) (H:=fun y r' Q=>YJ r a y.1 y.2 r'/\∀W,Q W->r'.On W) (vf:=fun y v=> .tuple #[v.val,.bool y.1,.int .i64 y.2]) (Yb (L:=L) h.both h.fair hLg a) (fun e r' Q ⟨d,err,he,h1,h2⟩=>⟨(d,err),⟨h1,h2⟩,he⟩);simp only[RV.val]at hT;refine aai.go func9 ntmps9 ?_;refine go1 fun b4=>?_;refine W.rgd ?_;repeat (refine' rgk ?_;rotate_left)
 refine rgz 0 ?_ ?_;refine go ?_;refine cr hT fun⟨⟨d,err⟩,r',L2,Q⟩ ⟨Qy,⟨hrp,hon⟩,hQ⟩=>?_;have hW:aai prog 40 #[x.wb,a] [({x with P:=Q}:WS).ts++[r'.th L2]] (xq (fun y:Bool×Int×WS=>jk {x with P:=Q} a y.1 y.2.1 y.2.2) (fun y=> .tuple #[.bool y.1,.int .i64 y.2.1]) fun y=>[y.2.2.ts++[r'.th L2]]):=ad4 (mf:=fun y:Bool×Int×WS=>y.2.2.ts) fun T w hl=>(Jz T w {x with P:=Q} a hl hLg).mono fun e w' ⟨v,er,x',he,hx,hL⟩=>⟨(v,er,x'),he,hx,hL⟩;refine go ?_;refine W.rgd ?_;repeat (refine' rgk ?_;rotate_left)
 refine rgz 0 ?_ ?_;refine go ?_;refine cr hW fun⟨v,er,x'⟩ hx=>?_;refine go ?_;obtain⟨ms',hS,hwb,hP,hbl⟩:=park19 h hQ hon hrp hx;replace hwb:x'.wb=x.wb:=hwb
 refine bqn (Y:=[[KE B x.wb r'.v lk fd],x'.ts++[r'.th L2],[w9 lk fl],[w9 fd ff]]) ?_;exact⟨(⟨x',ms',r',L2⟩,fl,ff),⟨⟨hS.more (by omega),hwb,Qy,hP,hbl,aga hx⟩,hfl,hff⟩,rfl,by rw[<-hwb]⟩
 all_goals kernel_rfl
theorem does_8(h:Scn own cl cd la lf b x ms r)(hb:4*b+8<1000000)(B lk fd:Nat)(fl ff:aex)(hfl:ab5 fl)(hff:ab5 ff)(a c:Int)(w:Int)(hw:∀k:Nat,k<8->w≠(k:Int)):afi own cl cd la lf b x ms r L B lk fd fl ff w a c:=by
 have q0:(w==0)=false:=by simpa using hw 0 (by omega)
 have q1:(w==1)=false:=by simpa using hw 1 (by omega)
 have q2:(w==2)=false:=by simpa using hw 2 (by omega)
 have q3:(w==3)=false:=by simpa using hw 3 (by omega)
 have q4:(w==4)=false:=by simpa using hw 4 (by omega)
 have q5:(w==5)=false:=by simpa using hw 5 (by omega)
 have q6:(w==6)=false:=by simpa using hw 6 (by omega)
 have q7:(w==7)=false:=by simpa using hw 7 (by omega)
 refine aai.go func9 ntmps9 ?_;refine go1 fun b4=>?_;refine bqn (Y:=[[KE B x.wb r.v lk fd],x.ts++[r.th L],[w9 lk fl],[w9 fd ff]]) ?_;exact⟨(⟨x,ms,r,L⟩,fl,ff),⟨⟨h.more (by omega),rfl,fun _ h=>h,fun _ h=>h,rfl,rfl,rfl⟩,hfl,hff⟩,rfl,rfl⟩
theorem aiu(h:Scn own cl cd la lf b x ms r)(hb:4*b+8<1000000)(B lk fd:Nat)(fl ff:aex)(hfl:ab5 fl)(hff:ab5 ff)(a c:Int)(w:Int)(hcl:cl=true\/w≠1):afi own cl cd la lf b x ms r L B lk fd fl ff w a c:=by
 by_cases e0:w=0
 .subst e0;exact does_0 h hb B lk fd fl ff hfl hff a c
 by_cases e1:w=1
 .subst e1
  obtain rfl:cl=true:=hcl.resolve_right (by simp);exact does_1 h hb B lk fd fl ff hfl hff a c
 by_cases e2:w=2
 .subst e2;exact does_2 h hb B lk fd fl ff hfl hff a c
 by_cases e3:w=3
 .subst e3;exact does_3 h hb B lk fd fl ff hfl hff a c
 by_cases e4:w=4
 .subst e4;exact does_4 h hb B lk fd fl ff hfl hff a c
 by_cases e5:w=5
 .subst e5;exact does_5 h hb B lk fd fl ff hfl hff a c
 by_cases e6:w=6
 .subst e6;exact does_6 h hb B lk fd fl ff hfl hff a c
 by_cases e7:w=7
 .subst e7;exact does_7 h hb B lk fd fl ff hfl hff a c
 exact does_8 h hb B lk fd fl ff hfl hff a c w fun k hk=>by
  have :k=0\/k=1\/k=2\/k=3\/k=4\/k=5\/k=6\/k=7:=by omega
  rcases this with rfl|rfl|rfl|rfl|rfl|rfl|rfl|rfl<;>assumption
end
end Go.Proofs.YtegejdlglonflaaGreatDoor
