/-
  Texts of FireHolds, laid together by program.
-/
import Derived.Test.YtegejdlglonflaaGreatDoorWZ40
namespace Go.Proofs.YtegejdlglonflaaGreatDoor
open Go.RowKit Go.Shelf Go.Proofs.Tryz
set_option maxRecDepth 100000
set_option maxHeartbeats 8000000
set_option linter.unusedVariables false
set_option linter.unusedSimpArgs false
theorem agx{x:WS}{r:RW}{L:PL}(h:adR x.P r)(hfa:r.s.C.length<=r.s.most/\r.s.most<=65536):Does 43 #[r.v.val] (x.ts++[r.th L]) (RI x L fun en r' Q=>∃v err,en= .returned (.tuple #[r'.v.val,.int .i64 v,.int .i64 err])/\Ym r v err r' x.P Q):=by
 by_cases hs:r.s.C.length+1<=r.s.most
 .refine RS _ fun T w hL=>?_
  refine(Yt T w r.v r.s x.P (r.BI.flatMap Rb.cells) hL h.fits.m (fun W hW=>(h.on W hW).h) h.fits.hc (Sj _ V3 _) (by rw[h.fits.h];exact h.l1) hs).mono ?_;rintro e w' ⟨v',L',Qy,rfl,hmm,hL'⟩;exact⟨{r with v:=v',s:=(r.s.au 1).1,BI:=r.BI++[Rb.new r.s.C.length]},L',(fun W=>x.P W/\aG W v'.ha 3 (r.v.hn+1) (r.BI.flatMap Rb.cells++[Value.int .i64 (r.s.C.length:Int),Value.slice none 0 0,Value.slice none 0 0])),Qy,⟨_,0,rfl,.inl ⟨hs,by rw[h.fits.h],rfl,v',hmm,rfl,fun W hW=>⟨hW.1,by rw[List.flatMap_append];exact hW.2⟩⟩⟩,fun W hW=>hW.1,hL'⟩
 .refine TV fun _=>fun T w hL=>?_
  have hen:=Qp (v:=r.v) (L:=L) (s:=r.s) (r:=[]) ((hL.sel [(x.ts).length] (by simp[RW.th]) (by simp)));have hm:=h.fits.m;have hms:=hfa.2;exact Qa (R:=fun en r' Q=>∃v err,en= .returned (.tuple #[r'.v.val,.int .i64 v,.int .i64 err])/\Ym r v err r' x.P Q) (fun w=>Wx r.v w (by omega) (by have :=hfa.1;omega) (by omega)) ⟨0,6,rfl,.inr ⟨hs,rfl,rfl,rfl,rfl⟩⟩ T w hL
theorem agD{x:WS}{r:RW}{L:PL}(h:adR x.P r)(hfa:r.s.C.length<=r.s.most/\r.s.most<=65536):Does 44 #[r.v.val] (x.ts++[r.th L]) (RI x L fun en r' Q=>∃v err,en= .returned (.tuple #[r'.v.val,.int .i64 v,.int .i64 err])/\X7 r v err r' x.P Q):=by
 by_cases hs:r.s.C.length+2<=r.s.most
 .refine RS _ fun T w hL=>?_
  refine(YB T w r.v r.s x.P (r.cos.flatMap RH.cells) hL h.fits.m (fun W hW=>(h.on W hW).o) h.fits.oc (Sj _ VY _) (by rw[h.fits.o];exact h.l2) hs).mono ?_;rintro e w' ⟨v',L',Qy,rfl,hmm,hL'⟩;exact⟨{r with v:=v',s:=(r.s.au 2).1,cos:=r.cos++[RH.new r.s.C.length]},L',(fun W=>x.P W/\aG W v'.oa 2 (r.v.on+1) (r.cos.flatMap RH.cells++[Value.int .i64 (r.s.C.length:Int),Value.slice none 0 0])),Qy,⟨_,0,rfl,.inl ⟨hs,by rw[h.fits.o],rfl,v',hmm,rfl,fun W hW=>⟨hW.1,by rw[List.flatMap_append];exact hW.2⟩⟩⟩,fun W hW=>hW.1,hL'⟩
 .refine TV fun _=>fun T w hL=>?_
  have hen:=Qp (v:=r.v) (L:=L) (s:=r.s) (r:=[]) ((hL.sel [(x.ts).length] (by simp[RW.th]) (by simp)));have hm:=h.fits.m;have hms:=hfa.2;exact Qa (R:=fun en r' Q=>∃v err,en= .returned (.tuple #[r'.v.val,.int .i64 v,.int .i64 err])/\X7 r v err r' x.P Q) (fun w=>AB r.v w (by omega) (by have :=hfa.1;omega) (by omega)) ⟨0,6,rfl,.inr ⟨hs,rfl,rfl,rfl,rfl⟩⟩ T w hL
theorem af2{x:WS}{r:RW}{L:PL}(h:adR x.P r)(hfa:r.s.C.length<=r.s.most/\r.s.most<=65536)(hsn:r.sys.length<=100000)(th:Int)(ba:Option Addr)(bases:List MB)(bc:Nat)(ca:Option Addr)(conds:List Int)(cc:Nat)(hA:∀W,x.P W->iJ W ba bases ca conds)(hbig:∀b∈bases,b.Big):Does 45 #[r.v.val,th,.slice ba bases.length bc,.slice ca conds.length cc] (x.ts++[r.th L]) (RI x L fun en r' Q=>∃v err,en= .returned (.tuple #[r'.v.val,.int .i64 v,.int .i64 err])/\XD r th ba bases bc ca conds cc v err r' x.P Q):=by
 by_cases hok:nM r.v.hn r.v.on th bases conds
 .by_cases hs:r.s.C.length+1<=r.s.most
  .refine RS _ fun T w hL=>?_
   refine(Xx T w r.v r.s x.P (r.sys.flatMap MS.cells) th ba bases bc ca conds cc hL h.fits.m (fun W hW=>(h.on W hW).n) h.fits.nc (Sj _ Xc _) (by rw[h.fits.n];exact hsn) hs hA hbig hok).mono ?_;rintro e w' ⟨v',L',Qy,rfl,hmm,hL'⟩;exact⟨{r with v:=v',s:=(r.s.au 1).1,sys:=r.sys++[MS.new th ba bases bc ca conds cc r.s.C.length]},L',(fun W=>x.P W/\aG W v'.sa 11 (r.v.sn+1) (r.sys.flatMap MS.cells++[Value.int .i64 th,Value.slice ba bases.length bc,Value.slice ca conds.length cc,Value.int .i64 (r.s.C.length:Int),Value.bool false,Value.bool false,Value.int .i64 0,Value.int .i64 0,Value.int .i64 0,Value.slice none 0 0,Value.int .i64 0])),Qy,⟨_,0,rfl,.inr (.inr ⟨hok,hs,by rw[h.fits.n],rfl,v',hmm,rfl,fun W hW=>⟨hW.1,by rw[List.flatMap_append];exact hW.2⟩⟩)⟩,fun W hW=>hW.1,hL'⟩
  .refine TV fun _=>fun T w hL=>?_
   have hen:=Qp (v:=r.v) (L:=L) (s:=r.s) (r:=[]) ((hL.sel [(x.ts).length] (by simp[RW.th]) (by simp)));have hm:=h.fits.m;have hms:=hfa.2;have hf:=hfa.1;refine Qm (R:=fun en r' Q=>∃v err,en= .returned (.tuple #[r'.v.val,.int .i64 v,.int .i64 err])/\XD r th ba bases bc ca conds cc v err r' x.P Q) (fun T w hL=>?_) T w hL;refine(VJ r.v w th ba bases bc ca conds cc (hA w (hL.still 0 rfl)) hbig hok (by omega) (by omega) (by omega)).mono ?_;rintro e w' ⟨rfl,ht⟩;exact⟨r,x.P,⟨⟨0,6,rfl,.inr (.inl ⟨hok,hs,rfl,rfl,rfl,rfl⟩)⟩,rfl,fun _ h=>h⟩,hL.touch ht⟩
 .refine Qm fun T w hL=>?_
  refine(Aq r.v w th ba bases bc ca conds cc (hA w (hL.still 0 rfl)) hbig hok).mono ?_;rintro e w' ⟨rfl,ht⟩;exact⟨r,x.P,⟨⟨0,2,rfl,.inl ⟨hok,rfl,rfl,rfl,rfl⟩⟩,rfl,fun _ h=>h⟩,hL.touch ht⟩
section
variable {own:Int->pE} {cl:Bool} {cd:Int} {la lf b:Nat} {x x':WS} {ms:List MS} {r r':RW} {Q:World->Prop}
theorem chan19{v er v2 err:Int}(h:Scn own cl cd la lf b x ms r)(hx:jG x v er x')(hQ:∀W,Q W->x'.P W)(hr:Ym r v2 err r' x'.P Q):∃own',Scn own' cl cd la lf b {x' with P:=Q} ms r':=by
 have hP:x'.P=x.P:=by rcases hx with ⟨_,_,_,_,_,_,_,_,_,rfl⟩|⟨_,_,_,rfl⟩<;>rfl
 have hx2:jG {x with P:=Q} v er {x' with P:=Q}:=by
  rcases hx with ⟨h1,h2,h3,c,M,q1,q2,a,cap,rfl⟩|⟨h1,h2,h3,rfl⟩
  .exact .inl ⟨h1,h2,h3,c,M,q1,q2,a,cap,rfl⟩
  .exact .inr ⟨h1,h2,h3,rfl⟩
 rw[hP]at hQ hr;obtain⟨own',hi⟩:=ahz h.inv hx;exact⟨own',(mJ (a:=adZ) h.fair hx).fair.fJ Q (by rw[hP];exact hQ),(Wu h.both h.fair hQ hr hx2).2.2,hi.know Q⟩
theorem cond19{v er v2 err:Int}(h:Scn own cl cd 0 0 b x ms r)(hx:jE x v er x')(hQ:∀W,Q W->x'.P W)(hr:X7 r v2 err r' x'.P Q):∃own',Scn own' cl cd 0 0 b {x' with P:=Q} ms r':=by
 have hP:x'.P=x.P:=by rcases hx with ⟨_,_,_,_,_,_,_,rfl⟩|⟨_,_,_,rfl⟩<;>rfl
 have hx2:jE {x with P:=Q} v er {x' with P:=Q}:=by
  rcases hx with ⟨h1,h2,h3,c,q,a,cap,rfl⟩|⟨h1,h2,h3,rfl⟩
  .exact .inl ⟨h1,h2,h3,c,q,a,cap,rfl⟩
  .exact .inr ⟨h1,h2,h3,rfl⟩
 rw[hP]at hQ hr;obtain⟨own',hi⟩:=afQ h.inv hx;exact⟨own',(mF (a:=adZ) h.fair hx).fair.fJ Q (by rw[hP];exact hQ),(WO h.both h.fair hQ hr hx2).2.2,hi.know Q⟩
theorem ahQ{th:Int}{ba ca:Option Addr}{bases:List MB}{bc cc:Nat}{conds:List Int}{v er v2 err:Int}(h:Scn own cl cd la lf b x ms r)(hA:∀W,x.P W->iJ W ba bases ca conds)(hx:abr x th bases conds v er x')(hQ:∀W,Q W->x'.P W)(hr:XD r th ba bases bc ca conds cc v2 err r' x'.P Q):er=err/\∃own' ms',Scn own' cl cd la lf b {x' with P:=Q} ms' r':=by
 have hb:=h.both;have hs:x.s=r.s:=hb.rel.s;have l1:=(PD hb.rel.h).1;have l2:=(PD hb.rel.o).1;have l3:=(PD hb.rel.n).1;have Fj:=h.fair.most;rw[hs]at Fj;have hok:ou x th bases conds↔nM r.v.hn r.v.on th bases conds:=by
  rw[hb.fits.h,hb.fits.o,<-l1,<-l2];exact Iff.rfl
 have hx0:=hx;unfold abr at hx;rw[hok]at hx;rcases hx with ⟨hno,rfl,rfl,rfl⟩|⟨hy,h1,rfl,rfl,rfl⟩|⟨hy,h1,rfl,rfl,s',aa,c,hpl,rfl⟩
 .rcases hr with ⟨_,rfl,rfl,rfl,rfl⟩|⟨hy,_⟩|⟨hy,_⟩
  .exact⟨rfl,own,ms,h.know hQ⟩
  .exact absurd hy hno
  .exact absurd hy hno
 .rcases hr with ⟨hno,_⟩|⟨_,_,rfl,rfl,rfl,rfl⟩|⟨_,h9,_⟩
  .exact absurd hy hno
  .exact⟨rfl,own,ms,h.know hQ⟩
  .rw[hs]at h1;exact absurd h9 h1
 .have h1':=h1
  rw[hs]at h1';rcases hr with ⟨hno,_⟩|⟨_,h9,_⟩|⟨_,_,rfl,rfl,v',hm,rfl,hon⟩
  .exact absurd hy hno
  .exact absurd h1' h9
  .have hA1:(r.s.au 1).1={r.s with C:=r.s.C++List.replicate 1 0}:=jO r.s 1 h1'
   obtain⟨m1,m2,m3,m4,m5,m6⟩:=made2 hm;have e:(x.s.au 1).1=x.s.more 1:=aeI (k:=1) h1;have hfl:s'.flag=(x.s.C.length:Int):=congrArg (fun z=>z.2.2.2.1) hpl;have hdn:s'.done=false:=congrArg (fun z=>z.2.2.2.2.2.1) hpl;have hi:=(h.inv.grow 1 fun _=> .fl ms.length).uY s' (by rw[hfl];exact adQ.new (by simpa using afa x.s 1 0 (by omega)) rfl) (by rw[hfl];exact ae0 (Int.le_refl _)) hdn (fun W=>s'.In W) aa c;refine⟨rfl,aeB own x.s.C.length fun _=> .fl ms.length,ms++[s'],(UW (a:=adZ) h.fair s' aa c h1).fair.fJ Q hQ,⟨⟨by show(x.s.au 1).1=(r.s.au 1).1;rw[hs],hb.rel.h,hb.rel.o,?_⟩,⟨?_,?_,?_,?_⟩,fun W hW=>?_,fun d hd=>?_,?_,fun n hn=>?_⟩,?_⟩
   .show(ms++[s']).map MS.plain=(r.sys++[_]).map MS.plain
    rw[List.map_append,List.map_append,hb.rel.n,List.map_singleton,hpl,hs];rfl
   .show v'.most=((r.s.au 1).1.most:Int)
    rw[m1,hA1];exact hb.fits.m
   .show v'.hn=_
    rw[m4];exact hb.fits.h
   .show v'.on=_
    rw[m6];exact hb.fits.o
   .show v'.sn=(r.sys++[_]).length
    rw[List.length_append,List.length_singleton,m2,hb.fits.n]
   .have hxP:x.P W:=(hQ W hW).1
    have hO:=hb.on W hxP;exact⟨by show aG W v'.ha 3 v'.hn _;rw[m3,m4];exact hO.h,by show aG W v'.oa 2 v'.on _;rw[m5,m6];exact hO.o,by show aG W v'.sa 11 v'.sn _;rw[m2];exact(hon W hW).2,hO.ch,hO.co,TU hO.sy (XA (x:=x) (bc:=bc) (cc:=cc) (hA W hxP) (hok.2 hy) _)⟩
   .show d.cell+1<(r.s.au 1).1.C.length
    rw[hA1];have :=hb.cc d hd;simp only[List.length_append,List.length_replicate];omega
   .show(r.s.au 1).1.C.length<=_
    rw[hA1];simp only[List.length_append,List.length_replicate];omega
   .have hn':n<(r.sys++[MS.new th ba bases bc ca conds cc r.s.C.length]).length:=hn
    rw[List.length_append,List.length_singleton]at hn';by_cases en:n<r.sys.length
    .obtain⟨q,hq⟩:=hb.fl n en
     have e9:(r.sys++[MS.new th ba bases bc ca conds cc r.s.C.length])[n]'hn=r.sys[n]:=List.getElem_append_left en;exact⟨q,hq.trans (congrArg MS.flag e9.symm)⟩
    .obtain rfl:n=r.sys.length:=by omega
     have e9:(r.sys++[MS.new th ba bases bc ca conds cc r.s.C.length])[r.sys.length]'hn=MS.new th ba bases bc ca conds cc r.s.C.length:=by rw[List.getElem_append_right (by omega)];simp
     exact⟨r.s.C.length,(congrArg MS.flag e9.symm)⟩
   .rw[e]
    exact hi.know Q
end
def rv0:RV:=⟨none,0,0,2000,none,0,0,none,0,0,none,0,0,none,0,0⟩
def rw0:RW:=⟨rv0,Ar.fresh 2000,[],[],[]⟩
theorem scn0{wb ga:Nat}{P:World->Prop}(hP:∀W,P W->bJ W)(cl:Bool)(cd:Int):Scn (fun _=> .ch 0) cl cd 0 0 0 (WS.empty wb ga 2000 P) [] rw0:=
 ⟨⟨⟨hP,fun W _=>⟨fun c hc=>(List.not_mem_nil hc).elim,fun c hc=>(List.not_mem_nil hc).elim⟩,rfl,fun W _ m hm=>(List.not_mem_nil hm).elim,fun n hn=>(Nat.not_lt_zero _ hn).elim,fun n hn=>(Nat.not_lt_zero _ hn).elim,Nat.zero_le _,Nat.zero_le _,Nat.zero_le _⟩,rfl,Nat.zero_le _,(by show(2000:Nat)<=65536;omega)⟩,
  ⟨⟨rfl,rfl,rfl,rfl⟩,⟨rfl,rfl,rfl,rfl⟩,fun W _=>⟨⟨Nat.zero_le _,fun i hi=>(Nat.not_lt_zero _ hi).elim⟩,⟨Nat.zero_le _,fun i hi=>(Nat.not_lt_zero _ hi).elim⟩,⟨Nat.zero_le _,fun i hi=>(Nat.not_lt_zero _ hi).elim⟩,fun c hc=>(List.not_mem_nil hc).elim,fun c hc=>(List.not_mem_nil hc).elim,fun c hc=>(List.not_mem_nil hc).elim⟩,fun c hc=>(List.not_mem_nil hc).elim,Nat.zero_le _,fun n hn=>(Nat.not_lt_zero _ hn).elim⟩,
  ⟨rfl,fun n hn=>(Nat.not_lt_zero _ hn).elim,fun n hn=>(Nat.not_lt_zero _ hn).elim,fun n hn=>(Nat.not_lt_zero _ hn).elim,fun n hn=>(Nat.not_lt_zero _ hn).elim,fun n hn=>(Nat.not_lt_zero _ hn).elim,fun n hn=>(Nat.not_lt_zero _ hn).elim,fun n hn=>(Nat.not_lt_zero _ hn).elim,fun n hn=>(Nat.not_lt_zero _ hn).elim,fun _ n hn=>(Nat.not_lt_zero _ hn).elim,fun n hn=>(Nat.not_lt_zero _ hn).elim,fun n hn=>(Nat.not_lt_zero _ hn).elim,Nat.zero_le _⟩⟩
theorem new19(P:World->Prop):aai prog 35 #[(2000:Int)] [[aA P]] (xq (fun _:Nat×Nat=>True) (fun p=> .tuple #[.pointer (some ⟨p.1,0,none⟩),()]) fun p=>[(WS.empty p.1 p.2 2000 P).ts]):=fun T w hl=>
 (OU T w P 2000 (by decide) (by decide) (by simpa using hl)).mono fun e w' ⟨wb,ga,he,hL⟩=>⟨[(WS.empty wb ga 2000 P).ts],rfl,⟨(wb,ga),trivial,he,rfl⟩,by simpa using hL⟩
theorem newR19:aai prog 41 #[(2000:Int)] [] (xq (fun _:Unit=>True) (fun _=> .tuple #[.agg #[True,(2000:Int),True,True,True,True],()]) fun _=>[]):=aam fun w=>Oo 2000 w (by decide) (by decide)
theorem ad9(e:Int):aai prog 12 #[e] [] (xq (fun _:Unit=>True) (fun _=> .int .i64 e) fun _=>[]):=by
 refine aai.go func12 ntmps12 ?_;refine go ?_;refine W.abg ?_;exact⟨(),trivial,rfl,rfl⟩
theorem ahE{T:List Nat}{w0 w:World}{wb ga:Nat}{P:World->Prop}{r:LG}(h:BD T w0 w ((WS.empty wb ga 2000 P).ts::r).flatten):BD T w0 w (((WS.empty wb ga 2000 P).ts++[rw0.th []])::r).flatten:=by
 have h2:=ZX h 2000 (by omega);have h3:BD T w0 w ((WS.empty wb ga 2000 P).ts++r.flatten++[rw0.th []]):=by simpa[rw0,RW.th,rv0,Ar.fresh]using h2
 simpa using h3.aB
theorem chanMG{x:WS}{t:List ai}(hS:∀W,x.P W->bJ W)(hn:x.BI.length<=1000000):aai prog 42 #[x.wb] [x.ts++t] (xq (fun y:Int×Int×WS=>jG x y.1 y.2.1 y.2.2) (fun y=> .tuple #[.int .i64 y.1,.int .i64 y.2.1]) fun y=>[y.2.2.ts++t]):=
 ad4 (mf:=fun y:Int×Int×WS=>y.2.2.ts) fun T w hl=>(IA T w x hl hS hn).mono fun e w' ⟨v,er,x',he,hx,hL⟩=>⟨(v,er,x'),he,hx,hL⟩
theorem condMG{x:WS}{t:List ai}(hn:x.cos.length<=1000000):aai prog 36 #[x.wb] [x.ts++t] (xq (fun y:Int×Int×WS=>jE x y.1 y.2.1 y.2.2) (fun y=> .tuple #[.int .i64 y.1,.int .i64 y.2.1]) fun y=>[y.2.2.ts++t]):=
 ad4 (mf:=fun y:Int×Int×WS=>y.2.2.ts) fun T w hl=>(Lc T w x hl hn).mono fun e w' ⟨v,er,x',he,hx,hL⟩=>⟨(v,er,x'),he,hx,hL⟩
theorem ahK{x:WS}{t:List ai}{th:Int}{ba:Option Addr}{bases:List MB}{bc:Nat}(ha:∀W,x.P W->iJ W ba bases none [])(hl3:x.sys.length<=100000):aai prog 37 #[x.wb,th,.slice ba bases.length bc,True] [x.ts++t] (xq (fun y:Int×Int×WS=>abr x th bases [] y.1 y.2.1 y.2.2) (fun y=> .tuple #[.int .i64 y.1,.int .i64 y.2.1]) fun y=>[y.2.2.ts++t]):=
 ad4 (mf:=fun y:Int×Int×WS=>y.2.2.ts) fun T w hl=>(uo T w x th ba bases bc none [] 0 hl ha hl3).mono fun e w' ⟨v,er,x',he,hx,hL⟩=>⟨(v,er,x'),he,hx,hL⟩
theorem chanMR{x:WS}{r:RW}{L:PL}(h:adR x.P r)(hfa:r.s.C.length<=r.s.most/\r.s.most<=65536):aai prog 43 #[r.v.val] [x.ts++[r.th L]] (xq (fun p:(Int×Int)×RW×PL×(World->Prop)=>(∀y∈L,y∈p.2.2.1)/\Ym r p.1.1 p.1.2 p.2.1 x.P p.2.2.2/\∀W,p.2.2.2 W->x.P W) (fun p=> .tuple #[p.2.1.v.val,.int .i64 p.1.1,.int .i64 p.1.2]) fun p=>[({x with P:=p.2.2.2}:WS).ts++[p.2.1.th p.2.2.1]]):=
 ac4 (α:=Int×Int) (H:=fun y r' Q=>Ym r y.1 y.2 r' x.P Q) (vf:=fun y v=> .tuple #[v.val,.int .i64 y.1,.int .i64 y.2]) (agx (L:=L) h hfa) fun e r' Q ⟨v,er,he,hr⟩=>⟨(v,er),hr,he⟩
theorem condMR{x:WS}{r:RW}{L:PL}(h:adR x.P r)(hfa:r.s.C.length<=r.s.most/\r.s.most<=65536):aai prog 44 #[r.v.val] [x.ts++[r.th L]] (xq (fun p:(Int×Int)×RW×PL×(World->Prop)=>(∀y∈L,y∈p.2.2.1)/\X7 r p.1.1 p.1.2 p.2.1 x.P p.2.2.2/\∀W,p.2.2.2 W->x.P W) (fun p=> .tuple #[p.2.1.v.val,.int .i64 p.1.1,.int .i64 p.1.2]) fun p=>[({x with P:=p.2.2.2}:WS).ts++[p.2.1.th p.2.2.1]]):=
 ac4 (α:=Int×Int) (H:=fun y r' Q=>X7 r y.1 y.2 r' x.P Q) (vf:=fun y v=> .tuple #[v.val,.int .i64 y.1,.int .i64 y.2]) (agD (L:=L) h hfa) fun e r' Q ⟨v,er,he,hr⟩=>⟨(v,er),hr,he⟩
theorem ahN{x:WS}{r:RW}{L:PL}(h:adR x.P r)(hfa:r.s.C.length<=r.s.most/\r.s.most<=65536)(hsn:r.sys.length<=100000)(th:Int)(ba:Option Addr)(bases:List MB)(bc:Nat)(hA:∀W,x.P W->iJ W ba bases none [])(hbig:∀b∈bases,b.Big):aai prog 45 #[r.v.val,th,.slice ba bases.length bc,True] [x.ts++[r.th L]] (xq (fun p:(Int×Int)×RW×PL×(World->Prop)=>(∀y∈L,y∈p.2.2.1)/\XD r th ba bases bc none [] 0 p.1.1 p.1.2 p.2.1 x.P p.2.2.2/\∀W,p.2.2.2 W->x.P W) (fun p=> .tuple #[p.2.1.v.val,.int .i64 p.1.1,.int .i64 p.1.2]) fun p=>[({x with P:=p.2.2.2}:WS).ts++[p.2.1.th p.2.2.1]]):=
 ac4 (α:=Int×Int) (H:=fun y r' Q=>XD r th ba bases bc none [] 0 y.1 y.2 r' x.P Q) (vf:=fun y v=> .tuple #[v.val,.int .i64 y.1,.int .i64 y.2]) (af2 (L:=L) h hfa hsn th ba bases bc none [] 0 hA hbig) fun e r' Q ⟨v,er,he,hr⟩=>⟨(v,er),hr,he⟩
structure aeu(P:World->Prop)(wb:Nat)(cl:Bool)(cd:Int)(own:Int->pE)(x:WS)(ms:List MS)(r:RW)(n1 n2 n3:Nat):Prop where
 scn:Scn own cl cd 0 0 0 x ms r
 wb:x.wb=wb
 P:∀W,x.P W->P W
 most:x.s.most=2000
 l1:x.BI.length=n1
 l2:x.cos.length=n2
 l3:x.sys.length=n3
section
variable {P:World->Prop} {wb:Nat} {cl:Bool} {cd:Int} {own:Int->pE} {x x':WS} {ms:List MS} {r r':RW} {n1 n2 n3:Nat} {Q:World->Prop}
theorem aeu.size(h:aeu P wb cl cd own x ms r n1 n2 n3):x.s.C.length=n1+2*n2+n3:=by
 have :=h.scn.fair.Hr;rw[h.l1,h.l2,h.l3]at this;exact this
theorem aeu.ok(h:aeu P wb cl cd own x ms r n1 n2 n3)(hx:∀W,x'.P W->x.P W):adR x'.P r/\r.s.C.length<=r.s.most/\r.s.most<=65536/\r.sys.length=n3:=by
 have hb:=h.scn.both;have hs:x.s=r.s:=hb.rel.s;have l3:=(PD hb.rel.n).1;have hl:=congrArg List.length h.scn.inv.sys;rw[List.length_map]at hl;refine⟨(hb.ok h.scn.fair).mono hx,?_,?_,?_⟩
 .rw[<-hs];exact h.scn.fair.fits
 .rw[<-hs];exact h.scn.fair.most
 .rw[<-l3,<-hl];exact h.l3
theorem aeu.chan{v er v2 err:Int}(h:aeu P wb cl cd own x ms r n1 n2 n3)(hn:n1+2*n2+n3<=1000)(hx:jG x v er x')(hQ:∀W,Q W->x'.P W)(hr:Ym r v2 err r' x'.P Q):∃own',aeu P wb cl cd own' {x' with P:=Q} ms r' (n1+1) n2 n3:=by
 obtain⟨own',hs⟩:=chan19 h.scn hx hQ hr;have hz:=h.size;rcases hx with ⟨h1,_,_,c,M,q1,q2,a,cap,rfl⟩|⟨h1,_⟩
 .refine⟨own',hs,h.wb,fun W hW=>h.P W (hQ W hW),?_,?_,h.l2,h.l3⟩
  .show(x.s.au ((1:Nat):Int)).1.most=_
   rw[jO x.s 1 h1];exact h.most
  .show(x.BI++[_]).length=_
   rw[List.length_append,h.l1];rfl
 .rw[h.most]at h1;omega
theorem aeu.cond{v er v2 err:Int}(h:aeu P wb cl cd own x ms r n1 n2 n3)(hn:n1+2*n2+n3<=1000)(hx:jE x v er x')(hQ:∀W,Q W->x'.P W)(hr:X7 r v2 err r' x'.P Q):∃own',aeu P wb cl cd own' {x' with P:=Q} ms r' n1 (n2+1) n3:=by
 obtain⟨own',hs⟩:=cond19 h.scn hx hQ hr;have hz:=h.size;rcases hx with ⟨h1,_,_,c,q,a,cap,rfl⟩|⟨h1,_⟩
 .refine⟨own',hs,h.wb,fun W hW=>h.P W (hQ W hW),?_,h.l1,?_,h.l3⟩
  .show(x.s.au ((2:Nat):Int)).1.most=_
   rw[jO x.s 2 h1];exact h.most
  .show(x.cos++[_]).length=_
   rw[List.length_append,h.l2];rfl
 .rw[h.most]at h1;omega
theorem aeu.begin{th:Int}{ba:Option Addr}{bases:List MB}{bc:Nat}{v er v2 err:Int}(h:aeu P wb cl cd own x ms r n1 n2 n3)(hA:∀W,x.P W->iJ W ba bases none [])(hx:abr x th bases [] v er x')(hQ:∀W,Q W->x'.P W)(hr:XD r th ba bases bc none [] 0 v2 err r' x'.P Q):er=err/\∃own' ms' m,m<=n3+1/\aeu P wb cl cd own' {x' with P:=Q} ms' r' n1 n2 m:=by
 obtain⟨he,own',ms',hs⟩:=ahQ h.scn hA hx hQ hr;refine⟨he,own',ms',?_⟩;rcases hx with ⟨_,_,_,rfl⟩|⟨_,_,_,_,rfl⟩|⟨_,h1,_,_,s',a,c,_,rfl⟩
 .exact⟨n3,by omega,hs,h.wb,fun W hW=>h.P W (hQ W hW),h.most,h.l1,h.l2,h.l3⟩
 .exact⟨n3,by omega,hs,h.wb,fun W hW=>h.P W (hQ W hW),h.most,h.l1,h.l2,h.l3⟩
 .refine⟨n3+1,by omega,hs,h.wb,fun W hW=>h.P W (hQ W hW).1,?_,h.l1,h.l2,?_⟩
  .show(x.s.au ((1:Nat):Int)).1.most=_
   rw[jO x.s 1 h1];exact h.most
  .show(x.sys++[_]).length=_
   rw[List.length_append,h.l3];rfl
theorem mk_new{wb ga:Nat}(hP:∀W,P W->bJ W):aeu P wb cl cd (fun _=> .ch 0) (WS.empty wb ga 2000 P) [] rw0 0 0 0:=⟨scn0 hP cl cd,rfl,fun _ h=>h,rfl,rfl,rfl,rfl⟩
end
theorem abt(i:Nat)(h:i<1000000):Value.int .i64 (IntKind.i64.wrap ((i:Int)+1))=Value.int .i64 ((i+1:Nat):Int):=by rw[IntWalk.i64_in _ (by omega)];rfl
theorem KN{M:LG}{T:List Nat}{w0 w:World}(rs:List Nat)(h:BD T w0 w M.flatten)(hn:rs.Nodup:=by decide):BD T w0 w (gets M rs):=(h.prm (abq rs M hn)).less
end Go.Proofs.YtegejdlglonflaaGreatDoor
