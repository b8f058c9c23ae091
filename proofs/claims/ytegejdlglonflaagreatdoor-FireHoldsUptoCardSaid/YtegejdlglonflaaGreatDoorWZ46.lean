/-
  Texts of FireHolds, laid together by program.
-/
import Derived.Test.YtegejdlglonflaaGreatDoorWZ43
import Derived.Test.YtegejdlglonflaaGreatDoorWZ44
import Derived.Test.YtegejdlglonflaaGreatDoorWZ45
namespace Go.Proofs.YtegejdlglonflaaGreatDoor
open Go.RowKit Go.Shelf Go.Proofs.Tryz
set_option maxRecDepth 100000
set_option maxHeartbeats 8000000
set_option linter.unusedVariables false
set_option linter.unusedSimpArgs false
theorem ag6{x:WS}{t:List ai}{P:World->Prop}(hP:∀W,P W->bJ W)(h:∀W,x.P W->P W):aai prog 7 #[] [x.ts++t] (xq (fun _:Unit=>True) (fun _=> .bool true) fun _=>[[aA P]]):=fun T w hl=>
 aeH hP T w (by simpa using ag7 (r:=t) (by simpa using hl) h)
theorem ahi{x:WS}{P:World->Prop}(hP:∀W,P W->bJ W)(h:∀W,x.P W->P W):aai prog 7 #[] [x.ts] (xq (fun _:Unit=>True) (fun _=> .bool true) fun _=>[[aA P]]):=fun T w hl=>
 aeH hP T w (by simpa using ag7 (r:=[]) (by simpa using hl) h)
theorem ahH{sc:aee}{x:WS}{t:ai}(hP:∀W,x.P W->sc.Mem W)(i:Nat)(hi:i<sc.acts.length){bb oo:Nat}(ha:sc.aa=some ⟨bb,oo,none⟩):abd (x.ts++[t]) bb (oo+i*3) 3 [.int .i64 sc.acts[i].w,.int .i64 sc.acts[i].a,.int .i64 sc.acts[i].b]:=⟨rfl,fun T w0 w R hl j v hv=>by
 obtain⟨b',o',hb',_,hc⟩:=aG.at (f:=afU.cells) (fun _=>rfl) (hP w (hl.still 2 rfl)).ra i hi;rw[ha]at hb';injection hb' with hb'
 injection hb' with e1 e2
 subst e1 e2;have hj:j<3:=(List.getElem?_eq_some_iff.1 hv).1;rw[hc j hj];exact hv⟩
abbrev scB(b:Nat)(sc:aee):ai:=box b 25 #[sc.ch,sc.co,.slice sc.sa sc.kE.length sc.sc,.slice sc.aa sc.acts.length sc.ac]
structure ahL(sc:aee)(P:World->Prop)(wb:Nat)(own:Int->pE)(cl:Bool)(cd:Int)(N2:Nat)(i:Nat)(p:S19):Prop where
 scn:Scn own cl cd 0 0 (2*i) p.x p.ms p.r
 wb:p.x.wb=wb
 P:∀W,p.x.P W->P W
 co:p.x.cos.length=N2
def ActJ(sc:aee)(P:World->Prop)(wb:Nat)(own:Int->pE)(cl:Bool)(cd:Int)(N2 b B lk fd t N:Nat)(n:Nat)(v:Nat->Value)(M:LG):Prop:=∃(i:Nat) (p:S19) (fl ff:aex),ahL sc P wb own cl cd N2 i p/\ab5 fl/\ab5 ff/\i+n=N/\v t= .int .i64 (i:Int)/\∀T w0 w,BD T w0 w M.flatten->BD T w0 w ([p.x.ts++[p.r.th p.L],[KE B p.x.wb p.r.v lk fd],[w9 lk fl],[w9 fd ff],[scB b sc]]:LG).flatten
def WasJ(x:WS)(ms:List MS)(bo:ai)(ft:Nat)(n:Nat)(v:Nat->Value)(M:LG):Prop:=∃(i:Nat) (ws:List MS) (Q:World->Prop) (aa:Option Addr) (cap:Nat),(∀W,Q W->x.P W)/\(∀W,Q W->∀m∈ws,m.In W)/\ws.map MS.plain=(ms.map MS.plain).take i/\ws.length=i/\i+n=ms.length/\v 11= .int .i64 (i:Int)/\v 9= .slice aa i cap/\∀T w0 w,BD T w0 w M.flatten->BD T w0 w ([({x with P:=Q}:WS).ts,[bo],[w9 ft fun _=>none],[aS 60 11 (.slice aa i cap) i (ws.flatMap MS.cells)]]:LG).flatten
theorem ahJ{T:List Nat}{w0 w:World}{x:WS}{t bo m:ai}(h:BD T w0 w ([x.ts++[t],[bo],[m]]:LG).flatten):BD T w0 w ([({x with P:=x.P}:WS).ts,[bo],[m],[aS 60 11 (.slice none 0 0) 0 (([]:List MS).flatMap MS.cells)]]:LG).flatten:=by
 have h1:BD T w0 w (x.ts++([t]++[bo,m])):=by simpa using h
 have h2:BD T w0 w ((x.ts++[bo,m])++[t]):=h1.prm (by
  rw[List.append_assoc];exact List.Perm.append_left x.ts List.perm_append_comm)
 have h3:=h2.less.gK 60 11;simpa using h3
structure ahg(own:Int->pE)(P:World->Prop)(wb cd b N2:Nat)(y:WS)(ms ws:List MS)(es:List ME)(ea:Option Addr)(ek:Nat)(wa:Option Addr):Prop where
 fair:y.Fair ms
 inv:o5 own false cd 0 0 b y ms
 P:∀W,y.P W->P W
 wb:y.wb=wb
 co:y.cos.length=N2
 en:∀W,y.P W->T9 W ea ek es
 es:∀h:cd<y.cos.length,es.map ME.plain=y.cos[cd].es.map ME.plain
 wi:∀W,y.P W->∀m∈ws,m.In W
 wr:∀W,y.P W->aG W wa 11 ws.length (ws.flatMap MS.cells)
 wp:ws.map MS.plain=ms.map MS.plain
def FirJ(y:WS)(es:List ME)(bo:ai)(ft:Nat)(n:Nat)(v:Nat->Value)(M:LG):Prop:=∃k:Nat,k+n=es.length/\v 14= .int .i64 (k:Int)/\∀T w0 w,BD T w0 w M.flatten->BD T w0 w ([y.ts,[bo],[w9 ft (firstM (es.map ME.plain) k)]]:LG).flatten
def ahf(ms:List MS)(es:List ME)(i:Nat):MPl:=ad6 aej i ((ms.map MS.plain)[i]?.getD (aeS true)) (es.map ME.plain)
structure Going(own:Int->pE)(P:World->Prop)(wb cd b N2:Nat)(y:WS)(ms:List MS)(es:List ME)(k m:Nat)(z:WS)(ms':List MS)(E:ME)(at_ fr:Int):Prop where
 st:FSt own cd (b+k) (ahf ms es) z ms' at_ E m
 le:k+m<=3*es.length+4
 wb:z.wb=wb
 P:∀W,z.P W->y.P W
 len:ms'.length=ms.length
 fr:(fr=0/\(at_=1\/at_=2))\/(fr=1/\3<=at_)
 r:1<=at_/\at_<=7
def GoJ(own:Int->pE)(P:World->Prop)(wb cd b N2:Nat)(y:WS)(ms:List MS)(es:List ME)(bo m:ai)(f:Nat)(n:Nat)(v:Nat->Value)(M:LG):Prop:=∃(k:Nat) (z:WS) (ms':List MS) (E:ME) (at_ fr:Int),Going own P wb cd b N2 y ms es k n z ms' E at_ fr/\v 19= .int .i64 (k:Int)/\v 20= .int .i64 fr/\∀T w0 w,BD T w0 w M.flatten->BD T w0 w ([z.ts,[bo],[m],[zo f E at_ cd]]:LG).flatten
theorem FSt.range{own:Int->pE}{cd b:Nat}{fin:Nat->MPl}{x:WS}{ms:List MS}{e:ME}{n:Nat}{at_:Int}(h:FSt own cd b fin x ms at_ e n):1<=at_/\at_<=7/\(at_=7->n=0)/\(at_≠7->1<=n):=by
 cases h<;>refine⟨by decide,by decide,fun h=>?_,fun h=>?_⟩<;>first |rfl|omega|exact absurd h (by decide)|exact absurd rfl h
theorem afT{own:Int->pE}{P:World->Prop}{wb cd b N2:Nat}{y:WS}{ms ws:List MS}{es:List ME}{ea wa:Option Addr}{ek:Nat}(h:ahg own P wb cd b N2 y ms ws es ea ek wa)(hcd:cd<N2):Going own P wb cd b N2 y ms es 0 (3*es.length+4) y ms ME.zero 1 0:=by
 have hc:cd<y.cos.length:=by rw[h.co];exact hcd
 have hes:=h.es hc;have hl:y.cos[cd].es.length=es.length:=by have :=congrArg List.length hes;simpa using this.symm
 have hst:FSt own cd b (ahf ms es) y ms 1 ME.zero (3*y.cos[cd].es.length+4):= .s1 (fun _=>rfl) ⟨h.fair,h.inv,hc,fun i hi=>by
  unfold ahf;rw[<-hes,List.getElem?_map,List.getElem?_eq_getElem hi];rfl⟩
 rw[hl]at hst;exact⟨hst,by omega,h.wb,fun _ h=>h,rfl,.inl ⟨rfl,.inl rfl⟩,by decide⟩
theorem fin_is{ms ws:List MS}{es:List ME}(h:ws.map MS.plain=ms.map MS.plain)(i:Nat)(hi:i<ws.length):ahf ms es i=match adj (i:Int) (es.map ME.plain)with
  |some br=>adG aej br ws[i].plain
  |none=>ws[i].plain:=by
 unfold ahf;rw[aeG,<-h,List.getElem?_map,List.getElem?_eq_getElem hi];rfl
def MS.afr(u:MS)(br:Int):MS:={u with parked:=false,done:=true,branch:=br,v:=aei,partner:= -1}
theorem agN{u:MS}{br:Int}{W:World}(h:u.In W):(u.afr br).In W:=⟨⟨MT.dQ W,by simp[MS.afr,aei,MT.nodes,MT.aV]⟩,h.2⟩
theorem agz{u:MS}{br:Int}(h:u.done=false):adG aej br u.plain=(u.afr br).plain:=by
 have h2:MPl.done u.plain=false:=h;unfold adG;rw[h2];rfl
theorem agr{u:MS}{br:Int}(h:u.done=true):adG aej br u.plain=u.plain:=by
 have h2:MPl.done u.plain=true:=h;unfold adG;rw[if_pos h2]
def CmpJ(own:Int->pE)(cd b wb:Nat)(z:WS)(ms':List MS)(N:Nat)(bo m:ai)(n:Nat)(v:Nat->Value)(M:LG):Prop:=∃(i:Nat) (y:WS),aeg own cd b 0 y ms'/\y.wb=wb/\(∀W,y.P W->z.P W)/\i+n=N/\v 23= .int .i64 (i:Int)/\∀T w0 w,BD T w0 w M.flatten->BD T w0 w ([y.ts,[bo],[m]]:LG).flatten
theorem agy{T:List Nat}{w0 w:World}{A:List ai}{s l f B:ai}(h:BD T w0 w (A++[s,l,f,B])):BD T w0 w (A++[B,l,f,s]):=
 h.prm (List.Perm.append_left A ((List.perm_append_comm (l₁:=[s]) (l₂:=[l,f,B])).trans ((List.perm_append_comm (l₁:=[l,f]) (l₂:=[B])).append_right [s])))
theorem ahw:ab5 fun _=>none:=fun z=>⟨false,rfl⟩
set_option maxHeartbeats 16000000 in
theorem afL{sc:aee}{P:World->Prop}{cond:Int}(hS0:∀W,P W->bJ W)(hM:∀W,P W->sc.Mem W)(hbig:∀y∈sc.kE,∀b∈y.bases,b.Big):aai prog 3 #[.agg #[sc.ch,sc.co,.slice sc.sa sc.kE.length sc.sc,.slice sc.aa sc.acts.length sc.ac],cond] [[aA P]] (xq (fun _:Unit=>True) (fun _=> .bool true) fun _=>[[aA P]]):=by
 have hFew:=few19 (x:=sc) hM (fun y hy b hb=>(hbig y hy b hb).1);refine aai.go func3 ntmps3 ?_;refine go1 fun b2=>?_;refine cr hFew fun fb hfb=>?_;cases fb
 .clear hfb hFew
  refine go ?_;refine cr (aeH hS0) fun _ _=>?_;refine go ?_;refine W.abg ?_;exact⟨(),trivial,rfl,rfl⟩
 have hf:=hfb rfl;clear hfb hFew;by_cases h0:cond<0
 .have d0:decide (cond<0)=true:=decide_eq_true h0
  refine go ?_;refine cr (aeH hS0) fun _ _=>?_;refine go ?_;refine W.abg ?_;exact⟨(),trivial,rfl,rfl⟩
 have d0:decide (cond<0)=false:=decide_eq_false h0;by_cases h1:sc.co<=cond
 .have d1:decide (sc.co<=cond)=true:=decide_eq_true h1
  refine go ?_;refine cr (aeH hS0) fun _ _=>?_;refine go ?_;refine W.abg ?_;exact⟨(),trivial,rfl,rfl⟩
 have d1:decide (sc.co<=cond)=false:=decide_eq_false h1;obtain⟨N1,hN1⟩:=Int.eq_ofNat_of_zero_le hf.ch.1;obtain⟨N2,hN2⟩:=Int.eq_ofNat_of_zero_le hf.co.1;obtain⟨cd,rfl⟩:=Int.eq_ofNat_of_zero_le (show 0<=cond by omega);have hcd:cd<N2:=by omega
 have hMd:=made19 (sc:=sc) (N1:=N1) (N2:=N2) (P:=P) false cd (by have :=hf.ch;omega) (by have :=hf.co;omega) hf.sy (fun W h=>⟨hS0 W h,hM W h⟩) hbig;rw[<-hN1,<-hN2]at hMd;have hac:=hf.ac;clear hN1 hN2 h0 h1 hf;refine go ?_;refine cr hMd fun p hp=>?_;clear hMd d0 d1;obtain⟨ok,B,lk,fd,own,x,ms,r,L,n3⟩:=p;obtain⟨hmk,hn3⟩:=hp;have hWk:=ag6 (t:=[r.th L]) hS0 hmk.P;cases ok
 .refine go ?_
  refine cr hWk fun _ _=>?_;refine go ?_;refine W.abg ?_;exact⟨(),trivial,rfl,rfl⟩
 clear hWk;refine go ?_;refine W.aeo [7,58,59,60,61,62,63,64,65,66,67,68,69,70,71,72,73,74,75,76,77,78,79] (ActJ sc P x.wb own false cd N2 b2 B lk fd 7 sc.acts.length) sc.acts.length ⟨0,⟨x,ms,r,L⟩,_,_,⟨hmk.scn,rfl,hmk.P,hmk.l2⟩,ahw,ahw,Nat.zero_add _,rfl,fun T w0 w hl=>by have h:=agy (A:=x.ts++[r.th L]) (s:=scB b2 sc) (l:=w9 lk fun _=>none) (f:=w9 fd fun _=>none) (B:=KE B x.wb r.v lk fd) (by simpa using hl);simpa using h⟩ ?_ (by kernel_rfl);obtain⟨wb,hwb⟩:∃wb,x.wb=wb:=⟨_,rfl⟩;rw[hwb];clear hmk hn3 hwb x ms r L;rintro n v M a1 ⟨i0,⟨x,ms,r,L⟩,fl,ff,hac1,hfl,hff,hi,hv,hM1⟩ ha1;refine W.turn ?_ hM1;simp only[adS,List.foldl,sAq,sZq,sSq,hv]at ha1;subst ha1;clear hv hM1;obtain⟨hsc,rfl,hPx,hco⟩:=hac1;dsimp only at hsc hPx hco;by_cases hil:i0<sc.acts.length
 .have e1:decide ((i0:Int)<(sc.acts.length:Int))=true:=decide_eq_true (by omega)
  have e2:decide (i0<sc.acts.length)=true:=decide_eq_true hil;have hMx:∀W,x.P W->sc.Mem W:=fun W h=>hM W (hPx W h);refine W.know (p:=∃bb oo,sc.aa=some ⟨bb,oo,none⟩) (fun T w0 w hl=>by obtain⟨b',o',hb',_⟩:=aG.at (f:=afU.cells) (fun _=>rfl) (hMx w (hl.still 2 rfl)).ra i0 hil;exact⟨b',o',hb'⟩) ?_;rintro⟨bb,oo,hba⟩;have hl:=ahH (t:=r.th L) hMx i0 hil hba;have j1:(0:Int)<=(i0:Int):=by omega
  have j2:(i0:Int)<(sc.acts.length:Int):=by omega
  have hj:n-1<n/\i0+1+(n-1)=sc.acts.length:=by omega
  have hb:4*(2*i0)+8<1000000:=by omega
  obtain⟨⟨aw,ax,ab⟩,hacE⟩:∃z,sc.acts[i0]=z:=⟨_,rfl⟩;rw[hacE]at hl;dsimp only at hl;have hlw:abv (x.ts++[r.th L]) bb (oo+i0*3) (.int .i64 aw):=ahr hl 0;clear hi hac hacE;by_cases hw:aw=1
  .subst hw
   refine go ?_;exact⟨n-1,hj.1,by kernel_rfl,i0+1,⟨x,ms,r,L⟩,fl,ff,⟨hsc.more (by omega),rfl,hPx,hco⟩,hfl,hff,hj.2,abt i0 (by omega),fun T w0 w hl=>KN [0,1,2,3,4] hl⟩
  .have q1:(aw != 1)=true:=by simpa using hw
   have q2:(aw==1)=false:=by simpa using hw
   have q3:decide (aw=1)=false:=decide_eq_false hw;have hD:aai _ _ _ _ _:=does19 (L:=L) hsc hb B lk fd fl ff hfl hff ax ab aw (.inr hw);refine go ?_;refine cr hD fun q hq=>?_;refine go ?_;obtain⟨hq1,hq2,hq3⟩:=hq;exact⟨n-1,hj.1,by kernel_rfl,i0+1,q.1,q.2.1,q.2.2,⟨hq1.scn,hq1.wb,fun W h=>hPx W (hq1.P W h),hq1.len.2.1.trans hco⟩,hq2,hq3,hj.2,abt i0 (by omega),fun T w0 w hl=>KN [0,1,2,3,4] hl⟩
 .have e1:decide ((i0:Int)<(sc.acts.length:Int))=false:=decide_eq_false (by omega)
  have e2:decide (i0<sc.acts.length)=false:=decide_eq_false hil;have hi80:2*i0<=80:=by omega
  have hrl:r.cos.length=x.cos.length:=(PD hsc.both.rel.o).1.symm;have hcr:cd<r.cos.length:=by omega
  have hon:=hsc.both.fits.o;have hsn:=hsc.both.fits.n;have hnl:r.sys.length=ms.length:=(PD hsc.both.rel.n).1.symm;have c1:(0:Int)<=(cd:Int):=by omega
  have c2:(cd:Int)<(r.v.on:Int):=by omega
  have hsz:ms.length<=100000:=by have :=hsc.fair.good.l3;rw[hsc.inv.sys,List.length_map]at this;exact this
  refine W.know (p:=∃bb oo,r.v.oa=some ⟨bb,oo,none⟩) (fun T w0 w hl=>by obtain⟨b',o',hb',_⟩:=hsc.both.Um cd hcr w (hl.still 2 rfl);exact⟨b',o',hb'⟩) ?_;rintro⟨bb,oo,hba⟩;have hes:∀h:cd<x.cos.length,r.cos[cd].es.map ME.plain=x.cos[cd].es.map ME.plain:=fun h=>(congrArg (fun z=>z.2.2) ((PD hsc.both.rel.o).2 cd h hcr)).symm;have k1:abv (x.ts++[r.th L]) bb (oo+cd*2+1) (.slice r.cos[cd].a r.cos[cd].es.length r.cos[cd].k):=adL (hsc.both.Um cd hcr) hba 1 rfl;have hEn:∀W,x.P W->T9 W r.cos[cd].a r.cos[cd].k r.cos[cd].es:=fun W hW=>(hsc.both.on W hW).co _ (List.getElem_mem hcr);obtain⟨c,hcE⟩:∃c,r.cos[cd]=c:=⟨_,rfl⟩;rw[hcE]at hes k1 hEn;have hsl:r.v.sn=ms.length:=by omega
  clear hcE hcr hon hsn hnl hil hi hac hrl;refine go ?_;refine mapN (ty:=0) (fun ft=>?_);refine go ?_;refine W.aeo [11,9,12,13,91,92,93,94,95,96,97,98,99,100,101,102,103,104,105,106,107,108,109,110,111,112,113] (WasJ x ms (KE B x.wb r.v lk fd) ft) ms.length ⟨0,[],x.P,none,0,fun _ h=>h,fun W h m hm=>(List.not_mem_nil hm).elim,rfl,rfl,Nat.zero_add _,rfl,rfl,fun T w0 w hl=>ahJ (KN [0,1,5] hl)⟩ ?_ (by kernel_rfl);rintro n v M a1 ⟨i,ws,Q,aa,cap,hQ,hws,hpl,hwl,hi,hv,hv9,hM2⟩ ha1;refine W.turn ?_ hM2;simp only[adS,List.foldl,sAq,sZq,sSq,hv,hv9]at ha1;subst ha1;clear hv hv9 hM2;by_cases hil:i<ms.length
  .have e1:decide ((i:Int)<(r.v.sn:Int))=true:=decide_eq_true (by omega)
   have e2:decide (i<r.v.sn)=true:=decide_eq_true (by omega);have hS:=ahm (x:={x with P:=Q}) (ms:=ms) hsc.inv.sys (fun W h=>hsc.fair.good.cont W (hQ W h)) i hil;rw[show({x with P:=Q}:WS).wb=x.wb from rfl]at hS;have hI:adJ prog 45 60 11 128:=adz mE;have hn1:i+1<=4000000:=by omega
   have hj:n-1<n/\i+1+(n-1)=ms.length:=by omega
   clear hi hsl;refine go ?_;refine cr hS fun s hs=>?_;refine go1 fun b12=>?_;refine mbq (hal:=by intro w;go_simp;exact⟨rfl,rfl⟩) fun b5=>?_;refine apq (news:=s.cells) (m:=1) hI rfl (lT s) hn1 (by decide) (hnm:=rfl) fun a2 cap2=>?_;refine go ?_;refine⟨n-1,hj.1,by kernel_rfl,i+1,ws++[s],fun W=>Q W/\s.In W,a2,cap2,fun W h=>hQ W h.1,fun W h m hm=>?_,?_,by simp[hwl],hj.2,abt i (by omega),by kernel_rfl,fun T w0 w hl=>?_⟩
   .rcases List.mem_append.1 hm with hm|hm
    .exact hws W h.1 m hm
    .rw[List.mem_singleton.1 hm];exact h.2
   .rw[List.take_succ_eq_append_getElem (by simpa using hil),List.map_append,hpl]
    simp[hs]
   .have h:=KN [0,1,2,3] hl
    rw[show(ws++[s]).flatMap MS.cells=ws.flatMap MS.cells++s.cells by simp];exact h
  .have e1:decide ((i:Int)<(r.v.sn:Int))=false:=decide_eq_false (by omega)
   have e2:decide (i<r.v.sn)=false:=decide_eq_false (by omega);obtain⟨b0,hb0⟩:∃b0,2*i0=b0:=⟨_,rfl⟩;obtain⟨y,hy⟩:∃y:WS,({x with P:=fun W=>Q W/\aG W aa 11 i (ws.flatMap MS.cells)}:WS)=y:=⟨_,rfl⟩;have hT:ahg own P x.wb cd b0 N2 y ms ws c.es c.a c.k aa:=by
    rw[hb0]at hsc;subst hy;exact⟨hsc.fair.fJ _ (fun W h=>hQ W h.1),hsc.inv.know _,fun W h=>hPx W (hQ W h.1),rfl,hco,fun W h=>hEn W (hQ W h.1),hes,fun W h=>hws W h.1,fun W h=>by rw[hwl];exact h.2,by rw[hpl,List.take_of_length_le (by simp;omega)]⟩
   refine W.turn (M':=[y.ts,[KE B x.wb r.v lk fd],[w9 ft fun _=>none]]) ?_ (fun T w0 w hl=>by
    have h:BD T w0 w (({x with P:=Q}:WS).ts++[KE B x.wb r.v lk fd,w9 ft fun _=>none]++[aS 60 11 (.slice aa i cap) i (ws.flatMap MS.cells)]):=by simpa using hl
    have h2:=ahO h (by omega);rw[<-hy];have h3:BD T w0 w (({x with P:=fun W=>Q W/\aG W aa 11 i (ws.flatMap MS.cells)}:WS).ts++[KE B x.wb r.v lk fd,w9 ft fun _=>none]):=h2;simpa using h3)
   obtain⟨es,ea,ek,ahq⟩:∃es ea ek,c.es=es/\c.a=ea/\c.k=ek:=⟨_,_,_,rfl,rfl,rfl⟩;obtain⟨ahq,hcE3,hcE4⟩:=ahq;obtain⟨wb,hwbE⟩:∃wb,x.wb=wb:=⟨_,rfl⟩;obtain⟨vr,hvrE⟩:∃vr,r.v=vr:=⟨_,rfl⟩;have hwz2:ws.length<=ms.length/\ms.length<=ws.length:=by omega
   have hb80:b0<=80:=by omega
   rw[ahq,hcE3,hcE4,hwbE]at hT;clear hes k1 hEn hpl hws hQ hil hi hy hsl hb0 hba;subst hwl;rw[ahq,hcE3,hcE4,hwbE,hvrE];rw[hvrE]at e1 e2 c2;clear ahq hcE3 hcE4 hwbE hvrE;have hlen:es.length<=4096:=by
    have hc:cd<y.cos.length:=by rw[hT.co];exact hcd
    have h1:=hT.fair.good.q2 cd hc;have h2:=congrArg List.length (hT.es hc);simp only[List.length_map]at h2;omega
   refine go ?_;refine W.aeo [14,15,16,114,115,116,117,118,119,120,121,122,123,124,125,126,127,128,129,130,131,132,133,134,135,136,137,138,139,140,141,142] (FirJ y es (KE B wb vr lk fd) ft) es.length ⟨0,Nat.zero_add _,rfl,fun T w0 w hl=>hl⟩ ?_ (by kernel_rfl);rintro n v M a1 ⟨k,hi,hv,hM3⟩ ha1;refine W.turn ?_ hM3;simp only[adS,List.foldl,sAq,sZq,sSq,hv]at ha1;subst ha1;clear hv hM3;by_cases hil:k<es.length
   .have e3:decide ((k:Int)<(es.length:Int))=true:=decide_eq_true (by omega)
    have e4:decide (k<es.length)=true:=decide_eq_true hil;have j1:(0:Int)<=(k:Int):=by omega
    have j2:(k:Int)<(es.length:Int):=by omega
    have hj:n-1<n/\k+1+(n-1)=es.length:=by omega
    clear hi;refine W.know (p:=∃bb oo,ea=some ⟨bb,oo,none⟩) (fun T w0 w hl=>by obtain⟨b',o',hb',_⟩:=(hT.en w (hl.still 2 rfl)).2.1 k hil;exact⟨b',o',hb'⟩) ?_;rintro⟨bb,oo,hba⟩;obtain⟨k1,k2⟩:=ent_ld hT.en k hil hba;have hkl:k<(es.map ME.plain).length:=by simpa using hil
    have f1:=afV hkl;have f2:=afM hkl;have hpk:(es.map ME.plain)[k]=es[k].plain:=by simp
    rw[hpk]at f1 f2;obtain⟨e,heE⟩:∃e,es[k]=e:=⟨_,rfl⟩;rw[heE]at k1 k2 f1 f2;clear hpk heE;cases hq:firstM (es.map ME.plain) k e.sync with
    |none=>
     refine go ?_;refine aeW (z:= .int .i64 0) (v:= .tuple #[(),false]) (hv:=by rw[hq];rfl) ?_;refine go ?_;refine W.rgd ?_;repeat (refine' rgk ?_;rotate_left)
     refine rgz 0 ?_ ?_;refine go ?_;refine mapS ?_;refine go ?_;exact⟨n-1,hj.1,by kernel_rfl,k+1,hj.2,abt k (by omega),fun T w0 w hl=>by rw[<-f1 hq];exact KN [0,1,2] hl⟩
     all_goals kernel_rfl
    |some val=>
     refine go ?_;refine aeW (z:= .int .i64 0) (v:= .tuple #[val,true]) (hv:=by rw[hq];rfl) ?_;refine go ?_;exact⟨n-1,hj.1,by kernel_rfl,k+1,hj.2,abt k (by omega),fun T w0 w hl=>by rw[<-f2 (by show firstM (es.map ME.plain) k e.sync≠none;rw[hq];exact fun h=>by cases h)];exact KN [0,1,2] hl⟩
   .have e3:decide ((k:Int)<(es.length:Int))=false:=decide_eq_false (by omega)
    have e4:decide (k<es.length)=false:=decide_eq_false hil;obtain rfl:k=es.length:=by omega
    clear hi hil;have hN:=aeU (x:=y) (by have :=hT.fair.good.l3;omega) (cd:Int) ⟨c1,by rw[hT.co];omega⟩;rw[hT.wb]at hN;refine go ?_;refine cr hN fun f _=>?_;refine go ?_;refine cr (ad9 0) fun _ _=>?_;refine go ?_;refine W.aeo [19,20,21,22,155,156,157,158,159,160,161,162,163,164,165,166,167,168,169,170,171,172,173,174,175,176,177,178,179,180,181,182,183,184] (GoJ own P wb cd b0 N2 y ms es (KE B wb vr lk fd) (w9 ft (firstM (es.map ME.plain) es.length)) f) (3*es.length+4) ⟨0,y,ms,ME.zero,1,0,afT hT hcd,rfl,rfl,fun T w0 w hl=>KN [0,1,2,3] hl⟩ ?_ (by kernel_rfl);rintro n v M a1 ⟨k,z,ms',E,at_,fr,hg,hv19,hv20,hM4⟩ ha1;refine W.turn ?_ hM4;simp only[adS,List.foldl,sAq,sZq,sSq,hv19,hv20]at ha1;subst ha1;clear hv19 hv20 hM4;obtain⟨r1,r2,r3,r4⟩:=hg.st.range;have hle:=hg.le;have hk0:k<=3*es.length+4:=by omega
    have g1:decide ((k:Int)<=3*(es.length:Int)+4)=true:=decide_eq_true (by omega);have g2:decide (3*(es.length:Int)+4<(k:Int))=false:=decide_eq_false (by omega);have g3:IntKind.i64.wrap (3*(es.length:Int))=3*(es.length:Int):=IntWalk.i64_in _ (by omega);have g4:IntKind.i64.wrap (3*(es.length:Int)+4)=3*(es.length:Int)+4:=IntWalk.i64_in _ (by omega);have q0:(at_==0)=false:=by simp;omega
    by_cases h7:at_=7
    .subst h7
     obtain⟨hO,hfin⟩:=hg.st.over;obtain rfl:fr=1:=by rcases hg.fr with ⟨_,h⟩|⟨h,_⟩<;>omega
     have hkb:b0+k<=200000:=by omega
     clear hle hk0 r1 r2 r3 r4;refine go ?_;refine cr (afx f E 7 cd rfl) fun _ _=>?_;refine go ?_;refine W.aeo [23,24,25,26,27,28,195,196,197,198,199,200,201,202,203,204,205,206,207,208,209,210,211,212,213,214,215,216,217,218,219,220,221,222,223,224,225,226,227,228,229,230,231,232,233,234,235,236,237,238,239,240] (CmpJ own cd (b0+k) wb z ms' ms.length (KE B wb vr lk fd) (w9 ft (firstM (es.map ME.plain) es.length))) ms.length ⟨0,z,hO,hg.wb,fun _ h=>h,Nat.zero_add _,rfl,fun T w0 w hl=>KN [0,1,2] hl⟩ ?_ (by kernel_rfl);rintro n v M a1 ⟨i,y5,hO1,hwz,hQ,hi,hv,hM5⟩ ha1;refine W.turn ?_ hM5;simp only[adS,List.foldl,sAq,sZq,sSq,hv]at ha1;subst ha1;clear hv hM5;by_cases hil:i<ws.length
     .have e5:decide ((i:Int)<(ws.length:Int))=true:=decide_eq_true (by omega)
      have e6:decide (i<ws.length)=true:=decide_eq_true hil;have j1:(0:Int)<=(i:Int):=by omega
      have j2:(i:Int)<(ws.length:Int):=by omega
      have hims:i<ms'.length:=by have :=hg.len;omega
      have hS:=ahm (x:=y5) (ms:=ms') hO1.inv.sys hO1.fair.good.cont i hims;rw[hwz]at hS;refine W.know (p:=∃bb oo,aa=some ⟨bb,oo,none⟩) (fun T w0 w hl=>by obtain⟨b',o',hb',_⟩:=aG.at (f:=MS.cells) (fun _=>rfl) (hT.wr w (hg.P w (hQ w (hl.still 2 rfl)))) i hil;exact⟨b',o',hb'⟩) ?_;rintro⟨bb,oo,hba⟩;have hl:=fun s:MS=>ms_lds (x:=y5.knows (fun W=>s.In W)) (ws:=ws) (fun W h=>hT.wr W (hg.P W (hQ W h.1))) i hil hba;have hfi:=(hfin i hims).trans (fin_is hT.wp i hil);have hui:∀W,z.P W->ws[i].In W:=fun W h=>hT.wi W (hg.P W h) _ (List.getElem_mem hil);have hF:firstM (es.map ME.plain) es.length (i:Int)=(adj (i:Int) (es.map ME.plain)).map (.int .i64):=by unfold firstM;rw[List.take_of_length_le (by simp)]
      have hj:n-1<n/\i+1+(n-1)=ms.length:=by omega
      obtain⟨u,huE⟩:∃u,ws[i]=u:=⟨_,rfl⟩;rw[huE]at hfi hui;simp only[huE,MS.cells]at hl;clear hi huE;refine go ?_;refine cr hS fun s hs=>?_;have hl1:=hl s;have hp:=hs.trans hfi;have hin:∀W,(y5.knows (fun W=>s.In W)).P W->s.In W/\u.In W:=fun W h=>⟨h.2,hui W (hQ W h.1)⟩;clear hl hS;cases hq:adj (i:Int) (es.map ME.plain)with
      |none=>
       rw[hq]at hF hp;have hSm:RdG prog 15 #[.agg #[s.thread,.slice s.ba s.bases.length s.bc,.slice s.ca s.conds.length s.cc,s.flag,s.parked,s.done,s.branch,s.v.kind,s.v.num,.slice s.v.addr s.v.parts.length s.v.cap,s.partner],.agg #[u.thread,.slice u.ba u.bases.length u.bc,.slice u.ca u.conds.length u.cc,u.flag,u.parked,u.done,u.branch,u.v.kind,u.v.num,.slice u.v.addr u.v.parts.length u.v.cap,u.partner]] [(y5.knows (fun W=>s.In W)).ts] fun e=>∃y:Unit,True/\e= .returned ((fun _=> .bool true) y):=af3 (p:=s) (q:=u) (fun W h=>(hin W h).1) (fun W h=>(hin W h).2) hp;refine go2 fun b24 b26=>?_;refine aeW (z:= .int .i64 0) (v:= .tuple #[(),false]) (hv:=by rw[hF];rfl) ?_;refine go ?_;refine crr hSm fun _ _=>?_;refine go ?_;exact⟨n-1,hj.1,by kernel_rfl,i+1,y5.knows (fun W=>s.In W),hO1.know (fun W h=>h.1),hwz,fun W h=>hQ W h.1,hj.2,abt i (by omega),fun T w0 w hl=>KN [0,1,2] hl⟩
      |some br=>
       rw[hq]at hF hp;cases hd:u.done with
       |false=>
        have hSm:RdG prog 15 #[.agg #[s.thread,.slice s.ba s.bases.length s.bc,.slice s.ca s.conds.length s.cc,s.flag,s.parked,s.done,s.branch,s.v.kind,s.v.num,.slice s.v.addr s.v.parts.length s.v.cap,s.partner],.agg #[u.thread,.slice u.ba u.bases.length u.bc,.slice u.ca u.conds.length u.cc,u.flag,false,true,br,(1:Int),(),True,.int .i64 (-1)]] [(y5.knows (fun W=>s.In W)).ts] fun e=>∃y:Unit,True/\e= .returned ((fun _=> .bool true) y):=af3 (p:=s) (q:=u.afr br) (fun W h=>(hin W h).1) (fun W h=>agN (hin W h).2) (hp.trans (agz hd));rw[hd]at hl1;refine go2 fun b24 b26=>?_;refine aeW (z:= .int .i64 0) (v:= .tuple #[br,true]) (hv:=by rw[hF];rfl) ?_;refine go ?_;refine crr hSm fun _ _=>?_;refine go ?_;exact⟨n-1,hj.1,by kernel_rfl,i+1,y5.knows (fun W=>s.In W),hO1.know (fun W h=>h.1),hwz,fun W h=>hQ W h.1,hj.2,abt i (by omega),fun T w0 w hl=>KN [0,1,2] hl⟩
       |true=>
        have hSm:RdG prog 15 #[.agg #[s.thread,.slice s.ba s.bases.length s.bc,.slice s.ca s.conds.length s.cc,s.flag,s.parked,s.done,s.branch,s.v.kind,s.v.num,.slice s.v.addr s.v.parts.length s.v.cap,s.partner],.agg #[u.thread,.slice u.ba u.bases.length u.bc,.slice u.ca u.conds.length u.cc,u.flag,u.parked,true,u.branch,u.v.kind,u.v.num,.slice u.v.addr u.v.parts.length u.v.cap,u.partner]] [(y5.knows (fun W=>s.In W)).ts] fun e=>∃y:Unit,True/\e= .returned ((fun _=> .bool true) y):=by have h:=af3 (x:=y5.knows (fun W=>s.In W)) (p:=s) (q:=u) (fun W h=>(hin W h).1) (fun W h=>(hin W h).2) (hp.trans (agr hd));simp only[MS.val,hd]at h;exact h
        rw[hd]at hl1;refine go2 fun b24 b26=>?_;refine aeW (z:= .int .i64 0) (v:= .tuple #[br,true]) (hv:=by rw[hF];rfl) ?_;refine go ?_;refine crr hSm fun _ _=>?_;refine go ?_;exact⟨n-1,hj.1,by kernel_rfl,i+1,y5.knows (fun W=>s.In W),hO1.know (fun W h=>h.1),hwz,fun W h=>hQ W h.1,hj.2,abt i (by omega),fun T w0 w hl=>KN [0,1,2] hl⟩
     .have e5:decide ((i:Int)<(ws.length:Int))=false:=decide_eq_false (by omega)
      have e6:decide (i<ws.length)=false:=decide_eq_false hil;have hFd:=af8 hO1 (by omega);rw[hwz]at hFd;clear hi hil;refine go ?_;refine cr hFd fun y1 hy1=>?_;obtain⟨hO2,hw2,hP2⟩:=hy1;have hNx:=agB hO2;rw[hw2]at hNx;refine go ?_;refine cr hNx fun y2 hy2=>?_;obtain⟨hO3,hw3,hP3⟩:=hy2;have hLk:=agP hO3 (by omega);rw[hw3]at hLk;refine go1 fun b31=>?_;refine cr hLk fun y3 hP4=>?_;have hWk:=ahi (x:=y3) hS0 (fun W h=>hT.P W (hg.P W (hQ W (by rw[hP4,hP3,hP2]at h;exact h))));refine go ?_;refine cr (ad9 0) fun _ _=>?_;refine go ?_;refine cr (ad9 0) fun _ _=>?_;refine go ?_;refine cr (ad9 0) fun _ _=>?_;refine go ?_;refine cr hWk fun _ _=>?_;refine go ?_;refine W.abg ?_;exact⟨(),trivial,rfl,rfl⟩
    .have q7:(at_ != 7)=true:=by simpa using h7
     have q8:(at_==7)=false:=by simpa using h7
     have q9:decide (at_=7)=false:=decide_eq_false h7;have hSt:=ae1 hg.st h7 (by omega) f;unfold aeJ at hSt;rw[hg.wb]at hSt;clear hk0 r3 r4;refine go ?_;refine cr (afx f E at_ cd q0) fun _ _=>?_;refine go ?_;refine cr hSt fun s hs=>?_;have ht:=fun fr' h=>(⟨hs.st,by have :=hs.lt;omega,hs.wb.trans hg.wb,fun W h=>hg.P W (hs.P W h),hs.len.trans hg.len,h,⟨hs.st.range.1,hs.st.range.2.1⟩⟩:Going own P wb cd b0 N2 y ms es (k+1) s.m s.x s.ms s.E s.at_ fr');by_cases h2:at_=2
     .have q4:s.k1=4:=hs.fires.2 h2
      have q5:(s.k1==4)=true:=by simpa using q4
      obtain rfl:fr=0:=by rcases hg.fr with ⟨h,_⟩|⟨_,h⟩<;>omega
      have ht1:=ht 1 (.inr ⟨rfl,hs.ex.gt (by omega)⟩);clear ht q4;refine go1 fun b21=>?_;refine cr (ad9 0) fun _ _=>?_;refine go ?_;exact⟨s.m,hs.lt,by kernel_rfl,k+1,s.x,s.ms,s.E,s.at_,1,ht1,abt k (by omega),rfl,fun T w0 w hl=>KN [0,1,2,3] hl⟩
     .have q4:¬s.k1=4:=fun h=>h2 (hs.fires.1 h)
      have q5:(s.k1==4)=false:=by simpa using q4
      have ht1:=ht fr (by
       rcases hg.fr with ⟨h,h3|h3⟩|⟨h,h3⟩
       .exact .inl ⟨h,.inr (hs.ex.n1 h3)⟩
       .exact absurd h3 h2
       .exact .inr ⟨h,hs.ex.gt (by omega)⟩)
      clear ht q4;refine go1 fun b21=>?_;refine cr (ad9 0) fun _ _=>?_;refine go ?_;exact⟨s.m,hs.lt,by kernel_rfl,k+1,s.x,s.ms,s.E,s.at_,fr,ht1,abt k (by omega),rfl,fun T w0 w hl=>KN [0,1,2,3] hl⟩
end Go.Proofs.YtegejdlglonflaaGreatDoor
