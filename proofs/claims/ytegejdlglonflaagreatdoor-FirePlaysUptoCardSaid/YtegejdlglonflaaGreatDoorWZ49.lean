/-
  Texts of FirePlays, laid together by program.
-/
import Derived.Test.YtegejdlglonflaaGreatDoorWZ44
import Derived.Test.YtegejdlglonflaaGreatDoorWZ45
import Derived.Test.YtegejdlglonflaaGreatDoorWZ46
import Derived.Test.YtegejdlglonflaaGreatDoorWZ48
namespace Go.Proofs.YtegejdlglonflaaGreatDoor
open Go.RowKit Go.Shelf Go.Proofs.Tryz
set_option maxRecDepth 100000
set_option maxHeartbeats 8000000
set_option linter.unusedVariables false
set_option linter.unusedSimpArgs false
theorem ag6{x:WS}{t:List ai}{P:World->Prop}(hP:∀W,P W->bJ W)(h:∀W,x.P W->P W):aai prog 7 #[] [x.ts++t] (xq (fun _:Unit=>True) (fun _=> .bool true) fun _=>[[aA P]]):=fun T w hl=>
 aeH hP T w (by simpa using ag7 (r:=t) (by simpa using hl) h)
theorem ahH{sc:aee}{x:WS}{t:ai}(hP:∀W,x.P W->sc.Mem W)(i:Nat)(hi:i<sc.acts.length){bb oo:Nat}(ha:sc.aa=some ⟨bb,oo,none⟩):abd (x.ts++[t]) bb (oo+i*3) 3 [.int .i64 sc.acts[i].w,.int .i64 sc.acts[i].a,.int .i64 sc.acts[i].b]:=⟨rfl,fun T w0 w R hl j v hv=>by
 obtain⟨b',o',hb',_,hc⟩:=aG.at (f:=afU.cells) (fun _=>rfl) (hP w (hl.still 2 rfl)).ra i hi;rw[ha]at hb';injection hb' with hb'
 injection hb' with e1 e2
 subst e1 e2;have hj:j<3:=(List.getElem?_eq_some_iff.1 hv).1;rw[hc j hj];exact hv⟩
abbrev scB(b:Nat)(sc:aee):ai:=box b 25 #[sc.ch,sc.co,.slice sc.sa sc.kE.length sc.sc,.slice sc.aa sc.acts.length sc.ac]
structure ahL(sc:aee)(P:World->Prop)(wb:Nat)(own:Int->pE)(cl:Bool)(cd:Int)(N2:Nat)(i:Nat)(p:S19):Prop where
 scn:Scn own cl cd 0 0 (2*i) p.x p.ms p.r
 wb:p.x.wb=wb
 P:∀W,p.x.P W->P W
 co:p.x.cos.length=N2
def ActJ(sc:aee)(P:World->Prop)(wb:Nat)(own:Int->pE)(cl:Bool)(cd:Int)(N2 b B lk fd t N:Nat)(n:Nat)(v:Nat->Value)(M:LG):Prop:=∃(i:Nat) (p:S19) (fl ff:aex),ahL sc P wb own cl cd N2 i p/\ab5 fl/\ab5 ff/\i+n=N/\v t= .int .i64 (i:Int)/\∀T w0 w,BD T w0 w M.flatten->BD T w0 w ([p.x.ts++[p.r.th p.L],[KE B p.x.wb p.r.v lk fd],[w9 lk fl],[w9 fd ff],[scB b sc]]:LG).flatten
theorem FSt.range{own:Int->pE}{cd b:Nat}{fin:Nat->MPl}{x:WS}{ms:List MS}{e:ME}{n:Nat}{at_:Int}(h:FSt own cd b fin x ms at_ e n):1<=at_/\at_<=7/\(at_=7->n=0)/\(at_≠7->1<=n):=by
 cases h<;>refine⟨by decide,by decide,fun h=>?_,fun h=>?_⟩<;>first |rfl|omega|exact absurd h (by decide)|exact absurd rfl h
theorem agy{T:List Nat}{w0 w:World}{A:List ai}{s l f B:ai}(h:BD T w0 w (A++[s,l,f,B])):BD T w0 w (A++[B,l,f,s]):=
 h.prm (List.Perm.append_left A ((List.perm_append_comm (l₁:=[s]) (l₂:=[l,f,B])).trans ((List.perm_append_comm (l₁:=[l,f]) (l₂:=[B])).append_right [s])))
theorem ahw:ab5 fun _=>none:=fun z=>⟨false,rfl⟩
section
variable {w W:World}
theorem bJ.aeC(h:bJ w)(ho:Gi w W):bJ W:=by
 have hlt:1<w.heap.size:=World.block_lt_of_cell? _ _ h.1;exact⟨(ho.agp hlt).trans h.1,(ho.agp hlt).trans h.2⟩
theorem aee.Mem.aeC{x:aee}(h:x.Mem w)(ho:Gi w W):x.Mem W:=⟨aG.aeC h.rs ho,fun y hy=>⟨aG.aeC (h.rb y hy).1 ho,fun b hb=>MB.Mem.aeC ((h.rb y hy).2 b hb) ho⟩,aG.aeC h.ra ho⟩
end
theorem aiH{T:List Nat}{w0 w:World}{A:List ai}{s t:ai}(h:BD T w0 w (A++[s,t])):BD T w0 w (A++[t,s]):=h.prm (List.Perm.append_left A (List.Perm.swap t s []))
theorem agm{own:Int->pE}{cl:Bool}{cd:Int}{la lf b:Nat}{x:WS}{ms:List MS}{r:RW}(h:Scn own cl cd la lf b x ms r)(hb:4*b+8<1000000)(B lk fd:Nat)(L:PL):aai prog 25 #[B] [x.ts++[r.th L],[KE B x.wb r.v lk fd]] (xq (fun y:WS=>Scn own cl cd la lf b y ms r/\y.wb=x.wb/\∀W,y.P W->x.P W) (fun _=> .bool true) fun y=>[y.ts++[r.th L],[KE B x.wb r.v lk fd]]):=fun T w hl=>by
 have hl1:BD T w w (x.ts++[r.th L,KE B x.wb r.v lk fd]):=by simpa using hl
 have hl2:BD T w w ([r.th L,KE B x.wb r.v lk fd]++x.ts):=hl1.prm List.perm_append_comm;have hln:r.v.ln=r.s.L.length:=by
  obtain⟨a,c,he,_,_⟩:=aK (hl2.O7 0 rfl).log;injection he
 have hl3:BD T w w (x.ts++[KE B x.wb r.v lk fd,r.th L]):=aiH hl1;have hhn:=h.both.fits.h;have hsn:=h.both.fits.n;generalize hth:r.th L=th at hl3|-;clear hth hl hl1 hl2;obtain⟨v,s,BI,cos,sys⟩:=r;obtain⟨ca,cn,cc,most,a2,ln,lc,ha,hn,hc,oa,on,oc,sa,sn,sc⟩:=v;dsimp only at hln hhn hsn;subst hln hhn hsn;exact(ajd h hb B lk fd th T w (by simpa using hl3)).mono fun e w' ⟨Y,_,⟨y,hy,he,hY⟩,hL⟩=>by
  subst hY;have hL2:BD T w w' (y.ts++[KE B x.wb ⟨ca,cn,cc,most,a2,s.L.length,lc,ha,BI.length,hc,oa,on,oc,sa,sys.length,sc⟩ lk fd,th]):=by simpa using hL
  exact⟨[y.ts++[th],[KE B x.wb ⟨ca,cn,cc,most,a2,s.L.length,lc,ha,BI.length,hc,oa,on,oc,sa,sys.length,sc⟩ lk fd]],rfl,⟨y,hy,he,rfl⟩,by simpa using aiH hL2⟩
theorem aiY{x:WS}{t:ai}{a:Option Addr}{l:List Nat}(hP:∀W,x.P W->BytesAt W a l)(i:Nat)(hi:i<l.length){bb oo:Nat}(ha:a=some ⟨bb,oo,none⟩):abv (x.ts++[t]) bb (oo+i) (.int .u8 (l[i]:Int)):=fun T w0 w R hl=>by
 obtain⟨b',o',hb',_,hc⟩:=(hP w (hl.still 2 rfl)).2 i hi;rw[ha]at hb';injection hb' with hb'
 injection hb' with e1 e2
 subst e1 e2;exact hc
section
variable {own:Int->pE} {cd b:Nat} {x:WS} {ms:List MS} {r:RW} {L:PL} {e z:ME} {at_:Int}
theorem aek.did{p:S19}(h:aek own cd b x ms r at_ e z)(hd:afd own true cd (aip at_) (aim at_) (b+2) x ms L p):aek own cd (b+2) p.x p.ms p.r at_ e z:=
 ⟨hd.scn,by rw[hd.len.2.1];exact h.hc,h.rng,h.pl,fun ha=>(h.ok ha).len hd.len.1,h.zero,h.ein.1,fun W hW=>h.ein.2 W (hd.P W hW)⟩
theorem aek.to{y:WS}(h:aek own cd b x ms r at_ e z)(hs:Scn own true cd (aip at_) (aim at_) b y ms r)(hP:∀W,y.P W->x.P W):aek own cd b y ms r at_ e z:=
 ⟨hs,by have h1:=(PD hs.both.rel.o).1;have h2:=(PD h.scn.both.rel.o).1;have :=h.hc;omega,h.rng,h.pl,h.ok,h.zero,h.ein.1,fun W hW=>h.ein.2 W (hP W hW)⟩
theorem aek.know{Q:World->Prop}(h:aek own cd b x ms r at_ e z)(hQ:∀W,Q W->x.P W):aek own cd b {x with P:=Q} ms r at_ e z:=h.to (h.scn.know hQ) hQ
theorem aek.more{k:Nat}(h:aek own cd b x ms r at_ e z)(hk:b<=k):aek own cd k x ms r at_ e z:=⟨h.scn.more hk,h.hc,h.rng,h.pl,h.ok,h.zero,h.ein⟩
theorem fb_new(h:Scn own true cd 0 0 b x ms r)(hc:cd<x.cos.length):aek own cd b x ms r 1 ME.zero ME.zero:=⟨h,hc,by decide,rfl,fun h=>absurd h (by decide),fun _=>⟨rfl,rfl⟩,ahd⟩
end
theorem ah9{x:WS}{t:List ai}{p q:ME}(hp:∀W,x.P W->p.v.In W/\p.v.nodes<=256)(hq:∀W,x.P W->q.v.In W/\q.v.nodes<=256)(h:p.plain=q.plain):RdG prog 24 #[p.val,q.val] [x.ts++t] fun e=>∃y:Unit,True/\e= .returned ((fun _=> .bool true) y):=ado fun T w0 w hl=>by
 have hl':BD T w0 w (x.ts++t):=by simpa using hl
 obtain⟨h1,h2⟩:=hp w (hl'.still 2 rfl);obtain⟨h3,h4⟩:=hq w (hl'.still 2 rfl);exact(gY p q w h1 h3 (by omega) (by omega)).mono fun e w' ⟨c,he,hc,ht⟩=>⟨by rw[he,hc.2 ⟨h2,h4,h⟩],ht⟩
def aiS(w:World)(sc:aee)(ta:Option Addr)(l:List Nat)(W:World):Prop:=Gi w W/\bJ W/\sc.Mem W/\BytesAt W ta l
theorem BytesAt.aeC{w W:World}{a:Option Addr}{z:List Nat}(h:BytesAt w a z)(ho:Gi w W):BytesAt W a z:=⟨h.1,fun i hi=>by
 obtain⟨b,o,ha,hb,hc⟩:=h.2 i hi;exact⟨b,o,ha,ho.lt9 hb,(ho.agp hb).trans hc⟩⟩
theorem aiw(w:World){sc:aee}{ta:Option Addr}{l:List Nat}(hM:sc.Mem w)(hS:bJ w)(hB:BytesAt w ta l):BD (List.range w.heap.size) w w [aA (aiS w sc ta l)]:=
 (BD.old0 w).weaken (Q:=aiS w sc ta l) 0 rfl (fun W ho=>⟨ho,bJ.aeC hS ho,aee.Mem.aeC hM ho,hB.aeC ho⟩)
theorem ah3(x:WS)(t:List ai):aai prog 66 #[x.wb] [x.ts++t] (xq (fun _:Unit=>True) (fun _=> .tuple #[(x.BI.length:Int),(x.cos.length:Int),(x.sys.length:Int)]) fun _=>[x.ts++t]):=
 ags fun T w0 w hl=>BD.yV (r0:=t) (by simpa using hl)
theorem aii{x:WS}{t:List ai}(hs:x.sys.length<=1000000)(c:Int)(h:0<=c/\c<(x.cos.length:Int)):aai prog 11 #[x.wb,c] [x.ts++t,[]] (xq (fun _:Nat=>True) (fun f=> .tuple #[.pointer (some ⟨f,0,none⟩),()]) fun f=>[x.ts++t,[zo f ME.zero 1 c]]):=by
 have hC:=ah3 x t;have d1:decide (c<0)=false:=decide_eq_false (by omega);have d2:decide ((x.cos.length:Int)<=c)=false:=decide_eq_false (by omega);refine aai.go func11 ntmps11 ?_;refine go ?_;refine cr (abQ (ac8 x t hs)) fun _ _=>?_;refine go ?_;refine cr hC fun _ _=>?_;refine go1 fun f=>?_;refine W.turn (M':=[x.ts++t,[zo f ME.zero 1 c]]) ?_ (fun T w0 w hl=>by simp only[List.flatten_cons,List.flatten_nil,nAq,List.append_nil,List.append_assoc]at hl|-;exact hl);refine W.abg ?_;exact⟨f,trivial,rfl,rfl⟩
theorem ahV{x:WS}{t:List ai}(hs:x.sys.length<=1000000)(c:Int)(h:¬(0<=c/\c<(x.cos.length:Int))):aai prog 11 #[x.wb,c] [x.ts++t] (xq (fun _:Unit=>True) (fun _=> .tuple #[.pointer none,(4:Int)]) fun _=>[x.ts++t]):=by
 have hC:=ah3 x t;by_cases h0:c<0
 .have d1:decide (c<0)=true:=decide_eq_true h0
  clear h;refine aai.go func11 ntmps11 ?_;refine go ?_;refine cr (abQ (ac8 x t hs)) fun _ _=>?_;refine go ?_;refine cr hC fun _ _=>?_;refine go ?_;refine W.abg ?_;exact⟨(),trivial,rfl,rfl⟩
 .have d1:decide (c<0)=false:=decide_eq_false h0
  have d2:decide ((x.cos.length:Int)<=c)=true:=decide_eq_true (by omega);clear h;refine aai.go func11 ntmps11 ?_;refine go ?_;refine cr (abQ (ac8 x t hs)) fun _ _=>?_;refine go ?_;refine cr hC fun _ _=>?_;refine go ?_;refine W.abg ?_;exact⟨(),trivial,rfl,rfl⟩
theorem quo2(n:Nat)(h:n<=40):IntKind.i64.wrap ((n:Int) / 2)=((n / 2:Nat):Int):=IntWalk.i64_in _ (by omega)
theorem rem8(n:Nat):(n:Int).tmod 8=((n % 8:Nat):Int):=IntWalk.rem_in _ _ (by omega)
abbrev fiBx(g:Nat)(cd:Int)(at_:Int)(z:ME):ai:=box g 86 #[cd,at_,z.sync,z.thread,z.branch,z.flag,z.v.kind,z.v.num,.slice z.v.addr z.v.parts.length z.v.cap]
structure Played(P:World->Prop)(wb:Nat)(own:Int->pE)(cd b:Nat)(p:S19)(at_:Int)(e z:ME):Prop where
 fb:aek own cd b p.x p.ms p.r at_ e z
 wb:p.x.wb=wb
 P:∀W,p.x.P W->P W
def PlayJ(sc:aee)(P:World->Prop)(wb:Nat)(own:Int->pE)(cd b0 s B lk fd g f N:Nat)(n:Nat)(v:Nat->Value)(M:LG):Prop:=∃(i k:Nat) (p:S19) (fl ff:aex) (at_:Int) (e z:ME),Played P wb own cd (b0+2*i) p at_ e z/\ab5 fl/\ab5 ff/\i+n=N/\k<=sc.acts.length/\v 14= .int .i64 (i:Int)/\v 9= .int .i64 (k:Int)/\∀T w0 w,BD T w0 w M.flatten->BD T w0 w ([p.x.ts++[p.r.th p.L],[KE B wb p.r.v lk fd],[w9 lk fl],[w9 fd ff],[scB s sc],[fiBx g cd at_ z],[zo f e at_ cd]]:LG).flatten
def NoJ(X:LG)(n:Nat)(v:Nat->Value)(M:LG):Prop:=v 14= .int .i64 0/\∀T w0 w,BD T w0 w M.flatten->BD T w0 w X.flatten
set_option maxHeartbeats 16000000 in
theorem ah0{sc:aee}{P:World->Prop}{cond:Int}{ta:Option Addr}{tc:Nat}{l:List Nat}(hS0:∀W,P W->bJ W)(hM:∀W,P W->sc.Mem W)(hB:∀W,P W->BytesAt W ta l)(hbig:∀y∈sc.kE,∀b∈y.bases,b.Big):aai prog 4 #[.agg #[sc.ch,sc.co,.slice sc.sa sc.kE.length sc.sc,.slice sc.aa sc.acts.length sc.ac],cond,.slice ta l.length tc] [[aA P]] (xq (fun _:Unit=>True) (fun _=> .bool true) fun _=>[[aA P]]):=by
 have hFew:=few19 (x:=sc) hM (fun y hy b hb=>(hbig y hy b hb).1);refine aai.go func4 ntmps4 ?_;refine go1 fun b3=>?_;refine cr hFew fun fb hfb=>?_;cases fb
 .clear hfb hFew
  refine go ?_;refine cr (aeH hS0) fun _ _=>?_;refine go ?_;refine W.abg ?_;exact⟨(),trivial,rfl,rfl⟩
 have hf:=hfb rfl;clear hfb hFew;by_cases h0:120<l.length
 .have d0:decide (120<(l.length:Int))=true:=decide_eq_true (by omega)
  have d1:decide (120<l.length)=true:=decide_eq_true h0;refine go ?_;refine cr (aeH hS0) fun _ _=>?_;refine go ?_;refine W.abg ?_;exact⟨(),trivial,rfl,rfl⟩
 have d0:decide (120<(l.length:Int))=false:=decide_eq_false (by omega);have d1:decide (120<l.length)=false:=decide_eq_false h0;have hl120:l.length<=120:=by omega
 obtain⟨N1,hN1⟩:=Int.eq_ofNat_of_zero_le hf.ch.1;obtain⟨N2,hN2⟩:=Int.eq_ofNat_of_zero_le hf.co.1;have hMd:=made19 (sc:=sc) (N1:=N1) (N2:=N2) (P:=P) true cond (by have :=hf.ch;omega) (by have :=hf.co;omega) hf.sy (fun W h=>⟨hS0 W h,hM W h⟩) hbig;rw[<-hN1,<-hN2]at hMd;have hac:=hf.ac;clear hN1 hN2 h0 hf;refine go ?_;refine cr hMd fun p hp=>?_;clear hMd d0 d1;obtain⟨ok,B,lk,fd,own,x,ms,r,L,n3⟩:=p;obtain⟨hmk,hn3⟩:=hp;have hWk:=ag6 (t:=[r.th L]) hS0 hmk.P;cases ok
 .refine go ?_
  refine cr hWk fun _ _=>?_;refine go ?_;refine W.abg ?_;exact⟨(),trivial,rfl,rfl⟩
 clear hWk;obtain⟨H,hH⟩:∃H,sc.acts.length / 2=H:=⟨_,rfl⟩;have hH2:H<=sc.acts.length/\H<=40:=by omega
 have hqu:=quo2 sc.acts.length hac;rw[hH]at hqu;refine go ?_;refine W.aeo [9,42,43,44,45,46,47,48,49,50,51,52,53,54,55,56,57] (ActJ sc P x.wb own true cond N2 b3 B lk fd 9 H) H ⟨0,⟨x,ms,r,L⟩,_,_,⟨hmk.scn,rfl,hmk.P,hmk.l2⟩,ahw,ahw,Nat.zero_add _,rfl,fun T w0 w hl=>by have h:=agy (A:=x.ts++[r.th L]) (s:=scB b3 sc) (l:=w9 lk fun _=>none) (f:=w9 fd fun _=>none) (B:=KE B x.wb r.v lk fd) (by simpa using hl);simpa using h⟩ ?_ (by kernel_rfl);obtain⟨wb,hwb⟩:∃wb,x.wb=wb:=⟨_,rfl⟩;rw[hwb];clear hmk hn3 hwb x ms r L;rintro n v M a1 ⟨i0,⟨x,ms,r,L⟩,fl,ff,hac1,hfl,hff,hi,hv,hM1⟩ ha1;refine W.turn ?_ hM1;simp only[adS,List.foldl,sAq,sZq,sSq,hv]at ha1;subst ha1;clear hv hM1;obtain⟨hsc,rfl,hPx,hco⟩:=hac1;dsimp only at hsc hPx hco;by_cases hil:i0<H
 .have e1:decide ((i0:Int)<(H:Int))=true:=decide_eq_true (by omega)
  have e2:decide (i0<H)=true:=decide_eq_true hil;have hila:i0<sc.acts.length:=by omega
  have hMx:∀W,x.P W->sc.Mem W:=fun W h=>hM W (hPx W h);refine W.know (p:=∃bb oo,sc.aa=some ⟨bb,oo,none⟩) (fun T w0 w hl=>by obtain⟨b',o',hb',_⟩:=aG.at (f:=afU.cells) (fun _=>rfl) (hMx w (hl.still 2 rfl)).ra i0 hila;exact⟨b',o',hb'⟩) ?_;rintro⟨bb,oo,hba⟩;have hl:=ahH (t:=r.th L) hMx i0 hila hba;have j1:(0:Int)<=(i0:Int):=by omega
  have j2:(i0:Int)<(sc.acts.length:Int):=by omega
  have hj:n-1<n/\i0+1+(n-1)=H:=by omega
  have hb:4*(2*i0)+8<1000000:=by omega
  obtain⟨⟨aw,ax,ab⟩,aiJ⟩:∃z,sc.acts[i0]=z:=⟨_,rfl⟩;rw[aiJ]at hl;dsimp only at hl;have hD:aai _ _ _ _ _:=aiu (L:=L) hsc hb B lk fd fl ff hfl hff ax ab aw (.inl rfl);clear hi hac aiJ hila;refine go ?_;refine cr hD fun q hq=>?_;refine go ?_;obtain⟨hq1,hq2,hq3⟩:=hq;exact⟨n-1,hj.1,by kernel_rfl,i0+1,q.1,q.2.1,q.2.2,⟨hq1.scn,hq1.wb,fun W h=>hPx W (hq1.P W h),hq1.len.2.1.trans hco⟩,hq2,hq3,hj.2,abt i0 (by omega),fun T w0 w hl=>KN [0,1,2,3,4] hl⟩
 have e1:decide ((i0:Int)<(H:Int))=false:=decide_eq_false (by omega);have e2:decide (i0<H)=false:=decide_eq_false hil;obtain rfl:i0=H:=by omega
 clear hi hil;have hon:r.v.on=N2:=by have h1:=hsc.both.fits.o;have h2:=(PD hsc.both.rel.o).1;omega
 have hsl:x.sys.length<=1000000:=by have :=hsc.fair.good.l3;omega
 obtain⟨b0,hb0⟩:∃b0,2*i0=b0:=⟨_,rfl⟩;have hb80:b0<=80:=by omega
 rw[hb0]at hsc;by_cases hcn:0<=cond/\cond<(N2:Int)
 .obtain⟨cd,rfl⟩:=Int.eq_ofNat_of_zero_le hcn.1
  have hcd:cd<x.cos.length:=by omega
  have hN:=aii (x:=x) (t:=[r.th L]) hsl (cd:Int) ⟨by omega,by omega⟩;have hNR:=aik r.v (cd:Int) ⟨by omega,by omega⟩;have hF0:=fb_new hsc hcd;clear hsc hco hon hcn hsl;refine go ?_;refine cr hN fun f _=>?_;refine go ?_;refine cr hNR fun _ _=>?_;refine go1 fun g=>?_;refine cr (ad9 0) fun _ _=>?_;refine go ?_;refine W.aeo [9,14,15,16,17,18,19,20,21,22,23,24,87,88,89,90,91,92,93,94,95,96,97,98,99,100,101,102,103,104,105,106,107,108,109,110,111,112,113,114,115,116,117,118,119,120,121,122,123,124,125,126,127,128,129,130,131,132,133,134,135,136,137,138,139,140,141,142,143,144,145,146,147,148,149,150,151,152,153,154,155,156,157,158,159,160,161,162,163,164,165,166,167,168,169,170,171,172,173,174,175,176,177,178,179,180,181,182,183,184,185,186,187,188,189,190,191,192,193,194] (PlayJ sc P x.wb own cd b0 b3 B lk fd g f l.length) l.length ⟨0,i0,⟨x,ms,r,L⟩,fl,ff,1,ME.zero,ME.zero,⟨hF0,rfl,hPx⟩,hfl,hff,Nat.zero_add _,by omega,rfl,rfl,fun T w0 w hl=>KN [0,1,2,3,4,6,5] hl⟩ ?_ (by kernel_rfl);obtain⟨wb,hwb⟩:∃wb,x.wb=wb:=⟨_,rfl⟩;rw[hwb];clear hF0 hN hNR hwb hPx hfl hff hqu hH2 hb0 e1 e2;rintro n v M a1 ⟨i,k,⟨x,ms,r,L⟩,fl,ff,at_,e,z,⟨hfb,hwb,hPx⟩,hfl,hff,hi,hk,hv14,hv9,hM2⟩ ha1;refine W.turn ?_ hM2;simp only[adS,List.foldl,sAq,sZq,sSq,hv14,hv9]at ha1;subst ha1;clear hv14 hv9 hM2;dsimp only at hfb hwb hPx;subst hwb;obtain⟨b1,hb1⟩:∃b1,b0+2*i=b1:=⟨_,rfl⟩;have hb2:Unit->b0+2*(i+1)=b1+2:=fun _=>by omega
  have hbb:4*b1+8<1000000/\4*(b1+2)+8<1000000:=by omega
  obtain⟨hbb,hbb2⟩:=hbb;rw[hb1]at hfb;clear hb1;by_cases hil:i<l.length
  .have e1:decide ((i:Int)<(l.length:Int))=true:=decide_eq_true (by omega)
   have e2:decide (i<l.length)=true:=decide_eq_true hil;have j1:(0:Int)<=(i:Int):=by omega
   have j2:(i:Int)<(l.length:Int):=by omega
   have hj:n-1<n/\i+1+(n-1)=l.length:=by omega
   have hB1:∀W,x.P W->BytesAt W ta l:=fun W h=>hB W (hPx W h);refine W.know (p:=∃bb oo,ta=some ⟨bb,oo,none⟩) (fun T w0 w hl=>by obtain⟨b',o',hb',_⟩:=(hB1 w (hl.still 2 rfl)).2 i hil;exact⟨b',o',hb'⟩) ?_;rintro⟨bb,oo,hba⟩;have hl:=aiY (t:=r.th L) hB1 i hil hba;obtain⟨c,hcE⟩:∃c,l[i]=c:=⟨_,rfl⟩;rw[hcE]at hl;clear hcE hB1 hi;have hi120:i<120:=by omega
   by_cases hc:c=0
   .subst hc
    have hSt:aai _ _ _ _ _:=stepB (L:=L) hfb hbb;refine go ?_;refine W.rgd ?_;repeat (refine' rgk ?_;rotate_left)
    refine rgz 0 ?_ ?_;refine go ?_;refine cr hSt fun p hp=>?_;obtain⟨r2,L2,Q2,at2,z2,k1,k2,k3,k4,er⟩:=p;have hgo:=hp.go f;dsimp only at hgo;have hQ2:=hp.P;refine go3 fun b15 b16 b17=>?_;refine cr hgo fun s hs=>?_;obtain⟨y,ms2,e2'⟩:=s;have hfy:=hs.fb;have hwy:=hs.wb;have hPy:=hs.P;dsimp only at hfy hwy hPy;refine go1 fun b19=>?_;refine W.rgd ?_;repeat (refine' rgk ?_;rotate_left)
    refine rgz 0 ?_ ?_;refine go ?_;have q0:(at2==0)=false:=by have :=hfy.rng;simp;omega
    have hr8:=rem8 i;have hq:=agU k1 k2 k3 k4 k1 k2 k3 k4;simp only[beq_self_eq_true,Bool.and_self,Bool.not_true]at hq;have hH:=aie (t:=[r2.th L2]) (f:=f) (c:=(cd:Int)) hfy.rng.1 (fun W h=>(hfy.ein.2 W h).1) hfy.ein.1.1 (fun h=>(hfy.zero h).1);have hRH:=agj (cd:Int) at2 z2;generalize (at2==4||at2==5)=hb at hH hRH;refine cr hH fun u hu=>?_;refine go1 fun b21=>?_;refine cr hRH fun _ _=>?_;refine go1 fun FN=>?_;have hSm:RdG prog 24 #[.agg #[u.sync,u.thread,u.branch,u.flag,u.v.kind,u.v.num,.slice u.v.addr u.v.parts.length u.v.cap],.agg #[z2.sync,z2.thread,z2.branch,z2.flag,z2.v.kind,z2.v.num,.slice z2.v.addr z2.v.parts.length z2.v.cap]] [(y.knows fun W=>∀y∈[u.v],y.In W).ts++[r2.th L2]] fun e=>∃y:Unit,True/\e= .returned ((fun _=> .bool true) y):=by
     exact ah9 (p:=u) (q:=z2) (fun W h=>⟨h.2 _ (List.mem_singleton.2 rfl),by rw[cu hu];exact hfy.ein.1.1⟩) (fun W h=>⟨(hfy.ein.2 W h.1).2,hfy.ein.1.2⟩) (hu.trans hfy.pl)
    have hfk:aek own cd (b1+2) (y.knows fun W=>∀y∈[u.v],y.In W) ms2 r2 at2 e2' z2:=hfy.know (fun W h=>h.1);have hPk:∀W,(y.knows fun W=>∀y∈[u.v],y.In W).P W->P W:=fun W h=>hPx W (hPy W h.1);have hwk:(y.knows fun W=>∀y∈[u.v],y.In W).wb=x.wb:=hwy;by_cases h8:i % 8=7
    .rw[h8]at hr8
     have hAl:=agm (L:=L2) hfk.scn hbb2 B lk fd;rw[hwk]at hAl;refine W.rgd ?_;repeat (refine' rgk ?_;rotate_left)
     refine rgz 0 ?_ ?_;refine go ?_;refine cr (ad9 er) fun _ _=>?_;refine go ?_;refine cr (afx f e2' at2 cd q0) fun _ _=>?_;refine go ?_;refine cr (agq f e2' at2 cd q0) fun _ _=>?_;refine go ?_;refine crr hSm fun _ _=>?_;refine go ?_;refine cr hAl fun y3 hy3=>?_;refine go ?_;exact⟨n-1,hj.1,by kernel_rfl,i+1,k,⟨y3,ms2,r2,L2⟩,fl,ff,at2,e2',z2,⟨by rw[hb2 ()];exact hfk.to hy3.1 hy3.2.2,hy3.2.1,fun W h=>hPk W (hy3.2.2 W h)⟩,hfl,hff,hj.2,hk,abt i (by omega),by kernel_rfl,fun T w0 w hl=>KN [0,1,2,3,4,5,6] hl⟩
     all_goals kernel_rfl
    .obtain⟨i8,hi8⟩:∃i8,i % 8=i8:=⟨_,rfl⟩
     rw[hi8]at hr8 h8;have r1:((i8:Int)==7)=false:=by simp;omega
     have r2':decide ((i8:Int)=7)=false:=decide_eq_false (by omega);have r3:(i8==7)=false:=by simpa using h8
     have r4:decide (i8=7)=false:=decide_eq_false h8;clear hi8 h8;refine W.rgd ?_;repeat (refine' rgk ?_;rotate_left)
     refine rgz 0 ?_ ?_;refine go ?_;refine cr (ad9 er) fun _ _=>?_;refine go ?_;refine cr (afx f e2' at2 cd q0) fun _ _=>?_;refine go ?_;refine cr (agq f e2' at2 cd q0) fun _ _=>?_;refine go ?_;refine crr hSm fun _ _=>?_;refine go ?_;exact⟨n-1,hj.1,by kernel_rfl,i+1,k,⟨(y.knows fun W=>∀y∈[u.v],y.In W),ms2,r2,L2⟩,fl,ff,at2,e2',z2,⟨by rw[hb2 ()];exact hfk,hwk,hPk⟩,hfl,hff,hj.2,hk,abt i (by omega),by kernel_rfl,fun T w0 w hl=>KN [0,1,2,3,4,5,6] hl⟩
     all_goals kernel_rfl
    all_goals kernel_rfl
   .have q1:((c:Int) != 0)=true:=by simpa using hc
    have q2:((c:Int)==0)=false:=by simpa using hc
    have q3:decide ((c:Int)=0)=false:=decide_eq_false (by omega);have q4:(c != 0)=true:=by simpa using hc
    have q5:(c==0)=false:=by simpa using hc
    have q6:decide (c=0)=false:=decide_eq_false hc;by_cases hka:k<sc.acts.length
    .have e3:decide ((k:Int)<(sc.acts.length:Int))=true:=decide_eq_true (by omega)
     have e4:decide (k<sc.acts.length)=true:=decide_eq_true hka;have k1:(0:Int)<=(k:Int):=by omega
     have k2:(k:Int)<(sc.acts.length:Int):=by omega
     have hMx:∀W,x.P W->sc.Mem W:=fun W h=>hM W (hPx W h);refine W.know (p:=∃bb oo,sc.aa=some ⟨bb,oo,none⟩) (fun T w0 w hl=>by obtain⟨b',o',hb',_⟩:=aG.at (f:=afU.cells) (fun _=>rfl) (hMx w (hl.still 2 rfl)).ra k hka;exact⟨b',o',hb'⟩) ?_;rintro⟨bb2,oo2,hba2⟩;have hl2:=ahH (t:=r.th L) hMx k hka hba2;obtain⟨⟨aw,ax,ab⟩,aiJ⟩:∃z,sc.acts[k]=z:=⟨_,rfl⟩;rw[aiJ]at hl2;dsimp only at hl2;have hD:aai _ _ _ _ _:=aiu (L:=L) hfb.scn hbb B lk fd fl ff hfl hff ax ab aw (.inl rfl);have hk1:k<1000000/\k+1<=sc.acts.length:=by omega
     clear aiJ hka;refine go ?_;refine cr hD fun q hq=>?_;refine go ?_;obtain⟨hq1,hq2,hq3⟩:=hq;exact⟨n-1,hj.1,by kernel_rfl,i+1,k+1,q.1,q.2.1,q.2.2,at_,e,z,⟨by rw[hb2 ()];exact hfb.did hq1,hq1.wb,fun W h=>hPx W (hq1.P W h)⟩,hq2,hq3,hj.2,hk1.2,abt i (by omega),abt k hk1.1,fun T w0 w hl=>by rw[<-hq1.wb];exact KN [0,1,2,3,4,5,6] hl⟩
    .have e3:decide ((k:Int)<(sc.acts.length:Int))=false:=decide_eq_false (by omega)
     have e4:decide (k<sc.acts.length)=false:=decide_eq_false hka;refine go ?_;exact⟨n-1,hj.1,by kernel_rfl,i+1,k,⟨x,ms,r,L⟩,fl,ff,at_,e,z,⟨by rw[hb2 ()];exact hfb.more (by omega),rfl,hPx⟩,hfl,hff,hj.2,hk,abt i (by omega),rfl,fun T w0 w hl=>KN [0,1,2,3,4,5,6] hl⟩
  .have e1:decide ((i:Int)<(l.length:Int))=false:=decide_eq_false (by omega)
   have e2:decide (i<l.length)=false:=decide_eq_false hil;have hAl:=agm (L:=L) hfb.scn hbb B lk fd;refine go ?_;refine cr hAl fun y hy=>?_;have hWk:=ag6 (x:=y) (t:=[r.th L]) hS0 (fun W h=>hPx W (hy.2.2 W h));refine go ?_;refine cr hWk fun _ _=>?_;refine go ?_;refine W.abg ?_;exact⟨(),trivial,rfl,rfl⟩
 .have hN:=ahV (x:=x) (t:=[r.th L]) hsl cond (by rw[hco];exact hcn)
  have hNR:=ahW r.v cond (by rw[hon];exact hcn);have hbb:4*b0+8<1000000:=by omega
  clear hH2 hcn hco hon hsl hb0;refine go ?_;refine cr hN fun _ _=>?_;refine go ?_;refine cr hNR fun _ _=>?_;refine go1 fun g=>?_;refine cr (ad9 4) fun _ _=>?_;refine go ?_;refine W.aeo [14,87,88,89,90,91,92,93,94,95,96] (NoJ [x.ts++[r.th L],[KE B x.wb r.v lk fd]]) 0 ⟨rfl,fun T w0 w hl=>KN [0,1] hl⟩ ?_ (by kernel_rfl);rintro n v M a1 ⟨hv,hM3⟩ ha1;refine W.turn ?_ hM3;simp only[adS,List.foldl,sAq,sZq,sSq,hv]at ha1;subst ha1;clear hv hM3;have hAl:=agm (L:=L) hsc hbb B lk fd;by_cases hl0:0<l.length
  .have z1:decide ((0:Int)<(l.length:Int))=true:=decide_eq_true (by omega)
   have z2:decide (0<l.length)=true:=decide_eq_true hl0;refine go ?_;refine cr hAl fun y hy=>?_;have hWk:=ag6 (x:=y) (t:=[r.th L]) hS0 (fun W h=>hPx W (hy.2.2 W h));refine go ?_;refine cr hWk fun _ _=>?_;refine go ?_;refine W.abg ?_;exact⟨(),trivial,rfl,rfl⟩
  .have z1:decide ((0:Int)<(l.length:Int))=false:=decide_eq_false (by omega)
   have z2:decide (0<l.length)=false:=decide_eq_false hl0;refine go ?_;refine cr hAl fun y hy=>?_;have hWk:=ag6 (x:=y) (t:=[r.th L]) hS0 (fun W h=>hPx W (hy.2.2 W h));refine go ?_;refine cr hWk fun _ _=>?_;refine go ?_;refine W.abg ?_;exact⟨(),trivial,rfl,rfl⟩
theorem ahM(w:World)(sc:aee)(cond:Int)(ta:Option Addr)(tc:Nat)(l:List Nat)(hM:sc.Mem w)(hbig:∀y∈sc.kE,∀b∈y.bases,b.Big)(hB:BytesAt w ta l)(hS:bJ w):Calls prog 4 #[.agg #[sc.ch,sc.co,.slice sc.sa sc.kE.length sc.sc,.slice sc.aa sc.acts.length sc.ac],cond,.slice ta l.length tc] w fun e w'=>e= .returned (.bool true)/\Below w.heap.size w w':=
 (ah0 (P:=aiS w sc ta l) (fun W h=>h.2.1) (fun W h=>h.2.2.1) (fun W h=>h.2.2.2) hbig (List.range w.heap.size) w (by simpa using aiw w hM hS hB)).mono fun e w' hh=>by
  obtain⟨Y,_,⟨_,_,he,hYe⟩,hL⟩:=hh;subst hYe;have hL':BD (List.range w.heap.size) w w' [aA (aiS w sc ta l)]:=by simpa using hL
  exact⟨he,(hL'.lg (hL'.still 0 rfl).1).below⟩
end Go.Proofs.YtegejdlglonflaaGreatDoor
