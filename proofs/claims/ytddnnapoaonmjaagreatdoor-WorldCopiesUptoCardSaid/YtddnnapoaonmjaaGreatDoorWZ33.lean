/-
  Texts of WorldCopies, laid together by program.
-/
import Derived.Test.YtddnnapoaonmjaaGreatDoorWZ32
namespace Go.Proofs.YtddnnapoaonmjaaGreatDoor
open Go.RowKit Go.Shelf Go.Proofs.Tryz
set_option maxRecDepth 100000
set_option maxHeartbeats 8000000
set_option linter.unusedVariables false
set_option linter.unusedSimpArgs false
theorem YB{L:PL}(T:List Nat)(w:World)(v:RV)(s:Ar)(P:World->Prop)(cs:List Value)(h:BD T w w [Pt L (.slice v.ca v.cn v.cc) (.slice v.la v.ln v.lc) s,aA P])(hm:v.most=(s.most:Int))(hP:∀W,P W->aG W v.oa 2 v.on cs)(hcl:cs.length=v.on*2)(hone:∀u∈cs,u.oneCell'=true)(hnn:v.on<=100000)(hok:s.C.length+2<=s.most):
  Calls prog 150 #[v.val] w fun e w'=>∃(v':RV) (L':PL),(∀x∈L,x∈L')/\e= .returned (.tuple #[v'.val,(v.on:Int),()])/\gJ 1 v v'/\BD T w w' [Pt L' (.slice v'.ca v'.cn v'.cc) (.slice v'.la v'.ln v'.lc) (s.au 2).1,aA fun W=>P W/\aG W v'.oa 2 (v.on+1) (cs++[.int .i64 (s.C.length:Int),.slice none 0 0])]:=by
 obtain⟨hcn,hln⟩:=Qp h;have hI:adJ prog 35 284 2 32:=adz Kr;have hsrc:ac6 [aA P] v.oa v.on cs:=acP fun W hW=>(hP W hW).iI hcl (by decide);have hA:(s.au 2).2=(s.C.length,0):=acN (k:=2) (by decide) hok;have hwr:IntKind.i64.wrap (v.on:Int)=(v.on:Int):=IntWalk.i64_in _ (by omega);have hN:=aaD (L:=L) (vc:= .slice v.ca v.cn v.cc) (vl:= .slice v.la v.ln v.lc) fun T w h=>ZR T w _ _ s h hok;have hg:aai prog 150 #[v.val] [[Pt L (.slice v.ca v.cn v.cc) (.slice v.la v.ln v.lc) s],[aA P]] (xq (fun x:RV×PL=>(∀y∈L,y∈x.2)/\gJ 1 v x.1) (fun x=> .tuple #[x.1.val,(v.on:Int),()]) fun x=>[[Pt x.2 (.slice x.1.ca x.1.cn x.1.cc) (.slice x.1.la x.1.ln x.1.lc) (s.au 2).1],[aA fun W=>P W/\aG W x.1.oa 2 (v.on+1) (cs++[.int .i64 (s.C.length:Int),.slice none 0 0])]]):=by
  simp only[bI,hA]at hN;obtain⟨ca,cn,cc,most,la,ln,lc,ha,hn,hc,oa,on,oc,sa,sn,sc⟩:=v;dsimp only[RV.val]at *;subst hm hcn hln;have hn1:on+1<=4000000:=by omega
  have hn0:on<=4000000:=by omega
  have hn2:on+1<=2000000:=by omega
  refine aai.go func150 ntmps150 ?_;refine go2 fun _ _=>?_;refine cr hN fun⟨a1,a2,a3,a4,L'⟩ Qy=>?_;refine go2 fun _ _=>?_;refine W.rgd ?_;repeat (refine' rgk ?_;rotate_left)
  refine rgz 0 ?_ ?_;refine go ?_;refine mbq (hal:=by intro w;go_simp;exact⟨rfl,rfl⟩) fun _=>?_;refine go ?_;refine apq hI hcl hone hn0 (by decide) (hnm:=by simp) (hs:=by(repeat (first |exact acv.here hsrc|apply acv.there));done) fun b1 k1=>?_;refine go ?_;refine mbq (hal:=by intro w;go_simp;exact⟨rfl,rfl⟩) fun _=>?_;refine apq (news:=[.int .i64 (s.C.length:Int),.slice none 0 0]) (m:=1) hI rfl (by simp[Value.oneCell']) hn1 (by decide) (hnm:=rfl) fun b2 k2=>?_;refine go ?_;refine W.rgd ?_;repeat (refine' rgk ?_;rotate_left)
  refine rgz 0 ?_ ?_;refine go ?_;refine W.ady [[Pt L' (.slice a1 (s.au 2).1.C.length a2) (.slice a3 (s.au 2).1.L.length a4) (s.au 2).1],[aA fun W=>P W/\aG W b2 2 (on+1) (cs++[.int .i64 (s.C.length:Int),.slice none 0 0])]] (fun T w0 w hl=>(hl.sel [0,1,6] (l':=[Pt L' (.slice a1 (s.au 2).1.C.length a2) (.slice a3 (s.au 2).1.L.length a4) (s.au 2).1,aA P,aS 284 2 (.slice b2 (on+1) k2) (on+1) (cs++[.int .i64 (s.C.length:Int),.slice none 0 0])]) rfl (by decide)).settle (l:=[_,_]) 1 rfl fun W f Yl hf=>⟨Yl,mg hf.2 rfl (by decide) hn2⟩) ?_;exact⟨(⟨a1,_,a2,_,a3,_,a4,_,_,_,b2,_,k2,_,_,_⟩,L'),⟨Qy,by simp[gJ]⟩,rfl,rfl⟩
  all_goals kernel_rfl
 exact(hg T w h).mono fun e w' ⟨Y,_,⟨x,⟨h1,h2⟩,he,hY⟩,hl⟩=>⟨x.1,x.2,h1,he,h2,by rw[hY]at hl;exact hl⟩
theorem Xx{L:PL}(T:List Nat)(w:World)(v:RV)(s:Ar)(P:World->Prop)(cs:List Value)(th:Int)(ba:Option Addr)(bases:List MB)(bc:Nat)(ca:Option Addr)(conds:List Int)(cc:Nat)(h:BD T w w [Pt L (.slice v.ca v.cn v.cc) (.slice v.la v.ln v.lc) s,aA P])(hm:v.most=(s.most:Int))(hP:∀W,P W->aG W v.sa 11 v.sn cs)(hcl:cs.length=v.sn*11)(hone:∀u∈cs,u.oneCell'=true)(hnn:v.sn<=100000)(hok:s.C.length+1<=s.most)(hA0:∀W,P W->iJ W ba bases ca conds)(hbig:∀b∈bases,b.Big)(hright:nM v.hn v.on th bases conds):
  Calls prog 151 #[v.val,th,.slice ba bases.length bc,.slice ca conds.length cc] w fun e w'=>∃(v':RV) (L':PL),(∀x∈L,x∈L')/\e= .returned (.tuple #[v'.val,(v.sn:Int),()])/\gJ 2 v v'/\BD T w w' [Pt L' (.slice v'.ca v'.cn v'.cc) (.slice v'.la v'.ln v'.lc) (s.au 1).1,aA fun W=>P W/\aG W v'.sa 11 (v.sn+1) (cs++[.int .i64 th,.slice ba bases.length bc,.slice ca conds.length cc,.int .i64 (s.C.length:Int),.bool false,.bool false,.int .i64 0,.int .i64 0,.int .i64 0,.slice none 0 0,.int .i64 0])]:=by
 obtain⟨hcn,hln⟩:=Qp h;have hI:adJ prog 36 61 11 128:=adz mE;have hsrc:ac6 [aA P] v.sa v.sn cs:=acP fun W hW=>(hP W hW).iI hcl (by decide);have hA:(s.au 1).2=(s.C.length,0):=acN (k:=1) (by decide) hok;have hwr:IntKind.i64.wrap (v.sn:Int)=(v.sn:Int):=IntWalk.i64_in _ (by omega);have hbs:∀W,(Instr.build 61 #[(0,.int .i64 th),(1,.slice ba bases.length bc),(2,.slice ca conds.length cc),(3,.int .i64 (s.C.length:Int))]).run prog W= .ok (.agg #[th,.slice ba bases.length bc,.slice ca conds.length cc,(s.C.length:Int),false,false,(),(),(),True,()]) W:=fun W=>run_build W 61 _ _ (by kernel_rfl);have hC:aai prog 226 #[v.val,th,.slice ba bases.length bc,.slice ca conds.length cc] [[aA P]] (xq (fun _:Unit=>True) (fun _=> .bool true) fun _=>[[aA P]]):=aa1 (R:=fun e=>e= .returned (.bool true)) (fun W hW=>(zD v W th ba bases bc ca conds cc (hA0 W hW) hbig).mono fun e w' ⟨c,he,hc,ht⟩=>⟨by rw[he,hc.2 hright],ht⟩) fun e he=>⟨(),trivial,he⟩;have hN:=aaD (L:=L) (vc:= .slice v.ca v.cn v.cc) (vl:= .slice v.la v.ln v.lc) fun T w h=>(ZW T w _ _ s h);have hg:aai prog 151 #[v.val,th,.slice ba bases.length bc,.slice ca conds.length cc] [[Pt L (.slice v.ca v.cn v.cc) (.slice v.la v.ln v.lc) s],[aA P]] (xq (fun x:RV×PL=>(∀y∈L,y∈x.2)/\gJ 2 v x.1) (fun x=> .tuple #[x.1.val,(v.sn:Int),()]) fun x=>[[Pt x.2 (.slice x.1.ca x.1.cn x.1.cc) (.slice x.1.la x.1.ln x.1.lc) (s.au 1).1],[aA fun W=>P W/\aG W x.1.sa 11 (v.sn+1) (cs++[.int .i64 th,.slice ba bases.length bc,.slice ca conds.length cc,.int .i64 (s.C.length:Int),.bool false,.bool false,.int .i64 0,.int .i64 0,.int .i64 0,.slice none 0 0,.int .i64 0])]]):=by
  simp only[bI,hA]at hN;obtain⟨vca,cn,vcc,most,la,ln,lc,ha,hn,hc,oa,on,oc,sa,sn,sc⟩:=v;dsimp only[RV.val]at *;subst hm hcn hln;have hn1:sn+1<=4000000:=by omega
  have hn0:sn<=4000000:=by omega
  have hn2:sn+1<=2000000:=by omega
  refine aai.go func151 ntmps151 ?_;refine go2 fun _ _=>?_;refine cr hC fun _ _=>?_;refine go ?_;refine cr hN fun⟨a1,a2,a3,a4,L'⟩ Qy=>?_;refine go1 fun _=>?_;refine W.rgd ?_;repeat (refine' rgk ?_;rotate_left)
  refine rgz 0 ?_ ?_;refine go ?_;refine mbq (hal:=by intro w;go_simp;exact⟨rfl,rfl⟩) fun _=>?_;refine go ?_;refine apq hI hcl hone hn0 (by decide) (hnm:=by simp) (hs:=by(repeat (first |exact acv.here hsrc|apply acv.there));done) fun b1 k1=>?_;refine go ?_;refine mbq (hal:=by intro w;go_simp;exact⟨rfl,rfl⟩) fun _=>?_;refine apq (news:=[.int .i64 th,.slice ba bases.length bc,.slice ca conds.length cc,.int .i64 (s.C.length:Int),.bool false,.bool false,.int .i64 0,.int .i64 0,.int .i64 0,.slice none 0 0,.int .i64 0]) (m:=1) hI rfl (by simp[Value.oneCell']) hn1 (by decide) (hnm:=rfl) fun b2 k2=>?_;refine go ?_;refine W.rgd ?_;repeat (refine' rgk ?_;rotate_left)
  refine rgz 0 ?_ ?_;refine go ?_;refine W.ady [[Pt L' (.slice a1 (s.au 1).1.C.length a2) (.slice a3 (s.au 1).1.L.length a4) (s.au 1).1],[aA fun W=>P W/\aG W b2 11 (sn+1) (cs++[.int .i64 th,.slice ba bases.length bc,.slice ca conds.length cc,.int .i64 (s.C.length:Int),.bool false,.bool false,.int .i64 0,.int .i64 0,.int .i64 0,.slice none 0 0,.int .i64 0])]] (fun T w0 w hl=>(hl.sel [0,1,5] (l':=[Pt L' (.slice a1 (s.au 1).1.C.length a2) (.slice a3 (s.au 1).1.L.length a4) (s.au 1).1,aA P,aS 61 11 (.slice b2 (sn+1) k2) (sn+1) (cs++[.int .i64 th,.slice ba bases.length bc,.slice ca conds.length cc,.int .i64 (s.C.length:Int),.bool false,.bool false,.int .i64 0,.int .i64 0,.int .i64 0,.slice none 0 0,.int .i64 0])]) rfl (by decide)).settle (l:=[_,_]) 1 rfl fun W f Yl hf=>⟨Yl,mg hf.2 rfl (by decide) hn2⟩) ?_;exact⟨(⟨a1,_,a2,_,a3,_,a4,_,_,_,_,_,_,b2,_,k2⟩,L'),⟨Qy,by simp[gJ]⟩,rfl,rfl⟩
  all_goals kernel_rfl
 exact(hg T w h).mono fun e w' ⟨Y,_,⟨x,⟨h1,h2⟩,he,hY⟩,hl⟩=>⟨x.1,x.2,h1,he,h2,by rw[hY]at hl;exact hl⟩
theorem UW{a:BO}{x:WS}{ms:List MS}(h:x.Fair ms)(s':MS)(aa:Option Addr)(c:Nat)(h1:x.s.C.length+1<=x.s.most):bq a x ms ((WS.knows {x with s:=(x.s.au 1).1} (fun W=>s'.In W)).uY s'.raw aa c) (ms++[s']):=by
 have hA:=jO x.s 1 h1;have YM:=h.Hr;have Fj:=h.most;have hsl:x.sys.length=ms.length:=by rw[h.good.sys];simp
 refine⟨⟨⟨fun W hW=>h.good.sides W hW.1,fun W hW=>h.good.vals W hW.1,?_,fun W hW m hm=>?_,h.good.q1,h.good.q2,h.good.l1,h.good.l2,?_⟩,?_,?_,?_⟩,?_,.inl ?_,fun k hk=>⟨by simp;omega,.inl ?_⟩,fun _ h=>h.1⟩
 .show x.sys++[s'.raw]=(ms++[s']).map MS.raw
  rw[List.map_append,h.good.sys];rfl
 .rcases List.mem_append.1 hm with hm|hm
  .exact h.good.cont W hW.1 m hm
  .obtain rfl:=List.mem_singleton.1 hm
   exact hW.2
 .show(x.sys++[s'.raw]).length<=_
  simp only[List.length_append,List.length_singleton];omega
 .show(x.s.au ((1:Nat):Int)).1.C.length=x.BI.length+2*x.cos.length+(x.sys++[s'.raw]).length
  rw[hA];simp;omega
 .show(x.s.au ((1:Nat):Int)).1.C.length<=(x.s.au ((1:Nat):Int)).1.most
  rw[hA];simpa using h1
 .show(x.s.au ((1:Nat):Int)).1.most<=_
  rw[hA];exact Fj
 .show(x.s.au ((1:Nat):Int)).1.most=_
  rw[hA]
 .show(x.s.au ((1:Nat):Int)).1.L.length=_
  rw[hA]
 .rw[List.getElem_append_left hk]
theorem made0{v v':RV}(h:gJ 0 v v'):v'.most=v.most/\v'.hn=v.hn+1/\v'.oa=v.oa/\v'.on=v.on/\v'.sa=v.sa/\v'.sn=v.sn:=by
 simp[gJ]at h
 exact⟨h.1,h.2.1,h.2.2.1.1,h.2.2.1.2.1,h.2.2.2.1,h.2.2.2.2.1⟩
theorem made1{v v':RV}(h:gJ 1 v v'):v'.most=v.most/\v'.on=v.on+1/\v'.ha=v.ha/\v'.hn=v.hn/\v'.sa=v.sa/\v'.sn=v.sn:=by
 simp[gJ]at h
 exact⟨h.1,h.2.2.1,h.2.1.1,h.2.1.2.1,h.2.2.2.1,h.2.2.2.2.1⟩
theorem made2{v v':RV}(h:gJ 2 v v'):v'.most=v.most/\v'.sn=v.sn+1/\v'.ha=v.ha/\v'.hn=v.hn/\v'.oa=v.oa/\v'.on=v.on:=by
 simp[gJ]at h
 exact⟨h.1,h.2.2.2,h.2.1.1,h.2.1.2.1,h.2.2.1.1,h.2.2.1.2.1⟩
def Rb.new(c:Nat):Rb:=⟨c,none,0,[],none,0,[]⟩
def RH.new(c:Nat):RH:=⟨c,none,0,[]⟩
def Ym(r:RW)(v err:Int)(r':RW)(P Q:World->Prop):Prop:=(r.s.C.length+1<=r.s.most/\v=(r.BI.length:Int)/\err=0/\∃v':RV,gJ 0 r.v v'/\r'={r with v:=v',s:=(r.s.au 1).1,BI:=r.BI++[Rb.new r.s.C.length]}/\∀W,Q W->P W/\aG W v'.ha 3 (r.v.hn+1) ((r.BI++[Rb.new r.s.C.length]).flatMap Rb.cells))\/(¬r.s.C.length+1<=r.s.most/\v=0/\err=6/\r'=r/\Q=P)
theorem Xb{x:WS}{ms:List MS}{r:RW}{L:PL}(h:Both x ms r)(hfa:x.Fair ms):Does 149 #[r.v.val] (x.ts++[r.th L]) (RI x L fun en r' Q=>∃v err,en= .returned (.tuple #[r'.v.val,.int .i64 v,.int .i64 err])/\Ym r v err r' x.P Q):=by
 have hl:=(PD h.rel.h).1;by_cases hs:r.s.C.length+1<=r.s.most
 .refine RS _ fun T w hL=>?_
  refine(Yt T w r.v r.s x.P (r.BI.flatMap Rb.cells) hL h.fits.m (fun W hW=>(h.on W hW).h) h.fits.hc (Sj _ V3 _) (by rw[h.fits.h,<-hl];exact hfa.good.l1) hs).mono ?_;rintro e w' ⟨v',L',Qy,rfl,hmm,hL'⟩;exact⟨{r with v:=v',s:=(r.s.au 1).1,BI:=r.BI++[Rb.new r.s.C.length]},L',(fun W=>x.P W/\aG W v'.ha 3 (r.v.hn+1) (r.BI.flatMap Rb.cells++[Value.int .i64 (r.s.C.length:Int),Value.slice none 0 0,Value.slice none 0 0])),Qy,⟨_,0,rfl,.inl ⟨hs,by rw[h.fits.h],rfl,v',hmm,rfl,fun W hW=>⟨hW.1,by rw[List.flatMap_append];exact hW.2⟩⟩⟩,fun W hW=>hW.1,hL'⟩
 .refine TV fun _=>fun T w hL=>?_
  have hen:=Qp (v:=r.v) (L:=L) (s:=r.s) (r:=[]) ((hL.sel [(x.ts).length] (by simp[RW.th]) (by simp)));have hm:=h.fits.m;have hms:=hfa.most;rw[h.rel.s]at hms;exact Qa (R:=fun en r' Q=>∃v err,en= .returned (.tuple #[r'.v.val,.int .i64 v,.int .i64 err])/\Ym r v err r' x.P Q) (fun w=>Wx r.v w (by omega) (by have :=hfa.fits;rw[h.rel.s]at this;omega) (by omega)) ⟨0,6,rfl,.inr ⟨hs,rfl,rfl,rfl,rfl⟩⟩ T w hL
theorem TU{α:Type}{l:List α}{x:α}{P:α->Prop}(h1:∀y∈l,P y)(h2:P x):∀y∈l++[x],P y:=fun y hy=>(List.mem_append.1 hy).elim (h1 y) (fun h=>List.mem_singleton.1 h▸h2)
theorem TG(W:World):T9 W none 0 []:=⟨by simp,fun i hi=>absurd hi (by simp),fun e he=>absurd he (by simp)⟩
theorem Wu{x x':WS}{ms:List MS}{r r':RW}{Q:World->Prop}{v er v2 err:Int}(h:Both x ms r)(hfa:x.Fair ms)(hQ:∀W,Q W->x.P W)(hr:Ym r v2 err r' x.P Q)(hx:jG {x with P:=Q} v er x'):v=v2/\er=err/\Both x' ms r':=by
 have hl:=(PD h.rel.h).1;have hs:({x with P:=Q}:WS).s=r.s:=h.rel.s;have Fj:=hfa.most;rw[h.rel.s]at Fj;rcases hx with ⟨h1,rfl,rfl,c,M,q1,q2,a,cap,rfl⟩|⟨h1,rfl,rfl,rfl⟩<;>rw[hs]at h1
 .rcases hr with ⟨_,rfl,rfl,v',hm,rfl,hon⟩|⟨h9,_⟩
  .have hA:=jO r.s 1 h1
   have hA1:(r.s.au 1).1={r.s with C:=r.s.C++List.replicate 1 0}:=hA;obtain⟨m1,m2,m3,m4,m5,m6⟩:=made0 hm;refine⟨by show(x.BI.length:Int)=_;omega,rfl,⟨by show(x.s.au 1).1=(r.s.au 1).1;rw[h.rel.s],?_,h.rel.o,h.rel.n⟩,⟨?_,?_,?_,?_⟩,fun W hW=>?_,fun d hd=>?_,?_,h.fl⟩
   .show(x.BI++[_]).map Ce.pl=(r.BI++[_]).map Rb.pl
    rw[List.map_append,List.map_append,h.rel.h];rw[h.rel.s];rfl
   .show v'.most=((r.s.au 1).1.most:Int)
    rw[m1,hA1];exact h.fits.m
   .show v'.hn=(r.BI++[_]).length
    rw[List.length_append,List.length_singleton,m2,h.fits.h]
   .show v'.on=_
    rw[m4];exact h.fits.o
   .show v'.sn=_
    rw[m6];exact h.fits.n
   .have hO:=h.on W (hon W hW).1
    exact⟨by show aG W v'.ha 3 v'.hn _;rw[m2];exact(hon W hW).2,by show aG W v'.oa 2 v'.on _;rw[m3,m4];exact hO.o,by show aG W v'.sa 11 v'.sn _;rw[m5,m6];exact hO.n,TU hO.ch ⟨TG W,TG W⟩,hO.co,hO.sy⟩
   .show d.cell+1<(r.s.au 1).1.C.length
    rw[hA1];have :=h.cc d hd;simp only[List.length_append,List.length_replicate];omega
   .show(r.s.au 1).1.C.length<=_
    rw[hA1];simp only[List.length_append,List.length_replicate];omega
  .exact absurd h1 h9
 .rcases hr with ⟨h9,_⟩|⟨_,rfl,rfl,rfl,rfl⟩
  .exact absurd h9 h1
  .exact⟨rfl,rfl,PK h _ hQ⟩
theorem b_chan(x:WS)(ms:List MS)(r:RW)(L:PL)(a:BO)(h:cZ x ms a)(hb:Both x ms r)(hw:a.what=0):Does 60 #[x.wb,r.v.val,a.vl] (x.ts++[r.th L]) (Ql a x ms L):=by
 refine(JG x.wb r.v a _ (fun o got no k er m2=>(k=got/\er=no)/\Ri a x ms L o m2) hw ?_).mono (fun e m2 ⟨o,fine,he,_,_,_,_,hf,hR⟩=>⟨o,by rw[hf.2 hR.1]at he;exact he,hR.2⟩);refine(Xb hb h.fair).mono ?_;rintro e m1 ⟨r',L',Q,Qy,⟨v2,err,rfl,hp⟩,hQ,rfl⟩;refine⟨r'.v,v2,err,rfl,?_⟩;have hc:=Qn h Q hQ;refine(Pv (r:=[r'.th L']) (m:=({x with P:=Q}:WS).ts) (R:=fun e m0=>∃v er x',e= .returned (.tuple #[.int .i64 v,.int .i64 er])/\jG {x with P:=Q} v er x'/\m0=x'.ts) fun T w hL=>?_).mono ?_
 .refine(IA T w _ hL hc.fair.good.sides (by have :=hc.fair.good.l1;omega)).mono ?_
  rintro e w' ⟨v,er,x',rfl,hx,hL'⟩;exact⟨_,⟨v,er,x',rfl,hx,rfl⟩,hL'⟩
 .rintro e m2 ⟨m0,⟨v,er,x',rfl,hx,rfl⟩,rfl⟩
  obtain⟨h1,h2,h3⟩:=Wu hb h.fair hQ hp hx;exact⟨v,er,rfl,⟨h1,h2⟩,x',ms,r',L',P7 hQ (mJ hc.fair hx),h3,(show x'.wb=({x with P:=Q}:WS).wb from zH hx),rfl,Qy,rfl⟩
def X7(r:RW)(v err:Int)(r':RW)(P Q:World->Prop):Prop:=(r.s.C.length+2<=r.s.most/\v=(r.cos.length:Int)/\err=0/\∃v':RV,gJ 1 r.v v'/\r'={r with v:=v',s:=(r.s.au 2).1,cos:=r.cos++[RH.new r.s.C.length]}/\∀W,Q W->P W/\aG W v'.oa 2 (r.v.on+1) ((r.cos++[RH.new r.s.C.length]).flatMap RH.cells))\/(¬r.s.C.length+2<=r.s.most/\v=0/\err=6/\r'=r/\Q=P)
theorem Xn{x:WS}{ms:List MS}{r:RW}{L:PL}(h:Both x ms r)(hfa:x.Fair ms):Does 150 #[r.v.val] (x.ts++[r.th L]) (RI x L fun en r' Q=>∃v err,en= .returned (.tuple #[r'.v.val,.int .i64 v,.int .i64 err])/\X7 r v err r' x.P Q):=by
 have hl:=(PD h.rel.o).1;by_cases hs:r.s.C.length+2<=r.s.most
 .refine RS _ fun T w hL=>?_
  refine(YB T w r.v r.s x.P (r.cos.flatMap RH.cells) hL h.fits.m (fun W hW=>(h.on W hW).o) h.fits.oc (Sj _ VY _) (by rw[h.fits.o,<-hl];exact hfa.good.l2) hs).mono ?_;rintro e w' ⟨v',L',Qy,rfl,hmm,hL'⟩;exact⟨{r with v:=v',s:=(r.s.au 2).1,cos:=r.cos++[RH.new r.s.C.length]},L',(fun W=>x.P W/\aG W v'.oa 2 (r.v.on+1) (r.cos.flatMap RH.cells++[Value.int .i64 (r.s.C.length:Int),Value.slice none 0 0])),Qy,⟨_,0,rfl,.inl ⟨hs,by rw[h.fits.o],rfl,v',hmm,rfl,fun W hW=>⟨hW.1,by rw[List.flatMap_append];exact hW.2⟩⟩⟩,fun W hW=>hW.1,hL'⟩
 .refine TV fun _=>fun T w hL=>?_
  have hen:=Qp (v:=r.v) (L:=L) (s:=r.s) (r:=[]) ((hL.sel [(x.ts).length] (by simp[RW.th]) (by simp)));have hm:=h.fits.m;have hms:=hfa.most;rw[h.rel.s]at hms;exact Qa (R:=fun en r' Q=>∃v err,en= .returned (.tuple #[r'.v.val,.int .i64 v,.int .i64 err])/\X7 r v err r' x.P Q) (fun w=>AB r.v w (by omega) (by have :=hfa.fits;rw[h.rel.s]at this;omega) (by omega)) ⟨0,6,rfl,.inr ⟨hs,rfl,rfl,rfl,rfl⟩⟩ T w hL
theorem WO{x x':WS}{ms:List MS}{r r':RW}{Q:World->Prop}{v er v2 err:Int}(h:Both x ms r)(hfa:x.Fair ms)(hQ:∀W,Q W->x.P W)(hr:X7 r v2 err r' x.P Q)(hx:jE {x with P:=Q} v er x'):v=v2/\er=err/\Both x' ms r':=by
 have hl:=(PD h.rel.o).1;have hs:({x with P:=Q}:WS).s=r.s:=h.rel.s;have Fj:=hfa.most;rw[h.rel.s]at Fj;rcases hx with ⟨h1,rfl,rfl,c,q,a,cap,rfl⟩|⟨h1,rfl,rfl,rfl⟩<;>rw[hs]at h1
 .rcases hr with ⟨_,rfl,rfl,v',hm,rfl,hon⟩|⟨h9,_⟩
  .have hA:=jO r.s 2 h1
   have hA1:(r.s.au 2).1={r.s with C:=r.s.C++List.replicate 2 0}:=hA;obtain⟨m1,m2,m3,m4,m5,m6⟩:=made1 hm;refine⟨by show(x.cos.length:Int)=_;omega,rfl,⟨by show(x.s.au 2).1=(r.s.au 2).1;rw[h.rel.s],h.rel.h,?_,h.rel.n⟩,⟨?_,?_,?_,?_⟩,fun W hW=>?_,TU (fun d hd=>?_) ?_,?_,h.fl⟩
   .show(x.cos++[_]).map Ch.pl=(r.cos++[_]).map RH.pl
    rw[List.map_append,List.map_append,h.rel.o];rw[h.rel.s];rfl
   .show v'.most=((r.s.au 2).1.most:Int)
    rw[m1,hA1];exact h.fits.m
   .show v'.hn=_
    rw[m4];exact h.fits.h
   .show v'.on=(r.cos++[_]).length
    rw[List.length_append,List.length_singleton,m2,h.fits.o]
   .show v'.sn=_
    rw[m6];exact h.fits.n
   .have hO:=h.on W (hon W hW).1
    exact⟨by show aG W v'.ha 3 v'.hn _;rw[m3,m4];exact hO.h,by show aG W v'.oa 2 v'.on _;rw[m2];exact(hon W hW).2,by show aG W v'.sa 11 v'.sn _;rw[m5,m6];exact hO.n,hO.ch,TU hO.co (TG W),hO.sy⟩
   .show d.cell+1<(r.s.au 2).1.C.length
    rw[hA1];have :=h.cc d hd;simp only[List.length_append,List.length_replicate];omega
   .show r.s.C.length+1<(r.s.au 2).1.C.length
    rw[hA1];simp only[List.length_append,List.length_replicate];omega
   .show(r.s.au 2).1.C.length<=_
    rw[hA1];simp only[List.length_append,List.length_replicate];omega
  .exact absurd h1 h9
 .rcases hr with ⟨h9,_⟩|⟨_,rfl,rfl,rfl,rfl⟩
  .exact absurd h9 h1
  .exact⟨rfl,rfl,PK h _ hQ⟩
theorem b_cond(x:WS)(ms:List MS)(r:RW)(L:PL)(a:BO)(h:cZ x ms a)(hb:Both x ms r)(hw:a.what=1):Does 60 #[x.wb,r.v.val,a.vl] (x.ts++[r.th L]) (Ql a x ms L):=by
 refine(JV x.wb r.v a _ (fun o got no k er m2=>(k=got/\er=no)/\Ri a x ms L o m2) hw ?_).mono (fun e m2 ⟨o,fine,he,_,_,_,_,hf,hR⟩=>⟨o,by rw[hf.2 hR.1]at he;exact he,hR.2⟩);refine(Xn hb h.fair).mono ?_;rintro e m1 ⟨r',L',Q,Qy,⟨v2,err,rfl,hp⟩,hQ,rfl⟩;refine⟨r'.v,v2,err,rfl,?_⟩;have hc:=Qn h Q hQ;refine(Pv (r:=[r'.th L']) (m:=({x with P:=Q}:WS).ts) (R:=fun e m0=>∃v er x',e= .returned (.tuple #[.int .i64 v,.int .i64 er])/\jE {x with P:=Q} v er x'/\m0=x'.ts) fun T w hL=>?_).mono ?_
 .refine(Lc T w _ hL (by have :=hc.fair.good.l2;omega)).mono ?_
  rintro e w' ⟨v,er,x',rfl,hx,hL'⟩;exact⟨_,⟨v,er,x',rfl,hx,rfl⟩,hL'⟩
 .rintro e m2 ⟨m0,⟨v,er,x',rfl,hx,rfl⟩,rfl⟩
  obtain⟨h1,h2,h3⟩:=WO hb h.fair hQ hp hx;exact⟨v,er,rfl,⟨h1,h2⟩,x',ms,r',L',P7 hQ (mF hc.fair hx),h3,(show x'.wb=({x with P:=Q}:WS).wb from yQ hx),rfl,Qy,rfl⟩
def MS.new(th:Int)(ba:Option Addr)(bases:List MB)(bc:Nat)(ca:Option Addr)(conds:List Int)(cc:Nat)(fl:Nat):MS:=⟨th,ba,bc,bases,ca,cc,conds,(fl:Int),false,false,0,MT.zero,0⟩
def XD(r:RW)(th:Int)(ba:Option Addr)(bases:List MB)(bc:Nat)(ca:Option Addr)(conds:List Int)(cc:Nat)(v err:Int)(r':RW)(P Q:World->Prop):Prop:=
 (¬nM r.v.hn r.v.on th bases conds/\v=0/\err=2/\r'=r/\Q=P)\/(nM r.v.hn r.v.on th bases conds/\¬r.s.C.length+1<=r.s.most/\v=0/\err=6/\r'=r/\Q=P)\/
 (nM r.v.hn r.v.on th bases conds/\r.s.C.length+1<=r.s.most/\v=(r.sys.length:Int)/\err=0/\∃v':RV,gJ 2 r.v v'/\r'={r with v:=v',s:=(r.s.au 1).1,sys:=r.sys++[MS.new th ba bases bc ca conds cc r.s.C.length]}/\∀W,Q W->P W/\aG W v'.sa 11 (r.v.sn+1) ((r.sys++[MS.new th ba bases bc ca conds cc r.s.C.length]).flatMap MS.cells))
theorem WU{x:WS}{ms:List MS}{r:RW}{L:PL}(h:Both x ms r)(hfa:x.Fair ms)(th:Int)(ba:Option Addr)(bases:List MB)(bc:Nat)(ca:Option Addr)(conds:List Int)(cc:Nat)(hA:∀W,x.P W->iJ W ba bases ca conds)(hbig:∀b∈bases,b.Big):Does 151 #[r.v.val,th,.slice ba bases.length bc,.slice ca conds.length cc] (x.ts++[r.th L]) (RI x L fun en r' Q=>∃v err,en= .returned (.tuple #[r'.v.val,.int .i64 v,.int .i64 err])/\XD r th ba bases bc ca conds cc v err r' x.P Q):=by
 by_cases hok:nM r.v.hn r.v.on th bases conds
 .by_cases hs:r.s.C.length+1<=r.s.most
  .refine RS _ fun T w hL=>?_
   refine(Xx T w r.v r.s x.P (r.sys.flatMap MS.cells) th ba bases bc ca conds cc hL h.fits.m (fun W hW=>(h.on W hW).n) h.fits.nc (Sj _ Xc _) (h.snl hfa) hs hA hbig hok).mono ?_;rintro e w' ⟨v',L',Qy,rfl,hmm,hL'⟩;exact⟨{r with v:=v',s:=(r.s.au 1).1,sys:=r.sys++[MS.new th ba bases bc ca conds cc r.s.C.length]},L',(fun W=>x.P W/\aG W v'.sa 11 (r.v.sn+1) (r.sys.flatMap MS.cells++[Value.int .i64 th,Value.slice ba bases.length bc,Value.slice ca conds.length cc,Value.int .i64 (r.s.C.length:Int),Value.bool false,Value.bool false,Value.int .i64 0,Value.int .i64 0,Value.int .i64 0,Value.slice none 0 0,Value.int .i64 0])),Qy,⟨_,0,rfl,.inr (.inr ⟨hok,hs,by rw[h.fits.n],rfl,v',hmm,rfl,fun W hW=>⟨hW.1,by rw[List.flatMap_append];exact hW.2⟩⟩)⟩,fun W hW=>hW.1,hL'⟩
  .refine TV fun _=>fun T w hL=>?_
   have hen:=Qp (v:=r.v) (L:=L) (s:=r.s) (r:=[]) ((hL.sel [(x.ts).length] (by simp[RW.th]) (by simp)));have hm:=h.fits.m;have hms:=hfa.most;have hf:=hfa.fits;rw[h.rel.s]at hms hf;refine Qm (R:=fun en r' Q=>∃v err,en= .returned (.tuple #[r'.v.val,.int .i64 v,.int .i64 err])/\XD r th ba bases bc ca conds cc v err r' x.P Q) (fun T w hL=>?_) T w hL;refine(VJ r.v w th ba bases bc ca conds cc (hA w (hL.still 0 rfl)) hbig hok (by omega) (by omega) (by omega)).mono ?_;rintro e w' ⟨rfl,ht⟩;exact⟨r,x.P,⟨⟨0,6,rfl,.inr (.inl ⟨hok,hs,rfl,rfl,rfl,rfl⟩)⟩,rfl,fun _ h=>h⟩,hL.touch ht⟩
 .refine Qm fun T w hL=>?_
  refine(Aq r.v w th ba bases bc ca conds cc (hA w (hL.still 0 rfl)) hbig hok).mono ?_;rintro e w' ⟨rfl,ht⟩;exact⟨r,x.P,⟨⟨0,2,rfl,.inl ⟨hok,rfl,rfl,rfl,rfl⟩⟩,rfl,fun _ h=>h⟩,hL.touch ht⟩
theorem Yu(x:WS)(ms:List MS)(r:RW)(L:PL)(a:BO)(h:cZ x ms a)(hb:Both x ms r)(hw:a.what=2\/a.what=3):Does 60 #[x.wb,r.v.val,a.vl] (x.ts++[r.th L]) (Ql a x ms L):=by
 refine(Bu x.wb r.v a _ (fun o got no k er m2=>(k=got/\er=no)/\Ri a x ms L o m2) hw ?_).mono (fun e m2 ⟨o,fine,he,_,_,_,_,hf,hR⟩=>⟨o,by rw[hf.2 hR.1]at he;exact he,hR.2⟩);refine(WU hb h.fair a.a a.ba a.bases a.bc a.ca a.conds a.cc (fun W hW=>(h.mem W hW).2.2) h.big).mono ?_;rintro e m1 ⟨r',L',Q,Qy,⟨v2,err,rfl,hp⟩,hQ,rfl⟩;refine⟨r'.v,v2,err,rfl,?_⟩;have hc:=Qn h Q hQ;refine(Pv (r:=[r'.th L']) (m:=({x with P:=Q}:WS).ts) (R:=fun e m0=>∃v er x',e= .returned (.tuple #[.int .i64 v,.int .i64 er])/\abr {x with P:=Q} a.a a.bases a.conds v er x'/\m0=x'.ts) fun T w hL=>?_).mono ?_
 .refine(uo T w _ a.a a.ba a.bases a.bc a.ca a.conds a.cc hL (fun W hW=>(hc.mem W hW).2.2) hc.fair.good.l3).mono ?_
  rintro e w' ⟨v,er,x',rfl,hx,hL'⟩;exact⟨_,⟨v,er,x',rfl,hx,rfl⟩,hL'⟩
 .rintro e m2 ⟨m0,⟨v,er,x',rfl,hx,rfl⟩,rfl⟩
  have hwb:x'.wb=x.wb:=(show x'.wb=({x with P:=Q}:WS).wb from vC hx);have hs:({x with P:=Q}:WS).s=r.s:=hb.rel.s;have l1:=(PD hb.rel.h).1;have l2:=(PD hb.rel.o).1;have l3:=(PD hb.rel.n).1;have l4:x.sys.length=ms.length:=by rw[h.fair.good.sys,List.length_map]
  have Fj:=h.fair.most;rw[hb.rel.s]at Fj;have hok:ou {x with P:=Q} a.a a.bases a.conds↔nM r.v.hn r.v.on a.a a.bases a.conds:=by
   rw[hb.fits.h,hb.fits.o,<-l1,<-l2];exact Iff.rfl
  unfold abr at hx;rw[hok]at hx;rcases hx with ⟨hno,rfl,rfl,rfl⟩|⟨hy,h1,rfl,rfl,rfl⟩|⟨hy,h1,rfl,rfl,s',aa,c,hpl,rfl⟩
  .rcases hp with ⟨_,rfl,rfl,rfl,rfl⟩|⟨hy,_⟩|⟨hy,_⟩
   .exact⟨_,_,rfl,⟨rfl,rfl⟩,_,ms,r',L',bq.refl hc.fair,PK hb _ hQ,hwb,rfl,Qy,rfl⟩
   .exact absurd hy hno
   .exact absurd hy hno
  .rcases hp with ⟨hno,_⟩|⟨_,_,rfl,rfl,rfl,rfl⟩|⟨_,h9,_⟩
   .exact absurd hy hno
   .exact⟨_,_,rfl,⟨rfl,rfl⟩,_,ms,r',L',bq.refl hc.fair,PK hb _ hQ,hwb,rfl,Qy,rfl⟩
   .rw[hs]at h1;exact absurd h9 h1
  .rw[hs]at h1
   rcases hp with ⟨hno,_⟩|⟨_,h9,_⟩|⟨_,_,rfl,rfl,v',hm,rfl,hon⟩
   .exact absurd hy hno
   .exact absurd h1 h9
   .have hA1:(r.s.au 1).1={r.s with C:=r.s.C++List.replicate 1 0}:=jO r.s 1 h1
    obtain⟨m1,m2,m3,m4,m5,m6⟩:=made2 hm;refine⟨_,_,rfl,⟨by show(x.sys.length:Int)=_;omega,rfl⟩,_,ms++[s'],{r with v:=v',s:=(r.s.au 1).1,sys:=r.sys++[MS.new a.a a.ba a.bases a.bc a.ca a.conds a.cc r.s.C.length]},L',P7 hQ (UW hc.fair s' aa c (by rw[hs];exact h1)),⟨⟨by show(x.s.au 1).1=(r.s.au 1).1;rw[hb.rel.s],hb.rel.h,hb.rel.o,?_⟩,⟨?_,?_,?_,?_⟩,fun W hW=>?_,fun d hd=>?_,?_,fun n hn=>?_⟩,hwb,rfl,Qy,rfl⟩
    .show(ms++[s']).map MS.plain=(r.sys++[_]).map MS.plain
     rw[List.map_append,List.map_append,hb.rel.n,List.map_singleton,hpl,hs];rfl
    .show v'.most=((r.s.au 1).1.most:Int)
     rw[m1,hA1];exact hb.fits.m
    .show v'.hn=_
     rw[m4];exact hb.fits.h
    .show v'.on=_
     rw[m6];exact hb.fits.o
    .show v'.sn=(r.sys++[_]).length
     rw[List.length_append,List.length_singleton,m2,hb.fits.n]
    .have hq:Q W:=hW.1
     have hO:=hb.on W (hon W hq).1;exact⟨by show aG W v'.ha 3 v'.hn _;rw[m3,m4];exact hO.h,by show aG W v'.oa 2 v'.on _;rw[m5,m6];exact hO.o,by show aG W v'.sa 11 v'.sn _;rw[m2];exact(hon W hq).2,hO.ch,hO.co,TU hO.sy (XA (x:={x with P:=Q}) (bc:=a.bc) (cc:=a.cc) (hc.mem W hq).2.2 (hok.2 hy) _)⟩
    .show d.cell+1<(r.s.au 1).1.C.length
     rw[hA1];have :=hb.cc d hd;simp only[List.length_append,List.length_replicate];omega
    .show(r.s.au 1).1.C.length<=_
     rw[hA1];simp only[List.length_append,List.length_replicate];omega
    .have hn':n<(r.sys++[MS.new a.a a.ba a.bases a.bc a.ca a.conds a.cc r.s.C.length]).length:=hn
     rw[List.length_append,List.length_singleton]at hn';by_cases e:n<r.sys.length
     .obtain⟨q,hq⟩:=hb.fl n e
      have e9:(r.sys++[MS.new a.a a.ba a.bases a.bc a.ca a.conds a.cc r.s.C.length])[n]'hn=r.sys[n]:=List.getElem_append_left e;exact⟨q,hq.trans (congrArg MS.flag e9.symm)⟩
     .obtain rfl:n=r.sys.length:=by omega
      have e9:(r.sys++[MS.new a.a a.ba a.bases a.bc a.ca a.conds a.cc r.s.C.length])[r.sys.length]'hn=MS.new a.a a.ba a.bases a.bc a.ca a.conds a.cc r.s.C.length:=by rw[List.getElem_append_right (by omega)];simp
      exact⟨r.s.C.length,(congrArg MS.flag e9.symm)⟩
def ActB(a:BO)(x:WS)(ms:List MS)(L:PL)(p:Option Addr)(o:RV)(fine:Bool)(m2:List ai):Prop:=fine=true/\∃(x':WS) (ms':List MS) (r':RW) (L':PL),bq a x ms x' ms'/\Both x' ms' r'/\p=some ⟨x'.wb,0,none⟩/\o=r'.v/\(∀y∈L,y∈L')/\m2=x'.ts++[r'.th L']
theorem TS{a:BO}{x:WS}{ms:List MS}{L:PL}{e:Ending}{m2:List ai}(h:Ql a x ms L e m2):∃(o:RV) (fine:Bool),e= .returned (.tuple #[o.val,fine])/\ActB a x ms L (some ⟨x.wb,0,none⟩) o fine m2:=by
 obtain⟨o,he,x',ms',r',L',h1,h2,h3,h4,h5,h6⟩:=h;exact⟨o,true,he,rfl,x',ms',r',L',h1,h2,by rw[h3],h4,h5,h6⟩
theorem act_b(x:WS)(ms:List MS)(r:RW)(L:PL)(a:BO)(h:cZ x ms a)(hb:Both x ms r)(hsm:a.Small):Does 14 #[x.wb,r.v.val,a.vl] (x.ts++[r.th L]) fun e m2=>∃(p:Option Addr) (o:RV) (fine:Bool),e= .returned (.tuple #[.pointer p,o.val,fine])/\ActB a x ms L p o fine m2:=by
 have he:a.e.v.nodes<=1048576:=by have :=hsm.1.2.1;omega
 have hv:a.v.nodes<=1048576:=by have :=hsm.1.1;omega
 have YT:=fun W (hW:x.P W)=>(h.mem W hW).1;have hvi:=fun W (hW:x.P W)=>(h.mem W hW).2.1;refine act16 x.wb r.v a (x.ts++[r.th L]) (ActB a x ms L) ?_ ?_ ?_ ?_ ?_
 .intro hr
  refine Does.mono ?_ (fun e m2 hA=>TS hA);have hc:a.what=0\/a.what=1\/(a.what=2\/a.what=3):=by omega
  rcases hc with hc|hc|hc
  .exact b_chan x ms r L a h hb hc
  .exact b_cond x ms r L a h hb hc
  .exact Yu x ms r L a h hb hc
 .intro hr
  refine Does.mono ?_ (fun e m2 hA=>TS hA);have hc:a.what=4\/a.what=5\/a.what=6\/a.what=7\/a.what=8:=by omega
  rcases hc with hc|hc|hc|hc|hc
  .exact b_lock x ms r L a h hb hc
  .exact Yf x ms r L a h hb hc
  .exact b_peek x ms r L a h hb hc
  .exact b_drop x ms r L a h hb hc
  .exact b_push x ms r L a h hb hc he YT
 .intro hr
  refine Does.mono ?_ (fun e m2 hA=>TS hA);have hc:a.what=9\/a.what=10\/a.what=11\/a.what=12\/a.what=13\/a.what=14:=by omega
  rcases hc with hc|hc|hc|hc|hc|hc
  .exact VA x ms r L a h hb hc
  .exact UD x ms r L a h hb hc
  .exact Yx x ms r L a h hb hc
  .exact b_fire x ms r L a h hb hc
  .exact b_wait x ms r L a h hb hc he YT
  .exact b_next x ms r L a h hb hc
 .intro hr
  refine Does.mono ?_ (fun e m2 hA=>TS hA);have hc:a.what=15\/a.what=16\/a.what=17\/a.what=18\/a.what=19\/a.what=20\/a.what=21\/a.what=22\/a.what=23:=by omega
  rcases hc with hc|hc|hc|hc|hc|hc|hc|hc|hc
  .exact YH x ms r L a h hb hc
  .exact WR x ms r L a h hb hc
  .exact b_take x ms r L a h hb hc
  .exact Xh x ms r L a h hb hc
  .exact b_look x ms r L a h hb hc
  .exact Xv x ms r L a h hb hc hv hvi
  .exact b_park x ms r L a h hb hc
  .exact b_wake x ms r L a h hb hc
  .exact Yw x ms r L a h hb hc
 .intro hr
  refine(Pv (r:=[r.th L]) (m:=x.ts) (R:=fun e m0=>∃(Q:World->Prop) (y:WS) (ms':List MS),e= .returned (.pointer (some ⟨y.wb,0,none⟩))/\(y.P=(x.knows Q).P/\y.Good ms'/\y.s=x.s/\y.BI.map Ce.pl=x.BI.map Ce.pl/\y.cos.map Ch.pl=x.cos.map Ch.pl/\ms'.map MS.plain=ms.map MS.plain)/\m0=y.ts) fun T w hL=>?_).mono ?_
  .refine(K3 T w x ms hL h.fair.good).mono ?_
   rintro e w' ⟨Q,y,ms',rfl,hP,hg,hs,e1,e2,e3,hL'⟩;refine⟨y.ts,⟨Q,y,ms',rfl,⟨hP,hg,hs,e1,e2,e3⟩,rfl⟩,?_⟩;have h5:=BD.OQ (x:=x.knows Q) (y:=y) (r:=[]) (by rw[List.append_nil];exact hL') hP;rw[List.append_nil]at h5;exact BD.aF h5
  .rintro e m2 ⟨m0,⟨Q,y,ms',rfl,⟨hP,hg,hs,e1,e2,e3⟩,rfl⟩,rfl⟩
   exact⟨_,rfl,rfl,y,ms',r,L,yO h.fair hP hg hs e1 e2 e3,⟨⟨hs.trans hb.rel.s,e1.trans hb.rel.h,e2.trans hb.rel.o,e3.trans hb.rel.n⟩,hb.fits,fun W hW=>hb.on W (by rw[hP]at hW;exact hW.1),hb.cc,hb.small,hb.fl⟩,rfl,rfl,fun _ h=>h,rfl⟩
section
attribute [local go_sem] Yj YW
def SK(c:Ce)(s:Int):List ME:=if s=1 then c.es1 else if s=2 then c.es2 else[]
theorem BD.wAll{T:List Nat}{w0 w:World}{x:WS}{r0:List ai}(h:BD T w0 w (x.ts++r0))(hv:∀W,x.P W->x.fD W)(hq:∀n (hn:n<x.BI.length),x.BI[n].es1.length<=4096/\x.BI[n].es2.length<=4096)(n:Nat)(hn:n<x.BI.length)(s:Int):
  Calls prog 73 #[.pointer (some ⟨x.BI[n].c,0,none⟩),s] w fun e w'=>∃bx a cap ys,e= .returned (.func (.func 251) #[] #[.pointer (some ⟨bx,0,none⟩)])/\ys.map ME.plain=(SK x.BI[n] s).map ME.plain/\BD T w0 w' ((x.ts++r0)++[allT bx (.slice a ys.length cap) ys]):=by
 have hin:=(hv w (h.still 2 rfl)).1 x.BI[n] (List.getElem_mem hn);have hA:Calls prog 73 #[.pointer (some ⟨x.BI[n].c,0,none⟩),s] w (TR (SK x.BI[n] s) w):=by
  by_cases h1:s=1
  .subst h1
   exact X0 w _ _ _ _ _ (h.oM n hn) 1 x.BI[n].q1 x.BI[n].es1 rfl (h.YL n hn).1 hin.1 (hq n hn).1
  .by_cases h2:s=2
   .subst h2
    exact X0 w _ _ _ _ _ (h.oM n hn) 2 x.BI[n].q2 x.BI[n].es2 rfl (h.YL n hn).2 hin.2 (hq n hn).2
   .rw[show SK x.BI[n] s=[] from by unfold SK;rw[if_neg h1,if_neg h2]]
    exact Wz w _ _ _ _ _ (h.oM n hn) s (by unfold Hg;rw[if_neg h1,if_neg h2])
 refine hA.mono ?_;rintro e w' ⟨bx,a,cap,ys,rfl,hp,hL⟩;exact⟨bx,a,cap,ys,rfl,hp,h.join hL⟩
def seqB(x:WS)(k s:Int)(b3 b4 b5:Nat):List ai:=[box b3 25 #[x.wb],box b4 3 #[k],box b5 41 #[s]]
def Uo(T:List Nat)(w:World)(x:WS)(k s:Int)(r:List ai)(e:Ending)(w':World):Prop:=
 (∃(n:Nat) (hn:n<x.BI.length) (bx:Nat) (a:Option Addr) (cap:Nat) (ys:List ME),k=(n:Int)/\e= .returned (.func (.func 251) #[] #[bx])/\ys.map ME.plain=(SK x.BI[n] s).map ME.plain/\BD T w w' ((x.ts++r)++[allT bx (.slice a ys.length cap) ys]))\/
 (¬(0<=k/\k<(x.BI.length:Int))/\e= .panicked (aX 4)/\BD T w w' (x.ts++r))
theorem XK(T:List Nat)(w:World)(x:WS)(b3 b4 b5:Nat)(k s:Int)(h:BD T w w (x.ts++seqB x k s b3 b4 b5))(hv:∀W,x.P W->x.fD W)(hq:∀n (hn:n<x.BI.length),x.BI[n].es1.length<=4096/\x.BI[n].es2.length<=4096):
  Calls prog 71 #[b3,b4,b5] w (Uo T w x k s (seqB x k s b3 b4 b5)):=by
 have BG:=hdq h;have HV:=hdq hv;have HQ:=hdq hq;have HS:Hid (∀W r,BD T w W (x.ts++seqB x k s b3 b4 b5++r)->(fun w'=>w'.cell? ⟨b3,0,none⟩=some (.pointer (some ⟨x.wb,0,none⟩))/\w'.cell? ⟨b4,0,none⟩=some (.int .i64 k)/\w'.cell? ⟨b5,0,none⟩=some (.int .i64 s)) W):=hdq (fun W r hL=>by
  have h1:=hL.aF;exact⟨(h1.aC 0 rfl).cell 0,(h1.aC 1 rfl).cell 0,(h1.aC 2 rfl).cell 0⟩)
 by_cases hk:0<=k/\k<(x.BI.length:Int)
 .obtain⟨n,rfl⟩:=Int.eq_ofNat_of_zero_le hk.1
  have hnk:n<x.BI.length:=by omega
  go_enter func71,ntmps71
  go_upto_region 1 with fail
  refine wp_region_held_drew (S:=fun w'=>w'.cell? ⟨b3,0,none⟩=some (.pointer (some ⟨x.wb,0,none⟩))/\w'.cell? ⟨b4,0,none⟩=some (.int .i64 (n:Int))/\w'.cell? ⟨b5,0,none⟩=some (.int .i64 s)) (by kernel_rfl) (HS.o _ [] (by rw[List.append_nil];exact BG.o.drew)) (fun hHeld=>?_);refine nmq (hdq BG.o.drew) hHeld fun wa HA hHeld=>?_;refine tkq 0 4 ?_;refine tkq 1 5 ?_;refine tkq 3 7 ?_;refine rdq 2 rfl fun K hK=>?_;go_simp;refine(HA.o.Lp n hnk).mono ?_;rintro en wb ⟨rfl,ht⟩;have HB:=hdq (HA.o.touch ht);go_simp;refine kpq hK.o (fun hHeld=>?_) (HS.o _ [] (by rw[List.append_nil];exact HB.o));refine rdq 4 rfl fun K hK=>?_;go_simp;refine(HB.o.wAll HV.o HQ.o n hnk s).mono ?_;rintro en wc ⟨bx,a,cap,ys,rfl,hp,hL⟩;have HC:=hdq hL;have HP:=hdq hp;go_simp;refine kpq hK.o (fun hHeld=>?_) (HS.o _ _ HC.o);refine opq 5 fun hHeld=>?_;refine dnq ?_;go_wp2;go_ret
  exact .inl ⟨n,hnk,bx,a,cap,ys,rfl,rfl,HP.o,HC.o⟩
 .go_enter func71,ntmps71
  go_upto_region 1 with fail
  refine wp_region_held_drew (S:=fun w'=>w'.cell? ⟨b3,0,none⟩=some (.pointer (some ⟨x.wb,0,none⟩))/\w'.cell? ⟨b4,0,none⟩=some (.int .i64 k)/\w'.cell? ⟨b5,0,none⟩=some (.int .i64 s)) (by kernel_rfl) (HS.o _ [] (by rw[List.append_nil];exact BG.o.drew)) (fun hHeld=>?_);refine nmq (hdq BG.o.drew) hHeld fun wa HA hHeld=>?_;refine tkq 0 4 ?_;refine tkq 1 5 ?_;refine tkq 3 7 ?_;refine rdq 2 rfl fun K hK=>?_;go_simp;refine(HA.o.nK k hk).mono ?_;rintro en wb ⟨rfl,ht⟩;dsimp only;have h9:Uo T w x k s (seqB x k s b3 b4 b5) (.panicked (aX 4)) wb:=Or.inr ⟨hk,rfl,HA.o.touch ht⟩;exact⟨rfl,h9⟩
def XC(T:List Nat)(w0:World)(x:WS)(k s:Int)(r:List ai)(e:Ending)(w':World):Prop:=
 (∃(n:Nat) (hn:n<x.BI.length) (bv bx:Nat) (a:Option Addr) (cap:Nat) (ys:List ME),k=(n:Int)/\e= .returned (.func (.func 75) #[] #[bv])/\ys.map ME.plain=(SK x.BI[n] s).map ME.plain/\BD T w0 w' ((x.ts++r)++[allT bx (.slice a ys.length cap) ys,box bv 68 #[.func (.func 251) #[] #[bx]]]))\/
 (¬(0<=k/\k<(x.BI.length:Int))/\e= .returned (.func (.func 74) #[] #[])/\BD T w0 w' (x.ts++r))
theorem YF(T:List Nat)(w:World)(x:WS)(k s:Int)(h:BD T w w x.ts)(hv:∀W,x.P W->x.fD W)(hq:∀n (hn:n<x.BI.length),x.BI[n].es1.length<=4096/\x.BI[n].es2.length<=4096):
  Calls prog 17 #[x.wb,k,s] w (XC T w x k s []):=by
 have Ep:= @mfq;have BG:=hdq h;have HV:=hdq hv;have HQ:=hdq hq;go_enter func17,ntmps17
 go_wp2_with fail
 refine ah ?_;intro w1 hw1;have BB:=hdq (BG.o.UX hw1);generalize hb5:w.heap.size+1+1=b5 at BB|-;generalize hb4:w.heap.size+1=b4 at BB|-;generalize hb3:w.heap.size=b3 at BB|-;refine(Vh T w w1 (x.ts++seqB x k s b3 b4 b5) 71 _ (fun o er l'=>(∃(n:Nat) (hn:n<x.BI.length) (bx:Nat) (a:Option Addr) (cap:Nat) (ys:List ME),o=some bx/\er=0/\k=(n:Int)/\ys.map ME.plain=(SK x.BI[n] s).map ME.plain/\l'=(x.ts++seqB x k s b3 b4 b5)++[allT bx (.slice a ys.length cap) ys])\/(o=none/\er=4/\¬(0<=k/\k<(x.BI.length:Int))/\l'=x.ts++seqB x k s b3 b4 b5)) BB.o (enters_of func71 (by kernel_rfl) rfl) (fun T' W hW=>?_)).mono ?_
 .refine(XK T' W x b3 b4 b5 k s hW HV.o HQ.o).mono ?_
  rintro e w' (⟨n,hn,bx,a,cap,ys,rfl,rfl,hp,hL⟩|⟨hk,rfl,hL⟩)
  .exact⟨some bx,0,_,.inl ⟨bx,rfl,rfl,rfl⟩,.inl ⟨n,hn,bx,a,cap,ys,rfl,rfl,rfl,hp,rfl⟩,hL⟩
  .exact⟨none,4,_,.inr ⟨rfl,rfl⟩,.inr ⟨rfl,rfl,hk,rfl⟩,hL⟩
 .rintro e w2 ⟨o,er,l',he,hR,hL⟩
  have HL2:=hdq hL;rcases hR with ⟨n,hn,bx,a,cap,ys,rfl,rfl,rfl,hp,rfl⟩|⟨rfl,rfl,hk,rfl⟩
  .rcases he with ⟨v,hv,_,rfl⟩|⟨h9,_⟩
   .obtain rfl:bx=v:=by simpa using hv
    go_upto_region 2 with fail
    refine ay ?_;intro w3 hw;have h5:=HL2.o.alloc 68 #[.func (.func 251) #[] #[bx]];rw[List.append_assoc]at h5;have BF:=hdq (h5.toW hw);generalize hb:w2.heap.size=bv at BF|-;go_wp2;go_ret
    refine .inl ⟨n,hn,bv,bx,a,cap,ys,rfl,rfl,hp,?_⟩;have h6:=BD.aB (a:=x.ts) (b:=seqB x (n:Int) s b3 b4 b5) (c:=[allT bx (.slice a ys.length cap) ys,box bv 68 #[.func (.func 251) #[] #[bx]]]) BF.o;rw[List.append_nil];exact BD.aF h6
   .cases h9
  .rcases he with ⟨v,h9,_⟩|⟨_,rfl⟩
   .cases h9
   .go_wp2
    go_ret
    refine .inr ⟨hk,rfl,?_⟩;rw[List.append_nil];exact(BD.aF HL2.o).touch ((Touch.refl [] w2).alloc _)
end
abbrev rvB(b:Nat)(v:RV):ai:=box b 38 #[.slice v.ca v.cn v.cc,v.most,.slice v.la v.ln v.lc,.slice v.ha v.hn v.hc,.slice v.oa v.on v.oc,.slice v.sa v.sn v.sc]
def MS.zero:MS:=⟨0,none,0,[],none,0,[],0,false,false,0,MT.zero,0⟩
theorem aak(W:World):MS.zero.In W:=by
 refine⟨⟨MT.dQ W,by simp[MS.zero,MT.zero,MT.nodes,MT.aV]⟩,⟨⟨by simp[MS.zero],fun i hi=>absurd hi (by simp[MS.zero])⟩,fun b hb=>absurd hb (by simp[MS.zero])⟩,⟨by simp[MS.zero],fun i hi=>absurd hi (by simp[MS.zero])⟩⟩
theorem aaL{T:List Nat}{w0 w:World}{x:WS}{ms:List MS}{P:World->Prop}{r:List ai}(k:Int)(hk:¬(0<=k/\k<(ms.length:Int)))(h:BD T w0 w ((x.fJ P).ts++r))(hms:x.sys=ms.map MS.raw)(hin:∀W,P W->∀m∈ms,m.In W):
  Calls prog 15 #[x.wb,k] w fun e w'=>e= .returned (.tuple #[MS.zero.raw.val,false])/\BD T w0 w' ((x.fJ P).ts++r):=by
 obtain⟨T',hF,hb⟩:=h.aN;refine(aaK T' w (x.fJ P) ms k hF hms hin).mono ?_;rintro e w' ⟨v,er,x',rfl,hS,hL⟩;rcases hS with ⟨_,rfl,rfl,rfl⟩|⟨n,hn,s,hkn,_⟩
 .exact⟨rfl,hb _ _ hL⟩
 .exact absurd ⟨by omega,by omega⟩ hk
theorem aaG{T:List Nat}{w0 w:World}{x:WS}{ms:List MS}{P:World->Prop}{r:List ai}(k:Int)(h:BD T w0 w ((x.fJ P).ts++r))(hms:x.sys=ms.map MS.raw)(hin:∀W,P W->∀m∈ms,m.In W):
  Calls prog 15 #[x.wb,k] w fun e w'=>∃(s:MS) (b:Bool) (P2:World->Prop),e= .returned (.tuple #[s.raw.val,b])/\((b=false/\s=MS.zero/\¬(0<=k/\k<(ms.length:Int)))\/∃(n:Nat) (hn:n<ms.length),k=(n:Int)/\b=true/\s.plain=ms[n].plain)/\(∀W,P2 W->P W/\s.In W)/\BD T w0 w' ((x.fJ P2).ts++r):=by
 by_cases hk:0<=k/\k<(ms.length:Int)
 .obtain⟨n,rfl⟩:=Int.eq_ofNat_of_zero_le hk.1
  have hn:n<ms.length:=by omega
  refine(yT n hn h hms hin).mono ?_;rintro e w' ⟨s,P2,rfl,hp,hP,hL⟩;exact⟨s,true,P2,rfl,.inr ⟨n,hn,rfl,rfl,hp⟩,hP,hL⟩
 .refine(aaL k hk h hms hin).mono ?_
  rintro e w' ⟨rfl,hL⟩;exact⟨MS.zero,false,P,rfl,.inl ⟨rfl,rfl,hk⟩,fun W hW=>⟨hW,aak W⟩,hL⟩
theorem aaM{x:WS}{ms:List MS}{r:RW}(hb:Both x ms r)(n:Nat)(hn:n<r.BI.length)(hx:n<x.BI.length)(s:Int):∃(a:Option Addr) (es:List ME) (k:Nat),
  (∀w,Calls prog 18 #[.agg #[(r.BI[n].cell:Int),.slice r.BI[n].a1 r.BI[n].es1.length r.BI[n].k1,.slice r.BI[n].a2 r.BI[n].es2.length r.BI[n].k2],s] w fun e w'=>e= .returned (.slice a es.length k)/\Touch [] w w')/\
  (SK x.BI[n] s).map ME.plain=es.map ME.plain/\∀W,x.P W->fo W a es/\∀e∈es,e.v.In W/\e.v.nodes<=256:=by
 have hpl:=(PD hb.rel.h).2 n hx hn;simp only[Ce.pl,Rb.pl,Prod.mk.injEq]at hpl;have hL:=fun w=>VQ w (r.BI[n].cell:Int) r.BI[n].a1 r.BI[n].es1.length r.BI[n].k1 r.BI[n].a2 r.BI[n].es2.length r.BI[n].k2 s;simp only[Sz]at hL;have hE:=fun W (hW:x.P W)=>(hb.on W hW).ch r.BI[n] (List.getElem_mem hn);by_cases h1:s=1
 .subst h1
  exact⟨_,r.BI[n].es1,_,fun w=>by simpa using hL w,hpl.2.1,fun W hW=>(hE W hW).1.2⟩
 .by_cases h2:s=2
  .subst h2
   exact⟨_,r.BI[n].es2,_,fun w=>by simpa using hL w,hpl.2.2,fun W hW=>(hE W hW).2.2⟩
  .refine⟨none,[],0,fun w=>by simpa[h1,h2]using hL w,by simp[SK,h1,h2],fun W hW=>⟨fun i hi=>absurd hi (by simp),fun e he=>absurd he (by simp)⟩⟩
theorem BD.aaI{T:List Nat}{w0 w:World}{x:WS}{ms:List MS}{P:World->Prop}{r:List ai}(h:BD T w0 w ((x.fJ P).ts++r))(hg:x.Good ms)(hP:∀W,P W->x.P W)(k s:Int):
  Calls prog 17 #[x.wb,k,s] w fun e w'=>
   (∃(n:Nat) (hn:n<x.BI.length) (bv bx:Nat) (a:Option Addr) (cap:Nat) (ys:List ME),k=(n:Int)/\e= .returned (.func (.func 75) #[] #[bv])/\ys.map ME.plain=(SK x.BI[n] s).map ME.plain/\BD T w0 w' ((x.fJ P).ts++([allT bx (.slice a ys.length cap) ys,Proofs.YtddnnapoaonmjaaGreatDoor.box bv 68 #[.func (.func 251) #[] #[bx]]]++r)))\/
   (¬(0<=k/\k<(x.BI.length:Int))/\e= .returned (.func (.func 74) #[] #[])/\BD T w0 w' ((x.fJ P).ts++r)):=by
 obtain⟨T',hF,hb⟩:=h.aN;refine(YF T' w (x.fJ P) k s hF (fun W hW=>hg.vals W (hP W hW)) hg.q1).mono ?_;rintro e w' (⟨n,hn,bv,bx,a,cap,ys,hk,he,hp,hL⟩|⟨hk,he,hL⟩)
 .rw[List.append_nil]at hL
  have h5:=hb _ _ hL;rw[List.append_assoc]at h5;exact .inl ⟨n,hn,bv,bx,a,cap,ys,hk,he,hp,h5⟩
 .rw[List.append_nil]at hL
  exact .inr ⟨hk,he,hb _ _ hL⟩
theorem aan{x:WS}{W:World}(h:x.fD W)(n:Nat)(hn:n<x.BI.length)(s:Int){ys:List ME}(hp:ys.map ME.plain=(SK x.BI[n] s).map ME.plain):∀y∈ys,y.v.nodes<=256:=by
 have hE:=h.1 x.BI[n] (List.getElem_mem hn);have hS:∀e∈SK x.BI[n] s,e.v.nodes<=256:=by
  unfold SK;split
  .exact fun e he=>(hE.1 e he).2
  .split
   .exact fun e he=>(hE.2 e he).2
   .exact fun e he=>absurd he (by simp)
 intro y hy;have hmm:y.plain∈(SK x.BI[n] s).map ME.plain:=by rw[<-hp];exact List.mem_map_of_mem hy
 obtain⟨q,hq,hpr⟩:=List.mem_map.1 hmm;rw[qI hpr];exact hS q hq
theorem aau{x:WS}{ms:List MS}(h:x.Good ms)(n:Nat)(hn:n<x.BI.length)(s:Int):(SK x.BI[n] s).length<=4096:=by
 have hq:=h.q1 n hn;unfold SK;split
 .exact hq.1
 .split
  .exact hq.2
  .simp
def IsOut(x:WS)(r:RW)(L:PL)(e:Ending)(m':List ai):Prop:=e= .returned (.bool true)/\∃P:World->Prop,(∀W,P W->x.P W)/\m'=(x.fJ P).ts++[r.th L]
theorem is_b(x:WS)(ms:List MS)(r:RW)(L:PL)(many:Nat)(hm:many<=10000)(hb:Both x ms r)(hf:x.Fair ms)(hlog:x.s.L.length<1000000):
  Does 19 #[x.wb,.agg #[.slice r.v.ca r.v.cn r.v.cc,r.v.most,.slice r.v.la r.v.ln r.v.lc,.slice r.v.ha r.v.hn r.v.hc,.slice r.v.oa r.v.on r.v.oc,.slice r.v.sa r.v.sn r.v.sc],(many:Int)] (x.ts++[r.th L]) (IsOut x r L):=by
 intro T w h;have hen:=Qp (v:=r.v) (L:=L) (s:=r.s) (r:=[]) (h.sel [(x.ts).length] (by simp[RW.th]) (by simp));have hs:=hb.rel.s;have e1:r.v.hn=x.BI.length:=by rw[hb.fits.h,(PD hb.rel.h).1]
 have e2:r.v.on=x.cos.length:=by rw[hb.fits.o,(PD hb.rel.o).1]
 have hsy:x.sys.length=ms.length:=by rw[hf.good.sys];simp
 have e3:r.v.sn=ms.length:=by rw[hb.fits.n,(PD hb.rel.n).1]
 have e4:r.v.cn=x.s.C.length:=by rw[hen.1,hs]
 have e5:r.v.ln=x.s.L.length:=by rw[hen.2,hs]
 have hl1:=hf.good.l1;have hl3:=hf.good.l3;have BG:Hid (BD T w w ((x.fJ x.P).ts++[r.th L])):=h;have HB:=hdq hb;have HF:=hdq hf;have HMS:=hdq hf.good.sys;have Ed:Hid (∀P:World->Prop,(∀W,P W->x.P W)->∀W,P W->∀m∈ms,m.In W):=fun P hP W hW m hm=>hf.good.cont W (hP W hW) m hm;have a1:((x.BI.length:Int) != (r.v.hn:Int))=false:=by rw[e1];simp
 have a2:((x.cos.length:Int) != (r.v.on:Int))=false:=by rw[e2];simp
 have a3:((x.sys.length:Int) != (r.v.sn:Int))=false:=by rw[e3,hsy];simp
 have a4:((x.s.C.length:Int) != (r.v.cn:Int))=false:=by rw[e4];simp
 have a6:IntKind.u64.wrap (r.v.ln:Int)=(r.v.ln:Int):=by rw[e5];simp[IntKind.wrap,IntKind.bits];omega
 have a5:((x.s.L.length:Int) != (r.v.ln:Int))=false:=by rw[e5];simp
 have HSY:=hdq hsy;have hl4:ms.length<=100000:=by omega
 have HE1:=hdq e1;have HE3:=hdq e3;clear h hb hf hen hs e1 e2 e3 e4 e5 hlog hsy;go_enter func19,ntmps19
 go_wp2_with fail
 refine ah ?_;intro w1 hw1;have BB:=hdq (BG.o.av hw1);simp only[nAq,cAq]at BB;generalize hb4:w.heap.size=b4 at BB|-;clear hw1 hb4 BG;refine(BB.o.yV).mono ?_;rintro e w2 ⟨rfl,ht⟩;have HL2:=hdq (BB.o.touch ht);clear ht BB;rw[show(x.fJ x.P).BI=x.BI from rfl,show(x.fJ x.P).cos=x.cos from rfl,show(x.fJ x.P).sys=x.sys from rfl];go_wp2_with fail
 refine(HL2.o.wQ).mono ?_;rintro e w3 ⟨rfl,ht⟩;have BF:=hdq (HL2.o.touch ht);clear ht HL2;rw[show(x.fJ x.P).s=x.s from rfl];obtain⟨p0,p1,p2,p3,p4,p5,pf,zp,CK,CO⟩:=BF.o.BJ 1 rfl;clear pf CK CO;go_wp2_with fail
 clear p0 p1 p2 p3 p4 p5 zp a1 a2 a3 a4 a5 a6;go_loopw [12] (fun i wr=>∃(k:Nat) (P:World->Prop),i= .int .i64 ((k:Int)-1)/\k<=ms.length+2/\Hid (∀W,P W->x.P W)/\Hid (BD T w wr ((x.fJ P).ts++[r.th L,rvB b4 r.v]))) (fun i _=>ms.length+2-(intOf i+1).toNat)
 case atStart=>exact⟨0,x.P,rfl,Nat.zero_le _,fun W h=>h,BF⟩
 case round=>
  clear BF;obtain⟨k,P,rfl,hk,HP,HJ⟩:=hrel;obtain⟨q0,q1,q2,q3,q4,p5,q5,zp,CK,CO⟩:=HJ.o.BJ 1 rfl;clear q0 q1 q2 q3 q4 q5 CK CO;by_cases hend:k=ms.length+2
  .have hle:¬((k:Int)-1<=(r.v.sn:Int)):=by have :=HE3.o;omega
   go_wp2_with fail
   clear p5 zp hle hend hk;go_loopw [15] (fun i wr=>∃(k:Nat) (P:World->Prop),i= .int .i64 ((k:Int)-1)/\k<=x.BI.length+2/\Hid (∀W,P W->x.P W)/\Hid (BD T w wr ((x.fJ P).ts++[r.th L,rvB b4 r.v]))) (fun i _=>x.BI.length+2-(intOf i+1).toNat)
   case atStart=>exact⟨0,P,rfl,Nat.zero_le _,HP,HJ⟩
   case round=>
    clear HJ HP;obtain⟨k,P,rfl,hk,HP,HJ⟩:=hrel;obtain⟨q0,q1,q2,p1,q4,q5,q6,zp,CK,CO⟩:=HJ.o.BJ 1 rfl;clear q0 q1 q2 q4 q5 q6 CK CO;by_cases hend:k=x.BI.length+2
    .have hle:¬((k:Int)-1<=(r.v.hn:Int)):=by have :=HE1.o;omega
     go_wp2;go_ret
     exact⟨_,⟨rfl,P,HP.o,rfl⟩,BD.aF (l:=(x.fJ P).ts++[r.th L]) (m:=[rvB b4 r.v]) (by simpa using HJ.o)⟩
    .have hle:(k:Int)-1<=(r.v.hn:Int):=by have :=HE1.o;omega
     go_wp2_with fail
     clear p1 zp hle;go_loopw [16] (fun q wr2=>∃(s:Nat) (P:World->Prop),q= .int .i64 (s:Int)/\s<=4/\Hid (∀W,P W->x.P W)/\Hid (BD T w wr2 ((x.fJ P).ts++[r.th L,rvB b4 r.v]))) (fun q _=>4-(intOf q).toNat)
     case atStart=>exact⟨0,P,rfl,Nat.zero_le _,HP,HJ⟩
     case round=>
      clear HJ HP;obtain⟨s,P,rfl,hs,HP,HJ⟩:=hrel;by_cases hs4:s=4
      .subst hs4
       go_wp2_with fail
       go_roundw
       case rel=>exact⟨k+1,P,by go_num,by omega,HP,HJ⟩
       case measure=>simp[intOf];omega
      .have hs3:(s:Int)<=3:=by omega
       obtain⟨q0,q1,q2,p1,q4,q5,q6,zp,CK,CO⟩:=HJ.o.BJ 1 rfl;clear q0 q1 q2 q4 q5 q6 CK CO;have HWT:=hdq (fun(w1:World) (h:BD T w w1 ((x.fJ P).ts++[r.th L,rvB b4 r.v]))=>h.aaI HF.o.good HP.o ((k:Int)-1) (s:Int));by_cases hin:1<=k/\k<=x.BI.length
       .obtain⟨n,rfl⟩:∃n,k=n+1:=⟨k-1,by omega⟩
        have hx:n<x.BI.length:=by omega
        have hn:n<r.BI.length:=by have :=(PD HB.o.rel.h).1;omega
        have hkn:((n+1:Nat):Int)-1=(n:Int):=by omega
        rw[hkn]at HWT|-;have hn0:(0:Int)<=(n:Int):=by omega
        have hn1:(n:Int)<(r.v.hn:Int):=by have :=HE1.o;omega
        obtain⟨a,es,kk,hLi,hpl,hat⟩:=aaM HB.o n hn hx (s:Int);have JS:=hdq hLi;have EA:=hdq hpl;have HAT:=hdq hat;obtain⟨bH,oH,hsa,hE⟩:=Px (P:=x.P) (HB.o.XH n hn) (HP.o _ (HJ.o.still 2 rfl));obtain⟨hbH,hcE⟩:=hE _ (HP.o _ (HJ.o.still 2 rfl));have c0:wr.cell? ⟨bH,oH+n*3,none⟩=some (.int .i64 (r.BI[n].cell:Int)):=hcE 0 _ rfl;have c1:wr.cell? ⟨bH,oH+n*3+1,none⟩=some (.slice r.BI[n].a1 r.BI[n].es1.length r.BI[n].k1):=hcE 1 _ rfl;have c2:wr.cell? ⟨bH,oH+n*3+2,none⟩=some (.slice r.BI[n].a2 r.BI[n].es2.length r.BI[n].k2):=hcE 2 _ rfl;generalize r.BI[n]=cc at c0 c1 c2 JS;rw[hsa]at p1;clear hLi hpl hat hE hcE hsa;go_wp2_with fail
        refine(JS.o _).mono ?_;rintro e w5 ⟨rfl,ht⟩;have HJ2:=hdq (HJ.o.touch ht);clear ht p1 zp c0 c1 c2 hbH HJ JS;go_wp2_with fail
        refine(HWT.o _ HJ2.o).mono ?_;rintro e w6 (⟨n',hn',bv,bx,ra,rc,ys,hkk,rfl,hyp,hL⟩|⟨hno,_⟩)
        .obtain rfl:n'=n:=by omega
         have HJ3:=hdq hL;have HYP:=hdq hyp;clear hL hyp hkk HJ2 HWT;have HOV:=hdq (aaO w6 bv bx ra rc ys es a kk many ⟨HJ3.o.aaf ((x.fJ P).ts.length) (by simp),(HJ3.o.aC 1 rfl).cell 0⟩ (aan (HF.o.good.vals _ (HP.o _ (HJ3.o.still 2 rfl))) n' hx (s:Int) HYP.o) (HAT.o _ (HP.o _ (HJ3.o.still 2 rfl))).1 (HAT.o _ (HP.o _ (HJ3.o.still 2 rfl))).2 (HYP.o.trans EA.o) (by have h1:=congrArg List.length EA.o;have h2:=aau HF.o.good n' hx (s:Int);simp only[List.length_map]at h1;omega) hm);go_wp2_with fail
         refine HOV.o.mono ?_;rintro e w7 ⟨rfl,ht⟩;have HJ4:Hid (BD T w w7 ((x.fJ P).ts++[r.th L,rvB b4 r.v])):=BD.aF (BD.aB (a:=(x.fJ P).ts) (b:=[_,_]) (c:=[r.th L,rvB b4 r.v]) (by simpa using HJ3.o.touch ht));clear ht HJ3 HOV;go_wp2_with fail
         go_roundw
         case rel=>exact⟨s+1,P,by go_num,by omega,HP,HJ4⟩
         case measure=>simp[intOf];omega
        .exact absurd ⟨hn0,by omega⟩ hno
       .have hcond:decide ((k:Int)-1<(r.v.hn:Int))=true\/decide ((k:Int)-1<(r.v.hn:Int))=false:=by cases decide ((k:Int)-1<(r.v.hn:Int))<;>simp
        have HOV:=hdq (fun w5=>aao w5 many hm);have DJ:Hid (¬(0<=(k:Int)-1/\(k:Int)-1<(x.BI.length:Int))):=fun h=>hin (by omega);by_cases hk0:k=0
        .have h01:decide ((0:Int)<=(k:Int)-1)=false:=decide_eq_false (by omega)
         have h02:¬((0:Int)<=(k:Int)-1):=by omega
         clear hcond hk0;go_wp2_with fail
         refine(HWT.o _ HJ.o).mono ?_;rintro e w6 (⟨n',hn',bv,bx,ra,rc,ys,hkk,_⟩|⟨_,rfl,hL⟩)
         .exact absurd ⟨by omega,by omega⟩ DJ.o
         .have HJ3:=hdq hL
          clear hL HJ p1 zp;go_wp2_with fail
          refine(HOV.o _).mono ?_;rintro e w7 ⟨rfl,ht⟩;have HJ4:=hdq (HJ3.o.touch ht);clear ht HJ3;go_wp2_with fail
          go_roundw
          case rel=>exact⟨s+1,P,by go_num,by omega,HP,HJ4⟩
          case measure=>simp[intOf];omega
        .have h01:(0:Int)<=(k:Int)-1:=by omega
         have h02:¬((k:Int)-1<(r.v.hn:Int)):=by have :=HE1.o;omega
         clear hcond;go_wp2_with fail
         refine(HWT.o _ HJ.o).mono ?_;rintro e w6 (⟨n',hn',bv,bx,ra,rc,ys,hkk,_⟩|⟨_,rfl,hL⟩)
         .exact absurd ⟨by omega,by omega⟩ DJ.o
         .have HJ3:=hdq hL
          clear hL HJ p1 zp;go_wp2_with fail
          refine(HOV.o _).mono ?_;rintro e w7 ⟨rfl,ht⟩;have HJ4:=hdq (HJ3.o.touch ht);clear ht HJ3;go_wp2_with fail
          go_roundw
          case rel=>exact⟨s+1,P,by go_num,by omega,HP,HJ4⟩
          case measure=>simp[intOf];omega
  .have hle:(k:Int)-1<=(r.v.sn:Int):=by have :=HE3.o;omega
   go_wp2_with fail
   clear p5 zp hle;refine(aaG (x:=x) (P:=P) ((k:Int)-1) HJ.o HMS.o (Ed.o P HP.o)).mono ?_;rintro e w5 ⟨s,b,P2,rfl,hs,hP2,hL⟩;have HJ2:=hdq hL;have Ht:=hdq hP2;clear hL hP2 HJ;have hw1:IntKind.i64.wrap (k:Int)=(k:Int):=IntWalk.i64_in _ (by omega);have hw2:IntKind.i64.wrap ((k:Int)-1+1)=(k:Int):=by rw[Int.sub_add_cancel];exact hw1
   have WI:Hid (∀W,P2 W->x.P W):=fun W hW=>HP.o W (Ht.o W hW).1;rcases hs with ⟨rfl,rfl,hno⟩|⟨n,hn,hkn,rfl,hpl⟩
   .rw[show MS.zero.raw.val= .agg #[(),True,True,(),false,false,(),(),(),True,()] from rfl]
    have HSE:=hdq (fun W=>Bf MS.zero MS.zero W (aak W) (aak W));rw[show MS.zero.val= .agg #[(),True,True,(),false,false,(),(),(),True,()] from rfl]at HSE;go_upto_region 9 with fail
    refine ay ?_;intro w6 LM;have HJ3:=hdq (HJ2.o.av LM);simp only[nAq,cAq]at HJ3;generalize aaP:w5.heap.size=b13 at HJ3|-;clear LM aaP HJ2;obtain⟨q0,q1,q2,q3,q4,p5,q5,zp,CK,CO⟩:=HJ3.o.BJ 1 rfl;clear q0 q1 q2 q3 q4 q5 CK CO;have hx:=HJ3.o.aC 2 rfl;have q0:=hx.cell 0;have q1:=hx.cell 1;have q2:=hx.cell 2;have q3:=hx.cell 3;have q4:=hx.cell 4;have q5:=hx.cell 5;have q6:=hx.cell 6;have q7:=hx.cell 7;have q8:=hx.cell 8;have q9:=hx.cell 9;have E5:=hx.cell 10;have zq:=hx.lt;simp at q0 q1 q2 q3 q4 q5 q6 q7 q8 q9 E5
    have hbe:∀W,(Instr.build 61 #[]).run prog W= .ok (.agg #[(),True,True,(),false,false,(),(),(),True,()]) W:=fun W=>run_build W 61 _ _ (by kernel_rfl);clear hx;by_cases hk0:k=0
    .have h01:(k:Int)-1<0:=by omega
     go_wp2_with fail
     refine(HSE.o _).mono ?_;rintro e w7 ⟨cc,rfl,hcc,ht⟩;obtain rfl:cc=true:=hcc.2 rfl;have HJ4:Hid (BD T w w7 ((x.fJ P2).ts++[r.th L,rvB b4 r.v])):=BD.aF (m:=[box b13 61 #[(),True,True,(),false,false,(),(),(),True,()]]) (by simpa using HJ3.o.touch ht);clear ht hcc HJ3;go_wp2_with fail
     go_roundw
     case rel=>exact⟨k+1,P2,by go_num,by omega,WI,HJ4⟩
     case measure=>simp[intOf,hw1,hw2];omega
    .have h01:¬((k:Int)-1<0):=by omega
     have h02:((k:Int)-1==(r.v.sn:Int))=true:=by have :=HE3.o;simp;omega
     go_wp2_with fail
     refine(HSE.o _).mono ?_;rintro e w7 ⟨cc,rfl,hcc,ht⟩;obtain rfl:cc=true:=hcc.2 rfl;have HJ4:Hid (BD T w w7 ((x.fJ P2).ts++[r.th L,rvB b4 r.v])):=BD.aF (m:=[box b13 61 #[(),True,True,(),false,false,(),(),(),True,()]]) (by simpa using HJ3.o.touch ht);clear ht hcc HJ3;go_wp2_with fail
     go_roundw
     case rel=>exact⟨k+1,P2,by go_num,by omega,WI,HJ4⟩
     case measure=>simp[intOf,hw1,hw2];omega
   .simp only[bL.eG,MS.raw]
    have hn':n<r.sys.length:=by have :=(PD HB.o.rel.n).1;omega
    obtain⟨bS,oS,hsa,hE⟩:=Px (P:=x.P) (HB.o.SA n hn') (WI.o _ (HJ2.o.still 2 rfl));have HMI:Hid (∀W,x.P W->r.sys[n].In W):=fun W hW=>(HB.o.on W hW).sy _ (List.getElem_mem hn');have HEQ:Hid (s.plain=r.sys[n].plain):=hpl.trans ((PD HB.o.rel.n).2 n hn hn');have HSE:=hdq (fun W (h1:s.In W) (h2:r.sys[n].In W)=>Bf s r.sys[n] W h1 h2);obtain⟨m,hm5⟩:∃m,r.sys[n]=m:=⟨_,rfl⟩;rw[hm5]at HMI HEQ HSE hE;have HEL:=hdq hE;have HSA:=hdq hsa;clear hpl hE hm5 hsa;rw[hkn];have hn0:(0:Int)<=(n:Int):=by omega
    have hn1:(n:Int)<(r.v.sn:Int):=by have :=HE3.o;omega
    have h01:¬((n:Int)<0):=by omega
    have hw3:IntKind.i64.wrap ((n:Int)+1)=(n:Int)+1:=IntWalk.i64_in _ (by omega);have h02:¬((n:Int)=(r.v.sn:Int)):=by omega
    have h03:((n:Int)==(r.v.sn:Int))=false:=by simpa using h02
    go_upto_region 9 with fail
    refine ay ?_;intro w6 LM;have HJ3:=hdq (HJ2.o.av LM);simp only[nAq,cAq]at HJ3;generalize aaP:w5.heap.size=b13 at HJ3|-;clear LM aaP HJ2;obtain⟨q0,q1,q2,q3,q4,p5,q5,zp,CK,CO⟩:=HJ3.o.BJ 1 rfl;clear q0 q1 q2 q3 q4 q5 CK CO;go_wp2_with fail
    clear p5 zp;have HS:Hid (∀W,BD T w W ((x.fJ P2).ts++[r.th L,rvB b4 r.v,box b13 61 #[s.thread,.slice s.ba s.bases.length s.bc,.slice s.ca s.conds.length s.cc,s.flag,s.parked,s.done,s.branch,s.v.kind,s.v.num,.slice s.v.addr s.v.parts.length s.v.cap,s.partner]])->(fun w'=>w'.cell? ⟨b13,0,none⟩=some (.int .i64 s.thread)/\w'.cell? ⟨b13,1,none⟩=some (.slice s.ba s.bases.length s.bc)/\w'.cell? ⟨b13,2,none⟩=some (.slice s.ca s.conds.length s.cc)/\w'.cell? ⟨b13,3,none⟩=some (.int .i64 s.flag)/\w'.cell? ⟨b13,4,none⟩=some (.bool s.parked)/\w'.cell? ⟨b13,5,none⟩=some (.bool s.done)/\w'.cell? ⟨b13,6,none⟩=some (.int .i64 s.branch)/\w'.cell? ⟨b13,7,none⟩=some (.int .i64 s.v.kind)/\w'.cell? ⟨b13,8,none⟩=some (.int .i64 s.v.num)/\w'.cell? ⟨b13,9,none⟩=some (.slice s.v.addr s.v.parts.length s.v.cap)/\w'.cell? ⟨b13,10,none⟩=some (.int .i64 s.partner)/\w'.cell? ⟨b4,5,none⟩=some (.slice (some ⟨bS,oS,none⟩) r.v.sn r.v.sc)/\w'.cell? ⟨bS,oS+n*11,none⟩=some (.int .i64 m.thread)/\w'.cell? ⟨bS,oS+n*11+1,none⟩=some (.slice m.ba m.bases.length m.bc)/\w'.cell? ⟨bS,oS+n*11+2,none⟩=some (.slice m.ca m.conds.length m.cc)/\w'.cell? ⟨bS,oS+n*11+3,none⟩=some (.int .i64 m.flag)/\w'.cell? ⟨bS,oS+n*11+4,none⟩=some (.bool m.parked)/\w'.cell? ⟨bS,oS+n*11+5,none⟩=some (.bool m.done)/\w'.cell? ⟨bS,oS+n*11+6,none⟩=some (.int .i64 m.branch)/\w'.cell? ⟨bS,oS+n*11+7,none⟩=some (.int .i64 m.v.kind)/\w'.cell? ⟨bS,oS+n*11+8,none⟩=some (.int .i64 m.v.num)/\w'.cell? ⟨bS,oS+n*11+9,none⟩=some (.slice m.v.addr m.v.parts.length m.v.cap)/\w'.cell? ⟨bS,oS+n*11+10,none⟩=some (.int .i64 m.partner)) W):=hdq (fun W hL=>by
     have h1:=hL.aC 2 rfl;have h2:=hL.aC 1 rfl;have h3:=(HEL.o _ (WI.o _ (hL.still 2 rfl))).2;refine⟨h1.cell 0,h1.cell 1,h1.cell 2,h1.cell 3,h1.cell 4,h1.cell 5,h1.cell 6,h1.cell 7,h1.cell 8,h1.cell 9,h1.cell 10,?_,h3 0 _ rfl,h3 1 _ rfl,h3 2 _ rfl,h3 3 _ rfl,h3 4 _ rfl,h3 5 _ rfl,h3 6 _ rfl,h3 7 _ rfl,h3 8 _ rfl,h3 9 _ rfl,h3 10 _ rfl⟩;rw[<-HSA.o];exact h2.cell 5)
    refine wp_region_held_drew (S:=fun w'=>w'.cell? ⟨b13,0,none⟩=some (.int .i64 s.thread)/\w'.cell? ⟨b13,1,none⟩=some (.slice s.ba s.bases.length s.bc)/\w'.cell? ⟨b13,2,none⟩=some (.slice s.ca s.conds.length s.cc)/\w'.cell? ⟨b13,3,none⟩=some (.int .i64 s.flag)/\w'.cell? ⟨b13,4,none⟩=some (.bool s.parked)/\w'.cell? ⟨b13,5,none⟩=some (.bool s.done)/\w'.cell? ⟨b13,6,none⟩=some (.int .i64 s.branch)/\w'.cell? ⟨b13,7,none⟩=some (.int .i64 s.v.kind)/\w'.cell? ⟨b13,8,none⟩=some (.int .i64 s.v.num)/\w'.cell? ⟨b13,9,none⟩=some (.slice s.v.addr s.v.parts.length s.v.cap)/\w'.cell? ⟨b13,10,none⟩=some (.int .i64 s.partner)/\w'.cell? ⟨b4,5,none⟩=some (.slice (some ⟨bS,oS,none⟩) r.v.sn r.v.sc)/\w'.cell? ⟨bS,oS+n*11,none⟩=some (.int .i64 m.thread)/\w'.cell? ⟨bS,oS+n*11+1,none⟩=some (.slice m.ba m.bases.length m.bc)/\w'.cell? ⟨bS,oS+n*11+2,none⟩=some (.slice m.ca m.conds.length m.cc)/\w'.cell? ⟨bS,oS+n*11+3,none⟩=some (.int .i64 m.flag)/\w'.cell? ⟨bS,oS+n*11+4,none⟩=some (.bool m.parked)/\w'.cell? ⟨bS,oS+n*11+5,none⟩=some (.bool m.done)/\w'.cell? ⟨bS,oS+n*11+6,none⟩=some (.int .i64 m.branch)/\w'.cell? ⟨bS,oS+n*11+7,none⟩=some (.int .i64 m.v.kind)/\w'.cell? ⟨bS,oS+n*11+8,none⟩=some (.int .i64 m.v.num)/\w'.cell? ⟨bS,oS+n*11+9,none⟩=some (.slice m.v.addr m.v.parts.length m.v.cap)/\w'.cell? ⟨bS,oS+n*11+10,none⟩=some (.int .i64 m.partner)) (by kernel_rfl) (HS.o _ HJ3.o.drew) (fun hHeld=>?_);refine nmq (hdq HJ3.o.drew) hHeld fun wa HA hHeld=>?_;clear HJ3;refine tkq 0 94 ?_;refine tkq 1 95 ?_;refine tkq 2 96 ?_;refine tkq 3 97 ?_;refine tkq 4 98 ?_;refine tkq 5 99 ?_;refine tkq 6 100 ?_;refine tkq 7 101 ?_;refine tkq 8 102 ?_;refine rdq 9 rfl fun K hK=>?_;go_simp;refine(HSE.o wa (Ht.o _ (HA.o.still 2 rfl)).2 (HMI.o _ (WI.o _ (HA.o.still 2 rfl)))).mono ?_;rintro en wb ⟨cc,rfl,hcc,ht⟩;obtain rfl:cc=true:=hcc.2 HEQ.o;have HB2:=hdq (HA.o.touch ht);clear ht hcc HA;go_simp;refine kpq hK.o (fun hHeld=>?_) (HS.o _ HB2.o);clear hK K;refine tkq 10 104 ?_;refine tkq 11 105 ?_;have HJ4:Hid (BD T w wb ((x.fJ P2).ts++[r.th L,rvB b4 r.v])):=BD.aF (m:=[box b13 61 #[s.thread,.slice s.ba s.bases.length s.bc,.slice s.ca s.conds.length s.cc,s.flag,s.parked,s.done,s.branch,s.v.kind,s.v.num,.slice s.v.addr s.v.parts.length s.v.cap,s.partner]]) (by simpa using HB2.o);refine dxq HJ4 fun wc HC=>?_;clear HB2 HJ4 hHeld HS HSE HMI;go_wp2_with fail
    go_roundw
    case rel=>
     exact⟨k+1,P2,by go_num,by omega,WI,HC⟩
    case measure=>simp[intOf,hw3];omega
end Go.Proofs.YtddnnapoaonmjaaGreatDoor
