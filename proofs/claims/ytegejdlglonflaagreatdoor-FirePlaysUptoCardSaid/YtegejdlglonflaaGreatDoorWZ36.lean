/-
  Texts of FirePlays, laid together by program.
-/
import Derived.Test.YtegejdlglonflaaGreatDoorWZ32
import Derived.Test.YtegejdlglonflaaGreatDoorWZ35
namespace Go.Proofs.YtegejdlglonflaaGreatDoor
open Go.RowKit Go.Shelf Go.Proofs.Tryz
set_option maxRecDepth 100000
set_option maxHeartbeats 8000000
set_option linter.unusedVariables false
set_option linter.unusedSimpArgs false
theorem acN{s:Ar}{k:Nat}(hk:0<k)(h:s.C.length+k<=s.most):(s.au k).2=(s.C.length,0):=by
 unfold Ar.au;rw[if_neg (by omega),if_neg (by omega)]
theorem Yt{L:PL}(T:List Nat)(w:World)(v:RV)(s:Ar)(P:World->Prop)(cs:List Value)(h:BD T w w [Pt L (.slice v.ca v.cn v.cc) (.slice v.la v.ln v.lc) s,aA P])(hm:v.most=(s.most:Int))(hP:∀W,P W->aG W v.ha 3 v.hn cs)(hcl:cs.length=v.hn*3)(hone:∀u∈cs,u.oneCell'=true)(hnn:v.hn<=100000)(hok:s.C.length+1<=s.most):
  Calls prog 43 #[v.val] w fun e w'=>∃(v':RV) (L':PL),(∀x∈L,x∈L')/\e= .returned (.tuple #[v'.val,(v.hn:Int),()])/\gJ 0 v v'/\BD T w w' [Pt L' (.slice v'.ca v'.cn v'.cc) (.slice v'.la v'.ln v'.lc) (s.au 1).1,aA fun W=>P W/\aG W v'.ha 3 (v.hn+1) (cs++[.int .i64 (s.C.length:Int),.slice none 0 0,.slice none 0 0])]:=by
 obtain⟨hcn,hln⟩:=Qp h;have hI:adJ prog 43 185 3 56:=adz KD;have hsrc:ac6 [aA P] v.ha v.hn cs:=acP fun W hW=>(hP W hW).iI hcl (by decide);have hA:(s.au 1).2=(s.C.length,0):=acN (k:=1) (by decide) hok;have hwr:IntKind.i64.wrap (v.hn:Int)=(v.hn:Int):=IntWalk.i64_in _ (by omega);have hN:=aaD (L:=L) (vc:= .slice v.ca v.cn v.cc) (vl:= .slice v.la v.ln v.lc) fun T w h=>(ZU T w _ _ s h).mono fun e w' ⟨CQ,Dk,L',he,hL,hl⟩=>⟨CQ,Dk,L',[],he,hL,hl⟩;have hg:aai prog 43 #[v.val] [[Pt L (.slice v.ca v.cn v.cc) (.slice v.la v.ln v.lc) s],[aA P]] (xq (fun x:RV×PL=>(∀y∈L,y∈x.2)/\gJ 0 v x.1) (fun x=> .tuple #[x.1.val,(v.hn:Int),()]) fun x=>[[Pt x.2 (.slice x.1.ca x.1.cn x.1.cc) (.slice x.1.la x.1.ln x.1.lc) (s.au 1).1],[aA fun W=>P W/\aG W x.1.ha 3 (v.hn+1) (cs++[.int .i64 (s.C.length:Int),.slice none 0 0,.slice none 0 0])]]):=by
  clear h hP;simp only[bI,hA]at hN;obtain⟨ca,cn,cc,most,la,ln,lc,ha,hn,hc,oa,on,oc,sa,sn,sc⟩:=v;dsimp only[RV.val]at *;subst hm hcn hln;have hn1:hn+1<=4000000:=by omega
  have hn0:hn<=4000000:=by omega
  have hn2:hn+1<=2000000:=by omega
  clear hok hnn;refine aai.go func43 ntmps43 ?_;refine go2 fun _ _=>?_;refine cr hN fun⟨a1,a2,a3,a4,L'⟩ Qy=>?_;refine go2 fun _ _=>?_;refine W.rgd ?_;repeat (refine' rgk ?_;rotate_left)
  refine rgz 0 ?_ ?_;refine go ?_;refine mbq (hal:=by intro w;go_simp;exact⟨rfl,rfl⟩) fun _=>?_;refine go ?_;refine apq hI hcl hone hn0 (by decide) (hnm:=by simp) (hs:=by(repeat (first |exact acv.here hsrc|apply acv.there));done) fun b1 k1=>?_;refine go ?_;refine mbq (hal:=by intro w;go_simp;exact⟨rfl,rfl⟩) fun _=>?_;refine apq (news:=[.int .i64 (s.C.length:Int),.slice none 0 0,.slice none 0 0]) (m:=1) hI rfl (by simp[Value.oneCell']) hn1 (by decide) (hnm:=rfl) fun b2 k2=>?_;refine go ?_;refine W.rgd ?_;repeat (refine' rgk ?_;rotate_left)
  refine rgz 0 ?_ ?_;refine go ?_;refine W.ady [[Pt L' (.slice a1 (s.au 1).1.C.length a2) (.slice a3 (s.au 1).1.L.length a4) (s.au 1).1],[aA fun W=>P W/\aG W b2 3 (hn+1) (cs++[.int .i64 (s.C.length:Int),.slice none 0 0,.slice none 0 0])]] (fun T w0 w hl=>(hl.sel [0,1,6] (l':=[Pt L' (.slice a1 (s.au 1).1.C.length a2) (.slice a3 (s.au 1).1.L.length a4) (s.au 1).1,aA P,aS 185 3 (.slice b2 (hn+1) k2) (hn+1) (cs++[.int .i64 (s.C.length:Int),.slice none 0 0,.slice none 0 0])]) rfl (by decide)).settle (l:=[_,_]) 1 rfl fun W f Yl hf=>⟨Yl,mg hf.2 rfl (by decide) hn2⟩) ?_;exact⟨(⟨a1,_,a2,_,a3,_,a4,b2,_,k2,_,_,_,_,_,_⟩,L'),⟨Qy,by simp[gJ]⟩,rfl,rfl⟩
  all_goals kernel_rfl
 exact(hg T w h).mono fun e w' ⟨Y,_,⟨x,⟨h1,h2⟩,he,hY⟩,hl⟩=>⟨x.1,x.2,h1,he,h2,by rw[hY]at hl;exact hl⟩
theorem YB{L:PL}(T:List Nat)(w:World)(v:RV)(s:Ar)(P:World->Prop)(cs:List Value)(h:BD T w w [Pt L (.slice v.ca v.cn v.cc) (.slice v.la v.ln v.lc) s,aA P])(hm:v.most=(s.most:Int))(hP:∀W,P W->aG W v.oa 2 v.on cs)(hcl:cs.length=v.on*2)(hone:∀u∈cs,u.oneCell'=true)(hnn:v.on<=100000)(hok:s.C.length+2<=s.most):
  Calls prog 44 #[v.val] w fun e w'=>∃(v':RV) (L':PL),(∀x∈L,x∈L')/\e= .returned (.tuple #[v'.val,(v.on:Int),()])/\gJ 1 v v'/\BD T w w' [Pt L' (.slice v'.ca v'.cn v'.cc) (.slice v'.la v'.ln v'.lc) (s.au 2).1,aA fun W=>P W/\aG W v'.oa 2 (v.on+1) (cs++[.int .i64 (s.C.length:Int),.slice none 0 0])]:=by
 obtain⟨hcn,hln⟩:=Qp h;have hI:adJ prog 44 38 2 32:=adz Kr;have hsrc:ac6 [aA P] v.oa v.on cs:=acP fun W hW=>(hP W hW).iI hcl (by decide);have hA:(s.au 2).2=(s.C.length,0):=acN (k:=2) (by decide) hok;have hwr:IntKind.i64.wrap (v.on:Int)=(v.on:Int):=IntWalk.i64_in _ (by omega);have hN:=aaD (L:=L) (vc:= .slice v.ca v.cn v.cc) (vl:= .slice v.la v.ln v.lc) fun T w h=>ZR T w _ _ s h hok;have hg:aai prog 44 #[v.val] [[Pt L (.slice v.ca v.cn v.cc) (.slice v.la v.ln v.lc) s],[aA P]] (xq (fun x:RV×PL=>(∀y∈L,y∈x.2)/\gJ 1 v x.1) (fun x=> .tuple #[x.1.val,(v.on:Int),()]) fun x=>[[Pt x.2 (.slice x.1.ca x.1.cn x.1.cc) (.slice x.1.la x.1.ln x.1.lc) (s.au 2).1],[aA fun W=>P W/\aG W x.1.oa 2 (v.on+1) (cs++[.int .i64 (s.C.length:Int),.slice none 0 0])]]):=by
  clear h hP;simp only[bI,hA]at hN;obtain⟨ca,cn,cc,most,la,ln,lc,ha,hn,hc,oa,on,oc,sa,sn,sc⟩:=v;dsimp only[RV.val]at *;subst hm hcn hln;have hn1:on+1<=4000000:=by omega
  have hn0:on<=4000000:=by omega
  have hn2:on+1<=2000000:=by omega
  clear hok hnn;refine aai.go func44 ntmps44 ?_;refine go2 fun _ _=>?_;refine cr hN fun⟨a1,a2,a3,a4,L'⟩ Qy=>?_;refine go2 fun _ _=>?_;refine W.rgd ?_;repeat (refine' rgk ?_;rotate_left)
  refine rgz 0 ?_ ?_;refine go ?_;refine mbq (hal:=by intro w;go_simp;exact⟨rfl,rfl⟩) fun _=>?_;refine go ?_;refine apq hI hcl hone hn0 (by decide) (hnm:=by simp) (hs:=by(repeat (first |exact acv.here hsrc|apply acv.there));done) fun b1 k1=>?_;refine go ?_;refine mbq (hal:=by intro w;go_simp;exact⟨rfl,rfl⟩) fun _=>?_;refine apq (news:=[.int .i64 (s.C.length:Int),.slice none 0 0]) (m:=1) hI rfl (by simp[Value.oneCell']) hn1 (by decide) (hnm:=rfl) fun b2 k2=>?_;refine go ?_;refine W.rgd ?_;repeat (refine' rgk ?_;rotate_left)
  refine rgz 0 ?_ ?_;refine go ?_;refine W.ady [[Pt L' (.slice a1 (s.au 2).1.C.length a2) (.slice a3 (s.au 2).1.L.length a4) (s.au 2).1],[aA fun W=>P W/\aG W b2 2 (on+1) (cs++[.int .i64 (s.C.length:Int),.slice none 0 0])]] (fun T w0 w hl=>(hl.sel [0,1,6] (l':=[Pt L' (.slice a1 (s.au 2).1.C.length a2) (.slice a3 (s.au 2).1.L.length a4) (s.au 2).1,aA P,aS 38 2 (.slice b2 (on+1) k2) (on+1) (cs++[.int .i64 (s.C.length:Int),.slice none 0 0])]) rfl (by decide)).settle (l:=[_,_]) 1 rfl fun W f Yl hf=>⟨Yl,mg hf.2 rfl (by decide) hn2⟩) ?_;exact⟨(⟨a1,_,a2,_,a3,_,a4,_,_,_,b2,_,k2,_,_,_⟩,L'),⟨Qy,by simp[gJ]⟩,rfl,rfl⟩
  all_goals kernel_rfl
 exact(hg T w h).mono fun e w' ⟨Y,_,⟨x,⟨h1,h2⟩,he,hY⟩,hl⟩=>⟨x.1,x.2,h1,he,h2,by rw[hY]at hl;exact hl⟩
theorem Xx{L:PL}(T:List Nat)(w:World)(v:RV)(s:Ar)(P:World->Prop)(cs:List Value)(th:Int)(ba:Option Addr)(bases:List MB)(bc:Nat)(ca:Option Addr)(conds:List Int)(cc:Nat)(h:BD T w w [Pt L (.slice v.ca v.cn v.cc) (.slice v.la v.ln v.lc) s,aA P])(hm:v.most=(s.most:Int))(hP:∀W,P W->aG W v.sa 11 v.sn cs)(hcl:cs.length=v.sn*11)(hone:∀u∈cs,u.oneCell'=true)(hnn:v.sn<=100000)(hok:s.C.length+1<=s.most)(hA0:∀W,P W->iJ W ba bases ca conds)(hbig:∀b∈bases,b.Big)(hright:nM v.hn v.on th bases conds):
  Calls prog 45 #[v.val,th,.slice ba bases.length bc,.slice ca conds.length cc] w fun e w'=>∃(v':RV) (L':PL),(∀x∈L,x∈L')/\e= .returned (.tuple #[v'.val,(v.sn:Int),()])/\gJ 2 v v'/\BD T w w' [Pt L' (.slice v'.ca v'.cn v'.cc) (.slice v'.la v'.ln v'.lc) (s.au 1).1,aA fun W=>P W/\aG W v'.sa 11 (v.sn+1) (cs++[.int .i64 th,.slice ba bases.length bc,.slice ca conds.length cc,.int .i64 (s.C.length:Int),.bool false,.bool false,.int .i64 0,.int .i64 0,.int .i64 0,.slice none 0 0,.int .i64 0])]:=by
 obtain⟨hcn,hln⟩:=Qp h;have hI:adJ prog 45 60 11 128:=adz mE;have hsrc:ac6 [aA P] v.sa v.sn cs:=acP fun W hW=>(hP W hW).iI hcl (by decide);have hA:(s.au 1).2=(s.C.length,0):=acN (k:=1) (by decide) hok;have hwr:IntKind.i64.wrap (v.sn:Int)=(v.sn:Int):=IntWalk.i64_in _ (by omega);have hbs:∀W,(Instr.build 60 #[(0,.int .i64 th),(1,.slice ba bases.length bc),(2,.slice ca conds.length cc),(3,.int .i64 (s.C.length:Int))]).run prog W= .ok (.agg #[th,.slice ba bases.length bc,.slice ca conds.length cc,(s.C.length:Int),false,false,(),(),(),True,()]) W:=fun W=>run_build W 60 _ _ (by kernel_rfl);have hC:aai prog 128 #[v.val,th,.slice ba bases.length bc,.slice ca conds.length cc] [[aA P]] (xq (fun _:Unit=>True) (fun _=> .bool true) fun _=>[[aA P]]):=aa1 (R:=fun e=>e= .returned (.bool true)) (fun W hW=>(zD v W th ba bases bc ca conds cc (hA0 W hW) hbig).mono fun e w' ⟨c,he,hc,ht⟩=>⟨by rw[he,hc.2 hright],ht⟩) fun e he=>⟨(),trivial,he⟩;have hN:=aaD (L:=L) (vc:= .slice v.ca v.cn v.cc) (vl:= .slice v.la v.ln v.lc) fun T w h=>(ZW T w _ _ s h);have hg:aai prog 45 #[v.val,th,.slice ba bases.length bc,.slice ca conds.length cc] [[Pt L (.slice v.ca v.cn v.cc) (.slice v.la v.ln v.lc) s],[aA P]] (xq (fun x:RV×PL=>(∀y∈L,y∈x.2)/\gJ 2 v x.1) (fun x=> .tuple #[x.1.val,(v.sn:Int),()]) fun x=>[[Pt x.2 (.slice x.1.ca x.1.cn x.1.cc) (.slice x.1.la x.1.ln x.1.lc) (s.au 1).1],[aA fun W=>P W/\aG W x.1.sa 11 (v.sn+1) (cs++[.int .i64 th,.slice ba bases.length bc,.slice ca conds.length cc,.int .i64 (s.C.length:Int),.bool false,.bool false,.int .i64 0,.int .i64 0,.int .i64 0,.slice none 0 0,.int .i64 0])]]):=by
  clear h hP hA0 hbig hright;simp only[bI,hA]at hN;obtain⟨vca,cn,vcc,most,la,ln,lc,ha,hn,hc,oa,on,oc,sa,sn,sc⟩:=v;dsimp only[RV.val]at *;subst hm hcn hln;have hn1:sn+1<=4000000:=by omega
  have hn0:sn<=4000000:=by omega
  have hn2:sn+1<=2000000:=by omega
  clear hok hnn;refine aai.go func45 ntmps45 ?_;refine go2 fun _ _=>?_;refine cr hC fun _ _=>?_;refine go ?_;refine cr hN fun⟨a1,a2,a3,a4,L'⟩ Qy=>?_;refine go1 fun _=>?_;refine W.rgd ?_;repeat (refine' rgk ?_;rotate_left)
  refine rgz 0 ?_ ?_;refine go ?_;refine mbq (hal:=by intro w;go_simp;exact⟨rfl,rfl⟩) fun _=>?_;refine go ?_;refine apq hI hcl hone hn0 (by decide) (hnm:=by simp) (hs:=by(repeat (first |exact acv.here hsrc|apply acv.there));done) fun b1 k1=>?_;refine go ?_;refine mbq (hal:=by intro w;go_simp;exact⟨rfl,rfl⟩) fun _=>?_;refine apq (news:=[.int .i64 th,.slice ba bases.length bc,.slice ca conds.length cc,.int .i64 (s.C.length:Int),.bool false,.bool false,.int .i64 0,.int .i64 0,.int .i64 0,.slice none 0 0,.int .i64 0]) (m:=1) hI rfl (by simp[Value.oneCell']) hn1 (by decide) (hnm:=rfl) fun b2 k2=>?_;refine go ?_;refine W.rgd ?_;repeat (refine' rgk ?_;rotate_left)
  refine rgz 0 ?_ ?_;refine go ?_;refine W.ady [[Pt L' (.slice a1 (s.au 1).1.C.length a2) (.slice a3 (s.au 1).1.L.length a4) (s.au 1).1],[aA fun W=>P W/\aG W b2 11 (sn+1) (cs++[.int .i64 th,.slice ba bases.length bc,.slice ca conds.length cc,.int .i64 (s.C.length:Int),.bool false,.bool false,.int .i64 0,.int .i64 0,.int .i64 0,.slice none 0 0,.int .i64 0])]] (fun T w0 w hl=>(hl.sel [0,1,5] (l':=[Pt L' (.slice a1 (s.au 1).1.C.length a2) (.slice a3 (s.au 1).1.L.length a4) (s.au 1).1,aA P,aS 60 11 (.slice b2 (sn+1) k2) (sn+1) (cs++[.int .i64 th,.slice ba bases.length bc,.slice ca conds.length cc,.int .i64 (s.C.length:Int),.bool false,.bool false,.int .i64 0,.int .i64 0,.int .i64 0,.slice none 0 0,.int .i64 0])]) rfl (by decide)).settle (l:=[_,_]) 1 rfl fun W f Yl hf=>⟨Yl,mg hf.2 rfl (by decide) hn2⟩) ?_;exact⟨(⟨a1,_,a2,_,a3,_,a4,_,_,_,_,_,_,b2,_,k2⟩,L'),⟨Qy,by simp[gJ]⟩,rfl,rfl⟩
  all_goals kernel_rfl
 exact(hg T w h).mono fun e w' ⟨Y,_,⟨x,⟨h1,h2⟩,he,hY⟩,hl⟩=>⟨x.1,x.2,h1,he,h2,by rw[hY]at hl;exact hl⟩
structure Both(x:WS)(ms:List MS)(r:RW):Prop where
 rel:Rel x ms r
 fits:r.Fits
 on:∀W,x.P W->r.On W
 cc:∀c∈r.cos,c.cell+1<r.s.C.length
 small:r.s.C.length<=65536
 fl:∀n (hn:n<r.sys.length),∃q:Nat,(q:Int)=r.sys[n].flag
theorem Qk.cell{W:World}{a:Option Addr}{i:Nat}{us:List Value}(h:Qk W a i us)(j:Nat){u:Value}(hu:us[j]? =some u):QB W a (i+j) u:=by
 obtain⟨b,o,h1,h2,h3⟩:=h;refine⟨b,o,h1,h2,?_⟩;rw[<-Nat.add_assoc];exact h3 j u hu
theorem Sy{α:Type}{f:α->List Value}{m:Nat}(hf:∀a,(f a).length=m){W:World}{a:Option Addr}{l:List α}{n:Nat}(hn:n=l.length)(h:aG W a m n (l.flatMap f))(i:Nat)(hi:i<l.length):Qk W a (i*m) (f l[i]):=by
 subst hn;obtain⟨b,o,h1,h2,h3⟩:=aG.at hf h i hi;refine⟨b,o,h1,h2,fun j u hu=>?_⟩;have hj:j<m:=by have :=(List.getElem?_eq_some_iff.1 hu).1;rw[hf]at this;exact this
 rw[h3 j hj,hu]
section
variable {x:WS} {ms:List MS} {r:RW}
theorem PD{α β γ:Type}{f:α->γ}{g:β->γ}{l:List α}{m:List β}(h:l.map f=m.map g):l.length=m.length/\∀n (h1:n<l.length) (h2:n<m.length),f l[n]=g m[n]:=by
 have hl:l.length=m.length:=by simpa using congrArg List.length h
 refine⟨hl,fun n h1 h2=>?_⟩;have :=congrArg (·[n]?) h;simp only[List.getElem?_map,List.getElem?_eq_getElem h1,List.getElem?_eq_getElem h2,Option.map_some,Option.some.injEq]at this;exact this
theorem Both.ch(h:Both x ms r)(k:Int):(at_ x.BI k=none/\¬(0<=k/\k<(r.v.hn:Int)))\/∃(n:Nat) (hn:n<r.BI.length) (hx:n<x.BI.length),k=(n:Int)/\at_ x.BI k=some x.BI[n]/\x.BI[n].pl=r.BI[n].pl:=by
 obtain⟨hl,hm⟩:=PD h.rel.h;by_cases hk:0<=k/\k<(r.v.hn:Int)
 .obtain⟨n,rfl⟩:=Int.eq_ofNat_of_zero_le hk.1
  have hn:n<r.BI.length:=by have :=h.fits.h;omega
  exact .inr ⟨n,hn,by omega,rfl,gI (by omega),hm n (by omega) hn⟩
 .exact .inl ⟨gM (by have :=h.fits.h;omega),hk⟩
theorem Both.co(h:Both x ms r)(k:Int):(at_ x.cos k=none/\¬(0<=k/\k<(r.v.on:Int)))\/∃(n:Nat) (hn:n<r.cos.length) (hx:n<x.cos.length),k=(n:Int)/\at_ x.cos k=some x.cos[n]/\x.cos[n].pl=r.cos[n].pl:=by
 obtain⟨hl,hm⟩:=PD h.rel.o;by_cases hk:0<=k/\k<(r.v.on:Int)
 .obtain⟨n,rfl⟩:=Int.eq_ofNat_of_zero_le hk.1
  have hn:n<r.cos.length:=by have :=h.fits.o;omega
  exact .inr ⟨n,hn,by omega,rfl,gI (by omega),hm n (by omega) hn⟩
 .exact .inl ⟨gM (by have :=h.fits.o;omega),hk⟩
theorem Both.sy(h:Both x ms r)(hs:x.sys=ms.map MS.raw)(k:Int):(at_ x.sys k=none/\¬(0<=k/\k<(r.v.sn:Int)))\/∃(n:Nat) (hn:n<r.sys.length) (hx:n<ms.length) (hy:n<x.sys.length),k=(n:Int)/\at_ x.sys k=some x.sys[n]/\x.sys[n]=ms[n].raw/\ms[n].plain=r.sys[n].plain:=by
 obtain⟨hl,hm⟩:=PD h.rel.n;have hxl:x.sys.length=ms.length:=by rw[hs,List.length_map]
 by_cases hk:0<=k/\k<(r.v.sn:Int)
 .obtain⟨n,rfl⟩:=Int.eq_ofNat_of_zero_le hk.1
  have hn:n<r.sys.length:=by have :=h.fits.n;omega
  exact .inr ⟨n,hn,by omega,by omega,rfl,gI (by omega),by simp only[hs,List.getElem_map],hm n (by omega) hn⟩
 .exact .inl ⟨gM (by have :=h.fits.n;omega),hk⟩
theorem Both.XH(h:Both x ms r)(n:Nat)(hn:n<r.BI.length):∀W,x.P W->Qk W r.v.ha (n*3) r.BI[n].cells:=fun W hW=>Sy Uw h.fits.h (h.on W hW).h n hn
theorem Both.Um(h:Both x ms r)(n:Nat)(hn:n<r.cos.length):∀W,x.P W->Qk W r.v.oa (n*2) r.cos[n].cells:=fun W hW=>Sy UE h.fits.o (h.on W hW).o n hn
theorem Both.SA(h:Both x ms r)(n:Nat)(hn:n<r.sys.length):∀W,x.P W->Qk W r.v.sa (n*11) r.sys[n].cells:=fun W hW=>Sy Vv h.fits.n (h.on W hW).n n hn
end
theorem VT(s:Ar)(a:Int)(p q:Nat):(s.swap a p q).2.2=0\/(s.swap a p q).2.1=Acc.zero:=(vZ s 3 a (eH p q)).imp id And.right
theorem XJ{s s':Ar}{d:Bool}{e:Nat}(h:e=0\/d=false):rB s (some (d,e,s'))=(d,(e:Int),s'):=by
 unfold rB;rcases h with rfl|rfl
 .rfl
 .by_cases he:e=0
  .subst he;rfl
  .simp only[he,if_false]
theorem Ye{s s':Ar}(o e:Nat):rF s (some ((bE o e).1,(bE o e).2,s'))=(((bE o e).1:Int),((bE o e).2:Int),s'):=by
 unfold rF;by_cases he:(bE o e).2=0
 .simp only[he,if_true];rfl
 .simp only[he,if_false]
  have :(bE o e).1=0:=by
   unfold bE at he|-;split<;>rename_i h1
   .rfl
   .rw[if_neg h1]at he
    split at he<;>rename_i h2
    .rw[if_pos h2]
    .exact absurd rfl he
  rw[this];rfl
def Sn(x:WS)(r:RW)(L:PL)(s':Ar)(E:RV->Ending)(e:Ending)(m':List ai):Prop:=∃(v':RV) (L':PL),(∀y∈L,y∈L')/\e=E v'/\PG r.v v'/\m'=x.ts++[RW.th {r with v:=v',s:=s'} L']
theorem QX{f:FuncId}{args:Array Value}{x:WS}{r:RW}{L:PL}{E:RV->Ending}(h:∀w,Calls prog f args w fun e w'=>e=E r.v/\Touch [] w w'):Does f args (x.ts++[r.th L]) (Sn x r L r.s E):=
 (bA h).mono fun e m' ⟨h1,h2⟩=>⟨r.v,L,fun _ h=>h,h1,⟨rfl,rfl,rfl,rfl,rfl,rfl,rfl,rfl,rfl,rfl⟩,h2⟩
theorem aby{f:FuncId}{args:Array Value}{x:WS}{r:RW}{L:PL}{s':Ar}{E:RV->Ending}(h:∀T w,(∀n∈x.s.C,Wd n)->BD T w w [r.th L,aA x.P]->Calls prog f args w fun e w'=>∃(v':RV) (L':PL),(∀y∈L,y∈L')/\e=E v'/\PG r.v v'/\BD T w w' [Pt L' (.slice v'.ca v'.cn v'.cc) (.slice v'.la v'.ln v'.lc) s',aA x.P]):Does f args (x.ts++[r.th L]) (Sn x r L s' E):=by
 intro T w hL;have hwd:=(hL.nP 1 rfl).1;refine(RS (x:=x) (r:=r) (L:=L) (fun e r' Q=>∃v',e=E v'/\PG r.v v'/\Q=x.P/\r'={r with v:=v',s:=s'}) (fun T w hL=>(h T w hwd hL).mono fun e w' ⟨v',L',h1,h2,h3,h4⟩=>⟨{r with v:=v',s:=s'},L',x.P,h1,⟨v',h2,h3,rfl,rfl⟩,fun _ h=>h,h4⟩) T w hL).mono ?_;rintro e w' ⟨m',⟨r',L',Q,h1,⟨v',h2,h3,rfl,rfl⟩,_,rfl⟩,hL'⟩;exact⟨_,⟨v',L',h1,h2,h3,rfl⟩,hL'⟩
theorem QC{x:WS}{ms:List MS}{r:RW}{s':Ar}{v':RV}(h:Both x ms r)(hv:PG r.v v')(h1:One x.s s'):Both (x.ar s') ms {r with v:=v',s:=s'}:=by
 obtain⟨v1,v2,v3,v4,v5,v6,v7,v8,v9,v10⟩:=hv;refine⟨⟨rfl,h.rel.h,h.rel.o,h.rel.n⟩,⟨?_,?_,?_,?_⟩,fun W hW=>?_,fun c hc=>?_,?_,h.fl⟩
 .show v'.most=_
  rw[v1,h.fits.m,<-h.rel.s,h1.2.1]
 .show v'.hn=_
  rw[v3];exact h.fits.h
 .show v'.on=_
  rw[v6];exact h.fits.o
 .show v'.sn=_
  rw[v9];exact h.fits.n
 .have hO:=h.on W hW
  exact⟨by show aG W v'.ha 3 v'.hn _;rw[v2,v3];exact hO.h,by show aG W v'.oa 2 v'.on _;rw[v5,v6];exact hO.o,by show aG W v'.sa 11 v'.sn _;rw[v8,v9];exact hO.n,hO.ch,hO.co,hO.sy⟩
 .show _<s'.C.length
  rw[h1.1,h.rel.s];exact h.cc c hc
 .show s'.C.length<=_
  rw[h1.1,h.rel.s];exact h.small
theorem swapIn{s:Ar}{a:Int}{p q:Nat}(h:0<=a/\a<(s.C.length:Int)):(s.swap a p q).2.2=0:=by
 show(s.iw 3 a (eH p q)).2.2=0
 unfold Ar.iw;rw[if_pos h]
theorem Both.SL{x:WS}{ms:List MS}{r:RW}(h:Both x ms r)(n:Nat)(hn:n<r.cos.length):r.cos[n].cell<=1000000:=by
 have h1:=h.cc _ (List.getElem_mem hn);have h2:=h.small;omega
theorem Yg{x:WS}{ms:List MS}{r:RW}{L:PL}(h:Both x ms r)(hL:x.s.L.length<1000000)(k:Int):Does 56 #[r.v.val,k] (x.ts++[r.th L]) (Sn x r L (x.fQ k).2.2 fun v'=> .returned (.tuple #[v'.val,.bool (x.fQ k).1,.int .i64 (x.fQ k).2.1])):=by
 rcases h.ch k with ⟨h1,h2⟩|⟨n,hn,hx,rfl,h1,h2⟩
 .have e1:x.fQ k=(false,4,r.s):=by unfold WS.fQ;rw[h1,h.rel.s];rfl
  rw[e1];exact QX fun w=>Ol r.v w k h2
 .skip
  have hc:x.BI[n].cell=(r.BI[n].cell:Int):=congrArg Prod.fst h2;have e1:x.fQ (n:Int)=((r.s.swap (r.BI[n].cell:Int) 0 1).2.1.did,((r.s.swap (r.BI[n].cell:Int) 0 1).2.2:Int),(r.s.swap (r.BI[n].cell:Int) 0 1).1):=by unfold WS.fQ;rw[h1,h.rel.s];simp only[Option.map_some];rw[hc];exact XJ ((VT r.s _ 0 1).imp id fun h=>by rw[h];rfl)
  rw[e1];refine aby fun T w hwd hL'=>?_;exact YE T w r.v r.s x.P n r.BI[n].cell hL' h.fits.m (by rw[h.fits.h];exact hn) (fun W hW=>(h.XH n hn W hW).cell 0 rfl) (by rw[<-h.rel.s];omega)
theorem VK{x:WS}{ms:List MS}{r:RW}{L:PL}(h:Both x ms r)(hL:x.s.L.length<1000000)(k:Int):Does 59 #[r.v.val,k] (x.ts++[r.th L]) (Sn x r L (x.eF k).2 fun v'=> .returned (.tuple #[v'.val,.int .i64 (x.eF k).1])):=by
 rcases h.ch k with ⟨h1,h2⟩|⟨n,hn,hx,rfl,h1,h2⟩
 .have e1:x.eF k=(4,r.s):=by unfold WS.eF;rw[h1,h.rel.s];rfl
  rw[e1];exact QX fun w=>zL r.v w k h2
 .skip
  have hc:x.BI[n].cell=(r.BI[n].cell:Int):=congrArg Prod.fst h2;have e1:x.eF (n:Int)=((r.s.wH (r.BI[n].cell:Int):Int),(r.s.swap (r.BI[n].cell:Int) 1 0).1):=by unfold WS.eF;rw[h1,h.rel.s];simp only[Option.map_some];rw[hc];rfl
  rw[e1];refine aby fun T w hwd hL'=>?_;exact WK T w r.v r.s x.P n r.BI[n].cell hL' h.fits.m (by rw[h.fits.h];exact hn) (fun W hW=>(h.XH n hn W hW).cell 0 rfl) (by rw[<-h.rel.s];omega)
theorem UC{x:WS}{ms:List MS}{r:RW}{L:PL}(h:Both x ms r)(hL:x.s.L.length<1000000)(k:Int):Does 83 #[r.v.val,k] (x.ts++[r.th L]) (Sn x r L (x.cK k).2.2 fun v'=> .returned (.tuple #[v'.val,.bool (x.cK k).1,.int .i64 (x.cK k).2.1])):=by
 rcases h.co k with ⟨h1,h2⟩|⟨n,hn,hx,rfl,h1,h2⟩
 .have e1:x.cK k=(false,4,r.s):=by unfold WS.cK;rw[h1,h.rel.s];rfl
  rw[e1];exact QX fun w=>uT r.v w k h2
 .skip
  have hc:x.cos[n].a=(r.cos[n].cell:Int):=congrArg Prod.fst h2;have hf:x.cos[n].f=(r.cos[n].cell:Int)+1:=congrArg (fun z=>z.2.1) h2;have e1:x.cK (n:Int)=((r.s.swap (r.cos[n].cell:Int) 0 1).2.1.did,((r.s.swap (r.cos[n].cell:Int) 0 1).2.2:Int),(r.s.swap (r.cos[n].cell:Int) 0 1).1):=by unfold WS.cK;rw[h1,h.rel.s];simp only[Option.map_some];rw[hc];exact XJ ((VT r.s _ 0 1).imp id fun h=>by rw[h];rfl)
  rw[e1];refine aby fun T w hwd hL'=>?_;exact UZ T w r.v r.s x.P n r.cos[n].cell hL' h.fits.m (by rw[h.fits.o];exact hn) (fun W hW=>(h.Um n hn W hW).cell 0 rfl) (by rw[<-h.rel.s];omega)
theorem Uk{x:WS}{ms:List MS}{r:RW}{L:PL}(h:Both x ms r)(hL:x.s.L.length<1000000)(k:Int):Does 88 #[r.v.val,k] (x.ts++[r.th L]) (Sn x r L (x.bZ k).2 fun v'=> .returned (.tuple #[v'.val,.int .i64 (x.bZ k).1])):=by
 rcases h.co k with ⟨h1,h2⟩|⟨n,hn,hx,rfl,h1,h2⟩
 .have e1:x.bZ k=(4,r.s):=by unfold WS.bZ;rw[h1,h.rel.s];rfl
  rw[e1];exact QX fun w=>rD r.v w k h2
 .skip
  have hc:x.cos[n].a=(r.cos[n].cell:Int):=congrArg Prod.fst h2;have hf:x.cos[n].f=(r.cos[n].cell:Int)+1:=congrArg (fun z=>z.2.1) h2;have e1:x.bZ (n:Int)=((r.s.wH (r.cos[n].cell:Int):Int),(r.s.swap (r.cos[n].cell:Int) 1 0).1):=by unfold WS.bZ;rw[h1,h.rel.s];simp only[Option.map_some];rw[hc];rfl
  rw[e1];refine aby fun T w hwd hL'=>?_;exact Un T w r.v r.s x.P n r.cos[n].cell hL' h.fits.m (by rw[h.fits.o];exact hn) (fun W hW=>(h.Um n hn W hW).cell 0 rfl) (by rw[<-h.rel.s];omega)
theorem Xg{x:WS}{ms:List MS}{r:RW}{L:PL}(h:Both x ms r)(hL:x.s.L.length<1000000)(k:Int):Does 54 #[r.v.val,k] (x.ts++[r.th L]) (Sn x r L (x.ja k).2 fun v'=> .returned (.tuple #[v'.val,.int .i64 (x.ja k).1])):=by
 rcases h.co k with ⟨h1,h2⟩|⟨n,hn,hx,rfl,h1,h2⟩
 .have e1:x.ja k=(4,r.s):=by unfold WS.ja;rw[h1,h.rel.s];rfl
  rw[e1];exact QX fun w=>Nn r.v w k h2
 .skip
  have hc:x.cos[n].a=(r.cos[n].cell:Int):=congrArg Prod.fst h2;have hf:x.cos[n].f=(r.cos[n].cell:Int)+1:=congrArg (fun z=>z.2.1) h2;have he:(r.s.swap ((r.cos[n].cell:Int)+1) 0 1).2.2=0:=swapIn (by have :=h.cc _ (List.getElem_mem hn);omega);have e1:x.ja (n:Int)=((if(r.s.swap ((r.cos[n].cell:Int)+1) 0 1).2.1.did=false then 150 else 0:Int),(r.s.swap ((r.cos[n].cell:Int)+1) 0 1).1):=by
   unfold WS.ja;rw[h1,h.rel.s];simp only[Option.map_some];rw[hf];show((((if(r.s.swap ((r.cos[n].cell:Int)+1) 0 1).2.2=0/\(r.s.swap ((r.cos[n].cell:Int)+1) 0 1).2.1.did=false then 150 else(r.s.swap ((r.cos[n].cell:Int)+1) 0 1).2.2:Nat):Int)),_)=_;rw[he];by_cases hd:(r.s.swap ((r.cos[n].cell:Int)+1) 0 1).2.1.did=false<;>simp[hd]<;>rfl
  rw[e1];refine aby fun T w hwd hL'=>?_;cases hd:(r.s.swap ((r.cos[n].cell:Int)+1) 0 1).2.1.did
  .exact Vp T w r.v r.s x.P n r.cos[n].cell _ _ _ hL' h.fits.m (by rw[h.fits.o];exact hn) (fun W hW=>(h.Um n hn W hW).cell 0 rfl) (fun W hW=>(h.Um n hn W hW).cell 1 rfl) (by rw[<-h.rel.s];omega) ⟨h.SL n hn,he,hd⟩
  .exact Vj T w r.v r.s x.P n r.cos[n].cell _ _ _ hL' h.fits.m (by rw[h.fits.o];exact hn) (fun W hW=>(h.Um n hn W hW).cell 0 rfl) (fun W hW=>(h.Um n hn W hW).cell 1 rfl) (by rw[<-h.rel.s];omega) ⟨h.SL n hn,he,hd⟩
theorem Wq{x:WS}{ms:List MS}{r:RW}{L:PL}(h:Both x ms r)(hs:x.sys=ms.map MS.raw)(hL:x.s.L.length<1000000)(k:Int):Does 47 #[r.v.val,k] (x.ts++[r.th L]) (Sn x r L (x.fK k).2.2 fun v'=> .returned (.tuple #[v'.val,.int .i64 (x.fK k).1,.int .i64 (x.fK k).2.1])):=by
 rcases h.sy hs k with ⟨h1,h2⟩|⟨n,hn,hx,hy,rfl,h1,h2,h3⟩
 .have e1:x.fK k=(0,4,r.s):=by unfold WS.fK;rw[h1,h.rel.s];rfl
  rw[e1];exact QX fun w=>Ki r.v w k h2
 .skip
  have hc:x.sys[n].flag=r.sys[n].flag:=by rw[h2];exact congrArg (fun z=>z.2.2.2.1) h3
  obtain⟨q,hq⟩:=h.fl n hn;have e1:x.fK (n:Int)=(((bE (r.s.swap q 0 1).2.1.old (r.s.swap q 0 1).2.2).1:Int),((bE (r.s.swap q 0 1).2.1.old (r.s.swap q 0 1).2.2).2:Int),(r.s.swap q 0 1).1):=by unfold WS.fK;rw[h1,h.rel.s];simp only[Option.map_some];rw[hc,<-hq];exact Ye _ _
  rw[e1];refine aby fun T w hwd hL'=>?_;exact Xa T w r.v r.s x.P n q hL' h.fits.m (by rw[h.fits.n];exact hn) (fun W hW=>(h.SA n hn W hW).cell 3 (by rw[hq];rfl)) (by rw[<-h.rel.s];omega) (by rw[<-h.rel.s];exact hwd)
theorem UN{x:WS}{ms:List MS}{r:RW}{L:PL}(h:Both x ms r)(hs:x.sys=ms.map MS.raw)(hL:x.s.L.length<1000000)(k:Int):Does 51 #[r.v.val,k] (x.ts++[r.th L]) (Sn x r L (x.dX k).2 fun v'=> .returned (.tuple #[v'.val,.int .i64 (x.dX k).1])):=by
 rcases h.sy hs k with ⟨h1,h2⟩|⟨n,hn,hx,hy,rfl,h1,h2,h3⟩
 .have e1:x.dX k=(4,r.s):=by unfold WS.dX;rw[h1,h.rel.s];rfl
  rw[e1];exact QX fun w=>wI r.v w k h2
 .skip
  have hc:x.sys[n].flag=r.sys[n].flag:=by rw[h2];exact congrArg (fun z=>z.2.2.2.1) h3
  obtain⟨q,hq⟩:=h.fl n hn;have e1:x.dX (n:Int)=(((r.s.store q 0).2.2:Int),(r.s.store q 0).1):=by unfold WS.dX;rw[h1,h.rel.s];simp only[Option.map_some];rw[hc,<-hq];rfl
  rw[e1];refine aby fun T w hwd hL'=>?_;exact VB T w r.v r.s x.P n q hL' h.fits.m (by rw[h.fits.n];exact hn) (fun W hW=>(h.SA n hn W hW).cell 3 (by rw[hq];rfl)) (by rw[<-h.rel.s];omega)
theorem Xe{x:WS}{ms:List MS}{r:RW}{L:PL}(h:Both x ms r)(hs:x.sys=ms.map MS.raw)(hL:x.s.L.length<1000000)(k:Int):Does 85 #[r.v.val,k] (x.ts++[r.th L]) (Sn x r L (x.gL k).2.2 fun v'=> .returned (.tuple #[v'.val,.int .i64 (x.gL k).1,.int .i64 (x.gL k).2.1])):=by
 rcases h.sy hs k with ⟨h1,h2⟩|⟨n,hn,hx,hy,rfl,h1,h2,h3⟩
 .have e1:x.gL k=(0,4,r.s):=by unfold WS.gL;rw[h1,h.rel.s];rfl
  rw[e1];exact QX fun w=>NP r.v w k h2
 .skip
  have hc:x.sys[n].flag=r.sys[n].flag:=by rw[h2];exact congrArg (fun z=>z.2.2.2.1) h3
  obtain⟨q,hq⟩:=h.fl n hn;have e1:x.gL (n:Int)=(((bE (r.s.swap q 0 2).2.1.old (r.s.swap q 0 2).2.2).1:Int),((bE (r.s.swap q 0 2).2.1.old (r.s.swap q 0 2).2.2).2:Int),(r.s.swap q 0 2).1):=by unfold WS.gL;rw[h1,h.rel.s];simp only[Option.map_some];rw[hc,<-hq];exact Ye _ _
  rw[e1];refine aby fun T w hwd hL'=>?_;exact YA T w r.v r.s x.P n q hL' h.fits.m (by rw[h.fits.n];exact hn) (fun W hW=>(h.SA n hn W hW).cell 3 (by rw[hq];rfl)) (by rw[<-h.rel.s];omega) (by rw[<-h.rel.s];exact hwd)
theorem XQ{x:WS}{ms:List MS}{r:RW}{L:PL}(h:Both x ms r)(hs:x.sys=ms.map MS.raw)(hL:x.s.L.length<1000000)(k:Int):Does 49 #[r.v.val,k] (x.ts++[r.th L]) (Sn x r L (x.iH k).2.2 fun v'=> .returned (.tuple #[v'.val,.int .i64 (x.iH k).1,.int .i64 (x.iH k).2.1])):=by
 rcases h.sy hs k with ⟨h1,h2⟩|⟨n,hn,hx,hy,rfl,h1,h2,h3⟩
 .have e1:x.iH k=(0,4,r.s):=by unfold WS.iH;rw[h1,h.rel.s];rfl
  rw[e1];exact QX fun w=>zk r.v w k h2
 .skip
  have hc:x.sys[n].flag=r.sys[n].flag:=by rw[h2];exact congrArg (fun z=>z.2.2.2.1) h3
  obtain⟨q,hq⟩:=h.fl n hn;have e1:x.iH (n:Int)=(((bE (r.s.load q).2.1.old (r.s.load q).2.2).1:Int),((bE (r.s.load q).2.1.old (r.s.load q).2.2).2:Int),(r.s.load q).1):=by unfold WS.iH;rw[h1,h.rel.s];simp only[Option.map_some];rw[hc,<-hq];exact Ye _ _
  rw[e1];refine aby fun T w hwd hL'=>?_;exact V8 T w r.v r.s x.P n q hL' h.fits.m (by rw[h.fits.n];exact hn) (fun W hW=>(h.SA n hn W hW).cell 3 (by rw[hq];rfl)) (by rw[<-h.rel.s];omega) (by rw[<-h.rel.s];exact hwd)
def Rb.In(W:World)(c:Rb):Prop:=T9 W c.a1 c.k1 c.es1/\T9 W c.a2 c.k2 c.es2
def RH.In(W:World)(c:RH):Prop:=T9 W c.a c.k c.es
def RW.oQ(r:RW)(n:Nat)(c:Rb)(a:Option Addr)(m:Nat):RW:={r with v:={r.v with ha:=a,hc:=m},BI:=r.BI.set n c}
def RW.jM(r:RW)(n:Nat)(c:RH)(a:Option Addr)(m:Nat):RW:={r with v:={r.v with oa:=a,oc:=m},cos:=r.cos.set n c}
theorem RW.On.oQ{r:RW}{W:World}(h:r.On W)(n:Nat){c:Rb}{a:Option Addr}{m:Nat}(hc:c.In W)(hr:aG W a 3 r.v.hn ((r.BI.set n c).flatMap Rb.cells)):(r.oQ n c a m).On W:=
 ⟨hr,h.o,h.n,fun d hd=>(List.mem_or_eq_of_mem_set hd).elim (h.ch d) (fun e=>e▸hc),h.co,h.sy⟩
theorem RW.On.jM{r:RW}{W:World}(h:r.On W)(n:Nat){c:RH}{a:Option Addr}{m:Nat}(hc:c.In W)(hr:aG W a 2 r.v.on ((r.cos.set n c).flatMap RH.cells)):(r.jM n c a m).On W:=
 ⟨h.h,hr,h.n,h.ch,fun d hd=>(List.mem_or_eq_of_mem_set hd).elim (h.co d) (fun e=>e▸hc),h.sy⟩
theorem SH{x:WS}{ms:List MS}{r:RW}(h:Both x ms r)(n:Nat)(y:Ce)(c:Rb)(a:Option Addr)(m:Nat)(hy:y.pl=c.pl)(P':World->Prop)(hon:∀W,P' W->(r.oQ n c a m).On W):Both (x.oQ n y P') ms (r.oQ n c a m):=
 ⟨⟨h.rel.s,by show(x.BI.set n y).map Ce.pl=(r.BI.set n c).map Rb.pl;rw[List.map_set,List.map_set,h.rel.h,hy],h.rel.o,h.rel.n⟩,⟨h.fits.m,by show r.v.hn=(r.BI.set n c).length;rw[List.length_set];exact h.fits.h,h.fits.o,h.fits.n⟩,hon,h.cc,h.small,h.fl⟩
theorem Ur{x:WS}{ms:List MS}{r:RW}(h:Both x ms r)(n:Nat)(hn:n<r.cos.length)(y:Ch)(c:RH)(a:Option Addr)(m:Nat)(hy:y.pl=c.pl)(hcc:c.cell=r.cos[n].cell)(P':World->Prop)(hon:∀W,P' W->(r.jM n c a m).On W):Both (x.jM n y P') ms (r.jM n c a m):=
 ⟨⟨h.rel.s,h.rel.h,by show(x.cos.set n y).map Ch.pl=(r.cos.set n c).map RH.pl;rw[List.map_set,List.map_set,h.rel.o,hy],h.rel.n⟩,⟨h.fits.m,h.fits.h,by show r.v.on=(r.cos.set n c).length;rw[List.length_set];exact h.fits.o,h.fits.n⟩,hon,fun d hd=>(List.mem_or_eq_of_mem_set hd).elim (h.cc d) (fun e=>by subst e;show d.cell+1<_;rw[hcc];exact h.cc _ (List.getElem_mem hn)),h.small,h.fl⟩
theorem PK{x:WS}{ms:List MS}{r:RW}(h:Both x ms r)(P':World->Prop)(hP:∀W,P' W->x.P W):Both {x with P:=P'} ms r:=⟨⟨h.rel.s,h.rel.h,h.rel.o,h.rel.n⟩,h.fits,fun W hW=>h.on W (hP W hW),h.cc,h.small,h.fl⟩
def TT(s:Int)(c:Rb)(e:ME)(err:Int)(d:Rb):Prop:=(s=1/\QU c.es1 e err d.es1/\d={c with a1:=d.a1,k1:=d.k1,es1:=d.es1})\/(s=2/\QU c.es2 e err d.es2/\d={c with a2:=d.a2,k2:=d.k2,es2:=d.es2})
theorem TF{W:World}{rs rs':List ME}{e:ME}{err:Int}(h:QU rs e err rs')(h1:∀y∈rs,y.v.In W/\y.v.nodes<=256)(h2:e.v.In W):∀y∈rs',y.v.In W/\y.v.nodes<=256:=by
 rcases h with ⟨_,_,rfl⟩|⟨_,_,_,rfl⟩|⟨_,ho,_,rfl⟩
 .exact h1
 .exact h1
 .intro y hy
  rcases List.mem_append.1 hy with hy|hy
  .exact h1 y hy
  .obtain rfl:=List.mem_singleton.1 hy
   exact⟨h2,uQ ho⟩
theorem push14(s:Int)(hs:s=1\/s=2)(T:List Nat)(w:World)(P:World->Prop)(c:Rb)(e:ME)(h:BD T w w [aA P])(hP:∀W,P W->c.In W/\e.v.In W)(hne:e.v.nodes<=1048576)(hl:c.es1.length<=4096/\c.es2.length<=4096):
  Calls prog 224 #[.agg #[(c.cell:Int),.slice c.a1 c.es1.length c.k1,.slice c.a2 c.es2.length c.k2],s,e.val] w fun en w'=>∃Q rest,(∃(err:Int) (d:Rb),en= .returned (.tuple #[.agg #[(d.cell:Int),.slice d.a1 d.es1.length d.k1,.slice d.a2 d.es2.length d.k2],err])/\TT s c e err d/\∀W,Q W->P W/\d.In W)/\BD T w w' (aA Q::rest):=by
 have hw:=(hP w (h.still 0 rfl)).1;rcases hs with rfl|rfl
 .refine(UB T w P c.cell c.a1 c.k1 c.es1 c.a2 c.k2 c.es2 e hw.1.1 h (fun W hW=>⟨(hP W hW).1.1.2.1,(hP W hW).2⟩) hne hl.1).mono ?_
  rintro en w' ⟨err,a',k',rs',rest,rfl,hk,hp,Q,hQ,hL⟩;exact⟨Q,rest,⟨err,{c with a1:=a',k1:=k',es1:=rs'},rfl,.inl ⟨rfl,hp,rfl⟩,fun W hW=>⟨(hQ W hW).1,⟨hk,(hQ W hW).2,TF hp (hP W (hQ W hW).1).1.1.2.2 (hP W (hQ W hW).1).2⟩,(hP W (hQ W hW).1).1.2⟩⟩,hL⟩
 .refine(Uv T w P c.cell c.a1 c.k1 c.es1 c.a2 c.k2 c.es2 e hw.2.1 h (fun W hW=>⟨(hP W hW).1.2.2.1,(hP W hW).2⟩) hne hl.2).mono ?_
  rintro en w' ⟨err,a',k',rs',rest,rfl,hk,hp,Q,hQ,hL⟩;exact⟨Q,rest,⟨err,{c with a2:=a',k2:=k',es2:=rs'},rfl,.inr ⟨rfl,hp,rfl⟩,fun W hW=>⟨(hQ W hW).1,(hP W (hQ W hW).1).1.1,⟨hk,(hQ W hW).2,TF hp (hP W (hQ W hW).1).1.2.2.2 (hP W (hQ W hW).1).2⟩⟩⟩,hL⟩
theorem YR{r:RW}(hf:r.Fits)(hl:r.v.hn<=100000)(n:Nat)(hn:n<r.BI.length)(T:List Nat)(W:World)(Q:World->Prop)(d:Rb)(hQ:∀W,Q W->r.On W)(h:BD T W W [aA Q]):
  Calls prog 225 #[r.v.val,(n:Int),.agg #[(d.cell:Int),.slice d.a1 d.es1.length d.k1,.slice d.a2 d.es2.length d.k2]] W fun en w'=>∃Q' rest,(∃(a:Option Addr) (m:Nat),en= .returned ({r.v with ha:=a,hc:=m}:RV).val/\∀W,Q' W->Q W/\aG W a 3 r.v.hn ((r.BI.set n d).flatMap Rb.cells))/\BD T W w' (aA Q'::rest):=by
 refine(Vq T W r.v Q (r.BI.flatMap Rb.cells) n d.cell d.a1 d.es1.length d.k1 d.a2 d.es2.length d.k2 h (fun W hW=>(hQ W hW).h) hf.hc (Sj _ V3 _) hl (by rw[hf.h];exact hn)).mono ?_;rintro en w' ⟨a,m,rfl,hL⟩;exact⟨_,[],⟨a,m,rfl,fun W hW=>⟨hW.1,by rw[<-SF Rb.cells 3 (by omega) Uw r.BI n hn d];exact hW.2⟩⟩,hL⟩
theorem YZ{r:RW}(hf:r.Fits)(hl:r.v.on<=100000)(n:Nat)(hn:n<r.cos.length)(T:List Nat)(W:World)(Q:World->Prop)(d:RH)(hQ:∀W,Q W->r.On W)(h:BD T W W [aA Q]):
  Calls prog 186 #[r.v.val,(n:Int),.agg #[(d.cell:Int),.slice d.a d.es.length d.k]] W fun en w'=>∃Q' rest,(∃(a:Option Addr) (m:Nat),en= .returned ({r.v with oa:=a,oc:=m}:RV).val/\∀W,Q' W->Q W/\aG W a 2 r.v.on ((r.cos.set n d).flatMap RH.cells))/\BD T W w' (aA Q'::rest):=by
 refine(XT T W r.v Q (r.cos.flatMap RH.cells) n d.cell d.a d.es.length d.k h (fun W hW=>(hQ W hW).o) hf.oc (Sj _ VY _) hl (by rw[hf.o];exact hn)).mono ?_;rintro en w' ⟨a,m,rfl,hL⟩;exact⟨_,[],⟨a,m,rfl,fun W hW=>⟨hW.1,by rw[<-SF RH.cells 2 (by omega) UE r.cos n hn d];exact hW.2⟩⟩,hL⟩
def RI(x:WS)(L:PL)(R:Ending->RW->(World->Prop)->Prop)(e:Ending)(m':List ai):Prop:=∃(r':RW) (L':PL) (Q:World->Prop),(∀y∈L,y∈L')/\R e r' Q/\(∀W,Q W->x.P W)/\m'=({x with P:=Q}:WS).ts++[r'.th L']
theorem Qa{f:FuncId}{args:Array Value}{x:WS}{r:RW}{L:PL}{E:Ending}{R:Ending->RW->(World->Prop)->Prop}(h:∀w,Calls prog f args w fun e w'=>e=E/\Touch [] w w')(hR:R E r x.P):Does f args (x.ts++[r.th L]) (RI x L R):=
 (bA h).mono fun e m' ⟨h1,h2⟩=>⟨r,L,x.P,fun _ h=>h,h1▸hR,fun _ h=>h,h2⟩
theorem Qm{f:FuncId}{args:Array Value}{x:WS}{r:RW}{L:PL}{R:Ending->RW->(World->Prop)->Prop}(h:∀T w,BD T w w [aA x.P]->Calls prog f args w fun e w'=>∃(r':RW) (Q:World->Prop),(R e r' Q/\r'.th L=r.th L/\∀W,Q W->x.P W)/\BD T w w' [aA Q]):Does f args (x.ts++[r.th L]) (RI x L R):=by
 refine RS R fun T w hL=>?_;obtain⟨T',hF,hb⟩:=hL.qL 1 rfl;refine(h T' w hF).mono ?_;rintro e w' ⟨r',Q,⟨hR,hth,hQ⟩,hL'⟩;exact⟨r',L,Q,fun _ h=>h,hR,hQ,by rw[hth];exact hb _ _ _ hL'⟩
def V7(r:RW)(k s:Int)(e:ME)(err:Int)(r':RW):Prop:=(¬(s=1\/s=2)/\err=2/\r'=r)\/((s=1\/s=2)/\¬(0<=k/\k<(r.v.hn:Int))/\err=4/\r'=r)\/
 ∃(n:Nat) (hn:n<r.BI.length) (d:Rb) (a:Option Addr) (m:Nat),k=(n:Int)/\TT s r.BI[n] e err d/\r'=r.oQ n d a m
theorem Qq{α β:Type}{f:α->β}{l:List α}{m:List α}(h:l.map f=m.map f):l.length=m.length:=by simpa using congrArg List.length h
structure adR(P:World->Prop)(r:RW):Prop where
 fits:r.Fits
 on:∀W,P W->r.On W
 q1:∀n (hn:n<r.BI.length),r.BI[n].es1.length<=4096/\r.BI[n].es2.length<=4096
 q2:∀n (hn:n<r.cos.length),r.cos[n].es.length<=4096
 l1:r.BI.length<=100000
 l2:r.cos.length<=100000
theorem Both.ok{x:WS}{ms:List MS}{r:RW}(h:Both x ms r)(hfa:x.Fair ms):adR x.P r:=by
 obtain⟨hl,hm⟩:=PD h.rel.h;obtain⟨hl2,hm2⟩:=PD h.rel.o;refine⟨h.fits,h.on,fun n hn=>?_,fun n hn=>?_,hl▸hfa.good.l1,hl2▸hfa.good.l2⟩
 .have hpl:=hm n (by omega) hn
  have hq:=hfa.good.q1 n (by omega);have h1:x.BI[n].es1.map ME.plain=r.BI[n].es1.map ME.plain:=congrArg (fun z=>z.2.1) hpl;have h2:x.BI[n].es2.map ME.plain=r.BI[n].es2.map ME.plain:=congrArg (fun z=>z.2.2) hpl;exact⟨by rw[<-Qq h1];exact hq.1,by rw[<-Qq h2];exact hq.2⟩
 .have hpl:=hm2 n (by omega) hn
  have hq:=hfa.good.q2 n (by omega);have h1:x.cos[n].es.map ME.plain=r.cos[n].es.map ME.plain:=congrArg (fun z=>z.2.2) hpl;rw[<-Qq h1];exact hq
theorem adR.XH{P:World->Prop}{r:RW}(h:adR P r)(n:Nat)(hn:n<r.BI.length):∀W,P W->Qk W r.v.ha (n*3) r.BI[n].cells:=fun W hW=>Sy Uw h.fits.h (h.on W hW).h n hn
theorem adR.Um{P:World->Prop}{r:RW}(h:adR P r)(n:Nat)(hn:n<r.cos.length):∀W,P W->Qk W r.v.oa (n*2) r.cos[n].cells:=fun W hW=>Sy UE h.fits.o (h.on W hW).o n hn
theorem Xq{x:WS}{r:RW}{L:PL}(h:adR x.P r)(k s:Int)(e:ME)(he:∀W,x.P W->e.v.In W)(hne:e.v.nodes<=1048576):Does 132 #[r.v.val,k,s,e.val] (x.ts++[r.th L]) (RI x L fun en r' Q=>∃err,en= .returned (.tuple #[r'.v.val,.int .i64 err])/\V7 r k s e err r'/\∀W,Q W->r'.On W):=by
 by_cases hs:s=1\/s=2
 .by_cases hk:0<=k/\k<(r.v.hn:Int)
  .obtain⟨n,rfl⟩:=Int.eq_ofNat_of_zero_le hk.1
   have hn:n<r.BI.length:=by have :=h.fits.h;omega
   refine Qm fun T w hL=>?_;refine(WC T w r.v x.P n s e r.BI[n] hL (by omega) hs (h.XH n hn) (R1:=fun err d Q=>TT s r.BI[n] e err d/\∀W,Q W->x.P W/\d.In W) (fun T W hL=>push14 s hs T W x.P _ e hL (fun W hW=>⟨(h.on W hW).ch _ (List.getElem_mem hn),he W hW⟩) hne (h.q1 n hn)) (R2:=fun err d a m Q=>TT s r.BI[n] e err d/\∀W,Q W->x.P W/\(r.oQ n d a m).On W) (fun err d Q h1 W hW=>(h1.2 W hW).1) (fun err d Q T W h1 hL=>?_)).mono ?_
   .refine(YR h.fits (by rw[h.fits.h];exact h.l1) n hn T W Q d (fun W hW=>h.on W (h1.2 W hW).1) hL).mono ?_
    rintro en w' ⟨Q',rest,⟨a,m,rfl,h3⟩,hL'⟩;exact⟨Q',rest,⟨a,m,rfl,h1.1,fun W hW=>⟨(h1.2 W (h3 W hW).1).1,(h.on W (h1.2 W (h3 W hW).1).1).oQ n (h1.2 W (h3 W hW).1).2 (h3 W hW).2⟩⟩,hL'⟩
   .rintro en w' ⟨err,d,a,m,Q,rfl,⟨h3,h4⟩,hL'⟩
    exact⟨r.oQ n d a m,Q,⟨⟨err,rfl,.inr (.inr ⟨n,hn,d,a,m,rfl,h3,rfl⟩),fun W hW=>(h4 W hW).2⟩,rfl,fun W hW=>(h4 W hW).1⟩,hL'⟩
  .exact Qa (fun w=>NQ r.v w k s e hs hk) ⟨4,rfl,.inr (.inl ⟨hs,hk,rfl,rfl⟩),h.on⟩
 .exact Qa (fun w=>Ju r.v w k s e hs) ⟨2,rfl,.inl ⟨hs,rfl,rfl⟩,h.on⟩
theorem SN{es rs ys rs':List ME}{kk:Nat}{er err:Int}{e:ME}(hp:es.map ME.plain=rs.map ME.plain)(h1:ys.map ME.plain=[e.plain].take kk)(h2:kK es.length [e.plain] kk er)(h3:QU rs e err rs'):er=err/\(es++ys).map ME.plain=rs'.map ME.plain:=by
 have hl:=Qq hp;obtain⟨p1,p2,p3,p4⟩:=h2;rw[List.map_append,h1,hp];simp only[List.length_singleton]at p3 p4;rcases p4 with ⟨rfl,rfl⟩|⟨hk,h⟩
 .have hok:e.plain.Ok:=p1 0 (by simp) (by omega)
  rcases h3 with ⟨_,hn,_⟩|⟨_,_,hf,_⟩|⟨rfl,_,_,rfl⟩
  .exact absurd hok hn
  .omega
  .exact⟨rfl,by simp⟩
 .obtain rfl:kk=0:=by omega
  simp only[List.getElem_cons_zero]at h;rcases h with ⟨rfl,hno⟩|⟨rfl,hok,hf⟩
  .rcases h3 with ⟨rfl,_,rfl⟩|⟨_,ho,_⟩|⟨_,ho,_⟩
   .exact⟨rfl,by simp⟩
   .exact absurd ho hno
   .exact absurd ho hno
  .rcases h3 with ⟨_,hn,_⟩|⟨rfl,_,_,rfl⟩|⟨_,_,hf2,_⟩
   .exact absurd hok hn
   .exact⟨rfl,by simp⟩
   .omega
theorem WA{x x':WS}{ms:List MS}{r r':RW}{Q:World->Prop}{k s er err:Int}{e:ME}(h:Both x ms r)(hQ:∀W,Q W->x.P W)(hon:∀W,Q W->r'.On W)(hr:V7 r k s e err r')(hx:lX {x with P:=Q} k s e er x'):er=err/\Both x' ms r':=by
 have hl:=(PD h.rel.h).1;have hf:=h.fits.h;rcases hx with ⟨hs,rfl,rfl⟩|⟨hs,hk,rfl,rfl⟩|⟨n,hn,kk,ys,rfl,h1,h2⟩
 .rcases hr with ⟨_,rfl,rfl⟩|⟨hs',_⟩|⟨_,_,_,_,_,_,hp,_⟩
  .exact⟨rfl,PK h Q hQ⟩
  .exact absurd hs' hs
  .exact absurd (hp.imp And.left And.left) hs
 .rcases hr with ⟨hs',_⟩|⟨_,_,rfl,rfl⟩|⟨n,hn,_,_,_,rfl,_⟩
  .exact absurd hs hs'
  .exact⟨rfl,PK h Q hQ⟩
  .exact absurd ⟨by omega,by show(n:Int)<(x.BI.length:Int);omega⟩ hk
 .have hn0:n<x.BI.length:=hn
  rcases hr with ⟨hs,_⟩|⟨_,hk,_⟩|⟨n',hn',d,a,m,hnn,hp,rfl⟩
  .exact absurd (h2.imp And.left And.left) hs
  .exact absurd ⟨by omega,by omega⟩ hk
  .obtain rfl:n=n':=by omega
   have hpl:=(PD h.rel.h).2 n hn0 hn';have e0:x.BI[n].cell=(r.BI[n].cell:Int):=congrArg Prod.fst hpl;have e1:x.BI[n].es1.map ME.plain=r.BI[n].es1.map ME.plain:=congrArg (fun z=>z.2.1) hpl;have e2:x.BI[n].es2.map ME.plain=r.BI[n].es2.map ME.plain:=congrArg (fun z=>z.2.2) hpl;rcases h2 with ⟨rfl,h3,rfl⟩|⟨rfl,h3,rfl⟩
   .rcases hp with ⟨_,h4,hd⟩|⟨h9,_⟩
    .obtain⟨h5,h6⟩:=SN e1 h1 h3 h4
     refine⟨h5,SH h n _ d a m ?_ _ (fun W hW=>hon W hW.1)⟩;rw[hd];exact Prod.ext e0 (Prod.ext h6 e2)
    .omega
   .rcases hp with ⟨h9,_⟩|⟨_,h4,hd⟩
    .omega
    .obtain⟨h5,h6⟩:=SN e2 h1 h3 h4
     refine⟨h5,SH h n _ d a m ?_ _ (fun W hW=>hon W hW.1)⟩;rw[hd];exact Prod.ext e0 (Prod.ext e1 h6)
def V5(r:RW)(k:Int)(e:ME)(err:Int)(r':RW):Prop:=(¬(0<=k/\k<(r.v.on:Int))/\err=4/\r'=r)\/
 ∃(n:Nat) (hn:n<r.cos.length) (d:RH) (a:Option Addr) (m:Nat),k=(n:Int)/\QU r.cos[n].es e err d.es/\d={r.cos[n]with a:=d.a,k:=d.k,es:=d.es}/\r'=r.jM n d a m
theorem Xu{x:WS}{r:RW}{L:PL}(h:adR x.P r)(k:Int)(e:ME)(he:∀W,x.P W->e.v.In W)(hne:e.v.nodes<=1048576):Does 133 #[r.v.val,k,e.val] (x.ts++[r.th L]) (RI x L fun en r' Q=>∃err,en= .returned (.tuple #[r'.v.val,.int .i64 err])/\V5 r k e err r'/\∀W,Q W->r'.On W):=by
 by_cases hk:0<=k/\k<(r.v.on:Int)
 .obtain⟨n,rfl⟩:=Int.eq_ofNat_of_zero_le hk.1
  have hn:n<r.cos.length:=by have :=h.fits.o;omega
  refine Qm fun T w hL=>?_;refine(Wi T w r.v x.P n e r.cos[n] hL (by omega) (h.Um n hn) (R1:=fun err d Q=>(QU r.cos[n].es e err d.es/\d={r.cos[n]with a:=d.a,k:=d.k,es:=d.es})/\∀W,Q W->x.P W/\d.In W) (fun T W hL=>?_) (R2:=fun err d a m Q=>(QU r.cos[n].es e err d.es/\d={r.cos[n]with a:=d.a,k:=d.k,es:=d.es})/\∀W,Q W->x.P W/\(r.jM n d a m).On W) (fun err d Q h1 W hW=>(h1.2 W hW).1) (fun err d Q T W h1 hL=>?_)).mono ?_
  .refine(VF T W x.P r.cos[n].cell r.cos[n].a r.cos[n].k r.cos[n].es e ((h.on _ (hL.still 0 rfl)).co _ (List.getElem_mem hn)).1 hL (fun W hW=>⟨((h.on W hW).co _ (List.getElem_mem hn)).2.1,he W hW⟩) hne (h.q2 n hn)).mono ?_
   rintro en w' ⟨err,a',k',rs',rfl,hk',hp,Q,hQ,hL'⟩;exact⟨Q,[],⟨err,{r.cos[n]with a:=a',k:=k',es:=rs'},rfl,⟨hp,rfl⟩,fun W hW=>⟨(hQ W hW).1,hk',(hQ W hW).2,TF hp ((h.on W (hQ W hW).1).co _ (List.getElem_mem hn)).2.2 (he W (hQ W hW).1)⟩⟩,hL'⟩
  .refine(YZ h.fits (by rw[h.fits.o];exact h.l2) n hn T W Q d (fun W hW=>h.on W (h1.2 W hW).1) hL).mono ?_
   rintro en w' ⟨Q',rest,⟨a,m,rfl,h3⟩,hL'⟩;exact⟨Q',rest,⟨a,m,rfl,h1.1,fun W hW=>⟨(h1.2 W (h3 W hW).1).1,(h.on W (h1.2 W (h3 W hW).1).1).jM n (h1.2 W (h3 W hW).1).2 (h3 W hW).2⟩⟩,hL'⟩
  .rintro en w' ⟨err,d,a,m,Q,rfl,⟨h3,h4⟩,hL'⟩
   exact⟨r.jM n d a m,Q,⟨⟨err,rfl,.inr ⟨n,hn,d,a,m,rfl,h3.1,h3.2,rfl⟩,fun W hW=>(h4 W hW).2⟩,rfl,fun W hW=>(h4 W hW).1⟩,hL'⟩
 .exact Qa (fun w=>OD r.v w k e hk) ⟨4,rfl,.inl ⟨hk,rfl,rfl⟩,h.on⟩
theorem Ws{x x':WS}{ms:List MS}{r r':RW}{Q:World->Prop}{k er err:Int}{e:ME}(h:Both x ms r)(hQ:∀W,Q W->x.P W)(hon:∀W,Q W->r'.On W)(hr:V5 r k e err r')(hx:nu {x with P:=Q} k e er x'):er=err/\Both x' ms r':=by
 have hl:=(PD h.rel.o).1;have hf:=h.fits.o;rcases hx with ⟨hk,rfl,rfl⟩|⟨n,hn,kk,ys,rfl,h1,h3,rfl⟩
 .rcases hr with ⟨_,rfl,rfl⟩|⟨n,hn,_,_,_,rfl,_⟩
  .exact⟨rfl,PK h Q hQ⟩
  .exact absurd ⟨by omega,by show(n:Int)<(x.cos.length:Int);omega⟩ hk
 .have hn0:n<x.cos.length:=hn
  rcases hr with ⟨hk,_⟩|⟨n',hn',d,a,m,hnn,hp,hd,rfl⟩
  .exact absurd ⟨by omega,by omega⟩ hk
  .obtain rfl:n=n':=by omega
   have hpl:=(PD h.rel.o).2 n hn0 hn';have e0:x.cos[n].a=(r.cos[n].cell:Int):=congrArg Prod.fst hpl;have e1:x.cos[n].f=(r.cos[n].cell:Int)+1:=congrArg (fun z=>z.2.1) hpl;obtain⟨h5,h6⟩:=SN (congrArg (fun z=>z.2.2) hpl) h1 h3 hp;refine⟨h5,Ur h n hn' _ d a m ?_ (by rw[hd]) _ (fun W hW=>hon W hW.1)⟩;rw[hd];exact Prod.ext e0 (Prod.ext e1 h6)
theorem WW{α β:Type}(f:α->β)(l:List α)(j:Nat):(l.eraseIdx j).map f=(l.map f).eraseIdx j:=by
 induction l generalizing j with
 |nil=>simp
 |cons a l ih=>cases j<;>simp[ih]
theorem SG{es rs:List ME}{i:Int}{y z:ME}{b c:Bool}(hp:es.map ME.plain=rs.map ME.plain)(h1:kF es i y b)(h2:kF rs i z c):b=c/\y.plain=z.plain/\(if b=true then es.eraseIdx i.toNat else es).map ME.plain=(if c=true then rs.eraseIdx i.toNat else rs).map ME.plain:=by
 have hl:=Qq hp;have he:∀(l:List ME) (j:Nat),(l.eraseIdx j).map ME.plain=(l.map ME.plain).eraseIdx j:=fun l j=>WW _ _ _;rcases h1 with ⟨rfl,h0,h1⟩|⟨rfl,h0,rfl⟩
 .rcases h2 with ⟨rfl,_,h2⟩|⟨rfl,h3,rfl⟩
  .have h4:=congrArg (·[i.toNat]?) hp
   simp only[List.getElem?_map,h1,h2,Option.map_some,Option.some.injEq]at h4;exact⟨rfl,h4,by simp only[if_true];rw[he,he,hp]⟩
  .have :=(List.getElem?_eq_some_iff.1 h1).1
   exact absurd ⟨h0,by omega⟩ h3
 .rcases h2 with ⟨rfl,h3,h2⟩|⟨rfl,_,rfl⟩
  .have :=(List.getElem?_eq_some_iff.1 h2).1
   exact absurd ⟨h3,by omega⟩ h0
  .exact⟨rfl,rfl,by simpa using hp⟩
theorem Qx:ME.zero.v.nodes<=256:=by simp[ME.zero,MT.zero,MT.nodes,MT.aV]
theorem cu{x y:ME}(h:y.plain=x.plain):y.v.nodes=x.v.nodes:=(qI h).symm
def VZ(r:RW)(k:Int)(z:ME)(c:Bool)(err:Int)(r':RW):Prop:=(¬(0<=k/\k<(r.v.on:Int))/\err=4/\z=ME.zero/\c=false/\r'=r)\/
 ∃(n:Nat) (hn:n<r.cos.length) (d:RH) (a:Option Addr) (m:Nat),k=(n:Int)/\err=0/\kF r.cos[n].es 0 z c/\d={r.cos[n]with a:=d.a,k:=d.k,es:=if c=true then r.cos[n].es.eraseIdx 0 else r.cos[n].es}/\r'=r.jM n d a m
theorem Ui{W:World}{rs:List ME}{c:Bool}{i:Nat}(h:∀y∈rs,y.v.In W/\y.v.nodes<=256):∀y∈(if c=true then rs.eraseIdx i else rs),y.v.In W/\y.v.nodes<=256:=by
 intro y hy;split at hy
 .exact h y (List.mem_of_mem_eraseIdx hy)
 .exact h y hy
theorem QV{W:World}{rs:List ME}{i:Int}{z:ME}{c:Bool}(h:kF rs i z c)(hr:∀y∈rs,y.v.In W/\y.v.nodes<=256):z.v.In W/\z.v.nodes<=256:=h.inq (p:=fun z=>z.v.In W/\z.v.nodes<=256) ⟨MT.dQ W,Qx⟩ hr
theorem Xo{x:WS}{ms:List MS}{r:RW}{L:PL}(h:Both x ms r)(hfa:x.Fair ms)(k:Int):Does 84 #[r.v.val,k] (x.ts++[r.th L]) (RI x L fun en r' Q=>∃z c err,en= .returned (.tuple #[r'.v.val,z.val,.bool c,.int .i64 err])/\VZ r k z c err r'/\z.v.nodes<=256/\∀W,Q W->r'.On W/\z.v.In W):=by
 by_cases hk:0<=k/\k<(r.v.on:Int)
 .obtain⟨n,rfl⟩:=Int.eq_ofNat_of_zero_le hk.1
  have hn:n<r.cos.length:=by have :=h.fits.o;omega
  obtain⟨hl,hm⟩:=PD h.rel.o;have hpl:=hm n (by omega) hn;have hq:=hfa.good.q2 n (by omega);have h1:x.cos[n].es.map ME.plain=r.cos[n].es.map ME.plain:=congrArg (fun z=>z.2.2) hpl;refine Qm fun T w hL=>?_;refine(WQ T w r.v x.P n r.cos[n] hL (by omega) (h.Um n hn) (R1:=fun z c d Q=>(kF r.cos[n].es 0 z c/\d={r.cos[n]with a:=d.a,k:=d.k,es:=if c=true then r.cos[n].es.eraseIdx 0 else r.cos[n].es})/\∀W,Q W->x.P W/\d.In W) (fun T W hL=>?_) (R2:=fun z c d a m Q=>(kF r.cos[n].es 0 z c/\d={r.cos[n]with a:=d.a,k:=d.k,es:=if c=true then r.cos[n].es.eraseIdx 0 else r.cos[n].es})/\∀W,Q W->x.P W/\(r.jM n d a m).On W) (fun z c d Q T W h1 hL=>?_)).mono ?_
  .refine(VS T W x.P r.cos[n].cell r.cos[n].a r.cos[n].k r.cos[n].es ((h.on _ (hL.still 0 rfl)).co _ (List.getElem_mem hn)).1 hL (fun W hW=>((h.on W hW).co _ (List.getElem_mem hn)).2.1) (by rw[<-Qq h1];omega)).mono ?_
   rintro en w' ⟨a',k',rs',z,c,rfl,hk',hp,rfl,Q,hQ,hL'⟩;exact⟨Q,[],⟨z,c,{r.cos[n]with a:=a',k:=k',es:=if c=true then r.cos[n].es.eraseIdx 0 else r.cos[n].es},rfl,⟨hp,rfl⟩,fun W hW=>⟨(hQ W hW).1,hk',(hQ W hW).2,Ui ((h.on W (hQ W hW).1).co _ (List.getElem_mem hn)).2.2⟩⟩,hL'⟩
  .refine(YZ h.fits (by rw[h.fits.o,<-hl];exact hfa.good.l2) n hn T W Q d (fun W hW=>h.on W (h1.2 W hW).1) hL).mono ?_
   rintro en w' ⟨Q',rest,⟨a,m,rfl,h3⟩,hL'⟩;exact⟨Q',rest,⟨a,m,rfl,h1.1,fun W hW=>⟨(h1.2 W (h3 W hW).1).1,(h.on W (h1.2 W (h3 W hW).1).1).jM n (h1.2 W (h3 W hW).1).2 (h3 W hW).2⟩⟩,hL'⟩
  .rintro en w' ⟨z,c,d,a,m,Q,rfl,⟨h3,h4⟩,hL'⟩
   exact⟨r.jM n d a m,Q,⟨⟨z,c,0,rfl,.inr ⟨n,hn,d,a,m,rfl,rfl,h3.1,h3.2,rfl⟩,(QV h3.1 ((h.on w (hL.still 0 rfl)).co _ (List.getElem_mem hn)).2.2).2,fun W hW=>⟨(h4 W hW).2,(QV h3.1 ((h.on W (h4 W hW).1).co _ (List.getElem_mem hn)).2.2).1⟩⟩,rfl,fun W hW=>(h4 W hW).1⟩,hL'⟩
 .exact Qa (fun w=>L8 r.v w k hk) ⟨ME.zero,false,4,rfl,.inl ⟨hk,rfl,rfl,rfl,rfl⟩,Qx,fun W hW=>⟨h.on W hW,MT.dQ W⟩⟩
def VN(x':WS)(v:aL)(z:ME)(c:Bool)(er err:Int):Prop:=∃(y:ME) (b:Bool),v=aL.of y b/\b=c/\y.plain=z.plain/\er=err/\∀W,x'.P W->y.v.In W
theorem Wo{x x':WS}{ms:List MS}{r r':RW}{Q:World->Prop}{k er err:Int}{z:ME}{c:Bool}{v:aL}(h:Both x ms r)(hfa:x.Fair ms)(hQ:∀W,Q W->x.P W)(hon:∀W,Q W->r'.On W)(hr:VZ r k z c err r')(hx:lS {x with P:=Q} k v er x'):VN x' v z c er err/\Both x' ms r':=by
 have hl:=(PD h.rel.o).1;have hf:=h.fits.o;rcases hx with ⟨hk,rfl,rfl,rfl⟩|⟨n,hn,y,b,rfl,h1,rfl,rfl,rfl⟩
 .rcases hr with ⟨_,rfl,rfl,rfl,rfl⟩|⟨n,hn,_,_,_,rfl,_⟩
  .exact⟨⟨ME.zero,false,rfl,rfl,rfl,rfl,fun W _=>MT.dQ W⟩,PK h Q hQ⟩
  .exact absurd ⟨by omega,by show(n:Int)<(x.cos.length:Int);omega⟩ hk
 .have hn0:n<x.cos.length:=hn
  rcases hr with ⟨hk,_⟩|⟨n',hn',d,a,m,hnn,rfl,hp,hd,rfl⟩
  .exact absurd ⟨by omega,by omega⟩ hk
  .obtain rfl:n=n':=by omega
   have hpl:=(PD h.rel.o).2 n hn0 hn';have e0:x.cos[n].a=(r.cos[n].cell:Int):=congrArg Prod.fst hpl;have e1:x.cos[n].f=(r.cos[n].cell:Int)+1:=congrArg (fun z=>z.2.1) hpl;obtain⟨h5,h6,h7⟩:=SG (congrArg (fun z=>z.2.2) hpl) h1 hp;refine⟨⟨y,b,rfl,h5,h6,rfl,fun W hW=>(QV h1 ((hfa.good.vals W (hQ W hW)).2 _ (List.getElem_mem hn0))).1⟩,Ur h n hn' _ d a m ?_ (by rw[hd]) _ hon⟩;rw[hd];exact Prod.ext e0 (Prod.ext e1 h7)
end Go.Proofs.YtegejdlglonflaaGreatDoor
