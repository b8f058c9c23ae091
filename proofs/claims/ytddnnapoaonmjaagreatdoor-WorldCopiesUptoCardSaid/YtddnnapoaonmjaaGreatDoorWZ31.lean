/-
  Texts of WorldCopies, laid together by program.
-/
import Derived.Test.YtddnnapoaonmjaaGreatDoorWZ29
import Derived.Test.YtddnnapoaonmjaaGreatDoorWZ30
namespace Go.Proofs.YtddnnapoaonmjaaGreatDoor
open Go.RowKit Go.Shelf Go.Proofs.Tryz
set_option maxRecDepth 100000
set_option maxHeartbeats 8000000
set_option linter.unusedVariables false
set_option linter.unusedSimpArgs false
theorem JG(wb:Nat)(v:RV)(x:BO)(m:List ai)(R:RV->Int->Int->Int->Int->List ai->Prop)(hw:x.what=0)(Da:Does 149 #[v.val] m fun e m1=>∃(o:RV) (got:Int) (no:Int),e= .returned (.tuple #[o.val,got,no])/\Does 21 #[wb] m1 fun e' m2=>∃(k:Int) (er:Int),e'= .returned (.tuple #[k,er])/\R o got no k er m2):
  Does 60 #[wb,v.val,x.vl] m (Al R):=by
 refine Pm ?_;simp only[RV.val,BO.vl,bB]at Da|-;rw[hw];refine aai.go func60 ntmps60 ?_;exact acQ
theorem JV(wb:Nat)(v:RV)(x:BO)(m:List ai)(R:RV->Int->Int->Int->Int->List ai->Prop)(hw:x.what=1)(Da:Does 150 #[v.val] m fun e m1=>∃(o:RV) (got:Int) (no:Int),e= .returned (.tuple #[o.val,got,no])/\Does 22 #[wb] m1 fun e' m2=>∃(k:Int) (er:Int),e'= .returned (.tuple #[k,er])/\R o got no k er m2):
  Does 60 #[wb,v.val,x.vl] m (Al R):=by
 refine Pm ?_;simp only[RV.val,BO.vl,bB]at Da|-;rw[hw];refine aai.go func60 ntmps60 ?_;exact acQ
theorem Bu(wb:Nat)(v:RV)(x:BO)(m:List ai)(R:RV->Int->Int->Int->Int->List ai->Prop)(hw:x.what=2\/x.what=3)(Da:Does 151 #[v.val,x.a,.slice x.ba x.bases.length x.bc,.slice x.ca x.conds.length x.cc] m fun e m1=>∃(o:RV) (got:Int) (no:Int),e= .returned (.tuple #[o.val,got,no])/\Does 23 #[wb,x.a,.slice x.ba x.bases.length x.bc,.slice x.ca x.conds.length x.cc] m1 fun e' m2=>∃(k:Int) (er:Int),e'= .returned (.tuple #[k,er])/\R o got no k er m2):
  Does 60 #[wb,v.val,x.vl] m (Al R):=by
 rcases hw with hw|hw
 all_goals
  refine Pm ?_;simp only[RV.val,BO.vl,bB]at Da|-;rw[hw];refine aai.go func60 ntmps60 ?_;exact acQ
theorem KG(wb:Nat)(v:RV)(x:BO)(m:List ai)(R:RV->Bool->Int->Bool->Int->List ai->Prop)(hw:x.what=4)(Da:Does 152 #[v.val,x.a] m fun e m1=>∃(o:RV) (got:Bool) (no:Int),e= .returned (.tuple #[o.val,got,no])/\Does 24 #[wb,x.a] m1 fun e' m2=>∃(k:Bool) (er:Int),e'= .returned (.tuple #[k,er])/\R o got no k er m2):
  Does 61 #[wb,v.val,x.vl] m (M4 R):=by
 refine Pm ?_;simp only[RV.val,BO.vl,bB]at Da|-;rw[hw];clear hw;refine aai.go func61 ntmps61 ?_;exact adb
theorem yM(wb:Nat)(v:RV)(x:BO)(m:List ai)(R:RV->Int->Int->List ai->Prop)(hw:x.what=5)(Da:Does 153 #[v.val,x.a] m fun e m1=>∃(o:RV) (no:Int),e= .returned (.tuple #[o.val,no])/\Does 25 #[wb,x.a] m1 fun e' m2=>∃(er:Int),e'= .returned (.int .i64 er)/\R o no er m2):
  Does 61 #[wb,v.val,x.vl] m (tJ R):=by
 refine Pm ?_;simp only[RV.val,BO.vl,bB]at Da|-;rw[hw];clear hw;refine aai.go func61 ntmps61 ?_;exact acu
theorem Lm(wb:Nat)(v:RV)(x:BO)(m:List ai)(R:ME->Bool->Int->ME->Bool->Int->List ai->Prop)(hw:x.what=6)(Da:Does 154 #[v.val,x.a,x.side,x.b] m fun e m1=>∃(a:ME) (got:Bool) (no:Int),e= .returned (.tuple #[a.val,got,no])/\Does 26 #[wb,x.a,x.side,x.b] m1 fun e' m2=>∃(b:ME) (k:Bool) (er:Int),e'= .returned (.tuple #[b.val,k,er])/\(∃(i:Nat) (P:World->Prop),m2[i]? =some (aA P)/\∀W,P W->(a.v.In W/\a.v.nodes<=1048576)/\(b.v.In W/\b.v.nodes<=1048576))/\R a got no b k er m2):
  Does 61 #[wb,v.val,x.vl] m (ArmP v R):=by
 refine Pm ?_;simp only[RV.val,BO.vl,bB]at Da|-;rw[hw];clear hw;refine aai.go func61 ntmps61 ?_;exact armP
theorem JU(wb:Nat)(v:RV)(x:BO)(m:List ai)(R:RV->ME->Bool->Int->ME->Bool->Int->List ai->Prop)(hw:x.what=7)(Da:Does 155 #[v.val,x.a,x.side,x.b] m fun e m1=>∃(o:RV) (a:ME) (got:Bool) (no:Int),e= .returned (.tuple #[o.val,a.val,got,no])/\Does 27 #[wb,x.a,x.side,x.b] m1 fun e' m2=>∃(b:ME) (k:Bool) (er:Int),e'= .returned (.tuple #[b.val,k,er])/\(∃(i:Nat) (P:World->Prop),m2[i]? =some (aA P)/\∀W,P W->(a.v.In W/\a.v.nodes<=1048576)/\(b.v.In W/\b.v.nodes<=1048576))/\R o a got no b k er m2):
  Does 61 #[wb,v.val,x.vl] m (ArmC R):=by
 refine Pm ?_;simp only[RV.val,BO.vl,bB]at Da|-;rw[hw];clear hw;refine aai.go func61 ntmps61 ?_;exact armC
theorem IE(wb:Nat)(v:RV)(x:BO)(m:List ai)(R:RV->Int->Int->List ai->Prop)(hw:x.what=8)(Da:Does 156 #[v.val,x.a,x.side,x.e.val] m fun e m1=>∃(o:RV) (no:Int),e= .returned (.tuple #[o.val,no])/\Does 28 #[wb,x.a,x.side,x.e.val] m1 fun e' m2=>∃(er:Int),e'= .returned (.int .i64 er)/\R o no er m2):
  Does 61 #[wb,v.val,x.vl] m (tJ R):=by
 refine Pm ?_;simp only[RV.val,BO.vl,bB]at Da|-;rw[hw];clear hw;refine aai.go func61 ntmps61 ?_;exact acu
structure cZ(x:WS)(ms:List MS)(a:BO):Prop where
 fair:x.Fair ms
 mem:∀W,x.P W->a.Mem W
 few:x.s.L.length<1000000
 big:∀b∈a.bases,b.Big
structure Both(x:WS)(ms:List MS)(r:RW):Prop where
 rel:Rel x ms r
 fits:r.Fits
 on:∀W,x.P W->r.On W
 cc:∀c∈r.cos,c.cell+1<r.s.C.length
 small:r.s.C.length<=65536
 fl:∀n (hn:n<r.sys.length),∃q:Nat,(q:Int)=r.sys[n].flag
theorem Qk.cell{W:World}{a:Option Addr}{i:Nat}{us:List Value}(h:Qk W a i us)(j:Nat){u:Value}(hu:us[j]? =some u):QB W a (i+j) u:=by
 obtain⟨b,o,h1,h2,h3⟩:=h;refine⟨b,o,h1,h2,?_⟩;rw[<-Nat.add_assoc];exact h3 j u hu
theorem Sy{α:Type}{f:α->List Value}{m:Nat}(hf:∀a,(f a).length=m){W:World}{a:Option Addr}{l:List α}{n:Nat}(hn:n=l.length)(h:aG W a m n (l.flatMap f))(i:Nat)(hi:i<l.length):Qk W a (i*m) (f l[i]):=by
 subst hn;obtain⟨b,o,h1,h2,h3⟩:=aG.at hf h i hi;refine⟨b,o,h1,h2,fun j u hu=>?_⟩;have hj:j<m:=by have :=(List.getElem?_eq_some_iff.1 hu).1;rw[hf]at this;exact this
 rw[h3 j hj,hu]
section
variable {x:WS} {ms:List MS} {r:RW}
theorem PD{α β γ:Type}{f:α->γ}{g:β->γ}{l:List α}{m:List β}(h:l.map f=m.map g):l.length=m.length/\∀n (h1:n<l.length) (h2:n<m.length),f l[n]=g m[n]:=by
 have hl:l.length=m.length:=by simpa using congrArg List.length h
 refine⟨hl,fun n h1 h2=>?_⟩;have :=congrArg (·[n]?) h;simp only[List.getElem?_map,List.getElem?_eq_getElem h1,List.getElem?_eq_getElem h2,Option.map_some,Option.some.injEq]at this;exact this
theorem Both.ch(h:Both x ms r)(k:Int):(at_ x.BI k=none/\¬(0<=k/\k<(r.v.hn:Int)))\/∃(n:Nat) (hn:n<r.BI.length) (hx:n<x.BI.length),k=(n:Int)/\at_ x.BI k=some x.BI[n]/\x.BI[n].pl=r.BI[n].pl:=by
 obtain⟨hl,hm⟩:=PD h.rel.h;by_cases hk:0<=k/\k<(r.v.hn:Int)
 .obtain⟨n,rfl⟩:=Int.eq_ofNat_of_zero_le hk.1
  have hn:n<r.BI.length:=by have :=h.fits.h;omega
  exact .inr ⟨n,hn,by omega,rfl,gI (by omega),hm n (by omega) hn⟩
 .exact .inl ⟨gM (by have :=h.fits.h;omega),hk⟩
theorem Both.co(h:Both x ms r)(k:Int):(at_ x.cos k=none/\¬(0<=k/\k<(r.v.on:Int)))\/∃(n:Nat) (hn:n<r.cos.length) (hx:n<x.cos.length),k=(n:Int)/\at_ x.cos k=some x.cos[n]/\x.cos[n].pl=r.cos[n].pl:=by
 obtain⟨hl,hm⟩:=PD h.rel.o;by_cases hk:0<=k/\k<(r.v.on:Int)
 .obtain⟨n,rfl⟩:=Int.eq_ofNat_of_zero_le hk.1
  have hn:n<r.cos.length:=by have :=h.fits.o;omega
  exact .inr ⟨n,hn,by omega,rfl,gI (by omega),hm n (by omega) hn⟩
 .exact .inl ⟨gM (by have :=h.fits.o;omega),hk⟩
theorem Both.sy(h:Both x ms r)(hs:x.sys=ms.map MS.raw)(k:Int):(at_ x.sys k=none/\¬(0<=k/\k<(r.v.sn:Int)))\/∃(n:Nat) (hn:n<r.sys.length) (hx:n<ms.length) (hy:n<x.sys.length),k=(n:Int)/\at_ x.sys k=some x.sys[n]/\x.sys[n]=ms[n].raw/\ms[n].plain=r.sys[n].plain:=by
 obtain⟨hl,hm⟩:=PD h.rel.n;have hxl:x.sys.length=ms.length:=by rw[hs,List.length_map]
 by_cases hk:0<=k/\k<(r.v.sn:Int)
 .obtain⟨n,rfl⟩:=Int.eq_ofNat_of_zero_le hk.1
  have hn:n<r.sys.length:=by have :=h.fits.n;omega
  exact .inr ⟨n,hn,by omega,by omega,rfl,gI (by omega),by simp only[hs,List.getElem_map],hm n (by omega) hn⟩
 .exact .inl ⟨gM (by have :=h.fits.n;omega),hk⟩
theorem Both.XH(h:Both x ms r)(n:Nat)(hn:n<r.BI.length):∀W,x.P W->Qk W r.v.ha (n*3) r.BI[n].cells:=fun W hW=>Sy Uw h.fits.h (h.on W hW).h n hn
theorem Both.Um(h:Both x ms r)(n:Nat)(hn:n<r.cos.length):∀W,x.P W->Qk W r.v.oa (n*2) r.cos[n].cells:=fun W hW=>Sy UE h.fits.o (h.on W hW).o n hn
theorem Both.SA(h:Both x ms r)(n:Nat)(hn:n<r.sys.length):∀W,x.P W->Qk W r.v.sa (n*11) r.sys[n].cells:=fun W hW=>Sy Vv h.fits.n (h.on W hW).n n hn
end
theorem VT(s:Ar)(a:Int)(p q:Nat):(s.swap a p q).2.2=0\/(s.swap a p q).2.1=Acc.zero:=(vZ s 3 a (eH p q)).imp id And.right
theorem VX(s:Ar)(a:Int):(s.load a).2.2=0\/(s.load a).2.1=Acc.zero:=(vZ s 1 a j6).imp id And.right
theorem XJ{s s':Ar}{d:Bool}{e:Nat}(h:e=0\/d=false):rB s (some (d,e,s'))=(d,(e:Int),s'):=by
 unfold rB;rcases h with rfl|rfl
 .rfl
 .by_cases he:e=0
  .subst he;rfl
  .simp only[he,if_false]
theorem Ye{s s':Ar}(o e:Nat):rF s (some ((bE o e).1,(bE o e).2,s'))=(((bE o e).1:Int),((bE o e).2:Int),s'):=by
 unfold rF;by_cases he:(bE o e).2=0
 .simp only[he,if_true];rfl
 .simp only[he,if_false]
  have :(bE o e).1=0:=by
   unfold bE at he|-;split<;>rename_i h1
   .rfl
   .rw[if_neg h1]at he
    split at he<;>rename_i h2
    .rw[if_pos h2]
    .exact absurd rfl he
  rw[this];rfl
def Sn(x:WS)(r:RW)(L:PL)(s':Ar)(E:RV->Ending)(e:Ending)(m':List ai):Prop:=∃(v':RV) (L':PL),(∀y∈L,y∈L')/\e=E v'/\PG r.v v'/\m'=x.ts++[RW.th {r with v:=v',s:=s'} L']
theorem QX{f:FuncId}{args:Array Value}{x:WS}{r:RW}{L:PL}{E:RV->Ending}(h:∀w,Calls prog f args w fun e w'=>e=E r.v/\Touch [] w w'):Does f args (x.ts++[r.th L]) (Sn x r L r.s E):=
 (bA h).mono fun e m' ⟨h1,h2⟩=>⟨r.v,L,fun _ h=>h,h1,⟨rfl,rfl,rfl,rfl,rfl,rfl,rfl,rfl,rfl,rfl⟩,h2⟩
theorem aby{f:FuncId}{args:Array Value}{x:WS}{r:RW}{L:PL}{s':Ar}{E:RV->Ending}(h:∀T w,(∀n∈x.s.C,Wd n)->BD T w w [r.th L,aA x.P]->Calls prog f args w fun e w'=>∃(v':RV) (L':PL),(∀y∈L,y∈L')/\e=E v'/\PG r.v v'/\BD T w w' [Pt L' (.slice v'.ca v'.cn v'.cc) (.slice v'.la v'.ln v'.lc) s',aA x.P]):Does f args (x.ts++[r.th L]) (Sn x r L s' E):=by
 intro T w hL;have hwd:=(hL.nP 1 rfl).1;refine(RS (x:=x) (r:=r) (L:=L) (fun e r' Q=>∃v',e=E v'/\PG r.v v'/\Q=x.P/\r'={r with v:=v',s:=s'}) (fun T w hL=>(h T w hwd hL).mono fun e w' ⟨v',L',h1,h2,h3,h4⟩=>⟨{r with v:=v',s:=s'},L',x.P,h1,⟨v',h2,h3,rfl,rfl⟩,fun _ h=>h,h4⟩) T w hL).mono ?_;rintro e w' ⟨m',⟨r',L',Q,h1,⟨v',h2,h3,rfl,rfl⟩,_,rfl⟩,hL'⟩;exact⟨_,⟨v',L',h1,h2,h3,rfl⟩,hL'⟩
theorem Pv{f:FuncId}{args:Array Value}{m r:List ai}{R:Ending->List ai->Prop}(h:Does f args m R):Does f args (m++r) fun e m'=>∃m0,R e m0/\m'=m0++r:=fun T w hL=>(hL.does h).mono fun e w' ⟨m0,h1,h2⟩=>⟨_,⟨m0,h1,rfl⟩,h2⟩
def Ri(a:BO)(x:WS)(ms:List MS)(L:PL)(o:RV)(m2:List ai):Prop:=∃(x':WS) (ms':List MS) (r':RW) (L':PL),bq a x ms x' ms'/\Both x' ms' r'/\x'.wb=x.wb/\o=r'.v/\(∀y∈L,y∈L')/\m2=x'.ts++[r'.th L']
theorem QC{x:WS}{ms:List MS}{r:RW}{s':Ar}{v':RV}(h:Both x ms r)(hv:PG r.v v')(h1:One x.s s'):Both (x.ar s') ms {r with v:=v',s:=s'}:=by
 obtain⟨v1,v2,v3,v4,v5,v6,v7,v8,v9,v10⟩:=hv;refine⟨⟨rfl,h.rel.h,h.rel.o,h.rel.n⟩,⟨?_,?_,?_,?_⟩,fun W hW=>?_,fun c hc=>?_,?_,h.fl⟩
 .show v'.most=_
  rw[v1,h.fits.m,<-h.rel.s,h1.2.1]
 .show v'.hn=_
  rw[v3];exact h.fits.h
 .show v'.on=_
  rw[v6];exact h.fits.o
 .show v'.sn=_
  rw[v9];exact h.fits.n
 .have hO:=h.on W hW
  exact⟨by show aG W v'.ha 3 v'.hn _;rw[v2,v3];exact hO.h,by show aG W v'.oa 2 v'.on _;rw[v5,v6];exact hO.o,by show aG W v'.sa 11 v'.sn _;rw[v8,v9];exact hO.n,hO.ch,hO.co,hO.sy⟩
 .show _<s'.C.length
  rw[h1.1,h.rel.s];exact h.cc c hc
 .show s'.C.length<=_
  rw[h1.1,h.rel.s];exact h.small
def Ql(a:BO)(x:WS)(ms:List MS)(L:PL)(e:Ending)(m2:List ai):Prop:=∃(o:RV),e= .returned (.tuple #[o.val,true])/\Ri a x ms L o m2
theorem swapIn{s:Ar}{a:Int}{p q:Nat}(h:0<=a/\a<(s.C.length:Int)):(s.swap a p q).2.2=0:=by
 show(s.iw 3 a (eH p q)).2.2=0
 unfold Ar.iw;rw[if_pos h]
theorem Both.SL{x:WS}{ms:List MS}{r:RW}(h:Both x ms r)(n:Nat)(hn:n<r.cos.length):r.cos[n].cell<=1000000:=by
 have h1:=h.cc _ (List.getElem_mem hn);have h2:=h.small;omega
theorem Yg{x:WS}{ms:List MS}{r:RW}{L:PL}(h:Both x ms r)(hL:x.s.L.length<1000000)(k:Int):Does 152 #[r.v.val,k] (x.ts++[r.th L]) (Sn x r L (x.fQ k).2.2 fun v'=> .returned (.tuple #[v'.val,.bool (x.fQ k).1,.int .i64 (x.fQ k).2.1])):=by
 rcases h.ch k with ⟨h1,h2⟩|⟨n,hn,hx,rfl,h1,h2⟩
 .have e1:x.fQ k=(false,4,r.s):=by unfold WS.fQ;rw[h1,h.rel.s];rfl
  rw[e1];exact QX fun w=>Ol r.v w k h2
 .skip
  have hc:x.BI[n].cell=(r.BI[n].cell:Int):=congrArg Prod.fst h2;have e1:x.fQ (n:Int)=((r.s.swap (r.BI[n].cell:Int) 0 1).2.1.did,((r.s.swap (r.BI[n].cell:Int) 0 1).2.2:Int),(r.s.swap (r.BI[n].cell:Int) 0 1).1):=by unfold WS.fQ;rw[h1,h.rel.s];simp only[Option.map_some];rw[hc];exact XJ ((VT r.s _ 0 1).imp id fun h=>by rw[h];rfl)
  rw[e1];refine aby fun T w hwd hL'=>?_;exact YE T w r.v r.s x.P n r.BI[n].cell hL' h.fits.m (by rw[h.fits.h];exact hn) (fun W hW=>(h.XH n hn W hW).cell 0 rfl) (by rw[<-h.rel.s];omega)
theorem b_lock(x:WS)(ms:List MS)(r:RW)(L:PL)(a:BO)(h:cZ x ms a)(hb:Both x ms r)(hw:a.what=4):Does 61 #[x.wb,r.v.val,a.vl] (x.ts++[r.th L]) (Ql a x ms L):=by
 refine(KG x.wb r.v a _ (fun o got no k er m2=>(k=got/\er=no)/\Ri a x ms L o m2) hw ?_).mono (fun e m2 ⟨o,fine,he,_,_,_,_,hf,hR⟩=>⟨o,by rw[hf.2 hR.1]at he;exact he,hR.2⟩);refine(Yg hb h.few a.a).mono ?_;rintro e m1 ⟨v',L',Qy,rfl,hv,rfl⟩;refine⟨v',_,_,rfl,?_⟩;refine(Pv (r:=[RW.th {r with v:=v',s:=(x.fQ a.a).2.2} L']) (m:=x.ts) (R:=fun e m0=>e= .returned (.tuple #[.bool (x.fQ a.a).1,.int .i64 (x.fQ a.a).2.1])/\m0=(x.ar (x.fQ a.a).2.2).ts) fun T w hL=>(ul T w x a.a hL h.few).mono fun e w' ⟨h1,h2⟩=>⟨_,⟨h1,rfl⟩,h2⟩).mono ?_;rintro e m2 ⟨m0,⟨rfl,rfl⟩,rfl⟩;exact⟨_,_,rfl,⟨rfl,rfl⟩,_,ms,_,L',bq.ar h.fair (mW x a.a) ⟨by omega,by omega,by omega,by omega,by omega,by omega⟩,QC hb hv (mW x a.a),rfl,rfl,Qy,rfl⟩
theorem VK{x:WS}{ms:List MS}{r:RW}{L:PL}(h:Both x ms r)(hL:x.s.L.length<1000000)(k:Int):Does 153 #[r.v.val,k] (x.ts++[r.th L]) (Sn x r L (x.eF k).2 fun v'=> .returned (.tuple #[v'.val,.int .i64 (x.eF k).1])):=by
 rcases h.ch k with ⟨h1,h2⟩|⟨n,hn,hx,rfl,h1,h2⟩
 .have e1:x.eF k=(4,r.s):=by unfold WS.eF;rw[h1,h.rel.s];rfl
  rw[e1];exact QX fun w=>zL r.v w k h2
 .skip
  have hc:x.BI[n].cell=(r.BI[n].cell:Int):=congrArg Prod.fst h2;have e1:x.eF (n:Int)=((r.s.wH (r.BI[n].cell:Int):Int),(r.s.swap (r.BI[n].cell:Int) 1 0).1):=by unfold WS.eF;rw[h1,h.rel.s];simp only[Option.map_some];rw[hc];rfl
  rw[e1];refine aby fun T w hwd hL'=>?_;exact WK T w r.v r.s x.P n r.BI[n].cell hL' h.fits.m (by rw[h.fits.h];exact hn) (fun W hW=>(h.XH n hn W hW).cell 0 rfl) (by rw[<-h.rel.s];omega)
theorem Yf(x:WS)(ms:List MS)(r:RW)(L:PL)(a:BO)(h:cZ x ms a)(hb:Both x ms r)(hw:a.what=5):Does 61 #[x.wb,r.v.val,a.vl] (x.ts++[r.th L]) (Ql a x ms L):=by
 refine(yM x.wb r.v a _ (fun o no er m2=>er=no/\Ri a x ms L o m2) hw ?_).mono (fun e m2 ⟨o,fine,he,_,_,hf,hR⟩=>⟨o,by rw[hf.2 hR.1]at he;exact he,hR.2⟩);refine(VK hb h.few a.a).mono ?_;rintro e m1 ⟨v',L',Qy,rfl,hv,rfl⟩;refine⟨v',_,rfl,?_⟩;refine(Pv (r:=[RW.th {r with v:=v',s:=(x.eF a.a).2} L']) (m:=x.ts) (R:=fun e m0=>e= .returned (.int .i64 (x.eF a.a).1)/\m0=(x.ar (x.eF a.a).2).ts) fun T w hL=>(vP T w x a.a hL h.few).mono fun e w' ⟨h1,h2⟩=>⟨_,⟨h1,rfl⟩,h2⟩).mono ?_;rintro e m2 ⟨m0,⟨rfl,rfl⟩,rfl⟩;exact⟨_,rfl,rfl,_,ms,_,L',bq.ar h.fair (pV x a.a) ⟨by omega,by omega,by omega,by omega,by omega,by omega⟩,QC hb hv (pV x a.a),rfl,rfl,Qy,rfl⟩
theorem UC{x:WS}{ms:List MS}{r:RW}{L:PL}(h:Both x ms r)(hL:x.s.L.length<1000000)(k:Int):Does 157 #[r.v.val,k] (x.ts++[r.th L]) (Sn x r L (x.cK k).2.2 fun v'=> .returned (.tuple #[v'.val,.bool (x.cK k).1,.int .i64 (x.cK k).2.1])):=by
 rcases h.co k with ⟨h1,h2⟩|⟨n,hn,hx,rfl,h1,h2⟩
 .have e1:x.cK k=(false,4,r.s):=by unfold WS.cK;rw[h1,h.rel.s];rfl
  rw[e1];exact QX fun w=>uT r.v w k h2
 .skip
  have hc:x.cos[n].a=(r.cos[n].cell:Int):=congrArg Prod.fst h2;have hf:x.cos[n].f=(r.cos[n].cell:Int)+1:=congrArg (fun z=>z.2.1) h2;have e1:x.cK (n:Int)=((r.s.swap (r.cos[n].cell:Int) 0 1).2.1.did,((r.s.swap (r.cos[n].cell:Int) 0 1).2.2:Int),(r.s.swap (r.cos[n].cell:Int) 0 1).1):=by unfold WS.cK;rw[h1,h.rel.s];simp only[Option.map_some];rw[hc];exact XJ ((VT r.s _ 0 1).imp id fun h=>by rw[h];rfl)
  rw[e1];refine aby fun T w hwd hL'=>?_;exact UZ T w r.v r.s x.P n r.cos[n].cell hL' h.fits.m (by rw[h.fits.o];exact hn) (fun W hW=>(h.Um n hn W hW).cell 0 rfl) (by rw[<-h.rel.s];omega)
theorem VA(x:WS)(ms:List MS)(r:RW)(L:PL)(a:BO)(h:cZ x ms a)(hb:Both x ms r)(hw:a.what=9):Does 62 #[x.wb,r.v.val,a.vl] (x.ts++[r.th L]) (Ql a x ms L):=by
 refine(tN x.wb r.v a _ (fun o got no k er m2=>(k=got/\er=no)/\Ri a x ms L o m2) hw ?_).mono (fun e m2 ⟨o,fine,he,_,_,_,_,hf,hR⟩=>⟨o,by rw[hf.2 hR.1]at he;exact he,hR.2⟩);refine(UC hb h.few a.a).mono ?_;rintro e m1 ⟨v',L',Qy,rfl,hv,rfl⟩;refine⟨v',_,_,rfl,?_⟩;refine(Pv (r:=[RW.th {r with v:=v',s:=(x.cK a.a).2.2} L']) (m:=x.ts) (R:=fun e m0=>e= .returned (.tuple #[.bool (x.cK a.a).1,.int .i64 (x.cK a.a).2.1])/\m0=(x.ar (x.cK a.a).2.2).ts) fun T w hL=>(xZ T w x a.a hL h.few).mono fun e w' ⟨h1,h2⟩=>⟨_,⟨h1,rfl⟩,h2⟩).mono ?_;rintro e m2 ⟨m0,⟨rfl,rfl⟩,rfl⟩;exact⟨_,_,rfl,⟨rfl,rfl⟩,_,ms,_,L',bq.ar h.fair (uD x a.a) ⟨by omega,by omega,by omega,by omega,by omega,by omega⟩,QC hb hv (uD x a.a),rfl,rfl,Qy,rfl⟩
theorem Uk{x:WS}{ms:List MS}{r:RW}{L:PL}(h:Both x ms r)(hL:x.s.L.length<1000000)(k:Int):Does 158 #[r.v.val,k] (x.ts++[r.th L]) (Sn x r L (x.bZ k).2 fun v'=> .returned (.tuple #[v'.val,.int .i64 (x.bZ k).1])):=by
 rcases h.co k with ⟨h1,h2⟩|⟨n,hn,hx,rfl,h1,h2⟩
 .have e1:x.bZ k=(4,r.s):=by unfold WS.bZ;rw[h1,h.rel.s];rfl
  rw[e1];exact QX fun w=>rD r.v w k h2
 .skip
  have hc:x.cos[n].a=(r.cos[n].cell:Int):=congrArg Prod.fst h2;have hf:x.cos[n].f=(r.cos[n].cell:Int)+1:=congrArg (fun z=>z.2.1) h2;have e1:x.bZ (n:Int)=((r.s.wH (r.cos[n].cell:Int):Int),(r.s.swap (r.cos[n].cell:Int) 1 0).1):=by unfold WS.bZ;rw[h1,h.rel.s];simp only[Option.map_some];rw[hc];rfl
  rw[e1];refine aby fun T w hwd hL'=>?_;exact Un T w r.v r.s x.P n r.cos[n].cell hL' h.fits.m (by rw[h.fits.o];exact hn) (fun W hW=>(h.Um n hn W hW).cell 0 rfl) (by rw[<-h.rel.s];omega)
theorem UD(x:WS)(ms:List MS)(r:RW)(L:PL)(a:BO)(h:cZ x ms a)(hb:Both x ms r)(hw:a.what=10):Does 62 #[x.wb,r.v.val,a.vl] (x.ts++[r.th L]) (Ql a x ms L):=by
 refine(qK x.wb r.v a _ (fun o no er m2=>er=no/\Ri a x ms L o m2) hw ?_).mono (fun e m2 ⟨o,fine,he,_,_,hf,hR⟩=>⟨o,by rw[hf.2 hR.1]at he;exact he,hR.2⟩);refine(Uk hb h.few a.a).mono ?_;rintro e m1 ⟨v',L',Qy,rfl,hv,rfl⟩;refine⟨v',_,rfl,?_⟩;refine(Pv (r:=[RW.th {r with v:=v',s:=(x.bZ a.a).2} L']) (m:=x.ts) (R:=fun e m0=>e= .returned (.int .i64 (x.bZ a.a).1)/\m0=(x.ar (x.bZ a.a).2).ts) fun T w hL=>(tK T w x a.a hL h.few).mono fun e w' ⟨h1,h2⟩=>⟨_,⟨h1,rfl⟩,h2⟩).mono ?_;rintro e m2 ⟨m0,⟨rfl,rfl⟩,rfl⟩;exact⟨_,rfl,rfl,_,ms,_,L',bq.ar h.fair (qQ x a.a) ⟨by omega,by omega,by omega,by omega,by omega,by omega⟩,QC hb hv (qQ x a.a),rfl,rfl,Qy,rfl⟩
theorem Wy{x:WS}{ms:List MS}{r:RW}{L:PL}(h:Both x ms r)(hL:x.s.L.length<1000000)(k:Int):Does 159 #[r.v.val,k] (x.ts++[r.th L]) (Sn x r L (x.eY k).2.2 fun v'=> .returned (.tuple #[v'.val,.bool (x.eY k).1,.int .i64 (x.eY k).2.1])):=by
 rcases h.co k with ⟨h1,h2⟩|⟨n,hn,hx,rfl,h1,h2⟩
 .have e1:x.eY k=(false,4,r.s):=by unfold WS.eY;rw[h1,h.rel.s];rfl
  rw[e1];exact QX fun w=>JO r.v w k h2
 .skip
  have hc:x.cos[n].a=(r.cos[n].cell:Int):=congrArg Prod.fst h2;have hf:x.cos[n].f=(r.cos[n].cell:Int)+1:=congrArg (fun z=>z.2.1) h2;have e1:x.eY (n:Int)=(((((r.s.load ((r.cos[n].cell:Int)+1)).2.1.old:Nat):Int) != 0),((r.s.load ((r.cos[n].cell:Int)+1)).2.2:Int),(r.s.load ((r.cos[n].cell:Int)+1)).1):=by 
   unfold WS.eY;rw[h1,h.rel.s];simp only[Option.map_some];rw[hf];refine(XJ ?_).trans ?_
   .refine(VX r.s _).imp id fun h=>?_
    rw[h];simp[Acc.zero]
   .rcases VX r.s ((r.cos[n].cell:Int)+1)with h9|h9
    .rw[h9];by_cases h8:(r.s.load ((r.cos[n].cell:Int)+1)).2.1.old=0<;>simp[h8]
    .rw[h9];simp[Acc.zero]
  rw[e1];refine aby fun T w hwd hL'=>?_;exact WY T w r.v r.s x.P n r.cos[n].cell _ _ _ hL' h.fits.m (by rw[h.fits.o];exact hn) (fun W hW=>(h.Um n hn W hW).cell 0 rfl) (fun W hW=>(h.Um n hn W hW).cell 1 rfl) (by rw[<-h.rel.s];omega) (h.SL n hn)
theorem Yx(x:WS)(ms:List MS)(r:RW)(L:PL)(a:BO)(h:cZ x ms a)(hb:Both x ms r)(hw:a.what=11):Does 62 #[x.wb,r.v.val,a.vl] (x.ts++[r.th L]) (Ql a x ms L):=by
 refine(AP x.wb r.v a _ (fun o got no k er m2=>(k=got/\er=no)/\Ri a x ms L o m2) hw ?_).mono (fun e m2 ⟨o,fine,he,_,_,_,_,hf,hR⟩=>⟨o,by rw[hf.2 hR.1]at he;exact he,hR.2⟩);refine(Wy hb h.few a.a).mono ?_;rintro e m1 ⟨v',L',Qy,rfl,hv,rfl⟩;refine⟨v',_,_,rfl,?_⟩;refine(Pv (r:=[RW.th {r with v:=v',s:=(x.eY a.a).2.2} L']) (m:=x.ts) (R:=fun e m0=>e= .returned (.tuple #[.bool (x.eY a.a).1,.int .i64 (x.eY a.a).2.1])/\m0=(x.ar (x.eY a.a).2.2).ts) fun T w hL=>(zJ T w x a.a hL h.few).mono fun e w' ⟨h1,h2⟩=>⟨_,⟨h1,rfl⟩,h2⟩).mono ?_;rintro e m2 ⟨m0,⟨rfl,rfl⟩,rfl⟩;exact⟨_,_,rfl,⟨rfl,rfl⟩,_,ms,_,L',bq.ar h.fair (si x a.a) ⟨by omega,by omega,by omega,by omega,by omega,by omega⟩,QC hb hv (si x a.a),rfl,rfl,Qy,rfl⟩
theorem Xg{x:WS}{ms:List MS}{r:RW}{L:PL}(h:Both x ms r)(hL:x.s.L.length<1000000)(k:Int):Does 160 #[r.v.val,k] (x.ts++[r.th L]) (Sn x r L (x.ja k).2 fun v'=> .returned (.tuple #[v'.val,.int .i64 (x.ja k).1])):=by
 rcases h.co k with ⟨h1,h2⟩|⟨n,hn,hx,rfl,h1,h2⟩
 .have e1:x.ja k=(4,r.s):=by unfold WS.ja;rw[h1,h.rel.s];rfl
  rw[e1];exact QX fun w=>Nn r.v w k h2
 .skip
  have hc:x.cos[n].a=(r.cos[n].cell:Int):=congrArg Prod.fst h2;have hf:x.cos[n].f=(r.cos[n].cell:Int)+1:=congrArg (fun z=>z.2.1) h2;have he:(r.s.swap ((r.cos[n].cell:Int)+1) 0 1).2.2=0:=swapIn (by have :=h.cc _ (List.getElem_mem hn);omega);have e1:x.ja (n:Int)=((if(r.s.swap ((r.cos[n].cell:Int)+1) 0 1).2.1.did=false then 150 else 0:Int),(r.s.swap ((r.cos[n].cell:Int)+1) 0 1).1):=by
   unfold WS.ja;rw[h1,h.rel.s];simp only[Option.map_some];rw[hf];show((((if(r.s.swap ((r.cos[n].cell:Int)+1) 0 1).2.2=0/\(r.s.swap ((r.cos[n].cell:Int)+1) 0 1).2.1.did=false then 150 else(r.s.swap ((r.cos[n].cell:Int)+1) 0 1).2.2:Nat):Int)),_)=_;rw[he];by_cases hd:(r.s.swap ((r.cos[n].cell:Int)+1) 0 1).2.1.did=false<;>simp[hd]<;>rfl
  rw[e1];refine aby fun T w hwd hL'=>?_;cases hd:(r.s.swap ((r.cos[n].cell:Int)+1) 0 1).2.1.did
  .exact Vp T w r.v r.s x.P n r.cos[n].cell _ _ _ hL' h.fits.m (by rw[h.fits.o];exact hn) (fun W hW=>(h.Um n hn W hW).cell 0 rfl) (fun W hW=>(h.Um n hn W hW).cell 1 rfl) (by rw[<-h.rel.s];omega) ⟨h.SL n hn,he,hd⟩
  .exact Vj T w r.v r.s x.P n r.cos[n].cell _ _ _ hL' h.fits.m (by rw[h.fits.o];exact hn) (fun W hW=>(h.Um n hn W hW).cell 0 rfl) (fun W hW=>(h.Um n hn W hW).cell 1 rfl) (by rw[<-h.rel.s];omega) ⟨h.SL n hn,he,hd⟩
theorem b_fire(x:WS)(ms:List MS)(r:RW)(L:PL)(a:BO)(h:cZ x ms a)(hb:Both x ms r)(hw:a.what=12):Does 62 #[x.wb,r.v.val,a.vl] (x.ts++[r.th L]) (Ql a x ms L):=by
 refine(JL x.wb r.v a _ (fun o no er m2=>er=no/\Ri a x ms L o m2) hw ?_).mono (fun e m2 ⟨o,fine,he,_,_,hf,hR⟩=>⟨o,by rw[hf.2 hR.1]at he;exact he,hR.2⟩);refine(Xg hb h.few a.a).mono ?_;rintro e m1 ⟨v',L',Qy,rfl,hv,rfl⟩;refine⟨v',_,rfl,?_⟩;refine(Pv (r:=[RW.th {r with v:=v',s:=(x.ja a.a).2} L']) (m:=x.ts) (R:=fun e m0=>e= .returned (.int .i64 (x.ja a.a).1)/\m0=(x.ar (x.ja a.a).2).ts) fun T w hL=>(Kh T w x a.a hL h.few).mono fun e w' ⟨h1,h2⟩=>⟨_,⟨h1,rfl⟩,h2⟩).mono ?_;rintro e m2 ⟨m0,⟨rfl,rfl⟩,rfl⟩;exact⟨_,rfl,rfl,_,ms,_,L',bq.ar h.fair (vv x a.a) ⟨by omega,by omega,by omega,by omega,by omega,by omega⟩,QC hb hv (vv x a.a),rfl,rfl,Qy,rfl⟩
theorem Wq{x:WS}{ms:List MS}{r:RW}{L:PL}(h:Both x ms r)(hs:x.sys=ms.map MS.raw)(hL:x.s.L.length<1000000)(k:Int):Does 163 #[r.v.val,k] (x.ts++[r.th L]) (Sn x r L (x.fK k).2.2 fun v'=> .returned (.tuple #[v'.val,.int .i64 (x.fK k).1,.int .i64 (x.fK k).2.1])):=by
 rcases h.sy hs k with ⟨h1,h2⟩|⟨n,hn,hx,hy,rfl,h1,h2,h3⟩
 .have e1:x.fK k=(0,4,r.s):=by unfold WS.fK;rw[h1,h.rel.s];rfl
  rw[e1];exact QX fun w=>Ki r.v w k h2
 .skip
  have hc:x.sys[n].flag=r.sys[n].flag:=by rw[h2];exact congrArg (fun z=>z.2.2.2.1) h3
  obtain⟨q,hq⟩:=h.fl n hn;have e1:x.fK (n:Int)=(((bE (r.s.swap q 0 1).2.1.old (r.s.swap q 0 1).2.2).1:Int),((bE (r.s.swap q 0 1).2.1.old (r.s.swap q 0 1).2.2).2:Int),(r.s.swap q 0 1).1):=by unfold WS.fK;rw[h1,h.rel.s];simp only[Option.map_some];rw[hc,<-hq];exact Ye _ _
  rw[e1];refine aby fun T w hwd hL'=>?_;exact Xa T w r.v r.s x.P n q hL' h.fits.m (by rw[h.fits.n];exact hn) (fun W hW=>(h.SA n hn W hW).cell 3 (by rw[hq];rfl)) (by rw[<-h.rel.s];omega) (by rw[<-h.rel.s];exact hwd)
theorem YH(x:WS)(ms:List MS)(r:RW)(L:PL)(a:BO)(h:cZ x ms a)(hb:Both x ms r)(hw:a.what=15):Does 63 #[x.wb,r.v.val,a.vl] (x.ts++[r.th L]) (Ql a x ms L):=by
 refine(zX x.wb r.v a _ (fun o got no k er m2=>(k=got/\er=no)/\Ri a x ms L o m2) hw ?_).mono (fun e m2 ⟨o,fine,he,_,_,_,_,hf,hR⟩=>⟨o,by rw[hf.2 hR.1]at he;exact he,hR.2⟩);refine(Wq hb h.fair.good.sys h.few a.a).mono ?_;rintro e m1 ⟨v',L',Qy,rfl,hv,rfl⟩;refine⟨v',_,_,rfl,?_⟩;refine(Pv (r:=[RW.th {r with v:=v',s:=(x.fK a.a).2.2} L']) (m:=x.ts) (R:=fun e m0=>e= .returned (.tuple #[.int .i64 (x.fK a.a).1,.int .i64 (x.fK a.a).2.1])/\m0=(x.ar (x.fK a.a).2.2).ts) fun T w hL=>(Oq T w x a.a hL h.few).mono fun e w' ⟨h1,h2⟩=>⟨_,⟨h1,rfl⟩,h2⟩).mono ?_;rintro e m2 ⟨m0,⟨rfl,rfl⟩,rfl⟩;exact⟨_,_,rfl,⟨rfl,rfl⟩,_,ms,_,L',bq.ar h.fair (Bh x a.a) ⟨by omega,by omega,by omega,by omega,by omega,by omega⟩,QC hb hv (Bh x a.a),rfl,rfl,Qy,rfl⟩
theorem UN{x:WS}{ms:List MS}{r:RW}{L:PL}(h:Both x ms r)(hs:x.sys=ms.map MS.raw)(hL:x.s.L.length<1000000)(k:Int):Does 164 #[r.v.val,k] (x.ts++[r.th L]) (Sn x r L (x.dX k).2 fun v'=> .returned (.tuple #[v'.val,.int .i64 (x.dX k).1])):=by
 rcases h.sy hs k with ⟨h1,h2⟩|⟨n,hn,hx,hy,rfl,h1,h2,h3⟩
 .have e1:x.dX k=(4,r.s):=by unfold WS.dX;rw[h1,h.rel.s];rfl
  rw[e1];exact QX fun w=>wI r.v w k h2
 .skip
  have hc:x.sys[n].flag=r.sys[n].flag:=by rw[h2];exact congrArg (fun z=>z.2.2.2.1) h3
  obtain⟨q,hq⟩:=h.fl n hn;have e1:x.dX (n:Int)=(((r.s.store q 0).2.2:Int),(r.s.store q 0).1):=by unfold WS.dX;rw[h1,h.rel.s];simp only[Option.map_some];rw[hc,<-hq];rfl
  rw[e1];refine aby fun T w hwd hL'=>?_;exact VB T w r.v r.s x.P n q hL' h.fits.m (by rw[h.fits.n];exact hn) (fun W hW=>(h.SA n hn W hW).cell 3 (by rw[hq];rfl)) (by rw[<-h.rel.s];omega)
theorem WR(x:WS)(ms:List MS)(r:RW)(L:PL)(a:BO)(h:cZ x ms a)(hb:Both x ms r)(hw:a.what=16):Does 63 #[x.wb,r.v.val,a.vl] (x.ts++[r.th L]) (Ql a x ms L):=by
 refine(vN x.wb r.v a _ (fun o no er m2=>er=no/\Ri a x ms L o m2) hw ?_).mono (fun e m2 ⟨o,fine,he,_,_,hf,hR⟩=>⟨o,by rw[hf.2 hR.1]at he;exact he,hR.2⟩);refine(UN hb h.fair.good.sys h.few a.a).mono ?_;rintro e m1 ⟨v',L',Qy,rfl,hv,rfl⟩;refine⟨v',_,rfl,?_⟩;refine(Pv (r:=[RW.th {r with v:=v',s:=(x.dX a.a).2} L']) (m:=x.ts) (R:=fun e m0=>e= .returned (.int .i64 (x.dX a.a).1)/\m0=(x.ar (x.dX a.a).2).ts) fun T w hL=>(Ah T w x a.a hL h.few).mono fun e w' ⟨h1,h2⟩=>⟨_,⟨h1,rfl⟩,h2⟩).mono ?_;rintro e m2 ⟨m0,⟨rfl,rfl⟩,rfl⟩;exact⟨_,rfl,rfl,_,ms,_,L',bq.ar h.fair (vI x a.a) ⟨by omega,by omega,by omega,by omega,by omega,by omega⟩,QC hb hv (vI x a.a),rfl,rfl,Qy,rfl⟩
theorem Xe{x:WS}{ms:List MS}{r:RW}{L:PL}(h:Both x ms r)(hs:x.sys=ms.map MS.raw)(hL:x.s.L.length<1000000)(k:Int):Does 165 #[r.v.val,k] (x.ts++[r.th L]) (Sn x r L (x.gL k).2.2 fun v'=> .returned (.tuple #[v'.val,.int .i64 (x.gL k).1,.int .i64 (x.gL k).2.1])):=by
 rcases h.sy hs k with ⟨h1,h2⟩|⟨n,hn,hx,hy,rfl,h1,h2,h3⟩
 .have e1:x.gL k=(0,4,r.s):=by unfold WS.gL;rw[h1,h.rel.s];rfl
  rw[e1];exact QX fun w=>NP r.v w k h2
 .skip
  have hc:x.sys[n].flag=r.sys[n].flag:=by rw[h2];exact congrArg (fun z=>z.2.2.2.1) h3
  obtain⟨q,hq⟩:=h.fl n hn;have e1:x.gL (n:Int)=(((bE (r.s.swap q 0 2).2.1.old (r.s.swap q 0 2).2.2).1:Int),((bE (r.s.swap q 0 2).2.1.old (r.s.swap q 0 2).2.2).2:Int),(r.s.swap q 0 2).1):=by unfold WS.gL;rw[h1,h.rel.s];simp only[Option.map_some];rw[hc,<-hq];exact Ye _ _
  rw[e1];refine aby fun T w hwd hL'=>?_;exact YA T w r.v r.s x.P n q hL' h.fits.m (by rw[h.fits.n];exact hn) (fun W hW=>(h.SA n hn W hW).cell 3 (by rw[hq];rfl)) (by rw[<-h.rel.s];omega) (by rw[<-h.rel.s];exact hwd)
theorem b_take(x:WS)(ms:List MS)(r:RW)(L:PL)(a:BO)(h:cZ x ms a)(hb:Both x ms r)(hw:a.what=17):Does 63 #[x.wb,r.v.val,a.vl] (x.ts++[r.th L]) (Ql a x ms L):=by
 refine(Kq x.wb r.v a _ (fun o got no k er m2=>(k=got/\er=no)/\Ri a x ms L o m2) hw ?_).mono (fun e m2 ⟨o,fine,he,_,_,_,_,hf,hR⟩=>⟨o,by rw[hf.2 hR.1]at he;exact he,hR.2⟩);refine(Xe hb h.fair.good.sys h.few a.a).mono ?_;rintro e m1 ⟨v',L',Qy,rfl,hv,rfl⟩;refine⟨v',_,_,rfl,?_⟩;refine(Pv (r:=[RW.th {r with v:=v',s:=(x.gL a.a).2.2} L']) (m:=x.ts) (R:=fun e m0=>e= .returned (.tuple #[.int .i64 (x.gL a.a).1,.int .i64 (x.gL a.a).2.1])/\m0=(x.ar (x.gL a.a).2.2).ts) fun T w hL=>(J3 T w x a.a hL h.few).mono fun e w' ⟨h1,h2⟩=>⟨_,⟨h1,rfl⟩,h2⟩).mono ?_;rintro e m2 ⟨m0,⟨rfl,rfl⟩,rfl⟩;exact⟨_,_,rfl,⟨rfl,rfl⟩,_,ms,_,L',bq.ar h.fair (wu x a.a) ⟨by omega,by omega,by omega,by omega,by omega,by omega⟩,QC hb hv (wu x a.a),rfl,rfl,Qy,rfl⟩
theorem Vz{x:WS}{ms:List MS}{r:RW}{L:PL}(h:Both x ms r)(hs:x.sys=ms.map MS.raw)(hL:x.s.L.length<1000000)(k:Int):Does 166 #[r.v.val,k] (x.ts++[r.th L]) (Sn x r L (x.fG k).2 fun v'=> .returned (.tuple #[v'.val,.int .i64 (x.fG k).1])):=by
 rcases h.sy hs k with ⟨h1,h2⟩|⟨n,hn,hx,hy,rfl,h1,h2,h3⟩
 .have e1:x.fG k=(4,r.s):=by unfold WS.fG;rw[h1,h.rel.s];rfl
  rw[e1];exact QX fun w=>Br r.v w k h2
 .skip
  have hc:x.sys[n].flag=r.sys[n].flag:=by rw[h2];exact congrArg (fun z=>z.2.2.2.1) h3
  obtain⟨q,hq⟩:=h.fl n hn;have e1:x.fG (n:Int)=(((r.s.store q 2).2.2:Int),(r.s.store q 2).1):=by unfold WS.fG;rw[h1,h.rel.s];simp only[Option.map_some];rw[hc,<-hq];rfl
  rw[e1];refine aby fun T w hwd hL'=>?_;exact Wn T w r.v r.s x.P n q hL' h.fits.m (by rw[h.fits.n];exact hn) (fun W hW=>(h.SA n hn W hW).cell 3 (by rw[hq];rfl)) (by rw[<-h.rel.s];omega)
theorem Xh(x:WS)(ms:List MS)(r:RW)(L:PL)(a:BO)(h:cZ x ms a)(hb:Both x ms r)(hw:a.what=18):Does 63 #[x.wb,r.v.val,a.vl] (x.ts++[r.th L]) (Ql a x ms L):=by
 refine(yH x.wb r.v a _ (fun o no er m2=>er=no/\Ri a x ms L o m2) hw ?_).mono (fun e m2 ⟨o,fine,he,_,_,hf,hR⟩=>⟨o,by rw[hf.2 hR.1]at he;exact he,hR.2⟩);refine(Vz hb h.fair.good.sys h.few a.a).mono ?_;rintro e m1 ⟨v',L',Qy,rfl,hv,rfl⟩;refine⟨v',_,rfl,?_⟩;refine(Pv (r:=[RW.th {r with v:=v',s:=(x.fG a.a).2} L']) (m:=x.ts) (R:=fun e m0=>e= .returned (.int .i64 (x.fG a.a).1)/\m0=(x.ar (x.fG a.a).2).ts) fun T w hL=>(KI T w x a.a hL h.few).mono fun e w' ⟨h1,h2⟩=>⟨_,⟨h1,rfl⟩,h2⟩).mono ?_;rintro e m2 ⟨m0,⟨rfl,rfl⟩,rfl⟩;exact⟨_,rfl,rfl,_,ms,_,L',bq.ar h.fair (yA x a.a) ⟨by omega,by omega,by omega,by omega,by omega,by omega⟩,QC hb hv (yA x a.a),rfl,rfl,Qy,rfl⟩
theorem XQ{x:WS}{ms:List MS}{r:RW}{L:PL}(h:Both x ms r)(hs:x.sys=ms.map MS.raw)(hL:x.s.L.length<1000000)(k:Int):Does 167 #[r.v.val,k] (x.ts++[r.th L]) (Sn x r L (x.iH k).2.2 fun v'=> .returned (.tuple #[v'.val,.int .i64 (x.iH k).1,.int .i64 (x.iH k).2.1])):=by
 rcases h.sy hs k with ⟨h1,h2⟩|⟨n,hn,hx,hy,rfl,h1,h2,h3⟩
 .have e1:x.iH k=(0,4,r.s):=by unfold WS.iH;rw[h1,h.rel.s];rfl
  rw[e1];exact QX fun w=>zk r.v w k h2
 .skip
  have hc:x.sys[n].flag=r.sys[n].flag:=by rw[h2];exact congrArg (fun z=>z.2.2.2.1) h3
  obtain⟨q,hq⟩:=h.fl n hn;have e1:x.iH (n:Int)=(((bE (r.s.load q).2.1.old (r.s.load q).2.2).1:Int),((bE (r.s.load q).2.1.old (r.s.load q).2.2).2:Int),(r.s.load q).1):=by unfold WS.iH;rw[h1,h.rel.s];simp only[Option.map_some];rw[hc,<-hq];exact Ye _ _
  rw[e1];refine aby fun T w hwd hL'=>?_;exact V8 T w r.v r.s x.P n q hL' h.fits.m (by rw[h.fits.n];exact hn) (fun W hW=>(h.SA n hn W hW).cell 3 (by rw[hq];rfl)) (by rw[<-h.rel.s];omega) (by rw[<-h.rel.s];exact hwd)
theorem b_look(x:WS)(ms:List MS)(r:RW)(L:PL)(a:BO)(h:cZ x ms a)(hb:Both x ms r)(hw:a.what=19):Does 63 #[x.wb,r.v.val,a.vl] (x.ts++[r.th L]) (Ql a x ms L):=by
 refine(Iq x.wb r.v a _ (fun o got no k er m2=>(k=got/\er=no)/\Ri a x ms L o m2) hw ?_).mono (fun e m2 ⟨o,fine,he,_,_,_,_,hf,hR⟩=>⟨o,by rw[hf.2 hR.1]at he;exact he,hR.2⟩);refine(XQ hb h.fair.good.sys h.few a.a).mono ?_;rintro e m1 ⟨v',L',Qy,rfl,hv,rfl⟩;refine⟨v',_,_,rfl,?_⟩;refine(Pv (r:=[RW.th {r with v:=v',s:=(x.iH a.a).2.2} L']) (m:=x.ts) (R:=fun e m0=>e= .returned (.tuple #[.int .i64 (x.iH a.a).1,.int .i64 (x.iH a.a).2.1])/\m0=(x.ar (x.iH a.a).2.2).ts) fun T w hL=>(Look_w T w x a.a hL h.few).mono fun e w' ⟨h1,h2⟩=>⟨_,⟨h1,rfl⟩,h2⟩).mono ?_;rintro e m2 ⟨m0,⟨rfl,rfl⟩,rfl⟩;exact⟨_,_,rfl,⟨rfl,rfl⟩,_,ms,_,L',bq.ar h.fair (LC x a.a) ⟨by omega,by omega,by omega,by omega,by omega,by omega⟩,QC hb hv (LC x a.a),rfl,rfl,Qy,rfl⟩
def Rb.In(W:World)(c:Rb):Prop:=T9 W c.a1 c.k1 c.es1/\T9 W c.a2 c.k2 c.es2
def RH.In(W:World)(c:RH):Prop:=T9 W c.a c.k c.es
def RW.oQ(r:RW)(n:Nat)(c:Rb)(a:Option Addr)(m:Nat):RW:={r with v:={r.v with ha:=a,hc:=m},BI:=r.BI.set n c}
def RW.jM(r:RW)(n:Nat)(c:RH)(a:Option Addr)(m:Nat):RW:={r with v:={r.v with oa:=a,oc:=m},cos:=r.cos.set n c}
theorem RW.On.oQ{r:RW}{W:World}(h:r.On W)(n:Nat){c:Rb}{a:Option Addr}{m:Nat}(hc:c.In W)(hr:aG W a 3 r.v.hn ((r.BI.set n c).flatMap Rb.cells)):(r.oQ n c a m).On W:=
 ⟨hr,h.o,h.n,fun d hd=>(List.mem_or_eq_of_mem_set hd).elim (h.ch d) (fun e=>e▸hc),h.co,h.sy⟩
theorem RW.On.jM{r:RW}{W:World}(h:r.On W)(n:Nat){c:RH}{a:Option Addr}{m:Nat}(hc:c.In W)(hr:aG W a 2 r.v.on ((r.cos.set n c).flatMap RH.cells)):(r.jM n c a m).On W:=
 ⟨h.h,hr,h.n,h.ch,fun d hd=>(List.mem_or_eq_of_mem_set hd).elim (h.co d) (fun e=>e▸hc),h.sy⟩
theorem SH{x:WS}{ms:List MS}{r:RW}(h:Both x ms r)(n:Nat)(y:Ce)(c:Rb)(a:Option Addr)(m:Nat)(hy:y.pl=c.pl)(P':World->Prop)(hon:∀W,P' W->(r.oQ n c a m).On W):Both (x.oQ n y P') ms (r.oQ n c a m):=
 ⟨⟨h.rel.s,by show(x.BI.set n y).map Ce.pl=(r.BI.set n c).map Rb.pl;rw[List.map_set,List.map_set,h.rel.h,hy],h.rel.o,h.rel.n⟩,⟨h.fits.m,by show r.v.hn=(r.BI.set n c).length;rw[List.length_set];exact h.fits.h,h.fits.o,h.fits.n⟩,hon,h.cc,h.small,h.fl⟩
theorem Ur{x:WS}{ms:List MS}{r:RW}(h:Both x ms r)(n:Nat)(hn:n<r.cos.length)(y:Ch)(c:RH)(a:Option Addr)(m:Nat)(hy:y.pl=c.pl)(hcc:c.cell=r.cos[n].cell)(P':World->Prop)(hon:∀W,P' W->(r.jM n c a m).On W):Both (x.jM n y P') ms (r.jM n c a m):=
 ⟨⟨h.rel.s,h.rel.h,by show(x.cos.set n y).map Ch.pl=(r.cos.set n c).map RH.pl;rw[List.map_set,List.map_set,h.rel.o,hy],h.rel.n⟩,⟨h.fits.m,h.fits.h,by show r.v.on=(r.cos.set n c).length;rw[List.length_set];exact h.fits.o,h.fits.n⟩,hon,fun d hd=>(List.mem_or_eq_of_mem_set hd).elim (h.cc d) (fun e=>by subst e;show d.cell+1<_;rw[hcc];exact h.cc _ (List.getElem_mem hn)),h.small,h.fl⟩
theorem PK{x:WS}{ms:List MS}{r:RW}(h:Both x ms r)(P':World->Prop)(hP:∀W,P' W->x.P W):Both {x with P:=P'} ms r:=⟨⟨h.rel.s,h.rel.h,h.rel.o,h.rel.n⟩,h.fits,fun W hW=>h.on W (hP W hW),h.cc,h.small,h.fl⟩
def TT(s:Int)(c:Rb)(e:ME)(err:Int)(d:Rb):Prop:=(s=1/\QU c.es1 e err d.es1/\d={c with a1:=d.a1,k1:=d.k1,es1:=d.es1})\/(s=2/\QU c.es2 e err d.es2/\d={c with a2:=d.a2,k2:=d.k2,es2:=d.es2})
theorem TF{W:World}{rs rs':List ME}{e:ME}{err:Int}(h:QU rs e err rs')(h1:∀y∈rs,y.v.In W/\y.v.nodes<=256)(h2:e.v.In W):∀y∈rs',y.v.In W/\y.v.nodes<=256:=by
 rcases h with ⟨_,_,rfl⟩|⟨_,_,_,rfl⟩|⟨_,ho,_,rfl⟩
 .exact h1
 .exact h1
 .intro y hy
  rcases List.mem_append.1 hy with hy|hy
  .exact h1 y hy
  .obtain rfl:=List.mem_singleton.1 hy
   exact⟨h2,uQ ho⟩
theorem push14(s:Int)(hs:s=1\/s=2)(T:List Nat)(w:World)(P:World->Prop)(c:Rb)(e:ME)(h:BD T w w [aA P])(hP:∀W,P W->c.In W/\e.v.In W)(hne:e.v.nodes<=1048576)(hl:c.es1.length<=4096/\c.es2.length<=4096):
  Calls prog 235 #[.agg #[(c.cell:Int),.slice c.a1 c.es1.length c.k1,.slice c.a2 c.es2.length c.k2],s,e.val] w fun en w'=>∃Q rest,(∃(err:Int) (d:Rb),en= .returned (.tuple #[.agg #[(d.cell:Int),.slice d.a1 d.es1.length d.k1,.slice d.a2 d.es2.length d.k2],err])/\TT s c e err d/\∀W,Q W->P W/\d.In W)/\BD T w w' (aA Q::rest):=by
 have hw:=(hP w (h.still 0 rfl)).1;rcases hs with rfl|rfl
 .refine(UB T w P c.cell c.a1 c.k1 c.es1 c.a2 c.k2 c.es2 e hw.1.1 h (fun W hW=>⟨(hP W hW).1.1.2.1,(hP W hW).2⟩) hne hl.1).mono ?_
  rintro en w' ⟨err,a',k',rs',rest,rfl,hk,hp,Q,hQ,hL⟩;exact⟨Q,rest,⟨err,{c with a1:=a',k1:=k',es1:=rs'},rfl,.inl ⟨rfl,hp,rfl⟩,fun W hW=>⟨(hQ W hW).1,⟨hk,(hQ W hW).2,TF hp (hP W (hQ W hW).1).1.1.2.2 (hP W (hQ W hW).1).2⟩,(hP W (hQ W hW).1).1.2⟩⟩,hL⟩
 .refine(Uv T w P c.cell c.a1 c.k1 c.es1 c.a2 c.k2 c.es2 e hw.2.1 h (fun W hW=>⟨(hP W hW).1.2.2.1,(hP W hW).2⟩) hne hl.2).mono ?_
  rintro en w' ⟨err,a',k',rs',rest,rfl,hk,hp,Q,hQ,hL⟩;exact⟨Q,rest,⟨err,{c with a2:=a',k2:=k',es2:=rs'},rfl,.inr ⟨rfl,hp,rfl⟩,fun W hW=>⟨(hQ W hW).1,(hP W (hQ W hW).1).1.1,⟨hk,(hQ W hW).2,TF hp (hP W (hQ W hW).1).1.2.2.2 (hP W (hQ W hW).1).2⟩⟩⟩,hL⟩
theorem YR{r:RW}(hf:r.Fits)(hl:r.v.hn<=100000)(n:Nat)(hn:n<r.BI.length)(T:List Nat)(W:World)(Q:World->Prop)(d:Rb)(hQ:∀W,Q W->r.On W)(h:BD T W W [aA Q]):
  Calls prog 234 #[r.v.val,(n:Int),.agg #[(d.cell:Int),.slice d.a1 d.es1.length d.k1,.slice d.a2 d.es2.length d.k2]] W fun en w'=>∃Q' rest,(∃(a:Option Addr) (m:Nat),en= .returned ({r.v with ha:=a,hc:=m}:RV).val/\∀W,Q' W->Q W/\aG W a 3 r.v.hn ((r.BI.set n d).flatMap Rb.cells))/\BD T W w' (aA Q'::rest):=by
 refine(Vq T W r.v Q (r.BI.flatMap Rb.cells) n d.cell d.a1 d.es1.length d.k1 d.a2 d.es2.length d.k2 h (fun W hW=>(hQ W hW).h) hf.hc (Sj _ V3 _) hl (by rw[hf.h];exact hn)).mono ?_;rintro en w' ⟨a,m,rfl,hL⟩;exact⟨_,[],⟨a,m,rfl,fun W hW=>⟨hW.1,by rw[<-SF Rb.cells 3 (by omega) Uw r.BI n hn d];exact hW.2⟩⟩,hL⟩
theorem YZ{r:RW}(hf:r.Fits)(hl:r.v.on<=100000)(n:Nat)(hn:n<r.cos.length)(T:List Nat)(W:World)(Q:World->Prop)(d:RH)(hQ:∀W,Q W->r.On W)(h:BD T W W [aA Q]):
  Calls prog 240 #[r.v.val,(n:Int),.agg #[(d.cell:Int),.slice d.a d.es.length d.k]] W fun en w'=>∃Q' rest,(∃(a:Option Addr) (m:Nat),en= .returned ({r.v with oa:=a,oc:=m}:RV).val/\∀W,Q' W->Q W/\aG W a 2 r.v.on ((r.cos.set n d).flatMap RH.cells))/\BD T W w' (aA Q'::rest):=by
 refine(XT T W r.v Q (r.cos.flatMap RH.cells) n d.cell d.a d.es.length d.k h (fun W hW=>(hQ W hW).o) hf.oc (Sj _ VY _) hl (by rw[hf.o];exact hn)).mono ?_;rintro en w' ⟨a,m,rfl,hL⟩;exact⟨_,[],⟨a,m,rfl,fun W hW=>⟨hW.1,by rw[<-SF RH.cells 2 (by omega) UE r.cos n hn d];exact hW.2⟩⟩,hL⟩
def RI(x:WS)(L:PL)(R:Ending->RW->(World->Prop)->Prop)(e:Ending)(m':List ai):Prop:=∃(r':RW) (L':PL) (Q:World->Prop),(∀y∈L,y∈L')/\R e r' Q/\(∀W,Q W->x.P W)/\m'=({x with P:=Q}:WS).ts++[r'.th L']
theorem Qa{f:FuncId}{args:Array Value}{x:WS}{r:RW}{L:PL}{E:Ending}{R:Ending->RW->(World->Prop)->Prop}(h:∀w,Calls prog f args w fun e w'=>e=E/\Touch [] w w')(hR:R E r x.P):Does f args (x.ts++[r.th L]) (RI x L R):=
 (bA h).mono fun e m' ⟨h1,h2⟩=>⟨r,L,x.P,fun _ h=>h,h1▸hR,fun _ h=>h,h2⟩
theorem Qm{f:FuncId}{args:Array Value}{x:WS}{r:RW}{L:PL}{R:Ending->RW->(World->Prop)->Prop}(h:∀T w,BD T w w [aA x.P]->Calls prog f args w fun e w'=>∃(r':RW) (Q:World->Prop),(R e r' Q/\r'.th L=r.th L/\∀W,Q W->x.P W)/\BD T w w' [aA Q]):Does f args (x.ts++[r.th L]) (RI x L R):=by
 refine RS R fun T w hL=>?_;obtain⟨T',hF,hb⟩:=hL.qL 1 rfl;refine(h T' w hF).mono ?_;rintro e w' ⟨r',Q,⟨hR,hth,hQ⟩,hL'⟩;exact⟨r',L,Q,fun _ h=>h,hR,hQ,by rw[hth];exact hb _ _ _ hL'⟩
def V7(r:RW)(k s:Int)(e:ME)(err:Int)(r':RW):Prop:=(¬(s=1\/s=2)/\err=2/\r'=r)\/((s=1\/s=2)/\¬(0<=k/\k<(r.v.hn:Int))/\err=4/\r'=r)\/
 ∃(n:Nat) (hn:n<r.BI.length) (d:Rb) (a:Option Addr) (m:Nat),k=(n:Int)/\TT s r.BI[n] e err d/\r'=r.oQ n d a m
theorem Qq{α β:Type}{f:α->β}{l:List α}{m:List α}(h:l.map f=m.map f):l.length=m.length:=by simpa using congrArg List.length h
theorem Xq{x:WS}{ms:List MS}{r:RW}{L:PL}(h:Both x ms r)(hfa:x.Fair ms)(k s:Int)(e:ME)(he:∀W,x.P W->e.v.In W)(hne:e.v.nodes<=1048576):Does 156 #[r.v.val,k,s,e.val] (x.ts++[r.th L]) (RI x L fun en r' Q=>∃err,en= .returned (.tuple #[r'.v.val,.int .i64 err])/\V7 r k s e err r'/\∀W,Q W->r'.On W):=by
 by_cases hs:s=1\/s=2
 .by_cases hk:0<=k/\k<(r.v.hn:Int)
  .obtain⟨n,rfl⟩:=Int.eq_ofNat_of_zero_le hk.1
   have hn:n<r.BI.length:=by have :=h.fits.h;omega
   obtain⟨hl,hm⟩:=PD h.rel.h;have hpl:=hm n (by omega) hn;have hq:=hfa.good.q1 n (by omega);have h1:x.BI[n].es1.map ME.plain=r.BI[n].es1.map ME.plain:=congrArg (fun z=>z.2.1) hpl;have h2:x.BI[n].es2.map ME.plain=r.BI[n].es2.map ME.plain:=congrArg (fun z=>z.2.2) hpl;refine Qm fun T w hL=>?_;refine(WC T w r.v x.P n s e r.BI[n] hL (by omega) hs (h.XH n hn) (R1:=fun err d Q=>TT s r.BI[n] e err d/\∀W,Q W->x.P W/\d.In W) (fun T W hL=>push14 s hs T W x.P _ e hL (fun W hW=>⟨(h.on W hW).ch _ (List.getElem_mem hn),he W hW⟩) hne ⟨by rw[<-Qq h1];exact hq.1,by rw[<-Qq h2];exact hq.2⟩) (R2:=fun err d a m Q=>TT s r.BI[n] e err d/\∀W,Q W->x.P W/\(r.oQ n d a m).On W) (fun err d Q h1 W hW=>(h1.2 W hW).1) (fun err d Q T W h1 hL=>?_)).mono ?_
   .refine(YR h.fits (by rw[h.fits.h,<-hl];exact hfa.good.l1) n hn T W Q d (fun W hW=>h.on W (h1.2 W hW).1) hL).mono ?_
    rintro en w' ⟨Q',rest,⟨a,m,rfl,h3⟩,hL'⟩;exact⟨Q',rest,⟨a,m,rfl,h1.1,fun W hW=>⟨(h1.2 W (h3 W hW).1).1,(h.on W (h1.2 W (h3 W hW).1).1).oQ n (h1.2 W (h3 W hW).1).2 (h3 W hW).2⟩⟩,hL'⟩
   .rintro en w' ⟨err,d,a,m,Q,rfl,⟨h3,h4⟩,hL'⟩
    exact⟨r.oQ n d a m,Q,⟨⟨err,rfl,.inr (.inr ⟨n,hn,d,a,m,rfl,h3,rfl⟩),fun W hW=>(h4 W hW).2⟩,rfl,fun W hW=>(h4 W hW).1⟩,hL'⟩
  .exact Qa (fun w=>NQ r.v w k s e hs hk) ⟨4,rfl,.inr (.inl ⟨hs,hk,rfl,rfl⟩),h.on⟩
 .exact Qa (fun w=>Ju r.v w k s e hs) ⟨2,rfl,.inl ⟨hs,rfl,rfl⟩,h.on⟩
theorem SN{es rs ys rs':List ME}{kk:Nat}{er err:Int}{e:ME}(hp:es.map ME.plain=rs.map ME.plain)(h1:ys.map ME.plain=[e.plain].take kk)(h2:kK es.length [e.plain] kk er)(h3:QU rs e err rs'):er=err/\(es++ys).map ME.plain=rs'.map ME.plain:=by
 have hl:=Qq hp;obtain⟨p1,p2,p3,p4⟩:=h2;rw[List.map_append,h1,hp];simp only[List.length_singleton]at p3 p4;rcases p4 with ⟨rfl,rfl⟩|⟨hk,h⟩
 .have hok:e.plain.Ok:=p1 0 (by simp) (by omega)
  rcases h3 with ⟨_,hn,_⟩|⟨_,_,hf,_⟩|⟨rfl,_,_,rfl⟩
  .exact absurd hok hn
  .omega
  .exact⟨rfl,by simp⟩
 .obtain rfl:kk=0:=by omega
  simp only[List.getElem_cons_zero]at h;rcases h with ⟨rfl,hno⟩|⟨rfl,hok,hf⟩
  .rcases h3 with ⟨rfl,_,rfl⟩|⟨_,ho,_⟩|⟨_,ho,_⟩
   .exact⟨rfl,by simp⟩
   .exact absurd ho hno
   .exact absurd ho hno
  .rcases h3 with ⟨_,hn,_⟩|⟨rfl,_,_,rfl⟩|⟨_,_,hf2,_⟩
   .exact absurd hok hn
   .exact⟨rfl,by simp⟩
   .omega
theorem WA{x x':WS}{ms:List MS}{r r':RW}{Q:World->Prop}{k s er err:Int}{e:ME}(h:Both x ms r)(hQ:∀W,Q W->x.P W)(hon:∀W,Q W->r'.On W)(hr:V7 r k s e err r')(hx:lX {x with P:=Q} k s e er x'):er=err/\Both x' ms r':=by
 have hl:=(PD h.rel.h).1;have hf:=h.fits.h;rcases hx with ⟨hs,rfl,rfl⟩|⟨hs,hk,rfl,rfl⟩|⟨n,hn,kk,ys,rfl,h1,h2⟩
 .rcases hr with ⟨_,rfl,rfl⟩|⟨hs',_⟩|⟨_,_,_,_,_,_,hp,_⟩
  .exact⟨rfl,PK h Q hQ⟩
  .exact absurd hs' hs
  .exact absurd (hp.imp And.left And.left) hs
 .rcases hr with ⟨hs',_⟩|⟨_,_,rfl,rfl⟩|⟨n,hn,_,_,_,rfl,_⟩
  .exact absurd hs hs'
  .exact⟨rfl,PK h Q hQ⟩
  .exact absurd ⟨by omega,by show(n:Int)<(x.BI.length:Int);omega⟩ hk
 .have hn0:n<x.BI.length:=hn
  rcases hr with ⟨hs,_⟩|⟨_,hk,_⟩|⟨n',hn',d,a,m,hnn,hp,rfl⟩
  .exact absurd (h2.imp And.left And.left) hs
  .exact absurd ⟨by omega,by omega⟩ hk
  .obtain rfl:n=n':=by omega
   have hpl:=(PD h.rel.h).2 n hn0 hn';have e0:x.BI[n].cell=(r.BI[n].cell:Int):=congrArg Prod.fst hpl;have e1:x.BI[n].es1.map ME.plain=r.BI[n].es1.map ME.plain:=congrArg (fun z=>z.2.1) hpl;have e2:x.BI[n].es2.map ME.plain=r.BI[n].es2.map ME.plain:=congrArg (fun z=>z.2.2) hpl;rcases h2 with ⟨rfl,h3,rfl⟩|⟨rfl,h3,rfl⟩
   .rcases hp with ⟨_,h4,hd⟩|⟨h9,_⟩
    .obtain⟨h5,h6⟩:=SN e1 h1 h3 h4
     refine⟨h5,SH h n _ d a m ?_ _ (fun W hW=>hon W hW.1)⟩;rw[hd];exact Prod.ext e0 (Prod.ext h6 e2)
    .omega
   .rcases hp with ⟨h9,_⟩|⟨_,h4,hd⟩
    .omega
    .obtain⟨h5,h6⟩:=SN e2 h1 h3 h4
     refine⟨h5,SH h n _ d a m ?_ _ (fun W hW=>hon W hW.1)⟩;rw[hd];exact Prod.ext e0 (Prod.ext e1 h6)
theorem Qn{x:WS}{ms:List MS}{a:BO}(h:cZ x ms a)(Q:World->Prop)(hQ:∀W,Q W->x.P W):cZ {x with P:=Q} ms a:=⟨h.fair.fJ Q hQ,fun W hW=>h.mem W (hQ W hW),h.few,h.big⟩
theorem P7{x x':WS}{ms ms':List MS}{a:BO}{Q:World->Prop}(hQ:∀W,Q W->x.P W)(h:bq a {x with P:=Q} ms x' ms'):bq a x ms x' ms':=⟨h.fair,h.most,h.log,h.sys,fun W hW=>hQ W (h.knows W hW)⟩
theorem b_push(x:WS)(ms:List MS)(r:RW)(L:PL)(a:BO)(h:cZ x ms a)(hb:Both x ms r)(hw:a.what=8)(hne:a.e.v.nodes<=1048576)(YT:∀W,x.P W->a.e.v.In W):Does 61 #[x.wb,r.v.val,a.vl] (x.ts++[r.th L]) (Ql a x ms L):=by
 refine(IE x.wb r.v a _ (fun o no er m2=>er=no/\Ri a x ms L o m2) hw ?_).mono (fun e m2 ⟨o,fine,he,_,_,hf,hR⟩=>⟨o,by rw[hf.2 hR.1]at he;exact he,hR.2⟩);refine(Xq hb h.fair a.a a.side a.e YT hne).mono ?_;rintro e m1 ⟨r',L',Q,Qy,⟨err,rfl,hp,hon⟩,hQ,rfl⟩;refine⟨r'.v,err,rfl,?_⟩;have hc:=Qn h Q hQ;refine(Pv (r:=[r'.th L']) (m:=({x with P:=Q}:WS).ts) (R:=fun e m0=>∃er x',e= .returned (.int .i64 er)/\lX {x with P:=Q} a.a a.side a.e er x'/\m0=x'.ts) fun T w hL=>?_).mono ?_
 .refine(KW T w _ a.a a.side a.e hL hc.fair.good.sides (fun W hW=>YT W (hQ W hW)) hc.fair.good.q1).mono ?_
  rintro e w' ⟨er,x',rfl,hx,hL'⟩;exact⟨_,⟨er,x',rfl,hx,rfl⟩,hL'⟩
 .rintro e m2 ⟨m0,⟨er,x',rfl,hx,rfl⟩,rfl⟩
  obtain⟨h1,h2⟩:=WA hb hQ hon hp hx;exact⟨er,rfl,h1,x',ms,r',L',P7 hQ (mG hc.fair hx),h2,(show x'.wb=({x with P:=Q}:WS).wb from zi hx),rfl,Qy,rfl⟩
def V5(r:RW)(k:Int)(e:ME)(err:Int)(r':RW):Prop:=(¬(0<=k/\k<(r.v.on:Int))/\err=4/\r'=r)\/
 ∃(n:Nat) (hn:n<r.cos.length) (d:RH) (a:Option Addr) (m:Nat),k=(n:Int)/\QU r.cos[n].es e err d.es/\d={r.cos[n]with a:=d.a,k:=d.k,es:=d.es}/\r'=r.jM n d a m
theorem Xu{x:WS}{ms:List MS}{r:RW}{L:PL}(h:Both x ms r)(hfa:x.Fair ms)(k:Int)(e:ME)(he:∀W,x.P W->e.v.In W)(hne:e.v.nodes<=1048576):Does 161 #[r.v.val,k,e.val] (x.ts++[r.th L]) (RI x L fun en r' Q=>∃err,en= .returned (.tuple #[r'.v.val,.int .i64 err])/\V5 r k e err r'/\∀W,Q W->r'.On W):=by
 by_cases hk:0<=k/\k<(r.v.on:Int)
 .obtain⟨n,rfl⟩:=Int.eq_ofNat_of_zero_le hk.1
  have hn:n<r.cos.length:=by have :=h.fits.o;omega
  obtain⟨hl,hm⟩:=PD h.rel.o;have hpl:=hm n (by omega) hn;have hq:=hfa.good.q2 n (by omega);have h1:x.cos[n].es.map ME.plain=r.cos[n].es.map ME.plain:=congrArg (fun z=>z.2.2) hpl;refine Qm fun T w hL=>?_;refine(Wi T w r.v x.P n e r.cos[n] hL (by omega) (h.Um n hn) (R1:=fun err d Q=>(QU r.cos[n].es e err d.es/\d={r.cos[n]with a:=d.a,k:=d.k,es:=d.es})/\∀W,Q W->x.P W/\d.In W) (fun T W hL=>?_) (R2:=fun err d a m Q=>(QU r.cos[n].es e err d.es/\d={r.cos[n]with a:=d.a,k:=d.k,es:=d.es})/\∀W,Q W->x.P W/\(r.jM n d a m).On W) (fun err d Q h1 W hW=>(h1.2 W hW).1) (fun err d Q T W h1 hL=>?_)).mono ?_
  .refine(VF T W x.P r.cos[n].cell r.cos[n].a r.cos[n].k r.cos[n].es e ((h.on _ (hL.still 0 rfl)).co _ (List.getElem_mem hn)).1 hL (fun W hW=>⟨((h.on W hW).co _ (List.getElem_mem hn)).2.1,he W hW⟩) hne (by rw[<-Qq h1];exact hq)).mono ?_
   rintro en w' ⟨err,a',k',rs',rfl,hk',hp,Q,hQ,hL'⟩;exact⟨Q,[],⟨err,{r.cos[n]with a:=a',k:=k',es:=rs'},rfl,⟨hp,rfl⟩,fun W hW=>⟨(hQ W hW).1,hk',(hQ W hW).2,TF hp ((h.on W (hQ W hW).1).co _ (List.getElem_mem hn)).2.2 (he W (hQ W hW).1)⟩⟩,hL'⟩
  .refine(YZ h.fits (by rw[h.fits.o,<-hl];exact hfa.good.l2) n hn T W Q d (fun W hW=>h.on W (h1.2 W hW).1) hL).mono ?_
   rintro en w' ⟨Q',rest,⟨a,m,rfl,h3⟩,hL'⟩;exact⟨Q',rest,⟨a,m,rfl,h1.1,fun W hW=>⟨(h1.2 W (h3 W hW).1).1,(h.on W (h1.2 W (h3 W hW).1).1).jM n (h1.2 W (h3 W hW).1).2 (h3 W hW).2⟩⟩,hL'⟩
  .rintro en w' ⟨err,d,a,m,Q,rfl,⟨h3,h4⟩,hL'⟩
   exact⟨r.jM n d a m,Q,⟨⟨err,rfl,.inr ⟨n,hn,d,a,m,rfl,h3.1,h3.2,rfl⟩,fun W hW=>(h4 W hW).2⟩,rfl,fun W hW=>(h4 W hW).1⟩,hL'⟩
 .exact Qa (fun w=>OD r.v w k e hk) ⟨4,rfl,.inl ⟨hk,rfl,rfl⟩,h.on⟩
theorem Ws{x x':WS}{ms:List MS}{r r':RW}{Q:World->Prop}{k er err:Int}{e:ME}(h:Both x ms r)(hQ:∀W,Q W->x.P W)(hon:∀W,Q W->r'.On W)(hr:V5 r k e err r')(hx:nu {x with P:=Q} k e er x'):er=err/\Both x' ms r':=by
 have hl:=(PD h.rel.o).1;have hf:=h.fits.o;rcases hx with ⟨hk,rfl,rfl⟩|⟨n,hn,kk,ys,rfl,h1,h3,rfl⟩
 .rcases hr with ⟨_,rfl,rfl⟩|⟨n,hn,_,_,_,rfl,_⟩
  .exact⟨rfl,PK h Q hQ⟩
  .exact absurd ⟨by omega,by show(n:Int)<(x.cos.length:Int);omega⟩ hk
 .have hn0:n<x.cos.length:=hn
  rcases hr with ⟨hk,_⟩|⟨n',hn',d,a,m,hnn,hp,hd,rfl⟩
  .exact absurd ⟨by omega,by omega⟩ hk
  .obtain rfl:n=n':=by omega
   have hpl:=(PD h.rel.o).2 n hn0 hn';have e0:x.cos[n].a=(r.cos[n].cell:Int):=congrArg Prod.fst hpl;have e1:x.cos[n].f=(r.cos[n].cell:Int)+1:=congrArg (fun z=>z.2.1) hpl;obtain⟨h5,h6⟩:=SN (congrArg (fun z=>z.2.2) hpl) h1 h3 hp;refine⟨h5,Ur h n hn' _ d a m ?_ (by rw[hd]) _ (fun W hW=>hon W hW.1)⟩;rw[hd];exact Prod.ext e0 (Prod.ext e1 h6)
theorem b_wait(x:WS)(ms:List MS)(r:RW)(L:PL)(a:BO)(h:cZ x ms a)(hb:Both x ms r)(hw:a.what=13)(hne:a.e.v.nodes<=1048576)(YT:∀W,x.P W->a.e.v.In W):Does 62 #[x.wb,r.v.val,a.vl] (x.ts++[r.th L]) (Ql a x ms L):=by
 refine(Lb x.wb r.v a _ (fun o no er m2=>er=no/\Ri a x ms L o m2) hw ?_).mono (fun e m2 ⟨o,fine,he,_,_,hf,hR⟩=>⟨o,by rw[hf.2 hR.1]at he;exact he,hR.2⟩);refine(Xu hb h.fair a.a a.e YT hne).mono ?_;rintro e m1 ⟨r',L',Q,Qy,⟨err,rfl,hp,hon⟩,hQ,rfl⟩;refine⟨r'.v,err,rfl,?_⟩;have hc:=Qn h Q hQ;refine(Pv (r:=[r'.th L']) (m:=({x with P:=Q}:WS).ts) (R:=fun e m0=>∃er x',e= .returned (.int .i64 er)/\nu {x with P:=Q} a.a a.e er x'/\m0=x'.ts) fun T w hL=>?_).mono ?_
 .refine(Wait_w T w _ a.a a.e hL (fun W hW=>YT W (hQ W hW)) hc.fair.good.q2).mono ?_
  rintro e w' ⟨er,x',rfl,hx,hL'⟩;exact⟨_,⟨er,x',rfl,hx,rfl⟩,hL'⟩
 .rintro e m2 ⟨m0,⟨er,x',rfl,hx,rfl⟩,rfl⟩
  obtain⟨h1,h2⟩:=Ws hb hQ hon hp hx;exact⟨er,rfl,h1,x',ms,r',L',P7 hQ (yt hc.fair hx),h2,(show x'.wb=({x with P:=Q}:WS).wb from Nw hx),rfl,Qy,rfl⟩
theorem WW{α β:Type}(f:α->β)(l:List α)(j:Nat):(l.eraseIdx j).map f=(l.map f).eraseIdx j:=by
 induction l generalizing j with
 |nil=>simp
 |cons a l ih=>cases j<;>simp[ih]
theorem SG{es rs:List ME}{i:Int}{y z:ME}{b c:Bool}(hp:es.map ME.plain=rs.map ME.plain)(h1:kF es i y b)(h2:kF rs i z c):b=c/\y.plain=z.plain/\(if b=true then es.eraseIdx i.toNat else es).map ME.plain=(if c=true then rs.eraseIdx i.toNat else rs).map ME.plain:=by
 have hl:=Qq hp;have he:∀(l:List ME) (j:Nat),(l.eraseIdx j).map ME.plain=(l.map ME.plain).eraseIdx j:=fun l j=>WW _ _ _;rcases h1 with ⟨rfl,h0,h1⟩|⟨rfl,h0,rfl⟩
 .rcases h2 with ⟨rfl,_,h2⟩|⟨rfl,h3,rfl⟩
  .have h4:=congrArg (·[i.toNat]?) hp
   simp only[List.getElem?_map,h1,h2,Option.map_some,Option.some.injEq]at h4;exact⟨rfl,h4,by simp only[if_true];rw[he,he,hp]⟩
  .have :=(List.getElem?_eq_some_iff.1 h1).1
   exact absurd ⟨h0,by omega⟩ h3
 .rcases h2 with ⟨rfl,h3,h2⟩|⟨rfl,_,rfl⟩
  .have :=(List.getElem?_eq_some_iff.1 h2).1
   exact absurd ⟨h3,by omega⟩ h0
  .exact⟨rfl,rfl,by simpa using hp⟩
theorem Qx:ME.zero.v.nodes<=256:=by simp[ME.zero,MT.zero,MT.nodes,MT.aV]
theorem cu{x y:ME}(h:y.plain=x.plain):y.v.nodes=x.v.nodes:=(qI h).symm
def VZ(r:RW)(k:Int)(z:ME)(c:Bool)(err:Int)(r':RW):Prop:=(¬(0<=k/\k<(r.v.on:Int))/\err=4/\z=ME.zero/\c=false/\r'=r)\/
 ∃(n:Nat) (hn:n<r.cos.length) (d:RH) (a:Option Addr) (m:Nat),k=(n:Int)/\err=0/\kF r.cos[n].es 0 z c/\d={r.cos[n]with a:=d.a,k:=d.k,es:=if c=true then r.cos[n].es.eraseIdx 0 else r.cos[n].es}/\r'=r.jM n d a m
theorem Ui{W:World}{rs:List ME}{c:Bool}{i:Nat}(h:∀y∈rs,y.v.In W/\y.v.nodes<=256):∀y∈(if c=true then rs.eraseIdx i else rs),y.v.In W/\y.v.nodes<=256:=by
 intro y hy;split at hy
 .exact h y (List.mem_of_mem_eraseIdx hy)
 .exact h y hy
theorem QV{W:World}{rs:List ME}{i:Int}{z:ME}{c:Bool}(h:kF rs i z c)(hr:∀y∈rs,y.v.In W/\y.v.nodes<=256):z.v.In W/\z.v.nodes<=256:=h.inq (p:=fun z=>z.v.In W/\z.v.nodes<=256) ⟨MT.dQ W,Qx⟩ hr
theorem Xo{x:WS}{ms:List MS}{r:RW}{L:PL}(h:Both x ms r)(hfa:x.Fair ms)(k:Int):Does 162 #[r.v.val,k] (x.ts++[r.th L]) (RI x L fun en r' Q=>∃z c err,en= .returned (.tuple #[r'.v.val,z.val,.bool c,.int .i64 err])/\VZ r k z c err r'/\z.v.nodes<=256/\∀W,Q W->r'.On W/\z.v.In W):=by
 by_cases hk:0<=k/\k<(r.v.on:Int)
 .obtain⟨n,rfl⟩:=Int.eq_ofNat_of_zero_le hk.1
  have hn:n<r.cos.length:=by have :=h.fits.o;omega
  obtain⟨hl,hm⟩:=PD h.rel.o;have hpl:=hm n (by omega) hn;have hq:=hfa.good.q2 n (by omega);have h1:x.cos[n].es.map ME.plain=r.cos[n].es.map ME.plain:=congrArg (fun z=>z.2.2) hpl;refine Qm fun T w hL=>?_;refine(WQ T w r.v x.P n r.cos[n] hL (by omega) (h.Um n hn) (R1:=fun z c d Q=>(kF r.cos[n].es 0 z c/\d={r.cos[n]with a:=d.a,k:=d.k,es:=if c=true then r.cos[n].es.eraseIdx 0 else r.cos[n].es})/\∀W,Q W->x.P W/\d.In W) (fun T W hL=>?_) (R2:=fun z c d a m Q=>(kF r.cos[n].es 0 z c/\d={r.cos[n]with a:=d.a,k:=d.k,es:=if c=true then r.cos[n].es.eraseIdx 0 else r.cos[n].es})/\∀W,Q W->x.P W/\(r.jM n d a m).On W) (fun z c d Q T W h1 hL=>?_)).mono ?_
  .refine(VS T W x.P r.cos[n].cell r.cos[n].a r.cos[n].k r.cos[n].es ((h.on _ (hL.still 0 rfl)).co _ (List.getElem_mem hn)).1 hL (fun W hW=>((h.on W hW).co _ (List.getElem_mem hn)).2.1) (by rw[<-Qq h1];omega)).mono ?_
   rintro en w' ⟨a',k',rs',z,c,rfl,hk',hp,rfl,Q,hQ,hL'⟩;exact⟨Q,[],⟨z,c,{r.cos[n]with a:=a',k:=k',es:=if c=true then r.cos[n].es.eraseIdx 0 else r.cos[n].es},rfl,⟨hp,rfl⟩,fun W hW=>⟨(hQ W hW).1,hk',(hQ W hW).2,Ui ((h.on W (hQ W hW).1).co _ (List.getElem_mem hn)).2.2⟩⟩,hL'⟩
  .refine(YZ h.fits (by rw[h.fits.o,<-hl];exact hfa.good.l2) n hn T W Q d (fun W hW=>h.on W (h1.2 W hW).1) hL).mono ?_
   rintro en w' ⟨Q',rest,⟨a,m,rfl,h3⟩,hL'⟩;exact⟨Q',rest,⟨a,m,rfl,h1.1,fun W hW=>⟨(h1.2 W (h3 W hW).1).1,(h.on W (h1.2 W (h3 W hW).1).1).jM n (h1.2 W (h3 W hW).1).2 (h3 W hW).2⟩⟩,hL'⟩
  .rintro en w' ⟨z,c,d,a,m,Q,rfl,⟨h3,h4⟩,hL'⟩
   exact⟨r.jM n d a m,Q,⟨⟨z,c,0,rfl,.inr ⟨n,hn,d,a,m,rfl,rfl,h3.1,h3.2,rfl⟩,(QV h3.1 ((h.on w (hL.still 0 rfl)).co _ (List.getElem_mem hn)).2.2).2,fun W hW=>⟨(h4 W hW).2,(QV h3.1 ((h.on W (h4 W hW).1).co _ (List.getElem_mem hn)).2.2).1⟩⟩,rfl,fun W hW=>(h4 W hW).1⟩,hL'⟩
 .exact Qa (fun w=>L8 r.v w k hk) ⟨ME.zero,false,4,rfl,.inl ⟨hk,rfl,rfl,rfl,rfl⟩,Qx,fun W hW=>⟨h.on W hW,MT.dQ W⟩⟩
def VN(x':WS)(v:aL)(z:ME)(c:Bool)(er err:Int):Prop:=∃(y:ME) (b:Bool),v=aL.of y b/\b=c/\y.plain=z.plain/\er=err/\∀W,x'.P W->y.v.In W
theorem Wo{x x':WS}{ms:List MS}{r r':RW}{Q:World->Prop}{k er err:Int}{z:ME}{c:Bool}{v:aL}(h:Both x ms r)(hfa:x.Fair ms)(hQ:∀W,Q W->x.P W)(hon:∀W,Q W->r'.On W)(hr:VZ r k z c err r')(hx:lS {x with P:=Q} k v er x'):VN x' v z c er err/\Both x' ms r':=by
 have hl:=(PD h.rel.o).1;have hf:=h.fits.o;rcases hx with ⟨hk,rfl,rfl,rfl⟩|⟨n,hn,y,b,rfl,h1,rfl,rfl,rfl⟩
 .rcases hr with ⟨_,rfl,rfl,rfl,rfl⟩|⟨n,hn,_,_,_,rfl,_⟩
  .exact⟨⟨ME.zero,false,rfl,rfl,rfl,rfl,fun W _=>MT.dQ W⟩,PK h Q hQ⟩
  .exact absurd ⟨by omega,by show(n:Int)<(x.cos.length:Int);omega⟩ hk
 .have hn0:n<x.cos.length:=hn
  rcases hr with ⟨hk,_⟩|⟨n',hn',d,a,m,hnn,rfl,hp,hd,rfl⟩
  .exact absurd ⟨by omega,by omega⟩ hk
  .obtain rfl:n=n':=by omega
   have hpl:=(PD h.rel.o).2 n hn0 hn';have e0:x.cos[n].a=(r.cos[n].cell:Int):=congrArg Prod.fst hpl;have e1:x.cos[n].f=(r.cos[n].cell:Int)+1:=congrArg (fun z=>z.2.1) hpl;obtain⟨h5,h6,h7⟩:=SG (congrArg (fun z=>z.2.2) hpl) h1 hp;refine⟨⟨y,b,rfl,h5,h6,rfl,fun W hW=>(QV h1 ((hfa.good.vals W (hQ W hW)).2 _ (List.getElem_mem hn0))).1⟩,Ur h n hn' _ d a m ?_ (by rw[hd]) _ hon⟩;rw[hd];exact Prod.ext e0 (Prod.ext e1 h7)
theorem b_next(x:WS)(ms:List MS)(r:RW)(L:PL)(a:BO)(h:cZ x ms a)(hb:Both x ms r)(hw:a.what=14):Does 62 #[x.wb,r.v.val,a.vl] (x.ts++[r.th L]) (Ql a x ms L):=by
 refine(JI x.wb r.v a _ (fun o z c no y b er m2=>((b=c/\(z.v.nodes<=256/\y.v.nodes<=256/\z.plain=y.plain)/\er=no))/\Ri a x ms L o m2) hw ?_).mono (fun e m2 ⟨o,fine,he,_,_,_,_,_,_,hf,hR⟩=>⟨o,by rw[hf.2 hR.1]at he;exact he,hR.2⟩);refine(Xo hb h.fair a.a).mono ?_;rintro e m1 ⟨r',L',Q,Qy,⟨z,c,err,rfl,hp,hzn,hon⟩,hQ,rfl⟩;refine⟨r'.v,z,c,err,rfl,?_⟩;have hc:=Qn h Q hQ;refine(Pv (r:=[r'.th L']) (m:=({x with P:=Q}:WS).ts) (R:=fun e m0=>∃(v:aL) (er:Int) (x':WS),e= .returned (.tuple #[v.ent,v.is,.int .i64 er])/\lS {x with P:=Q} a.a v er x'/\m0=x'.ts) fun T w hL=>?_).mono ?_
 .refine(Next_w T w _ a.a hL hc.fair.good.q2).mono ?_
  rintro e w' ⟨v,er,x',rfl,hx,hL'⟩;exact⟨_,⟨v,er,x',rfl,hx,rfl⟩,hL'⟩
 .rintro e m2 ⟨m0,⟨v,er,x',rfl,hx,rfl⟩,rfl⟩
  obtain⟨⟨y,b,rfl,h1,h2,h3,h4⟩,h5⟩:=Wo hb h.fair hQ (fun W hW=>(hon W hW).1) hp hx;have hs:=xh (a:=a) hc.fair hx;have hyn:y.v.nodes<=256:=by rw[cu h2];exact hzn
  exact⟨y,b,er,rfl,⟨2,x'.P,rfl,fun W hW=>⟨⟨(hon W (hs.knows W hW)).2,by omega⟩,h4 W hW,by omega⟩⟩,⟨h1,⟨hzn,hyn,h2.symm⟩,h3⟩,x',ms,r',L',P7 hQ hs,h5,(show x'.wb=({x with P:=Q}:WS).wb from MI hx),rfl,Qy,rfl⟩
def SE(s i:Int)(c:Rb)(z:ME)(b:Bool)(d:Rb):Prop:=(s=1/\kF c.es1 i z b/\d={c with a1:=d.a1,k1:=d.k1,es1:=if b=true then c.es1.eraseIdx i.toNat else c.es1})\/(s=2/\kF c.es2 i z b/\d={c with a2:=d.a2,k2:=d.k2,es2:=if b=true then c.es2.eraseIdx i.toNat else c.es2})
theorem TL{W:World}{s i:Int}{c d:Rb}{z:ME}{b:Bool}(h:SE s i c z b d)(hc:c.In W):z.v.In W/\z.v.nodes<=256:=by
 rcases h with ⟨_,h,_⟩|⟨_,h,_⟩
 .exact QV h hc.1.2.2
 .exact QV h hc.2.2.2
theorem drop14(s:Int)(hs:s=1\/s=2)(i:Int)(T:List Nat)(w:World)(P:World->Prop)(c:Rb)(h:BD T w w [aA P])(hP:∀W,P W->c.In W)(hl:c.es1.length<=1048576/\c.es2.length<=1048576):
  Calls prog 233 #[.agg #[(c.cell:Int),.slice c.a1 c.es1.length c.k1,.slice c.a2 c.es2.length c.k2],s,i] w fun en w'=>∃Q rest,(∃(z:ME) (b:Bool) (d:Rb),en= .returned (.tuple #[.agg #[(d.cell:Int),.slice d.a1 d.es1.length d.k1,.slice d.a2 d.es2.length d.k2],z.val,b])/\SE s i c z b d/\∀W,Q W->P W/\d.In W)/\BD T w w' (aA Q::rest):=by
 have hw:=hP w (h.still 0 rfl);rcases hs with rfl|rfl
 .refine(UA T w P c.cell c.a1 c.k1 c.es1 c.a2 c.k2 c.es2 i hw.1.1 h (fun W hW=>(hP W hW).1.2.1) hl.1).mono ?_
  rintro en w' ⟨a',k',rs',z,b,rest,rfl,hk,hp,rfl,Q,hQ,hL⟩;exact⟨Q,rest,⟨z,b,{c with a1:=a',k1:=k',es1:=if b=true then c.es1.eraseIdx i.toNat else c.es1},rfl,.inl ⟨rfl,hp,rfl⟩,fun W hW=>⟨(hQ W hW).1,⟨hk,(hQ W hW).2,Ui (hP W (hQ W hW).1).1.2.2⟩,(hP W (hQ W hW).1).2⟩⟩,hL⟩
 .refine(UG T w P c.cell c.a1 c.k1 c.es1 c.a2 c.k2 c.es2 i hw.2.1 h (fun W hW=>(hP W hW).2.2.1) hl.2).mono ?_
  rintro en w' ⟨a',k',rs',z,b,rest,rfl,hk,hp,rfl,Q,hQ,hL⟩;exact⟨Q,rest,⟨z,b,{c with a2:=a',k2:=k',es2:=if b=true then c.es2.eraseIdx i.toNat else c.es2},rfl,.inr ⟨rfl,hp,rfl⟩,fun W hW=>⟨(hQ W hW).1,(hP W (hQ W hW).1).1,⟨hk,(hQ W hW).2,Ui (hP W (hQ W hW).1).2.2.2⟩⟩⟩,hL⟩
def UL(r:RW)(k s i:Int)(z:ME)(c:Bool)(err:Int)(r':RW):Prop:=(¬(s=1\/s=2)/\err=2/\z=ME.zero/\c=false/\r'=r)\/((s=1\/s=2)/\¬(0<=k/\k<(r.v.hn:Int))/\err=4/\z=ME.zero/\c=false/\r'=r)\/
 ∃(n:Nat) (hn:n<r.BI.length) (d:Rb) (a:Option Addr) (m:Nat),k=(n:Int)/\err=0/\SE s i r.BI[n] z c d/\r'=r.oQ n d a m
theorem XY{x:WS}{ms:List MS}{r:RW}{L:PL}(h:Both x ms r)(hfa:x.Fair ms)(k s i:Int):Does 155 #[r.v.val,k,s,i] (x.ts++[r.th L]) (RI x L fun en r' Q=>∃z c err,en= .returned (.tuple #[r'.v.val,z.val,.bool c,.int .i64 err])/\UL r k s i z c err r'/\z.v.nodes<=256/\∀W,Q W->r'.On W/\z.v.In W):=by
 by_cases hs:s=1\/s=2
 .by_cases hk:0<=k/\k<(r.v.hn:Int)
  .obtain⟨n,rfl⟩:=Int.eq_ofNat_of_zero_le hk.1
   have hn:n<r.BI.length:=by have :=h.fits.h;omega
   obtain⟨hl,hm⟩:=PD h.rel.h;have hpl:=hm n (by omega) hn;have hq:=hfa.good.q1 n (by omega);have h1:x.BI[n].es1.map ME.plain=r.BI[n].es1.map ME.plain:=congrArg (fun z=>z.2.1) hpl;have h2:x.BI[n].es2.map ME.plain=r.BI[n].es2.map ME.plain:=congrArg (fun z=>z.2.2) hpl;have hl1:=Qq h1;have hl2:=Qq h2;refine Qm fun T w hL=>?_;refine(WH T w r.v x.P n s i r.BI[n] hL (by omega) hs (h.XH n hn) (R1:=fun z c d Q=>SE s i r.BI[n] z c d/\∀W,Q W->x.P W/\d.In W) (fun T W hL=>drop14 s hs i T W x.P _ hL (fun W hW=>(h.on W hW).ch _ (List.getElem_mem hn)) ⟨by omega,by omega⟩) (R2:=fun z c d a m Q=>SE s i r.BI[n] z c d/\∀W,Q W->x.P W/\(r.oQ n d a m).On W) (fun z c d Q T W h1 hL=>?_)).mono ?_
   .refine(YR h.fits (by rw[h.fits.h,<-hl];exact hfa.good.l1) n hn T W Q d (fun W hW=>h.on W (h1.2 W hW).1) hL).mono ?_
    rintro en w' ⟨Q',rest,⟨a,m,rfl,h3⟩,hL'⟩;exact⟨Q',rest,⟨a,m,rfl,h1.1,fun W hW=>⟨(h1.2 W (h3 W hW).1).1,(h.on W (h1.2 W (h3 W hW).1).1).oQ n (h1.2 W (h3 W hW).1).2 (h3 W hW).2⟩⟩,hL'⟩
   .rintro en w' ⟨z,c,d,a,m,Q,rfl,⟨h3,h4⟩,hL'⟩
    exact⟨r.oQ n d a m,Q,⟨⟨z,c,0,rfl,.inr (.inr ⟨n,hn,d,a,m,rfl,rfl,h3,rfl⟩),(TL h3 ((h.on w (hL.still 0 rfl)).ch _ (List.getElem_mem hn))).2,fun W hW=>⟨(h4 W hW).2,(TL h3 ((h.on W (h4 W hW).1).ch _ (List.getElem_mem hn))).1⟩⟩,rfl,fun W hW=>(h4 W hW).1⟩,hL'⟩
  .exact Qa (fun w=>MW r.v w k s i hs hk) ⟨ME.zero,false,4,rfl,.inr (.inl ⟨hs,hk,rfl,rfl,rfl,rfl⟩),Qx,fun W hW=>⟨h.on W hW,MT.dQ W⟩⟩
 .exact Qa (fun w=>Jq r.v w k s i hs) ⟨ME.zero,false,2,rfl,.inl ⟨hs,rfl,rfl,rfl,rfl⟩,Qx,fun W hW=>⟨h.on W hW,MT.dQ W⟩⟩
theorem WG{x x':WS}{ms:List MS}{r r':RW}{Q:World->Prop}{k s i er err:Int}{z:ME}{c:Bool}{v:aL}(h:Both x ms r)(hfa:x.Fair ms)(hQ:∀W,Q W->x.P W)(hon:∀W,Q W->r'.On W)(hr:UL r k s i z c err r')(hx:jN {x with P:=Q} k s i v er x'):VN x' v z c er err/\Both x' ms r':=by
 have hl:=(PD h.rel.h).1;have hf:=h.fits.h;rcases hx with ⟨hs,rfl,rfl,rfl⟩|⟨hs,hk,rfl,rfl,rfl⟩|⟨n,hn,y,b,rfl,rfl,rfl,h2⟩
 .rcases hr with ⟨_,rfl,rfl,rfl,rfl⟩|⟨hs',_⟩|⟨_,_,_,_,_,_,_,hp,_⟩
  .exact⟨⟨ME.zero,false,rfl,rfl,rfl,rfl,fun W _=>MT.dQ W⟩,PK h Q hQ⟩
  .exact absurd hs' hs
  .exact absurd (hp.imp And.left And.left) hs
 .rcases hr with ⟨hs',_⟩|⟨_,_,rfl,rfl,rfl,rfl⟩|⟨n,hn,_,_,_,rfl,_⟩
  .exact absurd hs hs'
  .exact⟨⟨ME.zero,false,rfl,rfl,rfl,rfl,fun W _=>MT.dQ W⟩,PK h Q hQ⟩
  .exact absurd ⟨by omega,by show(n:Int)<(x.BI.length:Int);omega⟩ hk
 .have hn0:n<x.BI.length:=hn
  rcases hr with ⟨hs,_⟩|⟨_,hk,_⟩|⟨n',hn',d,a,m,hnn,rfl,hp,rfl⟩
  .exact absurd (h2.imp And.left And.left) hs
  .exact absurd ⟨by omega,by omega⟩ hk
  .obtain rfl:n=n':=by omega
   have hpl:=(PD h.rel.h).2 n hn0 hn';have e0:x.BI[n].cell=(r.BI[n].cell:Int):=congrArg Prod.fst hpl;have e1:x.BI[n].es1.map ME.plain=r.BI[n].es1.map ME.plain:=congrArg (fun z=>z.2.1) hpl;have e2:x.BI[n].es2.map ME.plain=r.BI[n].es2.map ME.plain:=congrArg (fun z=>z.2.2) hpl;have hin:=fun W (hW:Q W)=>(hfa.good.vals W (hQ W hW)).1 _ (List.getElem_mem hn0);rcases h2 with ⟨rfl,h3,rfl⟩|⟨rfl,h3,rfl⟩
   .rcases hp with ⟨_,h4,hd⟩|⟨h9,_⟩
    .obtain⟨h5,h6,h7⟩:=SG e1 h3 h4
     refine⟨⟨y,b,rfl,h5,h6,rfl,fun W hW=>(QV h3 (hin W hW).1).1⟩,SH h n _ d a m ?_ _ hon⟩;rw[hd];exact Prod.ext e0 (Prod.ext h7 e2)
    .omega
   .rcases hp with ⟨h9,_⟩|⟨_,h4,hd⟩
    .omega
    .obtain⟨h5,h6,h7⟩:=SG e2 h3 h4
     refine⟨⟨y,b,rfl,h5,h6,rfl,fun W hW=>(QV h3 (hin W hW).2).1⟩,SH h n _ d a m ?_ _ hon⟩;rw[hd];exact Prod.ext e0 (Prod.ext e1 h7)
theorem b_drop(x:WS)(ms:List MS)(r:RW)(L:PL)(a:BO)(h:cZ x ms a)(hb:Both x ms r)(hw:a.what=7):Does 61 #[x.wb,r.v.val,a.vl] (x.ts++[r.th L]) (Ql a x ms L):=by
 refine(JU x.wb r.v a _ (fun o z c no y b er m2=>((b=c/\(z.v.nodes<=256/\y.v.nodes<=256/\z.plain=y.plain)/\er=no))/\Ri a x ms L o m2) hw ?_).mono (fun e m2 ⟨o,fine,he,_,_,_,_,_,_,hf,hR⟩=>⟨o,by rw[hf.2 hR.1]at he;exact he,hR.2⟩);refine(XY hb h.fair a.a a.side a.b).mono ?_;rintro e m1 ⟨r',L',Q,Qy,⟨z,c,err,rfl,hp,hzn,hon⟩,hQ,rfl⟩;refine⟨r'.v,z,c,err,rfl,?_⟩;have hc:=Qn h Q hQ;refine(Pv (r:=[r'.th L']) (m:=({x with P:=Q}:WS).ts) (R:=fun e m0=>∃(v:aL) (er:Int) (x':WS),e= .returned (.tuple #[v.ent,v.is,.int .i64 er])/\jN {x with P:=Q} a.a a.side a.b v er x'/\m0=x'.ts) fun T w hL=>?_).mono ?_
 .refine(Drop_w T w _ a.a a.side a.b hL hc.fair.good.sides hc.fair.good.q1).mono ?_
  rintro e w' ⟨v,er,x',rfl,hx,hL'⟩;exact⟨_,⟨v,er,x',rfl,hx,rfl⟩,hL'⟩
 .rintro e m2 ⟨m0,⟨v,er,x',rfl,hx,rfl⟩,rfl⟩
  obtain⟨⟨y,b,rfl,h1,h2,h3,h4⟩,h5⟩:=WG hb h.fair hQ (fun W hW=>(hon W hW).1) hp hx;have hs:=yK (a:=a) hc.fair hx;have hyn:y.v.nodes<=256:=by rw[cu h2];exact hzn
  exact⟨y,b,er,rfl,⟨2,x'.P,rfl,fun W hW=>⟨⟨(hon W (hs.knows W hW)).2,by omega⟩,h4 W hW,by omega⟩⟩,⟨h1,⟨hzn,hyn,h2.symm⟩,h3⟩,x',ms,r',L',P7 hQ hs,h5,(show x'.wb=({x with P:=Q}:WS).wb from MJ hx),rfl,Qy,rfl⟩
def VW(r:RW)(k s i:Int)(z:ME)(c:Bool)(err:Int):Prop:=(¬(s=1\/s=2)/\err=2/\z=ME.zero/\c=false)\/((s=1\/s=2)/\¬(0<=k/\k<(r.v.hn:Int))/\err=4/\z=ME.zero/\c=false)\/
 ∃(n:Nat) (hn:n<r.BI.length),k=(n:Int)/\err=0/\((s=1/\kF r.BI[n].es1 i z c)\/(s=2/\kF r.BI[n].es2 i z c))
theorem Ya{x:WS}{ms:List MS}{r:RW}{L:PL}(h:Both x ms r)(k s i:Int):Does 154 #[r.v.val,k,s,i] (x.ts++[r.th L]) (RI x L fun en r' Q=>∃z c err,en= .returned (.tuple #[z.val,.bool c,.int .i64 err])/\VW r k s i z c err/\z.v.nodes<=256/\(∀W,Q W->z.v.In W)/\r'=r/\Q=x.P):=by
 by_cases hs:s=1\/s=2
 .by_cases hk:0<=k/\k<(r.v.hn:Int)
  .obtain⟨n,rfl⟩:=Int.eq_ofNat_of_zero_le hk.1
   have hn:n<r.BI.length:=by have :=h.fits.h;omega
   have hin:=fun W (hW:x.P W)=>(h.on W hW).ch _ (List.getElem_mem hn);refine Qm fun T w hL=>?_;refine(WB T w r.v x.P n s i r.BI[n] hL (by omega) hs (h.XH n hn) (R:=fun z c=>(s=1/\kF r.BI[n].es1 i z c)\/(s=2/\kF r.BI[n].es2 i z c)) (fun W hW=>?_)).mono ?_
   .rcases hs with rfl|rfl
    .exact(UF W r.BI[n].cell r.BI[n].a1 r.BI[n].k1 r.BI[n].es1 r.BI[n].a2 r.BI[n].k2 r.BI[n].es2 i (hin W hW).1.2.1).mono fun e w' ⟨z,c,h1,h2,h3⟩=>⟨z,c,h1,.inl ⟨rfl,h2⟩,h3⟩
    .exact(Uy W r.BI[n].cell r.BI[n].a1 r.BI[n].k1 r.BI[n].es1 r.BI[n].a2 r.BI[n].k2 r.BI[n].es2 i (hin W hW).2.2.1).mono fun e w' ⟨z,c,h1,h2,h3⟩=>⟨z,c,h1,.inr ⟨rfl,h2⟩,h3⟩
   .rintro en w' ⟨z,c,rfl,hR,hL'⟩
    have hz:∀W,x.P W->z.v.In W/\z.v.nodes<=256:=fun W hW=>by
     rcases hR with ⟨_,h2⟩|⟨_,h2⟩
     .exact QV h2 (hin W hW).1.2.2
     .exact QV h2 (hin W hW).2.2.2
    exact⟨r,x.P,⟨⟨z,c,0,rfl,.inr (.inr ⟨n,hn,rfl,rfl,hR⟩),(hz w (hL.still 0 rfl)).2,fun W hW=>(hz W hW).1,rfl,rfl⟩,rfl,fun _ h=>h⟩,hL'⟩
  .exact Qa (fun w=>M0 r.v w k s i hs hk) ⟨ME.zero,false,4,rfl,.inr (.inl ⟨hs,hk,rfl,rfl,rfl⟩),Qx,fun W hW=>MT.dQ W,rfl,rfl⟩
 .exact Qa (fun w=>IC r.v w k s i hs) ⟨ME.zero,false,2,rfl,.inl ⟨hs,rfl,rfl,rfl⟩,Qx,fun W hW=>MT.dQ W,rfl,rfl⟩
theorem Us{es rs:List ME}{i:Int}{y z:ME}{b c:Bool}(hp:es.map ME.plain=rs.map ME.plain)(h1:AtR (es.map ME.plain) i y b)(h2:kF rs i z c):b=c/\y.plain=z.plain:=by
 rw[hp]at h1;rcases h1 with ⟨rfl,h0,h1⟩|⟨rfl,h0,rfl⟩
 .rcases h2 with ⟨rfl,_,h2⟩|⟨rfl,h3,rfl⟩
  .simp only[List.getElem?_map,h2,Option.map_some,Option.some.injEq]at h1
   exact⟨rfl,h1.symm⟩
  .have :=(List.getElem?_eq_some_iff.1 h1).1
   rw[List.length_map]at this;exact absurd ⟨h0,by omega⟩ h3
 .rw[List.length_map]at h0
  rcases h2 with ⟨rfl,h3,h2⟩|⟨rfl,_,rfl⟩
  .have :=(List.getElem?_eq_some_iff.1 h2).1
   exact absurd ⟨h3,by omega⟩ h0
  .exact⟨rfl,rfl⟩
theorem WL{x x':WS}{ms:List MS}{r:RW}{k s i er err:Int}{z:ME}{c:Bool}{v:aL}(h:Both x ms r)(hr:VW r k s i z c err)(hx:j4 x k s i v er x'):VN x' v z c er err/\Both x' ms r:=by
 have hl:=(PD h.rel.h).1;have hf:=h.fits.h;rcases hx with ⟨hs,rfl,rfl,rfl⟩|⟨hs,hk,rfl,rfl,rfl⟩|⟨n,hn,y,b,rfl,rfl,rfl,h2⟩
 .rcases hr with ⟨_,rfl,rfl,rfl⟩|⟨hs',_⟩|⟨_,_,_,_,hp⟩
  .exact⟨⟨ME.zero,false,rfl,rfl,rfl,rfl,fun W _=>MT.dQ W⟩,h⟩
  .exact absurd hs' hs
  .exact absurd (hp.imp And.left And.left) hs
 .rcases hr with ⟨hs',_⟩|⟨_,_,rfl,rfl,rfl⟩|⟨n,hn,rfl,_⟩
  .exact absurd hs hs'
  .exact⟨⟨ME.zero,false,rfl,rfl,rfl,rfl,fun W _=>MT.dQ W⟩,h⟩
  .exact absurd ⟨by omega,by omega⟩ hk
 .rcases hr with ⟨hs,_⟩|⟨_,hk,_⟩|⟨n',hn',hnn,rfl,hp⟩
  .exact absurd (h2.imp And.left And.left) hs
  .exact absurd ⟨by omega,by omega⟩ hk
  .obtain rfl:n=n':=by omega
   have hpl:=(PD h.rel.h).2 n hn hn';rcases h2 with ⟨rfl,h3,rfl⟩|⟨rfl,h3,rfl⟩
   .rcases hp with ⟨_,h4⟩|⟨h9,_⟩
    .obtain⟨h5,h6⟩:=Us (congrArg (fun z=>z.2.1) hpl) h3 h4
     exact⟨⟨y,b,rfl,h5,h6,rfl,fun W hW=>hW.2 y.v (by simp)⟩,PK h _ fun W hW=>hW.1⟩
    .omega
   .rcases hp with ⟨h9,_⟩|⟨_,h4⟩
    .omega
    .obtain⟨h5,h6⟩:=Us (congrArg (fun z=>z.2.2) hpl) h3 h4
     exact⟨⟨y,b,rfl,h5,h6,rfl,fun W hW=>hW.2 y.v (by simp)⟩,PK h _ fun W hW=>hW.1⟩
theorem b_peek(x:WS)(ms:List MS)(r:RW)(L:PL)(a:BO)(h:cZ x ms a)(hb:Both x ms r)(hw:a.what=6):Does 61 #[x.wb,r.v.val,a.vl] (x.ts++[r.th L]) (Ql a x ms L):=by
 refine(Lm x.wb r.v a _ (fun z c no y b er m2=>((b=c/\(z.v.nodes<=256/\y.v.nodes<=256/\z.plain=y.plain)/\er=no))/\Ri a x ms L r.v m2) hw ?_).mono (fun e m2 ⟨fine,he,_,_,_,_,_,_,hf,hR⟩=>⟨r.v,by rw[hf.2 hR.1]at he;exact he,hR.2⟩);refine(Ya hb a.a a.side a.b).mono ?_;rintro e m1 ⟨r',L',Q,Qy,⟨z,c,err,rfl,hp,hzn,hzi,rfl,rfl⟩,hQ,rfl⟩;refine⟨z,c,err,rfl,?_⟩;refine(Pv (r:=[r'.th L']) (m:=x.ts) (R:=fun e m0=>∃(v:aL) (er:Int) (x':WS),e= .returned (.tuple #[v.ent,v.is,.int .i64 er])/\j4 x a.a a.side a.b v er x'/\m0=x'.ts) fun T w hL=>?_).mono ?_
 .refine(KC T w _ a.a a.side a.b hL h.fair.good.sides h.fair.good.vals).mono ?_
  rintro e w' ⟨v,er,x',rfl,hx,hL'⟩;exact⟨_,⟨v,er,x',rfl,hx,rfl⟩,hL'⟩
 .rintro e m2 ⟨m0,⟨v,er,x',rfl,hx,rfl⟩,rfl⟩
  obtain⟨⟨y,b,rfl,h1,h2,h3,h4⟩,h5⟩:=WL hb hp hx;have hs:=qd (a:=a) h.fair hx;have hyn:y.v.nodes<=256:=by rw[cu h2];exact hzn
  exact⟨y,b,er,rfl,⟨2,x'.P,rfl,fun W hW=>⟨⟨hzi W (hs.knows W hW),by omega⟩,h4 W hW,by omega⟩⟩,⟨h1,⟨hzn,hyn,h2.symm⟩,h3⟩,x',ms,r',L',hs,h5,zl hx,rfl,Qy,rfl⟩
def RW.SI(r:RW)(n:Nat)(d:MS)(a:Option Addr)(m:Nat):RW:={r with v:={r.v with sa:=a,sc:=m},sys:=r.sys.set n d}
theorem RW.On.SI{r:RW}{W:World}(h:r.On W)(n:Nat){d:MS}{a:Option Addr}{m:Nat}(hd:d.In W)(hr:aG W a 11 r.v.sn ((r.sys.set n d).flatMap MS.cells)):(r.SI n d a m).On W:=
 ⟨h.h,h.o,hr,h.ch,h.co,fun u hu=>(List.mem_or_eq_of_mem_set hu).elim (h.sy u) (fun e=>e▸hd)⟩
theorem Xc(d:MS):∀u∈d.cells,u.oneCell'=true:=by simp[MS.cells,Value.oneCell']
theorem XU{r:RW}(hf:r.Fits)(hl:r.v.sn<=100000)(n:Nat)(hn:n<r.sys.length)(T:List Nat)(W:World)(Q:World->Prop)(d:MS)(hQ:∀W,Q W->r.On W)(h:BD T W W [aA Q]):
  Calls prog 249 #[r.v.val,(n:Int),.agg #[d.thread,.slice d.ba d.bases.length d.bc,.slice d.ca d.conds.length d.cc,d.flag,d.parked,d.done,d.branch,d.v.kind,d.v.num,.slice d.v.addr d.v.parts.length d.v.cap,d.partner]] W fun en w'=>∃Q' rest,(∃(a:Option Addr) (m:Nat),en= .returned ({r.v with sa:=a,sc:=m}:RV).val/\∀W,Q' W->Q W/\aG W a 11 r.v.sn ((r.sys.set n d).flatMap MS.cells))/\BD T W w' (aA Q'::rest):=by
 refine(Xr T W r.v Q (r.sys.flatMap MS.cells) n d.raw h (fun W hW=>(hQ W hW).n) hf.nc (Sj _ Xc _) hl (by rw[hf.n];exact hn)).mono ?_;rintro en w' ⟨a,m,rfl,hL⟩;exact⟨_,[],⟨a,m,rfl,fun W hW=>⟨hW.1,by rw[<-SF MS.cells 11 (by omega) Vv r.sys n hn d];exact hW.2⟩⟩,hL⟩
theorem TH{x:WS}{ms:List MS}{r:RW}(h:Both x ms r)(n:Nat)(hn:n<r.sys.length)(u d:MS)(a:Option Addr)(m:Nat)(hy:u.plain=d.plain)(hfl:d.flag=r.sys[n].flag)(P':World->Prop)(hon:∀W,P' W->(r.SI n d a m).On W):Both ({x with P:=P'}.eP n u.raw) (ms.set n u) (r.SI n d a m):=
 ⟨⟨h.rel.s,h.rel.h,h.rel.o,by show(ms.set n u).map MS.plain=(r.sys.set n d).map MS.plain;rw[List.map_set,List.map_set,h.rel.n,hy]⟩,⟨h.fits.m,h.fits.h,h.fits.o,by show r.v.sn=(r.sys.set n d).length;rw[List.length_set];exact h.fits.n⟩,hon,h.cc,h.small,fun k hk=>by
  have hk':k<r.sys.length:=by have h9:k<(r.sys.set n d).length:=hk;rwa[List.length_set]at h9
  by_cases e:n=k
  .subst e
   obtain⟨q,hq⟩:=h.fl n hn;have e9:(r.sys.set n d)[n]'(by rw[List.length_set];exact hn)=d:=List.getElem_set_self _;exact⟨q,hq.trans (hfl.symm.trans (congrArg MS.flag e9.symm))⟩
  .obtain⟨q,hq⟩:=h.fl k hk'
   have e9:(r.sys.set n d)[k]'(by rw[List.length_set];exact hk')=r.sys[k]:=List.getElem_set_ne e _;exact⟨q,hq.trans (congrArg MS.flag e9.symm)⟩⟩
def RWoke(r:RW)(k err:Int)(r':RW):Prop:=(¬(0<=k/\k<(r.v.sn:Int))/\err=4/\r'=r)\/∃(n:Nat) (hn:n<r.sys.length) (a:Option Addr) (m:Nat),k=(n:Int)/\err=0/\r'=r.SI n {r.sys[n]with parked:=false} a m
theorem Both.snl{x:WS}{ms:List MS}{r:RW}(h:Both x ms r)(hfa:x.Fair ms):r.v.sn<=100000:=by
 have h1:=(PD h.rel.n).1;have h2:=h.fits.n;have h3:=hfa.good.l3;rw[hfa.good.sys,List.length_map]at h3;omega
theorem Yo{x:WS}{ms:List MS}{r:RW}{L:PL}(h:Both x ms r)(hfa:x.Fair ms)(k:Int):Does 170 #[r.v.val,k] (x.ts++[r.th L]) (RI x L fun en r' Q=>∃err,en= .returned (.tuple #[r'.v.val,.int .i64 err])/\RWoke r k err r'/\∀W,Q W->r'.On W):=by
 rcases h.sy hfa.good.sys k with ⟨_,hk⟩|⟨n,hn,hx,hy,rfl,_,_,_⟩
 .exact Qa (fun w=>Ot r.v w k hk) ⟨4,rfl,.inl ⟨hk,rfl,rfl⟩,h.on⟩
 .refine Qm fun T w hL=>?_
  refine(WX T w r.v x.P n r.sys[n] hL (by rw[h.fits.n];exact hn) (h.SA n hn) (R2:=fun a m Q=>∀W,Q W->x.P W/\(r.SI n {r.sys[n]with parked:=false} a m).On W) (fun T W hL=>?_)).mono ?_
  .refine(XU h.fits (h.snl hfa) n hn T W x.P {r.sys[n]with parked:=false} h.on hL).mono ?_
   rintro en w' ⟨Q',rest,⟨a,m,rfl,h3⟩,hL'⟩;exact⟨Q',rest,⟨a,m,rfl,fun W hW=>⟨(h3 W hW).1,(h.on W (h3 W hW).1).SI n (by have hcc:=(h.on W (h3 W hW).1).sy _ (List.getElem_mem hn);exact hcc) (h3 W hW).2⟩⟩,hL'⟩
  .rintro en w' ⟨a,m,Q,rfl,h4,hL'⟩
   exact⟨r.SI n {r.sys[n]with parked:=false} a m,Q,⟨⟨0,rfl,.inr ⟨n,hn,a,m,rfl,rfl,rfl⟩,fun W hW=>(h4 W hW).2⟩,rfl,fun W hW=>(h4 W hW).1⟩,hL'⟩
theorem SV{u d:MS}(h:u.plain=d.plain)(b:Bool):({u with parked:=b}:MS).plain=({d with parked:=b}:MS).plain:=by
 simp only[MS.plain,Prod.mk.injEq]at h|-;exact⟨h.1,h.2.1,h.2.2.1,h.2.2.2.1,trivial,h.2.2.2.2.2⟩
theorem b_wake(x:WS)(ms:List MS)(r:RW)(L:PL)(a:BO)(h:cZ x ms a)(hb:Both x ms r)(hw:a.what=22):Does 63 #[x.wb,r.v.val,a.vl] (x.ts++[r.th L]) (Ql a x ms L):=by
 refine(J5 x.wb r.v a _ (fun o no er m2=>er=no/\Ri a x ms L o m2) hw ?_).mono (fun e m2 ⟨o,fine,he,_,_,hf,hR⟩=>⟨o,by rw[hf.2 hR.1]at he;exact he,hR.2⟩);refine(Yo hb h.fair a.a).mono ?_;rintro e m1 ⟨r',L',Q,Qy,⟨err,rfl,hp,hon⟩,hQ,rfl⟩;refine⟨r'.v,err,rfl,?_⟩;have hc:=Qn h Q hQ;refine(Pv (r:=[r'.th L']) (m:=({x with P:=Q}:WS).ts) (R:=fun e m0=>∃er x',e= .returned (.int .i64 er)/\wG {x with P:=Q} a.a er x'/\m0=x'.ts) fun T w hL=>?_).mono ?_
 .refine(Wake_w T w _ a.a hL (by have :=hc.fair.good.l3;omega)).mono ?_
  rintro e w' ⟨er,x',rfl,hx,hL'⟩;exact⟨_,⟨er,x',rfl,hx,rfl⟩,hL'⟩
 .rintro e m2 ⟨m0,⟨er,x',rfl,hx,rfl⟩,rfl⟩
  have hwb:x'.wb=x.wb:=(show x'.wb=({x with P:=Q}:WS).wb from Mf hx);rcases hx with ⟨hk,rfl,rfl⟩|⟨n,hn,hna,rfl,rfl⟩
  .rcases hp with ⟨_,rfl,rfl⟩|⟨n,hn,_,_,hna,_⟩
   .exact⟨_,rfl,rfl,_,ms,r',L',P7 hQ (bq.refl hc.fair),PK hb Q hQ,hwb,rfl,Qy,rfl⟩
   .have h1:=(PD hb.rel.n).1
    have h2:x.sys.length=ms.length:=by rw[h.fair.good.sys,List.length_map]
    exact absurd ⟨by omega,by show a.a<(x.sys.length:Int);omega⟩ hk
  .rcases hp with ⟨hk,_⟩|⟨n',hn',a',m,hna',rfl,rfl⟩
   .have h1:=(PD hb.rel.n).1
    have h2:x.sys.length=ms.length:=by rw[h.fair.good.sys,List.length_map]
    have h3:=hb.fits.n;have hn0:n<x.sys.length:=hn;exact absurd ⟨by omega,by omega⟩ hk
   .obtain rfl:n=n':=by omega
    obtain⟨hm,e1⟩:=yx hc.fair.good.sys n hn;have e2:({({x with P:=Q}:WS).sys[n]with parked:=false}:bL)=MS.raw {ms[n]with parked:=false}:=by rw[e1];rfl
    rw[e2];refine⟨_,rfl,rfl,_,ms.set n {ms[n]with parked:=false},_,L',P7 hQ (abw n hm {ms[n]with parked:=false} hc.fair hc.fair (bq.refl hc.fair) ⟨hna.symm,by omega,by omega⟩ (fun W hW=>by have hcc:=hc.fair.good.cont W hW _ (List.getElem_mem hm);exact hcc)),TH hb n hn' _ _ a' m (SV ((PD hb.rel.n).2 n hm hn') false) rfl Q hon,rfl,rfl,Qy,rfl⟩
def W9(r:RW)(k br:Int)(z:ME)(err:Int):Prop:=(¬(0<=k/\k<(r.v.sn:Int))/\err=4/\z=ME.zero)\/∃(n:Nat) (hn:n<r.sys.length),k=(n:Int)/\((¬(0<=br/\br<(r.sys[n].bases.length:Int))/\err=2/\z=ME.zero)\/∃(j:Nat) (hj:j<r.sys[n].bases.length),br=(j:Int)/\err=0/\z=⟨k,r.sys[n].thread,br,r.sys[n].flag,r.sys[n].bases[j].v⟩)
theorem Wv{x:WS}{ms:List MS}{r:RW}{L:PL}(h:Both x ms r)(hfa:x.Fair ms)(k br:Int):Does 171 #[r.v.val,k,br] (x.ts++[r.th L]) (RI x L fun en r' Q=>∃z err,en= .returned (.tuple #[z.val,.int .i64 err])/\W9 r k br z err/\z.v.nodes<=256/\(∀W,Q W->z.v.In W)/\r'=r/\Q=x.P):=by
 rcases h.sy hfa.good.sys k with ⟨_,hk⟩|⟨n,hn,hx,hy,rfl,_,_,_⟩
 .exact Qa (fun w=>JY r.v w k br hk) ⟨ME.zero,4,rfl,.inl ⟨hk,rfl,rfl⟩,Qx,fun W hW=>MT.dQ W,rfl,rfl⟩
 .have hk:n<r.v.sn:=by rw[h.fits.n];exact hn
  refine Qm fun T w hL=>?_;by_cases hbr:0<=br/\br<(r.sys[n].bases.length:Int)
  .obtain⟨j,rfl⟩:=Int.eq_ofNat_of_zero_le hbr.1
   have hj:j<r.sys[n].bases.length:=by omega
   have hin:=fun W (hW:x.P W)=>(h.on W hW).sy _ (List.getElem_mem hn);refine(VI T w r.v x.P n j r.sys[n] r.sys[n].bases[j] hL hk hj (h.SA n hn) (fun W hW=>Sy (f:=MB.cells) (fun _=>rfl) rfl (hin W hW).2.1.1 j hj)).mono ?_;rintro en w' ⟨rfl,hL'⟩;have hz:=fun W (hW:x.P W)=>((hin W hW).2.1.2 _ (List.getElem_mem hj)).1;exact⟨r,x.P,⟨⟨⟨n,r.sys[n].thread,j,r.sys[n].flag,r.sys[n].bases[j].v⟩,0,rfl,.inr ⟨n,hn,rfl,.inr ⟨j,hj,rfl,rfl,rfl⟩⟩,(hz w (hL.still 0 rfl)).2,fun W hW=>(hz W hW).1,rfl,rfl⟩,rfl,fun _ h=>h⟩,hL'⟩
  .have hC:Calls prog 171 #[r.v.val,(n:Int),br] w fun en w'=>en= .returned (.tuple #[ME.zero.val,(2:Int)])/\BD T w w' [aA x.P]:=by
    by_cases h0:br<0
    .exact XZ T w r.v x.P n br r.sys[n] hL hk h0 (h.SA n hn)
    .exact Xj T w r.v x.P n br r.sys[n] hL hk ⟨by omega,by omega⟩ (h.SA n hn)
   refine hC.mono ?_;rintro en w' ⟨rfl,hL'⟩;exact⟨r,x.P,⟨⟨ME.zero,2,rfl,.inr ⟨n,hn,rfl,.inl ⟨hbr,rfl,rfl⟩⟩,Qx,fun W hW=>MT.dQ W,rfl,rfl⟩,rfl,fun _ h=>h⟩,hL'⟩
end Go.Proofs.YtddnnapoaonmjaaGreatDoor
