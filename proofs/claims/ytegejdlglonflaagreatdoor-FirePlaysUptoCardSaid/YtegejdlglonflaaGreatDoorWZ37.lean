/-
  Texts of FirePlays, laid together by program.
-/
import Derived.Test.YtegejdlglonflaaGreatDoorWZ36
namespace Go.Proofs.YtegejdlglonflaaGreatDoor
open Go.RowKit Go.Shelf Go.Proofs.Tryz
set_option maxRecDepth 100000
set_option maxHeartbeats 8000000
set_option linter.unusedVariables false
set_option linter.unusedSimpArgs false
theorem Xm(T:List Nat)(w:World)(v:RV)(P:World->Prop)(k:Nat)(was no:Int)(hno:no≠0)(t0:ai)(h:BD T w w [t0,aA P]){R1:RV->ai->Prop}(hl:∀T W,BD T W W [t0,aA P]->Calls prog 49 #[v.val,(k:Int)] W fun en w'=>∃(x:RV) (t:ai),en= .returned (.tuple #[x.val,was,no])/\R1 x t/\BD T W w' [t,aA P]):
  Calls prog 58 #[v.val,(k:Int)] w fun en w'=>∃(x:RV) (t:ai),en= .returned (.tuple #[x.val,false,no])/\R1 x t/\BD T w w' [t,aA P]:=by
 have hc':aai prog 49 #[v.val,(k:Int)] [[t0],[aA P]] (xq (fun x:RV×ai=>R1 x.1 x.2) (fun x=> .tuple #[x.1.val,was,no]) fun x=>[[x.2],[aA P]]):=fun T w hL=>(hl T w hL).mono fun e w' ⟨x,t,he,hR,hL'⟩=>⟨[[t],[aA P]],rfl,⟨(x,t),hR,he,rfl⟩,hL'⟩;have hg:aai prog 58 #[v.val,(k:Int)] [[t0],[aA P]] (xq (fun x:RV×ai=>R1 x.1 x.2) (fun x=> .tuple #[x.1.val,false,no]) fun x=>[[x.2],[aA P]]):=by
  have hn1:(no != 0)=true:=by simpa using hno
  clear h hl hno;simp only[RV.val]at hc'|-;refine aai.go func58 ntmps58 ?_;refine go2 fun _ _=>?_;refine cr hc' fun⟨x,t⟩ hR=>?_;refine go1 fun _=>?_;refine W.abg ?_;exact⟨(x,t),hR,rfl,rfl⟩
 exact(hg T w h).mono fun e w' ⟨Y,_,⟨x,hx,he,hY⟩,hl⟩=>⟨_,_,he,hx,by rw[hY]at hl;exact hl⟩
def RW.SI(r:RW)(n:Nat)(d:MS)(a:Option Addr)(m:Nat):RW:={r with v:={r.v with sa:=a,sc:=m},sys:=r.sys.set n d}
theorem RW.On.SI{r:RW}{W:World}(h:r.On W)(n:Nat){d:MS}{a:Option Addr}{m:Nat}(hd:d.In W)(hr:aG W a 11 r.v.sn ((r.sys.set n d).flatMap MS.cells)):(r.SI n d a m).On W:=
 ⟨h.h,h.o,hr,h.ch,h.co,fun u hu=>(List.mem_or_eq_of_mem_set hu).elim (h.sy u) (fun e=>e▸hd)⟩
theorem Xc(d:MS):∀u∈d.cells,u.oneCell'=true:=by simp[MS.cells,Value.oneCell']
theorem XU{r:RW}(hf:r.Fits)(hl:r.v.sn<=100000)(n:Nat)(hn:n<r.sys.length)(T:List Nat)(W:World)(Q:World->Prop)(d:MS)(hQ:∀W,Q W->r.On W)(h:BD T W W [aA Q]):
  Calls prog 155 #[r.v.val,(n:Int),.agg #[d.thread,.slice d.ba d.bases.length d.bc,.slice d.ca d.conds.length d.cc,d.flag,d.parked,d.done,d.branch,d.v.kind,d.v.num,.slice d.v.addr d.v.parts.length d.v.cap,d.partner]] W fun en w'=>∃Q' rest,(∃(a:Option Addr) (m:Nat),en= .returned ({r.v with sa:=a,sc:=m}:RV).val/\∀W,Q' W->Q W/\aG W a 11 r.v.sn ((r.sys.set n d).flatMap MS.cells))/\BD T W w' (aA Q'::rest):=by
 refine(Xr T W r.v Q (r.sys.flatMap MS.cells) n d.raw h (fun W hW=>(hQ W hW).n) hf.nc (Sj _ Xc _) hl (by rw[hf.n];exact hn)).mono ?_;rintro en w' ⟨a,m,rfl,hL⟩;exact⟨_,[],⟨a,m,rfl,fun W hW=>⟨hW.1,by rw[<-SF MS.cells 11 (by omega) Vv r.sys n hn d];exact hW.2⟩⟩,hL⟩
theorem TH{x:WS}{ms:List MS}{r:RW}(h:Both x ms r)(n:Nat)(hn:n<r.sys.length)(u d:MS)(a:Option Addr)(m:Nat)(hy:u.plain=d.plain)(hfl:d.flag=r.sys[n].flag)(P':World->Prop)(hon:∀W,P' W->(r.SI n d a m).On W):Both ({x with P:=P'}.eP n u.raw) (ms.set n u) (r.SI n d a m):=
 ⟨⟨h.rel.s,h.rel.h,h.rel.o,by show(ms.set n u).map MS.plain=(r.sys.set n d).map MS.plain;rw[List.map_set,List.map_set,h.rel.n,hy]⟩,⟨h.fits.m,h.fits.h,h.fits.o,by show r.v.sn=(r.sys.set n d).length;rw[List.length_set];exact h.fits.n⟩,hon,h.cc,h.small,fun k hk=>by
  have hk':k<r.sys.length:=by have h9:k<(r.sys.set n d).length:=hk;rwa[List.length_set]at h9
  by_cases e:n=k
  .subst e
   obtain⟨q,hq⟩:=h.fl n hn;have e9:(r.sys.set n d)[n]'(by rw[List.length_set];exact hn)=d:=List.getElem_set_self _;exact⟨q,hq.trans (hfl.symm.trans (congrArg MS.flag e9.symm))⟩
  .obtain⟨q,hq⟩:=h.fl k hk'
   have e9:(r.sys.set n d)[k]'(by rw[List.length_set];exact hk')=r.sys[k]:=List.getElem_set_ne e _;exact⟨q,hq.trans (congrArg MS.flag e9.symm)⟩⟩
def aiE(r:RW)(k err:Int)(r':RW):Prop:=(¬(0<=k/\k<(r.v.sn:Int))/\err=4/\r'=r)\/∃(n:Nat) (hn:n<r.sys.length) (a:Option Addr) (m:Nat),k=(n:Int)/\err=0/\r'=r.SI n {r.sys[n]with parked:=false} a m
theorem Both.snl{x:WS}{ms:List MS}{r:RW}(h:Both x ms r)(hfa:x.Fair ms):r.v.sn<=100000:=by
 have h1:=(PD h.rel.n).1;have h2:=h.fits.n;have h3:=hfa.good.l3;rw[hfa.good.sys,List.length_map]at h3;omega
theorem Yo{x:WS}{ms:List MS}{r:RW}{L:PL}(h:Both x ms r)(hfa:x.Fair ms)(k:Int):Does 87 #[r.v.val,k] (x.ts++[r.th L]) (RI x L fun en r' Q=>∃err,en= .returned (.tuple #[r'.v.val,.int .i64 err])/\aiE r k err r'/\∀W,Q W->r'.On W):=by
 rcases h.sy hfa.good.sys k with ⟨_,hk⟩|⟨n,hn,hx,hy,rfl,_,_,_⟩
 .exact Qa (fun w=>Ot r.v w k hk) ⟨4,rfl,.inl ⟨hk,rfl,rfl⟩,h.on⟩
 .refine Qm fun T w hL=>?_
  refine(WX T w r.v x.P n r.sys[n] hL (by rw[h.fits.n];exact hn) (h.SA n hn) (R2:=fun a m Q=>∀W,Q W->x.P W/\(r.SI n {r.sys[n]with parked:=false} a m).On W) (fun T W hL=>?_)).mono ?_
  .refine(XU h.fits (h.snl hfa) n hn T W x.P {r.sys[n]with parked:=false} h.on hL).mono ?_
   rintro en w' ⟨Q',rest,⟨a,m,rfl,h3⟩,hL'⟩;exact⟨Q',rest,⟨a,m,rfl,fun W hW=>⟨(h3 W hW).1,(h.on W (h3 W hW).1).SI n (by have hcc:=(h.on W (h3 W hW).1).sy _ (List.getElem_mem hn);exact hcc) (h3 W hW).2⟩⟩,hL'⟩
  .rintro en w' ⟨a,m,Q,rfl,h4,hL'⟩
   exact⟨r.SI n {r.sys[n]with parked:=false} a m,Q,⟨⟨0,rfl,.inr ⟨n,hn,a,m,rfl,rfl,rfl⟩,fun W hW=>(h4 W hW).2⟩,rfl,fun W hW=>(h4 W hW).1⟩,hL'⟩
theorem SV{u d:MS}(h:u.plain=d.plain)(b:Bool):({u with parked:=b}:MS).plain=({d with parked:=b}:MS).plain:=by
 simp only[MS.plain,Prod.mk.injEq]at h|-;exact⟨h.1,h.2.1,h.2.2.1,h.2.2.2.1,trivial,h.2.2.2.2.2⟩
def W9(r:RW)(k br:Int)(z:ME)(err:Int):Prop:=(¬(0<=k/\k<(r.v.sn:Int))/\err=4/\z=ME.zero)\/∃(n:Nat) (hn:n<r.sys.length),k=(n:Int)/\((¬(0<=br/\br<(r.sys[n].bases.length:Int))/\err=2/\z=ME.zero)\/∃(j:Nat) (hj:j<r.sys[n].bases.length),br=(j:Int)/\err=0/\z=⟨k,r.sys[n].thread,br,r.sys[n].flag,r.sys[n].bases[j].v⟩)
theorem Wv{x:WS}{ms:List MS}{r:RW}{L:PL}(h:Both x ms r)(hfa:x.Fair ms)(k br:Int):Does 130 #[r.v.val,k,br] (x.ts++[r.th L]) (RI x L fun en r' Q=>∃z err,en= .returned (.tuple #[z.val,.int .i64 err])/\W9 r k br z err/\z.v.nodes<=256/\(∀W,Q W->z.v.In W)/\r'=r/\Q=x.P):=by
 rcases h.sy hfa.good.sys k with ⟨_,hk⟩|⟨n,hn,hx,hy,rfl,_,_,_⟩
 .exact Qa (fun w=>JY r.v w k br hk) ⟨ME.zero,4,rfl,.inl ⟨hk,rfl,rfl⟩,Qx,fun W hW=>MT.dQ W,rfl,rfl⟩
 .have hk:n<r.v.sn:=by rw[h.fits.n];exact hn
  refine Qm fun T w hL=>?_;by_cases hbr:0<=br/\br<(r.sys[n].bases.length:Int)
  .obtain⟨j,rfl⟩:=Int.eq_ofNat_of_zero_le hbr.1
   have hj:j<r.sys[n].bases.length:=by omega
   have hin:=fun W (hW:x.P W)=>(h.on W hW).sy _ (List.getElem_mem hn);refine(VI T w r.v x.P n j r.sys[n] r.sys[n].bases[j] hL hk hj (h.SA n hn) (fun W hW=>Sy (f:=MB.cells) (fun _=>rfl) rfl (hin W hW).2.1.1 j hj)).mono ?_;rintro en w' ⟨rfl,hL'⟩;have hz:=fun W (hW:x.P W)=>((hin W hW).2.1.2 _ (List.getElem_mem hj)).1;exact⟨r,x.P,⟨⟨⟨n,r.sys[n].thread,j,r.sys[n].flag,r.sys[n].bases[j].v⟩,0,rfl,.inr ⟨n,hn,rfl,.inr ⟨j,hj,rfl,rfl,rfl⟩⟩,(hz w (hL.still 0 rfl)).2,fun W hW=>(hz W hW).1,rfl,rfl⟩,rfl,fun _ h=>h⟩,hL'⟩
  .have hC:Calls prog 130 #[r.v.val,(n:Int),br] w fun en w'=>en= .returned (.tuple #[ME.zero.val,(2:Int)])/\BD T w w' [aA x.P]:=by
    by_cases h0:br<0
    .exact XZ T w r.v x.P n br r.sys[n] hL hk h0 (h.SA n hn)
    .exact Xj T w r.v x.P n br r.sys[n] hL hk ⟨by omega,by omega⟩ (h.SA n hn)
   refine hC.mono ?_;rintro en w' ⟨rfl,hL'⟩;exact⟨r,x.P,⟨⟨ME.zero,2,rfl,.inr ⟨n,hn,rfl,.inl ⟨hbr,rfl,rfl⟩⟩,Qx,fun W hW=>MT.dQ W,rfl,rfl⟩,rfl,fun _ h=>h⟩,hL'⟩
theorem Uf{u d:MS}(h:u.plain=d.plain):u.thread=d.thread/\u.bases.map MB.plain=d.bases.map MB.plain/\u.conds=d.conds/\u.flag=d.flag/\u.parked=d.parked/\u.done=d.done/\u.branch=d.branch/\u.v.plain=d.v.plain/\u.partner=d.partner:=by
 simp only[MS.plain,Prod.mk.injEq]at h;exact h
def Tv(r:RW)(k br:Int)(u:MT)(pt err:Int)(r':RW):Prop:=(¬(0<=k/\k<(r.v.sn:Int))/\err=4/\r'=r)\/∃(n:Nat) (hn:n<r.sys.length),k=(n:Int)/\
 ((¬((0<=br/\br<(r.sys[n].bases.length:Int))/\u.plain.Ok/\(-1<=pt/\pt<(r.sys.length:Int)))/\err=2/\r'=r)\/
 (((0<=br/\br<(r.sys[n].bases.length:Int))/\u.plain.Ok/\(-1<=pt/\pt<(r.sys.length:Int)))/\((r.sys[n].done=true/\err=160/\r'=r)\/
  (r.sys[n].done=false/\err=0/\∃(a:Option Addr) (m:Nat),r'=r.SI n {r.sys[n]with done:=true,branch:=br,v:=u,partner:=pt} a m))))
theorem SB{u:MT}{w:World}{b:Bool}(hu:u.In w)(hn:u.nodes<=1048576)(hb:b=true↔u.plain.Ok):Calls prog 188 #[u.val] w fun en w'=>en= .returned (.bool b)/\Touch [] w w':=
 (sN u w hu hn).mono fun e w' ⟨c,h1,h2,h3⟩=>⟨by rw[h1];congr 2;cases b<;>cases c<;>simp_all,h3⟩
theorem VO{x:WS}{ms:List MS}{r:RW}{L:PL}(h:Both x ms r)(hfa:x.Fair ms)(k br:Int)(u:MT)(pt:Int)(hu:∀W,x.P W->u.In W)(hne:u.nodes<=1048576):Does 86 #[r.v.val,k,br,u.val,pt] (x.ts++[r.th L]) (RI x L fun en r' Q=>∃err,en= .returned (.tuple #[r'.v.val,.int .i64 err])/\Tv r k br u pt err r'/\∀W,Q W->r'.On W):=by
 rcases h.sy hfa.good.sys k with ⟨_,hk⟩|⟨n,hn,hx,hy,rfl,_,_,_⟩
 .exact Qa (fun w=>Ap r.v w k br u pt hk) ⟨4,rfl,.inl ⟨hk,rfl,rfl⟩,h.on⟩
 .have hk:n<r.v.sn:=by rw[h.fits.n];exact hn
  have hsl:=h.fits.n;refine Qm fun T w hL=>?_;have bad:∀{E:Int} {C:Prop},(Calls prog 86 #[r.v.val,(n:Int),br,u.val,pt] w fun en w'=>en= .returned (.tuple #[r.v.val,E])/\BD T w w' [aA x.P])->Tv r n br u pt E r->Calls prog 86 #[r.v.val,(n:Int),br,u.val,pt] w fun e w'=>∃(r':RW) (Q:World->Prop),((∃err,e= .returned (.tuple #[r'.v.val,.int .i64 err])/\Tv r n br u pt err r'/\∀W,Q W->r'.On W)/\r'.th L=r.th L/\∀W,Q W->x.P W)/\BD T w w' [aA Q]:=fun hc hR=>hc.mono fun e w' ⟨h1,h2⟩=>⟨r,x.P,⟨⟨_,h1,hR,h.on⟩,rfl,fun _ h=>h⟩,h2⟩;by_cases hbr:0<=br/\br<(r.sys[n].bases.length:Int)
  .by_cases hok:u.plain.Ok
   .by_cases hpt: -1<=pt/\pt<(r.sys.length:Int)
    .cases hd:r.sys[n].done
     .refine(UQ T w r.v x.P n r.sys[n] br pt u hL hk hbr ⟨hpt.1,by omega⟩ hd (h.SA n hn) (fun W hW=>SB (hu W hW) hne (by simp[hok])) (R2:=fun a m Q=>∀W,Q W->x.P W/\(r.SI n {r.sys[n]with done:=true,branch:=br,v:=u,partner:=pt} a m).On W) (fun T W hL=>?_)).mono ?_
      .refine(XU h.fits (h.snl hfa) n hn T W x.P {r.sys[n]with done:=true,branch:=br,v:=u,partner:=pt} h.on hL).mono ?_
       rintro en w' ⟨Q',rest,⟨a,m,rfl,h3⟩,hL'⟩;exact⟨Q',rest,⟨a,m,rfl,fun W hW=>⟨(h3 W hW).1,(h.on W (h3 W hW).1).SI n (by have hcc:=(h.on W (h3 W hW).1).sy _ (List.getElem_mem hn);exact⟨⟨hu W (h3 W hW).1,lJ hok⟩,hcc.2⟩) (h3 W hW).2⟩⟩,hL'⟩
      .rintro en w' ⟨a,m,Q,rfl,h4,hL'⟩
       exact⟨r.SI n _ a m,Q,⟨⟨0,rfl,.inr ⟨n,hn,rfl,.inr ⟨⟨hbr,hok,hpt⟩,.inr ⟨hd,rfl,a,m,rfl⟩⟩⟩,fun W hW=>(h4 W hW).2⟩,rfl,fun W hW=>(h4 W hW).1⟩,hL'⟩
     .exact bad (C:=True) (UM T w r.v x.P n r.sys[n] br pt u hL hk hbr ⟨hpt.1,by omega⟩ hd (h.SA n hn) (fun W hW=>SB (hu W hW) hne (by simp[hok]))) (.inr ⟨n,hn,rfl,.inr ⟨⟨hbr,hok,hpt⟩,.inl ⟨hd,rfl,rfl⟩⟩⟩)
    .have hR:Tv r n br u pt 2 r:= .inr ⟨n,hn,rfl,.inl ⟨fun h=>hpt h.2.2,rfl,rfl⟩⟩
     by_cases h1:pt< -1
     .exact bad (C:=True) (WE T w r.v x.P n r.sys[n] br pt u hL hk ⟨hbr,h1⟩ (h.SA n hn) (fun W hW=>SB (hu W hW) hne (by simp[hok]))) hR
     .exact bad (C:=True) (WM T w r.v x.P n r.sys[n] br pt u hL hk ⟨hbr,by omega,by omega⟩ (h.SA n hn) (fun W hW=>SB (hu W hW) hne (by simp[hok]))) hR
   .exact bad (C:=True) (Wp T w r.v x.P n r.sys[n] br pt u hL hk hbr (h.SA n hn) (fun W hW=>SB (hu W hW) hne (by simp[hok]))) (.inr ⟨n,hn,rfl,.inl ⟨fun h=>hok h.2.1,rfl,rfl⟩⟩)
  .have hR:Tv r n br u pt 2 r:= .inr ⟨n,hn,rfl,.inl ⟨fun h=>hbr h.1,rfl,rfl⟩⟩
   by_cases h0:br<0
   .exact bad (C:=True) (Wm T w r.v x.P n r.sys[n] br pt u hL hk h0 (h.SA n hn)) hR
   .exact bad (C:=True) (WJ T w r.v x.P n r.sys[n] br pt u hL hk ⟨by omega,by omega⟩ (h.SA n hn)) hR
theorem TV{f:FuncId}{args:Array Value}{x:WS}{l:List ai}{R:Ending->List ai->Prop}(h:(∀n∈x.s.C,Wd n)->Does f args (x.ts++l) R):Does f args (x.ts++l) R:=fun T w hL=>h (hL.nP 1 rfl).1 T w hL
def YJ(r:RW)(k:Int)(d:Bool)(err:Int)(r':RW):Prop:=(¬(0<=k/\k<(r.v.sn:Int))/\d=false/\err=4/\r'=r)\/∃(n:Nat) (hn:n<r.sys.length) (q:Nat) (v':RV),k=(n:Int)/\(q:Int)=r.sys[n].flag/\PG r.v v'/\
 (((fT r.s q).2.1≠0/\d=false/\err=((fT r.s q).2.1:Int)/\r'={r with v:=v',s:=(fT r.s q).2.2})\/
 ((fT r.s q).2.1=0/\d=(((fT r.s q).1:Int) != 2)/\err=0/\∃(a:Option Addr) (m:Nat),r'=({r with v:=v',s:=(fT r.s q).2.2}:RW).SI n {r.sys[n]with parked:=(((fT r.s q).1:Int) != 2)} a m))
theorem Yb{x:WS}{ms:List MS}{r:RW}{L:PL}(h:Both x ms r)(hfa:x.Fair ms)(hL0:x.s.L.length<1000000)(k:Int):Does 58 #[r.v.val,k] (x.ts++[r.th L]) (RI x L fun en r' Q=>∃d err,en= .returned (.tuple #[r'.v.val,.bool d,.int .i64 err])/\YJ r k d err r'/\∀W,Q W->r'.On W):=by
 rcases h.sy hfa.good.sys k with ⟨_,hk⟩|⟨n,hn,hx,hy,rfl,_,_,_⟩
 .exact Qa (fun w=>Nt r.v w k hk) ⟨false,4,rfl,.inl ⟨hk,rfl,rfl,rfl⟩,h.on⟩
 .have hk:n<r.v.sn:=by rw[h.fits.n];exact hn
  obtain⟨q,hq⟩:=h.fl n hn;refine TV fun hwd=>RS _ fun T w hL=>?_;have ho:One x.s (fT x.s q).2.2:=eO _ _ _ _;have hS:∀v',PG r.v v'->Both (x.ar (fT x.s q).2.2) ms {r with v:=v',s:=(fT x.s q).2.2}:=fun v' hv=>QC h hv ho;rw[h.rel.s]at hS hwd hL0;have look:∀T W,BD T W W [r.th L,aA x.P]->Calls prog 49 #[r.v.val,(n:Int)] W fun en w'=>∃(v':RV) (t:ai),en= .returned (.tuple #[v'.val,.int .i64 ((fT r.s q).1:Int),.int .i64 ((fT r.s q).2.1:Int)])/\(PG r.v v'/\∃L',(∀y∈L,y∈L')/\t=RW.th {r with v:=v',s:=(fT r.s q).2.2} L')/\BD T W w' [t,aA x.P]:=fun T W hL=>by
   refine(V8 T W r.v r.s x.P n q hL h.fits.m hk (fun W hW=>(h.SA n hn W hW).cell 3 (by rw[hq];rfl)) (by omega) hwd).mono ?_;rintro en w' ⟨v',L',Qy,rfl,hv,hL'⟩;exact⟨v',_,rfl,⟨hv,L',Qy,rfl⟩,hL'⟩
  by_cases hno:(fT r.s q).2.1=0
  .refine(WN T w r.v x.P n r.sys[n] ((fT r.s q).1:Int) (r.th L) hL hk (h.SA n hn) (R1:=fun v' t=>PG r.v v'/\∃L',(∀y∈L,y∈L')/\t=RW.th {r with v:=v',s:=(fT r.s q).2.2} L') (fun v' t h1=>h1.1) (fun T W hL=>(look T W hL).mono fun en w' ⟨v',t,h1,h2,h3⟩=>⟨v',t,by rw[h1,hno];rfl,h2,h3⟩) (R2:=fun v' t a m Q=>(PG r.v v'/\∃L',(∀y∈L,y∈L')/\t=RW.th {r with v:=v',s:=(fT r.s q).2.2} L')/\∀W,Q W->x.P W/\(({r with v:=v',s:=(fT r.s q).2.2}:RW).SI n {r.sys[n]with parked:=(((fT r.s q).1:Int) != 2)} a m).On W) (fun v' t T W h1 hL=>?_)).mono ?_
   .have hb:=hS v' h1.1
    refine(XU hb.fits (by have :=h.snl hfa;have h9:=h1.1.2.2.2.2.2.2.2.2.1;show v'.sn<=_;omega) n hn T W x.P {r.sys[n]with parked:=(((fT r.s q).1:Int) != 2)} hb.on hL).mono ?_;rintro en w' ⟨Q',rest,⟨a,m,rfl,h3⟩,hL'⟩;exact⟨Q',rest,⟨a,m,rfl,h1,fun W hW=>⟨(h3 W hW).1,(hb.on W (h3 W hW).1).SI n (by have hcc:=(h.on W (h3 W hW).1).sy _ (List.getElem_mem hn);exact hcc) (h3 W hW).2⟩⟩,hL'⟩
   .rintro en w' ⟨v',t,a,m,Q,rfl,⟨⟨hv,L',Qy,rfl⟩,h4⟩,hL'⟩
    exact⟨({r with v:=v',s:=(fT r.s q).2.2}:RW).SI n {r.sys[n]with parked:=(((fT r.s q).1:Int) != 2)} a m,L',Q,Qy,⟨_,0,rfl,.inr ⟨n,hn,q,v',rfl,hq,hv,.inr ⟨hno,rfl,rfl,a,m,rfl⟩⟩,fun W hW=>(h4 W hW).2⟩,fun W hW=>(h4 W hW).1,hL'⟩
  .refine(Xm T w r.v x.P n ((fT r.s q).1:Int) ((fT r.s q).2.1:Int) (by omega) (r.th L) hL look).mono ?_
   rintro en w' ⟨v',t,rfl,⟨hv,L',Qy,rfl⟩,hL'⟩;exact⟨{r with v:=v',s:=(fT r.s q).2.2},L',x.P,Qy,⟨false,_,rfl,.inr ⟨n,hn,q,v',rfl,hq,hv,.inl ⟨hno,rfl,rfl,rfl⟩⟩,(hS v' hv).on⟩,fun _ h=>h,hL'⟩
theorem UW{a:BO}{x:WS}{ms:List MS}(h:x.Fair ms)(s':MS)(aa:Option Addr)(c:Nat)(h1:x.s.C.length+1<=x.s.most):bq a x ms ((WS.knows {x with s:=(x.s.au 1).1} (fun W=>s'.In W)).uY s'.raw aa c) (ms++[s']):=by
 have hA:=jO x.s 1 h1;have YM:=h.Hr;have Fj:=h.most;have hsl:x.sys.length=ms.length:=by rw[h.good.sys];simp
 refine⟨⟨⟨fun W hW=>h.good.sides W hW.1,fun W hW=>h.good.vals W hW.1,?_,fun W hW m hm=>?_,h.good.q1,h.good.q2,h.good.l1,h.good.l2,?_⟩,?_,?_,?_⟩,?_,.inl ?_,fun k hk=>⟨by simp;omega,.inl ?_⟩,fun _ h=>h.1⟩
 .show x.sys++[s'.raw]=(ms++[s']).map MS.raw
  rw[List.map_append,h.good.sys];rfl
 .rcases List.mem_append.1 hm with hm|hm
  .exact h.good.cont W hW.1 m hm
  .obtain rfl:=List.mem_singleton.1 hm
   exact hW.2
 .show(x.sys++[s'.raw]).length<=_
  simp only[List.length_append,List.length_singleton];omega
 .show(x.s.au ((1:Nat):Int)).1.C.length=x.BI.length+2*x.cos.length+(x.sys++[s'.raw]).length
  rw[hA];simp;omega
 .show(x.s.au ((1:Nat):Int)).1.C.length<=(x.s.au ((1:Nat):Int)).1.most
  rw[hA];simpa using h1
 .show(x.s.au ((1:Nat):Int)).1.most<=_
  rw[hA];exact Fj
 .show(x.s.au ((1:Nat):Int)).1.most=_
  rw[hA]
 .show(x.s.au ((1:Nat):Int)).1.L.length=_
  rw[hA]
 .rw[List.getElem_append_left hk]
theorem made0{v v':RV}(h:gJ 0 v v'):v'.most=v.most/\v'.hn=v.hn+1/\v'.oa=v.oa/\v'.on=v.on/\v'.sa=v.sa/\v'.sn=v.sn:=by
 simp[gJ]at h
 exact⟨h.1,h.2.1,h.2.2.1.1,h.2.2.1.2.1,h.2.2.2.1,h.2.2.2.2.1⟩
theorem made1{v v':RV}(h:gJ 1 v v'):v'.most=v.most/\v'.on=v.on+1/\v'.ha=v.ha/\v'.hn=v.hn/\v'.sa=v.sa/\v'.sn=v.sn:=by
 simp[gJ]at h
 exact⟨h.1,h.2.2.1,h.2.1.1,h.2.1.2.1,h.2.2.2.1,h.2.2.2.2.1⟩
theorem made2{v v':RV}(h:gJ 2 v v'):v'.most=v.most/\v'.sn=v.sn+1/\v'.ha=v.ha/\v'.hn=v.hn/\v'.oa=v.oa/\v'.on=v.on:=by
 simp[gJ]at h
 exact⟨h.1,h.2.2.2,h.2.1.1,h.2.1.2.1,h.2.2.1.1,h.2.2.1.2.1⟩
def Rb.new(c:Nat):Rb:=⟨c,none,0,[],none,0,[]⟩
def RH.new(c:Nat):RH:=⟨c,none,0,[]⟩
def Ym(r:RW)(v err:Int)(r':RW)(P Q:World->Prop):Prop:=(r.s.C.length+1<=r.s.most/\v=(r.BI.length:Int)/\err=0/\∃v':RV,gJ 0 r.v v'/\r'={r with v:=v',s:=(r.s.au 1).1,BI:=r.BI++[Rb.new r.s.C.length]}/\∀W,Q W->P W/\aG W v'.ha 3 (r.v.hn+1) ((r.BI++[Rb.new r.s.C.length]).flatMap Rb.cells))\/(¬r.s.C.length+1<=r.s.most/\v=0/\err=6/\r'=r/\Q=P)
theorem TU{α:Type}{l:List α}{x:α}{P:α->Prop}(h1:∀y∈l,P y)(h2:P x):∀y∈l++[x],P y:=fun y hy=>(List.mem_append.1 hy).elim (h1 y) (fun h=>List.mem_singleton.1 h▸h2)
theorem TG(W:World):T9 W none 0 []:=⟨by simp,fun i hi=>absurd hi (by simp),fun e he=>absurd he (by simp)⟩
theorem Wu{x x':WS}{ms:List MS}{r r':RW}{Q:World->Prop}{v er v2 err:Int}(h:Both x ms r)(hfa:x.Fair ms)(hQ:∀W,Q W->x.P W)(hr:Ym r v2 err r' x.P Q)(hx:jG {x with P:=Q} v er x'):v=v2/\er=err/\Both x' ms r':=by
 have hl:=(PD h.rel.h).1;have hs:({x with P:=Q}:WS).s=r.s:=h.rel.s;have Fj:=hfa.most;rw[h.rel.s]at Fj;rcases hx with ⟨h1,rfl,rfl,c,M,q1,q2,a,cap,rfl⟩|⟨h1,rfl,rfl,rfl⟩<;>rw[hs]at h1
 .rcases hr with ⟨_,rfl,rfl,v',hm,rfl,hon⟩|⟨h9,_⟩
  .have hA:=jO r.s 1 h1
   have hA1:(r.s.au 1).1={r.s with C:=r.s.C++List.replicate 1 0}:=hA;obtain⟨m1,m2,m3,m4,m5,m6⟩:=made0 hm;refine⟨by show(x.BI.length:Int)=_;omega,rfl,⟨by show(x.s.au 1).1=(r.s.au 1).1;rw[h.rel.s],?_,h.rel.o,h.rel.n⟩,⟨?_,?_,?_,?_⟩,fun W hW=>?_,fun d hd=>?_,?_,h.fl⟩
   .show(x.BI++[_]).map Ce.pl=(r.BI++[_]).map Rb.pl
    rw[List.map_append,List.map_append,h.rel.h];rw[h.rel.s];rfl
   .show v'.most=((r.s.au 1).1.most:Int)
    rw[m1,hA1];exact h.fits.m
   .show v'.hn=(r.BI++[_]).length
    rw[List.length_append,List.length_singleton,m2,h.fits.h]
   .show v'.on=_
    rw[m4];exact h.fits.o
   .show v'.sn=_
    rw[m6];exact h.fits.n
   .have hO:=h.on W (hon W hW).1
    exact⟨by show aG W v'.ha 3 v'.hn _;rw[m2];exact(hon W hW).2,by show aG W v'.oa 2 v'.on _;rw[m3,m4];exact hO.o,by show aG W v'.sa 11 v'.sn _;rw[m5,m6];exact hO.n,TU hO.ch ⟨TG W,TG W⟩,hO.co,hO.sy⟩
   .show d.cell+1<(r.s.au 1).1.C.length
    rw[hA1];have :=h.cc d hd;simp only[List.length_append,List.length_replicate];omega
   .show(r.s.au 1).1.C.length<=_
    rw[hA1];simp only[List.length_append,List.length_replicate];omega
  .exact absurd h1 h9
 .rcases hr with ⟨h9,_⟩|⟨_,rfl,rfl,rfl,rfl⟩
  .exact absurd h9 h1
  .exact⟨rfl,rfl,PK h _ hQ⟩
def X7(r:RW)(v err:Int)(r':RW)(P Q:World->Prop):Prop:=(r.s.C.length+2<=r.s.most/\v=(r.cos.length:Int)/\err=0/\∃v':RV,gJ 1 r.v v'/\r'={r with v:=v',s:=(r.s.au 2).1,cos:=r.cos++[RH.new r.s.C.length]}/\∀W,Q W->P W/\aG W v'.oa 2 (r.v.on+1) ((r.cos++[RH.new r.s.C.length]).flatMap RH.cells))\/(¬r.s.C.length+2<=r.s.most/\v=0/\err=6/\r'=r/\Q=P)
theorem WO{x x':WS}{ms:List MS}{r r':RW}{Q:World->Prop}{v er v2 err:Int}(h:Both x ms r)(hfa:x.Fair ms)(hQ:∀W,Q W->x.P W)(hr:X7 r v2 err r' x.P Q)(hx:jE {x with P:=Q} v er x'):v=v2/\er=err/\Both x' ms r':=by
 have hl:=(PD h.rel.o).1;have hs:({x with P:=Q}:WS).s=r.s:=h.rel.s;have Fj:=hfa.most;rw[h.rel.s]at Fj;rcases hx with ⟨h1,rfl,rfl,c,q,a,cap,rfl⟩|⟨h1,rfl,rfl,rfl⟩<;>rw[hs]at h1
 .rcases hr with ⟨_,rfl,rfl,v',hm,rfl,hon⟩|⟨h9,_⟩
  .have hA:=jO r.s 2 h1
   have hA1:(r.s.au 2).1={r.s with C:=r.s.C++List.replicate 2 0}:=hA;obtain⟨m1,m2,m3,m4,m5,m6⟩:=made1 hm;refine⟨by show(x.cos.length:Int)=_;omega,rfl,⟨by show(x.s.au 2).1=(r.s.au 2).1;rw[h.rel.s],h.rel.h,?_,h.rel.n⟩,⟨?_,?_,?_,?_⟩,fun W hW=>?_,TU (fun d hd=>?_) ?_,?_,h.fl⟩
   .show(x.cos++[_]).map Ch.pl=(r.cos++[_]).map RH.pl
    rw[List.map_append,List.map_append,h.rel.o];rw[h.rel.s];rfl
   .show v'.most=((r.s.au 2).1.most:Int)
    rw[m1,hA1];exact h.fits.m
   .show v'.hn=_
    rw[m4];exact h.fits.h
   .show v'.on=(r.cos++[_]).length
    rw[List.length_append,List.length_singleton,m2,h.fits.o]
   .show v'.sn=_
    rw[m6];exact h.fits.n
   .have hO:=h.on W (hon W hW).1
    exact⟨by show aG W v'.ha 3 v'.hn _;rw[m3,m4];exact hO.h,by show aG W v'.oa 2 v'.on _;rw[m2];exact(hon W hW).2,by show aG W v'.sa 11 v'.sn _;rw[m5,m6];exact hO.n,hO.ch,TU hO.co (TG W),hO.sy⟩
   .show d.cell+1<(r.s.au 2).1.C.length
    rw[hA1];have :=h.cc d hd;simp only[List.length_append,List.length_replicate];omega
   .show r.s.C.length+1<(r.s.au 2).1.C.length
    rw[hA1];simp only[List.length_append,List.length_replicate];omega
   .show(r.s.au 2).1.C.length<=_
    rw[hA1];simp only[List.length_append,List.length_replicate];omega
  .exact absurd h1 h9
 .rcases hr with ⟨h9,_⟩|⟨_,rfl,rfl,rfl,rfl⟩
  .exact absurd h9 h1
  .exact⟨rfl,rfl,PK h _ hQ⟩
def MS.new(th:Int)(ba:Option Addr)(bases:List MB)(bc:Nat)(ca:Option Addr)(conds:List Int)(cc:Nat)(fl:Nat):MS:=⟨th,ba,bc,bases,ca,cc,conds,(fl:Int),false,false,0,MT.zero,0⟩
def XD(r:RW)(th:Int)(ba:Option Addr)(bases:List MB)(bc:Nat)(ca:Option Addr)(conds:List Int)(cc:Nat)(v err:Int)(r':RW)(P Q:World->Prop):Prop:=
 (¬nM r.v.hn r.v.on th bases conds/\v=0/\err=2/\r'=r/\Q=P)\/(nM r.v.hn r.v.on th bases conds/\¬r.s.C.length+1<=r.s.most/\v=0/\err=6/\r'=r/\Q=P)\/
 (nM r.v.hn r.v.on th bases conds/\r.s.C.length+1<=r.s.most/\v=(r.sys.length:Int)/\err=0/\∃v':RV,gJ 2 r.v v'/\r'={r with v:=v',s:=(r.s.au 1).1,sys:=r.sys++[MS.new th ba bases bc ca conds cc r.s.C.length]}/\∀W,Q W->P W/\aG W v'.sa 11 (r.v.sn+1) ((r.sys++[MS.new th ba bases bc ca conds cc r.s.C.length]).flatMap MS.cells))
theorem ad4{α:Type}{H:α->Prop}{vf:α->Value}{mf:α->List ai}{f:FuncId}{args:Array Value}{m t:List ai}(h:∀T w,BD T w w m->Calls prog f args w fun e w'=>∃y,e= .returned (vf y)/\H y/\BD T w w' (mf y)):aai prog f args [m++t] (xq H vf fun y=>[mf y++t]):=fun T w hl=>by
 have hl':BD T w w (m++t):=by simpa using hl
 obtain⟨T',hF,hb⟩:=hl'.aN;exact(h T' w hF).mono fun e w' ⟨y,he,hH,hL⟩=>⟨[mf y++t],rfl,⟨y,hH,he,rfl⟩,by simpa using hb _ _ hL⟩
theorem aeM{α:Type}{H:α->Prop}{vf:α->Value}{mf:α->List ai}{f:FuncId}{args:Array Value}{m:List ai}{R:Ending->List ai->Prop}(h:Does f args m R)(k:∀e m',R e m'->∃y,H y/\e= .returned (vf y)/\m'=mf y):aai prog f args [m] (xq H vf fun y=>[mf y]):=fun T w hl=>(h T w (by simpa using hl)).mono fun e w' ⟨m',hR,hl'⟩=>by
 obtain⟨y,h1,h2,rfl⟩:=k e m' hR;exact⟨[mf y],rfl,⟨y,h1,h2,rfl⟩,by simpa using hl'⟩
theorem acY{f:FuncId}{args:Array Value}{x:WS}{r:RW}{L:PL}{s':Ar}{vf:RV->Value}(h:Does f args (x.ts++[r.th L]) (Sn x r L s' fun v'=> .returned (vf v'))):aai prog f args [x.ts++[r.th L]] (xq (fun p:RV×PL=>(∀y∈L,y∈p.2)/\PG r.v p.1) (fun p=>vf p.1) fun p=>[x.ts++[RW.th {r with v:=p.1,s:=s'} p.2]]):=
 aeM h fun e m' ⟨v',L',h1,h2,h3,h4⟩=>⟨(v',L'),⟨h1,h3⟩,h2,h4⟩
theorem ac4{α:Type}{H:α->RW->(World->Prop)->Prop}{vf:α->RV->Value}{f:FuncId}{args:Array Value}{x:WS}{m:List ai}{L:PL}{R:Ending->RW->(World->Prop)->Prop}(h:Does f args m (RI x L R))(k:∀e r' Q,R e r' Q->∃y,H y r' Q/\e= .returned (vf y r'.v)):aai prog f args [m] (xq (fun p:α×RW×PL×(World->Prop)=>(∀y∈L,y∈p.2.2.1)/\H p.1 p.2.1 p.2.2.2/\∀W,p.2.2.2 W->x.P W) (fun p=>vf p.1 p.2.1.v) fun p=>[({x with P:=p.2.2.2}:WS).ts++[p.2.1.th p.2.2.1]]):=
 aeM h fun e m' ⟨r',L',Q,h1,h2,h3,h4⟩=>by
  obtain⟨y,h5,h6⟩:=k e r' Q h2;exact⟨(y,r',L',Q),⟨h1,h5,h3⟩,h6,h4⟩
structure Scn(own:Int->pE)(cl:Bool)(cd:Int)(la lf b:Nat)(x:WS)(ms:List MS)(r:RW):Prop where
 fair:x.Fair ms
 both:Both x ms r
 inv:o5 own cl cd la lf b x ms
def adZ:BO:={what:=4,a:=0,b:=0,c:=0,side:=0,e:=ME.zero,ba:=none,bc:=0,bases:=[],ca:=none,cc:=0,conds:=[],v:=MT.zero}
theorem aeF:qB adZ:=by simp[qB,adZ]
section
variable {own:Int->pE} {cl:Bool} {cd:Int} {la lf b:Nat} {x x':WS} {ms:List MS} {r r':RW} {v':RV} {s':Ar}
theorem Scn.ar(h:Scn own cl cd la lf b x ms r)(hv:PG r.v v')(ho:One x.s s'){k:Nat}(hi:o5 own cl cd la lf k (x.ar s') ms):Scn own cl cd la lf k (x.ar s') ms {r with v:=v',s:=s'}:=⟨(bq.ar h.fair ho aeF).fair,QC h.both hv ho,hi⟩
theorem Scn.more(h:Scn own cl cd la lf b x ms r){k:Nat}(hk:b<=k):Scn own cl cd la lf k x ms r:=⟨h.fair,h.both,h.inv.more hk⟩
theorem Scn.know(h:Scn own cl cd la lf b x ms r){Q:World->Prop}(hQ:∀W,Q W->x.P W):Scn own cl cd la lf b {x with P:=Q} ms r:=⟨h.fair.fJ Q hQ,PK h.both Q hQ,h.inv.know Q⟩
theorem o5.o(h:o5 own cl cd la lf b x ms){k:Nat}(hk:b<=k)(e:s'=x.s):o5 own cl cd la lf k (x.ar s') ms:=by subst e;exact h.more hk
theorem afK(h:o5 own cl cd la lf b x ms)(k:Int):o5 own cl cd la lf (b+1) (x.ar (x.fQ k).2.2) ms:=by
 by_cases hk:0<=k/\k<(x.BI.length:Int)
 .obtain⟨n,rfl⟩:=Int.eq_ofNat_of_zero_le hk.1
  have hn:n<x.BI.length:=by omega
  have ho:=h.ch n hn;exact h.tnC (ahI hn ho.2) (fun m=>by rw[ho.1];exact fun e=>by cases e) (fun m=>by rw[ho.1];exact fun e=>by cases e) (fun m _=>by rw[ho.1];exact fun e=>by cases e) (Nat.le_refl _)
 .exact h.o (by omega) (by unfold WS.fQ;rw[gM hk];rfl)
theorem afY(h:o5 own cl cd la lf b x ms)(k:Int):o5 own cl cd la lf (b+1) (x.ar (x.eF k).2) ms:=by
 by_cases hk:0<=k/\k<(x.BI.length:Int)
 .obtain⟨n,rfl⟩:=Int.eq_ofNat_of_zero_le hk.1
  have hn:n<x.BI.length:=by omega
  have ho:=h.ch n hn;obtain⟨v,hv⟩:=agK hn ho.2;exact h.tnC hv (fun m=>by rw[ho.1];exact fun e=>by cases e) (fun m=>by rw[ho.1];exact fun e=>by cases e) (fun m _=>by rw[ho.1];exact fun e=>by cases e) (Nat.le_refl _)
 .exact h.o (by omega) (by unfold WS.eF;rw[gM hk];rfl)
theorem ahe(h:o5 own cl cd la lf b x ms)(k:Int)(hc:k≠cd):o5 own cl cd la lf (b+1) (x.ar (x.ja k).2) ms:=by
 by_cases hk:0<=k/\k<(x.cos.length:Int)
 .obtain⟨n,rfl⟩:=Int.eq_ofNat_of_zero_le hk.1
  have hn:n<x.cos.length:=by omega
  have ho:=h.cf n hn;exact h.tnC (agl hn ho.2).2 (fun m=>by rw[ho.1];exact fun e=>by cases e) (fun m=>by rw[ho.1];exact fun e=>by cases e) (fun m hm=>by rw[ho.1];intro e;injection e with e;subst e;exact hc hm) (Nat.le_refl _)
 .exact h.o (by omega) (by unfold WS.ja;rw[gM hk];rfl)
theorem o5.flag(h:o5 own cl cd la lf b x ms)(n:Nat)(hn:n<x.sys.length):∃hm:n<ms.length,x.sys[n].flag=ms[n].flag/\0<=x.sys[n].flag/\x.sys[n].flag<(x.s.C.length:Int):=by
 have hm:n<ms.length:=by have :=hn;rw[h.sys,List.length_map]at this;exact this
 have e:x.sys[n].flag=ms[n].flag:=by simp only[h.sys,List.getElem_map];rfl
 exact⟨hm,e,by rw[e];exact(h.sf n hm).2⟩
theorem ahh(h:o5 own cl cd la lf b x ms)(k:Int):o5 own cl cd la lf (b+1) (x.ar (x.iH k).2.2) ms:=by
 by_cases hk:0<=k/\k<(x.sys.length:Int)
 .obtain⟨n,rfl⟩:=Int.eq_ofNat_of_zero_le hk.1
  have hn:n<x.sys.length:=by omega
  obtain⟨hm,e,hr⟩:=h.flag n hn;have h2:=h.f2 n hm;rw[<-e]at h2;exact h.tnF n hm e.symm (agi hn hr h2).2.2 ⟨h2,Iff.rfl,fun hc=>by rw[e];exact h.fc hc n hm⟩ (Nat.le_refl _)
 .exact h.o (by omega) (by unfold WS.iH;rw[gM hk];rfl)
theorem agG(h:o5 own true cd la lf b x ms)(k:Int):o5 own true cd la lf (b+1) (x.ar (x.fK k).2.2) ms:=by
 by_cases hk:0<=k/\k<(x.sys.length:Int)
 .obtain⟨n,rfl⟩:=Int.eq_ofNat_of_zero_le hk.1
  have hn:n<x.sys.length:=by omega
  obtain⟨hm,e,hr⟩:=h.flag n hn;have h2:=h.f2 n hm;rw[<-e]at h2;refine h.tnF n hm e.symm (ahl hn hr h2) ?_ (Nat.le_refl _);split
  .rename_i h0;exact⟨by omega,⟨fun h=>by omega,fun h=>by omega⟩,fun hc=>by cases hc⟩
  .exact⟨h2,Iff.rfl,fun hc=>by cases hc⟩
 .exact h.o (by omega) (by unfold WS.fK;rw[gM hk];rfl)
theorem afE(h:o5 own cl cd la lf b x ms)(k:Int)(h1:∀n:Nat,k=(n:Int)->∀hn:n<x.sys.length,x.s.val x.sys[n].flag≠2):o5 own cl cd la lf (b+1) (x.ar (x.dX k).2) ms:=by
 by_cases hk:0<=k/\k<(x.sys.length:Int)
 .obtain⟨n,rfl⟩:=Int.eq_ofNat_of_zero_le hk.1
  have hn:n<x.sys.length:=by omega
  obtain⟨hm,e,hr⟩:=h.flag n hn;exact h.tnF n hm e.symm (af4 hn hr) ⟨by omega,⟨fun h=>by omega,fun h=>absurd h (h1 n rfl hn)⟩,fun _=>by omega⟩ (Nat.le_refl _)
 .exact h.o (by omega) (by unfold WS.dX;rw[gM hk];rfl)
theorem afH(h:o5 own cl cd la lf b x ms)(k:Int)(h0:(x.gL k).1≠0\/¬(0<=k/\k<(x.sys.length:Int))):o5 own cl cd la lf (b+1) (x.ar (x.gL k).2.2) ms:=by
 by_cases hk:0<=k/\k<(x.sys.length:Int)
 .obtain⟨n,rfl⟩:=Int.eq_ofNat_of_zero_le hk.1
  have hn:n<x.sys.length:=by omega
  obtain⟨hm,e,hr⟩:=h.flag n hn;have h2:=h.f2 n hm;rw[<-e]at h2;obtain⟨t1,t2,t3⟩:=afq hn hr h2;have h3:x.s.val x.sys[n].flag≠0:=by
   rcases h0 with h0|h0
   .rw[t1]at h0;omega
   .exact absurd hk h0
  rw[if_neg h3]at t3;exact h.tnF n hm e.symm t3 ⟨h2,Iff.rfl,fun hc=>by rw[e];exact h.fc hc n hm⟩ (Nat.le_refl _)
 .exact h.o (by omega) (by unfold WS.gL;rw[gM hk];rfl)
theorem ahb{k s er:Int}{e:ME}(h:o5 own cl cd la lf b x ms)(hx:lX x k s e er x'):o5 own cl cd la lf b x' ms:=by
 rcases hx with ⟨_,_,rfl⟩|⟨_,_,_,rfl⟩|⟨n,hn,kk,ys,_,_,⟨_,_,rfl⟩|⟨_,_,rfl⟩⟩
 .exact h
 .exact h
 .exact h.oQ n hn {x.BI[n]with es1:=x.BI[n].es1++ys} rfl _
 .exact h.oQ n hn {x.BI[n]with es2:=x.BI[n].es2++ys} rfl _
theorem afD{k er:Int}{e:ME}(h:o5 own cl cd la lf b x ms)(hx:nu x k e er x')(he:∃(k:Nat) (hk:k<ms.length),e.sync=(k:Int)/\0<=e.branch/\e.branch<(ms[k].bases.length:Int)):o5 own cl cd la lf (b+1) x' ms:=by
 rcases hx with ⟨_,_,rfl⟩|⟨n,hn,kk,ys,_,hy,_,rfl⟩
 .exact h.more (by omega)
 .have hl:ys.length<=1:=by have :=congrArg List.length hy;simp at this;omega
  refine h.jM (k:=b+1) n hn {x.cos[n]with es:=x.cos[n].es++ys} ⟨rfl,rfl⟩ _ (by omega) ?_ ?_
  .have :=h.q n hn
   simp only[List.length_append];omega
  .intro e' he'
   rcases List.mem_append.1 he' with he'|he'
   .exact h.en n hn e' he'
   .have hm:e'.plain∈[e.plain].take kk:=by rw[<-hy];exact List.mem_map_of_mem he'
    have hp:e'.plain=e.plain:=by simpa using List.mem_of_mem_take hm
    have h1:e'.sync=e.sync:=congrArg PE.sync hp;have h2:e'.branch=e.branch:=congrArg PE.branch hp;rw[h1,h2];exact he
end
theorem aem{x:WS}{ms:List MS}(h:x.Fair ms)(n:Nat)(hn:n<ms.length)(m:MS)(hin:∀W,x.P W->m.In W):(x.eP n m.raw).Fair (ms.set n m):=
 (abw (a:={adZ with what:=20,a:=(n:Int)}) n hn m h h (bq.refl h) ⟨rfl,by show(20:Int)<=20;decide,by show(20:Int)<=22;decide⟩ hin).fair
def MS.did(m:MS)(br:Int)(v:MT)(pt:Int):MS:={m with done:=true,branch:=br,v:=v,partner:=pt}
def ae5(v:MT)(W:World):Prop:=∀t∈[v],t.In W
theorem afe{x x':WS}{ms:List MS}{n:Nat}{er br pt:Int}{v:MT}(hs:x.sys=ms.map MS.raw)(hn:n<ms.length)(hd:ms[n].done=false)(hbr:0<=br/\br<(ms[n].bases.length:Int))(hv:v.plain.Ok)(hpt: -1<=pt/\pt<(ms.length:Int))(hx:gN x n br v pt er x'):er=0/\∃v':MT,v'.plain=v.plain/\x'=(x.knows (ae5 v')).eP n (ms[n].did br v' pt).raw:=by
 have hl:x.sys.length=ms.length:=by rw[hs,List.length_map]
 rcases hx with ⟨hk,_⟩|⟨m,hm,hmn,hx⟩
 .exact absurd ⟨by omega,by omega⟩ hk
 .obtain rfl:n=m:=by omega
  obtain⟨_,e1⟩:=yx hs n hm;have e2:x.sys[n].gm=ms[n].bases.length:=by rw[e1];rfl
  have e3:x.sys[n].done=ms[n].done:=by rw[e1];rfl
  rw[e2,e3,hl]at hx;rcases hx with ⟨hno,_⟩|⟨_,⟨hd',_⟩|⟨_,rfl,v',hv',rfl⟩⟩
  .exact absurd ⟨hbr,hv,hpt⟩ hno
  .rw[hd]at hd';cases hd'
  .exact⟨rfl,v',hv',by rw[e1];rfl⟩
theorem did_in{x:WS}{ms:List MS}{n:Nat}(h:x.Fair ms)(hn:n<ms.length){br pt:Int}{v':MT}(hv:v'.plain.Ok):∀W,(x.knows (ae5 v')).P W->(ms[n].did br v' pt).In W:=fun W hW=>
 have hcc:=h.good.cont W hW.1 _ (List.getElem_mem hn);⟨⟨hW.2 v' (List.mem_singleton.2 rfl),lJ hv⟩,hcc.2⟩
theorem afF{x:WS}{ms:List MS}{n:Nat}(h:x.Fair ms)(hn:n<ms.length){br pt:Int}{v':MT}(hv:v'.plain.Ok):((x.knows (ae5 v')).eP n (ms[n].did br v' pt).raw).Fair (ms.set n (ms[n].did br v' pt)):=
 aem (bq.knew (a:=adZ) _ h).fair n hn _ (did_in h hn hv)
theorem ahs{x x':WS}{ms:List MS}{r r':RW}{Q:World->Prop}{n:Nat}{er err br pt:Int}{v:MT}(hn:n<ms.length)(hd:ms[n].done=false)(hbr:0<=br/\br<(ms[n].bases.length:Int))(hv:v.plain.Ok)(hpt: -1<=pt/\pt<(ms.length:Int))(hb:Both x ms r)(hfa:x.Fair ms)(hQ:∀W,Q W->x.P W)(hon:∀W,Q W->r'.On W)(hp:Tv r n br v pt err r')(hx:gN {x with P:=Q} n br v pt er x'):er=0/\err=0/\∃v':MT,v'.plain=v.plain/\x'=(({x with P:=Q}:WS).knows (ae5 v')).eP n (ms[n].did br v' pt).raw/\x'.Fair (ms.set n (ms[n].did br v' pt))/\Both x' (ms.set n (ms[n].did br v' pt)) r':=by
 have hc:=hfa.fJ Q hQ;obtain⟨rfl,v',hv',rfl⟩:=afe (x:={x with P:=Q}) hc.good.sys hn hd hbr hv hpt hx;obtain⟨h1,hm⟩:=PD hb.rel.n;have h3:=hb.fits.n;rcases hp with ⟨hk,_⟩|⟨n',hn',hna',hp⟩
 .exact absurd ⟨by omega,by omega⟩ hk
 .obtain rfl:n=n':=by omega
  have hpl:=hm n hn hn';obtain⟨p1,p2,p3,p4,p5,p6,p7,p8,p9⟩:=Uf hpl;have hbl:=(PD p2).1;rw[<-hbl,<-p6,<-h1]at hp;rcases hp with ⟨hno,_⟩|⟨_,⟨hd',_⟩|⟨_,rfl,a',m,rfl⟩⟩
  .exact absurd ⟨hbr,hv,hpt⟩ hno
  .rw[hd]at hd';cases hd'
  .refine⟨rfl,rfl,v',hv',rfl,afF hc hn (by rw[hv'];exact hv),?_⟩
   exact TH hb n hn' (ms[n].did br v' pt) {r.sys[n]with done:=true,branch:=br,v:=v,partner:=pt} a' m (by simp only[MS.plain,MS.did,p1,p2,p3,p4,p5,hv']) rfl (fun W=>Q W/\ae5 v' W) (fun W hW=>hon W hW.1)
section
variable {own:Int->pE} {cl:Bool} {cd:Int} {la lf b:Nat} {x x':WS} {ms:List MS} {r r':RW} {Q:World->Prop}
def MS.bl(m:MS):Nat:=m.bases.length
theorem ahv{ms:List MS}{n:Nat}(hn:n<ms.length){m:MS}(h:m.bl=ms[n].bl):(ms.set n m).map MS.bl=ms.map MS.bl:=by
 rw[List.map_set,h];apply List.ext_getElem
 .simp
 .intro i h1 h2
  simp only[List.getElem_set,List.getElem_map];split
  .rename_i e;subst e;rfl
  .rfl
theorem park19{k er err:Int}{v d:Bool}(h:Scn own cl cd la lf b x ms r)(hQ:∀W,Q W->x.P W)(hon:∀W,Q W->r'.On W)(hp:YJ r k d err r')(hx:jk {x with P:=Q} k v er x'):∃ms',Scn own cl cd la lf (b+1) x' ms' r'/\x'.wb=x.wb/\(∀W,x'.P W->x.P W)/\ms'.map MS.bl=ms.map MS.bl:=by
 have hc:=h.know hQ;obtain⟨h1,hm⟩:=PD h.both.rel.n;have h2:x.sys.length=ms.length:=by rw[h.inv.sys,List.length_map]
 have h3:=h.both.fits.n;rcases hx with ⟨hk,rfl,rfl,rfl⟩|⟨n,hn,p,rfl,rfl,hx⟩
 .rcases hp with ⟨_,rfl,rfl,rfl⟩|⟨n,hn,_,_,hna,_⟩
  .exact⟨ms,hc.more (by omega),rfl,hQ,rfl⟩
  .exact absurd ⟨by omega,by show k<(x.sys.length:Int);omega⟩ hk
 .have hn0:n<x.sys.length:=hn
  rcases hp with ⟨hk,_⟩|⟨n',hn',q,v',hna',hq,hv,hp⟩
  .exact absurd ⟨by omega,by omega⟩ hk
  .obtain rfl:n=n':=by omega
   obtain⟨hmn,ef,hr⟩:=h.inv.flag n hn0;have hf2:=h.inv.f2 n hmn;have hpl:=hm n hmn hn';have e3:({x with P:=Q}:WS).sys[n].flag=(q:Int):=by show x.sys[n].flag=_;rw[ef,hq];exact(Uf hpl).2.2.2.1
   have e4:({x with P:=Q}:WS).s=r.s:=h.both.rel.s;have ho:One ({x with P:=Q}:WS).s (fT r.s q).2.2:=by rw[e4];exact eO _ _ _ _
   obtain⟨d1,d2,d3,d4⟩:=adv x.s 1 (q:Int) j6 (by rw[<-e3];exact hr);have hz:(fT r.s (q:Int)).2.1=0:=by
    rw[<-e4];have :¬2<x.s.val (q:Int):=by rw[<-e3];show ¬2<x.s.val x.sys[n].flag;rw[ef];omega
    simp[fT,Ar.load,d2,d4,bE,this]
   have ht:abN x.s (fT r.s (q:Int)).2.2 (q:Int) (x.s.val (q:Int)):=by rw[<-e4];show abN x.s (x.s.iw 1 (q:Int) j6).1 _ _;simpa[j6]using d1
   have hfq:ms[n].flag=(q:Int):=ef.symm.trans e3;have hi:=hc.inv.tnF n hmn hfq ht ⟨by rw[<-hfq];exact hf2,Iff.rfl,fun hcc=>by rw[<-hfq];exact h.inv.fc hcc n hmn⟩ (Nat.le_refl _);have hB:Both (({x with P:=Q}:WS).ar (fT r.s q).2.2) ms {r with v:=v',s:=(fT r.s q).2.2}:=QC hc.both hv ho;have hF:=(bq.ar hc.fair ho aeF).fair;rw[e3,e4]at hx;rcases hx with ⟨hno,_⟩|⟨_,_,_,rfl⟩
   .exact absurd hz hno
   rcases hp with ⟨hno,_⟩|⟨_,_,_,a',m,rfl⟩
   .exact absurd hz hno
   generalize fT r.s (q:Int)=oo at hi hB hF hon|-;obtain⟨_,e1⟩:=yx h.inv.sys n hn0;have e2:({({x with P:=Q}:WS).sys[n]with parked:=((oo.1:Int) != 2)}:bL)=MS.raw {ms[n]with parked:=((oo.1:Int) != 2)}:=by show({x.sys[n]with parked:=((oo.1:Int) != 2)}:bL)=_;rw[e1];rfl
   rw[e2];exact⟨ms.set n {ms[n]with parked:=((oo.1:Int) != 2)},⟨aem hF n hmn _ (fun W hW=>by have hcc:=hc.fair.good.cont W hW _ (List.getElem_mem hmn);exact hcc),TH hB n hn' {ms[n]with parked:=((oo.1:Int) != 2)} {r.sys[n]with parked:=((oo.1:Int) != 2)} a' m (SV hpl _) rfl Q hon,hi.eP n hmn _ rfl rfl rfl⟩,rfl,hQ,ahv hmn rfl⟩
def Ar.more(s:Ar)(k:Nat):Ar:={s with C:=s.C++List.replicate k 0}
theorem aey{s:Ar}{k:Nat}{c:Int}(h:c<(s.C.length:Int)):(s.more k).val c=s.val c:=by
 by_cases h0:0<=c
 .have :c.toNat<s.C.length:=by omega
  simp[Ar.val,Ar.more,List.getD_eq_getElem?_getD,List.getElem?_append_left this]
 .have hc:c.toNat=0:=by omega
  unfold Ar.val Ar.more;rw[hc];cases hC:s.C with
  |nil=>simp[List.getD_eq_getElem?_getD];cases k<;>simp[List.replicate]
  |cons a l=>simp
theorem ae0{s:Ar}{k:Nat}{c:Int}(h:(s.C.length:Int)<=c):(s.more k).val c=0:=by
 have :s.C.length<=c.toNat:=by omega
 simp only[Ar.val,Ar.more,List.getD_eq_getElem?_getD,List.getElem?_append_right this,List.getElem?_replicate];split<;>rfl
def aeB(own:Int->pE)(n:Int)(f:Int->pE):Int->pE:=fun c=>if n<=c then f c else own c
theorem adQ.grow{s:Ar}{k:Nat}{c:Int}{o:pE}{f:Int->pE}(h:adQ own s c o):adQ (aeB own s.C.length f) (s.more k) c o:=by
 obtain⟨h1,h2,h3⟩:=h;refine⟨by unfold aeB;rw[if_neg (by omega)];exact h1,h2,by simp[Ar.more];omega⟩
theorem adQ.new{s:Ar}{k:Nat}{c:Int}{o:pE}{f:Int->pE}(h:(s.C.length:Int)<=c/\c<(s.C.length:Int)+k)(hf:f c=o):adQ (aeB own s.C.length f) (s.more k) c o:=
 ⟨by unfold aeB;rw[if_pos h.1];exact hf,by omega,by simp[Ar.more];omega⟩
theorem aeI{s:Ar}{k:Nat}(h:s.C.length+k<=s.most):(s.au (k:Int)).1=s.more k:=by
 unfold Ar.au;rw[if_neg (by omega),if_neg (by omega)];rfl
theorem adC{α:Type}{l:List α}{y:α}{P:Nat->α->Prop}(h1:∀n (h:n<l.length),P n l[n])(h2:P l.length y):∀n (h:n<(l++[y]).length),P n (l++[y])[n]:=fun n hn=>by
 by_cases h:n<l.length
 .rw[List.getElem_append_left h];exact h1 n h
 .have :n=l.length:=by simp at hn;omega
  subst this;simpa using h2
theorem o5.grow(h:o5 own cl cd la lf b x ms)(k:Nat)(f:Int->pE):o5 (aeB own x.s.C.length f) cl cd la lf b (x.ar (x.s.more k)) ms where
 sys:=h.sys
 ch n hn:=(h.ch n hn).grow
 ca n hn:=(h.ca n hn).grow
 cf n hn:=(h.cf n hn).grow
 sf n hn:=(h.sf n hn).grow
 lk n hn hc:=(aey (h.ca n hn).2.2).trans (h.lk n hn hc)
 fr n hn hc:=(aey (h.cf n hn).2.2).trans (h.fr n hn hc)
 f2 n hn:=by have e:=aey (k:=k) (h.sf n hn).2.2;show Ar.val (x.s.more k) _<=2;rw[e];exact h.f2 n hn
 fd n hn:=by have e:=aey (k:=k) (h.sf n hn).2.2;show _↔Ar.val (x.s.more k) _=2;rw[e];exact h.fd n hn
 fc hc n hn:=by have e:=aey (k:=k) (h.sf n hn).2.2;show Ar.val (x.s.more k) _≠1;rw[e];exact h.fc hc n hn
 en:=h.en
 q:=h.q
 lg:=h.lg
theorem o5.sI(h:o5 own cl cd la lf b x ms)(y:Ce)(hy:adQ own x.s y.cell (.ch x.BI.length))(a:Option Addr)(c:Nat):o5 own cl cd la lf b (x.sI x.s y a c) ms:=
 ⟨h.sys,adC (P:=fun n (y:Ce)=>adQ own x.s y.cell (.ch n)) h.ch hy,h.ca,h.cf,h.sf,h.lk,h.fr,h.f2,h.fd,h.fc,h.en,h.q,h.lg⟩
theorem o5.sV(h:o5 own cl cd 0 0 b x ms)(y:Ch)(h1:adQ own x.s y.a (.ca x.cos.length))(h2:adQ own x.s y.f (.cf x.cos.length))(h3:x.s.val y.a=0)(h4:x.s.val y.f=0)(h5:y.es=[])(a:Option Addr)(c:Nat):o5 own cl cd 0 0 b (x.sV x.s x.P y a c) ms:=
 ⟨h.sys,h.ch,adC (P:=fun n (y:Ch)=>adQ own x.s y.a (.ca n)) h.ca h1,adC (P:=fun n (y:Ch)=>adQ own x.s y.f (.cf n)) h.cf h2,h.sf,adC (P:=fun n (y:Ch)=>(n:Int)=cd->x.s.val y.a=0) h.lk (fun _=>h3),adC (P:=fun n (y:Ch)=>(n:Int)=cd->x.s.val y.f=0) h.fr (fun _=>h4),h.f2,h.fd,h.fc,adC (P:=fun n (y:Ch)=>∀e∈y.es,∃(k:Nat) (hk:k<ms.length),e.sync=(k:Int)/\0<=e.branch/\e.branch<(ms[k].bases.length:Int)) h.en (fun e he=>by rw[h5]at he;cases he),adC (P:=fun n (y:Ch)=>y.es.length<=b) h.q (by rw[h5];exact Nat.zero_le _),h.lg⟩
theorem o5.uY(h:o5 own cl cd la lf b x ms)(m:MS)(h1:adQ own x.s m.flag (.fl ms.length))(h2:x.s.val m.flag=0)(h3:m.done=false)(P:World->Prop)(a:Option Addr)(c:Nat):o5 own cl cd la lf b ((x.knows P).uY m.raw a c) (ms++[m]):=
 ⟨by simp only[WS.uY,WS.knows,h.sys,List.map_append,List.map_cons,List.map_nil],h.ch,h.ca,h.cf,adC (P:=fun n (y:MS)=>adQ own x.s y.flag (.fl n)) h.sf h1,h.lk,h.fr,adC (P:=fun n (y:MS)=>x.s.val y.flag<=2) h.f2 (by rw[h2];omega),adC (P:=fun n (y:MS)=>y.done=true↔x.s.val y.flag=2) h.fd (by rw[h2,h3];simp),fun hc=>adC (P:=fun n (y:MS)=>x.s.val y.flag≠1) (h.fc hc) (by rw[h2];omega),fun n hn e he=>by
  obtain⟨k,hk,h1,h2,h3⟩:=h.en n hn e he;exact⟨k,by rw[List.length_append];omega,h1,h2,by rw[List.getElem_append_left hk];exact h3⟩,h.q,h.lg⟩
theorem afa(s:Ar)(k:Nat)(j:Nat)(hj:j<k):(s.C.length:Int)<=(s.C.length:Int)+j/\(s.C.length:Int)+j<(s.C.length:Int)+k:=by omega
theorem ahz{v er:Int}(h:o5 own cl cd la lf b x ms)(hx:jG x v er x'):∃own',o5 own' cl cd la lf b x' ms:=by
 rcases hx with ⟨hf,_,_,c,M,q1,q2,a,cap,rfl⟩|⟨_,_,_,rfl⟩
 .have e:(x.s.au 1).1=x.s.more 1:=aeI (k:=1) hf
  rw[e];exact⟨_,(h.grow 1 fun _=> .ch x.BI.length).sI ⟨c,(x.s.C.length:Int),M,q1,q2,[],[]⟩ (adQ.new (by simpa using afa x.s 1 0 (by omega)) rfl) a cap⟩
 .exact⟨own,h⟩
theorem afQ{v er:Int}(h:o5 own cl cd 0 0 b x ms)(hx:jE x v er x'):∃own',o5 own' cl cd 0 0 b x' ms:=by
 rcases hx with ⟨hf,_,_,c,q,a,cap,rfl⟩|⟨_,_,_,rfl⟩
 .have e:(x.s.au 2).1=x.s.more 2:=aeI (k:=2) hf
  rw[e];exact⟨_,(h.grow 2 fun c=>if c=(x.s.C.length:Int)then .ca x.cos.length else .cf x.cos.length).sV ⟨c,(x.s.C.length:Int),(x.s.C.length:Int)+1,q,[]⟩ (adQ.new (by simpa using afa x.s 2 0 (by omega)) (if_pos rfl)) (adQ.new (by simpa using afa x.s 2 1 (by omega)) (if_neg (by show ¬(x.s.C.length:Int)+1=_;omega))) (ae0 (Int.le_refl _)) (ae0 (by show(x.s.C.length:Int)<=(x.s.C.length:Int)+1;omega)) rfl a cap⟩
 .exact⟨own,h⟩
end
end Go.Proofs.YtegejdlglonflaaGreatDoor
