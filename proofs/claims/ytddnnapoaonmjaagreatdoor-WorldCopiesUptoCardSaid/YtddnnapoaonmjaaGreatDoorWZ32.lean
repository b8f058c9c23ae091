/-
  Texts of WorldCopies, laid together by program.
-/
import Derived.Test.YtddnnapoaonmjaaGreatDoorWZ31
namespace Go.Proofs.YtddnnapoaonmjaaGreatDoor
open Go.RowKit Go.Shelf Go.Proofs.Tryz
set_option maxRecDepth 100000
set_option maxHeartbeats 8000000
set_option linter.unusedVariables false
set_option linter.unusedSimpArgs false
theorem Uf{u d:MS}(h:u.plain=d.plain):u.thread=d.thread/\u.bases.map MB.plain=d.bases.map MB.plain/\u.conds=d.conds/\u.flag=d.flag/\u.parked=d.parked/\u.done=d.done/\u.branch=d.branch/\u.v.plain=d.v.plain/\u.partner=d.partner:=by
 simp only[MS.plain,Prod.mk.injEq]at h;exact h
theorem VP{x x':WS}{ms:List MS}{r:RW}{k br er err:Int}{z:ME}{v:dP}(h:Both x ms r)(hr:W9 r k br z err)(hx:jo x ms k br v er x'):(∃y:ME,v=⟨y.sync,y.thread,y.branch,y.flag,y.v.kind,y.v.num,y.v.addr,y.v.parts.length,y.v.cap⟩/\y.plain=z.plain/\er=err/\∀W,x'.P W->y.v.In W)/\Both x' ms r:=by
 have hl:=(PD h.rel.n).1;have hf:=h.fits.n;rcases hx with ⟨hk,rfl,rfl,rfl⟩|⟨n,hn,rfl,h2⟩
 .rcases hr with ⟨_,rfl,rfl⟩|⟨n,hn,rfl,_⟩
  .exact⟨⟨ME.zero,rfl,rfl,rfl,fun W _=>MT.dQ W⟩,h⟩
  .exact absurd ⟨by omega,by omega⟩ hk
 .rcases hr with ⟨hk,_⟩|⟨n',hn',hnn,hp⟩
  .exact absurd ⟨by omega,by omega⟩ hk
  .obtain rfl:n=n':=by omega
   obtain⟨p1,p2,p3,p4,_⟩:=Uf ((PD h.rel.n).2 n hn hn');obtain⟨hbl,hbm⟩:=PD p2;rcases h2 with ⟨hb,rfl,rfl,rfl⟩|⟨j,hj,v',rfl,rfl,hv,rfl,rfl⟩
   .rcases hp with ⟨_,rfl,rfl⟩|⟨j,hj,rfl,_⟩
    .exact⟨⟨ME.zero,rfl,rfl,rfl,fun W _=>MT.dQ W⟩,h⟩
    .exact absurd ⟨by omega,by omega⟩ hb
   .rcases hp with ⟨hb,_⟩|⟨j',hj',hjj,rfl,rfl⟩
    .exact absurd ⟨by omega,by omega⟩ hb
    .obtain rfl:j=j':=by omega
     have hbp:=hbm j hj hj';simp only[MB.plain,Prod.mk.injEq]at hbp;refine⟨⟨⟨(n:Int),ms[n].thread,(j:Int),ms[n].flag,v'⟩,rfl,?_,rfl,fun W hW=>hW.2.1⟩,PK h _ fun W hW=>hW.1⟩;simp only[ME.plain,p1,p4,hv,hbp.2.2.1]
theorem Yw(x:WS)(ms:List MS)(r:RW)(L:PL)(a:BO)(h:cZ x ms a)(hb:Both x ms r)(hw:a.what=23):Does 63 #[x.wb,r.v.val,a.vl] (x.ts++[r.th L]) (Ql a x ms L):=by
 refine(AQ x.wb r.v a _ (fun z no y er m2=>((z.v.nodes<=256/\y.v.nodes<=256/\z.plain=y.plain)/\er=no)/\Ri a x ms L r.v m2) hw ?_).mono (fun e m2 ⟨fine,he,_,_,_,_,hf,hR⟩=>⟨r.v,by rw[hf.2 hR.1]at he;exact he,hR.2⟩);refine(Wv hb h.fair a.a a.b).mono ?_;rintro e m1 ⟨r',L',Q,Qy,⟨z,err,rfl,hp,hzn,hzi,rfl,rfl⟩,hQ,rfl⟩;refine⟨z,err,rfl,?_⟩;refine(Pv (r:=[r'.th L']) (m:=x.ts) (R:=fun e m0=>∃(v:dP) (er:Int) (x':WS),e= .returned (.tuple #[v.val,.int .i64 er])/\jo x ms a.a a.b v er x'/\m0=x'.ts) fun T w hL=>?_).mono ?_
 .refine(zn T w _ ms a.a a.b hL h.fair.good.sys h.fair.good.cont).mono ?_
  rintro e w' ⟨v,er,x',rfl,hx,hL'⟩;exact⟨_,⟨v,er,x',rfl,hx,rfl⟩,hL'⟩
 .rintro e m2 ⟨m0,⟨v,er,x',rfl,hx,rfl⟩,rfl⟩
  obtain⟨⟨y,rfl,h2,h3,h4⟩,h5⟩:=VP hb hp hx;have hs:=oL (a:=a) h.fair hx;have hyn:y.v.nodes<=256:=by rw[cu h2];exact hzn
  exact⟨y,er,rfl,⟨2,x'.P,rfl,fun W hW=>⟨⟨hzi W (hs.knows W hW),by omega⟩,h4 W hW,by omega⟩⟩,⟨⟨hzn,hyn,h2.symm⟩,h3⟩,x',ms,r',L',hs,h5,vk hx,rfl,Qy,rfl⟩
def Tv(r:RW)(k br:Int)(u:MT)(pt err:Int)(r':RW):Prop:=(¬(0<=k/\k<(r.v.sn:Int))/\err=4/\r'=r)\/∃(n:Nat) (hn:n<r.sys.length),k=(n:Int)/\
 ((¬((0<=br/\br<(r.sys[n].bases.length:Int))/\u.plain.Ok/\(-1<=pt/\pt<(r.sys.length:Int)))/\err=2/\r'=r)\/
 (((0<=br/\br<(r.sys[n].bases.length:Int))/\u.plain.Ok/\(-1<=pt/\pt<(r.sys.length:Int)))/\((r.sys[n].done=true/\err=160/\r'=r)\/
  (r.sys[n].done=false/\err=0/\∃(a:Option Addr) (m:Nat),r'=r.SI n {r.sys[n]with done:=true,branch:=br,v:=u,partner:=pt} a m))))
theorem SB{u:MT}{w:World}{b:Bool}(hu:u.In w)(hn:u.nodes<=1048576)(hb:b=true↔u.plain.Ok):Calls prog 248 #[u.val] w fun en w'=>en= .returned (.bool b)/\Touch [] w w':=
 (sN u w hu hn).mono fun e w' ⟨c,h1,h2,h3⟩=>⟨by rw[h1];congr 2;cases b<;>cases c<;>simp_all,h3⟩
theorem VO{x:WS}{ms:List MS}{r:RW}{L:PL}(h:Both x ms r)(hfa:x.Fair ms)(k br:Int)(u:MT)(pt:Int)(hu:∀W,x.P W->u.In W)(hne:u.nodes<=1048576):Does 168 #[r.v.val,k,br,u.val,pt] (x.ts++[r.th L]) (RI x L fun en r' Q=>∃err,en= .returned (.tuple #[r'.v.val,.int .i64 err])/\Tv r k br u pt err r'/\∀W,Q W->r'.On W):=by
 rcases h.sy hfa.good.sys k with ⟨_,hk⟩|⟨n,hn,hx,hy,rfl,_,_,_⟩
 .exact Qa (fun w=>Ap r.v w k br u pt hk) ⟨4,rfl,.inl ⟨hk,rfl,rfl⟩,h.on⟩
 .have hk:n<r.v.sn:=by rw[h.fits.n];exact hn
  have hsl:=h.fits.n;refine Qm fun T w hL=>?_;have bad:∀{E:Int} {C:Prop},(Calls prog 168 #[r.v.val,(n:Int),br,u.val,pt] w fun en w'=>en= .returned (.tuple #[r.v.val,E])/\BD T w w' [aA x.P])->Tv r n br u pt E r->Calls prog 168 #[r.v.val,(n:Int),br,u.val,pt] w fun e w'=>∃(r':RW) (Q:World->Prop),((∃err,e= .returned (.tuple #[r'.v.val,.int .i64 err])/\Tv r n br u pt err r'/\∀W,Q W->r'.On W)/\r'.th L=r.th L/\∀W,Q W->x.P W)/\BD T w w' [aA Q]:=fun hc hR=>hc.mono fun e w' ⟨h1,h2⟩=>⟨r,x.P,⟨⟨_,h1,hR,h.on⟩,rfl,fun _ h=>h⟩,h2⟩;by_cases hbr:0<=br/\br<(r.sys[n].bases.length:Int)
  .by_cases hok:u.plain.Ok
   .by_cases hpt: -1<=pt/\pt<(r.sys.length:Int)
    .cases hd:r.sys[n].done
     .refine(UQ T w r.v x.P n r.sys[n] br pt u hL hk hbr ⟨hpt.1,by omega⟩ hd (h.SA n hn) (fun W hW=>SB (hu W hW) hne (by simp[hok])) (R2:=fun a m Q=>∀W,Q W->x.P W/\(r.SI n {r.sys[n]with done:=true,branch:=br,v:=u,partner:=pt} a m).On W) (fun T W hL=>?_)).mono ?_
      .refine(XU h.fits (h.snl hfa) n hn T W x.P {r.sys[n]with done:=true,branch:=br,v:=u,partner:=pt} h.on hL).mono ?_
       rintro en w' ⟨Q',rest,⟨a,m,rfl,h3⟩,hL'⟩;exact⟨Q',rest,⟨a,m,rfl,fun W hW=>⟨(h3 W hW).1,(h.on W (h3 W hW).1).SI n (by have hcc:=(h.on W (h3 W hW).1).sy _ (List.getElem_mem hn);exact⟨⟨hu W (h3 W hW).1,lJ hok⟩,hcc.2⟩) (h3 W hW).2⟩⟩,hL'⟩
      .rintro en w' ⟨a,m,Q,rfl,h4,hL'⟩
       exact⟨r.SI n _ a m,Q,⟨⟨0,rfl,.inr ⟨n,hn,rfl,.inr ⟨⟨hbr,hok,hpt⟩,.inr ⟨hd,rfl,a,m,rfl⟩⟩⟩,fun W hW=>(h4 W hW).2⟩,rfl,fun W hW=>(h4 W hW).1⟩,hL'⟩
     .exact bad (C:=True) (UM T w r.v x.P n r.sys[n] br pt u hL hk hbr ⟨hpt.1,by omega⟩ hd (h.SA n hn) (fun W hW=>SB (hu W hW) hne (by simp[hok]))) (.inr ⟨n,hn,rfl,.inr ⟨⟨hbr,hok,hpt⟩,.inl ⟨hd,rfl,rfl⟩⟩⟩)
    .have hR:Tv r n br u pt 2 r:= .inr ⟨n,hn,rfl,.inl ⟨fun h=>hpt h.2.2,rfl,rfl⟩⟩
     by_cases h1:pt< -1
     .exact bad (C:=True) (WE T w r.v x.P n r.sys[n] br pt u hL hk ⟨hbr,h1⟩ (h.SA n hn) (fun W hW=>SB (hu W hW) hne (by simp[hok]))) hR
     .exact bad (C:=True) (WM T w r.v x.P n r.sys[n] br pt u hL hk ⟨hbr,by omega,by omega⟩ (h.SA n hn) (fun W hW=>SB (hu W hW) hne (by simp[hok]))) hR
   .exact bad (C:=True) (Wp T w r.v x.P n r.sys[n] br pt u hL hk hbr (h.SA n hn) (fun W hW=>SB (hu W hW) hne (by simp[hok]))) (.inr ⟨n,hn,rfl,.inl ⟨fun h=>hok h.2.1,rfl,rfl⟩⟩)
  .have hR:Tv r n br u pt 2 r:= .inr ⟨n,hn,rfl,.inl ⟨fun h=>hbr h.1,rfl,rfl⟩⟩
   by_cases h0:br<0
   .exact bad (C:=True) (Wm T w r.v x.P n r.sys[n] br pt u hL hk h0 (h.SA n hn)) hR
   .exact bad (C:=True) (WJ T w r.v x.P n r.sys[n] br pt u hL hk ⟨by omega,by omega⟩ (h.SA n hn)) hR
theorem Xv(x:WS)(ms:List MS)(r:RW)(L:PL)(a:BO)(h:cZ x ms a)(hb:Both x ms r)(hw:a.what=20)(hne:a.v.nodes<=1048576)(hui:∀W,x.P W->a.v.In W):Does 63 #[x.wb,r.v.val,a.vl] (x.ts++[r.th L]) (Ql a x ms L):=by
 refine(yL x.wb r.v a _ (fun o no er m2=>er=no/\Ri a x ms L o m2) hw ?_).mono (fun e m2 ⟨o,fine,he,_,_,hf,hR⟩=>⟨o,by rw[hf.2 hR.1]at he;exact he,hR.2⟩);refine(VO hb h.fair a.a a.b a.v a.c hui hne).mono ?_;rintro e m1 ⟨r',L',Q,Qy,⟨err,rfl,hp,hon⟩,hQ,rfl⟩;refine⟨r'.v,err,rfl,?_⟩;have hc:=Qn h Q hQ;refine(Pv (r:=[r'.th L']) (m:=({x with P:=Q}:WS).ts) (R:=fun e m0=>∃er x',e= .returned (.int .i64 er)/\gN {x with P:=Q} a.a a.b a.v a.c er x'/\m0=x'.ts) fun T w hL=>?_).mono ?_
 .refine(qz T w _ a.a a.b a.v a.c hL (fun W hW=>hui W (hQ W hW)) (by have :=hc.fair.good.l3;omega)).mono ?_
  rintro e w' ⟨er,x',rfl,hx,hL'⟩;exact⟨_,⟨er,x',rfl,hx,rfl⟩,hL'⟩
 .rintro e m2 ⟨m0,⟨er,x',rfl,hx,rfl⟩,rfl⟩
  have hwb:x'.wb=x.wb:=(show x'.wb=({x with P:=Q}:WS).wb from rM hx);have h1:=(PD hb.rel.n).1;have h2:x.sys.length=ms.length:=by rw[h.fair.good.sys,List.length_map]
  have h3:=hb.fits.n;have same:∀{E:Int},er=E->err=E->x'={x with P:=Q}->r'=r->∃Fq,Ending.returned (.int .i64 er)= .returned (.int .i64 Fq)/\Fq=err/\Ri a x ms L r'.v (x'.ts++[r'.th L']):=by
   rintro E rfl rfl rfl rfl;exact⟨_,rfl,rfl,_,ms,r',L',P7 hQ (bq.refl hc.fair),PK hb Q hQ,rfl,rfl,Qy,rfl⟩
  rcases hx with ⟨hk,h5,h6⟩|⟨n,hn,hna,hx⟩
  .rcases hp with ⟨_,h7,h8⟩|⟨n,hn,hna,_⟩
   .exact same h5 h7 h6 h8
   .exact absurd ⟨by omega,by show a.a<(x.sys.length:Int);omega⟩ hk
  .have hn0:n<x.sys.length:=hn
   rcases hp with ⟨hk,_⟩|⟨n',hn',hna',hp⟩
   .exact absurd ⟨by omega,by omega⟩ hk
   .obtain rfl:n=n':=by omega
    obtain⟨hm,e1⟩:=yx hc.fair.good.sys n hn;have hpl:=(PD hb.rel.n).2 n hm hn';obtain⟨p1,p2,p3,p4,p5,p6,p7,p8,p9⟩:=Uf hpl;have hbl:=(PD p2).1;have e3:({x with P:=Q}:WS).sys[n].gm=r.sys[n].bases.length:=by rw[e1];exact hbl
    have e4:({x with P:=Q}:WS).sys[n].done=r.sys[n].done:=by rw[e1];exact p6
    have e5:(({x with P:=Q}:WS).sys.length:Int)=(r.sys.length:Int):=by show(x.sys.length:Int)=_;omega
    rw[e3,e5,e4]at hx;rcases hx with ⟨hno,h5,h6⟩|⟨X8,⟨hd,h5,h6⟩|⟨hd,rfl,v',hv,rfl⟩⟩
    .rcases hp with ⟨_,h7,h8⟩|⟨X8,_⟩
     .exact same h5 h7 h6 h8
     .exact absurd X8 hno
    .rcases hp with ⟨hno,_⟩|⟨_,⟨_,h7,h8⟩|⟨hd',_⟩⟩
     .exact absurd X8 hno
     .exact same h5 h7 h6 h8
     .rw[hd]at hd';cases hd'
    .rcases hp with ⟨hno,_⟩|⟨_,⟨hd',_⟩|⟨_,rfl,a',m,rfl⟩⟩
     .exact absurd X8 hno
     .rw[hd]at hd';cases hd'
     .have hs:bq a {x with P:=Q} ms (({x with P:=Q}:WS).knows (fun W=>∀t∈[v'],t.In W)) ms:=bq.knew _ hc.fair
      have e2:({x with P:=Q}:WS).sys[n].qN a.b v' a.c=MS.raw {ms[n]with done:=true,branch:=a.b,v:=v',partner:=a.c}:=by rw[e1];rfl
      rw[e2];refine⟨0,rfl,rfl,_,ms.set n {ms[n]with done:=true,branch:=a.b,v:=v',partner:=a.c},_,L',P7 hQ (abw n hm _ hc.fair hs.fair hs ⟨hna.symm,by omega,by omega⟩ (fun W hW=>?_)),TH hb n hn' {ms[n]with done:=true,branch:=a.b,v:=v',partner:=a.c} {r.sys[n]with done:=true,branch:=a.b,v:=a.v,partner:=a.c} a' m ?_ rfl (fun W=>Q W/\∀t∈[v'],t.In W) (fun W hW=>hon W hW.1),rfl,rfl,Qy,rfl⟩
      .have hcc:=hc.fair.good.cont W hW.1 _ (List.getElem_mem hm)
       exact⟨⟨hW.2 v' (List.mem_singleton.2 rfl),lJ (by rw[hv];exact X8.2.1)⟩,hcc.2⟩
      .simp only[MS.plain,p1,p2,p3,p4,p5,hv]
theorem TV{f:FuncId}{args:Array Value}{x:WS}{l:List ai}{R:Ending->List ai->Prop}(h:(∀n∈x.s.C,Wd n)->Does f args (x.ts++l) R):Does f args (x.ts++l) R:=fun T w hL=>h (hL.nP 1 rfl).1 T w hL
def YJ(r:RW)(k:Int)(d:Bool)(err:Int)(r':RW):Prop:=(¬(0<=k/\k<(r.v.sn:Int))/\d=false/\err=4/\r'=r)\/∃(n:Nat) (hn:n<r.sys.length) (q:Nat) (v':RV),k=(n:Int)/\(q:Int)=r.sys[n].flag/\PG r.v v'/\
 (((fT r.s q).2.1≠0/\d=false/\err=((fT r.s q).2.1:Int)/\r'={r with v:=v',s:=(fT r.s q).2.2})\/
 ((fT r.s q).2.1=0/\d=(((fT r.s q).1:Int) != 2)/\err=0/\∃(a:Option Addr) (m:Nat),r'=({r with v:=v',s:=(fT r.s q).2.2}:RW).SI n {r.sys[n]with parked:=(((fT r.s q).1:Int) != 2)} a m))
theorem Yb{x:WS}{ms:List MS}{r:RW}{L:PL}(h:Both x ms r)(hfa:x.Fair ms)(hL0:x.s.L.length<1000000)(k:Int):Does 169 #[r.v.val,k] (x.ts++[r.th L]) (RI x L fun en r' Q=>∃d err,en= .returned (.tuple #[r'.v.val,.bool d,.int .i64 err])/\YJ r k d err r'/\∀W,Q W->r'.On W):=by
 rcases h.sy hfa.good.sys k with ⟨_,hk⟩|⟨n,hn,hx,hy,rfl,_,_,_⟩
 .exact Qa (fun w=>Nt r.v w k hk) ⟨false,4,rfl,.inl ⟨hk,rfl,rfl,rfl⟩,h.on⟩
 .have hk:n<r.v.sn:=by rw[h.fits.n];exact hn
  obtain⟨q,hq⟩:=h.fl n hn;refine TV fun hwd=>RS _ fun T w hL=>?_;have ho:One x.s (fT x.s q).2.2:=eO _ _ _ _;have hS:∀v',PG r.v v'->Both (x.ar (fT x.s q).2.2) ms {r with v:=v',s:=(fT x.s q).2.2}:=fun v' hv=>QC h hv ho;rw[h.rel.s]at hS hwd hL0;have look:∀T W,BD T W W [r.th L,aA x.P]->Calls prog 167 #[r.v.val,(n:Int)] W fun en w'=>∃(v':RV) (t:ai),en= .returned (.tuple #[v'.val,.int .i64 ((fT r.s q).1:Int),.int .i64 ((fT r.s q).2.1:Int)])/\(PG r.v v'/\∃L',(∀y∈L,y∈L')/\t=RW.th {r with v:=v',s:=(fT r.s q).2.2} L')/\BD T W w' [t,aA x.P]:=fun T W hL=>by
   refine(V8 T W r.v r.s x.P n q hL h.fits.m hk (fun W hW=>(h.SA n hn W hW).cell 3 (by rw[hq];rfl)) (by omega) hwd).mono ?_;rintro en w' ⟨v',L',Qy,rfl,hv,hL'⟩;exact⟨v',_,rfl,⟨hv,L',Qy,rfl⟩,hL'⟩
  by_cases hno:(fT r.s q).2.1=0
  .refine(WN T w r.v x.P n r.sys[n] ((fT r.s q).1:Int) (r.th L) hL hk (h.SA n hn) (R1:=fun v' t=>PG r.v v'/\∃L',(∀y∈L,y∈L')/\t=RW.th {r with v:=v',s:=(fT r.s q).2.2} L') (fun v' t h1=>h1.1) (fun T W hL=>(look T W hL).mono fun en w' ⟨v',t,h1,h2,h3⟩=>⟨v',t,by rw[h1,hno];rfl,h2,h3⟩) (R2:=fun v' t a m Q=>(PG r.v v'/\∃L',(∀y∈L,y∈L')/\t=RW.th {r with v:=v',s:=(fT r.s q).2.2} L')/\∀W,Q W->x.P W/\(({r with v:=v',s:=(fT r.s q).2.2}:RW).SI n {r.sys[n]with parked:=(((fT r.s q).1:Int) != 2)} a m).On W) (fun v' t T W h1 hL=>?_)).mono ?_
   .have hb:=hS v' h1.1
    refine(XU hb.fits (by have :=h.snl hfa;have h9:=h1.1.2.2.2.2.2.2.2.2.1;show v'.sn<=_;omega) n hn T W x.P {r.sys[n]with parked:=(((fT r.s q).1:Int) != 2)} hb.on hL).mono ?_;rintro en w' ⟨Q',rest,⟨a,m,rfl,h3⟩,hL'⟩;exact⟨Q',rest,⟨a,m,rfl,h1,fun W hW=>⟨(h3 W hW).1,(hb.on W (h3 W hW).1).SI n (by have hcc:=(h.on W (h3 W hW).1).sy _ (List.getElem_mem hn);exact hcc) (h3 W hW).2⟩⟩,hL'⟩
   .rintro en w' ⟨v',t,a,m,Q,rfl,⟨⟨hv,L',Qy,rfl⟩,h4⟩,hL'⟩
    exact⟨({r with v:=v',s:=(fT r.s q).2.2}:RW).SI n {r.sys[n]with parked:=(((fT r.s q).1:Int) != 2)} a m,L',Q,Qy,⟨_,0,rfl,.inr ⟨n,hn,q,v',rfl,hq,hv,.inr ⟨hno,rfl,rfl,a,m,rfl⟩⟩,fun W hW=>(h4 W hW).2⟩,fun W hW=>(h4 W hW).1,hL'⟩
  .refine(Xm T w r.v x.P n ((fT r.s q).1:Int) ((fT r.s q).2.1:Int) (by omega) (r.th L) hL look).mono ?_
   rintro en w' ⟨v',t,rfl,⟨hv,L',Qy,rfl⟩,hL'⟩;exact⟨{r with v:=v',s:=(fT r.s q).2.2},L',x.P,Qy,⟨false,_,rfl,.inr ⟨n,hn,q,v',rfl,hq,hv,.inl ⟨hno,rfl,rfl,rfl⟩⟩,(hS v' hv).on⟩,fun _ h=>h,hL'⟩
theorem b_park(x:WS)(ms:List MS)(r:RW)(L:PL)(a:BO)(h:cZ x ms a)(hb:Both x ms r)(hw:a.what=21):Does 63 #[x.wb,r.v.val,a.vl] (x.ts++[r.th L]) (Ql a x ms L):=by
 refine(KF x.wb r.v a _ (fun o got no k er m2=>(k=got/\er=no)/\Ri a x ms L o m2) hw ?_).mono (fun e m2 ⟨o,fine,he,_,_,_,_,hf,hR⟩=>⟨o,by rw[hf.2 hR.1]at he;exact he,hR.2⟩);refine(Yb hb h.fair h.few a.a).mono ?_;rintro e m1 ⟨r',L',Q,Qy,⟨d,err,rfl,hp,hon⟩,hQ,rfl⟩;refine⟨r'.v,d,err,rfl,?_⟩;have hc:=Qn h Q hQ;have hmay:qB a:=⟨by omega,by omega,by omega,by omega,by omega,by omega⟩;refine(Pv (r:=[r'.th L']) (m:=({x with P:=Q}:WS).ts) (R:=fun e m0=>∃b er x',e= .returned (.tuple #[.bool b,.int .i64 er])/\jk {x with P:=Q} a.a b er x'/\m0=x'.ts) fun T w hL=>?_).mono ?_
 .refine(Jz T w _ a.a hL hc.few).mono ?_
  rintro e w' ⟨b,er,x',rfl,hx,hL'⟩;exact⟨_,⟨b,er,x',rfl,hx,rfl⟩,hL'⟩
 .rintro e m2 ⟨m0,⟨b,er,x',rfl,hx,rfl⟩,rfl⟩
  have h1:=(PD hb.rel.n).1;have h2:x.sys.length=ms.length:=by rw[h.fair.good.sys,List.length_map]
  have h3:=hb.fits.n;rcases hx with ⟨hk,rfl,rfl,rfl⟩|⟨n,hn,p,hna,rfl,hx⟩
  .rcases hp with ⟨_,rfl,rfl,rfl⟩|⟨n,hn,_,_,hna,_⟩
   .exact⟨_,_,rfl,⟨rfl,rfl⟩,_,ms,r',L',P7 hQ (bq.refl hc.fair),PK hb Q hQ,rfl,rfl,Qy,rfl⟩
   .exact absurd ⟨by omega,by show a.a<(x.sys.length:Int);omega⟩ hk
  .have hn0:n<x.sys.length:=hn
   rcases hp with ⟨hk,_⟩|⟨n',hn',q,v',hna',hq,hv,hp⟩
   .exact absurd ⟨by omega,by omega⟩ hk
   .obtain rfl:n=n':=by omega
    obtain⟨hm,e1⟩:=yx hc.fair.good.sys n hn;have hpl:=(PD hb.rel.n).2 n hm hn';have e3:({x with P:=Q}:WS).sys[n].flag=(q:Int):=by rw[e1,hq];exact(Uf hpl).2.2.2.1
    have e4:({x with P:=Q}:WS).s=r.s:=hb.rel.s;have ho:One ({x with P:=Q}:WS).s (fT r.s q).2.2:=by rw[e4];exact eO _ _ _ _
    have hs:=bq.ar hc.fair ho hmay;have hB:Both (({x with P:=Q}:WS).ar (fT r.s q).2.2) ms {r with v:=v',s:=(fT r.s q).2.2}:=QC (PK hb Q hQ) hv ho;rw[e3,e4]at hx;generalize hoo:fT r.s (q:Int)=oo at hx hp ho hs hB;rcases hx with ⟨hno,rfl,rfl,rfl⟩|⟨hno,rfl,rfl,rfl⟩
    .rcases hp with ⟨_,rfl,rfl,rfl⟩|⟨hno',_⟩
     .exact⟨_,_,rfl,⟨rfl,rfl⟩,_,ms,_,L',P7 hQ hs,hB,rfl,rfl,Qy,rfl⟩
     .exact absurd hno' hno
    .rcases hp with ⟨hno',_⟩|⟨_,rfl,rfl,a',m,rfl⟩
     .exact absurd hno hno'
     .have e2:({({x with P:=Q}:WS).sys[n]with parked:=((oo.1:Int) != 2)}:bL)=MS.raw {ms[n]with parked:=((oo.1:Int) != 2)}:=by rw[e1];rfl
      rw[e2];exact⟨_,_,rfl,⟨rfl,rfl⟩,_,ms.set n {ms[n]with parked:=((oo.1:Int) != 2)},_,L',P7 hQ (abw n hm {ms[n]with parked:=((oo.1:Int) != 2)} hc.fair hs.fair hs ⟨hna.symm,by omega,by omega⟩ (fun W hW=>by have hcc:=hc.fair.good.cont W hW _ (List.getElem_mem hm);exact hcc)),TH hB n hn' {ms[n]with parked:=((oo.1:Int) != 2)} {r.sys[n]with parked:=((oo.1:Int) != 2)} a' m (SV hpl _) rfl Q hon,rfl,rfl,Qy,rfl⟩
end Go.Proofs.YtddnnapoaonmjaaGreatDoor
