/-
  Texts of FireHolds, laid together by program.
-/
import Derived.Test.YtegejdlglonflaaGreatDoorWZ38
namespace Go.Proofs.YtegejdlglonflaaGreatDoor
open Go.RowKit Go.Shelf Go.Proofs.Tryz
set_option maxRecDepth 100000
set_option maxHeartbeats 8000000
set_option linter.unusedVariables false
set_option linter.unusedSimpArgs false
def aep:MB:=⟨13,0,MT.zero,none,0,[],none,0,[]⟩
def aeS(pk:Bool):MPl:=(0,[aep.plain],[],2,pk,false,0,MT.zero.plain,0)
structure W19(own:Int->pE)(b:Nat)(x:WS)(ms:List MS)(es:List PE)(pk:Bool):Prop where
 fair:x.Fair ms
 inv:o5 own false 0 0 0 b x ms
 co:x.cos.length=1
 es:∀h:0<x.cos.length,x.cos[0].es.map ME.plain=es
 sy:ms.map MS.plain=[aeS pk]
section
variable {own:Int->pE} {b:Nat} {x x':WS} {ms:List MS} {es:List PE} {pk:Bool}
theorem agt{wb ga:Nat}{P R:World->Prop}{x1:WS}{v er v2 er2:Int}(hP:∀W,P W->bJ W)(h1:jE (WS.empty wb ga 9 P) v er x1)(h2:abr (x1.knows R) 0 [aep] [] v2 er2 x'):(∃own ms,W19 own 0 x' ms [] false)/\x'.wb=wb/\∀W,x'.P W->P W:=by
 have hF0:(WS.empty wb ga 9 P).Fair []:=⟨⟨hP,fun W _=>⟨fun c hc=>(List.not_mem_nil hc).elim,fun c hc=>(List.not_mem_nil hc).elim⟩,rfl,fun W _ m hm=>(List.not_mem_nil hm).elim,fun n hn=>(Nat.not_lt_zero _ hn).elim,fun n hn=>(Nat.not_lt_zero _ hn).elim,Nat.zero_le _,Nat.zero_le _,Nat.zero_le _⟩,rfl,(show(0:Nat)<=9 by omega),(by show(9:Nat)<=65536;omega)⟩;have hI0:o5 (fun _=> .ch 0) false 0 0 0 0 (WS.empty wb ga 9 P) []:=⟨rfl,fun n hn=>(Nat.not_lt_zero _ hn).elim,fun n hn=>(Nat.not_lt_zero _ hn).elim,fun n hn=>(Nat.not_lt_zero _ hn).elim,fun n hn=>(Nat.not_lt_zero _ hn).elim,fun n hn=>(Nat.not_lt_zero _ hn).elim,fun n hn=>(Nat.not_lt_zero _ hn).elim,fun n hn=>(Nat.not_lt_zero _ hn).elim,fun n hn=>(Nat.not_lt_zero _ hn).elim,fun _ n hn=>(Nat.not_lt_zero _ hn).elim,fun n hn=>(Nat.not_lt_zero _ hn).elim,fun n hn=>(Nat.not_lt_zero _ hn).elim,Nat.zero_le _⟩;obtain⟨own1,hI1⟩:=afQ hI0 h1;have hF1:=(bq.knew (a:=adZ) R (mF (a:=adZ) hF0 h1).fair).fair;replace hI1:=hI1.know (fun W=>x1.P W/\R W)
 rcases h1 with ⟨_,_,_,c,q,aa,cap,hx1⟩|⟨hn,_⟩
 .obtain⟨x2,hx2⟩:∃x2,x1.knows R=x2:=⟨_,rfl⟩
  have hs1:x2.s=⟨[0,0],9,[]⟩:=by rw[<-hx2,hx1];rfl
  have hc1:x2.cos.length=1:=by rw[<-hx2,hx1];rfl
  have he1:∀h:0<x2.cos.length,x2.cos[0].es=[]:=by rw[<-hx2,hx1];intro h;rfl
  have hw1:x2.wb=wb:=by rw[<-hx2,hx1];rfl
  have hP1:∀W,x2.P W->P W:=by rw[<-hx2,hx1];exact fun W hW=>hW.1
  replace hI1:o5 own1 false 0 0 0 0 x2 []:=hx2▸hI1
  replace hF1:x2.Fair []:=hx2▸hF1
  rw[hx2]at h2;clear hx1 hx2;have hok:ou x2 0 [aep] []:=⟨by omega,⟨fun t h=>(Nat.not_lt_zero _ h).elim,fun s t hs=>(Nat.not_lt_zero _ hs).elim⟩,by decide,fun b hb=>by
   obtain rfl:=List.mem_singleton.1 hb;rw[hc1];exact⟨.inr (.inr (.inr (.inr ⟨rfl,⟨by decide,by decide⟩,rfl,rfl,rfl⟩))),(show(0:Nat)<=32 by omega),(show(0:Nat)<=32 by omega),fun m hm=>(List.not_mem_nil hm).elim,fun k hk=>(List.not_mem_nil hk).elim⟩⟩
  rcases h2 with ⟨hn,_⟩|⟨_,hn,_⟩|⟨_,h8,_,_,s',a,cc,hpl,rfl⟩
  .exact absurd hok hn
  .rw[hs1]at hn;exact absurd (by decide) hn
  .have hF2:=(UW (a:=adZ) hF1 s' a cc h8).fair
   have e:(x2.s.au 1).1=x2.s.more 1:=aeI (k:=1) h8;have hfl:s'.flag=(x2.s.C.length:Int):=congrArg (fun z=>z.2.2.2.1) hpl;have hdn:s'.done=false:=congrArg (fun z=>z.2.2.2.2.2.1) hpl;have hI2:=(hI1.grow 1 fun _=> .fl 0).uY s' (by rw[hfl];exact adQ.new (by simpa using afa x2.s 1 0 (by omega)) rfl) (by rw[hfl];exact ae0 (Int.le_refl _)) hdn (fun W=>s'.In W) a cc;rw[e];rw[e]at hF2;refine⟨⟨_,[]++[s'],hF2,hI2,hc1,fun _=>show List.map ME.plain (x2.cos[0]'(by rw[hc1];decide)).es=[] from by rw[he1];rfl,?_⟩,hw1,fun W hW=>hP1 W hW.1⟩;show[s'.plain]=_
   rw[hpl,hs1];rfl
 .exact absurd (by show(0:Nat)+2<=9;omega) hn
theorem W19.one(h:W19 own b x ms es pk):∃m,ms=[m]/\m.plain=aeS pk:=by
 have hs:=h.sy;have hl:ms.length=1:=by have :=congrArg List.length hs;simpa using this
 match ms,hl,hs with
 |[m],_,hs=>exact⟨m,rfl,by simpa using hs⟩
theorem agA{v:dP}{er:Int}(h:W19 own b x ms es pk)(hx:jo x ms 0 0 v er x'):er=0/\∃u:MT,v.val=(⟨0,0,0,2,u⟩:ME).val/\u.plain= .mk 0 0 []/\W19 own b x' ms es pk/\(∀W,x'.P W->u.In W)/\x'.wb=x.wb/\∀W,x'.P W->x.P W:=by
 obtain⟨m,rfl,hm⟩:=h.one;have pb:m.bases.map MB.plain=[aep.plain]:=congrArg (fun p=>p.2.1) hm;have pl:m.bases.length=1:=by have :=congrArg List.length pb;simpa using this
 have pt:m.thread=0:=congrArg (fun p=>p.1) hm;have pf:m.flag=2:=congrArg (fun p=>p.2.2.2.1) hm;rcases hx with ⟨hn,_⟩|⟨n,hn,hn0,⟨hno,_⟩|⟨j,hj,v',hj0,rfl,hv',rfl,rfl⟩⟩
 .exact absurd ⟨by omega,(show(0:Int)<((1:Nat):Int) by omega)⟩ hn
 .obtain rfl:n=0:=by omega
  refine absurd ⟨by omega,?_⟩ hno;show(0:Int)<(m.bases.length:Int)
  rw[pl];decide
 .obtain rfl:n=0:=by omega
  obtain rfl:j=0:=by omega
  have hvz:v'.plain= .mk 0 0 []:=by
   rw[hv'];have h4:(m.bases.map MB.plain)[0]? =some aep.plain:=by rw[pb];rfl
   rw[List.getElem?_map]at h4;have h5:m.bases[0]? =some m.bases[0]:=List.getElem?_eq_getElem hj;rw[h5]at h4;exact congrArg (fun p=>p.2.2.1) (Option.some.inj h4)
  refine⟨rfl,v',?_,hvz,⟨(bq.knew (a:=adZ) _ h.fair).fair,h.inv.know _,h.co,h.es,h.sy⟩,fun W hW=>hW.2.1,rfl,fun W hW=>hW.1⟩;show dP.val (dP.of 0 m 0 v')=_
  simp only[dP.val,dP.of,ME.val,pt,pf]
def afy:PE:=⟨0,0,0,2,.mk 0 0 []⟩
theorem ahc{er:Int}{e:ME}(h:W19 own b x ms [] pk)(he:e.plain=afy)(hx:nu x 0 e er x'):W19 own (b+1) x' ms [afy] pk/\x'.wb=x.wb/\∀W,x'.P W->x.P W:=by
 have hf:=(yt (a:=adZ) h.fair hx).fair;obtain⟨m,rfl,hm⟩:=h.one;have pb:m.bases.map MB.plain=[aep.plain]:=congrArg (fun p=>p.2.1) hm;have pl:m.bases.length=1:=by have :=congrArg List.length pb;simpa using this
 have hi:=afD h.inv hx ⟨0,by simp,congrArg PE.sync he,by have :=congrArg PE.branch he;rw[show e.branch=e.plain.branch from rfl,this];decide,by have :=congrArg PE.branch he;rw[show e.branch=e.plain.branch from rfl,this];show(0:Int)<(m.bases.length:Int);rw[pl];decide⟩;have hco:=h.co;rcases hx with ⟨hn,_⟩|⟨n,hn,kk,ys,hn0,hys,hr,rfl⟩
 .exact absurd ⟨by omega,by rw[hco];decide⟩ hn
 .obtain rfl:n=0:=by omega
  have hes:=h.es hn;have hl0:x.cos[0].es=[]:=by simpa using hes
  have hok:e.plain.Ok:=by rw[he];exact⟨by decide,by decide,by decide,by decide,.inl rfl⟩
  have hk:kk=1:=by
   rcases hr.2.2.2 with ⟨h5,h6⟩|⟨h5,⟨_,h6⟩|⟨_,_,h6⟩⟩
   .exact h6
   .have :kk=0:=by simpa using h5
    subst this;exact absurd hok h6
   .have h7:kk<1:=h5
    rw[hl0]at h6;simp at h6;omega
  subst hk;refine⟨⟨hf,hi,by simpa[WS.jM]using hco,fun h'=>?_,h.sy⟩,rfl,fun W hW=>hW.1⟩;simp only[WS.jM,List.getElem_set_self,hl0,nAq];rw[hys,he];rfl
theorem ahx{v:Bool}{er:Int}(h:W19 own b x ms es pk)(hx:jk x 0 v er x'):v=true/\er=0/\(∃ms',W19 own (b+1) x' ms' es true)/\x'.wb=x.wb/\∀W,x'.P W->x.P W:=by
 obtain⟨m,rfl,hm⟩:=h.one;have hd:m.done=false:=congrArg (fun p=>p.2.2.2.2.2.1) hm;have hl:x.sys.length=1:=by rw[h.inv.sys];rfl
 rcases hx with ⟨hno,_⟩|⟨n,hn,p,hn0,rfl,hx⟩
 .exact absurd ⟨by omega,by rw[hl];decide⟩ hno
 .obtain rfl:n=0:=by omega
  obtain⟨hmn,ef,hr⟩:=h.inv.flag 0 hn;have h0:x.s.val m.flag=0:=by
   have h1:=h.inv.f2 0 hmn;have h2:=h.inv.fc rfl 0 hmn;have h3:=h.inv.fd 0 hmn;simp only[List.getElem_cons_zero]at h1 h2 h3;rw[hd]at h3;have h4:x.s.val m.flag≠2:=fun e=>by have :=h3.2 e;cases this
   omega
  have ef':x.sys[0].flag=m.flag:=ef;rw[ef']at hx hr;obtain⟨d1,d2,d3,d4⟩:=adv x.s 1 m.flag j6 hr;have hz:fT x.s m.flag=(0,0,(x.s.iw 1 m.flag j6).1):=by
   simp[fT,Ar.load,d2,d4,bE,h0]
  rw[hz]at hx;have ht:abN x.s (x.s.iw 1 m.flag j6).1 m.flag (x.s.val m.flag):=by simpa[j6]using d1
  have hi:=h.inv.tnF 0 hmn rfl ht ⟨by rw[h0];omega,Iff.rfl,fun _=>by rw[h0];omega⟩ (Nat.le_refl _);have hF:=(bq.ar h.fair (eO x.s 1 m.flag j6) aeF).fair;rcases hx with ⟨hno,_⟩|⟨_,rfl,rfl,rfl⟩
  .exact absurd rfl hno
  .obtain⟨_,e1⟩:=yx h.inv.sys 0 hn
   have e2:({x.sys[0]with parked:=(((0:Nat):Int) != 2)}:bL)=MS.raw {m with parked:=true}:=by rw[e1];rfl
   rw[e2];refine⟨rfl,rfl,⟨[m].set 0 {m with parked:=true},aem hF 0 hmn _ (fun W hW=>by have hcc:=hF.good.cont W hW _ (List.getElem_mem hmn);exact hcc),hi.eP 0 hmn _ rfl rfl rfl,h.co,h.es,?_⟩,rfl,fun W hW=>hW⟩;show[MS.plain {m with parked:=true}]=[aeS true]
   simp only[MS.plain,aeS,Prod.mk.injEq]at hm;obtain⟨q1,q2,q3,q4,q5,q6,q7,q8,q9⟩:=hm;simp only[MS.plain,aeS,q1,q2,q3,q4,q6,q7,q8,q9]
end
end Go.Proofs.YtegejdlglonflaaGreatDoor
