/-
  Texts of WorldCopies, laid together by program.
-/
import Derived.Test.YtddnnapoaonmjaaGreatDoorWZ27
namespace Go.Proofs.YtddnnapoaonmjaaGreatDoor
open Go.RowKit Go.Shelf Go.Proofs.Tryz
set_option maxRecDepth 100000
set_option maxHeartbeats 8000000
set_option linter.unusedVariables false
set_option linter.unusedSimpArgs false
structure Eb(x:WS)(ms:List MS)(es:List PE)(s:Ar)(d:Bool):Prop where
 fair:x.Fair ms
 ar:x.s=s
 ch:∃c M q1 q2 l,x.BI=[⟨c,0,M,q1,q2,[],l⟩]/\l.map ME.plain=es
 co:∃c q,x.cos=[⟨c,1,2,q,[]⟩]
 sy:∃y,x.sys=[y]/\y.flag=3/\y.done=d/\y.gm=1
def kA(n:Int):BO:=⟨n,0,0,0,0,ME.zero,none,0,[],none,0,[],MT.zero⟩
theorem may_kA:qB (kA 4):=⟨by decide,by decide,by decide,by decide,by decide,by decide⟩
section
variable {x:WS} {ms:List MS} {es:List PE} {s:Ar} {d:Bool}
theorem Eb.to(h:Eb x ms es s d)(s':Ar)(h1:One x.s s'):Eb (x.ar s') ms es s' d:=
 ⟨(bq.ar (a:=kA 4) h.fair h1 may_kA).fair,rfl,h.ch,h.co,h.sy⟩
theorem Eb.know(h:Eb x ms es s d)(Q:World->Prop):Eb (x.knows Q) ms es s d:=
 ⟨(bq.knew (a:=kA 4) Q h.fair).fair,h.ar,h.ch,h.co,h.sy⟩
theorem Eb.lock(h:Eb x ms es s d):x.fQ 0=rB s (some (dM s 0)):=by
 obtain⟨c,M,q1,q2,l,e,_⟩:=h.ch;unfold WS.fQ;rw[h.ar,e];rfl
theorem Eb.II(h:Eb x ms es s d):x.fQ 1=(false,4,s):=by
 obtain⟨c,M,q1,q2,l,e,_⟩:=h.ch;unfold WS.fQ;rw[h.ar,e];rfl
theorem Eb.unlock(h:Eb x ms es s d):x.eF 0=rE s (some (bY s 0)):=by
 obtain⟨c,M,q1,q2,l,e,_⟩:=h.ch;unfold WS.eF;rw[h.ar,e];rfl
theorem Eb.take(h:Eb x ms es s d):x.gL 0=rF s (some (eu s 3 2)):=by
 obtain⟨y,e,hf,_⟩:=h.sy;unfold WS.gL;rw[h.ar,e];show rF s (some (eu s y.flag 2))=_
 rw[hf]
theorem Eb.fire(h:Eb x ms es s d):x.ja 0=rE s (some (iA s 2)):=by
 obtain⟨c,q,e⟩:=h.co;unfold WS.ja;rw[h.ar,e];rfl
theorem Eb.fired(h:Eb x ms es s d):x.eY 0=rB s (some (fH s 2)):=by
 obtain⟨c,q,e⟩:=h.co;unfold WS.eY;rw[h.ar,e];rfl
theorem Eb.bases(h:Eb x ms es s d):∃m,ms=[m]/\x.sys=[m.raw]/\m.bases.length=1/\m.flag=3/\m.done=d:=by
 obtain⟨y,e,hf,hd,hb⟩:=h.sy;have h1:=h.fair.good.sys;have h2:ms.length=1:=by have :=congrArg List.length h1;rw[e]at this;simpa using this.symm
 match ms,h2,h1 with
 |[m],_,h1=>
  rw[e]at h1;have h3:y=m.raw:=by simpa using h1
  exact⟨m,rfl,by rw[e,h3],by rw[h3]at hb;exact hb,by rw[h3]at hf;exact hf,by rw[h3]at hd;exact hd⟩
end
theorem k_new{wb ga:Nat}{P:World->Prop}(hS:∀W,P W->bJ W):(WS.empty wb ga 8 P).Fair []:=
 ⟨⟨hS,fun W _=>⟨fun c hc=>(List.not_mem_nil hc).elim,fun c hc=>(List.not_mem_nil hc).elim⟩,rfl,fun W _ m hm=>(List.not_mem_nil hm).elim,fun n hn=>(Nat.not_lt_zero _ hn).elim,fun n hn=>(Nat.not_lt_zero _ hn).elim,Nat.zero_le _,Nat.zero_le _,Nat.zero_le _⟩,rfl,(show(0:Nat)<=8 by omega),(show(8:Nat)<=65536 by omega)⟩
theorem k_chan{x x':WS}{v er:Int}(h:x.Fair [])(hs:x.s=⟨[],8,[]⟩)(h1:x.BI=[])(h2:x.cos=[])(h3:x.sys=[])(hp:jG x v er x'):v=0/\er=0/\x'.Fair []/\x'.s=⟨[0],8,[]⟩/\(∃c M q1 q2,x'.BI=[⟨c,0,M,q1,q2,[],[]⟩])/\x'.cos=[]/\x'.sys=[]:=by
 have hf:=(mJ (a:=kA 0) h hp).fair;rcases hp with ⟨_,rfl,rfl,c,M,q1,q2,a,cap,rfl⟩|⟨hn,_⟩
 .refine⟨by rw[h1];rfl,rfl,hf,?_,⟨c,M,q1,q2,?_⟩,h2,h3⟩
  .show(x.s.au 1).1=_
   rw[hs];rfl
  .show x.BI++[_]=_
   rw[h1,hs];rfl
 .rw[hs]at hn;exact absurd (by decide) hn
theorem k_cond{x x':WS}{v er:Int}(h:x.Fair [])(hs:x.s=⟨[0],8,[]⟩)(h1:∃c M q1 q2,x.BI=[⟨c,0,M,q1,q2,[],[]⟩])(h2:x.cos=[])(h3:x.sys=[])(hp:jE x v er x'):v=0/\er=0/\x'.Fair []/\x'.s=⟨[0,0,0],8,[]⟩/\(∃c M q1 q2,x'.BI=[⟨c,0,M,q1,q2,[],[]⟩])/\(∃c q,x'.cos=[⟨c,1,2,q,[]⟩])/\x'.sys=[]:=by
 have hf:=(mF (a:=kA 1) h hp).fair;rcases hp with ⟨_,rfl,rfl,c,q,a,cap,rfl⟩|⟨hn,_⟩
 .refine⟨by rw[h2];rfl,rfl,hf,?_,h1,⟨c,q,?_⟩,h3⟩
  .show(x.s.au 2).1=_
   rw[hs];rfl
  .show x.cos++[_]=_
   rw[h2,hs];rfl
 .rw[hs]at hn;exact absurd (by decide) hn
theorem Bc(c:Int):(fu c).v.E8:=⟨rfl,rfl,rfl⟩
theorem MX{n1 n2:Nat}{c:Int}(h:0<=c/\c<(n1:Int)):eD n1 n2 [] (fu c):=
 ⟨.inr (.inl ⟨rfl,h,Bc c⟩),(show(0:Nat)<=32 by omega),(show(0:Nat)<=32 by omega),fun m hm=>(List.not_mem_nil hm).elim,fun k hk=>(List.not_mem_nil hk).elim⟩
theorem NA{n1 n2:Nat}{c:Int}(h:¬(0<=c/\c<(n1:Int))):¬eD n1 n2 [] (fu c):=by
 rintro⟨hk,_⟩;rcases hk with ⟨h1,_⟩|⟨_,h2,_⟩|⟨h1,_⟩|⟨h1,_⟩|⟨h1,_⟩
 .exact absurd h1 (show ¬(6:Int)=5 by omega)
 .exact h h2
 .exact absurd h1 (show ¬(6:Int)=7 by omega)
 .exact absurd h1 (show ¬(6:Int)=8 by omega)
 .exact absurd h1 (show ¬(6:Int)=13 by omega)
theorem JJ(n:Nat):Ac n []:=⟨fun t h=>(Nat.not_lt_zero _ h).elim,fun s t hs=>(Nat.not_lt_zero _ hs).elim⟩
theorem Mq{x x':WS}{v er:Int}(h:x.Fair [])(hs:x.s=⟨[0,0,0],8,[]⟩)(h1:∃c M q1 q2,x.BI=[⟨c,0,M,q1,q2,[],[]⟩])(h2:∃c q,x.cos=[⟨c,1,2,q,[]⟩])(h3:x.sys=[])(hp:abr x 0 [fu 0] [] v er x'):
  v=0/\er=0/\∃m,Eb x' [m] [] ⟨[0,0,0,0],8,[]⟩ false/\m.plain=(0,[(fu 0).plain],[],3,false,false,0,MT.zero.plain,0):=by
 obtain⟨c,M,q1,q2,e1⟩:=h1;obtain⟨c',q,e2⟩:=h2;have hok:ou x 0 [fu 0] []:=⟨by omega,JJ _,by decide,fun b hb=>by
  obtain rfl:=List.mem_singleton.1 hb;rw[e1,e2];exact MX ⟨by omega,(show(0:Int)<((1:Nat):Int) by omega)⟩⟩
 obtain⟨ms',hst⟩:=kQ (a:=kA 2) h hp;have hf:=hst.fair;rcases hp with ⟨hn,_⟩|⟨_,hn,_⟩|⟨_,h8,rfl,rfl,s',a,cc,hpl,rfl⟩
 .exact absurd hok hn
 .rw[hs]at hn;exact absurd (by decide) hn
 .have hsy:x.sys++[s'.raw]=[s'.raw]:=by rw[h3];rfl
  have hf2:WS.Fair ((WS.knows {x with s:=(x.s.au 1).1} (fun W=>s'.In W)).uY s'.raw a cc) [s']:=by
   have hA:=jO x.s 1 h8;have YM:=h.Hr;have Fj:=h.most;refine⟨⟨fun W hW=>h.good.sides W hW.1,fun W hW=>h.good.vals W hW.1,hsy,fun W hW m hm=>?_,h.good.q1,h.good.q2,h.good.l1,h.good.l2,?_⟩,?_,?_,?_⟩
   .obtain rfl:=List.mem_singleton.1 hm
    exact hW.2
   .show(x.sys++[s'.raw]).length<=_
    rw[hsy];exact(show(1:Nat)<=100000 by omega)
   .show(x.s.au ((1:Nat):Int)).1.C.length=x.BI.length+2*x.cos.length+(x.sys++[s'.raw]).length
    rw[hA];simp;omega
   .show(x.s.au ((1:Nat):Int)).1.C.length<=(x.s.au ((1:Nat):Int)).1.most
    rw[hA];simpa using h8
   .show(x.s.au ((1:Nat):Int)).1.most<=_
    rw[hA];exact Fj
  have p4:s'.flag=3:=by
   have :=congrArg (fun p=>p.2.2.2.1) hpl;rw[hs]at this;exact this
  have p6:s'.done=false:=congrArg (fun p=>p.2.2.2.2.2.1) hpl;have p2:s'.bases.length=1:=by
   have :=congrArg (fun p=>p.2.1.length) hpl;simpa[MS.plain]using this
  refine⟨by rw[h3];rfl,rfl,s',⟨hf2,?_,⟨c,M,q1,q2,[],e1,rfl⟩,⟨c',q,e2⟩,⟨s'.raw,hsy,p4,p6,p2⟩⟩,by rw[hpl,hs];rfl⟩;show(x.s.au 1).1=_
  rw[hs];rfl
theorem Eb.wT{x x':WS}{ms:List MS}{es:List PE}{s:Ar}{d:Bool}{v er:Int}(h:Eb x ms es s d)(hp:abr x 0 [fu 1] [] v er x'):v=0/\er=2/\x'=x:=by
 obtain⟨c,M,q1,q2,l,e1,_⟩:=h.ch;have hno:¬ou x 0 [fu 1] []:=fun hb=>by
  have :=hb.2.2.2 (fu 1) (List.mem_singleton.2 rfl);rw[e1]at this;exact NA (by simp) this
 rcases hp with ⟨_,h1,h2,h3⟩|⟨hok,_⟩|⟨hok,_⟩
 .exact⟨h2,h1,h3⟩
 .exact absurd hok hno
 .exact absurd hok hno
def kE(v:MT):ME:=⟨0,0,0,3,v⟩
def pE:PE:=⟨0,0,0,3,.mk 0 0 []⟩
theorem Eb.entry{x x':WS}{m:MS}{es:List PE}{s:Ar}{d:Bool}{v:dP}{er:Int}(h:Eb x [m] es s d)(hpl:m.plain=(0,[(fu 0).plain],[],3,false,false,0,MT.zero.plain,0))(hp:jo x [m] 0 0 v er x'):
  er=0/\∃u:MT,v.val=(kE u).val/\(kE u).plain=pE/\Eb x' [m] es s d/\(∀W,x'.P W->u.In W)/\x'.wb=x.wb:=by
 have hwb:=vk hp;rcases hp with ⟨hn,_⟩|⟨n,hn,hn0,h2⟩
 .exact absurd ⟨by omega,(show(0:Int)<((1:Nat):Int) by omega)⟩ hn
 .have hn1:n=0:=by omega
  subst hn1;have pb:m.bases.map MB.plain=[(fu 0).plain]:=congrArg (fun p=>p.2.1) hpl;have pl:m.bases.length=1:=by have :=congrArg List.length pb;simpa using this
  have pt:m.thread=0:=congrArg (fun p=>p.1) hpl;have pf:m.flag=3:=congrArg (fun p=>p.2.2.2.1) hpl;rcases h2 with ⟨hno,_⟩|⟨j,hj,v',hj0,rfl,hv',rfl,rfl⟩
  .refine absurd ⟨by omega,?_⟩ hno
   show(0:Int)<(m.bases.length:Int)
   rw[pl];decide
  .have hj1:j=0:=by omega
   subst hj1;have hvz:v'.plain= .mk 0 0 []:=by
    rw[hv'];have h4:(m.bases.map MB.plain)[0]? =some (fu 0).plain:=by rw[pb];rfl
    rw[List.getElem?_map]at h4;have h5:m.bases[0]? =some m.bases[0]:=List.getElem?_eq_getElem hj;rw[h5]at h4;have h6:m.bases[0].plain=(fu 0).plain:=Option.some.inj h4;have h7:=congrArg (fun p=>p.2.2.1) h6;exact h7
   refine⟨rfl,v',?_,?_,h.know _,fun W hW=>hW.2.1,rfl⟩
   .show dP.val (dP.of 0 m 0 v')=_
    simp only[dP.val,dP.of,ME.val,kE,pt,pf]
   .simp only[ME.plain,kE,pE,hvz]
theorem Eb.push{x x':WS}{ms:List MS}{s:Ar}{d:Bool}{e:ME}{er:Int}(h:Eb x ms [] s d)(he:e.plain=pE)(hp:lX x 0 2 e er x'):er=0/\Eb x' ms [pE] s d/\x'.wb=x.wb:=by
 have hwb:=zi hp;have hf:=(mG (a:=kA 8) h.fair hp).fair;obtain⟨c,M,q1,q2,l,e1,hl⟩:=h.ch;have hl0:l=[]:=by simpa using hl
 subst hl0;rcases hp with ⟨hn,_⟩|⟨_,hn,_⟩|⟨n,hn,kk,ys,hn0,hys,h2⟩
 .exact absurd (.inr rfl) hn
 .refine absurd ⟨by omega,?_⟩ hn
  rw[e1];exact(show(0:Int)<((1:Nat):Int) by omega)
 .have hn1:n=0:=by omega
  subst hn1;rcases h2 with ⟨h1,_⟩|⟨_,hr,rfl⟩
  .exact absurd h1 (by decide)
  .have hok:e.plain.Ok:=by rw[he];exact⟨by decide,by decide,by decide,by decide,.inl rfl⟩
   have hes0:x.BI[0].es2=[]:=by simp only[e1,List.getElem_cons_zero]
   have hk:er=0/\kk=1:=by
    rcases hr.2.2.2 with ⟨h5,h6⟩|⟨h5,⟨_,h6⟩|⟨_,_,h6⟩⟩
    .exact⟨h5,h6⟩
    .have :kk=0:=by simpa using h5
     subst this;exact absurd hok h6
    .have h7:kk<1:=h5
     rw[hes0]at h6;simp at h6;omega
   obtain⟨rfl,rfl⟩:=hk;refine⟨rfl,⟨hf,h.ar,⟨c,M,q1,q2,ys,?_,?_⟩,h.co,h.sy⟩,hwb⟩
   .show x.BI.set 0 _=_
    rw[hes0];simp only[e1,List.getElem_cons_zero,sZq,nAq]
   .rw[hys,he];rfl
theorem Eb.peek{x x':WS}{ms:List MS}{s:Ar}{d:Bool}{v:aL}{er:Int}(h:Eb x ms [pE] s d)(hp:j4 x 0 2 0 v er x'):er=0/\v.is=true/\v.sync=0/\Eb x' ms [pE] s d/\x'.wb=x.wb:=by
 have hwb:=zl hp;obtain⟨c,M,q1,q2,l,e1,hl⟩:=h.ch;rcases hp with ⟨hn,_⟩|⟨_,hn,_⟩|⟨n,hn,y,b,hn0,rfl,rfl,h2⟩
 .exact absurd (.inr rfl) hn
 .refine absurd ⟨by omega,?_⟩ hn
  rw[e1];exact(show(0:Int)<((1:Nat):Int) by omega)
 .have hn1:n=0:=by omega
  subst hn1;rcases h2 with ⟨h1,_⟩|⟨_,hr,rfl⟩
  .exact absurd h1 (by decide)
  .have hes:x.BI[0].es2=l:=by simp only[e1,List.getElem_cons_zero]
   rw[hes,hl]at hr;rcases hr with ⟨rfl,_,hg⟩|⟨_,hn,_⟩
   .have hy:pE=y.plain:=by simpa using hg
    have hy2:y.sync=0:=(congrArg PE.sync hy).symm;exact⟨rfl,rfl,hy2,h.know _,rfl⟩
   .exact absurd ⟨by omega,by decide⟩ hn
def five:MT:= .mk 2 5 none 0 []
theorem zm:five.plain.Ok:=by
 refine⟨by decide,?_⟩;simp[five,MT.plain,MT.jD,MT.PT.iZ,MT.PT.iU,Shape]
theorem Eb.commit{x x':WS}{ms:List MS}{es:List PE}{s:Ar}{er:Int}(h:Eb x ms es s false)(hp:gN x 0 0 five (-1) er x'):er=0/\(∃ms',Eb x' ms' es s true)/\x'.wb=x.wb:=by
 have hwb:=rM hp;obtain⟨ms',hst⟩:=jS (a:=kA 20) h.fair rfl hp;have hf:=hst.fair;obtain⟨y,e,hfl,hd,hb⟩:=h.sy;rcases hp with ⟨hn,_⟩|⟨n,hn,hn0,h2⟩
 .refine absurd ⟨by omega,?_⟩ hn
  rw[e];exact(show(0:Int)<((1:Nat):Int) by omega)
 .have hn1:n=0:=by omega
  subst hn1;have e0:x.sys[0]=y:=by simp only[e,List.getElem_cons_zero]
  rw[e0]at h2;have hargs:(0<=(0:Int)/\(0:Int)<(y.gm:Int))/\five.plain.Ok/\(-1<=(-1:Int)/\(-1:Int)<(x.sys.length:Int)):=⟨⟨by omega,by rw[hb];decide⟩,zm,by omega,by omega⟩;rcases h2 with ⟨hno,_⟩|⟨_,⟨hdd,_⟩|⟨_,rfl,v',_,rfl⟩⟩
  .exact absurd hargs hno
  .rw[hd]at hdd;exact absurd hdd (by decide)
  .refine⟨rfl,⟨ms',hf,h.ar,h.ch,h.co,⟨y.qN 0 v' (-1),?_,hfl,rfl,hb⟩⟩,hwb⟩
   show x.sys.set 0 _=_
   rw[e];rfl
theorem Eb.uh{x x':WS}{ms:List MS}{es:List PE}{s:Ar}{er:Int}(h:Eb x ms es s true)(hp:gN x 0 0 five (-1) er x'):er=160/\x'=x:=by
 obtain⟨y,e,hfl,hd,hb⟩:=h.sy;rcases hp with ⟨hn,_⟩|⟨n,hn,hn0,h2⟩
 .refine absurd ⟨by omega,?_⟩ hn
  rw[e];exact(show(0:Int)<((1:Nat):Int) by omega)
 .have hn1:n=0:=by omega
  subst hn1;have e0:x.sys[0]=y:=by simp only[e,List.getElem_cons_zero]
  rw[e0]at h2;have hargs:(0<=(0:Int)/\(0:Int)<(y.gm:Int))/\five.plain.Ok/\(-1<=(-1:Int)/\(-1:Int)<(x.sys.length:Int)):=⟨⟨by omega,by rw[hb];decide⟩,zm,by omega,by omega⟩;rcases h2 with ⟨hno,_⟩|⟨_,⟨_,h5,h6⟩|⟨hdd,_⟩⟩
  .exact absurd hargs hno
  .exact⟨h5,h6⟩
  .rw[hd]at hdd;exact absurd hdd (by decide)
theorem Eb.park{x x':WS}{ms:List MS}{es:List PE}{s s':Ar}{d v:Bool}{er:Int}(h:Eb x ms es s d)(hl:fT s 3=(2,0,s'))(hp:jk x 0 v er x'):v=false/\er=0/\(∃ms',Eb x' ms' es s' d)/\x'.wb=x.wb:=by
 have hwb:=zG hp;obtain⟨ms',hst⟩:=mI (a:=kA 21) h.fair rfl hp;have hf:=hst.fair;obtain⟨y,e,hfl,hd,hb⟩:=h.sy;rcases hp with ⟨hn,_⟩|⟨n,hn,r,hn0,hr,h2⟩
 .refine absurd ⟨by omega,?_⟩ hn
  rw[e];exact(show(0:Int)<((1:Nat):Int) by omega)
 .have hn1:n=0:=by omega
  subst hn1;have e0:x.sys[0]=y:=by simp only[e,List.getElem_cons_zero]
  rw[e0]at h2;rw[e0,h.ar,hfl,hl]at hr;subst hr;rcases h2 with ⟨hno,_⟩|⟨_,rfl,rfl,rfl⟩
  .exact absurd rfl hno
  .refine⟨rfl,rfl,⟨ms',hf,rfl,h.ch,h.co,⟨{y with parked:=false},?_,hfl,hd,hb⟩⟩,hwb⟩
   show x.sys.set 0 _=_
   rw[e];rfl
def KS(T:List Nat)(w0 w:World)(wb:Nat)(P0:World->Prop)(es:List PE)(s:Ar)(d:Bool)(r:List ai):Prop:=∃(x:WS) (ms:List MS),x.wb=wb/\Eb x ms es s d/\(∀W,x.P W->P0 W)/\BD T w0 w (x.ts++r)
section
variable {T:List Nat} {w0 w w':World} {wb:Nat} {P0 Q:World->Prop} {es:List PE} {s s':Ar} {d:Bool} {r:List ai}
theorem KS.al(h:KS T w0 w wb P0 es s d r){cs:Array Value}{t:Nat}(e:w.alloc (.cells cs t)=w'):KS T w0 w' wb P0 es s d (r++[box w.heap.size t cs]):=by
 obtain⟨x,ms,h1,h2,h3,h4⟩:=h;exact⟨x,ms,h1,h2,h3,h4.av e⟩
theorem KS.toW(h:KS T w0 w wb P0 es s d r)(e:w=w'):KS T w0 w' wb P0 es s d r:=e▸h
theorem KS.touch(h:KS T w0 w wb P0 es s d r)(ht:Touch [] w w'):KS T w0 w' wb P0 es s d r:=by
 obtain⟨x,ms,h1,h2,h3,h4⟩:=h;exact⟨x,ms,h1,h2,h3,h4.touch ht⟩
theorem KS.set(h:KS T w0 w wb P0 es s d r)(i:Nat){b t:Nat}{cs:Array Value}(hi:r[i]? =some (box b t cs))(j:Nat)(v:Value):KS T w0 (w.setCell ⟨b,j,none⟩ v) wb P0 es s d (r.set i (box b t (cs.setIfInBounds j v))):=by
 obtain⟨x,ms,h1,h2,h3,h4⟩:=h;exact⟨x,ms,h1,h2,h3,h4.af i hi j v⟩
theorem KS.box(h:KS T w0 w wb P0 es s d r)(i:Nat){b t:Nat}{cs:Array Value}(hi:r[i]? =some (Proofs.YtddnnapoaonmjaaGreatDoor.box b t cs)):Cg w b t cs:=by
 obtain⟨x,ms,h1,h2,h3,h4⟩:=h;exact h4.aC i hi
theorem KS.ne(h:KS T w0 w wb P0 es s d r)(i j:Nat){b b' t t':Nat}{cs cs':Array Value}(hi:r[i]? =some (Proofs.YtddnnapoaonmjaaGreatDoor.box b t cs))(hj:r[j]? =some (Proofs.YtddnnapoaonmjaaGreatDoor.box b' t' cs'))(hij:i≠j):b≠b':=by
 obtain⟨x,ms,h1,h2,h3,h4⟩:=h;exact h4.bN i j hi hj hij
theorem KS.drew(h:KS T w0 w wb P0 es s d r):KS T w0 w.drew wb P0 es s d r:=by
 obtain⟨x,ms,h1,h2,h3,h4⟩:=h;exact⟨x,ms,h1,h2,h3,h4.drew⟩
theorem KS.now(h:KS T w0 w wb P0 es s d r):P0 w:=by
 obtain⟨x,ms,h1,h2,h3,h4⟩:=h;exact h3 w (h4.still 2 rfl)
theorem KS.BN(h:KS T w0 w wb P0 es s d r)(ho:∀W,P0 W->Gi w0 W):Touch [] w0 w:=by
 have hn:=h.now;obtain⟨x,ms,h1,h2,h3,h4⟩:=h;exact h4.lg (ho _ hn)
theorem KS.lock(h:KS T w0 w wb P0 es s d r)(hn:s.L.length<1000000)(v:Bool)(er:Int)(h1:rB s (some (dM s 0))=(v,er,s')):Calls prog 24 #[wb,()] w fun e w'=>e= .returned (.tuple #[v,er])/\KS T w0 w' wb P0 es s' d r:=by
 obtain⟨x,ms,rfl,hK,hP,hL⟩:=h;have hr:x.fQ 0=_:=(hK.lock).trans h1;obtain⟨T',hF,hb⟩:=hL.aN;refine(ul T' w x 0 hF (by rw[hK.ar];exact hn)).mono ?_;rintro e w' ⟨rfl,hL'⟩;have ho:=mW x 0;rw[hr]at hL' ho|-;exact⟨rfl,x.ar s',ms,rfl,hK.to s' ho,hP,hb _ _ hL'⟩
theorem KS.unlock(h:KS T w0 w wb P0 es s d r)(hn:s.L.length<1000000)(er:Int)(h1:rE s (some (bY s 0))=(er,s')):Calls prog 25 #[wb,()] w fun e w'=>e= .returned (.int .i64 er)/\KS T w0 w' wb P0 es s' d r:=by
 obtain⟨x,ms,rfl,hK,hP,hL⟩:=h;have hr:x.eF 0=_:=(hK.unlock).trans h1;obtain⟨T',hF,hb⟩:=hL.aN;refine(vP T' w x 0 hF (by rw[hK.ar];exact hn)).mono ?_;rintro e w' ⟨rfl,hL'⟩;have ho:=pV x 0;rw[hr]at hL' ho|-;exact⟨rfl,x.ar s',ms,rfl,hK.to s' ho,hP,hb _ _ hL'⟩
theorem KS.take(h:KS T w0 w wb P0 es s d r)(hn:s.L.length<1000000)(v er:Int)(h1:rF s (some (eu s 3 2))=(v,er,s')):Calls prog 37 #[wb,()] w fun e w'=>e= .returned (.tuple #[v,er])/\KS T w0 w' wb P0 es s' d r:=by
 obtain⟨x,ms,rfl,hK,hP,hL⟩:=h;have hr:x.gL 0=_:=(hK.take).trans h1;obtain⟨T',hF,hb⟩:=hL.aN;refine(J3 T' w x 0 hF (by rw[hK.ar];exact hn)).mono ?_;rintro e w' ⟨rfl,hL'⟩;have ho:=wu x 0;rw[hr]at hL' ho|-;exact⟨rfl,x.ar s',ms,rfl,hK.to s' ho,hP,hb _ _ hL'⟩
theorem KS.fire(h:KS T w0 w wb P0 es s d r)(hn:s.L.length<1000000)(er:Int)(h1:rE s (some (iA s 2))=(er,s')):Calls prog 32 #[wb,()] w fun e w'=>e= .returned (.int .i64 er)/\KS T w0 w' wb P0 es s' d r:=by
 obtain⟨x,ms,rfl,hK,hP,hL⟩:=h;have hr:x.ja 0=_:=(hK.fire).trans h1;obtain⟨T',hF,hb⟩:=hL.aN;refine(Kh T' w x 0 hF (by rw[hK.ar];exact hn)).mono ?_;rintro e w' ⟨rfl,hL'⟩;have ho:=vv x 0;rw[hr]at hL' ho|-;exact⟨rfl,x.ar s',ms,rfl,hK.to s' ho,hP,hb _ _ hL'⟩
theorem KS.fired(h:KS T w0 w wb P0 es s d r)(hn:s.L.length<1000000)(v:Bool)(er:Int)(h1:rB s (some (fH s 2))=(v,er,s')):Calls prog 31 #[wb,()] w fun e w'=>e= .returned (.tuple #[v,er])/\KS T w0 w' wb P0 es s' d r:=by
 obtain⟨x,ms,rfl,hK,hP,hL⟩:=h;have hr:x.eY 0=_:=(hK.fired).trans h1;obtain⟨T',hF,hb⟩:=hL.aN;refine(zJ T' w x 0 hF (by rw[hK.ar];exact hn)).mono ?_;rintro e w' ⟨rfl,hL'⟩;have ho:=si x 0;rw[hr]at hL' ho|-;exact⟨rfl,x.ar s',ms,rfl,hK.to s' ho,hP,hb _ _ hL'⟩
theorem KS.II(h:KS T w0 w wb P0 es s d r)(hn:s.L.length<1000000):Calls prog 24 #[wb,(1:Int)] w fun e w'=>e= .returned (.tuple #[false,(4:Int)])/\KS T w0 w' wb P0 es s d r:=by
 obtain⟨x,ms,rfl,hK,hP,hL⟩:=h;have hr:=hK.II;obtain⟨T',hF,hb⟩:=hL.aN;refine(ul T' w x 1 hF (by rw[hK.ar];exact hn)).mono ?_;rintro e w' ⟨rfl,hL'⟩;have ho:=mW x 1;rw[hr]at hL' ho|-;exact⟨rfl,x.ar s,ms,rfl,hK.to s ho,hP,hb _ _ hL'⟩
theorem KS.push(h:KS T w0 w wb P0 es s d r)(e:ME)(he:e.plain=pE)(hv:∀W,P0 W->e.v.In W)(hes:es=[]):Calls prog 28 #[wb,(),(2:Int),e.val] w fun e' w'=>e'= .returned (.int .i64 0)/\KS T w0 w' wb P0 [pE] s d r:=by
 subst hes;obtain⟨x,ms,rfl,hK,hP,hL⟩:=h;obtain⟨T',hF,hb⟩:=hL.aN;refine(KW T' w x 0 2 e hF hK.fair.good.sides (fun W hW=>hv W (hP W hW)) hK.fair.good.q1).mono ?_;rintro e' w' ⟨er,x',rfl,hp,hL'⟩;have hk:=(mG (a:=kA 8) hK.fair hp).knows;obtain⟨rfl,hK',hwb⟩:=hK.push he hp;exact⟨rfl,x',ms,hwb,hK',fun W hW=>hP W (hk W hW),hb _ _ hL'⟩
theorem KS.peek(h:KS T w0 w wb P0 es s d r)(hes:es=[pE]):Calls prog 26 #[wb,(),(2:Int),()] w fun e w'=>(∃(t b f k n:Int) (a:Option Addr) (l c:Nat),e= .returned (.tuple #[.agg #[(),t,b,f,k,n,.slice a l c],true,()]))/\KS T w0 w' wb P0 [pE] s d r:=by
 subst hes;obtain⟨x,ms,rfl,hK,hP,hL⟩:=h;obtain⟨T',hF,hb⟩:=hL.aN;refine(KC T' w x 0 2 0 hF hK.fair.good.sides hK.fair.good.vals).mono ?_;rintro e w' ⟨v,er,x',rfl,hp,hL'⟩;have hk:=(qd (a:=kA 6) hK.fair hp).knows;obtain⟨rfl,hi,hs,hK',hwb⟩:=hK.peek hp;exact⟨⟨_,_,_,_,_,_,_,_,by unfold aL.ent;rw[hi,hs]⟩,x',ms,hwb,hK',fun W hW=>hP W (hk W hW),hb _ _ hL'⟩
theorem KS.park(h:KS T w0 w wb P0 es s d r)(hn:s.L.length<1000000)(h1:fT s 3=(2,0,s')):Calls prog 41 #[wb,()] w fun e w'=>e= .returned (.tuple #[false,()])/\KS T w0 w' wb P0 es s' d r:=by
 obtain⟨x,ms,rfl,hK,hP,hL⟩:=h;obtain⟨T',hF,hb⟩:=hL.aN;refine(Jz T' w x 0 hF (by rw[hK.ar];exact hn)).mono ?_;rintro e w' ⟨v,er,x',rfl,hp,hL'⟩;obtain⟨msq,hst⟩:=mI (a:=kA 21) hK.fair rfl hp;obtain⟨rfl,rfl,⟨ms',hK'⟩,hwb⟩:=hK.park h1 hp;exact⟨rfl,x',ms',hwb,hK',fun W hW=>hP W (hst.knows W hW),hb _ _ hL'⟩
theorem KS.commit(h:KS T w0 w wb P0 es s d r)(hd:d=false):Calls prog 40 #[wb,(),(),.agg #[(2:Int),(5:Int),True],.int .i64 (-1)] w fun e w'=>e= .returned (.int .i64 0)/\KS T w0 w' wb P0 es s true r:=by
 subst hd;obtain⟨x,ms,rfl,hK,hP,hL⟩:=h;obtain⟨T',hF,hb⟩:=hL.aN;refine(qz T' w x 0 0 five (-1) hF (fun W _=>?_) (by have :=hK.fair.good.l3;omega)).mono ?_
 .exact⟨⟨by decide,fun i hi=>(Nat.not_lt_zero _ hi).elim⟩,MT.lU.2 (fun t ht=>(List.not_mem_nil ht).elim)⟩
 rintro e w' ⟨er,x',rfl,hp,hL'⟩;obtain⟨msq,hst⟩:=jS (a:=kA 20) hK.fair rfl hp;obtain⟨rfl,⟨ms',hK'⟩,hwb⟩:=hK.commit hp;exact⟨rfl,x',ms',hwb,hK',fun W hW=>hP W (hst.knows W hW),hb _ _ hL'⟩
theorem KS.uh(h:KS T w0 w wb P0 es s d r)(hd:d=true):Calls prog 40 #[wb,(),(),.agg #[(2:Int),(5:Int),True],.int .i64 (-1)] w fun e w'=>e= .returned (.int .i64 160)/\KS T w0 w' wb P0 es s true r:=by
 subst hd;obtain⟨x,ms,rfl,hK,hP,hL⟩:=h;obtain⟨T',hF,hb⟩:=hL.aN;refine(qz T' w x 0 0 five (-1) hF (fun W _=>?_) (by have :=hK.fair.good.l3;omega)).mono ?_
 .exact⟨⟨by decide,fun i hi=>(Nat.not_lt_zero _ hi).elim⟩,MT.lU.2 (fun t ht=>(List.not_mem_nil ht).elim)⟩
 rintro e w' ⟨er,x',rfl,hp,hL'⟩;obtain⟨rfl,rfl⟩:=hK.uh hp;exact⟨rfl,x',ms,rfl,hK,hP,hb _ _ hL'⟩
theorem KS.wT(h:KS T w0 w wb P0 es s d r)(ba:Option Addr)(bc:Nat)(hA:∀W,P0 W->iJ W ba [fu 1] none []):Calls prog 23 #[wb,(),.slice ba 1 bc,True] w fun e w'=>e= .returned (.tuple #[(),(2:Int)])/\KS T w0 w' wb P0 es s d r:=by
 obtain⟨x,ms,rfl,hK,hP,hL⟩:=h;obtain⟨T',hF,hb⟩:=hL.aN;refine(uo T' w x 0 ba [fu 1] bc none [] 0 hF (fun W hW=>hA W (hP W hW)) hK.fair.good.l3).mono ?_;rintro e w' ⟨v,er,x',rfl,hp,hL'⟩;obtain⟨rfl,rfl,rfl⟩:=hK.wT hp;exact⟨rfl,x',ms,rfl,hK,hP,hb _ _ hL'⟩
theorem KS.know(h:KS T w0 w wb P0 es s d r)(hj:BD [] w w' [aA Q]):KS T w0 w' wb (fun W=>P0 W/\Q W) es s d r:=by
 obtain⟨x,ms,rfl,hK,hP,hL⟩:=h;exact⟨x.knows Q,ms,rfl,hK.know Q,fun W hW=>⟨hP W hW.1,hW.2⟩,(hL.join hj).settle 2 rfl (fun W f hp hf=>⟨hp,hf.2 W (fun _ _=>rfl)⟩)⟩
end
def KE(T:List Nat)(w0 w:World)(wb:Nat)(P0:World->Prop)(s:Ar)(r:List ai):Prop:=∃(x:WS) (m:MS),x.wb=wb/\Eb x [m] [] s false/\m.plain=(0,[(fu 0).plain],[],3,false,false,0,MT.zero.plain,0)/\(∀W,x.P W->P0 W)/\BD T w0 w (x.ts++r)
section
variable {T:List Nat} {w0 w w':World} {wb:Nat} {P0:World->Prop} {s s':Ar} {r:List ai}
theorem KE.lock(h:KE T w0 w wb P0 s r)(hn:s.L.length<1000000)(v:Bool)(er:Int)(h1:rB s (some (dM s 0))=(v,er,s')):Calls prog 24 #[wb,()] w fun e w'=>e= .returned (.tuple #[v,er])/\KE T w0 w' wb P0 s' r:=by
 obtain⟨x,m,rfl,hK,hpl,hP,hL⟩:=h;have hr:x.fQ 0=_:=(hK.lock).trans h1;obtain⟨T',hF,hb⟩:=hL.aN;refine(ul T' w x 0 hF (by rw[hK.ar];exact hn)).mono ?_;rintro e w' ⟨rfl,hL'⟩;have ho:=mW x 0;rw[hr]at hL' ho|-;exact⟨rfl,x.ar s',m,rfl,hK.to s' ho,hpl,hP,hb _ _ hL'⟩
theorem KE.cells(h:KE T w0 w wb P0 s r):Calls prog 12 #[wb] w fun e w'=>e= .returned (.tuple #[(s.C.length:Int),.int .u64 (s.L.length:Int)])/\KE T w0 w' wb P0 s r:=by
 obtain⟨x,m,rfl,hK,hpl,hP,hL⟩:=h;refine hL.wQ.mono ?_;rintro e w' ⟨rfl,ht⟩;exact⟨by rw[hK.ar],x,m,rfl,hK,hpl,hP,hL.touch ht⟩
theorem KE.entry(h:KE T w0 w wb P0 s r):Calls prog 43 #[wb,(),()] w fun e w'=>∃u:MT,e= .returned (.tuple #[.agg #[(),(),(),(3:Int),u.kind,u.num,.slice u.addr u.parts.length u.cap],()])/\(kE u).plain=pE/\KS T w0 w' wb (fun W=>P0 W/\u.In W) [] s false r:=by
 obtain⟨x,m,rfl,hK,hpl,hP,hL⟩:=h;obtain⟨T',hF,hb⟩:=hL.aN;refine(zn T' w x [m] 0 0 hF hK.fair.good.sys hK.fair.good.cont).mono ?_;rintro e w' ⟨v,er,x',rfl,hp,hL'⟩;have hk:=(oL (a:=kA 23) hK.fair hp).knows;obtain⟨rfl,u,hv,hu,hK',hin,hwb⟩:=hK.entry hpl hp;exact⟨u,by rw[hv];rfl,hu,x',[m],hwb,hK',fun W hW=>⟨hP W (hk W hW),hin W hW⟩,hb _ _ hL'⟩
end
def KN(n:Nat)(T:List Nat)(w0 w:World)(wb:Nat)(P0:World->Prop):Prop:=∃(x:WS),x.wb=wb/\x.Fair []/\x.s=⟨List.replicate n 0,8,[]⟩/\(if n=0 then x.BI=[]else ∃c M q1 q2,x.BI=[⟨c,0,M,q1,q2,[],[]⟩])/\(if n<=1 then x.cos=[]else ∃c q,x.cos=[⟨c,1,2,q,[]⟩])/\x.sys=[]/\(∀W,x.P W->P0 W)/\BD T w0 w x.ts
section
variable {T:List Nat} {w0 w w':World} {wb:Nat} {P0:World->Prop}
theorem KN.chan(h:KN 0 T w0 w wb P0):Calls prog 21 #[wb] w fun e w'=>e= .returned (.tuple #[(),()])/\KN 1 T w0 w' wb P0:=by
 obtain⟨x,rfl,hF,hs,h1,h2,h3,hP,hL⟩:=h;obtain⟨T',hF',hb⟩:=BD.aN (r:=[]) (by rw[List.append_nil];exact hL);refine(IA T' w x hF' hF.good.sides (by have :=hF.good.l1;omega)).mono ?_;rintro e w' ⟨v,er,x',rfl,hp,hL'⟩;have hk:=(mJ (a:=kA 0) hF hp).knows;have hwb:=zH hp;obtain⟨rfl,rfl,g1,g2,g3,g4,g5⟩:=k_chan hF hs h1 h2 h3 hp;exact⟨rfl,x',hwb,g1,g2,g3,g4,g5,fun W hW=>hP W (hk W hW),by have :=hb _ _ hL';rwa[List.append_nil]at this⟩
theorem KN.cond(h:KN 1 T w0 w wb P0):Calls prog 22 #[wb] w fun e w'=>e= .returned (.tuple #[(),()])/\KN 3 T w0 w' wb P0:=by
 obtain⟨x,rfl,hF,hs,h1,h2,h3,hP,hL⟩:=h;obtain⟨T',hF',hb⟩:=BD.aN (r:=[]) (by rw[List.append_nil];exact hL);refine(Lc T' w x hF' (by have :=hF.good.l2;omega)).mono ?_;rintro e w' ⟨v,er,x',rfl,hp,hL'⟩;have hk:=(mF (a:=kA 1) hF hp).knows;have hwb:=yQ hp;obtain⟨rfl,rfl,g1,g2,g3,g4,g5⟩:=k_cond hF hs h1 h2 h3 hp;exact⟨rfl,x',hwb,g1,g2,g3,g4,g5,fun W hW=>hP W (hk W hW),by have :=hb _ _ hL';rwa[List.append_nil]at this⟩
theorem KN.know(h:KN 3 T w0 w wb P0){Q:World->Prop}{w':World}(hj:BD [] w w' [aA Q]):KN 3 T w0 w' wb (fun W=>P0 W/\Q W):=by
 obtain⟨x,rfl,hF,hs,h1,h2,h3,hP,hL⟩:=h;exact⟨x.knows Q,rfl,(bq.knew (a:=kA 4) Q hF).fair,hs,h1,h2,h3,fun W hW=>⟨hP W hW.1,hW.2⟩,(hL.join hj).settle 2 rfl (fun W f hp hf=>⟨hp,hf.2 W (fun _ _=>rfl)⟩)⟩
theorem KN.begin(h:KN 3 T w0 w wb P0)(ba:Option Addr)(bc:Nat)(hA:∀W,P0 W->iJ W ba [fu 0] none []):Calls prog 23 #[wb,(),.slice ba 1 bc,True] w fun e w'=>e= .returned (.tuple #[(),()])/\KE T w0 w' wb P0 ⟨[0,0,0,0],8,[]⟩ []:=by
 obtain⟨x,rfl,hF,hs,h1,h2,h3,hP,hL⟩:=h;obtain⟨T',hF',hb⟩:=BD.aN (r:=[]) (by rw[List.append_nil];exact hL);refine(uo T' w x 0 ba [fu 0] bc none [] 0 hF' (fun W hW=>hA W (hP W hW)) (by rw[h3];exact Nat.zero_le _)).mono ?_;rintro e w' ⟨v,er,x',rfl,hp,hL'⟩;obtain⟨msq,hst⟩:=kQ (a:=kA 2) hF hp;have hwb:=vC hp;obtain⟨rfl,rfl,m,g1,g2⟩:=Mq hF hs h1 h2 h3 hp;exact⟨rfl,x',m,hwb,g1,g2,fun W hW=>hP W (hst.knows W hW),hb _ _ hL'⟩
end
def Oa(w:World)(W:World):Prop:=Gi w W/\bJ W
def R16(a:Option Addr)(c:Int)(W:World):Prop:=aG W a 7 1 ([fu c].flatMap MB.cells)/\∀b∈[fu c],b.Mem W
theorem R16.args{a:Option Addr}{c:Int}{W:World}(h:R16 a c W):iJ W a [fu c] none []:=⟨⟨h.1,h.2⟩,⟨by decide,fun i hi=>(Nat.not_lt_zero _ hi).elim⟩⟩
theorem pu(w:World)(hS:bJ w):Calls prog 7 #[] w fun e w'=>e= .returned (.bool true)/\Touch [] w w':=by
 have BG:=hdq ((BD.old0 w).weaken (Q:=Oa w) 0 rfl (fun W ho=>⟨ho,hS.qO ho⟩));simp only[sZq]at BG;generalize hTT:List.range w.heap.size=T at BG;go_enter func7,ntmps7
 go_wp2_with fail
 refine(OU T w (Oa w) 8 (by decide) (by decide) BG.o).mono ?_;rintro e w1 ⟨wb,ga,rfl,hL⟩;have O3:Hid (KN 0 T w w1 wb (Oa w)):=hdq ⟨WS.empty wb ga 8 _,rfl,k_new (fun W h=>h.2),rfl,rfl,rfl,rfl,fun W h=>h,hL⟩;go_wp2_with fail
 refine(O3.o.chan).mono ?_;rintro e w2 ⟨rfl,hL⟩;have HK2:=hdq hL;go_wp2_with fail
 refine(HK2.o.cond).mono ?_;rintro e w3 ⟨rfl,hL⟩;have HK3:=hdq hL;go_wp2_with fail
 refine(Jc _ 0).mono ?_;rintro e w4 ⟨a0,rfl,hj⟩;have HK4:=hdq (HK3.o.know (Q:=R16 a0 0) hj);go_wp2_with fail
 refine(HK4.o.begin a0 1 (fun W hW=>hW.2.args)).mono ?_;rintro e w5 ⟨rfl,hL⟩;have HK5:=hdq hL;go_wp2_with fail
 refine(HK5.o.cells).mono ?_;rintro e w6 ⟨he,hL⟩;obtain rfl:e= .returned (.tuple #[(4:Int),.int .u64 0]):=he;have HK6:=hdq hL;go_wp2_with fail
 refine(bQ _ _).mono ?_;rintro e wn ⟨rfl,rfl⟩;go_wp2_with fail
 refine(bQ _ _).mono ?_;rintro e wn ⟨rfl,rfl⟩;go_wp2_with fail
 refine(bQ _ _).mono ?_;rintro e wn ⟨rfl,rfl⟩;go_wp2_with fail
 refine(bQ _ _).mono ?_;rintro e wn ⟨rfl,rfl⟩;go_wp2_with fail
 refine(HK6.o.lock (s':=⟨[1,0,0,0],8,[⟨3,0,0,1,true⟩]⟩) (by decide) true 0 (by kernel_rfl)).mono ?_;rintro e w7 ⟨rfl,hL⟩;have HK7:=hdq hL;go_wp2_with fail
 refine(HK7.o.lock (s':=⟨[1,0,0,0],8,[⟨3,0,0,1,true⟩,⟨3,0,1,1,false⟩]⟩) (by decide) false 0 (by kernel_rfl)).mono ?_;rintro e w8 ⟨rfl,hL⟩;have HK8:=hdq hL;go_wp2_with fail
 refine(HK8.o.entry).mono ?_;rintro e w9 ⟨u,rfl,hu,hL⟩;have HU:=hdq hu;have HK9:=hdq hL;go_upto_region 11 with fail
 refine ay ?_;intro GL hw;have J9:=hdq (HK9.o.al hw);simp only[nAq,cAq]at J9;generalize hb:w9.heap.size=bz at J9|-;obtain⟨xx,mm,_,_,_,F5⟩:=J9.o;obtain⟨z0,z1,z2,z3,z4,z5,z6,_,zz,_,_⟩:=F5.C9 0 rfl;go_wp2_with fail
 refine(J9.o.push (kE u) HU.o (fun W hW=>hW.2) rfl).mono ?_;rintro e w11 ⟨rfl,hL⟩;have HK11:=hdq hL;go_wp2_with fail
 refine(HK11.o.peek rfl).mono ?_;rintro e LQ ⟨⟨pt,pb,pf,pk,pn,pa,pl,pc,rfl⟩,hL⟩;have HK12:=hdq hL;go_upto_region 13 with fail
 refine ay ?_;intro w13 hw;have NN:=hdq (HK12.o.al hw);simp only[nAq,cAq]at NN;generalize hb:LQ.heap.size=bp at NN|-;go_wp2_with fail
 refine(NN.o.unlock (s':=⟨[0,0,0,0],8,[⟨3,0,0,1,true⟩,⟨3,0,1,1,false⟩,⟨3,0,1,0,true⟩]⟩) (by decide) 0 (by kernel_rfl)).mono ?_;rintro e w14 ⟨rfl,hL⟩;have HK14:=hdq hL;go_wp2_with fail
 refine(HK14.o.unlock (s':=⟨[0,0,0,0],8,[⟨3,0,0,1,true⟩,⟨3,0,1,1,false⟩,⟨3,0,1,0,true⟩,⟨3,0,0,0,false⟩]⟩) (by decide) 30 (by kernel_rfl)).mono ?_;rintro e w15 ⟨rfl,hL⟩;have HK15:=hdq hL;obtain⟨xx,mm,_,_,_,F5⟩:=HK15.o;obtain⟨p0,p1,p2,p3,p4,p5,p6,_,zp,_,_⟩:=F5.C9 1 rfl;go_wp2_with fail
 refine(bQ _ _).mono ?_;rintro e wn ⟨rfl,rfl⟩;go_wp2_with fail
 refine(bQ _ _).mono ?_;rintro e wn ⟨rfl,rfl⟩;go_wp2_with fail
 refine(bQ _ _).mono ?_;rintro e wn ⟨rfl,rfl⟩;go_wp2_with fail
 refine(bQ _ _).mono ?_;rintro e wn ⟨rfl,rfl⟩;go_wp2_with fail
 refine(bQ _ _).mono ?_;rintro e wn ⟨rfl,rfl⟩;go_wp2_with fail
 refine(bQ _ _).mono ?_;rintro e wn ⟨rfl,rfl⟩;go_wp2_with fail
 refine(bQ _ _).mono ?_;rintro e wn ⟨rfl,rfl⟩;go_wp2_with fail
 refine(HK15.o.take (s':=⟨[0,0,0,2],8,[⟨3,0,0,1,true⟩,⟨3,0,1,1,false⟩,⟨3,0,1,0,true⟩,⟨3,0,0,0,false⟩,⟨3,3,0,2,true⟩]⟩) (by decide) 0 0 (by kernel_rfl)).mono ?_;rintro e w16 ⟨rfl,hL⟩;have HK16:=hdq hL;go_wp2_with fail
 refine(HK16.o.take (s':=⟨[0,0,0,2],8,[⟨3,0,0,1,true⟩,⟨3,0,1,1,false⟩,⟨3,0,1,0,true⟩,⟨3,0,0,0,false⟩,⟨3,3,0,2,true⟩,⟨3,3,2,2,false⟩]⟩) (by decide) 2 0 (by kernel_rfl)).mono ?_;rintro e w17 ⟨rfl,hL⟩;have HK17:=hdq hL;have hbe:∀W,(Instr.build 45 #[(0,.int .i64 2),(1,.int .i64 5)]).run prog W= .ok (.agg #[(2:Int),(5:Int),True]) W:=fun W=>run_build W 45 _ _ (by kernel_rfl);go_upto_region 19 with fail
 refine ay ?_;intro w18 hw;have NC:=hdq (HK17.o.al hw);simp only[nAq,cAq]at NC;generalize hb:w17.heap.size=bf at NC|-;have HKd:=hdq NC.o.drew;obtain⟨xx,mm,_,_,_,F5⟩:=HKd.o;obtain⟨v0,v1,v2,_,_,_,zv,_,_⟩:=F5.at3 2 rfl;refine hrq (S:=fun w'=>w'.cell? ⟨bf,0,none⟩=some (.int .i64 2)/\w'.cell? ⟨bf,1,none⟩=some (.int .i64 5)/\w'.cell? ⟨bf,2,none⟩=some (.slice none 0 0)) fun hHeld=>?_;refine ak ?_;intro wq hwq;rw[hwq]at hHeld;have HQ:=hdq (HKd.o.toW hwq);obtain⟨xx,mm,_,_,_,F5⟩:=HQ.o;obtain⟨v0,v1,v2,_,_,_,zv,_,_⟩:=F5.at3 2 rfl;refine tkq 0 170 ?_;refine tkq 1 171 ?_;refine tkq 3 173 ?_;refine tkq 4 174 ?_;refine rdq 2 rfl fun K hK=>?_;go_simp;refine(HQ.o.commit rfl).mono ?_;rintro e wr ⟨rfl,hL⟩;have HQ:=hdq hL;obtain⟨xx,mm,_,_,_,F5⟩:=HQ.o;obtain⟨v0,v1,v2,_,_,_,zv,_,_⟩:=F5.at3 2 rfl;go_simp;refine kpq hK.o fun hHeld=>?_;refine rdq 5 rfl fun K hK=>?_;go_simp;refine(HQ.o.uh rfl).mono ?_;rintro e wr ⟨rfl,hL⟩;have HQ:=hdq hL;obtain⟨xx,mm,_,_,_,F5⟩:=HQ.o;obtain⟨v0,v1,v2,_,_,_,zv,_,_⟩:=F5.at3 2 rfl;go_simp;refine kpq hK.o fun hHeld=>?_;refine opq 6 fun hHeld=>?_;refine opq 7 fun hHeld=>?_;refine dnq ?_;refine ax (Q:=Exit.then _ _) ?_;intro w19 hwy;have HK19:=hdq (HQ.o.toW (by with_reducible exact hwy));go_wp2_with fail
 refine(HK19.o.park (s':=⟨[0,0,0,2],8,[⟨3,0,0,1,true⟩,⟨3,0,1,1,false⟩,⟨3,0,1,0,true⟩,⟨3,0,0,0,false⟩,⟨3,3,0,2,true⟩,⟨3,3,2,2,false⟩,⟨1,3,2,2,true⟩]⟩) (by decide) (by kernel_rfl)).mono ?_;rintro e Nc ⟨rfl,hL⟩;have HK20:=hdq hL;go_wp2_with fail
 refine(Jc _ 1).mono ?_;rintro e Nz ⟨a1,rfl,hj⟩;have HK21:=hdq (HK20.o.know (Q:=R16 a1 1) hj);go_wp2_with fail
 refine(HK21.o.wT a1 1 (fun W hW=>hW.2.args)).mono ?_;rintro e w22 ⟨rfl,hL⟩;have HK22:=hdq hL;go_wp2_with fail
 refine(HK22.o.II (by decide)).mono ?_;rintro e w23 ⟨rfl,hL⟩;have HK23:=hdq hL;go_wp2_with fail
 refine(HK23.o.fire (s':=⟨[0,0,1,2],8,[⟨3,0,0,1,true⟩,⟨3,0,1,1,false⟩,⟨3,0,1,0,true⟩,⟨3,0,0,0,false⟩,⟨3,3,0,2,true⟩,⟨3,3,2,2,false⟩,⟨1,3,2,2,true⟩,⟨3,2,0,1,true⟩]⟩) (by decide) 0 (by kernel_rfl)).mono ?_;rintro e w24 ⟨rfl,hL⟩;have HK24:=hdq hL;go_wp2_with fail
 refine(HK24.o.fired (s':=⟨[0,0,1,2],8,[⟨3,0,0,1,true⟩,⟨3,0,1,1,false⟩,⟨3,0,1,0,true⟩,⟨3,0,0,0,false⟩,⟨3,3,0,2,true⟩,⟨3,3,2,2,false⟩,⟨1,3,2,2,true⟩,⟨3,2,0,1,true⟩,⟨1,2,1,1,true⟩]⟩) (by decide) true 0 (by kernel_rfl)).mono ?_;rintro e Mh ⟨rfl,hL⟩;have HK25:=hdq hL;go_wp2_with fail
 refine(bQ _ _).mono ?_;rintro e wn ⟨rfl,rfl⟩;go_wp2_with fail
 refine(bQ _ _).mono ?_;rintro e wn ⟨rfl,rfl⟩;go_wp2_with fail
 refine(bQ _ _).mono ?_;rintro e wn ⟨rfl,rfl⟩;go_wp2_with fail
 refine(bQ _ _).mono ?_;rintro e wn ⟨rfl,rfl⟩;go_wp2_with fail
 refine(bQ _ _).mono ?_;rintro e wn ⟨rfl,rfl⟩;go_wp2_with fail
 refine(bQ _ _).mono ?_;rintro e wn ⟨rfl,rfl⟩;go_wp2_with fail
 refine(bQ _ _).mono ?_;rintro e wn ⟨rfl,rfl⟩;go_wp2_with fail
 refine(bQ _ _).mono ?_;rintro e wn ⟨rfl,rfl⟩;go_wp2_with fail
 refine(bQ _ _).mono ?_;rintro e wn ⟨rfl,rfl⟩;go_wp2;go_ret
 exact⟨rfl,HK25.o.BN (fun W h=>h.1.1.1.1)⟩
def xH(Z:Option Addr->RV->Bool->List ai->Prop)(e:Ending)(m2:List ai):Prop:=∃(p:Option Addr) (o:RV) (fine:Bool),e= .returned (.tuple #[.pointer p,o.val,fine])/\Z p o fine m2
theorem dT{p:Prop}[Decidable p](h:p:=by omega):decide p=true:=decide_eq_true h
theorem dF{p:Prop}[Decidable p](h:¬p:=by omega):decide p=false:=decide_eq_false h
theorem adO{G:Prop}(h:G:=by
  refine aai.go func14 ntmps14 ?_;refine go4 fun _ _ _ _=>?_;refine cq (aa8 hd) ?_;rintro _ _ ⟨m2,⟨o,fine,rfl,hZ⟩,rfl⟩;refine⟨_,rfl,nq ?_⟩;refine go ?_;refine W.rgd ?_;repeat (refine' rgk ?_;rotate_left)
  refine rgz 0 ?_ ?_;refine go ?_;refine W.abg ?_;exact⟨m2,⟨_,o,fine,rfl,hZ⟩,rfl⟩
  kernel_rfl):G:=h
theorem actC{G:Prop}(h:G:=by
  refine aai.go func14 ntmps14 ?_;refine go4 fun _ _ _ _=>?_;refine W.rgd ?_;repeat (refine' rgk ?_;rotate_left)
  refine rgz 0 ?_ ?_;refine go ?_;refine cq (aa8 hd) ?_;rintro _ _ ⟨m2,⟨p,rfl,hZ⟩,rfl⟩;refine⟨_,rfl,nq ?_⟩;refine go ?_;refine W.abg ?_;exact⟨m2,⟨p,v,true,rfl,hZ⟩,rfl⟩
  kernel_rfl):G:=h
theorem act16(wb:Nat)(v:RV)(x:BO)(m:List ai)(Z:Option Addr->RV->Bool->List ai->Prop)(h0:0<=x.what/\x.what<=3->Does 60 #[wb,v.val,x.vl] m fun e m2=>∃(o:RV) (fine:Bool),e= .returned (.tuple #[o.val,fine])/\Z (some ⟨wb,0,none⟩) o fine m2)(h1:4<=x.what/\x.what<=8->Does 61 #[wb,v.val,x.vl] m fun e m2=>∃(o:RV) (fine:Bool),e= .returned (.tuple #[o.val,fine])/\Z (some ⟨wb,0,none⟩) o fine m2)(h2:9<=x.what/\x.what<=14->Does 62 #[wb,v.val,x.vl] m fun e m2=>∃(o:RV) (fine:Bool),e= .returned (.tuple #[o.val,fine])/\Z (some ⟨wb,0,none⟩) o fine m2)(h3:15<=x.what/\x.what<=23->Does 63 #[wb,v.val,x.vl] m fun e m2=>∃(o:RV) (fine:Bool),e= .returned (.tuple #[o.val,fine])/\Z (some ⟨wb,0,none⟩) o fine m2)(h4:¬(0<=x.what/\x.what<=23)->Does 11 #[wb] m fun e m2=>∃p,e= .returned (.pointer p)/\Z p v true m2):Does 14 #[wb,v.val,x.vl] m (xH Z):=by
 refine Pm ?_;simp only[BO.vl,RV.val]at *;have hc:(0<=x.what/\x.what<=3)\/(4<=x.what/\x.what<=8)\/(9<=x.what/\x.what<=14)\/(15<=x.what/\x.what<=23)\/x.what<0\/23<x.what:=by omega
 rcases hc with hc|hc|hc|hc|hc|hc
 .have hd:=h0 hc
  clear h0 h1 h2 h3 h4;have n0:decide (0<=x.what)=true:=dT;have n1:decide (x.what<=3)=true:=dT;clear hc;exact adO
 .have hd:=h1 hc
  clear h0 h1 h2 h3 h4;have n0:decide (0<=x.what)=true:=dT;have n1:decide (x.what<=3)=false:=dF;have n2:decide (4<=x.what)=true:=dT;have n3:decide (x.what<=8)=true:=dT;clear hc;exact adO
 .have hd:=h2 hc
  clear h0 h1 h2 h3 h4;have n0:decide (0<=x.what)=true:=dT;have n1:decide (x.what<=3)=false:=dF;have n2:decide (4<=x.what)=true:=dT;have n3:decide (x.what<=8)=false:=dF;have n4:decide (9<=x.what)=true:=dT;have n5:decide (x.what<=14)=true:=dT;clear hc;exact adO
 .have hd:=h3 hc
  clear h0 h1 h2 h3 h4;have n0:decide (0<=x.what)=true:=dT;have n1:decide (x.what<=3)=false:=dF;have n2:decide (4<=x.what)=true:=dT;have n3:decide (x.what<=8)=false:=dF;have n4:decide (9<=x.what)=true:=dT;have n5:decide (x.what<=14)=false:=dF;have n6:decide (15<=x.what)=true:=dT;have n7:decide (x.what<=23)=true:=dT;clear hc;exact adO
 .have hd:=h4 (by omega)
  clear h0 h1 h2 h3 h4;have n0:decide (0<=x.what)=false:=dF;have n1:decide (4<=x.what)=false:=dF;have n2:decide (9<=x.what)=false:=dF;have n3:decide (15<=x.what)=false:=dF;clear hc;exact actC
 .have hd:=h4 (by omega)
  clear h0 h1 h2 h3 h4;have n0:decide (0<=x.what)=true:=dT;have n1:decide (x.what<=3)=false:=dF;have n2:decide (4<=x.what)=true:=dT;have n3:decide (x.what<=8)=false:=dF;have n4:decide (9<=x.what)=true:=dT;have n5:decide (x.what<=14)=false:=dF;have n6:decide (15<=x.what)=true:=dT;have n7:decide (x.what<=23)=false:=dF;clear hc;exact actC
def QB(W:World)(a:Option Addr)(i:Nat)(u:Value):Prop:=∃b o,a=some ⟨b,o,none⟩/\b<W.heap.size/\W.cell? ⟨b,o+i,none⟩=some u
theorem PI{P:World->Prop}{w:World}{a:Option Addr}{i:Nat}{u:Value}(h:∀W,P W->QB W a i u)(hw:P w):∃b o,a=some ⟨b,o,none⟩/\∀W,P W->b<W.heap.size/\W.cell? ⟨b,o+i,none⟩=some u:=by
 obtain⟨b,o,hb,_,_⟩:=h w hw;refine⟨b,o,hb,fun W hW=>?_⟩;obtain⟨b',o',hb',h1,h2⟩:=h W hW;rw[hb]at hb';injection hb' with hb'
 injection hb' with e1 e2
 subst e1 e2;exact⟨h1,h2⟩
def PG(v v':RV):Prop:=v'.most=v.most/\v'.ha=v.ha/\v'.hn=v.hn/\v'.hc=v.hc/\v'.oa=v.oa/\v'.on=v.on/\v'.oc=v.oc/\v'.sa=v.sa/\v'.sn=v.sn/\v'.sc=v.sc
theorem aaD{P:Program}{f:FuncId}{args:Array Value}{L:PL}{vc vl:Value}{s s':Ar}{E:Value->Value->Value}(h:∀T w,BD T w w [Pt L vc vl s]->Calls P f args w (Qz L T w s' E)):aai P f args [[Pt L vc vl s]] (xq (fun x:Option Addr×Nat×Option Addr×Nat×PL=>∀y∈L,y∈x.2.2.2.2) (fun x=>E (.slice x.1 s'.C.length x.2.1) (.slice x.2.2.1 s'.L.length x.2.2.2.1)) fun x=>[[Pt x.2.2.2.2 (.slice x.1 s'.C.length x.2.1) (.slice x.2.2.1 s'.L.length x.2.2.2.1) s']]):=fun T w hl=>(h T w hl).mono fun e w' ⟨CQ,Dk,L',r,he,hL,hl'⟩=>by
 obtain⟨ca,cp,rfl,_,_⟩:=aK (hl'.O7 0 rfl).Dh;obtain⟨la,lp,rfl,_,_⟩:=aK (hl'.O7 0 rfl).log;exact⟨[[Pt L' (.slice ca s'.C.length cp) (.slice la s'.L.length lp) s']],rfl,⟨(ca,cp,la,lp,L'),hL,he,rfl⟩,BD.less (m:=[Pt L' (.slice ca s'.C.length cp) (.slice la s'.L.length lp) s']) hl'⟩
theorem abp{P:Program}{f:FuncId}{args:Array Value}{L:PL}{v:RV}{s s':Ar}{Q:World->Prop}{E:Value->Value}{T:List Nat}{w:World}(hl:BD T w w [Pt L (.slice v.ca v.cn v.cc) (.slice v.la v.ln v.lc) s,aA Q])(h:aai P f args [[Pt L (.slice v.ca v.cn v.cc) (.slice v.la v.ln v.lc) s],[aA Q]] (xq (fun x:RV×PL=>(∀y∈L,y∈x.2)/\PG v x.1) (fun x=>E x.1.val) fun x=>[[Pt x.2 (.slice x.1.ca x.1.cn x.1.cc) (.slice x.1.la x.1.ln x.1.lc) s'],[aA Q]])):
  Calls P f args w fun e w'=>∃(v':RV) (L':PL),(∀x∈L,x∈L')/\e= .returned (E v'.val)/\PG v v'/\BD T w w' [Pt L' (.slice v'.ca v'.cn v'.cc) (.slice v'.la v'.ln v'.lc) s',aA Q]:=(h T w hl).mono fun e w' ⟨Y,_,⟨x,⟨h1,h2⟩,he,hY⟩,hl'⟩=>⟨x.1,x.2,h1,he,h2,by rw[hY]at hl';exact hl'⟩
theorem Sv(v:RV)(w:World)(k:Nat)(hk:k<v.hn):Calls prog 228 #[v.val,(k:Int)] w fun e w'=>e= .returned (.bool true)/\Touch [] w w':=by
 refine abM ?_ w;have h0:decide ((0:Int)<=(k:Int))=true:=decide_eq_true (by omega);have h1:decide ((k:Int)<(v.hn:Int))=true:=decide_eq_true (by omega);simp only[RV.val];refine aai.go func228 ntmps228 ?_;refine go1 fun _=>?_;refine W.abg ?_;exact⟨(),trivial,rfl,rfl⟩
theorem Q6(v:RV)(w:World)(k:Nat)(hk:k<v.on):Calls prog 236 #[v.val,(k:Int)] w fun e w'=>e= .returned (.bool true)/\Touch [] w w':=by
 refine abM ?_ w;have h0:decide ((0:Int)<=(k:Int))=true:=decide_eq_true (by omega);have h1:decide ((k:Int)<(v.on:Int))=true:=decide_eq_true (by omega);simp only[RV.val];refine aai.go func236 ntmps236 ?_;refine go1 fun _=>?_;refine W.abg ?_;exact⟨(),trivial,rfl,rfl⟩
theorem PN(v:RV)(w:World)(k:Nat)(hk:k<v.sn):Calls prog 242 #[v.val,(k:Int)] w fun e w'=>e= .returned (.bool true)/\Touch [] w w':=by
 refine abM ?_ w;have h0:decide ((0:Int)<=(k:Int))=true:=decide_eq_true (by omega);have h1:decide ((k:Int)<(v.sn:Int))=true:=decide_eq_true (by omega);simp only[RV.val];refine aai.go func242 ntmps242 ?_;refine go1 fun _=>?_;refine W.abg ?_;exact⟨(),trivial,rfl,rfl⟩
theorem abK{P:World->Prop}{a:Option Addr}{b o i:Nat}{u:Value}(hb:a=some ⟨b,o,none⟩)(h:∀W,P W->QB W a i u):∀W,P W->W.cell? ⟨b,o+i,none⟩=some u:=fun W hW=>by
 obtain⟨b',o',hb',_,h2⟩:=h W hW;rw[hb]at hb';injection hb' with hb'
 injection hb' with e1 e2
 subst e1 e2;exact h2
theorem rwq{G:Prop}(h:G:=by
  refine go2 fun _ _=>?_;refine cr hC fun _ _=>?_;refine go ?_;refine W.rgd ?_;repeat (refine' rgk ?_;rotate_left)
  refine rgz 0 ?_ ?_;refine go ?_;refine cr hT fun⟨a1,a2,a3,a4,L'⟩ Qy=>?_;refine go1 fun _=>?_;refine W.abg ?_;exact⟨(⟨a1,_,a2,_,a3,_,a4,_,_,_,_,_,_,_,_,_⟩,L'),⟨Qy,rfl,rfl,rfl,rfl,rfl,rfl,rfl,rfl,rfl,rfl⟩,rfl,rfl⟩
  kernel_rfl):G:=h
theorem YE{L:PL}(T:List Nat)(w:World)(v:RV)(s:Ar)(P:World->Prop)(k c:Nat)(h:BD T w w [Pt L (.slice v.ca v.cn v.cc) (.slice v.la v.ln v.lc) s,aA P])(hm:v.most=(s.most:Int))(hk:k<v.hn)(hP:∀W,P W->QB W v.ha (k*3) (.int .i64 (c:Int)))(hL:s.L.length<=1048576):
  Calls prog 152 #[v.val,(k:Int)] w fun e w'=>∃(v':RV) (L':PL),(∀x∈L,x∈L')/\e= .returned (.tuple #[v'.val,.bool (s.swap (c:Int) 0 1).2.1.did,.int .i64 ((s.swap (c:Int) 0 1).2.2:Int)])/\PG v v'/\BD T w w' [Pt L' (.slice v'.ca v'.cn v'.cc) (.slice v'.la v'.ln v'.lc) (s.swap (c:Int) 0 1).1,aA P]:=by
 obtain⟨b,o,hb,hB⟩:=PI hP (h.still 1 rfl);obtain⟨hcn,hln⟩:=Qp h;have hC:=aam fun W=>Sv v W k hk;have hl1:=aat fun W hW=>(hB W hW).2;have hk0:(0:Int)<=(k:Int):=by omega
 refine abp (E:=fun v=> .tuple #[v,.bool (s.swap (c:Int) 0 1).2.1.did,.int .i64 ((s.swap (c:Int) 0 1).2.2:Int)]) h ?_;obtain⟨ca,cn,cc,most,la,ln,lc,ha,hn,hc,oa,on,oc,sa,sn,sc⟩:=v;dsimp only[RV.val]at *;subst hm hb hcn hln;have hk1:(k:Int)<(hn:Int):=by omega
 have hT:=aaD (L:=L) (vc:= .slice ca s.C.length cc) (vl:= .slice la s.L.length lc) fun T w h=>YN T w _ _ s (c:Int) hL h;simp only[bI]at hT;refine aai.go func152 ntmps152 ?_;exact rwq
theorem WK{L:PL}(T:List Nat)(w:World)(v:RV)(s:Ar)(P:World->Prop)(k c:Nat)(h:BD T w w [Pt L (.slice v.ca v.cn v.cc) (.slice v.la v.ln v.lc) s,aA P])(hm:v.most=(s.most:Int))(hk:k<v.hn)(hP:∀W,P W->QB W v.ha (k*3) (.int .i64 (c:Int)))(hL:s.L.length<=1048576):
  Calls prog 153 #[v.val,(k:Int)] w fun e w'=>∃(v':RV) (L':PL),(∀x∈L,x∈L')/\e= .returned (.tuple #[v'.val,.int .i64 (s.wH (c:Int):Int)])/\PG v v'/\BD T w w' [Pt L' (.slice v'.ca v'.cn v'.cc) (.slice v'.la v'.ln v'.lc) (s.swap (c:Int) 1 0).1,aA P]:=by
 obtain⟨b,o,hb,hB⟩:=PI hP (h.still 1 rfl);obtain⟨hcn,hln⟩:=Qp h;have hC:=aam fun W=>Sv v W k hk;have hl1:=aat fun W hW=>(hB W hW).2;have hk0:(0:Int)<=(k:Int):=by omega
 refine abp (E:=fun v=> .tuple #[v,.int .i64 (s.wH (c:Int):Int)]) h ?_;obtain⟨ca,cn,cc,most,la,ln,lc,ha,hn,hc,oa,on,oc,sa,sn,sc⟩:=v;dsimp only[RV.val]at *;subst hm hb hcn hln;have hk1:(k:Int)<(hn:Int):=by omega
 have hT:=aaD (L:=L) (vc:= .slice ca s.C.length cc) (vl:= .slice la s.L.length lc) fun T w h=>V4 T w _ _ s (c:Int) hL h;simp only[bI]at hT;refine aai.go func153 ntmps153 ?_;exact rwq
theorem UZ{L:PL}(T:List Nat)(w:World)(v:RV)(s:Ar)(P:World->Prop)(k c:Nat)(h:BD T w w [Pt L (.slice v.ca v.cn v.cc) (.slice v.la v.ln v.lc) s,aA P])(hm:v.most=(s.most:Int))(hk:k<v.on)(hP:∀W,P W->QB W v.oa (k*2) (.int .i64 (c:Int)))(hL:s.L.length<=1048576):
  Calls prog 157 #[v.val,(k:Int)] w fun e w'=>∃(v':RV) (L':PL),(∀x∈L,x∈L')/\e= .returned (.tuple #[v'.val,.bool (s.swap (c:Int) 0 1).2.1.did,.int .i64 ((s.swap (c:Int) 0 1).2.2:Int)])/\PG v v'/\BD T w w' [Pt L' (.slice v'.ca v'.cn v'.cc) (.slice v'.la v'.ln v'.lc) (s.swap (c:Int) 0 1).1,aA P]:=by
 obtain⟨b,o,hb,hB⟩:=PI hP (h.still 1 rfl);obtain⟨hcn,hln⟩:=Qp h;have hC:=aam fun W=>Q6 v W k hk;have hl1:=aat fun W hW=>(hB W hW).2;have hk0:(0:Int)<=(k:Int):=by omega
 refine abp (E:=fun v=> .tuple #[v,.bool (s.swap (c:Int) 0 1).2.1.did,.int .i64 ((s.swap (c:Int) 0 1).2.2:Int)]) h ?_;obtain⟨ca,cn,cc,most,la,ln,lc,ha,hn,hc,oa,on,oc,sa,sn,sc⟩:=v;dsimp only[RV.val]at *;subst hm hb hcn hln;have hk1:(k:Int)<(on:Int):=by omega
 have hT:=aaD (L:=L) (vc:= .slice ca s.C.length cc) (vl:= .slice la s.L.length lc) fun T w h=>YN T w _ _ s (c:Int) hL h;simp only[bI]at hT;refine aai.go func157 ntmps157 ?_;exact rwq
theorem Un{L:PL}(T:List Nat)(w:World)(v:RV)(s:Ar)(P:World->Prop)(k c:Nat)(h:BD T w w [Pt L (.slice v.ca v.cn v.cc) (.slice v.la v.ln v.lc) s,aA P])(hm:v.most=(s.most:Int))(hk:k<v.on)(hP:∀W,P W->QB W v.oa (k*2) (.int .i64 (c:Int)))(hL:s.L.length<=1048576):
  Calls prog 158 #[v.val,(k:Int)] w fun e w'=>∃(v':RV) (L':PL),(∀x∈L,x∈L')/\e= .returned (.tuple #[v'.val,.int .i64 (s.wH (c:Int):Int)])/\PG v v'/\BD T w w' [Pt L' (.slice v'.ca v'.cn v'.cc) (.slice v'.la v'.ln v'.lc) (s.swap (c:Int) 1 0).1,aA P]:=by
 obtain⟨b,o,hb,hB⟩:=PI hP (h.still 1 rfl);obtain⟨hcn,hln⟩:=Qp h;have hC:=aam fun W=>Q6 v W k hk;have hl1:=aat fun W hW=>(hB W hW).2;have hk0:(0:Int)<=(k:Int):=by omega
 refine abp (E:=fun v=> .tuple #[v,.int .i64 (s.wH (c:Int):Int)]) h ?_;obtain⟨ca,cn,cc,most,la,ln,lc,ha,hn,hc,oa,on,oc,sa,sn,sc⟩:=v;dsimp only[RV.val]at *;subst hm hb hcn hln;have hk1:(k:Int)<(on:Int):=by omega
 have hT:=aaD (L:=L) (vc:= .slice ca s.C.length cc) (vl:= .slice la s.L.length lc) fun T w h=>V4 T w _ _ s (c:Int) hL h;simp only[bI]at hT;refine aai.go func158 ntmps158 ?_;exact rwq
theorem Xa{L:PL}(T:List Nat)(w:World)(v:RV)(s:Ar)(P:World->Prop)(k c:Nat)(h:BD T w w [Pt L (.slice v.ca v.cn v.cc) (.slice v.la v.ln v.lc) s,aA P])(hm:v.most=(s.most:Int))(hk:k<v.sn)(hP:∀W,P W->QB W v.sa (k*11+3) (.int .i64 (c:Int)))(hL:s.L.length<=1048576)(hwd:∀n∈s.C,Wd n):
  Calls prog 163 #[v.val,(k:Int)] w fun e w'=>∃(v':RV) (L':PL),(∀x∈L,x∈L')/\e= .returned (.tuple #[v'.val,.int .i64 ((bE (s.swap (c:Int) 0 1).2.1.old (s.swap (c:Int) 0 1).2.2).1:Int),.int .i64 ((bE (s.swap (c:Int) 0 1).2.1.old (s.swap (c:Int) 0 1).2.2).2:Int)])/\PG v v'/\BD T w w' [Pt L' (.slice v'.ca v'.cn v'.cc) (.slice v'.la v'.ln v'.lc) (s.swap (c:Int) 0 1).1,aA P]:=by
 obtain⟨b,o,hb,hB⟩:=PI hP (h.still 1 rfl);obtain⟨hcn,hln⟩:=Qp h;have hC:=aam fun W=>PN v W k hk;have hl1:=aat fun W hW=>(hB W hW).2;have hk0:(0:Int)<=(k:Int):=by omega
 refine abp (E:=fun v=> .tuple #[v,.int .i64 ((bE (s.swap (c:Int) 0 1).2.1.old (s.swap (c:Int) 0 1).2.2).1:Int),.int .i64 ((bE (s.swap (c:Int) 0 1).2.1.old (s.swap (c:Int) 0 1).2.2).2:Int)]) h ?_;obtain⟨ca,cn,cc,most,la,ln,lc,ha,hn,hc,oa,on,oc,sa,sn,sc⟩:=v;dsimp only[RV.val]at *;subst hm hb hcn hln;have hk1:(k:Int)<(sn:Int):=by omega
 have hT:=aaD (L:=L) (vc:= .slice ca s.C.length cc) (vl:= .slice la s.L.length lc) fun T w h=>Xi T w _ _ s (c:Int) hL hwd h;simp only[bI]at hT;refine aai.go func163 ntmps163 ?_;exact rwq
theorem YA{L:PL}(T:List Nat)(w:World)(v:RV)(s:Ar)(P:World->Prop)(k c:Nat)(h:BD T w w [Pt L (.slice v.ca v.cn v.cc) (.slice v.la v.ln v.lc) s,aA P])(hm:v.most=(s.most:Int))(hk:k<v.sn)(hP:∀W,P W->QB W v.sa (k*11+3) (.int .i64 (c:Int)))(hL:s.L.length<=1048576)(hwd:∀n∈s.C,Wd n):
  Calls prog 165 #[v.val,(k:Int)] w fun e w'=>∃(v':RV) (L':PL),(∀x∈L,x∈L')/\e= .returned (.tuple #[v'.val,.int .i64 ((bE (s.swap (c:Int) 0 2).2.1.old (s.swap (c:Int) 0 2).2.2).1:Int),.int .i64 ((bE (s.swap (c:Int) 0 2).2.1.old (s.swap (c:Int) 0 2).2.2).2:Int)])/\PG v v'/\BD T w w' [Pt L' (.slice v'.ca v'.cn v'.cc) (.slice v'.la v'.ln v'.lc) (s.swap (c:Int) 0 2).1,aA P]:=by
 obtain⟨b,o,hb,hB⟩:=PI hP (h.still 1 rfl);obtain⟨hcn,hln⟩:=Qp h;have hC:=aam fun W=>PN v W k hk;have hl1:=aat fun W hW=>(hB W hW).2;have hk0:(0:Int)<=(k:Int):=by omega
 refine abp (E:=fun v=> .tuple #[v,.int .i64 ((bE (s.swap (c:Int) 0 2).2.1.old (s.swap (c:Int) 0 2).2.2).1:Int),.int .i64 ((bE (s.swap (c:Int) 0 2).2.1.old (s.swap (c:Int) 0 2).2.2).2:Int)]) h ?_;obtain⟨ca,cn,cc,most,la,ln,lc,ha,hn,hc,oa,on,oc,sa,sn,sc⟩:=v;dsimp only[RV.val]at *;subst hm hb hcn hln;have hk1:(k:Int)<(sn:Int):=by omega
 have hT:=aaD (L:=L) (vc:= .slice ca s.C.length cc) (vl:= .slice la s.L.length lc) fun T w h=>YX T w _ _ s (c:Int) hL hwd h;simp only[bI]at hT;refine aai.go func165 ntmps165 ?_;exact rwq
theorem V8{L:PL}(T:List Nat)(w:World)(v:RV)(s:Ar)(P:World->Prop)(k c:Nat)(h:BD T w w [Pt L (.slice v.ca v.cn v.cc) (.slice v.la v.ln v.lc) s,aA P])(hm:v.most=(s.most:Int))(hk:k<v.sn)(hP:∀W,P W->QB W v.sa (k*11+3) (.int .i64 (c:Int)))(hL:s.L.length<=1048576)(hwd:∀n∈s.C,Wd n):
  Calls prog 167 #[v.val,(k:Int)] w fun e w'=>∃(v':RV) (L':PL),(∀x∈L,x∈L')/\e= .returned (.tuple #[v'.val,.int .i64 ((bE (s.load (c:Int)).2.1.old (s.load (c:Int)).2.2).1:Int),.int .i64 ((bE (s.load (c:Int)).2.1.old (s.load (c:Int)).2.2).2:Int)])/\PG v v'/\BD T w w' [Pt L' (.slice v'.ca v'.cn v'.cc) (.slice v'.la v'.ln v'.lc) (s.load (c:Int)).1,aA P]:=by
 obtain⟨b,o,hb,hB⟩:=PI hP (h.still 1 rfl);obtain⟨hcn,hln⟩:=Qp h;have hC:=aam fun W=>PN v W k hk;have hl1:=aat fun W hW=>(hB W hW).2;have hk0:(0:Int)<=(k:Int):=by omega
 refine abp (E:=fun v=> .tuple #[v,.int .i64 ((bE (s.load (c:Int)).2.1.old (s.load (c:Int)).2.2).1:Int),.int .i64 ((bE (s.load (c:Int)).2.1.old (s.load (c:Int)).2.2).2:Int)]) h ?_;obtain⟨ca,cn,cc,most,la,ln,lc,ha,hn,hc,oa,on,oc,sa,sn,sc⟩:=v;dsimp only[RV.val]at *;subst hm hb hcn hln;have hk1:(k:Int)<(sn:Int):=by omega
 have hT:=aaD (L:=L) (vc:= .slice ca s.C.length cc) (vl:= .slice la s.L.length lc) fun T w h=>YS T w _ _ s (c:Int) hL hwd h;simp only[bI]at hT;refine aai.go func167 ntmps167 ?_;exact rwq
theorem VB{L:PL}(T:List Nat)(w:World)(v:RV)(s:Ar)(P:World->Prop)(k c:Nat)(h:BD T w w [Pt L (.slice v.ca v.cn v.cc) (.slice v.la v.ln v.lc) s,aA P])(hm:v.most=(s.most:Int))(hk:k<v.sn)(hP:∀W,P W->QB W v.sa (k*11+3) (.int .i64 (c:Int)))(hL:s.L.length<=1048576):
  Calls prog 164 #[v.val,(k:Int)] w fun e w'=>∃(v':RV) (L':PL),(∀x∈L,x∈L')/\e= .returned (.tuple #[v'.val,.int .i64 ((s.store (c:Int) 0).2.2:Int)])/\PG v v'/\BD T w w' [Pt L' (.slice v'.ca v'.cn v'.cc) (.slice v'.la v'.ln v'.lc) (s.store (c:Int) 0).1,aA P]:=by
 obtain⟨b,o,hb,hB⟩:=PI hP (h.still 1 rfl);obtain⟨hcn,hln⟩:=Qp h;have hC:=aam fun W=>PN v W k hk;have hl1:=aat fun W hW=>(hB W hW).2;have hk0:(0:Int)<=(k:Int):=by omega
 refine abp (E:=fun v=> .tuple #[v,.int .i64 ((s.store (c:Int) 0).2.2:Int)]) h ?_;obtain⟨ca,cn,cc,most,la,ln,lc,ha,hn,hc,oa,on,oc,sa,sn,sc⟩:=v;dsimp only[RV.val]at *;subst hm hb hcn hln;have hk1:(k:Int)<(sn:Int):=by omega
 have hT:=aaD (L:=L) (vc:= .slice ca s.C.length cc) (vl:= .slice la s.L.length lc) fun T w h=>Vn T w _ _ s (c:Int) hL h;simp only[bI]at hT;refine aai.go func164 ntmps164 ?_;exact rwq
theorem Wn{L:PL}(T:List Nat)(w:World)(v:RV)(s:Ar)(P:World->Prop)(k c:Nat)(h:BD T w w [Pt L (.slice v.ca v.cn v.cc) (.slice v.la v.ln v.lc) s,aA P])(hm:v.most=(s.most:Int))(hk:k<v.sn)(hP:∀W,P W->QB W v.sa (k*11+3) (.int .i64 (c:Int)))(hL:s.L.length<=1048576):
  Calls prog 166 #[v.val,(k:Int)] w fun e w'=>∃(v':RV) (L':PL),(∀x∈L,x∈L')/\e= .returned (.tuple #[v'.val,.int .i64 ((s.store (c:Int) 2).2.2:Int)])/\PG v v'/\BD T w w' [Pt L' (.slice v'.ca v'.cn v'.cc) (.slice v'.la v'.ln v'.lc) (s.store (c:Int) 2).1,aA P]:=by
 obtain⟨b,o,hb,hB⟩:=PI hP (h.still 1 rfl);obtain⟨hcn,hln⟩:=Qp h;have hC:=aam fun W=>PN v W k hk;have hl1:=aat fun W hW=>(hB W hW).2;have hk0:(0:Int)<=(k:Int):=by omega
 refine abp (E:=fun v=> .tuple #[v,.int .i64 ((s.store (c:Int) 2).2.2:Int)]) h ?_;obtain⟨ca,cn,cc,most,la,ln,lc,ha,hn,hc,oa,on,oc,sa,sn,sc⟩:=v;dsimp only[RV.val]at *;subst hm hb hcn hln;have hk1:(k:Int)<(sn:Int):=by omega
 have hT:=aaD (L:=L) (vc:= .slice ca s.C.length cc) (vl:= .slice la s.L.length lc) fun T w h=>VU T w _ _ s (c:Int) hL h;simp only[bI]at hT;refine aai.go func166 ntmps166 ?_;exact rwq
theorem WY{L:PL}(T:List Nat)(w:World)(v:RV)(s:Ar)(P:World->Prop)(k c:Nat)(qa:Option Addr)(qn qc:Nat)(h:BD T w w [Pt L (.slice v.ca v.cn v.cc) (.slice v.la v.ln v.lc) s,aA P])(hm:v.most=(s.most:Int))(hk:k<v.on)(hP:∀W,P W->QB W v.oa (k*2) (.int .i64 (c:Int)))(hQ:∀W,P W->QB W v.oa (k*2+1) (.slice qa qn qc))(hL:s.L.length<=1048576)(hwd:c<=1000000):
  Calls prog 159 #[v.val,(k:Int)] w fun e w'=>∃(v':RV) (L':PL),(∀x∈L,x∈L')/\e= .returned (.tuple #[v'.val,.bool ((((s.load ((c:Int)+1)).2.1.old:Nat):Int) != 0),.int .i64 ((s.load ((c:Int)+1)).2.2:Int)])/\PG v v'/\BD T w w' [Pt L' (.slice v'.ca v'.cn v'.cc) (.slice v'.la v'.ln v'.lc) (s.load ((c:Int)+1)).1,aA P]:=by
 obtain⟨b,o,hb,hB⟩:=PI hP (h.still 1 rfl);have hQ2:=hdq (abK hb hQ);obtain⟨hcn,hln⟩:=Qp h;have hC:=aam fun W=>Q6 v W k hk;have hl1:=aat fun W hW=>(hB W hW).2;have hl2:=abz hl1 (aat hQ2.o);have hk0:(0:Int)<=(k:Int):=by omega
 refine abp (E:=fun v=> .tuple #[v,.bool ((((s.load ((c:Int)+1)).2.1.old:Nat):Int) != 0),.int .i64 ((s.load ((c:Int)+1)).2.2:Int)]) h ?_;obtain⟨ca,cn,cc,most,la,ln,lc,ha,hn,hc,oa,on,oc,sa,sn,sc⟩:=v;dsimp only[RV.val]at *;subst hm hb hcn hln;have hk1:(k:Int)<(on:Int):=by omega
 have hT:=aaD (L:=L) (vc:= .slice ca s.C.length cc) (vl:= .slice la s.L.length lc) fun T w h=>XE T w _ _ s c hwd qa qn qc hL h;simp only[bI]at hT;refine aai.go func159 ntmps159 ?_;exact rwq
theorem Vj{L:PL}(T:List Nat)(w:World)(v:RV)(s:Ar)(P:World->Prop)(k c:Nat)(qa:Option Addr)(qn qc:Nat)(h:BD T w w [Pt L (.slice v.ca v.cn v.cc) (.slice v.la v.ln v.lc) s,aA P])(hm:v.most=(s.most:Int))(hk:k<v.on)(hP:∀W,P W->QB W v.oa (k*2) (.int .i64 (c:Int)))(hQ:∀W,P W->QB W v.oa (k*2+1) (.slice qa qn qc))(hL:s.L.length<=1048576)(hwd:c<=1000000/\(s.swap ((c:Int)+1) 0 1).2.2=0/\(s.swap ((c:Int)+1) 0 1).2.1.did=true):
  Calls prog 160 #[v.val,(k:Int)] w fun e w'=>∃(v':RV) (L':PL),(∀x∈L,x∈L')/\e= .returned (.tuple #[v'.val,()])/\PG v v'/\BD T w w' [Pt L' (.slice v'.ca v'.cn v'.cc) (.slice v'.la v'.ln v'.lc) (s.swap ((c:Int)+1) 0 1).1,aA P]:=by
 obtain⟨b,o,hb,hB⟩:=PI hP (h.still 1 rfl);have hQ2:=hdq (abK hb hQ);obtain⟨hcn,hln⟩:=Qp h;have hC:=aam fun W=>Q6 v W k hk;have hl1:=aat fun W hW=>(hB W hW).2;have hl2:=abz hl1 (aat hQ2.o);have hk0:(0:Int)<=(k:Int):=by omega
 refine abp (E:=fun v=> .tuple #[v,()]) h ?_;obtain⟨ca,cn,cc,most,la,ln,lc,ha,hn,hc,oa,on,oc,sa,sn,sc⟩:=v;dsimp only[RV.val]at *;subst hm hb hcn hln;have hk1:(k:Int)<(on:Int):=by omega
 have hT:=aaD (L:=L) (vc:= .slice ca s.C.length cc) (vl:= .slice la s.L.length lc) fun T w h=>Ut T w _ _ s c hwd.1 qa qn qc hL h hwd.2.1 hwd.2.2;simp only[bI]at hT;refine aai.go func160 ntmps160 ?_;exact rwq
theorem Vp{L:PL}(T:List Nat)(w:World)(v:RV)(s:Ar)(P:World->Prop)(k c:Nat)(qa:Option Addr)(qn qc:Nat)(h:BD T w w [Pt L (.slice v.ca v.cn v.cc) (.slice v.la v.ln v.lc) s,aA P])(hm:v.most=(s.most:Int))(hk:k<v.on)(hP:∀W,P W->QB W v.oa (k*2) (.int .i64 (c:Int)))(hQ:∀W,P W->QB W v.oa (k*2+1) (.slice qa qn qc))(hL:s.L.length<=1048576)(hwd:c<=1000000/\(s.swap ((c:Int)+1) 0 1).2.2=0/\(s.swap ((c:Int)+1) 0 1).2.1.did=false):
  Calls prog 160 #[v.val,(k:Int)] w fun e w'=>∃(v':RV) (L':PL),(∀x∈L,x∈L')/\e= .returned (.tuple #[v'.val,(150:Int)])/\PG v v'/\BD T w w' [Pt L' (.slice v'.ca v'.cn v'.cc) (.slice v'.la v'.ln v'.lc) (s.swap ((c:Int)+1) 0 1).1,aA P]:=by
 obtain⟨b,o,hb,hB⟩:=PI hP (h.still 1 rfl);have hQ2:=hdq (abK hb hQ);obtain⟨hcn,hln⟩:=Qp h;have hC:=aam fun W=>Q6 v W k hk;have hl1:=aat fun W hW=>(hB W hW).2;have hl2:=abz hl1 (aat hQ2.o);have hk0:(0:Int)<=(k:Int):=by omega
 refine abp (E:=fun v=> .tuple #[v,(150:Int)]) h ?_;obtain⟨ca,cn,cc,most,la,ln,lc,ha,hn,hc,oa,on,oc,sa,sn,sc⟩:=v;dsimp only[RV.val]at *;subst hm hb hcn hln;have hk1:(k:Int)<(on:Int):=by omega
 have hT:=aaD (L:=L) (vc:= .slice ca s.C.length cc) (vl:= .slice la s.L.length lc) fun T w h=>Uq T w _ _ s c hwd.1 qa qn qc hL h hwd.2.1 hwd.2.2;simp only[bI]at hT;refine aai.go func160 ntmps160 ?_;exact rwq
theorem acN{s:Ar}{k:Nat}(hk:0<k)(h:s.C.length+k<=s.most):(s.au k).2=(s.C.length,0):=by
 unfold Ar.au;rw[if_neg (by omega),if_neg (by omega)]
theorem Yt{L:PL}(T:List Nat)(w:World)(v:RV)(s:Ar)(P:World->Prop)(cs:List Value)(h:BD T w w [Pt L (.slice v.ca v.cn v.cc) (.slice v.la v.ln v.lc) s,aA P])(hm:v.most=(s.most:Int))(hP:∀W,P W->aG W v.ha 3 v.hn cs)(hcl:cs.length=v.hn*3)(hone:∀u∈cs,u.oneCell'=true)(hnn:v.hn<=100000)(hok:s.C.length+1<=s.most):
  Calls prog 149 #[v.val] w fun e w'=>∃(v':RV) (L':PL),(∀x∈L,x∈L')/\e= .returned (.tuple #[v'.val,(v.hn:Int),()])/\gJ 0 v v'/\BD T w w' [Pt L' (.slice v'.ca v'.cn v'.cc) (.slice v'.la v'.ln v'.lc) (s.au 1).1,aA fun W=>P W/\aG W v'.ha 3 (v.hn+1) (cs++[.int .i64 (s.C.length:Int),.slice none 0 0,.slice none 0 0])]:=by
 obtain⟨hcn,hln⟩:=Qp h;have hI:adJ prog 34 75 3 56:=adz KD;have hsrc:ac6 [aA P] v.ha v.hn cs:=acP fun W hW=>(hP W hW).iI hcl (by decide);have hA:(s.au 1).2=(s.C.length,0):=acN (k:=1) (by decide) hok;have hwr:IntKind.i64.wrap (v.hn:Int)=(v.hn:Int):=IntWalk.i64_in _ (by omega);have hN:=aaD (L:=L) (vc:= .slice v.ca v.cn v.cc) (vl:= .slice v.la v.ln v.lc) fun T w h=>(ZU T w _ _ s h).mono fun e w' ⟨CQ,Dk,L',he,hL,hl⟩=>⟨CQ,Dk,L',[],he,hL,hl⟩;have hg:aai prog 149 #[v.val] [[Pt L (.slice v.ca v.cn v.cc) (.slice v.la v.ln v.lc) s],[aA P]] (xq (fun x:RV×PL=>(∀y∈L,y∈x.2)/\gJ 0 v x.1) (fun x=> .tuple #[x.1.val,(v.hn:Int),()]) fun x=>[[Pt x.2 (.slice x.1.ca x.1.cn x.1.cc) (.slice x.1.la x.1.ln x.1.lc) (s.au 1).1],[aA fun W=>P W/\aG W x.1.ha 3 (v.hn+1) (cs++[.int .i64 (s.C.length:Int),.slice none 0 0,.slice none 0 0])]]):=by
  simp only[bI,hA]at hN;obtain⟨ca,cn,cc,most,la,ln,lc,ha,hn,hc,oa,on,oc,sa,sn,sc⟩:=v;dsimp only[RV.val]at *;subst hm hcn hln;have hn1:hn+1<=4000000:=by omega
  have hn0:hn<=4000000:=by omega
  have hn2:hn+1<=2000000:=by omega
  refine aai.go func149 ntmps149 ?_;refine go2 fun _ _=>?_;refine cr hN fun⟨a1,a2,a3,a4,L'⟩ Qy=>?_;refine go2 fun _ _=>?_;refine W.rgd ?_;repeat (refine' rgk ?_;rotate_left)
  refine rgz 0 ?_ ?_;refine go ?_;refine mbq (hal:=by intro w;go_simp;exact⟨rfl,rfl⟩) fun _=>?_;refine go ?_;refine apq hI hcl hone hn0 (by decide) (hnm:=by simp) (hs:=by(repeat (first |exact acv.here hsrc|apply acv.there));done) fun b1 k1=>?_;refine go ?_;refine mbq (hal:=by intro w;go_simp;exact⟨rfl,rfl⟩) fun _=>?_;refine apq (news:=[.int .i64 (s.C.length:Int),.slice none 0 0,.slice none 0 0]) (m:=1) hI rfl (by simp[Value.oneCell']) hn1 (by decide) (hnm:=rfl) fun b2 k2=>?_;refine go ?_;refine W.rgd ?_;repeat (refine' rgk ?_;rotate_left)
  refine rgz 0 ?_ ?_;refine go ?_;refine W.ady [[Pt L' (.slice a1 (s.au 1).1.C.length a2) (.slice a3 (s.au 1).1.L.length a4) (s.au 1).1],[aA fun W=>P W/\aG W b2 3 (hn+1) (cs++[.int .i64 (s.C.length:Int),.slice none 0 0,.slice none 0 0])]] (fun T w0 w hl=>(hl.sel [0,1,6] (l':=[Pt L' (.slice a1 (s.au 1).1.C.length a2) (.slice a3 (s.au 1).1.L.length a4) (s.au 1).1,aA P,aS 75 3 (.slice b2 (hn+1) k2) (hn+1) (cs++[.int .i64 (s.C.length:Int),.slice none 0 0,.slice none 0 0])]) rfl (by decide)).settle (l:=[_,_]) 1 rfl fun W f Yl hf=>⟨Yl,mg hf.2 rfl (by decide) hn2⟩) ?_;exact⟨(⟨a1,_,a2,_,a3,_,a4,b2,_,k2,_,_,_,_,_,_⟩,L'),⟨Qy,by simp[gJ]⟩,rfl,rfl⟩
  all_goals kernel_rfl
 exact(hg T w h).mono fun e w' ⟨Y,_,⟨x,⟨h1,h2⟩,he,hY⟩,hl⟩=>⟨x.1,x.2,h1,he,h2,by rw[hY]at hl;exact hl⟩
end Go.Proofs.YtddnnapoaonmjaaGreatDoor
