/-
  Texts of FirePlays, laid together by program.
-/
import Derived.Test.YtegejdlglonflaaGreatDoorWZ15
import Derived.Test.YtegejdlglonflaaGreatDoorWZ37
namespace Go.Proofs.YtegejdlglonflaaGreatDoor
open Go.RowKit Go.Shelf Go.Proofs.Tryz
set_option maxRecDepth 100000
set_option maxHeartbeats 8000000
set_option linter.unusedVariables false
set_option linter.unusedSimpArgs false
def aej:MT.PT:= .mk 1 0 []
def aei:MT:= .mk 1 0 none 0 []
theorem afs:aej.Ok:=⟨by simp[aej,MT.PT.nodes,MT.PT.aV],by simp[aej,MT.PT.iZ,MT.PT.iU,Shape]⟩
abbrev MPl:=Int×List (Int×Int×MT.PT×List (Int×List MT.PT)×List Int)×List Int×Int×Bool×Bool×Int×MT.PT×Int
def MPl.done(p:MPl):Bool:=p.2.2.2.2.2.1
def adG(vp:MT.PT)(br:Int)(p:MPl):MPl:=if p.done=true then p else(p.1,p.2.1,p.2.2.1,p.2.2.2.1,false,true,br,vp, -1)
def agk(p:MPl):MPl:=(p.1,p.2.1,p.2.2.1,p.2.2.2.1,false,p.2.2.2.2.2)
def ad6(vp:MT.PT)(i:Nat):MPl->List PE->MPl
 |p,[]=>p
 |p,e::es=>ad6 vp i (if e.sync=(i:Int)then adG vp e.branch p else p) es
section
variable {own:Int->pE} {cl:Bool} {cd:Int} {la lf b:Nat} {x x':WS} {ms:List MS} {s':Ar} {v:Nat}
theorem o5.tnA(h:o5 own cl cd la lf b x ms)(n:Nat)(hn:n<x.cos.length)(hc:(n:Int)=cd)(t:abN x.s s' x.cos[n].a v):o5 own cl cd v lf (b+1) (x.ar s') ms:=by
 have ho:=h.ca n hn;have hf:∀m (hm:m<ms.length),s'.val ms[m].flag=x.s.val ms[m].flag:=fun m hm=>t.other (h.sf m hm) (by rw[ho.1];exact fun e=>by cases e);refine⟨h.sys,fun n hn=>(h.ch n hn).tn t,fun n hn=>(h.ca n hn).tn t,fun n hn=>(h.cf n hn).tn t,fun n hn=>(h.sf n hn).tn t,fun m hm e=>?_,fun m hm e=>(t.other (h.cf m hm) (by rw[ho.1];exact fun e=>by cases e)).trans (h.fr m hm e),fun m hm=>?_,fun m hm=>?_,fun hc m hm=>?_,h.en,fun n hn=>Nat.le_trans (h.q n hn) (by omega),?_⟩
 .obtain rfl:m=n:=by omega
  exact t.v
 .show s'.val _<=2;rw[hf m hm];exact h.f2 m hm
 .show _↔s'.val _=2;rw[hf m hm];exact h.fd m hm
 .show s'.val _≠1;rw[hf m hm];exact h.fc hc m hm
 .have :=t.l;have :=h.lg;show s'.L.length<=_;omega
theorem o5.tnR(h:o5 own cl cd la lf b x ms)(n:Nat)(hn:n<x.cos.length)(hc:(n:Int)=cd)(t:abN x.s s' x.cos[n].f v):o5 own cl cd la v (b+1) (x.ar s') ms:=by
 have ho:=h.cf n hn;have hf:∀m (hm:m<ms.length),s'.val ms[m].flag=x.s.val ms[m].flag:=fun m hm=>t.other (h.sf m hm) (by rw[ho.1];exact fun e=>by cases e);refine⟨h.sys,fun n hn=>(h.ch n hn).tn t,fun n hn=>(h.ca n hn).tn t,fun n hn=>(h.cf n hn).tn t,fun n hn=>(h.sf n hn).tn t,fun m hm e=>(t.other (h.ca m hm) (by rw[ho.1];exact fun e=>by cases e)).trans (h.lk m hm e),fun m hm e=>?_,fun m hm=>?_,fun m hm=>?_,fun hc m hm=>?_,h.en,fun n hn=>Nat.le_trans (h.q n hn) (by omega),?_⟩
 .obtain rfl:m=n:=by omega
  exact t.v
 .show s'.val _<=2;rw[hf m hm];exact h.f2 m hm
 .show _↔s'.val _=2;rw[hf m hm];exact h.fd m hm
 .show s'.val _≠1;rw[hf m hm];exact h.fc hc m hm
 .have :=t.l;have :=h.lg;show s'.L.length<=_;omega
end
structure afJ(own:Int->pE)(cd:Nat)(la lf b:Nat)(x:WS)(ms:List MS)(l:List PE)(f:Nat->MPl->MPl)(fin:Nat->MPl):Prop where
 fair:x.Fair ms
 inv:o5 own false cd la lf b x ms
 hc:cd<x.cos.length
 fin:∀i (h:i<ms.length),ad6 aej i (f i ms[i].plain) l=fin i
def aeO(ms:List MS)(e:ME):Prop:=∃(k:Nat) (hk:k<ms.length),e.sync=(k:Int)/\0<=e.branch/\e.branch<(ms[k].bases.length:Int)
inductive FSt (own:Int->pE) (cd b:Nat) (fin:Nat->MPl) (x:WS) (ms:List MS):Int->ME->Nat->Prop where
 |s1 {es:List ME} (he:∀h:cd<x.cos.length,x.cos[cd].es=es) (h:afJ own cd 0 0 b x ms (es.map ME.plain) (fun _ p=>p) fin):FSt own cd b fin x ms 1 ME.zero (3*es.length+4)
 |s2 {es:List ME} (he:∀h:cd<x.cos.length,x.cos[cd].es=es) (h:afJ own cd 1 0 b x ms (es.map ME.plain) (fun _ p=>p) fin):FSt own cd b fin x ms 2 ME.zero (3*es.length+3)
 |s3 {es:List ME} (he:∀h:cd<x.cos.length,x.cos[cd].es=es) (h:afJ own cd 1 1 b x ms (es.map ME.plain) (fun _ p=>p) fin):FSt own cd b fin x ms 3 ME.zero (3*es.length+2)
 |s4 {es:List ME} {e:ME} (he:∀h:cd<x.cos.length,x.cos[cd].es=es) (ho:aeO ms e) (h:afJ own cd 1 1 b x ms (e.plain::es.map ME.plain) (fun _ p=>p) fin):FSt own cd b fin x ms 4 e (3*es.length+4)
 |s5 {es:List ME} {e:ME} (he:∀h:cd<x.cos.length,x.cos[cd].es=es) (ho:aeO ms e) (h:afJ own cd 1 1 b x ms (es.map ME.plain) (fun i p=>if e.sync=(i:Int)then agk p else p) fin):FSt own cd b fin x ms 5 e (3*es.length+3)
 |s6 (he:∀h:cd<x.cos.length,x.cos[cd].es=[]) (h:afJ own cd 1 1 b x ms [] (fun _ p=>p) fin):FSt own cd b fin x ms 6 ME.zero 1
 |s7 (he:∀h:cd<x.cos.length,x.cos[cd].es=[]) (h:afJ own cd 0 1 b x ms [] (fun _ p=>p) fin):FSt own cd b fin x ms 7 ME.zero 0
section
variable {own:Int->pE} {cd b:Nat} {fin:Nat->MPl} {x x':WS} {ms:List MS} {e:ME} {n:Nat}
theorem ag0(h:FSt own cd b fin x ms 1 e n):(x.cK cd).1=true/\(x.cK cd).2.1=0/\∃m,n=m+1/\FSt own cd (b+1) fin (x.ar (x.cK cd).2.2) ms 2 ME.zero m:=by
 cases h
 rename_i es he h;have ho:=h.inv.ca cd h.hc;have hz:=h.inv.lk cd h.hc rfl;obtain⟨h1,h2,h3⟩:=aeP h.hc ho.2;rw[hz]at h1 h3;exact⟨h1,h2,_,rfl,.s2 he ⟨(bq.ar h.fair (uD x _) aeF).fair,h.inv.tnA cd h.hc rfl h3,h.hc,h.fin⟩⟩
theorem ag8(h:FSt own cd b fin x ms 2 e n):(x.ja cd).1=0/\∃m,n=m+1/\FSt own cd (b+1) fin (x.ar (x.ja cd).2) ms 3 ME.zero m:=by
 cases h
 rename_i es he h;have ho:=h.inv.cf cd h.hc;have hz:=h.inv.fr cd h.hc rfl;obtain⟨h1,h3⟩:=agl h.hc ho.2;rw[hz]at h1 h3;exact⟨h1 rfl,_,rfl,.s3 he ⟨(bq.ar h.fair (vv x _) aeF).fair,h.inv.tnR cd h.hc rfl h3,h.hc,h.fin⟩⟩
theorem agW(h:FSt own cd b fin x ms 6 e n):(x.bZ cd).1=0/\∃m,n=m+1/\FSt own cd (b+1) fin (x.ar (x.bZ cd).2) ms 7 ME.zero m:=by
 cases h
 rename_i he h;have ho:=h.inv.ca cd h.hc;have hz:=h.inv.lk cd h.hc rfl;obtain⟨h1,h3⟩:=afj h.hc ho.2 hz;exact⟨h1,_,rfl,.s7 he ⟨(bq.ar h.fair (qQ x _) aeF).fair,h.inv.tnA cd h.hc rfl h3,h.hc,h.fin⟩⟩
theorem afN{v:aL}{er:Int}(h:FSt own cd b fin x ms 3 e n)(hx:lS x cd v er x'):er=0/\∃m,n=m+1/\((v.is=false/\FSt own cd b fin x' ms 6 ME.zero m)\/∃y:ME,v=aL.of y true/\(∀W,x.P W->y.v.In W)/\FSt own cd b fin x' ms 4 y m):=by
 cases h
 rename_i es he h;rcases hx with ⟨hk,_⟩|⟨k,hk,y,c,hck,hy,rfl,rfl,rfl⟩
 .exact absurd ⟨by omega,by have :=h.hc;omega⟩ hk
 obtain rfl:cd=k:=by omega
 have hes:=he hk;rw[hes]at hy;have hq:=h.fair.good.q2 cd hk;have hin:=fun W hW=>h.fair.good.vals W hW;rcases hy with ⟨rfl,_,hy⟩|⟨rfl,hno,_⟩
 .cases es with
  |nil=>simp at hy
  |cons z es=>
   obtain rfl:z=y:=by simpa using hy
   have hl:∀es':List ME,∀h':cd<(x.jM cd {x.cos[cd]with es:=es'} x.P).cos.length,(x.jM cd {x.cos[cd]with es:=es'} x.P).cos[cd].es=es':=fun es' h'=>by simp[WS.jM]
   have hv:∀W,x.P W->bD W (z::es):=fun W hW=>by have :=(hin W hW).2 _ (List.getElem_mem hk);rwa[hes]at this
   have hen:=h.inv.en cd hk;rw[hes]at hen;refine⟨rfl,3*es.length+4,by simp only[List.length_cons];omega,.inr ⟨z,rfl,fun W hW=>(hv W hW z (by simp)).1,?_⟩⟩;have e0:(if true=true then(x.cos[cd].es).eraseIdx 0 else x.cos[cd].es)=es:=by rw[if_pos rfl,hes];rfl
   rw[e0];refine .s4 (fun h'=>hl es h') (hen z (by simp)) ⟨rR h.fair cd hk _ x.P (fun _ h=>h) (fun W hW e he=>hv W hW e (List.mem_cons_of_mem _ he)) (by show es.length<=4096;rw[hes]at hq;simp at hq;omega),h.inv.jM (k:=b) cd hk {x.cos[cd]with es:=es} ⟨rfl,rfl⟩ _ (Nat.le_refl _) (by have :=h.inv.q cd hk;rw[hes]at this;simp at this;show es.length<=b;omega) (fun e he=>hen e (List.mem_cons_of_mem _ he)),by simp[WS.jM];exact hk,h.fin⟩
 .have hnil:es=[]:=by
   cases es with
   |nil=>rfl
   |cons z es=>exact absurd ⟨by omega,by simp⟩ hno
  subst hnil;refine⟨rfl,1,rfl,.inl ⟨rfl,?_⟩⟩;have e0:(if false=true then(x.cos[cd].es).eraseIdx 0 else x.cos[cd].es)=[]:=by rw[if_neg (by simp),hes]
  rw[e0];exact .s6 (fun h'=>by simp[WS.jM]) ⟨rR h.fair cd hk _ x.P (fun _ h=>h) (fun W hW e he=>by cases he) (Nat.zero_le _),h.inv.jM (k:=b) cd hk {x.cos[cd]with es:=[]} ⟨rfl,rfl⟩ _ (Nat.le_refl _) (Nat.zero_le _) (fun e he=>by cases he),by simp[WS.jM];exact hk,h.fin⟩
theorem agV(h:FSt own cd b fin x ms 4 e n):(x.gL e.sync).2.1=0/\(((x.gL e.sync).1=2/\(∃(k:Nat) (hk:k<ms.length),e.sync=(k:Int)/\ms[k].done=true)/\∃m,m<n/\FSt own cd (b+1) fin (x.ar (x.gL e.sync).2.2) ms 3 ME.zero m)\/((x.gL e.sync).1=0/\∀(u:MT) (er:Int) (x'':WS),u.plain=aej->gN (x.ar (x.gL e.sync).2.2) e.sync e.branch u (-1) er x''->er=0/\∃ms' m,n=m+1/\ms'.length=ms.length/\FSt own cd (b+1) fin x'' ms' 5 e m)):=by
 cases h
 rename_i es he ho h;obtain⟨k,hk,hs,hb1,hb2⟩:=ho;rw[hs];have hl:x.sys.length=ms.length:=by rw[h.inv.sys,List.length_map]
 have hn:k<x.sys.length:=by omega
 obtain⟨hm,e1,hr⟩:=h.inv.flag k hn;have h2:=h.inv.f2 k hk;have h1:=h.inv.fc rfl k hk;have hd:=h.inv.fd k hk;rw[<-e1]at h2 h1 hd;obtain⟨t1,t2,t3⟩:=afq hn hr h2;refine⟨t2,?_⟩;rw[t1];have hF:=(bq.ar h.fair (wu x k) aeF).fair;by_cases h0:x.s.val x.sys[k].flag=0
 .refine .inr ⟨by rw[h0];rfl,fun u er x'' hu hx=>?_⟩
  rw[if_pos h0,e1]at t3;have hdn:ms[k].done=false:=by
   cases hdd:ms[k].done with
   |false=>rfl
   |true=>rw[hd.1 hdd]at h0;cases h0
  obtain⟨rfl,v',hv',rfl⟩:=afe (x:=x.ar (x.gL k).2.2) h.inv.sys hk hdn ⟨hb1,hb2⟩ (by rw[hu];exact afs) ⟨by omega,by omega⟩ hx;rw[hu]at hv';refine⟨rfl,ms.set k (ms[k].did e.branch v' (-1)),3*es.length+3,by omega,by simp,.s5 (fun _=>he h.hc) ⟨k,by simpa using hk,hs,hb1,by rw[List.getElem_set_self];exact hb2⟩ ⟨afF hF hk (by rw[hv'];exact afs),h.inv.done k hk (by rw[<-e1];exact h0) t3 (fun W=>x.P W/\ae5 v' W) (ms[k].did e.branch v' (-1)) rfl rfl rfl (Nat.le_refl _),h.hc,fun i hi=>?_⟩⟩;have hi':i<ms.length:=by simpa using hi
  have hfin:=h.fin i hi';rw[ad6]at hfin;rw[<-hfin];by_cases hik:k=i
  .subst hik
   have e2:e.sync=((k:Nat):Int):=hs;rw[if_pos e2,List.getElem_set_self,if_pos (show e.plain.sync=(k:Int) from hs)];congr 1
   have e3:MPl.done ms[k].plain=false:=hdn;unfold adG;rw[e3];simp only[MS.did,MS.plain,agk,hv',Bool.false_eq_true,if_false];rfl
  .have e2:¬e.sync=((i:Nat):Int):=by rw[hs];omega
   rw[if_neg e2,List.getElem_set_ne hik,if_neg (show ¬e.plain.sync=(i:Int) from e2)]
 .have h22:x.s.val x.sys[k].flag=2:=by omega
  refine .inl ⟨by rw[h22];rfl,⟨k,hk,rfl,hd.2 h22⟩,3*es.length+2,by omega,.s3 (fun _=>he h.hc) ⟨hF,afH h.inv k (.inl (by rw[t1,h22];decide)),h.hc,fun i hi=>?_⟩⟩;have hfin:=h.fin i hi;rw[ad6]at hfin;rw[<-hfin];by_cases hik:k=i
  .subst hik
   rw[if_pos (show e.plain.sync=(k:Int) from hs)];congr 1
   unfold adG;rw[if_pos (show MPl.done ms[k].plain=true from hd.2 h22)]
  .rw[if_neg (show ¬e.plain.sync=(i:Int) from by show ¬e.sync=_;rw[hs];omega)]
theorem ag2{er:Int}(h:FSt own cd b fin x ms 5 e n)(hx:wG x e.sync er x'):er=0/\∃ms' m,n=m+1/\ms'.length=ms.length/\FSt own cd b fin x' ms' 3 ME.zero m:=by
 cases h
 rename_i es he ho h;obtain⟨k,hk,hs,hb1,hb2⟩:=ho;have hl:x.sys.length=ms.length:=by rw[h.inv.sys,List.length_map]
 rcases hx with ⟨hno,_⟩|⟨j,hj,hjk,rfl,rfl⟩
 .exact absurd ⟨by omega,by omega⟩ hno
 obtain rfl:k=j:=by omega
 obtain⟨_,e1⟩:=yx h.inv.sys k hj;have e2:({x.sys[k]with parked:=false}:bL)=MS.raw {ms[k]with parked:=false}:=by rw[e1];rfl
 rw[e2];refine⟨rfl,ms.set k {ms[k]with parked:=false},3*es.length+2,by omega,by simp,.s3 (fun _=>he h.hc) ⟨aem h.fair k hk _ (fun W hW=>by have hcc:=h.fair.good.cont W hW _ (List.getElem_mem hk);exact hcc),h.inv.eP k hk _ rfl rfl rfl,h.hc,fun i hi=>?_⟩⟩;have hi':i<ms.length:=by simpa using hi
 have hfin:=h.fin i hi';rw[<-hfin];by_cases hik:k=i
 .subst hik
  rw[List.getElem_set_self,if_pos hs];rfl
 .rw[List.getElem_set_ne hik,if_neg (by rw[hs];omega)]
end
abbrev KE(B wb:Nat)(v:RV)(lk fd:Nat):ai:=box B 51 #[wb,.slice v.ca v.cn v.cc,v.most,.slice v.la v.ln v.lc,.slice v.ha v.hn v.hc,.slice v.oa v.on v.oc,.slice v.sa v.sn v.sc,.map (some lk),.map (some fd)]
structure S19 where
 x:WS
 ms:List MS
 r:RW
 L:PL
structure afd(own:Int->pE)(cl:Bool)(cd:Int)(la lf k:Nat)(x:WS)(ms:List MS)(L:PL)(p:S19):Prop where
 scn:Scn own cl cd la lf k p.x p.ms p.r
 wb:p.x.wb=x.wb
 L:∀y∈L,y∈p.L
 P:∀W,p.x.P W->x.P W
 len:p.ms.map MS.bl=ms.map MS.bl/\p.x.cos.length=x.cos.length/\p.x.BI.length=x.BI.length
theorem ad2{v:Value}{m m' t:List ai}{f:FuncId}{args:Array Value}(h:∀T w,BD T w w m->Calls prog f args w fun e w'=>e= .returned v/\BD T w w' m'):aai prog f args [m++t] (xq (fun _:Unit=>True) (fun _=>v) fun _=>[m'++t]):=ad4 fun T w hl=>(h T w hl).mono fun e w' ⟨he,hL⟩=>⟨(),he,trivial,hL⟩
section
variable {own:Int->pE} {cl:Bool} {cd:Int} {la lf b:Nat} {x:WS} {ms:List MS} {r:RW} {L:PL}
theorem adL{a:Option Addr}{i:Nat}{us:List Value}(hP:∀W,x.P W->Qk W a i us){bb oo:Nat}(ha:a=some ⟨bb,oo,none⟩)(j:Nat){v:Value}(hv:us[j]? =some v){t:ai}:abv (x.ts++[t]) bb (oo+i+j) v:=fun T w0 w R hl=>by
 obtain⟨b',o',hb',_,hc⟩:=hP w (hl.still 2 rfl);rw[ha]at hb';injection hb' with hb'
 injection hb' with e1 e2
 subst e1 e2;exact hc j v hv
theorem ahP(h:Scn own cl cd la lf b x ms r)(hb:4*b+8<1000000)(B lk fd:Nat)(s:Int):aai prog 53 #[B,s] [[KE B x.wb r.v lk fd],x.ts++[r.th L]] (xq (afd own cl cd la lf (b+2) x ms L) (fun _=> .tuple #[]) fun p=>[[KE B p.x.wb p.r.v lk fd],p.x.ts++[p.r.th p.L]]):=by
 have hno:afd own cl cd la lf (b+2) x ms L ⟨x,ms,r,L⟩:=⟨h.more (by omega),rfl,fun _ h=>h,fun _ h=>h,rfl,rfl,rfl⟩;by_cases h0:s<0
 .have d0:decide (s<0)=true:=decide_eq_true h0
  refine aai.go func53 ntmps53 ?_;refine go ?_;refine W.abg ?_;exact⟨_,hno,rfl,rfl⟩
 have d0:decide (s<0)=false:=decide_eq_false h0;by_cases h1:(r.v.sn:Int)<=s
 .have d1:decide (s<(r.v.sn:Int))=false:=decide_eq_false (by omega)
  have d2:decide ((r.v.sn:Int)<=s)=true:=decide_eq_true h1;refine aai.go func53 ntmps53 ?_;refine go ?_;refine W.abg ?_;exact⟨_,hno,rfl,rfl⟩
 obtain⟨n,rfl⟩:=Int.eq_ofNat_of_zero_le (by omega:0<=s);have hn:n<r.sys.length:=by have :=h.both.fits.n;omega
 have hm:n<ms.length:=by have :=(PD h.both.rel.n).1;omega
 refine aai.know (p:=∃bb oo,r.v.sa=some ⟨bb,oo,none⟩) (fun T w hl=>by obtain⟨bb,oo,h2,_⟩:=h.both.SA n hn w (hl.still 3 rfl);exact⟨bb,oo,h2⟩) ?_;rintro⟨bb,oo,hba⟩;have hl1:abv (x.ts++[r.th L]) bb (oo+n*11+1) (.slice r.sys[n].ba r.sys[n].bases.length r.sys[n].bc):=adL (h.both.SA n hn) hba 1 rfl;have d1:decide ((n:Int)<(r.v.sn:Int))=true:=decide_eq_true (by omega);have d2:decide ((r.v.sn:Int)<=(n:Int))=false:=decide_eq_false h1;have d8:decide (r.v.sn<=n)=false:=decide_eq_false (by omega);have d9:decide (n<r.v.sn)=true:=decide_eq_true (by omega);have k0:(0:Int)<=(n:Int):=by omega
 have k1:(n:Int)<(r.v.sn:Int):=by omega
 by_cases hz:r.sys[n].bases.length=0
 .have d3:decide ((r.sys[n].bases.length:Int)=0)=true:=decide_eq_true (by omega)
  have d4:((r.sys[n].bases.length:Int)==0)=true:=by simpa using hz
  refine aai.go func53 ntmps53 ?_;refine go ?_;refine W.abg ?_;exact⟨_,hno,rfl,rfl⟩
 have d4:((r.sys[n].bases.length:Int)==0)=false:=by simpa using hz
 have d3:decide ((r.sys[n].bases.length:Int)=0)=false:=decide_eq_false (by omega);have d6:decide (r.sys[n].bases.length=0)=false:=decide_eq_false hz;have d7:(r.sys[n].bases.length==0)=false:=by simpa using hz
 have hT:=acY (Xe (L:=L) h.both h.inv.sys (by have :=h.inv.lg;omega) (n:Int));have hTw:∀t,aai prog 144 #[x.wb,(n:Int)] [x.ts++t] _:=fun t=>ad2 fun T w hl=>J3 T w x (n:Int) hl (by have :=h.inv.lg;omega);simp only[RV.val]at hT;obtain⟨hms,e1,hr⟩:=h.inv.flag n (by rw[h.inv.sys,List.length_map];exact hm);have hnx:n<x.sys.length:=by rw[h.inv.sys,List.length_map];exact hm
 have hf2:x.s.val x.sys[n].flag<=2:=by rw[e1];exact h.inv.f2 n hm
 obtain⟨t1,t2,t3⟩:=afq hnx hr hf2;have hx1:(x.ar (x.gL n).2.2).Fair ms:=(bq.ar h.fair (wu x n) aeF).fair;by_cases hw:(x.gL n).1=0
 .have hv0:x.s.val ms[n].flag=0:=by rw[<-e1];rw[t1]at hw;omega
  have hdn:ms[n].done=false:=by
   cases hdd:ms[n].done with
   |false=>rfl
   |true=>have :=(h.inv.fd n hm).1 hdd;omega
  have hbl:ms[n].bases.length=r.sys[n].bases.length:=(PD (Uf ((PD h.both.rel.n).2 n hm hn)).2.1).1;have hx2:∀(v':RV),PG r.v v'->Both (x.ar (x.gL n).2.2) ms {r with v:=v',s:=(x.gL n).2.2}:=fun v' hv=>QC h.both hv (wu x n);rw[if_pos (by rw[e1];exact hv0),e1]at t3;have hbp:(0:Int)<(ms[n].bases.length:Int):=by omega
  rw[hw]at hT hTw;generalize hge:(x.gL (n:Int)).2.1=we at hT hTw;clear hge h1 h0 e1 t1 t2 hf2 hr hz hbl;refine aai.go func53 ntmps53 ?_;refine go1 fun b4=>?_;refine cr hT fun⟨v',L'⟩ ⟨Qy,hv⟩=>?_;have hBB:=hx2 v' hv;have hC:=ac4 (α:=Int) (H:=fun err r' Q=>Tv {r with v:=v',s:=(x.gL n).2.2} n 0 aei (-1) err r'/\∀W,Q W->r'.On W) (vf:=fun err v=> .tuple #[v.val,.int .i64 err]) (VO (L:=L') hBB hx1 (n:Int) 0 aei (-1) (fun W _=>MT.dQ W) (by simp[aei,MT.nodes,MT.aV])) (fun e r' Q ⟨err,he,h1,h2⟩=>⟨err,⟨h1,h2⟩,he⟩);simp only[RV.val]at hC;refine go1 fun b5=>?_;refine cr (hTw _) fun _ _=>?_;refine go ?_;refine cr hC fun⟨err,r',L2,Q⟩ ⟨hL2,⟨hrc,hon⟩,hQ⟩=>?_;have hW:aai prog 145 #[x.wb,(n:Int),(),.agg #[(1:Int),(),True],.int .i64 (-1)] [({x.ar (x.gL n).2.2 with P:=Q}:WS).ts++[r'.th L2]] (xq (fun y:Int×WS=>gN {x.ar (x.gL n).2.2 with P:=Q} n 0 aei (-1) y.1 y.2) (fun y=> .int .i64 y.1) fun y=>[y.2.ts++[r'.th L2]]):=ad4 (mf:=fun y:Int×WS=>y.2.ts) fun T w hl=>(qz T w {x.ar (x.gL n).2.2 with P:=Q} n 0 aei (-1) hl (fun W _=>MT.dQ W) (by have :=h.fair.good.l3;show x.sys.length<=1000000;omega)).mono fun e w' ⟨er,x',he,hx,hL⟩=>⟨(er,x'),he,hx,hL⟩;refine go ?_;refine W.rgd ?_;repeat (refine' rgk ?_;rotate_left)
  refine rgz 0 ?_ ?_;refine go ?_;refine cr hW fun⟨er,x'⟩ hx=>?_;refine go ?_;obtain⟨_,_,v2,hv2,hxe,hF,hB⟩:=ahs (x:=x.ar (x.gL n).2.2) (v:=aei) hm hdn ⟨Int.le_refl _,hbp⟩ afs ⟨by omega,by omega⟩ hBB hx1 hQ hon hrc hx;replace hxe:x'=_:=hxe
  refine fnq (bqn (Y:=[[KE B x.wb r'.v lk fd],x'.ts++[r'.th L2]]) ?_);refine⟨⟨x',ms.set n (ms[n].did 0 v2 (-1)),r',L2⟩,⟨⟨hF,hB,?_⟩,by rw[hxe];rfl,fun y hy=>hL2 y (Qy y hy),fun W hW=>by rw[hxe]at hW;exact hQ W hW.1,ahv hm rfl,by rw[hxe];exact⟨rfl,rfl⟩⟩,rfl,by rw[hxe];rfl⟩
  .rw[hxe]
   exact h.inv.done n hm hv0 t3 (fun W=>Q W/\ae5 v2 W) (ms[n].did 0 v2 (-1)) rfl rfl rfl (by omega)
  .kernel_rfl
 .have d5:((x.gL n).1==0)=false:=by simpa using hw
  have hi:=afH h.inv (n:Int) (.inl hw);clear h1 h0 e1 t1 t2 t3 hf2 hr hz;generalize hgi:(x.gL (n:Int)).1=wi at hT hTw d5 hw;generalize hge:(x.gL (n:Int)).2.1=we at hT hTw;clear hgi hge;refine aai.go func53 ntmps53 ?_;refine go1 fun b4=>?_;refine cr hT fun⟨v',L'⟩ ⟨Qy,hv⟩=>?_;refine go1 fun b5=>?_;refine cr (hTw _) fun _ _=>?_;refine go ?_;refine fnq (bqn (Y:=[[KE B x.wb v' lk fd],(x.ar (x.gL n).2.2).ts++[RW.th {r with v:=v',s:=(x.gL n).2.2} L']]) ?_);exact⟨⟨x.ar (x.gL n).2.2,ms,{r with v:=v',s:=(x.gL n).2.2},L'⟩,⟨(h.ar hv (wu x n) hi).more (by omega),rfl,Qy,fun _ h=>h,rfl,rfl,rfl⟩,rfl,rfl⟩
end
end Go.Proofs.YtegejdlglonflaaGreatDoor
