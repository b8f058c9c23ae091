/-
  Texts of FirePlays, laid together by program.
-/
import Derived.Test.YtegejdlglonflaaGreatDoorWZ41
import Derived.Test.YtegejdlglonflaaGreatDoorWZ42
namespace Go.Proofs.YtegejdlglonflaaGreatDoor
open Go.RowKit Go.Shelf Go.Proofs.Tryz
set_option maxRecDepth 100000
set_option maxHeartbeats 8000000
set_option linter.unusedVariables false
set_option linter.unusedSimpArgs false
def aip(at_:Int):Nat:=if at_=1\/at_=7 then 0 else 1
def aim(at_:Int):Nat:=if at_=1\/at_=2 then 0 else 1
structure aek(own:Int->pE)(cd b:Nat)(x:WS)(ms:List MS)(r:RW)(at_:Int)(e z:ME):Prop where
 scn:Scn own true cd (aip at_) (aim at_) b x ms r
 hc:cd<x.cos.length
 rng:1<=at_/\at_<=7
 pl:e.plain=z.plain
 ok:at_=4\/at_=5->aeO ms e
 zero:¬(at_=4\/at_=5)->e=ME.zero/\z=ME.zero
 ein:(e.v.nodes<=256/\z.v.nodes<=256)/\∀W,x.P W->e.v.In W/\z.v.In W
theorem ahd{Q:World->Prop}:(ME.zero.v.nodes<=256/\ME.zero.v.nodes<=256)/\∀W,Q W->ME.zero.v.In W/\ME.zero.v.In W:=⟨⟨Qx,Qx⟩,fun W _=>⟨MT.dQ W,MT.dQ W⟩⟩
structure RStp where
 r:RW
 L:PL
 Q:World->Prop
 at_:Int
 z:ME
 k1:Int
 k2:Int
 k3:Int
 k4:Int
 err:Int
structure aiR where
 x:WS
 ms:List MS
 e:ME
structure SBOk(own:Int->pE)(cd b:Nat)(x:WS)(ms:List MS)(p:RStp)(s:aiR):Prop where
 fb:aek own cd b s.x s.ms p.r p.at_ s.e p.z
 wb:s.x.wb=x.wb
 P:∀W,s.x.P W->x.P W
 co:s.x.cos.length=x.cos.length
structure MidB(own:Int->pE)(cd b:Nat)(x:WS)(ms:List MS)(at_:Int)(e:ME)(L:PL)(p:RStp):Prop where
 L:∀y∈L,y∈p.L
 P:∀W,p.Q W->x.P W
 go:∀f,aai prog 14 #[.pointer (some ⟨f,0,none⟩),x.wb] [[zo f e at_ cd],({x with P:=p.Q}:WS).ts++[p.r.th p.L]] (xq (SBOk own cd (b+2) x ms p) (fun _=> .tuple #[mvV p.k1 p.k2 p.k3 p.k4,p.err]) fun s=>[[zo f s.e p.at_ cd],s.x.ts++[p.r.th p.L]])
def aeL(own:Int->pE)(cd b:Nat)(x:WS)(ms:List MS)(r:RW)(L:PL)(at_:Int)(e z:ME):Prop:=
 aai prog 20 #[.agg #[(cd:Int),at_,z.sync,z.thread,z.branch,z.flag,z.v.kind,z.v.num,.slice z.v.addr z.v.parts.length z.v.cap],.agg #[.slice r.v.ca r.v.cn r.v.cc,r.v.most,.slice r.v.la r.v.ln r.v.lc,.slice r.v.ha r.v.hn r.v.hc,.slice r.v.oa r.v.on r.v.oc,.slice r.v.sa r.v.sn r.v.sc]] [x.ts++[r.th L]] (xq (MidB own cd b x ms at_ e L) (fun p=> .tuple #[.agg #[.slice p.r.v.ca p.r.v.cn p.r.v.cc,p.r.v.most,.slice p.r.v.la p.r.v.ln p.r.v.lc,.slice p.r.v.ha p.r.v.hn p.r.v.hc,.slice p.r.v.oa p.r.v.on p.r.v.oc,.slice p.r.v.sa p.r.v.sn p.r.v.sc],.agg #[(cd:Int),p.at_,p.z.sync,p.z.thread,p.z.branch,p.z.flag,p.z.v.kind,p.z.v.num,.slice p.z.v.addr p.z.v.parts.length p.z.v.cap],mvV p.k1 p.k2 p.k3 p.k4,p.err]) fun p=>[({x with P:=p.Q}:WS).ts++[p.r.th p.L]])
theorem ac8(x:WS)(t:List ai)(hlen:x.sys.length<=1000000):aai prog 165 #[x.wb,.int .i64 (-1)] [x.ts++t] (xq (fun _:Unit=>True) (fun _=> .int .i64 4) fun _=>[x.ts++t]):=ad2 fun T w hl=>(aha T w x (-1) hl hlen).mono fun e w' ⟨er,x',he,hx,hL⟩=>by
 rcases hx with ⟨_,rfl,rfl⟩|⟨n,_,hn,_⟩
 .exact⟨he,hL⟩
 .omega
section
variable {own:Int->pE} {cd b:Nat} {x:WS} {ms:List MS} {r:RW} {L:PL} {e z:ME}
theorem aek.lg{at_:Int}(h:aek own cd b x ms r at_ e z):x.s.L.length<=4*b/\x.sys.length<=1000000:=⟨h.scn.inv.lg,by have :=h.scn.fair.good.l3;omega⟩
theorem Scn.ar2{cl:Bool}{la lf la' lf' k:Nat}{cd':Int}{v':RV}{s':Ar}(h:Scn own cl cd' la lf b x ms r)(hv:PG r.v v')(ho:One x.s s')(hi:o5 own cl cd' la' lf' k (x.ar s') ms):Scn own cl cd' la' lf' k (x.ar s') ms {r with v:=v',s:=s'}:=⟨(bq.ar h.fair ho aeF).fair,QC h.both hv ho,hi⟩
theorem aiG{x':WS}{A:Prop}(h:A/\∀W,x.P W->e.v.In W/\z.v.In W)(hP:∀W,x'.P W->x.P W):A/\∀W,x'.P W->e.v.In W/\z.v.In W:=⟨h.1,fun W hW=>h.2 W (hP W hW)⟩
theorem ai9(h:aek own cd b x ms r 1 e z)(hb:4*b+8<1000000):aeL own cd b x ms r L 1 e z:=by
 obtain⟨hL,hs⟩:=h.lg;have hc:=h.hc;have ho:=h.scn.inv.ca cd h.hc;have hz:x.s.val x.cos[cd].a=0:=h.scn.inv.lk cd h.hc rfl;obtain⟨h1,h2,h3⟩:=aeP h.hc ho.2;rw[hz]at h1 h3;have e2:(x.cK cd)=(true,0,(x.cK cd).2.2):=Prod.ext h1 (Prod.ext h2 rfl);have hR:=acY (UC (L:=L) h.scn.both (by omega) (cd:Int));have hW:=fun t=>ad2 (t:=t) fun T w hl=>xZ T w x (cd:Int) hl (by omega);have hone:=uD x (cd:Int);rw[e2]at hR hW hone;obtain⟨s1,hs1⟩:∃s1,(x.cK cd).2.2=s1:=⟨_,rfl⟩;rw[hs1]at hR hW hone h3;simp only[RV.val]at hR;have hi:o5 own true cd (aip 2) (aim 2) (b+1) (x.ar s1) ms:=h.scn.inv.tnA cd h.hc rfl h3;refine(aiZ (v:=fun p:RV×PL=>p.1) (er:=fun _=>0) (n:=(cd:Int)) (e:=z) hR).mono (xq.mono fun p ⟨Qy,hv⟩=>?_);refine⟨⟨{r with v:=p.1,s:=s1},p.2,x.P,2,z,2,0,0,0,0⟩,⟨Qy,fun _ h=>h,fun f=>?_⟩,rfl,rfl⟩;exact(ae9 (ac8 x _ hs) (agu (f:=f) (e:=e) (at_:=1) (hW _))).mono (xq.mono fun _ _=>⟨⟨x.ar s1,ms,e⟩,⟨⟨(h.scn.ar2 hv hone hi).more (by omega),h.hc,by simp,h.pl,by simp,fun _=>h.zero (by simp),h.ein⟩,rfl,fun _ h=>h,rfl⟩,rfl,rfl⟩)
theorem ai2(h:aek own cd b x ms r 2 e z)(hb:4*b+8<1000000):aeL own cd b x ms r L 2 e z:=by
 obtain⟨hL,hs⟩:=h.lg;have hc:=h.hc;have ho:=h.scn.inv.cf cd h.hc;have hz:x.s.val x.cos[cd].f=0:=h.scn.inv.fr cd h.hc rfl;obtain⟨h1,h3⟩:=agl h.hc ho.2;rw[hz]at h1 h3;have e2:(x.ja cd)=(0,(x.ja cd).2):=Prod.ext (h1 rfl) rfl;have hR:=acY (Xg (L:=L) h.scn.both (by omega) (cd:Int));have hW:=fun t=>ad2 (t:=t) fun T w hl=>Kh T w x (cd:Int) hl (by omega);have hone:=vv x (cd:Int);rw[e2]at hR hW hone;obtain⟨s1,hs1⟩:∃s1,(x.ja cd).2=s1:=⟨_,rfl⟩;rw[hs1]at hR hW hone h3;simp only[RV.val]at hR;have hi:o5 own true cd (aip 3) (aim 3) (b+1) (x.ar s1) ms:=h.scn.inv.tnR cd h.hc rfl h3;refine(aiU (v:=fun p:RV×PL=>p.1) (n:=(cd:Int)) (e:=z) hR).mono (xq.mono fun p ⟨Qy,hv⟩=>?_);refine⟨⟨{r with v:=p.1,s:=s1},p.2,x.P,3,z,4,0,0,cd,0⟩,⟨Qy,fun _ h=>h,fun f=>?_⟩,rfl,rfl⟩;exact(aeV (ac8 x _ hs) (agb (f:=f) (e:=e) (at_:=2) (hW _))).mono (xq.mono fun _ _=>⟨⟨x.ar s1,ms,e⟩,⟨⟨(h.scn.ar2 hv hone hi).more (by omega),h.hc,by simp,h.pl,by simp,fun _=>h.zero (by simp),h.ein⟩,rfl,fun _ h=>h,rfl⟩,rfl,rfl⟩)
theorem aiX(h:aek own cd b x ms r 6 e z)(hb:4*b+8<1000000):aeL own cd b x ms r L 6 e z:=by
 obtain⟨hL,hs⟩:=h.lg;have hc:=h.hc;have ho:=h.scn.inv.ca cd h.hc;have hz:x.s.val x.cos[cd].a=1:=h.scn.inv.lk cd h.hc rfl;obtain⟨h1,h3⟩:=afj h.hc ho.2 hz;have e2:(x.bZ cd)=(0,(x.bZ cd).2):=Prod.ext h1 rfl;have hR:=acY (Uk (L:=L) h.scn.both (by omega) (cd:Int));have hW:=fun t=>ad2 (t:=t) fun T w hl=>tK T w x (cd:Int) hl (by omega);have hone:=qQ x (cd:Int);rw[e2]at hR hW hone;obtain⟨s1,hs1⟩:∃s1,(x.bZ cd).2=s1:=⟨_,rfl⟩;rw[hs1]at hR hW hone h3;simp only[RV.val]at hR;have hi:o5 own true cd (aip 7) (aim 7) (b+1) (x.ar s1) ms:=h.scn.inv.tnA cd h.hc rfl h3;refine(aiT (v:=fun p:RV×PL=>p.1) (er:=fun _=>0) (n:=(cd:Int)) (e:=z) hR).mono (xq.mono fun p ⟨Qy,hv⟩=>?_);refine⟨⟨{r with v:=p.1,s:=s1},p.2,x.P,7,z,2,0,0,0,0⟩,⟨Qy,fun _ h=>h,fun f=>?_⟩,rfl,rfl⟩;exact(ae6 (ac8 x _ hs) (agO (f:=f) (e:=e) (at_:=6) (hW _))).mono (xq.mono fun _ _=>⟨⟨x.ar s1,ms,e⟩,⟨⟨(h.scn.ar2 hv hone hi).more (by omega),h.hc,by simp,h.pl,by simp,fun _=>h.zero (by simp),h.ein⟩,rfl,fun _ h=>h,rfl⟩,rfl,rfl⟩)
theorem ain{α:Type}{l:List α}{c:Bool}{y:α}(h:y∈(if c=true then l.eraseIdx 0 else l)):y∈l:=by
 cases c with
 |true=>exact List.mem_of_mem_eraseIdx h
 |false=>exact h
theorem aiz{own:Int->pE}{cl:Bool}{cd:Int}{la lf b:Nat}{x x':WS}{ms:List MS}{k er:Int}{v:aL}(h:o5 own cl cd la lf b x ms)(hx:lS x k v er x'):o5 own cl cd la lf b x' ms/\x'.wb=x.wb/\x'.cos.length=x.cos.length/\x'.P=x.P/\∀y,v=aL.of y true->aeO ms y:=by
 rcases hx with ⟨_,rfl,_,rfl⟩|⟨n,hn,y,c,rfl,hA,rfl,rfl,rfl⟩
 .exact⟨h,rfl,rfl,rfl,fun y hy=>by have :=congrArg aL.is hy;cases this⟩
 .have hlen:(if c=true then x.cos[n].es.eraseIdx 0 else x.cos[n].es).length<=x.cos[n].es.length:=by
   cases c
   .exact Nat.le_refl _
   .exact List.length_eraseIdx_le _ _
  refine⟨h.jM (k:=b) n hn {x.cos[n]with es:=if c=true then x.cos[n].es.eraseIdx 0 else x.cos[n].es} ⟨rfl,rfl⟩ _ (Nat.le_refl _) (Nat.le_trans hlen (h.q n hn)) (fun e he=>h.en n hn e (ain he)),rfl,by simp[WS.jM],rfl,fun y' hy'=>?_⟩;have hc:c=true:=congrArg aL.is hy';subst hc;have hs:y.sync=y'.sync:=congrArg aL.sync hy';have hb:y.branch=y'.branch:=congrArg aL.branch hy';rcases hA with ⟨_,_,hy⟩|⟨h0,_⟩
  .obtain⟨k,hk,h1,h2,h3⟩:=h.en n hn y (List.mem_of_getElem? hy)
   exact⟨k,hk,by rw[<-hs];exact h1,by rw[<-hb];exact h2,by rw[<-hb];exact h3⟩
  .cases h0
theorem aid{es:List ME}{z:ME}{c:Bool}(h:kF es 0 z c):(c=true/\es≠[])\/(c=false/\es=[]/\z=ME.zero):=by
 rcases h with ⟨rfl,_,hy⟩|⟨rfl,hno,rfl⟩
 .exact .inl ⟨rfl,fun he=>by rw[he]at hy;simp at hy⟩
 .refine .inr ⟨rfl,?_,rfl⟩
  cases es with
  |nil=>rfl
  |cons a l=>exact absurd ⟨Int.le_refl _,by simp only[List.length_cons];omega⟩ hno
structure NxtB(own:Int->pE)(cd b:Nat)(x:WS)(ms:List MS)(r':RW)(z:ME)(c:Bool)(p:ME×WS):Prop where
 scn:Scn own true cd 1 1 b p.2 ms r'
 wb:p.2.wb=x.wb
 co:p.2.cos.length=x.cos.length
 P:∀W,p.2.P W->x.P W
 pl:p.1.plain=z.plain
 ok:c=true->aeO ms p.1
 ein:∀W,p.2.P W->p.1.v.In W
theorem ahZ(h:aek own cd b x ms r 3 e z){Q:World->Prop}{r':RW}{z':ME}{c:Bool}{t:List ai}(hQ:∀W,Q W->x.P W)(hon:∀W,Q W->r'.On W)(hr:VZ r cd z' c 0 r'):aai prog 17 #[x.wb,(cd:Int)] [({x with P:=Q}:WS).ts++t] (xq (NxtB own cd b {x with P:=Q} ms r' z' c) (fun y=> .tuple #[.agg #[.int .i64 y.1.sync,.int .i64 y.1.thread,.int .i64 y.1.branch,.int .i64 y.1.flag,.int .i64 y.1.v.kind,.int .i64 y.1.v.num,.slice y.1.v.addr y.1.v.parts.length y.1.v.cap],c,()]) fun y=>[y.2.ts++t]):=
 ad4 (mf:=fun y:ME×WS=>y.2.ts) fun T w hl=>(afX T w {x with P:=Q} (cd:Int) hl h.scn.fair.good.q2).mono fun en w' ⟨v,er,x',he,hx,hL⟩=>by
  have hF:=h.scn.fair.fJ Q hQ;obtain⟨⟨y,b',hv,rfl,hp,her,hin⟩,hB⟩:=Wo h.scn.both h.scn.fair hQ hon hr hx;obtain⟨hi,hw,hc,hP,hok⟩:=aiz (h.scn.inv.know Q) hx;refine⟨(y,x'),by rw[he,hv,her];rfl,⟨⟨(xh (a:=adZ) hF hx).fair,hB,hi⟩,hw,hc,fun W hW=>by rw[hP]at hW;exact hW,hp,fun hb=>hok y (by rw[hv,hb]),hin⟩,hL⟩
theorem aiW(h:aek own cd b x ms r 3 e z)(hb:4*b+8<1000000):aeL own cd b x ms r L 3 e z:=by
 obtain⟨hL,hs⟩:=h.lg;have hcr:cd<r.cos.length:=by have :=(PD h.scn.both.rel.o).1;have :=h.hc;omega
 obtain⟨hez,hzz⟩:=h.zero (by decide);by_cases hes:r.cos[cd].es=[]
 .have hR:=ac4 (α:=ME) (H:=fun z' r' Q=>VZ r cd z' false 0 r'/\z'=ME.zero/\∀W,Q W->r'.On W) (vf:=fun z' v=> .tuple #[v.val,z'.val,false,()]) (Xo (L:=L) h.scn.both h.scn.fair (cd:Int)) (fun en r' Q ⟨z',c,err,he,hr,hn,hq⟩=>by
   rcases hr with ⟨hno,_⟩|⟨n,hn',d,a,m,hk,rfl,hA,hd,rfl⟩
   .exact absurd ⟨by omega,by have :=h.scn.both.fits.o;omega⟩ hno
   .obtain rfl:cd=n:=by omega
    rcases aid hA with ⟨rfl,hne⟩|⟨rfl,_,hz⟩
    .exact absurd hes hne
    .exact⟨z',⟨.inr ⟨cd,hn',d,a,m,rfl,rfl,hA,hd,rfl⟩,hz,fun W hW=>(hq W hW).1⟩,he⟩)
  simp only[RV.val,ME.val]at hR;refine(aiB (v:=fun p:ME×RW×PL×(World->Prop)=>p.2.1.v) (z:=fun p=>p.1) (er:=fun _=>0) (n:=(cd:Int)) (e:=z) hR).mono (xq.mono fun p ⟨Qy,⟨hr,hz0,hon⟩,hQ⟩=>?_);refine⟨⟨p.2.1,p.2.2.1,p.2.2.2,6,p.1,2,0,0,0,0⟩,⟨Qy,hQ,fun f=>?_⟩,rfl,rfl⟩;exact(aew (ac8 {x with P:=p.2.2.2} _ hs) (afp (f:=f) (e:=e) (at_:=3) (ahZ h hQ hon hr))).mono (xq.mono fun y hy=>⟨⟨y.2,ms,e⟩,⟨⟨hy.scn.more (by omega),by rw[hy.co];exact h.hc,by simp,by rw[hez,hz0],by simp,fun _=>⟨hez,hz0⟩,⟨h.ein.1.1,by rw[hz0];exact Qx⟩,fun W hW=>⟨(h.ein.2 W (hQ W (hy.P W hW))).1,by rw[hz0];exact MT.dQ W⟩⟩,hy.wb,fun W hW=>hQ W (hy.P W hW),hy.co⟩,rfl,rfl⟩)
 .have hR:=ac4 (α:=ME) (H:=fun z' r' Q=>VZ r cd z' true 0 r'/\z'.v.nodes<=256/\∀W,Q W->r'.On W/\z'.v.In W) (vf:=fun z' v=> .tuple #[v.val,z'.val,true,()]) (Xo (L:=L) h.scn.both h.scn.fair (cd:Int)) (fun en r' Q ⟨z',c,err,he,hr,hn,hq⟩=>by
   rcases hr with ⟨hno,_⟩|⟨n,hn',d,a,m,hk,rfl,hA,hd,rfl⟩
   .exact absurd ⟨by omega,by have :=h.scn.both.fits.o;omega⟩ hno
   .obtain rfl:cd=n:=by omega
    rcases aid hA with ⟨rfl,hne⟩|⟨rfl,hno,hz⟩
    .exact⟨z',⟨.inr ⟨cd,hn',d,a,m,rfl,rfl,hA,hd,rfl⟩,hn,hq⟩,he⟩
    .exact absurd hno hes)
  simp only[RV.val,ME.val]at hR;refine(aiy (v:=fun p:ME×RW×PL×(World->Prop)=>p.2.1.v) (z:=fun p=>p.1) (er:=fun _=>0) (n:=(cd:Int)) (e:=z) hR).mono (xq.mono fun p ⟨Qy,⟨hr,hn,hon⟩,hQ⟩=>?_);refine⟨⟨p.2.1,p.2.2.1,p.2.2.2,4,p.1,2,0,0,0,0⟩,⟨Qy,hQ,fun f=>?_⟩,rfl,rfl⟩;exact(aew (ac8 {x with P:=p.2.2.2} _ hs) (afp (f:=f) (e:=e) (at_:=3) (ahZ h hQ (fun W hW=>(hon W hW).1) hr))).mono (xq.mono fun y hy=>⟨⟨y.2,ms,y.1⟩,⟨⟨hy.scn.more (by omega),by rw[hy.co];exact h.hc,by simp,hy.pl,fun _=>hy.ok rfl,fun hno=>absurd (.inl rfl) hno,⟨by rw[cu hy.pl];exact hn,hn⟩,fun W hW=>⟨hy.ein W hW,(hon W (hy.P W hW)).2⟩⟩,hy.wb,fun W hW=>hQ W (hy.P W hW),hy.co⟩,rfl,rfl⟩)
theorem aeO.len{ms ms':List MS}{e:ME}(h:aeO ms e)(hb:ms'.map MS.bl=ms.map MS.bl):aeO ms' e:=by
 obtain⟨k,hk,h1,h2,h3⟩:=h;obtain⟨hl,hm⟩:=PD hb;have hk':k<ms'.length:=by omega
 have hbl:ms'[k].bases.length=ms[k].bases.length:=hm k hk' hk;exact⟨k,hk',h1,h2,by rw[hbl];exact h3⟩
theorem aic{e z:ME}(h:e.plain=z.plain):e.sync=z.sync/\e.branch=z.branch:=⟨congrArg PE.sync h,congrArg PE.branch h⟩
theorem ah4{x:WS}{r:RW}{L:PL}(hfi:r.Fits)(hOn:∀W,x.P W->r.On W)(hsnl:r.v.sn<=100000)(k br:Int)(u:MT)(pt:Int)(hu:∀W,x.P W->u.In W)(hne:u.nodes<=1048576):Does 86 #[r.v.val,k,br,u.val,pt] (x.ts++[r.th L]) (RI x L fun en r' Q=>∃err,en= .returned (.tuple #[r'.v.val,.int .i64 err])/\Tv r k br u pt err r'/\∀W,Q W->r'.On W):=by
 have hEl:∀n (hn:n<r.sys.length),∀W,x.P W->Qk W r.v.sa (n*11) r.sys[n].cells:=fun n hn W hW=>Sy Vv hfi.n (hOn W hW).n n hn;by_cases hk0:0<=k/\k<(r.v.sn:Int)
 case neg=>exact Qa (fun w=>Ap r.v w k br u pt hk0) ⟨4,rfl,.inl ⟨hk0,rfl,rfl⟩,hOn⟩
 case pos=>
  obtain⟨n,rfl⟩:=Int.eq_ofNat_of_zero_le hk0.1;have hsl:=hfi.n;have hk:n<r.v.sn:=by omega
  have hn:n<r.sys.length:=by omega
  refine Qm fun T w hL=>?_;have bad:∀{E:Int} {C:Prop},(Calls prog 86 #[r.v.val,(n:Int),br,u.val,pt] w fun en w'=>en= .returned (.tuple #[r.v.val,E])/\BD T w w' [aA x.P])->Tv r n br u pt E r->Calls prog 86 #[r.v.val,(n:Int),br,u.val,pt] w fun e w'=>∃(r':RW) (Q:World->Prop),((∃err,e= .returned (.tuple #[r'.v.val,.int .i64 err])/\Tv r n br u pt err r'/\∀W,Q W->r'.On W)/\r'.th L=r.th L/\∀W,Q W->x.P W)/\BD T w w' [aA Q]:=fun hc hR=>hc.mono fun e w' ⟨h1,h2⟩=>⟨r,x.P,⟨⟨_,h1,hR,hOn⟩,rfl,fun _ h=>h⟩,h2⟩;by_cases hbr:0<=br/\br<(r.sys[n].bases.length:Int)
  .by_cases hok:u.plain.Ok
   .by_cases hpt: -1<=pt/\pt<(r.sys.length:Int)
    .cases hd:r.sys[n].done
     .refine(UQ T w r.v x.P n r.sys[n] br pt u hL hk hbr ⟨hpt.1,by omega⟩ hd (hEl n hn) (fun W hW=>SB (hu W hW) hne (by simp[hok])) (R2:=fun a m Q=>∀W,Q W->x.P W/\(r.SI n {r.sys[n]with done:=true,branch:=br,v:=u,partner:=pt} a m).On W) (fun T W hL=>?_)).mono ?_
      .refine(XU hfi hsnl n hn T W x.P {r.sys[n]with done:=true,branch:=br,v:=u,partner:=pt} hOn hL).mono ?_
       rintro en w' ⟨Q',rest,⟨a,m,rfl,h3⟩,hL'⟩;exact⟨Q',rest,⟨a,m,rfl,fun W hW=>⟨(h3 W hW).1,(hOn W (h3 W hW).1).SI n (by have hcc:=(hOn W (h3 W hW).1).sy _ (List.getElem_mem hn);exact⟨⟨hu W (h3 W hW).1,lJ hok⟩,hcc.2⟩) (h3 W hW).2⟩⟩,hL'⟩
      .rintro en w' ⟨a,m,Q,rfl,h4,hL'⟩
       exact⟨r.SI n _ a m,Q,⟨⟨0,rfl,.inr ⟨n,hn,rfl,.inr ⟨⟨hbr,hok,hpt⟩,.inr ⟨hd,rfl,a,m,rfl⟩⟩⟩,fun W hW=>(h4 W hW).2⟩,rfl,fun W hW=>(h4 W hW).1⟩,hL'⟩
     .exact bad (C:=True) (UM T w r.v x.P n r.sys[n] br pt u hL hk hbr ⟨hpt.1,by omega⟩ hd (hEl n hn) (fun W hW=>SB (hu W hW) hne (by simp[hok]))) (.inr ⟨n,hn,rfl,.inr ⟨⟨hbr,hok,hpt⟩,.inl ⟨hd,rfl,rfl⟩⟩⟩)
    .have hR:Tv r n br u pt 2 r:= .inr ⟨n,hn,rfl,.inl ⟨fun h=>hpt h.2.2,rfl,rfl⟩⟩
     by_cases h1:pt< -1
     .exact bad (C:=True) (WE T w r.v x.P n r.sys[n] br pt u hL hk ⟨hbr,h1⟩ (hEl n hn) (fun W hW=>SB (hu W hW) hne (by simp[hok]))) hR
     .exact bad (C:=True) (WM T w r.v x.P n r.sys[n] br pt u hL hk ⟨hbr,by omega,by omega⟩ (hEl n hn) (fun W hW=>SB (hu W hW) hne (by simp[hok]))) hR
   .exact bad (C:=True) (Wp T w r.v x.P n r.sys[n] br pt u hL hk hbr (hEl n hn) (fun W hW=>SB (hu W hW) hne (by simp[hok]))) (.inr ⟨n,hn,rfl,.inl ⟨fun h=>hok h.2.1,rfl,rfl⟩⟩)
  .have hR:Tv r n br u pt 2 r:= .inr ⟨n,hn,rfl,.inl ⟨fun h=>hbr h.1,rfl,rfl⟩⟩
   by_cases h0:br<0
   .exact bad (C:=True) (Wm T w r.v x.P n r.sys[n] br pt u hL hk h0 (hEl n hn)) hR
   .exact bad (C:=True) (WJ T w r.v x.P n r.sys[n] br pt u hL hk ⟨by omega,by omega⟩ (hEl n hn)) hR
theorem ai8(h:aek own cd b x ms r 4 e z)(hb:4*b+8<1000000):aeL own cd b x ms r L 4 e z:=by
 obtain⟨hL,hs⟩:=h.lg;obtain⟨k,hk,hsy,hb1,hb2⟩:=h.ok (.inl rfl);obtain⟨ez1,ez2⟩:=aic h.pl;have hnx:k<x.sys.length:=by rw[h.scn.inv.sys,List.length_map];exact hk
 obtain⟨hms,e1,hr⟩:=h.scn.inv.flag k hnx;have hf2:x.s.val x.sys[k].flag<=2:=by rw[e1];exact h.scn.inv.f2 k hk
 obtain⟨t1,t2,t3⟩:=afq hnx hr hf2;have hR:=acY (Xe (L:=L) h.scn.both h.scn.inv.sys (by omega) (k:Int));have hW:=fun t=>ad2 (t:=t) fun T w hl=>J3 T w x (k:Int) hl (by omega);have hone:=wu x (k:Int);have hx1:(x.ar (x.gL k).2.2).Fair ms:=(bq.ar h.scn.fair hone aeF).fair;by_cases hw:(x.gL k).1=0
 .have hv0:x.s.val ms[k].flag=0:=by rw[<-e1];rw[t1]at hw;omega
  have hdn:ms[k].done=false:=by
   cases hdd:ms[k].done with
   |false=>rfl
   |true=>have :=(h.scn.inv.fd k hk).1 hdd;omega
  rw[if_pos (by rw[e1];exact hv0),e1]at t3;have e2:(x.gL k)=(0,0,(x.gL k).2.2):=Prod.ext hw (Prod.ext t2 rfl);rw[e2]at hR hW;obtain⟨s1,hs1⟩:∃s1,(x.gL k).2.2=s1:=⟨_,rfl⟩;rw[hs1]at hR hW hone t3 hx1;simp only[RV.val]at hR;rw[<-hsy,ez1]at hR;have hx2:∀(v':RV),PG r.v v'->Both (x.ar s1) ms {r with v:=v',s:=s1}:=fun v' hv=>QC h.scn.both hv hone;have hMR:=fun(p:RV×PL) (hp:(∀y∈L,y∈p.2)/\PG r.v p.1)=>ac4 (α:=Int) (H:=fun err r' Q=>Tv {r with v:=p.1,s:=s1} k e.branch aei (-1) err r'/\∀W,Q W->r'.On W) (vf:=fun err v=> .tuple #[v.val,.int .i64 err]) (ah4 (x:=x) (r:={r with v:=p.1,s:=s1}) (L:=p.2) (hx2 p.1 hp.2).fits (hx2 p.1 hp.2).on ((hx2 p.1 hp.2).snl hx1) (k:Int) e.branch aei (-1) (fun W _=>MT.dQ W) (by simp[aei,MT.nodes,MT.aV])) (fun en r' Q ⟨err,he,h1,h2⟩=>⟨err,⟨h1,h2⟩,he⟩);simp only[RV.val]at hMR;have hMR:∀(p:RV×PL) (hp:(∀y∈L,y∈p.2)/\PG r.v p.1),aai prog 86 #[.agg #[.slice p.1.ca p.1.cn p.1.cc,.int .i64 p.1.most,.slice p.1.la p.1.ln p.1.lc,.slice p.1.ha p.1.hn p.1.hc,.slice p.1.oa p.1.on p.1.oc,.slice p.1.sa p.1.sn p.1.sc],(k:Int),e.branch,.agg #[(1:Int),(),True],.int .i64 (-1)] _ _:=hMR;rw[<-hsy,ez1,ez2]at hMR;have hboth:∀(p:RV×PL) (hp:(∀y∈L,y∈p.2)/\PG r.v p.1) (q:Int×RW×PL×(World->Prop)),((∀y∈p.2,y∈q.2.2.1)/\(Tv {r with v:=p.1,s:=s1} k e.branch aei (-1) q.1 q.2.1/\∀W,q.2.2.2 W->q.2.1.On W)/\∀W,q.2.2.2 W->x.P W)->MidB own cd b x ms 4 e L ⟨q.2.1,q.2.2.1,q.2.2.2,5,z,3,z.sync, -1,0,0⟩:=fun p hp q ⟨hL2,⟨hrc,hon⟩,hQ⟩=>by
   refine⟨fun y hy=>hL2 y (hp.1 y hy),hQ,fun f=>?_⟩;have hW2:=ad2 (t:=[q.2.1.th q.2.2.1]) fun T w hl=>J3 T w {x with P:=q.2.2.2} (k:Int) hl (by show x.s.L.length<_;omega);have e3:({x with P:=q.2.2.2}:WS).gL k=(0,0,s1):=by
    show x.gL k=_
    rw[e2,hs1]
   rw[e3,<-hsy]at hW2;have hCm:aai prog 145 #[x.wb,e.sync,e.branch,.agg #[(1:Int),(),True],.int .i64 (-1)] [(({x with P:=q.2.2.2}:WS).ar s1).ts++[q.2.1.th q.2.2.1]] (xq (fun s:aiR=>SBOk own cd (b+2) x ms ⟨q.2.1,q.2.2.1,q.2.2.2,5,z,3,z.sync, -1,0,0⟩ s/\s.e=e) (fun _=> .int .i64 0) fun s=>[s.x.ts++[q.2.1.th q.2.2.1]]):=
    ad4 (mf:=fun s:aiR=>s.x.ts) fun T w hl=>by
     rw[hsy];exact(qz T w (({x with P:=q.2.2.2}:WS).ar s1) (k:Int) e.branch aei (-1) hl (fun W _=>MT.dQ W) hs).mono fun en w' ⟨er,x',he,hx,hL⟩=>by
      obtain⟨rfl,_,v2,hv2,hxe,hF,hB⟩:=ahs (x:=x.ar s1) (v:=aei) hk hdn ⟨hb1,hb2⟩ afs ⟨by omega,by omega⟩ (hx2 p.1 hp.2) hx1 hQ hon hrc hx;have hP':∀W,x'.P W->x.P W:=fun W hW=>by rw[hxe]at hW;exact hQ W hW.1
      refine⟨⟨x',ms.set k (ms[k].did e.branch v2 (-1)),e⟩,by rw[he],⟨⟨⟨⟨hF,hB,?_⟩,by rw[hxe];exact h.hc,by simp,h.pl,fun _=>(h.ok (.inl rfl)).len (ahv hk rfl),fun hno=>absurd (.inr rfl) hno,aiG h.ein hP'⟩,by rw[hxe];rfl,hP',by rw[hxe];rfl⟩,rfl⟩,hL⟩;rw[hxe];exact h.scn.inv.done k hk hv0 t3 (fun W=>q.2.2.2 W/\ae5 v2 W) (ms[k].did e.branch v2 (-1)) rfl rfl rfl (by omega)
   refine(aez (ac8 {x with P:=q.2.2.2} _ hs) (af6 (f:=f) (e:=e) (at_:=4) (c:=(cd:Int)) hW2 (fun _ _=>hCm))).mono (xq.mono fun y ⟨_,hy,hye⟩=>⟨y.2,hy,?_,?_⟩)
   .rw[ez1]
   .rw[hye]
  refine(aiD (v:=fun p:RV×PL=>p.1) (er:=fun _=>0) (H2:=fun q:Int×RW×PL×(World->Prop)=>∃p:RV×PL,((∀y∈L,y∈p.2)/\PG r.v p.1)/\(∀y∈p.2,y∈q.2.2.1)/\(Tv {r with v:=p.1,s:=s1} k e.branch aei (-1) q.1 q.2.1/\∀W,q.2.2.2 W->q.2.1.On W)/\∀W,q.2.2.2 W->x.P W) (v2:=fun q=>q.2.1.v) (Y2:=fun q=>({x with P:=q.2.2.2}:WS).ts++[q.2.1.th q.2.2.1]) (er2:=fun q=>q.1) (n:=(cd:Int)) (e:=z) hR (fun p hp=>(hMR p hp).mono (xq.mono fun q hq=>⟨q,⟨p,hp,by rw[<-ez1,<-ez2,hsy]at hq;exact hq⟩,rfl,rfl⟩))).mono (xq.mono fun q ⟨p,hp,hq⟩=>⟨_,hboth p hp q hq,rfl,rfl⟩)
 .have hi:=afH h.scn.inv (k:Int) (.inl hw)
  by_cases hw1:(x.gL k).1=1
  .have e2:(x.gL k)=(1,0,(x.gL k).2.2):=Prod.ext hw1 (Prod.ext t2 rfl)
   rw[e2]at hR hW;obtain⟨s1,hs1⟩:∃s1,(x.gL k).2.2=s1:=⟨_,rfl⟩;rw[hs1]at hR hW hone hi;simp only[RV.val]at hR;have hR2:=hR;rw[<-hsy,ez1]at hR2;rw[<-hsy]at hW;refine(aiK (v:=fun p:RV×PL=>p.1) (er:=fun _=>0) (n:=(cd:Int)) (e:=z) hR2).mono (xq.mono fun p ⟨Qy,hv⟩=>?_);refine⟨⟨{r with v:=p.1,s:=s1},p.2,x.P,4,z,1,0,0,0,0⟩,⟨Qy,fun _ h=>h,fun f=>?_⟩,rfl,rfl⟩;exact(aez (ac8 x _ hs) (ah1 (f:=f) (e:=e) (at_:=4) (c:=(cd:Int)) (hW _))).mono (xq.mono fun _ _=>⟨⟨x.ar s1,ms,e⟩,⟨⟨(h.scn.ar2 hv hone hi).more (by omega),h.hc,h.rng,h.pl,h.ok,h.zero,h.ein⟩,rfl,fun _ h=>h,rfl⟩,rfl,rfl⟩)
  .have hw2:(x.gL k).1=2:=by rw[t1]at hw hw1|-;omega
   have e2:(x.gL k)=(2,0,(x.gL k).2.2):=Prod.ext hw2 (Prod.ext t2 rfl);rw[e2]at hR hW;obtain⟨s1,hs1⟩:∃s1,(x.gL k).2.2=s1:=⟨_,rfl⟩;rw[hs1]at hR hW hone hi;simp only[RV.val]at hR;have hR2:=hR;rw[<-hsy,ez1]at hR2;rw[<-hsy]at hW;refine(aiL (v:=fun p:RV×PL=>p.1) (er:=fun _=>0) (n:=(cd:Int)) (e:=z) hR2).mono (xq.mono fun p ⟨Qy,hv⟩=>?_);refine⟨⟨{r with v:=p.1,s:=s1},p.2,x.P,3,ME.zero,2,0,0,0,0⟩,⟨Qy,fun _ h=>h,fun f=>?_⟩,rfl,rfl⟩;exact(aez (ac8 x _ hs) (af0 (f:=f) (e:=e) (at_:=4) (c:=(cd:Int)) (hW _))).mono (xq.mono fun _ _=>⟨⟨x.ar s1,ms,ME.zero⟩,⟨⟨(h.scn.ar2 hv hone hi).more (by omega),h.hc,by simp,rfl,by simp,fun _=>⟨rfl,rfl⟩,ahd⟩,rfl,fun _ h=>h,rfl⟩,rfl,rfl⟩)
theorem wake19{own:Int->pE}{cl:Bool}{cd:Int}{la lf b:Nat}{x x':WS}{ms:List MS}{r r':RW}{Q:World->Prop}{k er err:Int}(h:Scn own cl cd la lf b x ms r)(hQ:∀W,Q W->x.P W)(hon:∀W,Q W->r'.On W)(hp:aiE r k err r')(hx:wG {x with P:=Q} k er x'):er=err/\∃ms',Scn own cl cd la lf b x' ms' r'/\x'.wb=x.wb/\(∀W,x'.P W->x.P W)/\ms'.map MS.bl=ms.map MS.bl/\x'.cos.length=x.cos.length:=by
 have hc:=h.know hQ;obtain⟨h1,hm⟩:=PD h.both.rel.n;have h2:x.sys.length=ms.length:=by rw[h.inv.sys,List.length_map]
 have h3:=h.both.fits.n;rcases hx with ⟨hk,rfl,rfl⟩|⟨n,hn,rfl,rfl,rfl⟩
 .rcases hp with ⟨_,rfl,rfl⟩|⟨n,hn,_,_,hna,_⟩
  .exact⟨rfl,ms,hc,rfl,hQ,rfl,rfl⟩
  .exact absurd ⟨by omega,by show k<(x.sys.length:Int);omega⟩ hk
 .have hn0:n<x.sys.length:=hn
  rcases hp with ⟨hk,_⟩|⟨n',hn',a',m,hna',rfl,rfl⟩
  .exact absurd ⟨by omega,by omega⟩ hk
  .obtain rfl:n=n':=by omega
   obtain⟨hmn,e1⟩:=yx h.inv.sys n hn0;have hpl:=hm n hmn hn';have e2:({({x with P:=Q}:WS).sys[n]with parked:=false}:bL)=MS.raw {ms[n]with parked:=false}:=by show({x.sys[n]with parked:=false}:bL)=_;rw[e1];rfl
   rw[e2];exact⟨rfl,ms.set n {ms[n]with parked:=false},⟨aem hc.fair n hmn _ (fun W hW=>by have hcc:=hc.fair.good.cont W hW _ (List.getElem_mem hmn);exact hcc),TH hc.both n hn' {ms[n]with parked:=false} {r.sys[n]with parked:=false} a' m (SV hpl _) rfl Q hon,hc.inv.eP n hmn _ rfl rfl rfl⟩,rfl,hQ,ahv hmn rfl,rfl⟩
theorem aje(h:aek own cd b x ms r 5 e z)(hb:4*b+8<1000000):aeL own cd b x ms r L 5 e z:=by
 obtain⟨hL,hs⟩:=h.lg;obtain⟨k,hk,hsy,hb1,hb2⟩:=h.ok (.inr rfl);obtain⟨ez1,ez2⟩:=aic h.pl;have hnl:=(PD h.scn.both.rel.n).1;have hR:=ac4 (α:=Int) (H:=fun err r' Q=>aiE r (k:Int) err r'/\∀W,Q W->r'.On W) (vf:=fun err v=> .tuple #[v.val,.int .i64 err]) (Yo (L:=L) h.scn.both h.scn.fair (k:Int)) (fun en r' Q ⟨err,he,hr,hq⟩=>⟨err,⟨hr,hq⟩,he⟩);simp only[RV.val]at hR;rw[<-hsy,ez1]at hR;refine(ai1 (v:=fun p:Int×RW×PL×(World->Prop)=>p.2.1.v) (er:=fun p=>p.1) (n:=(cd:Int)) (e:=z) hR).mono (xq.mono fun p ⟨Qy,⟨hr,hon⟩,hQ⟩=>?_);refine⟨⟨p.2.1,p.2.2.1,p.2.2.2,3,ME.zero,2,0,0,0,0⟩,⟨Qy,hQ,fun f=>?_⟩,rfl,rfl⟩;have hW:aai prog 165 #[x.wb,e.sync] [({x with P:=p.2.2.2}:WS).ts++[p.2.1.th p.2.2.1]] (xq (fun s:aiR=>SBOk own cd (b+2) x ms ⟨p.2.1,p.2.2.1,p.2.2.2,3,ME.zero,2,0,0,0,0⟩ s/\s.e=ME.zero) (fun _=> .int .i64 0) fun s=>[s.x.ts++[p.2.1.th p.2.2.1]]):=
  ad4 (mf:=fun s:aiR=>s.x.ts) fun T w hl=>by
   rw[hsy];exact(aha T w {x with P:=p.2.2.2} (k:Int) hl hs).mono fun en w' ⟨er,x',he,hx,hL⟩=>by
    rw[<-ez1,hsy]at hr;obtain⟨her,ms',hS,hw,hP,hbl,hco⟩:=wake19 h.scn hQ hon hr hx;have h0:er=0:=by
     rcases hx with ⟨hno,_⟩|⟨_,_,_,h0,_⟩
     .exact absurd ⟨by omega,by show(k:Int)<(x.sys.length:Int);rw[h.scn.inv.sys,List.length_map];omega⟩ hno
     .exact h0
    exact⟨⟨x',ms',ME.zero⟩,by rw[he,h0],⟨⟨⟨hS.more (by omega),by rw[hco];exact h.hc,by simp,rfl,by simp,fun _=>⟨rfl,rfl⟩,ahd⟩,hw,hP,hco⟩,rfl⟩,hL⟩
 exact(ae7 (ac8 {x with P:=p.2.2.2} _ hs) (agL (f:=f) (e:=e) (at_:=5) (c:=(cd:Int)) hW)).mono (xq.mono fun s ⟨h1,h2⟩=>⟨s,h1,rfl,by rw[h2]⟩)
theorem ah2{m:List ai}{f wb:Nat}{e:ME}{c:Int}(hA:aai prog 165 #[wb,.int .i64 (-1)] [m] (xq (fun _:Unit=>True) (fun _=> .int .i64 4) fun _=>[m])):aai prog 14 #[f,wb] [[zo f e 7 c],m] (xq (fun _:Unit=>True) (fun _=> .tuple #[mvV 0 0 0 0,(100:Int)]) fun _=>[[zo f e 7 c],m]):=by
 have hix:∀w,(Instr.index 148 (.agg #[.nilFunc,.func (.func 167) #[] #[],.func (.func 168) #[] #[],.func (.func 169) #[] #[],.func (.func 170) #[] #[],.func (.func 171) #[] #[],.func (.func 172) #[] #[],.nilFunc]) (.int .i64 7)).run prog w= .ok .nilFunc w:=fun w=>by kernel_rfl
 have hq2:∀w,(binOp .eql 147 .nilFunc .nilFunc).run prog w= .ok (.bool true) w:=fun w=>by kernel_rfl
 refine aai.goD func14 ntmps14 ?_;refine go3 fun b2 b4 b5=>?_;refine cr (adA f e 7 c rfl) fun _ _=>?_;refine go ?_;refine cr (abQ hA) fun _ _=>?_;refine go ?_;refine W.rgd ?_;repeat (refine' rgk ?_;rotate_left)
 refine rgz 0 ?_ ?_;refine go ?_;refine cr adx fun _ _=>?_;refine go ?_;refine W.afZ (.inl rfl) ?_;exact⟨(),trivial,rfl,rfl⟩
 kernel_rfl
theorem ajg(h:aek own cd b x ms r 7 e z)(hb:4*b+8<1000000):aeL own cd b x ms r L 7 e z:=by
 obtain⟨hL,hs⟩:=h.lg;refine(ajc (g:=x.ts++[r.th L]) (r:=r.v) (n:=(cd:Int)) (e:=z)).mono (xq.mono fun _ _=>?_);refine⟨⟨r,L,x.P,7,z,0,0,0,0,100⟩,⟨fun _ h=>h,fun _ h=>h,fun f=>?_⟩,rfl,rfl⟩;exact(ah2 (ac8 x _ hs)).mono (xq.mono fun _ _=>⟨⟨x,ms,e⟩,⟨⟨h.scn.more (by omega),h.hc,h.rng,h.pl,h.ok,h.zero,h.ein⟩,rfl,fun _ h=>h,rfl⟩,rfl,rfl⟩)
theorem stepB{at_:Int}(h:aek own cd b x ms r at_ e z)(hb:4*b+8<1000000):aeL own cd b x ms r L at_ e z:=by
 have hr:=h.rng;have h7:at_=1\/at_=2\/at_=3\/at_=4\/at_=5\/at_=6\/at_=7:=by omega
 rcases h7 with rfl|rfl|rfl|rfl|rfl|rfl|rfl
 .exact ai9 h hb
 .exact ai2 h hb
 .exact aiW h hb
 .exact ai8 h hb
 .exact aje h hb
 .exact aiX h hb
 .exact ajg h hb
end
theorem aik(v:RV)(n:Int)(h:0<=n/\n<(v.on:Int)):aai prog 19 #[.agg #[.slice v.ca v.cn v.cc,v.most,.slice v.la v.ln v.lc,.slice v.ha v.hn v.hc,.slice v.oa v.on v.oc,.slice v.sa v.sn v.sc],n] [] (xq (fun _:Unit=>True) (fun _=> .tuple #[.agg #[n,(1:Int),(),(),(),(),(),(),True],()]) fun _=>[]):=by
 have d1:decide (n<0)=false:=decide_eq_false (by omega);have d2:decide ((v.on:Int)<=n)=false:=decide_eq_false (by omega);refine aai.go func19 ntmps19 ?_;refine go2 fun _ _=>?_;refine W.abg ?_;exact⟨(),trivial,rfl,rfl⟩
theorem ahW(v:RV)(n:Int)(h:¬(0<=n/\n<(v.on:Int))):aai prog 19 #[.agg #[.slice v.ca v.cn v.cc,v.most,.slice v.la v.ln v.lc,.slice v.ha v.hn v.hc,.slice v.oa v.on v.oc,.slice v.sa v.sn v.sc],n] [] (xq (fun _:Unit=>True) (fun _=> .tuple #[.agg #[(),(),(),(),(),(),(),(),True],(4:Int)]) fun _=>[]):=by
 by_cases h0:n<0
 .have d1:decide (n<0)=true:=decide_eq_true h0
  refine aai.go func19 ntmps19 ?_;refine go2 fun _ _=>?_;refine W.abg ?_;exact⟨(),trivial,rfl,rfl⟩
 .have d1:decide (n<0)=false:=decide_eq_false h0
  have d2:decide ((v.on:Int)<=n)=true:=decide_eq_true (by omega);refine aai.go func19 ntmps19 ?_;refine go2 fun _ _=>?_;refine W.abg ?_;exact⟨(),trivial,rfl,rfl⟩
theorem agj(n at_:Int)(e:ME):aai prog 22 #[.agg #[n,at_,e.sync,e.thread,e.branch,e.flag,e.v.kind,e.v.num,.slice e.v.addr e.v.parts.length e.v.cap]] [] (xq (fun _:Unit=>True) (fun _=> .tuple #[.agg #[e.sync,e.thread,e.branch,e.flag,e.v.kind,e.v.num,.slice e.v.addr e.v.parts.length e.v.cap],.bool (at_==4||at_==5)]) fun _=>[]):=by
 cases h4:(at_==4)<;>cases h5:(at_==5)<;>(
  refine aai.go func22 ntmps22 ?_;refine go2 fun _ _=>?_;refine W.rgd ?_;repeat (refine' rgk ?_;rotate_left)
  refine rgz 0 ?_ ?_;refine go ?_;refine W.abg ?_;exact⟨(),trivial,rfl,rfl⟩
  all_goals kernel_rfl)
theorem agq(f:Nat)(e:ME)(at_ c:Int)(hb:(at_==0)=false):aai prog 23 #[f] [[zo f e at_ c]] (xq (fun _:Unit=>True) (fun _=> .int .i64 c) fun _=>[[zo f e at_ c]]):=by
 refine aai.go func23 ntmps23 ?_;refine go ?_;refine cr (adA f e at_ c hb) fun _ _=>?_;refine go ?_;refine W.abg ?_;exact⟨(),trivial,rfl,rfl⟩
theorem copy_g{x:WS}{t:List ai}{v:MT}(hv:∀W,x.P W->v.In W)(hn:v.nodes<=256):aai prog 89 #[.agg #[v.kind,v.num,.slice v.addr v.parts.length v.cap]] [x.ts++t] (xq (fun u:MT=>u.plain=v.plain) (fun u=> .agg #[u.kind,u.num,.slice u.addr u.parts.length u.cap]) fun u=>[(x.knows (fun W=>∀y∈[u],y.In W)).ts++t]):=fun T w hl=>by
 have hl':BD T w w (x.ts++t):=by simpa using hl
 have h:=qG v w (hv w (hl'.still 2 rfl)) hn;rw[eG]at h;exact h.mono fun e w' ⟨u,he,hp,hin,hb,ht⟩=>⟨[(x.knows (fun W=>∀y∈[u],y.In W)).ts++t],rfl,⟨u,hp,by rw[he,eG],rfl⟩,by simpa using hl'.IB ht [u] (fun y hy=>by rw[List.mem_singleton.1 hy];exact hin) (fun y hy=>by rw[List.mem_singleton.1 hy];exact hb)⟩
theorem ahA{x:WS}{t:List ai}{f:Nat}{e:ME}{at_ c:Int}(h:at_=4\/at_=5)(hv:∀W,x.P W->e.v.In W)(hn:e.v.nodes<=256):aai prog 21 #[f] [[zo f e at_ c],x.ts++t] (xq (fun u:MT=>u.plain=e.v.plain) (fun u=> .tuple #[.agg #[e.sync,e.thread,e.branch,e.flag,u.kind,u.num,.slice u.addr u.parts.length u.cap],true]) fun u=>[[zo f e at_ c],(x.knows (fun W=>∀y∈[u],y.In W)).ts++t]):=by
 have hC:=copy_g (t:=t) hv hn;rcases h with rfl|rfl<;>(
  refine aai.go func21 ntmps21 ?_;refine go1 fun _=>?_;refine cr (adA f e _ c rfl) fun _ _=>?_;refine go1 fun _=>?_;refine cr hC fun u hu=>?_;refine go ?_;refine W.abg ?_;exact⟨u,hu,rfl,rfl⟩)
theorem me_pl{a b c d:Int}{u v:MT}(h:u.plain=v.plain):(⟨a,b,c,d,u⟩:ME).plain=(⟨a,b,c,d,v⟩:ME).plain:=by simp only[ME.plain,h]
theorem aie{x:WS}{t:List ai}{f:Nat}{e:ME}{at_ c:Int}(h1:1<=at_)(hv:∀W,x.P W->e.v.In W)(hn:e.v.nodes<=256)(h0:¬(at_=4\/at_=5)->e=ME.zero):aai prog 21 #[f] [[zo f e at_ c],x.ts++t] (xq (fun u:ME=>u.plain=e.plain) (fun u=> .tuple #[.agg #[u.sync,u.thread,u.branch,u.flag,u.v.kind,u.v.num,.slice u.v.addr u.v.parts.length u.v.cap],.bool (at_==4||at_==5)]) fun u=>[[zo f e at_ c],(x.knows (fun W=>∀y∈[u.v],y.In W)).ts++t]):=by
 by_cases h:at_=4\/at_=5
 .refine(ahA (t:=t) (c:=c) h hv hn).mono (xq.mono fun u hu=>⟨⟨e.sync,e.thread,e.branch,e.flag,u⟩,me_pl hu,?_,rfl⟩)
  rcases h with rfl|rfl<;>rfl
 .have q0:(at_==0)=false:=by simp;omega
  have q4:(at_ != 4)=true:=by simp;omega
  have q5:(at_ != 5)=true:=by simp;omega
  have q6:(at_==4||at_==5)=false:=by simp;omega
  have hz:=hdq (h0 h);rw[q6];clear h h0;refine aai.go func21 ntmps21 ?_;refine go1 fun _=>?_;refine cr (adA f e at_ c q0) fun _ _=>?_;refine go ?_;refine W.ady [[zo f e at_ c],(x.knows (fun W=>∀y∈[ME.zero.v],y.In W)).ts++t] (fun T w0 w hl=>by
   have h:=KN [0,1] hl;have h2:BD T w0 w (zo f e at_ c::(x.ts++t)):=by simpa[gets,gat]using h
   have h3:=h2.weaken (Q:=fun W=>x.P W/\∀y∈[ME.zero.v],y.In W) 3 rfl (fun W h=>⟨h,fun y hy=>by rw[List.mem_singleton.1 hy];exact MT.dQ W⟩);have h4:BD T w0 w (zo f e at_ c::((x.knows (fun W=>∀y∈[ME.zero.v],y.In W)).ts++t)):=h3;simpa using h4) ?_
  exact⟨ME.zero,by rw[hz.o],rfl,rfl⟩
end Go.Proofs.YtegejdlglonflaaGreatDoor
