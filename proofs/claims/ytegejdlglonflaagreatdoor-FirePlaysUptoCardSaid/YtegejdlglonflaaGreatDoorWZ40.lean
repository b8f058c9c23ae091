/-
  Texts of FirePlays, laid together by program.
-/
import Derived.Test.YtegejdlglonflaaGreatDoorWZ38
namespace Go.Proofs.YtegejdlglonflaaGreatDoor
open Go.RowKit Go.Shelf Go.Proofs.Tryz
set_option maxRecDepth 100000
set_option maxHeartbeats 8000000
set_option linter.unusedVariables false
set_option linter.unusedSimpArgs false
theorem adR.mono{P Q:World->Prop}{r:RW}(h:adR P r)(hQ:∀W,Q W->P W):adR Q r:=⟨h.fits,fun W hW=>h.on W (hQ W hW),h.q1,h.q2,h.l1,h.l2⟩
section
variable {own:Int->pE} {cl:Bool} {cd:Int} {la lf b:Nat} {x x':WS} {ms:List MS} {r r':RW} {L:PL} {Q:World->Prop}
theorem agf{k s er:Int}{e:ME}(hx:lX x k s e er x')(hQ:∀W,Q W->x'.P W):∃y,lX {x with P:=Q} k s e er y/\(∀W,Q W->y.P W)/\({y with P:=Q}:WS)={x' with P:=Q}:=by
 rcases hx with ⟨h1,h2,rfl⟩|⟨h1,h2,h3,rfl⟩|⟨n,hn,kk,ys,hk,hy,⟨hs,hp,rfl⟩|⟨hs,hp,rfl⟩⟩
 .exact⟨{x' with P:=Q},.inl ⟨h1,h2,rfl⟩,fun _ h=>h,rfl⟩
 .exact⟨{x' with P:=Q},.inr (.inl ⟨h1,h2,h3,rfl⟩),fun _ h=>h,rfl⟩
 .exact⟨_,.inr (.inr ⟨n,hn,kk,ys,hk,hy,.inl ⟨hs,hp,rfl⟩⟩),fun W hW=>⟨hW,(hQ W hW).2⟩,rfl⟩
 .exact⟨_,.inr (.inr ⟨n,hn,kk,ys,hk,hy,.inr ⟨hs,hp,rfl⟩⟩),fun W hW=>⟨hW,(hQ W hW).2⟩,rfl⟩
theorem af9{k er:Int}{e:ME}(hx:nu x k e er x')(hQ:∀W,Q W->x'.P W):∃y,nu {x with P:=Q} k e er y/\(∀W,Q W->y.P W)/\({y with P:=Q}:WS)={x' with P:=Q}:=by
 rcases hx with ⟨h1,h2,rfl⟩|⟨n,hn,kk,ys,hk,hy,hp,rfl⟩
 .exact⟨{x' with P:=Q},.inl ⟨h1,h2,rfl⟩,fun _ h=>h,rfl⟩
 .exact⟨_,.inr ⟨n,hn,kk,ys,hk,hy,hp,rfl⟩,fun W hW=>⟨hW,(hQ W hW).2⟩,rfl⟩
theorem ae8{k s er:Int}{e:ME}(hx:lX x k s e er x'):x'.cos.length=x.cos.length/\x'.BI.length=x.BI.length:=by
 rcases hx with ⟨h1,h2,rfl⟩|⟨h1,h2,h3,rfl⟩|⟨n,hn,kk,ys,hk,hy,⟨hs,hp,rfl⟩|⟨hs,hp,rfl⟩⟩
 .exact⟨rfl,rfl⟩
 .exact⟨rfl,rfl⟩
 .exact⟨rfl,by simp[WS.oQ]⟩
 .exact⟨rfl,by simp[WS.oQ]⟩
theorem agd{k er:Int}{e:ME}(hx:nu x k e er x'):x'.cos.length=x.cos.length/\x'.BI.length=x.BI.length:=by
 rcases hx with ⟨h1,h2,rfl⟩|⟨n,hn,kk,ys,hk,hy,hp,rfl⟩
 .exact⟨rfl,rfl⟩
 .exact⟨by simp[WS.jM],rfl⟩
theorem agY{k s er err:Int}{e:ME}(h:Scn own cl cd la lf b x ms r)(hx:lX x k s e er x')(hQ:∀W,Q W->x'.P W)(hon:∀W,Q W->r'.On W)(hr:V7 r k s e err r'):Scn own cl cd la lf b {x' with P:=Q} ms r':=by
 have hs:=mG (a:=adZ) h.fair hx;obtain⟨y,hy,hyP,he⟩:=agf hx hQ;have hB:=WA h.both (fun W hW=>hs.knows W (hQ W hW)) hon hr hy;refine⟨hs.fair.fJ Q hQ,?_,(ahb h.inv hx).know Q⟩;rw[<-he];exact PK hB.2 Q hyP
theorem wait19{k er err:Int}{e:ME}(h:Scn own cl cd la lf b x ms r)(ho:aeO ms e)(hx:nu x k e er x')(hQ:∀W,Q W->x'.P W)(hon:∀W,Q W->r'.On W)(hr:V5 r k e err r'):Scn own cl cd la lf (b+1) {x' with P:=Q} ms r':=by
 have hs:=yt (a:=adZ) h.fair hx;obtain⟨y,hy,hyP,he⟩:=af9 hx hQ;have hB:=Ws h.both (fun W hW=>hs.knows W (hQ W hW)) hon hr hy;refine⟨hs.fair.fJ Q hQ,?_,(afD h.inv hx ho).know Q⟩;rw[<-he];exact PK hB.2 Q hyP
theorem aev{k br:Int}{z:ME}(h:Scn own cl cd la lf b x ms r)(hr:W9 r k br z 0):∃(n j:Nat) (hn:n<r.sys.length) (hj:j<r.sys[n].bases.length),k=(n:Int)/\br=(j:Int)/\aeO ms z:=by
 obtain⟨hl,hm⟩:=PD h.both.rel.n;rcases hr with ⟨_,h2,_⟩|⟨n,hn,rfl,⟨_,h2,_⟩|⟨j,hj,rfl,_,rfl⟩⟩
 .cases h2
 .cases h2
 .have hb:=(PD (Uf (hm n (by omega) hn)).2.1).1
  exact⟨n,j,hn,hj,rfl,rfl,n,by omega,rfl,by show(0:Int)<=(j:Int);omega,by show(j:Int)<_;omega⟩
theorem aeZ(h:Both x ms r)(n:Nat)(hn:n<r.sys.length)(j:Nat)(hj:j<r.sys[n].bases.length){bb oo:Nat}(ha:r.sys[n].ba=some ⟨bb,oo,none⟩){t:ai}:abd (x.ts++[t]) bb (oo+j*7) 7 r.sys[n].bases[j].cells:=⟨rfl,fun T w0 w R hl i v hv=>by
 have hin:=(h.on w (hl.still 2 rfl)).sy _ (List.getElem_mem hn);obtain⟨b',o',hb',_,hc⟩:=aG.at (f:=MB.cells) (fun _=>rfl) hin.2.1.1 j hj;rw[ha]at hb';injection hb' with hb'
 injection hb' with e1 e2
 subst e1 e2;have hi:i<7:=(List.getElem?_eq_some_iff.1 hv).1;rw[hc i hi];exact hv⟩
end
section
variable {own:Int->pE} {cl:Bool} {cd:Int} {la lf b:Nat} {x:WS} {ms:List MS} {r:RW} {L:PL}
theorem aeE(h:Scn own cl cd la lf b x ms r)(L:PL)(s i:Int):aai prog 130 #[.agg #[.slice r.v.ca r.v.cn r.v.cc,r.v.most,.slice r.v.la r.v.ln r.v.lc,.slice r.v.ha r.v.hn r.v.hc,.slice r.v.oa r.v.on r.v.oc,.slice r.v.sa r.v.sn r.v.sc],s,i] [x.ts++[r.th L]] (xq (fun p:ME×Int×PL=>W9 r s i p.1 p.2.1/\p.1.v.nodes<=256/\(∀W,x.P W->p.1.v.In W)/\∀y∈L,y∈p.2.2) (fun p=> .tuple #[.agg #[.int .i64 p.1.sync,.int .i64 p.1.thread,.int .i64 p.1.branch,.int .i64 p.1.flag,.int .i64 p.1.v.kind,.int .i64 p.1.v.num,.slice p.1.v.addr p.1.v.parts.length p.1.v.cap],.int .i64 p.2.1]) fun p=>[x.ts++[r.th p.2.2]]):=
 aeM (Wv h.both h.fair s i) fun e m' ⟨r',L',Q,h1,⟨z,err,he,h2,h3,h4,h5,h6⟩,h7,h8⟩=>by
  subst h5 h6;exact⟨(z,err,L'),⟨h2,h3,h4,h1⟩,he,h8⟩
def afm(own:Int->pE)(cl:Bool)(cd:Int)(la lf b:Nat)(x:WS)(ms:List MS)(r:RW)(L:PL)(B lk fd:Nat)(s i:Int):Prop:=aai prog 46 #[B,s,i] [[KE B x.wb r.v lk fd],x.ts++[r.th L]] (xq (afd own cl cd la lf (b+1) x ms L) (fun _=> .tuple #[]) fun p=>[[KE B p.x.wb p.r.v lk fd],p.x.ts++[p.r.th p.L]])
theorem agC(h:Scn own cl cd la lf b x ms r)(B lk fd:Nat)(s i:Int)(hno:∀z,¬W9 r s i z 0):afm own cl cd la lf b x ms r L B lk fd s i:=by
 have hE:=aeE h L s i;refine aai.go func46 ntmps46 ?_;refine go ?_;refine cr hE fun⟨z,err,L'⟩ ⟨hz,hzn,hzi,Qy⟩=>?_;have he:err≠0:=fun e=>hno z (e▸hz);have d1:(err != 0)=true:=by simpa using he
 have d2:(err==0)=false:=by simpa using he
 have d3:decide (err=0)=false:=decide_eq_false he;refine go1 fun b6=>?_;refine W.abg ?_;exact⟨⟨x,ms,r,L'⟩,⟨h.more (by omega),rfl,Qy,fun _ h=>h,rfl,rfl,rfl⟩,rfl,rfl⟩
theorem ag1(h:Scn own cl cd la lf b x ms r)(B lk fd:Nat)(n j:Nat)(hn:n<r.sys.length)(hj:j<r.sys[n].bases.length)(hk:r.sys[n].bases[j].kind=5):afm own cl cd la lf b x ms r L B lk fd n j:=by
 have hE:=aeE h L n j;have hnv:n<r.v.sn:=by rw[h.both.fits.n];exact hn
 refine aai.know (p:=(∃bb oo,r.v.sa=some ⟨bb,oo,none⟩)/\∃bb oo,r.sys[n].ba=some ⟨bb,oo,none⟩) (fun T w hl=>by obtain⟨bb,oo,h2,_⟩:=h.both.SA n hn w (hl.still 3 rfl);exact⟨⟨bb,oo,h2⟩,by obtain⟨q1,q2,q3,_⟩:=aG.at (f:=MB.cells) (fun _=>rfl) ((h.both.on w (hl.still 3 rfl)).sy _ (List.getElem_mem hn)).2.1.1 j hj;exact⟨q1,q2,q3⟩⟩) ?_;rintro⟨⟨bb,oo,hba⟩,⟨b2,o2,hb2⟩⟩;have hl1:=fun t=>adL (x:=x) (t:=t) (h.both.SA n hn) hba 1 rfl;have hl2:=fun t=>aeZ (t:=t) h.both n hn j hj hb2;have hzz:∀z err,W9 r (n:Int) (j:Int) z err->err=0/\aeO ms z:=fun z err hz=>by
  have :err=0:=by
   rcases hz with ⟨h1,_⟩|⟨m,hm,e1,⟨h1,_⟩|⟨q,hq,e2,h1,_⟩⟩
   .exact absurd ⟨by omega,by omega⟩ h1
   .obtain rfl:n=m:=by omega
    exact absurd ⟨by omega,by omega⟩ h1
   .exact h1
  subst this;obtain⟨_,_,_,_,_,_,ho⟩:=aev h hz;exact⟨rfl,ho⟩
 have hjj:=hj;obtain⟨c,hc⟩:∃c,r.sys[n].bases[j]=c:=⟨_,rfl⟩;rw[hc]at hl2 hk;have k0:(0:Int)<=(n:Int):=by omega
 have k1:(n:Int)<(r.v.sn:Int):=by omega
 have d1:decide (n<r.v.sn)=true:=decide_eq_true hnv;have d2:decide ((n:Int)<(r.v.sn:Int))=true:=decide_eq_true k1;have k2:(0:Int)<=(j:Int):=by omega
 have k3:(j:Int)<(r.sys[n].bases.length:Int):=by omega
 have d3:decide (j<r.sys[n].bases.length)=true:=decide_eq_true hjj;have d4:decide ((j:Int)<(r.sys[n].bases.length:Int))=true:=decide_eq_true k3;clear hc;refine aai.go func46 ntmps46 ?_;refine go ?_;refine cr hE fun⟨z,err,L'⟩ ⟨hz,hzn,hzi,Qy⟩=>?_;obtain⟨rfl,ho⟩:=hzz z err hz;have hl1':abv (x.ts++[r.th L']) bb (oo+n*11+1) (.slice r.sys[n].ba r.sys[n].bases.length r.sys[n].bc):=hl1 _;have hl2':abd (x.ts++[r.th L']) b2 (o2+j*7) 7 [.int .i64 c.kind,.int .i64 c.n,.int .i64 c.v.kind,.int .i64 c.v.num,.slice c.v.addr c.v.parts.length c.v.cap,.slice c.wa c.wraps.length c.wc,.slice c.na c.aT.length c.nc]:=hl2 _;clear hzz hz hl1 hl2 hE;refine go2 fun b6 b8=>?_;refine W.rgd ?_;repeat (refine' rgk ?_;rotate_left)
 refine rgz 0 ?_ ?_;refine go ?_;have hP:aai prog 131 #[x.wb,c.n,(1:Int),.agg #[z.sync,z.thread,z.branch,z.flag,z.v.kind,z.v.num,.slice z.v.addr z.v.parts.length z.v.cap]] [x.ts++[r.th L']] (xq (fun y:Int×WS=>lX x c.n 1 z y.1 y.2) (fun y=> .int .i64 y.1) fun y=>[y.2.ts++[r.th L']]):=ad4 (mf:=fun y:Int×WS=>y.2.ts) fun T w hl=>(KW T w x c.n 1 z hl h.fair.good.sides hzi h.fair.good.q1).mono fun e w' ⟨er,x',he,hx,hL⟩=>⟨(er,x'),he,hx,hL⟩;refine cr hP fun⟨er,x'⟩ hx=>?_;have hs:=mG (a:=adZ) h.fair hx;have hwb:x'.wb=x.wb:=zi hx;have hR:=ac4 (α:=Int) (H:=fun err r' Q=>V7 r c.n 1 z err r'/\∀W,Q W->r'.On W) (vf:=fun err v=> .tuple #[v.val,.int .i64 err]) (Xq (x:=x') (L:=L') ((h.both.ok h.fair).mono hs.knows) c.n 1 z (fun W hW=>hzi W (hs.knows W hW)) (Nat.le_trans hzn (by decide))) (fun e r' Q ⟨err,he,h1,h2⟩=>⟨err,⟨h1,h2⟩,he⟩);simp only[RV.val,ME.val]at hR;refine go ?_;refine W.rgd ?_;repeat (refine' rgk ?_;rotate_left)
 refine rgz 0 ?_ ?_;refine go ?_;refine cr hR fun⟨err,r',L2,Q⟩ ⟨hL2,⟨hrp,hon⟩,hQ⟩=>?_;refine go ?_;refine bqn (Y:=[[KE B x.wb r'.v lk fd],({x' with P:=Q}:WS).ts++[r'.th L2]]) ?_;exact⟨⟨{x' with P:=Q},ms,r',L2⟩,⟨(agY h hx hQ hon hrp).more (by omega),hwb,fun y hy=>hL2 y (Qy y hy),fun W hW=>hs.knows W (hQ W hW),rfl,ae8 (x':=x') hx⟩,rfl,by rw[<-hwb]⟩
 all_goals kernel_rfl
theorem ahk(h:Scn own cl cd la lf b x ms r)(B lk fd:Nat)(n j:Nat)(hn:n<r.sys.length)(hj:j<r.sys[n].bases.length)(hk:r.sys[n].bases[j].kind=6):afm own cl cd la lf b x ms r L B lk fd n j:=by
 have hE:=aeE h L n j;have hnv:n<r.v.sn:=by rw[h.both.fits.n];exact hn
 refine aai.know (p:=(∃bb oo,r.v.sa=some ⟨bb,oo,none⟩)/\∃bb oo,r.sys[n].ba=some ⟨bb,oo,none⟩) (fun T w hl=>by obtain⟨bb,oo,h2,_⟩:=h.both.SA n hn w (hl.still 3 rfl);exact⟨⟨bb,oo,h2⟩,by obtain⟨q1,q2,q3,_⟩:=aG.at (f:=MB.cells) (fun _=>rfl) ((h.both.on w (hl.still 3 rfl)).sy _ (List.getElem_mem hn)).2.1.1 j hj;exact⟨q1,q2,q3⟩⟩) ?_;rintro⟨⟨bb,oo,hba⟩,⟨b2,o2,hb2⟩⟩;have hl1:=fun t=>adL (x:=x) (t:=t) (h.both.SA n hn) hba 1 rfl;have hl2:=fun t=>aeZ (t:=t) h.both n hn j hj hb2;have hzz:∀z err,W9 r (n:Int) (j:Int) z err->err=0/\aeO ms z:=fun z err hz=>by
  have :err=0:=by
   rcases hz with ⟨h1,_⟩|⟨m,hm,e1,⟨h1,_⟩|⟨q,hq,e2,h1,_⟩⟩
   .exact absurd ⟨by omega,by omega⟩ h1
   .obtain rfl:n=m:=by omega
    exact absurd ⟨by omega,by omega⟩ h1
   .exact h1
  subst this;obtain⟨_,_,_,_,_,_,ho⟩:=aev h hz;exact⟨rfl,ho⟩
 have hjj:=hj;obtain⟨c,hc⟩:∃c,r.sys[n].bases[j]=c:=⟨_,rfl⟩;rw[hc]at hl2 hk;have k0:(0:Int)<=(n:Int):=by omega
 have k1:(n:Int)<(r.v.sn:Int):=by omega
 have d1:decide (n<r.v.sn)=true:=decide_eq_true hnv;have d2:decide ((n:Int)<(r.v.sn:Int))=true:=decide_eq_true k1;have k2:(0:Int)<=(j:Int):=by omega
 have k3:(j:Int)<(r.sys[n].bases.length:Int):=by omega
 have d3:decide (j<r.sys[n].bases.length)=true:=decide_eq_true hjj;have d4:decide ((j:Int)<(r.sys[n].bases.length:Int))=true:=decide_eq_true k3;clear hc;refine aai.go func46 ntmps46 ?_;refine go ?_;refine cr hE fun⟨z,err,L'⟩ ⟨hz,hzn,hzi,Qy⟩=>?_;obtain⟨rfl,ho⟩:=hzz z err hz;have hl1':abv (x.ts++[r.th L']) bb (oo+n*11+1) (.slice r.sys[n].ba r.sys[n].bases.length r.sys[n].bc):=hl1 _;have hl2':abd (x.ts++[r.th L']) b2 (o2+j*7) 7 [.int .i64 c.kind,.int .i64 c.n,.int .i64 c.v.kind,.int .i64 c.v.num,.slice c.v.addr c.v.parts.length c.v.cap,.slice c.wa c.wraps.length c.wc,.slice c.na c.aT.length c.nc]:=hl2 _;clear hzz hz hl1 hl2 hE;refine go2 fun b6 b8=>?_;refine W.rgd ?_;repeat (refine' rgk ?_;rotate_left)
 refine rgz 0 ?_ ?_;refine go ?_;have hP:aai prog 131 #[x.wb,c.n,(2:Int),.agg #[z.sync,z.thread,z.branch,z.flag,z.v.kind,z.v.num,.slice z.v.addr z.v.parts.length z.v.cap]] [x.ts++[r.th L']] (xq (fun y:Int×WS=>lX x c.n 2 z y.1 y.2) (fun y=> .int .i64 y.1) fun y=>[y.2.ts++[r.th L']]):=ad4 (mf:=fun y:Int×WS=>y.2.ts) fun T w hl=>(KW T w x c.n 2 z hl h.fair.good.sides hzi h.fair.good.q1).mono fun e w' ⟨er,x',he,hx,hL⟩=>⟨(er,x'),he,hx,hL⟩;refine cr hP fun⟨er,x'⟩ hx=>?_;have hs:=mG (a:=adZ) h.fair hx;have hwb:x'.wb=x.wb:=zi hx;have hR:=ac4 (α:=Int) (H:=fun err r' Q=>V7 r c.n 2 z err r'/\∀W,Q W->r'.On W) (vf:=fun err v=> .tuple #[v.val,.int .i64 err]) (Xq (x:=x') (L:=L') ((h.both.ok h.fair).mono hs.knows) c.n 2 z (fun W hW=>hzi W (hs.knows W hW)) (Nat.le_trans hzn (by decide))) (fun e r' Q ⟨err,he,h1,h2⟩=>⟨err,⟨h1,h2⟩,he⟩);simp only[RV.val,ME.val]at hR;refine go ?_;refine W.rgd ?_;repeat (refine' rgk ?_;rotate_left)
 refine rgz 0 ?_ ?_;refine go ?_;refine cr hR fun⟨err,r',L2,Q⟩ ⟨hL2,⟨hrp,hon⟩,hQ⟩=>?_;refine go ?_;refine bqn (Y:=[[KE B x.wb r'.v lk fd],({x' with P:=Q}:WS).ts++[r'.th L2]]) ?_;exact⟨⟨{x' with P:=Q},ms,r',L2⟩,⟨(agY h hx hQ hon hrp).more (by omega),hwb,fun y hy=>hL2 y (Qy y hy),fun W hW=>hs.knows W (hQ W hW),rfl,ae8 (x':=x') hx⟩,rfl,by rw[<-hwb]⟩
 all_goals kernel_rfl
theorem agE(h:Scn own cl cd la lf b x ms r)(B lk fd:Nat)(n j:Nat)(hn:n<r.sys.length)(hj:j<r.sys[n].bases.length)(hk:r.sys[n].bases[j].kind=13):afm own cl cd la lf b x ms r L B lk fd n j:=by
 have hE:=aeE h L n j;have hnv:n<r.v.sn:=by rw[h.both.fits.n];exact hn
 refine aai.know (p:=(∃bb oo,r.v.sa=some ⟨bb,oo,none⟩)/\∃bb oo,r.sys[n].ba=some ⟨bb,oo,none⟩) (fun T w hl=>by obtain⟨bb,oo,h2,_⟩:=h.both.SA n hn w (hl.still 3 rfl);exact⟨⟨bb,oo,h2⟩,by obtain⟨q1,q2,q3,_⟩:=aG.at (f:=MB.cells) (fun _=>rfl) ((h.both.on w (hl.still 3 rfl)).sy _ (List.getElem_mem hn)).2.1.1 j hj;exact⟨q1,q2,q3⟩⟩) ?_;rintro⟨⟨bb,oo,hba⟩,⟨b2,o2,hb2⟩⟩;have hl1:=fun t=>adL (x:=x) (t:=t) (h.both.SA n hn) hba 1 rfl;have hl2:=fun t=>aeZ (t:=t) h.both n hn j hj hb2;have hzz:∀z err,W9 r (n:Int) (j:Int) z err->err=0/\aeO ms z:=fun z err hz=>by
  have :err=0:=by
   rcases hz with ⟨h1,_⟩|⟨m,hm,e1,⟨h1,_⟩|⟨q,hq,e2,h1,_⟩⟩
   .exact absurd ⟨by omega,by omega⟩ h1
   .obtain rfl:n=m:=by omega
    exact absurd ⟨by omega,by omega⟩ h1
   .exact h1
  subst this;obtain⟨_,_,_,_,_,_,ho⟩:=aev h hz;exact⟨rfl,ho⟩
 have hjj:=hj;obtain⟨c,hc⟩:∃c,r.sys[n].bases[j]=c:=⟨_,rfl⟩;rw[hc]at hl2 hk;have k0:(0:Int)<=(n:Int):=by omega
 have k1:(n:Int)<(r.v.sn:Int):=by omega
 have d1:decide (n<r.v.sn)=true:=decide_eq_true hnv;have d2:decide ((n:Int)<(r.v.sn:Int))=true:=decide_eq_true k1;have k2:(0:Int)<=(j:Int):=by omega
 have k3:(j:Int)<(r.sys[n].bases.length:Int):=by omega
 have d3:decide (j<r.sys[n].bases.length)=true:=decide_eq_true hjj;have d4:decide ((j:Int)<(r.sys[n].bases.length:Int))=true:=decide_eq_true k3;clear hc;refine aai.go func46 ntmps46 ?_;refine go ?_;refine cr hE fun⟨z,err,L'⟩ ⟨hz,hzn,hzi,Qy⟩=>?_;obtain⟨rfl,ho⟩:=hzz z err hz;have hl1':abv (x.ts++[r.th L']) bb (oo+n*11+1) (.slice r.sys[n].ba r.sys[n].bases.length r.sys[n].bc):=hl1 _;have hl2':abd (x.ts++[r.th L']) b2 (o2+j*7) 7 [.int .i64 c.kind,.int .i64 c.n,.int .i64 c.v.kind,.int .i64 c.v.num,.slice c.v.addr c.v.parts.length c.v.cap,.slice c.wa c.wraps.length c.wc,.slice c.na c.aT.length c.nc]:=hl2 _;clear hzz hz hl1 hl2 hE;refine go2 fun b6 b8=>?_;refine W.rgd ?_;repeat (refine' rgk ?_;rotate_left)
 refine rgz 0 ?_ ?_;refine go ?_;have hP:aai prog 39 #[x.wb,c.n,.agg #[z.sync,z.thread,z.branch,z.flag,z.v.kind,z.v.num,.slice z.v.addr z.v.parts.length z.v.cap]] [x.ts++[r.th L']] (xq (fun y:Int×WS=>nu x c.n z y.1 y.2) (fun y=> .int .i64 y.1) fun y=>[y.2.ts++[r.th L']]):=ad4 (mf:=fun y:Int×WS=>y.2.ts) fun T w hl=>(ag9 T w x c.n z hl hzi h.fair.good.q2).mono fun e w' ⟨er,x',he,hx,hL⟩=>⟨(er,x'),he,hx,hL⟩;refine cr hP fun⟨er,x'⟩ hx=>?_;have hs:=yt (a:=adZ) h.fair hx;have hwb:x'.wb=x.wb:=Nw hx;have hR:=ac4 (α:=Int) (H:=fun err r' Q=>V5 r c.n z err r'/\∀W,Q W->r'.On W) (vf:=fun err v=> .tuple #[v.val,.int .i64 err]) (Xu (x:=x') (L:=L') ((h.both.ok h.fair).mono hs.knows) c.n z (fun W hW=>hzi W (hs.knows W hW)) (Nat.le_trans hzn (by decide))) (fun e r' Q ⟨err,he,h1,h2⟩=>⟨err,⟨h1,h2⟩,he⟩);simp only[RV.val,ME.val]at hR;refine go ?_;refine W.rgd ?_;repeat (refine' rgk ?_;rotate_left)
 refine rgz 0 ?_ ?_;refine go ?_;refine cr hR fun⟨err,r',L2,Q⟩ ⟨hL2,⟨hrp,hon⟩,hQ⟩=>?_;refine go ?_;refine bqn (Y:=[[KE B x.wb r'.v lk fd],({x' with P:=Q}:WS).ts++[r'.th L2]]) ?_;exact⟨⟨{x' with P:=Q},ms,r',L2⟩,⟨wait19 h ho hx hQ hon hrp,hwb,fun y hy=>hL2 y (Qy y hy),fun W hW=>hs.knows W (hQ W hW),rfl,agd (x':=x') hx⟩,rfl,by rw[<-hwb]⟩
 all_goals kernel_rfl
theorem afS(h:Scn own cl cd la lf b x ms r)(B lk fd:Nat)(n j:Nat)(hn:n<r.sys.length)(hj:j<r.sys[n].bases.length)(hk:r.sys[n].bases[j].kind≠5/\r.sys[n].bases[j].kind≠6/\r.sys[n].bases[j].kind≠13):afm own cl cd la lf b x ms r L B lk fd n j:=by
 have hE:=aeE h L n j;have hnv:n<r.v.sn:=by rw[h.both.fits.n];exact hn
 refine aai.know (p:=(∃bb oo,r.v.sa=some ⟨bb,oo,none⟩)/\∃bb oo,r.sys[n].ba=some ⟨bb,oo,none⟩) (fun T w hl=>by obtain⟨bb,oo,h2,_⟩:=h.both.SA n hn w (hl.still 3 rfl);exact⟨⟨bb,oo,h2⟩,by obtain⟨q1,q2,q3,_⟩:=aG.at (f:=MB.cells) (fun _=>rfl) ((h.both.on w (hl.still 3 rfl)).sy _ (List.getElem_mem hn)).2.1.1 j hj;exact⟨q1,q2,q3⟩⟩) ?_;rintro⟨⟨bb,oo,hba⟩,⟨b2,o2,hb2⟩⟩;have hl1:=fun t=>adL (x:=x) (t:=t) (h.both.SA n hn) hba 1 rfl;have hl2:=fun t=>aeZ (t:=t) h.both n hn j hj hb2;have hzz:∀z err,W9 r (n:Int) (j:Int) z err->err=0/\aeO ms z:=fun z err hz=>by
  have :err=0:=by
   rcases hz with ⟨h1,_⟩|⟨m,hm,e1,⟨h1,_⟩|⟨q,hq,e2,h1,_⟩⟩
   .exact absurd ⟨by omega,by omega⟩ h1
   .obtain rfl:n=m:=by omega
    exact absurd ⟨by omega,by omega⟩ h1
   .exact h1
  subst this;obtain⟨_,_,_,_,_,_,ho⟩:=aev h hz;exact⟨rfl,ho⟩
 have hjj:=hj;obtain⟨c,hc⟩:∃c,r.sys[n].bases[j]=c:=⟨_,rfl⟩;rw[hc]at hl2 hk;have k0:(0:Int)<=(n:Int):=by omega
 have k1:(n:Int)<(r.v.sn:Int):=by omega
 have d1:decide (n<r.v.sn)=true:=decide_eq_true hnv;have d2:decide ((n:Int)<(r.v.sn:Int))=true:=decide_eq_true k1;have k2:(0:Int)<=(j:Int):=by omega
 have k3:(j:Int)<(r.sys[n].bases.length:Int):=by omega
 have d3:decide (j<r.sys[n].bases.length)=true:=decide_eq_true hjj;have d4:decide ((j:Int)<(r.sys[n].bases.length:Int))=true:=decide_eq_true k3;clear hc;have q5:(c.kind==5)=false:=by simpa using hk.1
 have q6:(c.kind==6)=false:=by simpa using hk.2.1
 have q13:(c.kind==13)=false:=by simpa using hk.2.2
 refine aai.go func46 ntmps46 ?_;refine go ?_;refine cr hE fun⟨z,err,L'⟩ ⟨hz,hzn,hzi,Qy⟩=>?_;obtain⟨rfl,ho⟩:=hzz z err hz;have hl1':abv (x.ts++[r.th L']) bb (oo+n*11+1) (.slice r.sys[n].ba r.sys[n].bases.length r.sys[n].bc):=hl1 _;have hl2':abd (x.ts++[r.th L']) b2 (o2+j*7) 7 [.int .i64 c.kind,.int .i64 c.n,.int .i64 c.v.kind,.int .i64 c.v.num,.slice c.v.addr c.v.parts.length c.v.cap,.slice c.wa c.wraps.length c.wc,.slice c.na c.aT.length c.nc]:=hl2 _;clear hzz hz hl1 hl2 hE;refine go2 fun b6 b8=>?_;refine bqn (Y:=[[KE B x.wb r.v lk fd],x.ts++[r.th L']]) ?_;exact⟨⟨x,ms,r,L'⟩,⟨h.more (by omega),rfl,Qy,fun _ h=>h,rfl,rfl,rfl⟩,rfl,rfl⟩
theorem ahu(h:Scn own cl cd la lf b x ms r)(B lk fd:Nat)(s i:Int):afm own cl cd la lf b x ms r L B lk fd s i:=by
 by_cases hv:∃z,W9 r s i z 0
 .obtain⟨z,hz⟩:=hv
  obtain⟨n,j,hn,hj,rfl,rfl,_⟩:=aev h hz;by_cases h5:r.sys[n].bases[j].kind=5
  .exact ag1 h B lk fd n j hn hj h5
  by_cases h6:r.sys[n].bases[j].kind=6
  .exact ahk h B lk fd n j hn hj h6
  by_cases FY:r.sys[n].bases[j].kind=13
  .exact agE h B lk fd n j hn hj FY
  exact afS h B lk fd n j hn hj ⟨h5,h6,FY⟩
 .exact agC h B lk fd s i fun z hz=>hv ⟨z,hz⟩
end
end Go.Proofs.YtegejdlglonflaaGreatDoor
