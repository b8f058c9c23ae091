/-
  Texts of FirePlays, laid together by program.
-/
import Derived.Test.YtegejdlglonflaaGreatDoorWZ47
namespace Go.Proofs.YtegejdlglonflaaGreatDoor
open Go.RowKit Go.Shelf Go.Proofs.Tryz
set_option maxRecDepth 100000
set_option maxHeartbeats 8000000
set_option linter.unusedVariables false
set_option linter.unusedSimpArgs false
theorem aja(x:WS):RdG prog 90 #[x.wb] [x.ts] fun e=>∃y:Unit,True/\e= .returned ((fun _=> .tuple #[(x.s.C.length:Int),.int .u64 (x.s.L.length:Int)]) y):=ado fun T w0 w hl=>BD.wQ (r0:=[]) (by simpa using hl)
def AlkJ(own:Int->pE)(cl:Bool)(cd:Int)(la lf b wb:Nat)(x:WS)(ms:List MS)(r:RW)(N g:Nat)(bo th:ai)(n:Nat)(v:Nat->Value)(M:LG):Prop:=∃(i:Nat) (y:WS),Scn own cl cd la lf b y ms r/\y.wb=wb/\(∀W,y.P W->x.P W)/\i+n=N/\v g= .int .i64 (i:Int)/\∀T w0 w,BD T w0 w M.flatten->BD T w0 w ([y.ts,[bo],[th]]:LG).flatten
def AlsJ(own:Int->pE)(cl:Bool)(cd:Int)(la lf b wb:Nat)(x:WS)(ms:List MS)(r:RW)(bo th:ai)(n:Nat)(v:Nat->Value)(M:LG):Prop:=∃(i:Nat) (y:WS),Scn own cl cd la lf b y ms r/\y.wb=wb/\(∀W,y.P W->x.P W)/\i+n=3/\1<=i/\v 12= .int .i64 (i:Int)/\∀T w0 w,BD T w0 w M.flatten->BD T w0 w ([y.ts,[bo],[th]]:LG).flatten
theorem side_R{y:WS}{ms:List MS}{r:RW}(hb:Both y ms r)(c:Nat)(hc:c<r.BI.length)(hy:c<y.BI.length)(q:Nat)(h1:1<=q)(h2:q<=2):∃(ra:Option Addr) (rs:List ME) (rk:Nat),(if(q:Int)=1 then Value.slice r.BI[c].a1 r.BI[c].es1.length r.BI[c].k1 else if(q:Int)=2 then Value.slice r.BI[c].a2 r.BI[c].es2.length r.BI[c].k2 else .slice none 0 0)= .slice ra rs.length rk/\(∀W,y.P W->T9 W ra rk rs)/\(SK y.BI[c] (q:Int)).map ME.plain=rs.map ME.plain:=by
 have hp:y.BI[c].pl=r.BI[c].pl:=by
  have h3:=congrArg (fun l=>l[c]?) hb.rel.h;simp only[List.getElem?_map,List.getElem?_eq_getElem hc,List.getElem?_eq_getElem hy,Option.map_some]at h3;exact Option.some.inj h3
 have hE:=fun W (hW:y.P W)=>(hb.on W hW).ch _ (List.getElem_mem hc);simp only[Ce.pl,Rb.pl,Prod.mk.injEq]at hp;rcases(show q=1\/q=2 by omega)with rfl|rfl
 .exact⟨_,r.BI[c].es1,_,rfl,fun W hW=>(hE W hW).1,hp.2.1⟩
 .exact⟨_,r.BI[c].es2,_,rfl,fun W hW=>(hE W hW).2,hp.2.2⟩
def EntJ(y:WS)(N g:Nat)(bo th:ai)(n:Nat)(v:Nat->Value)(M:LG):Prop:=∃i:Nat,i+n=N/\v g= .int .i64 (i:Int)/\∀T w0 w,BD T w0 w M.flatten->BD T w0 w ([y.ts,[bo],[th]]:LG).flatten
theorem led_ch(r:RW)(c:Nat)(hc:c<r.BI.length){y:WS}(hP:∀W,y.P W->r.On W)(hn:r.v.hn=r.BI.length){bb oo:Nat}(ha:r.v.ha=some ⟨bb,oo,none⟩):abd y.ts bb (oo+c*3) 3 r.BI[c].cells:=⟨rfl,fun T w0 w R hl j v hv=>by
 have h1:=(hP w (hl.still 2 rfl)).h;rw[hn]at h1;obtain⟨b',o',hb',_,hcc⟩:=aG.at (f:=Rb.cells) (fun _=>rfl) h1 c hc;rw[ha]at hb';injection hb' with hb'
 injection hb' with e1 e2
 subst e1 e2;have hj:j<3:=(List.getElem?_eq_some_iff.1 hv).1;rw[hcc j hj];exact hv⟩
set_option maxHeartbeats 16000000 in
theorem ajd{own:Int->pE}{cl:Bool}{cd:Int}{la lf b:Nat}{x:WS}{ms:List MS}{ca cn cc most a2 lc ha hc oa on oc sa sc s BI cos sys}(h:Scn own cl cd la lf b x ms ⟨⟨ca,cn,cc,most,a2,s.L.length,lc,ha,BI.length,hc,oa,on,oc,sa,sys.length,sc⟩,s,BI,cos,sys⟩)(hb:4*b+8<1000000)(B lk fd:Nat)(th:ai):
  aai prog 25 #[B] [x.ts,[KE B x.wb ⟨ca,cn,cc,most,a2,s.L.length,lc,ha,BI.length,hc,oa,on,oc,sa,sys.length,sc⟩ lk fd],[th]] (xq (fun y:WS=>Scn own cl cd la lf b y ms ⟨⟨ca,cn,cc,most,a2,s.L.length,lc,ha,BI.length,hc,oa,on,oc,sa,sys.length,sc⟩,s,BI,cos,sys⟩/\y.wb=x.wb/\∀W,y.P W->x.P W) (fun _=> .bool true) fun y=>[y.ts,[KE B x.wb ⟨ca,cn,cc,most,a2,s.L.length,lc,ha,BI.length,hc,oa,on,oc,sa,sys.length,sc⟩ lk fd],[th]]):=by
 have hC:=afI x;have hD:=aja x;have e1:x.sys.length=sys.length:=by
  rw[h.fair.good.sys,List.length_map];have :=congrArg List.length h.both.rel.n;simpa using this
 rw[e1]at hC;have HNB:Hid (sys.length<=100000/\BI.length<=100000):=by
  have h3:=h.fair.good.l3;have h4:=h.fair.good.l1;have h5:x.BI.length=BI.length:=by simpa using congrArg List.length h.both.rel.h
  rw[e1]at h3;rw[h5]at h4;exact⟨h3,h4⟩
 rw[show x.s=s from h.both.rel.s]at hD;clear e1;have hcast:IntKind.u64.wrap (s.L.length:Int)=(s.L.length:Int):=by
  have h1:=h.inv.lg;rw[show x.s=s from h.both.rel.s]at h1;rw[IntKind.wrap_u64];omega
 have hml:ms.length=sys.length:=by simpa using congrArg List.length h.both.rel.n
 have HML:=hdq hml;clear hml;refine aai.go func25 ntmps25 ?_;refine go ?_;refine cr hC fun _ _=>?_;refine go ?_;refine crr hD fun _ _=>?_;refine go ?_;refine W.aeo [8,9,10,54,55,56,57,58,59,60,61,62,63,64,65,66,67,68,69,70,71,72,73,74,75,76,77,78,79,80,81,82] (AlkJ own cl cd la lf b x.wb x ms ⟨⟨ca,cn,cc,most,a2,s.L.length,lc,ha,BI.length,hc,oa,on,oc,sa,sys.length,sc⟩,s,BI,cos,sys⟩ sys.length 8 (KE B x.wb ⟨ca,cn,cc,most,a2,s.L.length,lc,ha,BI.length,hc,oa,on,oc,sa,sys.length,sc⟩ lk fd) th) sys.length ⟨0,x,h,rfl,fun _ h=>h,Nat.zero_add _,rfl,fun T w0 w hl=>KN [0,1,2] hl⟩ ?_ (by kernel_rfl);rintro n v M a1 ⟨i,y,hy,hwz,hQ,hi,hv,hM⟩ ha1;refine W.turn ?_ hM;simp only[adS,List.foldl,sAq,sZq,sSq,hv]at ha1;subst ha1;clear hv hM hC hD;by_cases hil:i<sys.length
 .have e5:decide ((i:Int)<(sys.length:Int))=true:=decide_eq_true (by omega)
  have e6:decide (i<sys.length)=true:=decide_eq_true hil;have j1:(0:Int)<=(i:Int):=by omega
  have j2:(i:Int)<(sys.length:Int):=by omega
  have hims:i<ms.length:=by have :=HML.o;omega
  have hS:=ahm (x:=y) (ms:=ms) hy.fair.good.sys hy.fair.good.cont i hims;rw[hwz]at hS;refine W.know (p:=∃bb oo,sa=some ⟨bb,oo,none⟩) (fun T w0 w hl=>by obtain⟨b',o',hb',_⟩:=aG.at (f:=MS.cells) (fun _=>rfl) (hy.both.on w (hl.still 2 rfl)).n i hil;exact⟨b',o',hb'⟩) ?_;rintro⟨bb,oo,hba⟩;have hl:=fun s:MS=>ms_lds (x:=y.knows (fun W=>s.In W)) (ws:=sys) (fun W h=>(hy.both.on W h.1).n) i hil hba;have hpl:ms[i].plain=sys[i].plain:=by
   have h1:=congrArg (fun l=>l[i]?) hy.both.rel.n;simp only[List.getElem?_map,List.getElem?_eq_getElem hims,List.getElem?_eq_getElem hil,Option.map_some]at h1;exact Option.some.inj h1
  have hui:∀W,y.P W->sys[i].In W:=fun W h=>(hy.both.on W h).sy _ (List.getElem_mem hil);have hj:n-1<n/\i+1+(n-1)=sys.length:=by omega
  obtain⟨u,huE⟩:∃u,sys[i]=u:=⟨_,rfl⟩;rw[huE]at hpl hui;simp only[huE,MS.cells]at hl;clear hi huE;refine go ?_;refine cr hS fun s' hs=>?_;have hl1:=hl s';have hp:=hs.trans hpl;have hin:∀W,(y.knows (fun W=>s'.In W)).P W->s'.In W/\u.In W:=fun W h=>⟨h.2,hui W h.1⟩;clear hl hS;have hSm:RdG prog 15 #[.agg #[s'.thread,.slice s'.ba s'.bases.length s'.bc,.slice s'.ca s'.conds.length s'.cc,s'.flag,s'.parked,s'.done,s'.branch,s'.v.kind,s'.v.num,.slice s'.v.addr s'.v.parts.length s'.v.cap,s'.partner],.agg #[u.thread,.slice u.ba u.bases.length u.bc,.slice u.ca u.conds.length u.cc,u.flag,u.parked,u.done,u.branch,u.v.kind,u.v.num,.slice u.v.addr u.v.parts.length u.v.cap,u.partner]] [(y.knows (fun W=>s'.In W)).ts] fun e=>∃y:Unit,True/\e= .returned ((fun _=> .bool true) y):=af3 (p:=s') (q:=u) (fun W h=>(hin W h).1) (fun W h=>(hin W h).2) hp;have hib:i<100000:=by have :=HNB.o;omega
  refine go1 fun b9=>?_;refine W.rgd ?_;repeat (refine' rgk ?_;rotate_left)
  refine rgz 0 ?_ ?_;refine go ?_;refine crr hSm fun _ _=>?_;refine go ?_;exact⟨n-1,hj.1,by kernel_rfl,i+1,y.knows (fun W=>s'.In W),hy.know (fun W h=>h.1),hwz,fun W h=>hQ W h.1,hj.2,abt i (by omega),fun T w0 w hl=>KN [0,1,2] hl⟩
  kernel_rfl
 .have e5:decide ((i:Int)<(sys.length:Int))=false:=decide_eq_false (by omega)
  have e6:decide (i<sys.length)=false:=decide_eq_false hil;refine go ?_;refine W.aeo [11,12,13,14,15,16,83,84,85,86,87,88,89,90,91,92,93,94,95,96,97,98,99,100,101,102,103,104,105,106,107,108,109,110,111,112,113,114,115,116,117,118,119,120,121,122,123,124,125,126,127,128,129,130,131,132,133,134,135,136,137,138,139,140,141] (AlkJ own cl cd la lf b x.wb x ms ⟨⟨ca,cn,cc,most,a2,s.L.length,lc,ha,BI.length,hc,oa,on,oc,sa,sys.length,sc⟩,s,BI,cos,sys⟩ BI.length 11 (KE B x.wb ⟨ca,cn,cc,most,a2,s.L.length,lc,ha,BI.length,hc,oa,on,oc,sa,sys.length,sc⟩ lk fd) th) BI.length ⟨0,y,hy,hwz,hQ,Nat.zero_add _,rfl,fun T w0 w hl=>KN [0,1,2] hl⟩ ?_ (by kernel_rfl);clear hy hwz hQ hi hil e5 e6;clear y;rintro n v M a1 ⟨c,y,hy,hwz,hQ,hi,hv,hM⟩ ha1;refine W.turn ?_ hM;simp only[adS,List.foldl,sAq,sZq,sSq,hv]at ha1;subst ha1;clear hv hM;by_cases hil:c<BI.length
  .have e5:decide ((c:Int)<(BI.length:Int))=true:=decide_eq_true (by omega)
   have e6:decide (c<BI.length)=true:=decide_eq_true hil;have j1:(0:Int)<=(c:Int):=by omega
   have j2:(c:Int)<(BI.length:Int):=by omega
   have hj:n-1<n/\c+1+(n-1)=BI.length:=by omega
   clear hi;refine go ?_;refine W.aeo [12,13,14,15,16,93,94,95,96,97,98,99,100,101,102,103,104,105,106,107,108,109,110,111,112,113,114,115,116,117,118,119,120,121,122,123,124,125,126,127,128,129,130,131,132,133,134,135,136,137,138,139,140,141] (AlsJ own cl cd la lf b x.wb x ms ⟨⟨ca,cn,cc,most,a2,s.L.length,lc,ha,BI.length,hc,oa,on,oc,sa,sys.length,sc⟩,s,BI,cos,sys⟩ (KE B x.wb ⟨ca,cn,cc,most,a2,s.L.length,lc,ha,BI.length,hc,oa,on,oc,sa,sys.length,sc⟩ lk fd) th) 2 ⟨1,y,hy,hwz,hQ,rfl,Nat.le_refl _,rfl,fun T w0 w hl=>KN [0,1,2] hl⟩ ?_ (by kernel_rfl);clear hy hwz hQ;clear y;rintro n2 v M a1 ⟨q,y,hy,hwz,hQ,hi,hq1,hv,hM⟩ ha1;refine W.turn ?_ hM;simp only[adS,List.foldl,sAq,sZq,sSq,hv]at ha1;subst ha1;clear hv hM;by_cases hq2:q<=2
   .have f5:decide ((q:Int)<=2)=true:=decide_eq_true (by omega)
    have f6:decide (q<=2)=true:=decide_eq_true hq2;have g1:(0:Int)<=(q:Int):=by omega
    have hj2:n2-1<n2/\q+1+(n2-1)=3:=by omega
    have hyc:y.BI.length=BI.length:=by simpa using congrArg List.length hy.both.rel.h
    have hcy:c<y.BI.length:=by omega
    obtain⟨ra,rs,rk,hre,hrE,hrp⟩:=side_R hy.both c hil hcy q hq1 hq2;have HRL:Hid (rs.length<=4096):=by
     have h1:=aho hy.fair.good c hcy (q:Int);have h2:=congrArg List.length hrp;simp only[List.length_map]at h2;unfold Hid;omega
    have hS:=list_g hy.fair c hcy (q:Int);rw[hwz]at hS;refine W.know (p:=∃bb oo,ha=some ⟨bb,oo,none⟩) (fun T w0 w hl=>by obtain⟨b',o',hb',_⟩:=aG.at (f:=Rb.cells) (fun _=>rfl) (hy.both.on w (hl.still 2 rfl)).h c hil;exact⟨b',o',hb'⟩) ?_;rintro⟨bb,oo,hba⟩;have hl:=fun z:LiA=>led_ch ⟨⟨ca,cn,cc,most,a2,s.L.length,lc,ha,BI.length,hc,oa,on,oc,sa,sys.length,sc⟩,s,BI,cos,sys⟩ c hil (y:=y.knows (fun W=>T9 W z.1 z.2.2.length z.2.2)) (fun W h=>hy.both.on W h.1) rfl hba;have hRL:=fun z:LiA=>ajf (m:=(y.knows (fun W=>T9 W z.1 z.2.2.length z.2.2)).ts) (BI[c].cell:Int) BI[c].a1 BI[c].es1.length BI[c].k1 BI[c].a2 BI[c].es2.length BI[c].k2 (q:Int);simp only[show(if(q:Int)=1 then Value.slice BI[c].a1 BI[c].es1.length BI[c].k1 else if(q:Int)=2 then Value.slice BI[c].a2 BI[c].es2.length BI[c].k2 else .slice none 0 0)= .slice ra rs.length rk from hre]at hRL;obtain⟨u,huE⟩:∃u,BI[c]=u:=⟨_,rfl⟩;simp only[huE,Rb.cells]at hl hRL;clear hi huE hre hyc;refine go ?_;refine cr hS fun z hz=>?_;have hl1:=hl z;have Ug:=hRL z;clear hl hRL hS;obtain⟨za,zk,zs⟩:=z;have hzl:zs.length=rs.length:=by simpa using congrArg List.length (hz.trans hrp)
    have hzp:=hz.trans hrp;dsimp only at hl1 Ug hz hzp;clear hz hrp;refine go ?_;refine crr Ug fun _ _=>?_;clear Ug hl1;have hk9:∀k (h:k<rs.length),∃h':k<zs.length,zs[k].plain=rs[k].plain:=fun k h=>by
     have h':k<zs.length:=by omega
     refine⟨h',?_⟩;have h1:=congrArg (fun l=>l[k]?) hzp;simp only[List.getElem?_map,List.getElem?_eq_getElem h,List.getElem?_eq_getElem h',Option.map_some]at h1;exact Option.some.inj h1
    rw[hzl];clear hzl hzp;refine go ?_;refine W.aeo [16,126,127,128,129,130,131,132,133,134,135,136,137,138,139,140,141] (EntJ (y.knows (fun W=>T9 W za rs.length zs)) rs.length 16 (KE B x.wb ⟨ca,cn,cc,most,a2,s.L.length,lc,ha,BI.length,hc,oa,on,oc,sa,sys.length,sc⟩ lk fd) th) rs.length ⟨0,Nat.zero_add _,rfl,fun T w0 w hl=>KN [0,1,2] hl⟩ ?_ (by kernel_rfl);rintro n3 v M a1 ⟨k,hi,hv,hM⟩ ha1;refine W.turn ?_ hM;simp only[adS,List.foldl,sAq,sZq,sSq,hv]at ha1;subst ha1;clear hv hM;by_cases hkl:k<rs.length
    .have k5:decide ((k:Int)<(rs.length:Int))=true:=decide_eq_true (by omega)
     have k6:decide (k<rs.length)=true:=decide_eq_true hkl;have k1:(0:Int)<=(k:Int):=by omega
     have k2:(k:Int)<(rs.length:Int):=by omega
     have hj3:n3-1<n3/\k+1+(n3-1)=rs.length:=by omega
     obtain⟨hkz,hpe⟩:=hk9 k hkl;refine W.know (p:=(∃bb oo,za=some ⟨bb,oo,none⟩)/\(∃bb oo,ra=some ⟨bb,oo,none⟩)) (fun T w0 w hl=>by
      have hP:=hl.still 2 rfl;obtain⟨b1,o1,h1,_⟩:=(show T9 w za rs.length zs from hP.2).2.1 k hkz;obtain⟨b2,o2,h2,_⟩:=(hrE w hP.1).2.1 k hkl;exact⟨⟨b1,o1,h1⟩,⟨b2,o2,h2⟩⟩) ?_
     rintro⟨⟨b1,o1,hb1⟩,⟨b2,o2,hb2⟩⟩;have hkb:k<100000:=by have :=HRL.o;omega
     have hl1:=ah8 (x:=y.knows (fun W=>T9 W za rs.length zs)) (es:=zs) (a:=za) (k:=rs.length) (fun W h=>h.2) k hkz hb1;have hl2:=ah8 (x:=y.knows (fun W=>T9 W za rs.length zs)) (es:=rs) (a:=ra) (k:=rk) (fun W h=>hrE W h.1) k hkl hb2;have hin1:∀W,(y.knows (fun W=>T9 W za rs.length zs)).P W->zs[k].v.In W/\zs[k].v.nodes<=256:=fun W h=>h.2.2.2 _ (List.getElem_mem hkz);have hin2:∀W,(y.knows (fun W=>T9 W za rs.length zs)).P W->rs[k].v.In W/\rs[k].v.nodes<=256:=fun W h=>(hrE W h.1).2.2 _ (List.getElem_mem hkl);have hSm:=ai0 hin1 hin2 hpe;obtain⟨p,hpE⟩:∃p,zs[k]=p:=⟨_,rfl⟩;obtain⟨t,htE⟩:∃t,rs[k]=t:=⟨_,rfl⟩;simp only[hpE,htE,ME.cells,ME.val]at hl1 hl2 hSm;clear hi hpE htE hpe hin1 hin2;refine go ?_;refine W.rgd ?_;repeat (refine' rgk ?_;rotate_left)
     refine rgz 0 ?_ ?_;refine go ?_;refine crr hSm fun _ _=>?_;refine go ?_;exact⟨n3-1,hj3.1,by kernel_rfl,k+1,hj3.2,abt k (by omega),fun T w0 w hl=>KN [0,1,2] hl⟩
     kernel_rfl
    .have k5:decide ((k:Int)<(rs.length:Int))=false:=decide_eq_false (by omega)
     have k6:decide (k<rs.length)=false:=decide_eq_false hkl;refine go ?_;exact⟨n2-1,hj2.1,by kernel_rfl,q+1,y.knows (fun W=>T9 W za rs.length zs),hy.know (fun W h=>h.1),hwz,fun W h=>hQ W h.1,hj2.2,by omega,abt q (by omega),fun T w0 w hl=>KN [0,1,2] hl⟩
   .have f5:decide ((q:Int)<=2)=false:=decide_eq_false (by omega)
    have f6:decide (q<=2)=false:=decide_eq_false hq2;have hcb:c<100000:=by have :=HNB.o;omega
    refine go ?_;exact⟨n-1,hj.1,by kernel_rfl,c+1,y,hy,hwz,hQ,hj.2,abt c (by omega),fun T w0 w hl=>KN [0,1,2] hl⟩
  .have e5:decide ((c:Int)<(BI.length:Int))=false:=decide_eq_false (by omega)
   have e6:decide (c<BI.length)=false:=decide_eq_false hil;refine go ?_;refine W.abg ?_;exact⟨y,⟨hy,hwz,hQ⟩,rfl,rfl⟩
end Go.Proofs.YtegejdlglonflaaGreatDoor
