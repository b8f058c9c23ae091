/-
  Texts of FirePlays, laid together by program.
-/
import Derived.Test.YtegejdlglonflaaGreatDoorWZ38
namespace Go.Proofs.YtegejdlglonflaaGreatDoor
open Go.RowKit Go.Shelf Go.Proofs.Tryz
set_option maxRecDepth 100000
set_option maxHeartbeats 8000000
set_option linter.unusedVariables false
set_option linter.unusedSimpArgs false
theorem ac7{α:Type}{H:α->Prop}{vf:α->Value}{mf:α->List ai}{f:FuncId}{args:Array Value}{m:List ai}(h:∀T w,BD T w w m->Calls prog f args w fun e w'=>∃y,e= .returned (vf y)/\H y/\BD T w w' (mf y)):aai prog f args [m] (xq H vf fun y=>[mf y]):=fun T w hl=>
 (h T w (by simpa using hl)).mono fun e w' ⟨y,he,hH,hL⟩=>⟨[mf y],rfl,⟨y,hH,he,rfl⟩,by simpa using hL⟩
theorem adY{v:Value}{m':List ai}{f:FuncId}{args:Array Value}{m:List ai}(h:∀T w,BD T w w m->Calls prog f args w fun e w'=>e= .returned v/\BD T w w' m'):aai prog f args [m] (xq (fun _:Unit=>True) (fun _=>v) fun _=>[m']):=ac7 fun T w hl=>(h T w hl).mono fun e w' ⟨he,hL⟩=>⟨(),he,trivial,hL⟩
theorem xq.mono{α β:Type}{H:α->Prop}{vf:α->Value}{Yf:α->LG}{H':β->Prop}{vf':β->Value}{Yf':β->LG}(h:∀a,H a->∃b,H' b/\vf a=vf' b/\Yf a=Yf' b):∀e Y,xq H vf Yf e Y->xq H' vf' Yf' e Y:=fun e Y ⟨a,h1,h2,h3⟩=>by
 obtain⟨b,h4,h5,h6⟩:=h a h1;exact⟨b,h4,h2.trans (congrArg _ h5),h3.trans h6⟩
theorem FSt.more{own:Int->pE}{cd b:Nat}{fin:Nat->MPl}{x:WS}{ms:List MS}{at_:Int}{e:ME}{n k:Nat}(hk:b<=k)(h:FSt own cd b fin x ms at_ e n):FSt own cd k fin x ms at_ e n:=by
 cases h with
 |s1 he h=>exact .s1 he ⟨h.fair,h.inv.more hk,h.hc,h.fin⟩
 |s2 he h=>exact .s2 he ⟨h.fair,h.inv.more hk,h.hc,h.fin⟩
 |s3 he h=>exact .s3 he ⟨h.fair,h.inv.more hk,h.hc,h.fin⟩
 |s4 he ho h=>exact .s4 he ho ⟨h.fair,h.inv.more hk,h.hc,h.fin⟩
 |s5 he ho h=>exact .s5 he ho ⟨h.fair,h.inv.more hk,h.hc,h.fin⟩
 |s6 he h=>exact .s6 he ⟨h.fair,h.inv.more hk,h.hc,h.fin⟩
 |s7 he h=>exact .s7 he ⟨h.fair,h.inv.more hk,h.hc,h.fin⟩
structure Stp where
 k1:Int
 k2:Int
 k3:Int
 k4:Int
 at_:Int
 E:ME
 x:WS
 ms:List MS
 m:Nat
structure StpEx(cd:Nat)(ms:List MS)(e:ME)(n:Nat)(at_:Int)(s:Stp):Prop where
 n1:at_=1->s.at_=2
 n2:at_=2->s.at_=3
 n3:at_=3->s.at_=if n=2 then 6 else 4
 n4:at_=4->(∀(k:Nat) (hk:k<ms.length),e.sync=(k:Int)->ms[k].done=false)->s.at_=5
 n5:at_=5->s.at_=3
 n6:at_=6->s.at_=7
 mv:(s.k1,s.k2,s.k3,s.k4)=if at_=2 then(4,0,0,(cd:Int))else if s.at_=5 then(3,e.sync, -1,0)else(2,0,0,0)
 keep:at_≠4->at_≠5->s.ms=ms
 cnt:s.m+1=n\/at_=4/\s.at_=3
 gt:2<=at_->3<=s.at_
structure StpOk(own:Int->pE)(cd b:Nat)(fin:Nat->MPl)(x:WS)(ms:List MS)(e:ME)(n:Nat)(at_:Int)(s:Stp):Prop where
 lt:s.m<n
 st:FSt own cd (b+1) fin s.x s.ms s.at_ s.E s.m
 len:s.ms.length=ms.length
 wb:s.x.wb=x.wb
 co:s.x.cos.length=x.cos.length
 P:∀W,s.x.P W->x.P W
 fires:s.k1=4↔at_=2
 ex:StpEx cd ms e n at_ s
theorem KS(x:WS)(hlen:x.sys.length<=1000000):aai prog 165 #[x.wb,.int .i64 (-1)] [x.ts] (xq (fun _:Unit=>True) (fun _=> .int .i64 4) fun _=>[x.ts]):=adY fun T w hl=>(aha T w x (-1) hl hlen).mono fun e w' ⟨er,x',he,hx,hL⟩=>by
 rcases hx with ⟨_,rfl,rfl⟩|⟨n,_,hn,_⟩
 .exact⟨he,hL⟩
 .omega
section
variable {own:Int->pE} {cd b:Nat} {fin:Nat->MPl} {x:WS} {ms:List MS} {e:ME} {n:Nat}
def aeJ(own:Int->pE)(cd b:Nat)(fin:Nat->MPl)(x:WS)(ms:List MS)(at_:Int)(e:ME)(n f:Nat):Prop:=aai prog 14 #[f,x.wb] [[zo f e at_ cd],x.ts] (xq (StpOk own cd b fin x ms e n at_) (fun s=> .tuple #[mvV s.k1 s.k2 s.k3 s.k4,()]) fun s=>[[zo f s.E s.at_ cd],s.x.ts])
theorem FSt.lg{at_:Int}(h:FSt own cd b fin x ms at_ e n):x.s.L.length<=4*b/\x.sys.length<=1000000/\x.Fair ms:=by
 have key:∀{la lf:Nat} {l:List PE} {g:Nat->MPl->MPl},afJ own cd la lf b x ms l g fin->x.s.L.length<=4*b/\x.sys.length<=1000000/\x.Fair ms:=fun h=>⟨h.inv.lg,by have :=h.fair.good.l3;omega,h.fair⟩;cases h<;>(rename_i h;exact key h)
theorem step_1(h:FSt own cd b fin x ms 1 e n)(hb:4*b<1000000)(f:Nat):aeJ own cd b fin x ms 1 e n f:=by
 obtain⟨hL,hs,hF⟩:=h.lg;obtain⟨h1,h2,m,rfl,h3⟩:=ag0 h;have hC:=adY (m:=x.ts) fun T w hl=>xZ T w x (cd:Int) hl (by omega);rw[h1,h2]at hC;have hz:e=ME.zero:=by cases h;rfl
 refine(ae9 (KS x hs) (agu (f:=f) (e:=e) (at_:=1) hC)).mono (xq.mono fun _ _=>⟨⟨2,0,0,0,2,e,x.ar (x.cK cd).2.2,ms,m⟩,⟨by show m<m+1;omega,by rw[hz];exact h3,rfl,rfl,rfl,fun _ h=>h,by simp,⟨by simp,by simp,by simp,by simp,by simp,by simp,by simp,fun _ _=>rfl,.inl rfl,by simp⟩⟩,rfl,rfl⟩)
theorem step_2(h:FSt own cd b fin x ms 2 e n)(hb:4*b<1000000)(f:Nat):aeJ own cd b fin x ms 2 e n f:=by
 obtain⟨hL,hs,hF⟩:=h.lg;obtain⟨h1,m,rfl,h3⟩:=ag8 h;have hC:=adY (m:=x.ts) fun T w hl=>Kh T w x (cd:Int) hl (by omega);rw[h1]at hC;have hz:e=ME.zero:=by cases h;rfl
 refine(aeV (KS x hs) (agb (f:=f) (e:=e) (at_:=2) hC)).mono (xq.mono fun _ _=>⟨⟨4,0,0,cd,3,e,x.ar (x.ja cd).2,ms,m⟩,⟨by show m<m+1;omega,by rw[hz];exact h3,rfl,rfl,rfl,fun _ h=>h,by simp,⟨by simp,by simp,by simp,by simp,by simp,by simp,by simp,fun _ _=>rfl,.inl rfl,by simp⟩⟩,rfl,rfl⟩)
theorem step_6(h:FSt own cd b fin x ms 6 e n)(hb:4*b<1000000)(f:Nat):aeJ own cd b fin x ms 6 e n f:=by
 obtain⟨hL,hs,hF⟩:=h.lg;obtain⟨h1,m,rfl,h3⟩:=agW h;have hC:=adY (m:=x.ts) fun T w hl=>tK T w x (cd:Int) hl (by omega);rw[h1]at hC;have hz:e=ME.zero:=by cases h;rfl
 refine(ae6 (KS x hs) (agO (f:=f) (e:=e) (at_:=6) hC)).mono (xq.mono fun _ _=>⟨⟨2,0,0,0,7,e,x.ar (x.bZ cd).2,ms,m⟩,⟨by show m<m+1;omega,by rw[hz];exact h3,rfl,rfl,rfl,fun _ h=>h,by simp,⟨by simp,by simp,by simp,by simp,by simp,by simp,by simp,fun _ _=>rfl,.inl rfl,by simp⟩⟩,rfl,rfl⟩)
theorem step_5(h:FSt own cd b fin x ms 5 e n)(hb:4*b<1000000)(f:Nat):aeJ own cd b fin x ms 5 e n f:=by
 obtain⟨hL,hs,hF⟩:=h.lg;have hC:aai prog 165 #[x.wb,e.sync] [x.ts] (xq (fun y:WS×List MS×Nat=>n=y.2.2+1/\y.2.1.length=ms.length/\FSt own cd b fin y.1 y.2.1 3 ME.zero y.2.2/\y.1.wb=x.wb/\y.1.cos.length=x.cos.length/\∀W,y.1.P W->x.P W) (fun _=> .int .i64 0) fun y=>[y.1.ts]):=ac7 fun T w hl=>(aha T w x e.sync hl hs).mono fun en w' ⟨er,x',he,hx,hL⟩=>by
  obtain⟨h0,ms',m,h1,h2,h3⟩:=ag2 h hx;have hw:x'.wb=x.wb/\x'.cos.length=x.cos.length/\∀W,x'.P W->x.P W:=by
   rcases hx with ⟨_,_,rfl⟩|⟨_,_,_,_,rfl⟩
   .exact⟨rfl,by first |rfl|simp[WS.jM],fun _ h=>h⟩
   .exact⟨rfl,by first |rfl|simp[WS.jM],fun _ h=>h⟩
  exact⟨(x',ms',m),by rw[he,h0],⟨h1,h2,h3,hw⟩,hL⟩
 refine(ae7 (KS x hs) (agL (f:=f) (at_:=5) (c:=(cd:Int)) hC)).mono (xq.mono fun y ⟨h1,h2,h3,h4,hco,h5⟩=>⟨⟨2,0,0,0,3,ME.zero,y.1,y.2.1,y.2.2⟩,⟨by show y.2.2<n;omega,h3.more (by omega),h2,h4,hco,h5,by simp,⟨by simp,by simp,by simp,by simp,by simp,by simp,by simp,by simp,.inl (by show y.2.2+1=n;omega),by simp⟩⟩,rfl,rfl⟩)
theorem FSt.m4{y:ME}{m:Nat}(h:FSt own cd b fin x ms 4 y m):4<=m:=by cases h;omega
theorem FSt.m6{y:ME}{m:Nat}(h:FSt own cd b fin x ms 6 y m):m=1:=by cases h;rfl
theorem step_3(h:FSt own cd b fin x ms 3 e n)(hb:4*b<1000000)(f:Nat):aeJ own cd b fin x ms 3 e n f:=by
 obtain⟨hL,hs,hF⟩:=h.lg;have hz:e=ME.zero:=by cases h;rfl
 by_cases hn:n=2
 .have hC:aai prog 17 #[x.wb,(cd:Int)] [x.ts] (xq (fun y:ME×WS=>FSt own cd b fin y.2 ms 6 ME.zero 1/\y.2.wb=x.wb/\y.2.cos.length=x.cos.length/\∀W,y.2.P W->x.P W) (fun y=> .tuple #[.agg #[.int .i64 y.1.sync,.int .i64 y.1.thread,.int .i64 y.1.branch,.int .i64 y.1.flag,.int .i64 y.1.v.kind,.int .i64 y.1.v.num,.slice y.1.v.addr y.1.v.parts.length y.1.v.cap],false,()]) fun y=>[y.2.ts]):=ac7 fun T w hl=>(afX T w x (cd:Int) hl hF.good.q2).mono fun en w' ⟨v,er,x',he,hx,hL⟩=>by
   obtain⟨h0,m,h1,h2⟩:=afN h hx;have hx2:=hx;rcases h2 with ⟨hi,h2⟩|⟨y,_,_,h2⟩
   .have hm:=h2.m6
    obtain⟨y,hy⟩:∃y,v=aL.of y false:=by
     rcases hx with ⟨hk,_⟩|⟨k,hk,y,c,hck,hy,rfl,_,rfl⟩
     .exact absurd ⟨by omega,by cases h;rename_i h;have :=h.hc;omega⟩ hk
     .obtain rfl:c=false:=hi
      exact⟨y,rfl⟩
    have hw:x'.wb=x.wb/\x'.cos.length=x.cos.length/\∀W,x'.P W->x.P W:=by
     rcases hx2 with ⟨_,_,_,rfl⟩|⟨_,_,_,_,_,_,_,_,rfl⟩
     .exact⟨rfl,by first |rfl|simp[WS.jM],fun _ h=>h⟩
     .exact⟨rfl,by first |rfl|simp[WS.jM],fun _ h=>h⟩
    exact⟨(y,x'),by rw[he,h0,hy];rfl,⟨by rw[<-hm];exact h2,hw⟩,hL⟩
   .have :=h2.m4;omega
  refine(aew (KS x hs) (afp (f:=f) (e:=e) (at_:=3) hC)).mono (xq.mono fun y ⟨h3,h4,hco,h5⟩=>⟨⟨2,0,0,0,6,e,y.2,ms,1⟩,⟨by show 1<n;omega,by rw[hz];exact h3.more (by omega),rfl,h4,hco,h5,by simp,⟨by simp,by simp,by simp[hn],by simp,by simp,by simp,by simp,fun _ _=>rfl,.inl (by show 1+1=n;omega),by simp⟩⟩,rfl,rfl⟩)
 .have hC:aai prog 17 #[x.wb,(cd:Int)] [x.ts] (xq (fun y:ME×WS×Nat=>n=y.2.2+1/\FSt own cd b fin y.2.1 ms 4 y.1 y.2.2/\y.2.1.wb=x.wb/\y.2.1.cos.length=x.cos.length/\∀W,y.2.1.P W->x.P W) (fun y=> .tuple #[.agg #[.int .i64 y.1.sync,.int .i64 y.1.thread,.int .i64 y.1.branch,.int .i64 y.1.flag,.int .i64 y.1.v.kind,.int .i64 y.1.v.num,.slice y.1.v.addr y.1.v.parts.length y.1.v.cap],true,()]) fun y=>[y.2.1.ts]):=ac7 fun T w hl=>(afX T w x (cd:Int) hl hF.good.q2).mono fun en w' ⟨v,er,x',he,hx,hL⟩=>by
   obtain⟨h0,m,h1,h2⟩:=afN h hx;rcases h2 with ⟨hi,h2⟩|⟨y,rfl,hy,h2⟩
   .have :=h2.m6;omega
   .have hw:x'.wb=x.wb/\x'.cos.length=x.cos.length/\∀W,x'.P W->x.P W:=by
     rcases hx with ⟨_,_,_,rfl⟩|⟨_,_,_,_,_,_,_,_,rfl⟩
     .exact⟨rfl,by first |rfl|simp[WS.jM],fun _ h=>h⟩
     .exact⟨rfl,by first |rfl|simp[WS.jM],fun _ h=>h⟩
    exact⟨(y,x',m),by rw[he,h0];rfl,⟨by show n=m+1;omega,h2,hw⟩,hL⟩
  refine(aew (KS x hs) (afp (f:=f) (e:=e) (at_:=3) hC)).mono (xq.mono fun y ⟨h3,h4,h5,hco,h6⟩=>⟨⟨2,0,0,0,4,y.1,y.2.1,ms,y.2.2⟩,⟨by show y.2.2<n;omega,h4.more (by omega),rfl,h5,hco,h6,by simp,⟨by simp,by simp,by simp[hn],by simp,by simp,by simp,by simp,fun _ _=>rfl,.inl (by show y.2.2+1=n;omega),by simp⟩⟩,rfl,rfl⟩)
theorem step_4(h:FSt own cd b fin x ms 4 e n)(hb:4*b<1000000)(f:Nat):aeJ own cd b fin x ms 4 e n f:=by
 obtain⟨hL,hs,hF⟩:=h.lg;obtain⟨h1,h2⟩:=agV h;have hC:=adY (m:=x.ts) fun T w hl=>J3 T w x e.sync hl (by omega);rw[h1]at hC;rcases h2 with ⟨h2,hdn,m,hm,h3⟩|⟨h2,h3⟩
 .rw[h2]at hC
  refine(aez (KS x hs) (af0 (f:=f) (e:=e) (at_:=4) (c:=(cd:Int)) hC)).mono (xq.mono fun _ _=>⟨⟨2,0,0,0,3,ME.zero,x.ar (x.gL e.sync).2.2,ms,m⟩,⟨hm,h3,rfl,rfl,rfl,fun _ h=>h,by simp,⟨by simp,by simp,by simp,fun _ hno=>(by obtain⟨k,hk,he,hd⟩:=hdn;rw[hno k hk he]at hd;cases hd),by simp,by simp,by simp,fun _ _=>rfl,.inr ⟨rfl,rfl⟩,by simp⟩⟩,rfl,rfl⟩)
 .rw[h2]at hC
  have hM:∀u:Unit,True->aai prog 145 #[x.wb,e.sync,e.branch,.agg #[(1:Int),(),True],.int .i64 (-1)] [(x.ar (x.gL e.sync).2.2).ts] (xq (fun y:WS×List MS×Nat=>n=y.2.2+1/\y.2.1.length=ms.length/\FSt own cd (b+1) fin y.1 y.2.1 5 e y.2.2/\y.1.wb=x.wb/\y.1.cos.length=x.cos.length/\∀W,y.1.P W->x.P W) (fun _=> .int .i64 0) fun y=>[y.1.ts]):=fun _ _=>ac7 fun T w hl=>(qz T w (x.ar (x.gL e.sync).2.2) e.sync e.branch aei (-1) hl (fun W hW=>MT.dQ W) hs).mono fun en w' ⟨er,x',he,hx,hL⟩=>by
   obtain⟨h0,ms',m,h4,h5,h6⟩:=h3 aei er x' rfl hx;have hw:x'.wb=x.wb/\x'.cos.length=x.cos.length/\∀W,x'.P W->x.P W:=by
    rcases hx with ⟨_,_,rfl⟩|⟨_,_,_,⟨_,_,rfl⟩|⟨_,⟨_,_,rfl⟩|⟨_,_,v',_,rfl⟩⟩⟩
    .exact⟨rfl,by first |rfl|simp[WS.jM],fun _ h=>h⟩
    .exact⟨rfl,by first |rfl|simp[WS.jM],fun _ h=>h⟩
    .exact⟨rfl,by first |rfl|simp[WS.jM],fun _ h=>h⟩
    .exact⟨rfl,rfl,fun _ h=>h.1⟩
   exact⟨(x',ms',m),by rw[he,h0],⟨h4,h5,h6,hw⟩,hL⟩
  refine(aez (KS x hs) (af6 (f:=f) (e:=e) (at_:=4) (c:=(cd:Int)) hC hM)).mono (xq.mono fun y ⟨_,h4,h5,h6,h7,hco,h8⟩=>⟨⟨3,e.sync, -1,0,5,e,y.2.1,y.2.2.1,y.2.2.2⟩,⟨by show y.2.2.2<n;omega,h6,h5,h7,hco,h8,by simp,⟨by simp,by simp,by simp,fun _ _=>rfl,by simp,by simp,by simp,by simp,.inl (by show y.2.2.2+1=n;omega),by simp⟩⟩,rfl,rfl⟩)
theorem ae1{at_:Int}(h:FSt own cd b fin x ms at_ e n)(h7:at_≠7)(hb:4*b<1000000)(f:Nat):aeJ own cd b fin x ms at_ e n f:=by
 have h0:=h;cases h with
 |s1 he h=>exact step_1 h0 hb f
 |s2 he h=>exact step_2 h0 hb f
 |s3 he h=>exact step_3 h0 hb f
 |s4 he ho h=>exact step_4 h0 hb f
 |s5 he ho h=>exact step_5 h0 hb f
 |s6 he h=>exact step_6 h0 hb f
 |s7 he h=>exact absurd rfl h7
end
theorem afI(x:WS):aai prog 66 #[x.wb] [x.ts] (xq (fun _:Unit=>True) (fun _=> .tuple #[(x.BI.length:Int),(x.cos.length:Int),(x.sys.length:Int)]) fun _=>[x.ts]):=
 ags fun T w0 w hl=>BD.yV (r0:=[]) (by simpa using hl)
theorem aeU{x:WS}(hs:x.sys.length<=1000000)(c:Int)(h:0<=c/\c<(x.cos.length:Int)):aai prog 11 #[x.wb,c] [x.ts,[]] (xq (fun _:Nat=>True) (fun f=> .tuple #[.pointer (some ⟨f,0,none⟩),()]) fun f=>[x.ts,[zo f ME.zero 1 c]]):=by
 have hC:=afI x;have d1:decide (c<0)=false:=decide_eq_false (by omega);have d2:decide ((x.cos.length:Int)<=c)=false:=decide_eq_false (by omega);refine aai.go func11 ntmps11 ?_;refine go ?_;refine cr (abQ (KS x hs)) fun _ _=>?_;refine go ?_;refine cr hC fun _ _=>?_;refine go1 fun f=>?_;refine W.turn (M':=[x.ts,[zo f ME.zero 1 c]]) ?_ (fun T w0 w hl=>by simp only[List.flatten_cons,List.flatten_nil,nAq,List.append_nil,List.append_assoc]at hl|-;exact hl);refine W.abg ?_;exact⟨f,trivial,rfl,rfl⟩
theorem afO{x:WS}(hs:x.sys.length<=1000000)(c:Int)(h:¬(0<=c/\c<(x.cos.length:Int))):aai prog 11 #[x.wb,c] [x.ts] (xq (fun _:Unit=>True) (fun _=> .tuple #[.pointer none,(4:Int)]) fun _=>[x.ts]):=by
 have hC:=afI x;by_cases h0:c<0
 .have d1:decide (c<0)=true:=decide_eq_true h0
  clear h;refine aai.go func11 ntmps11 ?_;refine go ?_;refine cr (abQ (KS x hs)) fun _ _=>?_;refine go ?_;refine cr hC fun _ _=>?_;refine go ?_;refine W.abg ?_;exact⟨(),trivial,rfl,rfl⟩
 .have d1:decide (c<0)=false:=decide_eq_false h0
  have d2:decide ((x.cos.length:Int)<=c)=true:=decide_eq_true (by omega);clear h;refine aai.go func11 ntmps11 ?_;refine go ?_;refine cr (abQ (KS x hs)) fun _ _=>?_;refine go ?_;refine cr hC fun _ _=>?_;refine go ?_;refine W.abg ?_;exact⟨(),trivial,rfl,rfl⟩

theorem ae4{x:WS}(hs:x.sys.length<=1000000)(f:Nat)(e:ME)(c:Int):aai prog 14 #[f,x.wb] [[zo f e 7 c],x.ts] (xq (fun _:Unit=>True) (fun _=> .tuple #[mvV 0 0 0 0,(100:Int)]) fun _=>[[zo f e 7 c],x.ts]):=by
 have hix:∀w,(Instr.index 148 (.agg #[.nilFunc,.func (.func 167) #[] #[],.func (.func 168) #[] #[],.func (.func 169) #[] #[],.func (.func 170) #[] #[],.func (.func 171) #[] #[],.func (.func 172) #[] #[],.nilFunc]) (.int .i64 7)).run prog w= .ok .nilFunc w:=fun w=>by kernel_rfl
 have hq2:∀w,(binOp .eql 147 .nilFunc .nilFunc).run prog w= .ok (.bool true) w:=fun w=>by kernel_rfl
 refine aai.goD func14 ntmps14 ?_;refine go3 fun b2 b4 b5=>?_;refine cr (adA f e 7 c rfl) fun _ _=>?_;refine go ?_;refine cr (abQ (KS x hs)) fun _ _=>?_;refine go ?_;refine W.rgd ?_;repeat (refine' rgk ?_;rotate_left)
 refine rgz 0 ?_ ?_;refine go ?_;refine cr adx fun _ _=>?_;refine go ?_;refine W.afZ (.inl rfl) ?_;exact⟨(),trivial,rfl,rfl⟩
 kernel_rfl
end Go.Proofs.YtegejdlglonflaaGreatDoor
