/-
  Texts of FireHolds, laid together by program.
-/
import Derived.Test.YtegejdlglonflaaGreatDoorWZ38
import Derived.Test.YtegejdlglonflaaGreatDoorWZ41
namespace Go.Proofs.YtegejdlglonflaaGreatDoor
open Go.RowKit Go.Shelf Go.Proofs.Tryz
set_option maxRecDepth 100000
set_option maxHeartbeats 8000000
set_option linter.unusedVariables false
set_option linter.unusedSimpArgs false
theorem ahm{x:WS}{ms:List MS}(hs:x.sys=ms.map MS.raw)(hin:∀W,x.P W->∀m∈ms,m.In W)(i:Nat)(hi:i<ms.length):aai prog 10 #[x.wb,(i:Int)] [x.ts] (xq (fun s:MS=>s.plain=ms[i].plain) (fun s=> .tuple #[.agg #[s.thread,.slice s.ba s.bases.length s.bc,.slice s.ca s.conds.length s.cc,s.flag,s.parked,s.done,s.branch,s.v.kind,s.v.num,.slice s.v.addr s.v.parts.length s.v.cap,s.partner],true]) fun s=>[(x.knows (fun W=>s.In W)).ts]):=
 ac7 (mf:=fun s:MS=>(x.knows (fun W=>s.In W)).ts) fun T w hl=>(aaK T w x ms i hl hs hin).mono fun e w' ⟨v,er,x',he,hx,hL⟩=>by
  rcases hx with ⟨hno,_⟩|⟨n,hn,s',hn0,rfl,rfl,hs',rfl⟩
  .exact absurd ⟨by omega,by omega⟩ hno
  .obtain rfl:i=n:=by omega
   exact⟨s',by rw[he];rfl,hs',hL⟩
theorem af3{x:WS}{p q:MS}(hp:∀W,x.P W->p.In W)(hq:∀W,x.P W->q.In W)(h:p.plain=q.plain):RdG prog 15 #[p.val,q.val] [x.ts] fun e=>∃y:Unit,True/\e= .returned ((fun _=> .bool true) y):=ado fun T w0 w hl=>
 (Bf p q w (hp w (hl.still 2 rfl)) (hq w (hl.still 2 rfl))).mono fun e w' ⟨c,he,hc,ht⟩=>⟨by rw[he,hc.2 h],ht⟩
theorem ahO{T:List Nat}{w0 w:World}{x:WS}{e size n cap:Nat}{a:Option Addr}{xs:List Value}{r:List ai}(h:BD T w0 w (x.ts++r++[aS e size (.slice a n cap) n xs]))(hn:n<=2000000):BD T w0 w ((x.knows (fun W=>aG W a size n xs)).ts++r):=
 h.settle 2 rfl (fun W f hp hf=>⟨hp,iY hf.2 hn⟩)
theorem ms_lds{x:WS}{ws:List MS}{a:Option Addr}(hP:∀W,x.P W->aG W a 11 ws.length (ws.flatMap MS.cells))(i:Nat)(hi:i<ws.length){bb oo:Nat}(ha:a=some ⟨bb,oo,none⟩):abd x.ts bb (oo+i*11) 11 ws[i].cells:=⟨rfl,fun T w0 w R hl j v hv=>by
 obtain⟨b',o',hb',_,hc⟩:=aG.at (f:=MS.cells) (fun _=>rfl) (hP w (hl.still 2 rfl)) i hi;rw[ha]at hb';injection hb' with hb'
 injection hb' with e1 e2
 subst e1 e2;have hj:j<11:=(List.getElem?_eq_some_iff.1 hv).1;rw[hc j hj];exact hv⟩
theorem ent_ld{x:WS}{es:List ME}{a:Option Addr}{k:Nat}(hP:∀W,x.P W->T9 W a k es)(i:Nat)(hi:i<es.length){bb oo:Nat}(ha:a=some ⟨bb,oo,none⟩):abv x.ts bb (oo+i*7) (.int .i64 es[i].sync)/\abv x.ts bb (oo+i*7+2) (.int .i64 es[i].branch):=by
 have key:∀T w0 w R,BD T w0 w (x.ts++R)->yX w bb (oo+i*7) es[i]:=fun T w0 w R hl=>by
  obtain⟨b',o',hb',_,hc⟩:=(hP w (hl.still 2 rfl)).2.1 i hi;rw[ha]at hb';injection hb' with hb'
  injection hb' with e1 e2
  subst e1 e2;exact hc
 exact⟨fun T w0 w R hl=>(key T w0 w R hl).1,fun T w0 w R hl=>(key T w0 w R hl).2.2.1⟩
def firstM(l:List PE)(k:Nat)(z:Int):Option Value:=(adj z (l.take k)).map (.int .i64)
theorem aeD{i:Int}{e:PE}:∀(l:List PE),adj i (l++[e])=match adj i l with
  |some b=>some b
  |none=>if e.sync=i then some e.branch else none
 |[]=>rfl
 |a::l=>by
  simp only[cAq,adj];by_cases h:a.sync=i
  .rw[if_pos h,if_pos h]
  .rw[if_neg h,if_neg h]
   exact aeD l
theorem afV{l:List PE}{k:Nat}(hk:k<l.length)(h:firstM l k l[k].sync=none):adD (firstM l k) l[k].sync (.int .i64 l[k].branch)=firstM l (k+1):=by
 funext z
 unfold firstM at h|-;rw[List.take_succ_eq_append_getElem hk,aeD];unfold adD;have h1:adj l[k].sync (l.take k)=none:=by simpa using h
 by_cases hz:z=l[k].sync
 .subst hz
  simp[h1]
 .rw[if_neg hz]
  cases hf:adj z (l.take k)with
  |none=>simp[hf,Ne.symm hz]
  |some b=>simp[hf]
theorem afM{l:List PE}{k:Nat}(hk:k<l.length)(h:firstM l k l[k].sync≠none):firstM l k=firstM l (k+1):=by
 funext z
 unfold firstM at h|-;rw[List.take_succ_eq_append_getElem hk,aeD];cases hf:adj z (l.take k)with
 |some b=>rfl
 |none=>
  have hz:¬l[k].sync=z:=fun e=>h (by rw[e,hf];rfl);simp[hz]
structure aeg(own:Int->pE)(cd b:Nat)(la:Nat)(x:WS)(ms:List MS):Prop where
 fair:x.Fair ms
 inv:o5 own false cd la 1 b x ms
 hc:cd<x.cos.length
 es:x.cos[cd].es=[]
section
variable {own:Int->pE} {cd b la:Nat} {x:WS} {ms:List MS}
theorem FSt.over{fin:Nat->MPl}{e:ME}{n:Nat}(h:FSt own cd b fin x ms 7 e n):aeg own cd b 0 x ms/\∀i (hi:i<ms.length),ms[i].plain=fin i:=by
 cases h with
 |s7 he h=>exact⟨⟨h.fair,h.inv,h.hc,he h.hc⟩,h.fin⟩
theorem aeg.know(h:aeg own cd b la x ms){Q:World->Prop}(hQ:∀W,Q W->x.P W):aeg own cd b la {x with P:=Q} ms:=⟨h.fair.fJ Q hQ,h.inv.know Q,h.hc,h.es⟩
theorem af8(h:aeg own cd b la x ms)(hb:4*b<1000000):aai prog 16 #[x.wb,(cd:Int)] [x.ts] (xq (fun y:WS=>aeg own cd (b+1) la y ms/\y.wb=x.wb/\y.P=x.P) (fun _=> .tuple #[true,()]) fun y=>[y.ts]):=by
 have ho:=h.inv.cf cd h.hc;have hv:=h.inv.fr cd h.hc rfl;obtain⟨h1,h2,h3⟩:=afP h.hc ho.2;rw[hv]at h1 h3;have hC:=adY fun T w hl=>zJ T w x (cd:Int) hl (by have :=h.inv.lg;omega);have e2:(x.eY cd)=(true,0,(x.eY cd).2.2):=Prod.ext h1 (Prod.ext h2 rfl);rw[e2]at hC;exact hC.mono (xq.mono fun _ _=>⟨x.ar (x.eY cd).2.2,⟨⟨(bq.ar h.fair (si x _) aeF).fair,h.inv.tnR cd h.hc rfl h3,h.hc,h.es⟩,rfl,rfl⟩,rfl,rfl⟩)
theorem agP(h:aeg own cd b 0 x ms)(hb:4*b<1000000):aai prog 18 #[x.wb,(cd:Int)] [x.ts] (xq (fun y:WS=>y.P=x.P) (fun _=> .tuple #[true,()]) fun y=>[y.ts]):=by
 have ho:=h.inv.ca cd h.hc;have hv:=h.inv.lk cd h.hc rfl;obtain⟨h1,h2,h3⟩:=aeP h.hc ho.2;rw[hv]at h1 h3;have hC:=adY fun T w hl=>xZ T w x (cd:Int) hl (by have :=h.inv.lg;omega);have e2:(x.cK cd)=(true,0,(x.cK cd).2.2):=Prod.ext h1 (Prod.ext h2 rfl);rw[e2]at hC;exact hC.mono (xq.mono fun _ _=>⟨x.ar (x.cK cd).2.2,rfl,rfl,rfl⟩)
theorem agB(h:aeg own cd b la x ms):aai prog 17 #[x.wb,(cd:Int)] [x.ts] (xq (fun y:WS=>aeg own cd b la y ms/\y.wb=x.wb/\y.P=x.P) (fun _=> .tuple #[.agg #[(),(),(),(),(),(),True],false,()]) fun y=>[y.ts]):=
 ac7 (mf:=fun y:WS=>y.ts) fun T w hl=>(afX T w x (cd:Int) hl h.fair.good.q2).mono fun en w' ⟨v,er,x',he,hx,hL⟩=>by
  have hc:=h.hc;rcases hx with ⟨hk,_⟩|⟨k,hk,y,c,hck,hy,rfl,rfl,rfl⟩
  .exact absurd ⟨by omega,by omega⟩ hk
  obtain rfl:cd=k:=by omega
  rcases hy with ⟨rfl,_,hy⟩|⟨rfl,hno,rfl⟩
  .rw[h.es]at hy;simp at hy
  .refine⟨_,by rw[he];rfl,⟨⟨rR h.fair cd hk _ x.P (fun _ h=>h) (fun W hW e hm=>?_) ?_,h.inv.jM (k:=b) cd hk _ ⟨rfl,rfl⟩ _ (Nat.le_refl _) ?_ (fun e hm=>?_),by simpa[WS.jM]using hk,?_⟩,rfl,rfl⟩,hL⟩
   .simp[h.es]at hm
   .simp[h.es]
   .simp[h.es]
   .simp[h.es]at hm
   .simp[WS.jM,h.es]
end
end Go.Proofs.YtegejdlglonflaaGreatDoor
