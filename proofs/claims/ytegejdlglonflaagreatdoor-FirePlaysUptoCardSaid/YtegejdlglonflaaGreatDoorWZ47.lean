/-
  Texts of FirePlays, laid together by program.
-/
import Derived.Test.YtegejdlglonflaaGreatDoorWZ41
import Derived.Test.YtegejdlglonflaaGreatDoorWZ43
namespace Go.Proofs.YtegejdlglonflaaGreatDoor
open Go.RowKit Go.Shelf Go.Proofs.Tryz
set_option maxRecDepth 100000
set_option maxHeartbeats 8000000
set_option linter.unusedVariables false
set_option linter.unusedSimpArgs false
theorem ahm{x:WS}{ms:List MS}(hs:x.sys=ms.map MS.raw)(hin:∀W,x.P W->∀m∈ms,m.In W)(i:Nat)(hi:i<ms.length):aai prog 10 #[x.wb,(i:Int)] [x.ts] (xq (fun s:MS=>s.plain=ms[i].plain) (fun s=> .tuple #[.agg #[s.thread,.slice s.ba s.bases.length s.bc,.slice s.ca s.conds.length s.cc,s.flag,s.parked,s.done,s.branch,s.v.kind,s.v.num,.slice s.v.addr s.v.parts.length s.v.cap,s.partner],true]) fun s=>[(x.knows (fun W=>s.In W)).ts]):=
 ac7 (mf:=fun s:MS=>(x.knows (fun W=>s.In W)).ts) fun T w hl=>(aaK T w x ms i hl hs hin).mono fun e w' ⟨v,er,x',he,hx,hL⟩=>by
  rcases hx with ⟨hno,_⟩|⟨n,hn,s',hn0,rfl,rfl,hs',rfl⟩
  .exact absurd ⟨by omega,by omega⟩ hno
  .obtain rfl:i=n:=by omega
   exact⟨s',by rw[he];rfl,hs',hL⟩
theorem af3{x:WS}{p q:MS}(hp:∀W,x.P W->p.In W)(hq:∀W,x.P W->q.In W)(h:p.plain=q.plain):RdG prog 15 #[p.val,q.val] [x.ts] fun e=>∃y:Unit,True/\e= .returned ((fun _=> .bool true) y):=ado fun T w0 w hl=>
 (Bf p q w (hp w (hl.still 2 rfl)) (hq w (hl.still 2 rfl))).mono fun e w' ⟨c,he,hc,ht⟩=>⟨by rw[he,hc.2 h],ht⟩
theorem ms_lds{x:WS}{ws:List MS}{a:Option Addr}(hP:∀W,x.P W->aG W a 11 ws.length (ws.flatMap MS.cells))(i:Nat)(hi:i<ws.length){bb oo:Nat}(ha:a=some ⟨bb,oo,none⟩):abd x.ts bb (oo+i*11) 11 ws[i].cells:=⟨rfl,fun T w0 w R hl j v hv=>by
 obtain⟨b',o',hb',_,hc⟩:=aG.at (f:=MS.cells) (fun _=>rfl) (hP w (hl.still 2 rfl)) i hi;rw[ha]at hb';injection hb' with hb'
 injection hb' with e1 e2
 subst e1 e2;have hj:j<11:=(List.getElem?_eq_some_iff.1 hv).1;rw[hc j hj];exact hv⟩
structure aeg(own:Int->pE)(cd b:Nat)(la:Nat)(x:WS)(ms:List MS):Prop where
 fair:x.Fair ms
 inv:o5 own false cd la 1 b x ms
 hc:cd<x.cos.length
 es:x.cos[cd].es=[]
section
variable {own:Int->pE} {cd b la:Nat} {x:WS} {ms:List MS}
theorem aeg.know(h:aeg own cd b la x ms){Q:World->Prop}(hQ:∀W,Q W->x.P W):aeg own cd b la {x with P:=Q} ms:=⟨h.fair.fJ Q hQ,h.inv.know Q,h.hc,h.es⟩
end
theorem list_g{x:WS}{ms:List MS}(hf:x.Fair ms)(n:Nat)(hn:n<x.BI.length)(s:Int):aai prog 91 #[x.wb,(n:Int),s] [x.ts] (xq (fun y:LiA=>y.2.2.map ME.plain=(SK x.BI[n] s).map ME.plain) (fun y=> .tuple #[.slice y.1 y.2.2.length y.2.1,true]) fun y=>[(x.knows (fun W=>T9 W y.1 y.2.2.length y.2.2)).ts]):=
 ac7 (mf:=fun y:LiA=>(x.knows (fun W=>T9 W y.1 y.2.2.length y.2.2)).ts) fun T w hl=>((callsIn_wide (n:=0)).1 (ai7 0 T w x ms n hn s hl hf)).mono fun e w' ⟨a,cap,xs,he,hp,hL⟩=>⟨(a,cap,xs),he,hp,hL⟩
theorem ai0{x:WS}{p q:ME}(hp:∀W,x.P W->p.v.In W/\p.v.nodes<=256)(hq:∀W,x.P W->q.v.In W/\q.v.nodes<=256)(h:p.plain=q.plain):RdG prog 24 #[p.val,q.val] [x.ts] fun e=>∃y:Unit,True/\e= .returned ((fun _=> .bool true) y):=ado fun T w0 w hl=>by
 obtain⟨h1,h2⟩:=hp w (hl.still 2 rfl);obtain⟨h3,h4⟩:=hq w (hl.still 2 rfl);exact(gY p q w h1 h3 (by omega) (by omega)).mono fun e w' ⟨c,he,hc,ht⟩=>⟨by rw[he,hc.2 ⟨h2,h4,h⟩],ht⟩
theorem ah8{x:WS}{es:List ME}{a:Option Addr}{k:Nat}(hP:∀W,x.P W->T9 W a k es)(i:Nat)(hi:i<es.length){bb oo:Nat}(ha:a=some ⟨bb,oo,none⟩):abd x.ts bb (oo+i*7) 7 es[i].cells:=⟨rfl,fun T w0 w R hl j v hv=>by
 obtain⟨b',o',hb',_,hc⟩:=(hP w (hl.still 2 rfl)).2.1 i hi;rw[ha]at hb';injection hb' with hb'
 injection hb' with e1 e2
 subst e1 e2;obtain⟨c0,c1,c2,c3,c4,c5,c6⟩:=hc;have hj:j<7:=(List.getElem?_eq_some_iff.1 hv).1;match j,hj,hv with
 |0,_,hv=>rw[show v=_ from(Option.some.inj hv).symm];exact c0
 |1,_,hv=>rw[show v=_ from(Option.some.inj hv).symm];exact c1
 |2,_,hv=>rw[show v=_ from(Option.some.inj hv).symm];exact c2
 |3,_,hv=>rw[show v=_ from(Option.some.inj hv).symm];exact c3
 |4,_,hv=>rw[show v=_ from(Option.some.inj hv).symm];exact c4
 |5,_,hv=>rw[show v=_ from(Option.some.inj hv).symm];exact c5
 |6,_,hv=>rw[show v=_ from(Option.some.inj hv).symm];exact c6⟩
theorem ajf{m:List ai}(cell:Int)(a1:Option Addr)(n1 c1:Nat)(a2:Option Addr)(n2 c2:Nat)(s:Int):RdG prog 92 #[.agg #[cell,.slice a1 n1 c1,.slice a2 n2 c2],s] [m] fun e=>∃y:Unit,True/\e= .returned ((fun _=>if s=1 then .slice a1 n1 c1 else if s=2 then .slice a2 n2 c2 else .slice none 0 0) y):=ado fun T w0 w hl=>VQ w cell a1 n1 c1 a2 n2 c2 s
end Go.Proofs.YtegejdlglonflaaGreatDoor
