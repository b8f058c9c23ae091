/-
  Texts of WorldCopies, laid together by program.
-/
import Derived.Test.YtddnnapoaonmjaaGreatDoorWZ33
namespace Go.Proofs.YtddnnapoaonmjaaGreatDoor
open Go.RowKit Go.Shelf Go.Proofs.Tryz
set_option maxRecDepth 100000
set_option maxHeartbeats 8000000
set_option linter.unusedVariables false
set_option linter.unusedSimpArgs false
section
variable {P:Program} {ops:Array Oper} {Q:Exit->Act->World->Prop} {md:Region.Mode} {S:World->Prop} {oi:Oper} {fuel:Nat} {listed:Array Bool} {a:Act} {w:World}
theorem ldq{G:Prop}(i:Nat)(d:Tmp){ty:TypeId}{xo:Operand}(b o:Nat)(cs:List Value)(de:TypeDesc)(h:G)(hc:∀w,S w->∀j v,cs[j]? =some v->w.cell? ⟨b,o+j,none⟩=some v)(hu:P.underlying ty=some de)(hdd:(match de with | .struct _| .array _ _=>true|_=>false)=true)(hin:(P.info? ty).map (·.size)=some cs.length)(hi:ops[i]? =some oi)(ho:oi.op= .load ty xo)(hx:a.eval xo= .pointer (some ⟨b,o,none⟩))(hd:oi.dst=some d)(hg:oi.guard=none)(hS:S w)(hs:Region.noSelect ops=true:=by kernel_rfl)(hf:Region.free md ops listed i=true:=by kernel_rfl)(hr:(Region.ready md ops listed).contains i=true:=by kernel_rfl)(hQ:∀c a w,Q (.panic c) (a.put (some d) (.agg cs.toArray)) w->Q (.panic c) a w:=by exact fun _ _ _ h=>h)(e:wpAnyH P md ops Q S fuel (listed.setIfInBounds i true) (a.put (some d) (.agg cs.toArray)) w=G:=by(try simp only[Act.put,sAq,sZq,sSq]);exact rfl):wpAnyH P md ops Q S (fuel+1) listed a w:=by
 rw[<-hd]at hQ e;refine wpAnyH_take hi hs hf hr hQ (Or.inl ⟨by simp[Region.wanted,hg],fun w1 h1=>?_⟩) hS (e▸h);unfold execOp;simp only[ho,hx,Instr.loadAt,Instr.sureAddr,Sem.run_bind,Sem.run_pure,Result.andThen_ok,qC w1 b o ty cs de (hc w1 h1) hu hdd hin]
end
def fw(p q:BO):Array Value:=#[.int .i64 p.what,.int .i64 p.a,.int .i64 p.b,.int .i64 p.c,.int .i64 p.side,.int .i64 p.e.sync,.int .i64 p.e.thread,.int .i64 p.e.branch,.int .i64 p.e.flag,.int .i64 p.e.v.kind,.int .i64 p.e.v.num,.slice p.e.v.addr p.e.v.parts.length p.e.v.cap,.slice p.ba p.bases.length p.bc,.slice p.ca p.conds.length p.cc,.int .i64 p.v.kind,.int .i64 p.v.num,.slice p.v.addr p.v.parts.length p.v.cap,.int .i64 q.what,.int .i64 q.a,.int .i64 q.b,.int .i64 q.c,.int .i64 q.side,.int .i64 q.e.sync,.int .i64 q.e.thread,.int .i64 q.e.branch,.int .i64 q.e.flag,.int .i64 q.e.v.kind,.int .i64 q.e.v.num,.slice q.e.v.addr q.e.v.parts.length q.e.v.cap,.slice q.ba q.bases.length q.bc,.slice q.ca q.conds.length q.cc,.int .i64 q.v.kind,.int .i64 q.v.num,.slice q.v.addr q.v.parts.length q.v.cap]
theorem aaV{W:World}{b t:Nat}{p q:BO}(h:Cg W b t (fw p q)):aG W (some ⟨b,0,none⟩) 17 2 ([p,q].flatMap BO.cells):=by
 refine⟨by decide,fun i hi=>⟨b,0,rfl,h.lt,fun j hj=>?_⟩⟩;have e:fw p q=([p,q].flatMap BO.cells).toArray:=by simp[BO.cells,fw]
 rw[Nat.zero_add,h.cell (i*17+j),e];simp
def PC(w:World)(b:Nat)(p q:BO)(W:World):Prop:=Oa w W/\aG W (some ⟨b,0,none⟩) 17 2 ([p,q].flatMap BO.cells)
structure aah(P0:World->Prop)(k:Nat)(x:WS)(ms:List MS)(r:RW):Prop where
 fair:x.Fair ms
 both:Both x ms r
 log:x.s.L.length<=k
 knows:∀W,x.P W->P0 W
theorem aah.next{P0:World->Prop}{k:Nat}{x x':WS}{ms ms':List MS}{r r':RW}{a:BO}(h:aah P0 k x ms r)(hs:bq a x ms x' ms')(hb:Both x' ms' r'):aah P0 (k+1) x' ms' r':=
 ⟨hs.fair,hb,by have :=h.log;have :=hs.log;omega,fun W hW=>h.knows W (hs.knows W hW)⟩
theorem aah.can{P0:World->Prop}{k:Nat}{x:WS}{ms:List MS}{r:RW}{a:BO}(h:aah P0 k x ms r)(hk:k<1000000)(hm:∀W,P0 W->a.Mem W)(hb:a.Big):cZ x ms a:=
 ⟨h.fair,fun W hW=>hm W (h.knows W hW),by have :=h.log;omega,hb.2.2⟩
theorem aar{T:List Nat}{w0 w:World}{P0:World->Prop}{k:Nat}{x:WS}{ms:List MS}{r:RW}{L:PL}{m:List ai}(y:BO)(wb:Nat)(hwb:x.wb=wb)(h:aah P0 k x ms r)(hk:k<1000000)(hm:∀W,P0 W->y.Mem W)(hb:y.Big)(hsm:y.Small)(hL:BD T w0 w (x.ts++([r.th L]++m))):
  Calls prog 14 #[wb,.agg #[.slice r.v.ca r.v.cn r.v.cc,r.v.most,.slice r.v.la r.v.ln r.v.lc,.slice r.v.ha r.v.hn r.v.hc,.slice r.v.oa r.v.on r.v.oc,.slice r.v.sa r.v.sn r.v.sc],.agg #[y.what,y.a,y.b,y.c,y.side,y.e.sync,y.e.thread,y.e.branch,y.e.flag,y.e.v.kind,y.e.v.num,.slice y.e.v.addr y.e.v.parts.length y.e.v.cap,.slice y.ba y.bases.length y.bc,.slice y.ca y.conds.length y.cc,y.v.kind,y.v.num,.slice y.v.addr y.v.parts.length y.v.cap]] w fun e w'=>∃(x':WS) (ms':List MS) (r':RW) (L':PL),e= .returned (.tuple #[x'.wb,.agg #[.slice r'.v.ca r'.v.cn r'.v.cc,r'.v.most,.slice r'.v.la r'.v.ln r'.v.lc,.slice r'.v.ha r'.v.hn r'.v.hc,.slice r'.v.oa r'.v.on r'.v.oc,.slice r'.v.sa r'.v.sn r'.v.sc],true])/\aah P0 (k+1) x' ms' r'/\(∀W,x'.P W->x.P W)/\(∀z∈L,z∈L')/\BD T w0 w' (x'.ts++([r'.th L']++m)):=by
 subst hwb;refine(BD.does (by rw[List.append_assoc];exact hL) (act_b x ms r L y (h.can hk hm hb) h.both hsm)).mono ?_;rintro e w' ⟨m2,⟨p,oo,fine,rfl,rfl,x',ms',r',L',hst,DX,rfl,rfl,Qy,rfl⟩,h5⟩;rw[List.append_assoc]at h5;exact⟨x',ms',r',L',rfl,h.next hst DX,hst.knows,Qy,h5⟩
theorem Both.fJ{x:WS}{ms:List MS}{r:RW}(h:Both x ms r)(P:World->Prop)(hP:∀W,P W->x.P W):Both (x.fJ P) ms r:=⟨⟨h.rel.s,h.rel.h,h.rel.o,h.rel.n⟩,h.fits,fun W hW=>h.on W (hP W hW),h.cc,h.small,h.fl⟩
theorem aah.fJ{P0:World->Prop}{k:Nat}{x:WS}{ms:List MS}{r:RW}(h:aah P0 k x ms r)(P:World->Prop)(hP:∀W,P W->x.P W):aah P0 k (x.fJ P) ms r:=⟨h.fair.fJ P hP,h.both.fJ P hP,h.log,fun W hW=>h.knows W (hP W hW)⟩
theorem copAt0{P0:World->Prop}{wb ga:Nat}(hP:∀W,P0 W->bJ W):aah P0 0 (WS.empty wb ga 200 P0) [] ⟨⟨none,0,0,200,none,0,0,none,0,0,none,0,0,none,0,0⟩,Ar.fresh 200,[],[],[]⟩:=
 ⟨⟨⟨hP,fun W _=>⟨fun c hc=>(List.not_mem_nil hc).elim,fun c hc=>(List.not_mem_nil hc).elim⟩,rfl,fun W _ m hm=>(List.not_mem_nil hm).elim,fun n hn=>(Nat.not_lt_zero _ hn).elim,fun n hn=>(Nat.not_lt_zero _ hn).elim,Nat.zero_le _,Nat.zero_le _,Nat.zero_le _⟩,rfl,Nat.zero_le _,(by show(200:Nat)<=65536;omega)⟩,
  ⟨⟨rfl,rfl,rfl,rfl⟩,⟨rfl,rfl,rfl,rfl⟩,fun W _=>⟨⟨Nat.zero_le _,fun i hi=>(Nat.not_lt_zero _ hi).elim⟩,⟨Nat.zero_le _,fun i hi=>(Nat.not_lt_zero _ hi).elim⟩,⟨Nat.zero_le _,fun i hi=>(Nat.not_lt_zero _ hi).elim⟩,fun c hc=>(List.not_mem_nil hc).elim,fun c hc=>(List.not_mem_nil hc).elim,fun c hc=>(List.not_mem_nil hc).elim⟩,fun c hc=>(List.not_mem_nil hc).elim,Nat.zero_le _,fun n hn=>(Nat.not_lt_zero _ hn).elim⟩,
  Nat.le_refl _,fun W h=>h⟩
theorem aaQ{T:List Nat}{w0 w:World}{P0:World->Prop}{k:Nat}{x:WS}{ms:List MS}{r:RW}{m:List ai}(h:aah P0 k x ms r)(hL:BD T w0 w (x.ts++m)):
  Calls prog 11 #[x.wb] w fun e w'=>∃(y:WS) (ms':List MS) (P1:World->Prop),e= .returned (.pointer (some ⟨y.wb,0,none⟩))/\aah P0 k (x.fJ P1) ms r/\aah P0 k (y.fJ P1) ms' r/\BD T w0 w' ((x.fJ P1).ts++m++y.rest):=by
 obtain⟨T',hF,hb⟩:=hL.aN;refine(K3 T' w x ms hF h.fair.good).mono ?_;rintro e w' ⟨Q,y,ms',rfl,hP,hG,hs,h1,h2,h3,h5⟩;have h6:=hb _ _ h5;refine⟨y,ms',(x.knows Q).P,rfl,h.fJ _ (fun W hW=>hW.1),?_,h6.aB⟩;rw[<-hP];exact⟨(yO (a:=⟨0,0,0,0,0,ME.zero,none,0,[],none,0,[],MT.zero⟩) h.fair hP hG hs h1 h2 h3).fair,⟨⟨hs.trans h.both.rel.s,h1.trans h.both.rel.h,h2.trans h.both.rel.o,h3.trans h.both.rel.n⟩,h.both.fits,fun W hW=>h.both.on W (by rw[hP]at hW;exact hW.1),h.both.cc,h.both.small,h.both.fl⟩,
  Nat.le_trans (Nat.le_of_eq (congrArg (fun s:Ar=>s.L.length) hs)) h.log,fun W hW=>h.knows W (by have hW':y.P W:=hW;rw[hP]at hW';exact hW'.1)⟩
def aaJ(x:WS)(P:World->Prop)(v:Value):Prop:=∀(W:World) (a:Option Addr) (es:List ME) (kk many:Nat),P W->many<=10000->(fo W a es/\∀e∈es,e.v.In W/\e.v.nodes<=256)->(∀h:0<x.BI.length,(SK x.BI[0] 1).map ME.plain=es.map ME.plain)->(x.BI.length=0->(a=none/\es=[]/\kk=0))->
 Calls prog 20 #[v,.slice a es.length kk,(many:Int)] W fun e w'=>e= .returned (.bool true)/\Touch [] W w'
theorem aaU{T:List Nat}{w0 w:World}{P0:World->Prop}{k:Nat}{x:WS}{ms:List MS}{r:RW}{P:World->Prop}{m:List ai}(h:aah P0 k (x.fJ P) ms r)(hL:BD T w0 w ((x.fJ P).ts++m)):
  Calls prog 17 #[x.wb,(),(1:Int)] w fun e w'=>∃(v:Value) (P2:World->Prop),e= .returned v/\(∀W,P2 W->P W)/\aaJ x P2 v/\BD T w0 w' ((x.fJ P2).ts++m):=by
 have hg:(x.fJ P).Good ms:=h.fair.good;refine(BD.aaI (x:=x.fJ P) (P:=P) hL hg (fun W hW=>hW) 0 1).mono ?_;rintro e w' (⟨n,hn,bv,bx,a,cap,ys,hk,rfl,hp,h5⟩|⟨hk,rfl,h5⟩)
 .obtain rfl:n=0:=by omega
  have hy:∀W,P W->∀z∈ys,z.v.nodes<=256:=fun W hW=>aan (hg.vals W hW) 0 hn 1 hp;have h6:BD T w0 w' (((x.fJ P).ts++m)++[allT bx (.slice a ys.length cap) ys,box bv 68 #[.func (.func 251) #[] #[bx]]]):=by
   rw[<-List.append_assoc]at h5;exact h5.aB
  have h7:=BD.settle (l:=((x.fJ P).ts++m)++[allT bx (.slice a ys.length cap) ys]) (by simpa using h6) 2 rfl (Q:=fun W=>P W/\W.cell? ⟨bv,0,none⟩=some (.func (.func 251) #[] #[bx])) (fun W f hP (hb:(Proofs.YtddnnapoaonmjaaGreatDoor.box bv 68 #[.func (.func 251) #[] #[bx]]).holds W f)=>⟨hP,hb.2.cell 0⟩);have e7:(((x.fJ P).ts++m)++[allT bx (.slice a ys.length cap) ys]).set 2 (aA fun W=>P W/\W.cell? ⟨bv,0,none⟩=some (.func (.func 251) #[] #[bx]))=((x.fJ fun W=>P W/\W.cell? ⟨bv,0,none⟩=some (.func (.func 251) #[] #[bx])).ts++m)++[allT bx (.slice a ys.length cap) ys]:=rfl;rw[e7]at h7;have h8:=BD.settle (l:=((x.fJ fun W=>P W/\W.cell? ⟨bv,0,none⟩=some (.func (.func 251) #[] #[bx])).ts++m)) h7 2 rfl (Q:=fun W=>P W/\aaj W bv bx a cap ys) (fun W f hP (hb:(allT bx (.slice a ys.length cap) ys).holds W f)=>⟨hP.1,⟨hb.2.1,iL hb.2.2.1,hb.2.2.2⟩,hP.2⟩);refine⟨_,fun W=>P W/\aaj W bv bx a cap ys,rfl,fun W hW=>hW.1,?_,h8⟩;intro W a2 es kk many hP hm hE hpl _;have hl:es.length<=4096:=by
   have h1:=congrArg List.length (hpl hn);have h2:=aau hg 0 hn 1;simp only[List.length_map]at h1;have h3:(SK x.BI[0] 1).length<=4096:=h2;omega
  exact aaO W bv bx a cap ys es a2 kk many hP.2 (hy W hP.1) hE.1 hE.2 (hp.trans (hpl hn)) (by omega) hm
 .have h0:x.BI.length=0:=by
   have h1:¬((0:Int)<=0/\(0:Int)<(x.BI.length:Int)):=hk;omega
  refine⟨_,P,rfl,fun W hW=>hW,?_,h5⟩;intro W a2 es kk many hP hm hE hpl hno;obtain⟨rfl,rfl,rfl⟩:=hno h0;exact aao W many hm
theorem aaW{P0:World->Prop}{k:Nat}{x:WS}{ms:List MS}{r:RW}{P2:World->Prop}{sv:Value}(h:aah P0 k (x.fJ P2) ms r)(hsq:aaJ x P2 sv):∃(a1:Option Addr) (es:List ME) (kk:Nat),
  (∀W,P2 W->∀many:Nat,many<=10000->Calls prog 20 #[sv,.slice a1 es.length kk,(many:Int)] W fun e w'=>e= .returned (.bool true)/\Touch [] W w')/\(x.BI.length=0->(a1=none/\es=[]/\kk=0))/\r.v.hn=x.BI.length/\
  (0<x.BI.length->∃cc:Rb,(∀W,P2 W->Qk W r.v.ha 0 cc.cells)/\∀W,Calls prog 18 #[.agg #[(cc.cell:Int),.slice cc.a1 cc.es1.length cc.k1,.slice cc.a2 cc.es2.length cc.k2],(1:Int)] W fun e w'=>e= .returned (.slice a1 es.length kk)/\Touch [] W w'):=by
 have hl:x.BI.length=r.BI.length:=(PD h.both.rel.h).1;have hv:r.v.hn=x.BI.length:=h.both.fits.h.trans hl.symm;by_cases h0:0<x.BI.length
 .have hr0:0<r.BI.length:=by omega
  obtain⟨a1,es,kk,h1,h2,h3⟩:=aaM h.both 0 hr0 h0 1;have k1:(SK (x.BI[0]'h0) 1).map ME.plain=es.map ME.plain:=h2;have k2:∀W,P2 W->Qk W r.v.ha 0 (r.BI[0]'hr0).cells:=fun W hW=>h.both.XH 0 hr0 W hW;have k3:x.BI.length=0->(a1=none/\es=[]/\kk=0):=fun h9=>absurd h9 (Nat.ne_of_gt h0);have k4:∀W,P2 W->fo W a1 es/\∀e∈es,e.v.In W/\e.v.nodes<=256:=h3;refine⟨a1,es,kk,?_,k3,hv,fun _=>⟨r.BI[0]'hr0,k2,h1⟩⟩;intro W hW many hm;have k6:=hsq W a1 es kk many hW hm (k4 W hW);have k7:=k6 (fun _=>k1);exact k7 k3
 .have k3:x.BI.length=0->((none:Option Addr)=none/\([]:List ME)=[]/\0=0):=fun _=>⟨rfl,rfl,rfl⟩
  have k4:∀W,fo W none []:=fun W i hi=>(Nat.not_lt_zero i hi).elim;have k5:∀W,∀e∈([]:List ME),e.v.In W/\e.v.nodes<=256:=fun W e he=>(List.not_mem_nil he).elim;refine⟨none,[],0,?_,k3,hv,fun h9=>absurd h9 h0⟩;intro W hW many hm;have k6:=hsq W none [] 0 many hW hm ⟨k4 W,k5 W⟩;have k7:=k6 (fun h9=>absurd h9 h0);exact k7 k3
theorem aaN{W:World}{b:Nat}{p q:BO}(h:aG W (some ⟨b,0,none⟩) 17 2 ([p,q].flatMap BO.cells)):(∀j v,p.cells[j]? =some v->W.cell? ⟨b,0+j,none⟩=some v)/\∀j v,q.cells[j]? =some v->W.cell? ⟨b,17+j,none⟩=some v:=by
 obtain⟨b1,o1,e1,_,h1⟩:=aG.at (f:=BO.cells) (l:=[p,q]) (fun _=>rfl) h 0 (by simp);obtain⟨b2,o2,e2,_,h2⟩:=aG.at (f:=BO.cells) (l:=[p,q]) (fun _=>rfl) h 1 (by simp);injection e1 with e1
 injection e1 with x1 x2
 injection e2 with e2
 injection e2 with x3 x4
 subst x1 x2 x3 x4;refine⟨fun j v hv=>?_,fun j v hv=>?_⟩
 .have hj:j<17:=(List.getElem?_eq_some_iff.1 hv).1
  have :=h1 j hj;simp only[Nat.zero_mul,Nat.add_zero,List.getElem_cons_zero]at this;exact this.trans hv
 .have hj:j<17:=(List.getElem?_eq_some_iff.1 hv).1
  have :=h2 j hj;simp only[Nat.one_mul,Nat.zero_add,List.getElem_cons_succ,List.getElem_cons_zero]at this;exact this.trans hv
def RW.tri(r:RW):Value×Value×Ar:=(.slice r.v.ca r.v.cn r.v.cc,.slice r.v.la r.v.ln r.v.lc,r.s)
theorem BD.aaY{T:List Nat}{w0 w:World}{x:WS}{r r1:RW}{L L1:PL}{m:List ai}(h:BD T w0 w (x.ts++([r1.th L1]++m)))(hx:r.tri∈r1.tri::L1)(hL:∀z∈L,z∈r1.tri::L1):BD T w0 w (x.ts++([r.th L]++m)):=by
 have h2:=h.aac x.ts.length (by simp[RW.th]) hx hL;simpa[List.set_append,RW.th,RW.tri]using h2
theorem BD.aaS{T:List Nat}{w0 w:World}{x y:WS}{m:List ai}(h:BD T w0 w (x.ts++m++y.rest)):BD T w0 w ((y.fJ x.P).ts++m++x.rest):=by
 have h1:BD T w0 w (x.ts++(y.fJ x.P).rest++m):=h.aB;exact(BD.OQ h1 rfl).aB
theorem aap(w:World)(a:Option Addr)(cap:Nat)(l:List BO)(p q:BO)(ha:aG w a 17 l.length (l.flatMap BO.cells))(hin:∀x∈l,x.Mem w/\x.Big)(hpq:∀x∈[p,q],x.Mem w/\x.Big)(hS:bJ w):
  Calls prog 4 #[.slice a l.length cap,.agg (fw p q)] w fun e w'=>e= .returned (.bool true)/\Touch [] w w':=by
 have BG:=hdq ((BD.old0 w).weaken (Q:=Oa w) 0 rfl (fun W ho=>⟨ho,hS.qO ho⟩));simp only[sZq]at BG;generalize hTT:List.range w.heap.size=T at BG;clear hTT hS;have HA:=hdq ha;have HI:=hdq hin;have HPQ:=hdq hpq;have HF:Hid (∀W,Touch [] w W->Calls prog 6 #[.slice a l.length cap,(40:Int)] W (H6 l 40 W)):=fun W hW=>aa2 W a cap l 40 (ha.aW hW) (fun x hx=>⟨(hin x hx).1.aW hW,(hin x hx).2⟩);clear ha hin hpq;unfold fw;go_enter func4,ntmps4
 go_wp2_with fail
 refine ah ?_;intro w1 hw1;have BB:=hdq (BG.o.DN hw1);generalize hb3:w.heap.size=b3 at BB|-;have HTC:Hid (Touch [] w w1):=hw1▸(Touch.refl [] w).alloc _;have HL2:Hid (BD T w w1 [aA (PC w b3 p q)]):=BD.settle (l:=[aA (Oa w)]) BB.o 0 rfl (fun W f hP hb=>⟨hP,aaV hb.2⟩);have hb3':b3<w1.heap.size:=(BB.o.box 1 rfl).lt;clear hw1 hb3 BG BB;refine(HF.o _ HTC.o).mono ?_;rintro e w2 ⟨f1,rfl,hf1,ht⟩;have BF:=hdq (HL2.o.touch ht);have HF1:=hdq hf1;have hb3'':b3<w2.heap.size:=Nat.lt_of_lt_of_le hb3' ht.size;clear ht hf1 HL2 HF HTC hb3';cases f1 with
 |false=>
  go_wp2_with fail
  refine(pu _ (BF.o.still 0 rfl).1.2).mono ?_;rintro e w9 ⟨rfl,ht⟩;have HE:=hdq (BF.o.touch ht);clear ht;go_wp2;go_ret
  exact⟨rfl,HE.o.lg (HE.o.still 0 rfl).1.1⟩
 |true=>
  have HF40:=hdq (HF1.o.1 rfl);clear HF1;have HFT:Hid (Calls prog 6 #[.slice (some ⟨b3,0,none⟩) 2 2,(2:Int)] w2 (H6 [p,q] 2 w2)):=aa2 w2 (some ⟨b3,0,none⟩) 2 [p,q] 2 (BF.o.still 0 rfl).2 (fun x hx=>⟨(HPQ.o x hx).1.old (BF.o.still 0 rfl).1.1,(HPQ.o x hx).2⟩);go_wp2_with fail
  refine HFT.o.mono ?_;rintro e w3 ⟨f2,rfl,hf2,ht⟩;have BH:=hdq (BF.o.touch ht);have HF2:=hdq hf2;clear ht hf2 BF HFT;cases f2 with
  |false=>
   go_wp2_with fail
   refine(pu _ (BH.o.still 0 rfl).1.2).mono ?_;rintro e w9 ⟨rfl,ht⟩;have HE:=hdq (BH.o.touch ht);clear ht;go_wp2;go_ret
   exact⟨rfl,HE.o.lg (HE.o.still 0 rfl).1.1⟩
  |true=>
   have HFQ:=hdq (HF2.o.1 rfl);clear HF2;obtain⟨T',hF',hb'⟩:=BD.aN (m:=[aA (PC w b3 p q)]) (r:=[]) BH.o;have LW:=hdq (OU T' w3 (PC w b3 p q) 200 (by omega) (by omega) hF');have HB:=hdq hb';clear hF' hb';go_wp2_with fail
   refine LW.o.mono ?_;rintro e w4 ⟨wb,ga,rfl,hL⟩;have Ca:=hdq (HB.o _ _ hL);clear hL HB LW BH;rw[List.append_nil]at Ca;go_wp2_with fail
   refine(Oo 200 _ (by omega) (by omega)).mono ?_;rintro e w5 ⟨rfl,ht⟩;have Db:=hdq (ZX (Ca.o.touch ht) 200 (by omega));clear ht Ca;go_wp2_with fail
   refine ay ?_;intro w6 LM;have C8:=hdq (Db.o.av LM);simp only[nAq,cAq]at C8;generalize EF:w5.heap.size=b7 at C8|-;clear LM EF Db;have EX:Hid (BD T w w6 ((WS.empty wb ga 200 (PC w b3 p q)).ts++[RW.th ⟨⟨none,0,0,200,none,0,0,none,0,0,none,0,0,none,0,0⟩,Ar.fresh 200,[],[],[]⟩ [],rvB b7 ⟨none,0,0,200,none,0,0,none,0,0,none,0,0,none,0,0⟩])):=C8;clear C8;go_loopw [5,9] (fun p5 i wr=>∃(k:Nat) (x:WS) (ms:List MS) (r:RW) (L:PL),k<=l.length/\p5= .pointer (some ⟨x.wb,0,none⟩)/\i= .int .i64 (k:Int)/\Hid (aah (PC w b3 p q) k x ms r)/\Hid (BD T w wr (x.ts++[r.th L,rvB b7 r.v]))) (fun _ i _=>l.length-(intOf i).toNat)
   case atStart=>exact⟨0,_,[],_,[],Nat.zero_le _,rfl,rfl,copAt0 (fun W h=>h.1.2),EX⟩
   case round=>
    clear EX;obtain⟨k,x,ms,r,L,hk,rfl,rfl,HH,HK⟩:=hrel;have hk0:(0:Int)<=(k:Int):=by omega
    have hk40:l.length<=40:=by have :=HF40.o.1;omega
    by_cases hlt:k<l.length
    .have hlt':(k:Int)<(l.length:Int):=by omega
     have HO:=hdq (HH.o.knows _ (HK.o.still 2 rfl)).1.1;obtain⟨b,o,rfl,hb,hc⟩:=aG.at (f:=BO.cells) (fun _=>rfl) (HA.o.old HO.o) k hlt;have EI:Hid (∀W,PC w b3 p q W->l[k].Mem W):=fun W hW=>(HI.o _ (List.getElem_mem hlt)).1.old hW.1.1;have Oc:=hdq (HI.o _ (List.getElem_mem hlt)).2;have HSM:=hdq (HF40.o.2 _ (List.getElem_mem hlt));have HRW:Hid (∀W,PC w b3 p q W->∀j v,l[k].cells[j]? =some v->W.cell? ⟨b,o+k*17+j,none⟩=some v):=fun W hW j v hv=>by
      have hj:j<17:=(List.getElem?_eq_some_iff.1 hv).1;obtain⟨b',o',DF,_,hc'⟩:=aG.at (f:=BO.cells) (fun _=>rfl) (HA.o.old hW.1.1) k hlt;injection DF with DF
      injection DF with e1 e2
      subst e1 e2;rw[hc' j hj];exact hv
     obtain⟨y,hy⟩:∃y,l[k]=y:=⟨_,rfl⟩;rw[hy]at EI Oc HSM HRW;clear hy hc hb HO;have HS:Hid (∀W (x':WS) (m':List ai),(∀W,x'.P W->PC w b3 p q W)->BD T w W (x'.ts++m')->(fun w'=>∀j v,y.cells[j]? =some v->w'.cell? ⟨b,o+k*17+j,none⟩=some v) W):=hdq (fun W x' m' hP hL=>HRW.o W (hP W (hL.still 2 rfl)));clear HRW;go_wp2_with fail
     refine wp_region_held_drew (S:=fun w'=>∀j v,y.cells[j]? =some v->w'.cell? ⟨b,o+k*17+j,none⟩=some v) (by kernel_rfl) (HS.o _ x _ HH.o.knows HK.o.drew) (fun hHeld=>?_);refine nmq (hdq HK.o.drew) hHeld fun wa HD hHeld=>?_;clear HK;refine tkq 0 41 ?_;refine tkq 2 43 ?_;refine tkq 3 44 ?_;refine tkq 4 45 ?_;refine ldq 5 46 b (o+k*17) y.cells _ ?_ (fun w' h=>h) underlying51 rfl (by kernel_rfl) rfl rfl rfl rfl rfl hHeld;simp only[BO.cells,List.toArray];obtain⟨o0,o1,o2,o3,o4,o5,_,zo,_,_⟩:=HD.o.BJ 1 rfl;refine rdq 1 rfl fun K hK=>?_;go_simp;refine kpq hK.o (fun hHeld=>?_) hHeld;clear hK K;clear o0 o1 o2 o3 o4 o5 zo;refine rdq 6 rfl fun K hK=>?_;go_simp;refine(aar (m:=[rvB b7 r.v]) y x.wb rfl HH.o (by omega) EI.o Oc.o HSM.o HD.o).mono ?_;rintro en wc ⟨x',ms',r',L',rfl,hnx,_,_,hL⟩;have HB2:Hid (BD T w wc (x'.ts++[r'.th L',rvB b7 r.v])):=hL;have HNX:=hdq hnx;clear hL hnx HD;go_simp;refine kpq hK.o (fun hHeld=>?_) (HS.o _ x' _ HNX.o.knows HB2.o);clear hK K;refine tkq 7 40 ?_;refine tkq 8 48 ?_;refine tkq 9 49 ?_;refine tkq 10 50 ?_;refine opq 11 fun hHeld=>?_;refine DU 12 1 HB2 rfl (fun w2 h9=>HS.o w2 x' _ HNX.o.knows h9) fun ws HC hHeld=>?_;refine dnq ?_;have HY:=HC;clear HB2 HC hHeld HS EI Oc HSM HH;go_wp2_with fail
     go_roundw
     case rel=>
      (repeat apply Exists.intro)
      exact⟨⟨k+1,x',ms',r',L',by omega,rfl,by go_num,HNX,HY⟩,rfl⟩
     case measure=>simp[intOf];omega
    .have hlt':¬(k:Int)<(l.length:Int):=by omega
     go_wp2_with fail
     refine(aaQ HH.o HK.o).mono ?_;rintro e v1 ⟨y,msy,P1,rfl,hx,hy,hL⟩;have MG:=hdq hL;have HX1:=hdq hx;have HY1:=hdq hy;clear hL hx hy HK HH;go_wp2_with fail
     refine(aaU HX1.o (by rw[<-List.append_assoc];exact MG.o)).mono ?_;rintro e v2 ⟨sv,P2,rfl,hP2,hsq,hL⟩;have Hl:Hid (BD T w v2 ((x.fJ P2).ts++[r.th L,rvB b7 r.v]++y.rest)):=by rw[<-List.append_assoc]at hL;exact hL
     have HX2:Hid (aah (PC w b3 p q) k (x.fJ P2) ms r):=HX1.o.fJ P2 hP2;have HY2:Hid (aah (PC w b3 p q) k (y.fJ P2) msy r):=HY1.o.fJ P2 hP2;have HSQ:=hdq hsq;clear hL hP2 hsq MG HX1 HY1;have Fy:Hid (∀W,P2 W->∀z∈[p,q],z.Mem W):=fun W hW z hz=>(HPQ.o z hz).1.old (HX2.o.knows W hW).1.1;obtain⟨q0,q1,q2,p3,q4,q5,q6,zp,CK,CO⟩:=(BD.aF Hl.o).BJ 1 rfl;clear q0 q1 q2 q4 q5 q6 CK CO;obtain⟨a1,es,kk,hov,hnil,hln,hli⟩:=aaW HX2.o HSQ.o;have HOV:=hdq hov;have Fw:=hdq hnil;have HLN:=hdq hln;have JS:=hdq hli;clear hov hnil hli hln HSQ;by_cases hch:0<x.BI.length;case' pos=>
      obtain⟨cc,hel,hl0⟩:=JS.o hch;have hgt:(0:Int)<(r.v.hn:Int):=by have :=HLN.o;omega
      have hgt2:0<r.v.hn:=by have :=HLN.o;omega
      obtain⟨bH,oH,hsa,hbH,hcE⟩:=hel _ (Hl.o.still 2 rfl);have BG:=hdq hl0;have c0:v2.cell? ⟨bH,oH,none⟩=some (.int .i64 (cc.cell:Int)):=by simpa using hcE 0 _ rfl
      have c1:v2.cell? ⟨bH,oH+1,none⟩=some (.slice cc.a1 cc.es1.length cc.k1):=by simpa using hcE 1 _ rfl
      have c2:v2.cell? ⟨bH,oH+2,none⟩=some (.slice cc.a2 cc.es2.length cc.k2):=by simpa using hcE 2 _ rfl
      rw[hsa]at p3;clear hcE hsa JS hel hl0;go_wp2_with fail
      refine(BG.o _).mono ?_;rintro e v3 ⟨rfl,ht⟩;have He:=hdq (Hl.o.touch ht);clear ht p3 zp c0 c1 c2 hbH Hl BG hgt hgt2;go_upto_region 14 with fail
     case' neg=>
      have hx0:x.BI.length=0:=by omega
      obtain⟨rfl,rfl,rfl⟩:=Fw.o hx0;have hgt:¬((0:Int)<(r.v.hn:Int)):=by have :=HLN.o;omega
      have He:=Hl;go_upto_region 14 with fail
      clear p3 zp Hl hgt hx0
     all_goals
      have hk40:k<1000000:=by have :=HF40.o.1;omega
      have HT2:=hdq (aaN (HX2.o.knows _ (He.o.still 2 rfl)).2);obtain⟨o0,o1,o2,o3,o4,o5,of,zo,_,_⟩:=(BD.aF He.o).BJ 1 rfl;go_wp2_with (refine lK rfl 51 _ rfl b3 0 rfl p.cells _ HT2.o.1 underlying51 rfl (by kernel_rfl) ?_;simp only[BO.cells,List.toArray])
      refine(aar (x:=x.fJ P2) (P0:=PC w b3 p q) (m:=[rvB b7 r.v]++y.rest) (L:=r.tri::L) p x.wb rfl HX2.o hk40 (fun W hW=>(HPQ.o p (by simp)).1.old hW.1.1) (HPQ.o p (by simp)).2 (HFQ.o.2 p (by simp)) (by have h9:=He.o;rw[List.append_assoc]at h9;exact BD.aaY (r:=r) (r1:=r) h9 (List.mem_cons_self ..) (fun z hz=>hz))).mono ?_;rintro e v4 ⟨x1,ms1,r1,L1,rfl,hx1,hk1,hl1,hL⟩;have HM4:=hdq hL;have HX3:=hdq hx1;have O3:=hdq hk1;have HR1:=hdq (hl1 _ (List.mem_cons_self ..));have HY3:Hid (aah (PC w b3 p q) k (y.fJ x1.P) msy r):=HY2.o.fJ x1.P hk1;clear hL hx1 hk1 hl1 He HX2 HY2 HT2 o0 o1 o2 o3 o4 o5 of zo;go_upto_region 15 with fail
      refine ay ?_;intro v5 hv5;have Q7:=hdq (HM4.o.av hv5);generalize aaP:v4.heap.size=b13 at Q7|-;clear hv5 aaP HM4;have HM6:Hid (BD T w v5 (x1.ts++[r1.th L1,rvB b7 r.v,rvB b13 r1.v]++y.rest)):=by
       have h2:=BD.aB (a:=x1.ts++[r1.th L1,rvB b7 r.v]) (b:=y.rest) (c:=[rvB b13 r1.v]) (by simpa only[List.append_assoc,List.cons_append,List.nil_append]using Q7.o);unfold Hid;simpa only[List.append_assoc,List.cons_append,List.nil_append]using h2
      have HM7:Hid (BD T w v5 ((y.fJ x1.P).ts++([r.th [r1.tri]]++([rvB b7 r.v,rvB b13 r1.v]++x1.rest)))):=by
       have h9:=BD.aaS HM6.o;rw[List.append_assoc]at h9;exact BD.aaY (r:=r) (r1:=r1) h9 (List.mem_cons_of_mem _ HR1.o) (fun z hz=>by rw[List.mem_singleton.1 hz];exact List.mem_cons_self ..)
      clear Q7 HM6 HR1;have HT2:=hdq (aaN (HY3.o.knows _ (HM7.o.still 2 rfl)).2);obtain⟨o0,o1,o2,o3,o4,o5,of,zo,_,_⟩:=(BD.aF (m:=x1.rest) (l:=(y.fJ x1.P).ts++[r.th [r1.tri],rvB b7 r.v,rvB b13 r1.v]) (by simpa only[List.append_assoc,List.cons_append,List.nil_append]using HM7.o)).BJ 1 rfl;go_wp2_with (refine lK rfl 51 _ rfl b3 17 rfl q.cells _ HT2.o.2 underlying51 rfl (by kernel_rfl) ?_;simp only[BO.cells,List.toArray])
      refine(aar (x:=y.fJ x1.P) (P0:=PC w b3 p q) (m:=[rvB b7 r.v,rvB b13 r1.v]++x1.rest) (L:=[r1.tri]) q y.wb rfl HY3.o hk40 (fun W hW=>(HPQ.o q (by simp)).1.old hW.1.1) (HPQ.o q (by simp)).2 (HFQ.o.2 q (by simp)) HM7.o).mono ?_;rintro e v6 ⟨y2,ms2,r2,L2,rfl,hy2,hk2,hl2,hL⟩;have HM8:=hdq hL;have HY4:=hdq hy2;have HK2:=hdq hk2;have HR2:=hdq (hl2 _ (List.mem_cons_self ..));have HX4:Hid (aah (PC w b3 p q) (k+1) (x1.fJ y2.P) ms1 r1):=HX3.o.fJ y2.P hk2;clear hL hy2 hk2 hl2 HM7 HX3 HY3 HT2 o0 o1 o2 o3 o4 o5 of zo;go_upto_region 16 with fail
      refine ay ?_;intro v7 hv7;have HM9:=hdq (HM8.o.av hv7);generalize hb15:v6.heap.size=b15 at HM9|-;clear hv7 hb15 HM8;have HMA:Hid (BD T w v7 ((x1.fJ y2.P).ts++[r1.th [r2.tri],rvB b7 r.v,rvB b13 r1.v,rvB b15 r2.v]++y2.rest)):=by
       have h2:=BD.aB (a:=y2.ts++[r2.th L2,rvB b7 r.v,rvB b13 r1.v]) (b:=x1.rest) (c:=[rvB b15 r2.v]) (by simpa only[List.append_assoc,List.cons_append,List.nil_append]using HM9.o);have h3:=BD.aaS (x:=y2) (y:=x1) (m:=[r2.th L2,rvB b7 r.v,rvB b13 r1.v,rvB b15 r2.v]) (by simpa only[List.append_assoc,List.cons_append,List.nil_append]using h2);rw[List.append_assoc]at h3;have h4:=BD.aaY (r:=r1) (r1:=r2) (L:=[r2.tri]) h3 (List.mem_cons_of_mem _ HR2.o) (fun z hz=>by rw[List.mem_singleton.1 hz];exact List.mem_cons_self ..);unfold Hid;rw[List.append_assoc];exact h4
      clear HM9 HR2;obtain⟨o0,o1,o2,o3,o4,o5,of,zo,_,_⟩:=(BD.aF HMA.o).BJ 2 rfl;go_wp2_with fail
      refine(bQ _ _).mono ?_;rintro e vn ⟨rfl,rfl⟩;go_wp2_with fail
      refine(BD.does (m:=(x1.fJ y2.P).ts++[r1.th [r2.tri]]) (r:=[rvB b7 r.v,rvB b13 r1.v,rvB b15 r2.v]++y2.rest) (by simpa only[List.append_assoc,List.cons_append,List.nil_append]using HMA.o) (is_b (x1.fJ y2.P) ms1 r1 [r2.tri] 9999 (by omega) HX4.o.both HX4.o.fair (by have :=HX4.o.log;omega))).mono ?_;rintro e v8 ⟨m9,⟨rfl,P3,hP3,rfl⟩,hL⟩;have HP3:=hdq hP3;have hL':BD T w v8 ((x1.fJ P3).ts++[r1.th [r2.tri]]++([rvB b7 r.v,rvB b13 r1.v,rvB b15 r2.v]++y2.rest)):=hL;have HMB:Hid (BD T w v8 ((y2.fJ P3).ts++[r2.th [r1.tri],rvB b7 r.v,rvB b13 r1.v,rvB b15 r2.v]++x1.rest)):=by
       have h3:=BD.aaS (x:=x1.fJ P3) (y:=y2) (m:=[r1.th [r2.tri],rvB b7 r.v,rvB b13 r1.v,rvB b15 r2.v]) (by simpa only[List.append_assoc,List.cons_append,List.nil_append]using hL');rw[List.append_assoc]at h3;have h4:=BD.aaY (r:=r2) (r1:=r1) (L:=[r1.tri]) h3 (by simp) (fun z hz=>by rw[List.mem_singleton.1 hz];exact List.mem_cons_self ..);unfold Hid;rw[List.append_assoc];exact h4
      have HY5:Hid (aah (PC w b3 p q) (k+1) (y2.fJ P3) ms2 r2):=HY4.o.fJ P3 hP3;clear hL hL' hP3 HMA HX4 HY4 o0 o1 o2 o3 o4 o5 of zo;obtain⟨o0,o1,o2,o3,o4,o5,of,zo,_,_⟩:=(BD.aF HMB.o).BJ 3 rfl;go_wp2_with fail
      refine(BD.does (m:=(y2.fJ P3).ts++[r2.th [r1.tri]]) (r:=[rvB b7 r.v,rvB b13 r1.v,rvB b15 r2.v]++x1.rest) (by simpa only[List.append_assoc,List.cons_append,List.nil_append]using HMB.o) (is_b (y2.fJ P3) ms2 r2 [r1.tri] 9999 (by omega) HY5.o.both HY5.o.fair (by have :=HY5.o.log;omega))).mono ?_;rintro e v9 ⟨m9,⟨rfl,P4,hP4,rfl⟩,hL⟩;have HMC:=hdq hL;have EC:Hid (∀W,P4 W->P2 W):=fun W hW=>O3.o W (HK2.o W (HP3.o W (hP4 W hW)));have HPX:Hid (∀W,P4 W->PC w b3 p q W):=fun W hW=>HY5.o.knows W (hP4 W hW);clear hL hP4 HMB HY5 HP3 O3 HK2 o0 o1 o2 o3 o4 o5 of zo;go_wp2_with fail
      refine(HOV.o _ (EC.o _ (HMC.o.still 2 rfl)) 9999 (by omega)).mono ?_;rintro e va ⟨rfl,ht⟩;have HMD:=hdq (HMC.o.touch ht);clear ht HMC;go_wp2_with fail
      refine(HOV.o _ (EC.o _ (HMD.o.still 2 rfl)) 1 (by omega)).mono ?_;rintro e vb ⟨rfl,ht⟩;have HME:=hdq (HMD.o.touch ht);clear ht HMD;go_wp2_with fail
      refine(pu _ (HPX.o _ (HME.o.still 2 rfl)).1.2).mono ?_;rintro e vc ⟨rfl,ht⟩;have HMF:=hdq (HME.o.touch ht);clear ht HME;go_wp2;go_ret
      exact⟨rfl,HMF.o.lg (HPX.o _ (HMF.o.still 2 rfl)).1.1⟩
section
open Go.ChangeShapes Go.WideShapes Go.Deep Go.RowKit
section
variable {H:Type} {enc:TypeId×Value->H} {w:World} {base:Nat} {spare:Nat->Bool} {held:Bool}
theorem aay:prog.cellsOf 66=34:=by kernel_rfl
theorem aaz{r:Reach}{b0:Nat}{v:Value}{d:DataW H}{p:List MemPlace}(hv:Value.okWide prog w r b0 66 v)(h:DataW.Trod enc prog w base spare held 66 v d p)(hbk:Rows.uptoBulk d<=1048576):∃x y:BO,v= .agg (fw x y)/\∀z∈[x,y],z.Mem w/\z.Big:=by
 simp only[Value.okWide,underlying66]at hv;obtain⟨cs,rfl,hsz,_⟩:=hv;obtain⟨fuel,hf⟩:=h;obtain⟨xs,n,_,hx,hl,hlen,hfe⟩:=DataW.trod_array underlying66 hf;injection hx with hx _
 subst hx;rw[aay]at hl;obtain⟨x0,x1,rfl⟩:=Lu hlen;have f0:=hfe 0 (by omega);have f1:=hfe 1 (by omega);rw[oF]at f0 f1;simp only[Nat.zero_mul,Nat.one_mul,List.drop_zero,List.getElem?_cons_zero,List.getElem?_cons_succ]at f0 f1;obtain⟨d0,p0⟩:=x0;obtain⟨d1,p1⟩:=x1;simp only[List.map_cons,List.map_nil,Rows.uptoBulk,Rows.uptoBulkAll]at hbk;obtain⟨x,hx,hxo⟩:=nQ _ _ _ _ (by omega) f0;obtain⟨y,hy,hyo⟩:=nQ _ _ _ _ (by omega) f1;have e:(Value.agg cs).cells.toList=x.cells++y.cells:=by
  rw[<-hx,<-hy,List.take_of_length_le (l:=List.drop 17 _) (by rw[List.length_drop,hl];omega),List.take_append_drop]
 refine⟨x,y,?_,fun z hz=>?_⟩
 .have h2:cs.toList=(fw x y).toList:=by
   have h3:cs.toList=x.cells++y.cells:=e;rw[h3];simp[fw,BO.cells]
  rw[Array.ext' h2]
 .simp only[List.mem_cons,List.not_mem_nil,or_false]at hz
  rcases hz with rfl|rfl
  .exact hxo.big (by omega)
  .exact hyo.big (by omega)
end
end
end Go.Proofs.YtddnnapoaonmjaaGreatDoor
