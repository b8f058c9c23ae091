/-
  Texts of FirePlays, laid together by program.
-/
import Derived.Test.YtegejdlglonflaaGreatDoorWZ10
import Derived.Test.YtegejdlglonflaaGreatDoorWZ27
namespace Go.Proofs.YtegejdlglonflaaGreatDoor
open Go.RowKit Go.Shelf Go.Proofs.Tryz
set_option maxRecDepth 100000
set_option maxHeartbeats 8000000
set_option linter.unusedVariables false
set_option linter.unusedSimpArgs false
section
variable {T:List Nat} {w0 w w':World} {x:WS} {r0:List ai}
def Ce.pl(y:Ce):Int×List PE×List PE:=(y.cell,y.es1.map ME.plain,y.es2.map ME.plain)
def Ch.pl(y:Ch):Int×Int×List PE:=(y.a,y.f,y.es.map ME.plain)
def Ce.made(y:Ce):List ai:=y.ts++[aA fun W=>bD W y.es1/\bD W y.es2]
def Ch.made(y:Ch):List ai:=y.ts++[aA fun W=>bD W y.es]
theorem BD.perm{l l':List ai}(hp:l.Perm l'):∀pre,BD T w0 w (pre++l)->BD T w0 w (pre++l'):=by
 induction hp with
 |nil=>exact fun pre h=>h
 |cons t _ ih=>
  intro pre h;have :=ih (pre++[t]) (by simpa using h);simpa using this
 |swap t u l=>
  intro pre h;have h1:BD T w0 w (pre++[u]++(t::l)):=by simpa using h
  have h2:=h1.aB;have h3:BD T w0 w ((pre++[t])++l++[u]):=by simpa using h2
  have h4:=h3.aB;simpa using h4
 |trans _ _ ih1 ih2=>exact fun pre h=>ih2 pre (ih1 pre h)
end
structure WS.Good(x:WS)(ms:List MS):Prop where
 sides:∀W,x.P W->bJ W
 vals:∀W,x.P W->x.fD W
 sys:x.sys=ms.map MS.raw
 cont:∀W,x.P W->∀m∈ms,m.In W
 q1:∀n (hn:n<x.BI.length),x.BI[n].es1.length<=4096/\x.BI[n].es2.length<=4096
 q2:∀n (hn:n<x.cos.length),x.cos[n].es.length<=4096
 l1:x.BI.length<=100000
 l2:x.cos.length<=100000
 l3:x.sys.length<=100000
theorem WS.Good.knows{x:WS}{ms:List MS}(h:x.Good ms)(Q:World->Prop):(x.knows Q).Good ms:=
 ⟨fun W hW=>h.sides W hW.1,fun W hW=>h.vals W hW.1,h.sys,fun W hW=>h.cont W hW.1,h.q1,h.q2,h.l1,h.l2,h.l3⟩
def WS.rest(y:WS):List ai:=[y.h0,arena y.ga y.s,aS 193 1 (.slice y.a1 y.BI.length y.c1) y.BI.length (bP y.BI),aS 158 1 (.slice y.a2 y.cos.length y.c2) y.cos.length (bK y.cos),aS 60 11 (.slice y.a3 y.sys.length y.c3) y.sys.length (aU y.sys)]++(y.BI.flatMap Ce.ts++y.cos.flatMap Ch.ts)
def WS.uY(x:WS)(y:bL)(a:Option Addr)(c:Nat):WS:={x with sys:=x.sys++[y],a3:=a,c3:=c}
def WS.kH(x:WS)(vb v:Value)(n:Nat)(xs:List Value):List ai:=
 [box x.wb 167 #[x.ga,.slice x.a1 x.BI.length x.c1,.slice x.a2 x.cos.length x.c2,vb],arena x.ga x.s,aA x.P,aS 193 1 (.slice x.a1 x.BI.length x.c1) x.BI.length (bP x.BI),aS 158 1 (.slice x.a2 x.cos.length x.c2) x.cos.length (bK x.cos),aS 60 11 v n xs]
def iJ(W:World)(ba:Option Addr)(bases:List MB)(ca:Option Addr)(conds:List Int):Prop:=(aG W ba 7 bases.length (bases.flatMap MB.cells)/\∀b∈bases,b.Mem W)/\aG W ca 1 conds.length (conds.flatMap fq)
def ou(x:WS)(th:Int)(bases:List MB)(conds:List Int):Prop:=0<=th/\Ac x.cos.length conds/\bases.length<=32/\∀b∈bases,eD x.BI.length x.cos.length conds b
def abr(x:WS)(th:Int)(bases:List MB)(conds:List Int)(v er:Int)(x':WS):Prop:=
 (¬ou x th bases conds/\er=2/\v=0/\x'=x)\/(ou x th bases conds/\¬x.s.C.length+1<=x.s.most/\er=6/\v=0/\x'=x)\/
 (ou x th bases conds/\x.s.C.length+1<=x.s.most/\er=0/\v=(x.sys.length:Int)/\∃(s':MS) (a:Option Addr) (c:Nat),s'.plain=(th,bases.map MB.plain,conds,(x.s.C.length:Int),false,false,0,MT.zero.plain,0)/\x'=(WS.knows {x with s:=(x.s.au 1).1} (fun W=>s'.In W)).uY s'.raw a c)
theorem yj:MT.zero.nodes=1:=by simp[MT.zero,MT.nodes,MT.aV]
theorem lJ{v:MT}(h:v.plain.Ok):v.nodes<=256:=by rw[<-MT.cu];exact h.1
theorem nZ{v:MT}(h:v.E8):v.nodes<=256:=by
 have :=List.eq_nil_of_length_eq_zero h.2.2;rw[MT.ni,this];simp[MT.aV]
theorem XA{W:World}{x:WS}{th:Int}{ba:Option Addr}{bases:List MB}{bc:Nat}{ca:Option Addr}{conds:List Int}{cc:Nat}(h:iJ W ba bases ca conds)(hok:ou x th bases conds)(fl:Int):MS.In W ⟨th,ba,bc,bases,ca,cc,conds,fl,false,false,0,MT.zero,0⟩:=by
 refine⟨⟨MT.dQ W,by show MT.zero.nodes<=256;rw[yj];omega⟩,⟨h.1.1,fun b hb=>?_⟩,h.2⟩;have hm:=h.1.2 b hb;have hbk:=hok.2.2.2 b hb;refine⟨⟨hm.1,?_⟩,⟨hm.2.1.1,fun c hc=>⟨(hm.2.1.2 c hc).1,fun t ht=>⟨(hm.2.1.2 c hc).2 t ht,lJ (hbk.2.2.2.1 c hc t ht)⟩⟩⟩,hm.2.2⟩;rcases hbk.1 with ⟨_,_,g⟩|⟨_,_,g⟩|⟨_,_,g⟩|⟨_,_,g⟩|⟨_,_,g⟩
 .exact lJ g
 .exact nZ g
 .exact lJ g
 .exact nZ g
 .exact nZ g
theorem adt{T:List Nat}{w0 w:World}{x:WS}{y:bL}{a:Option Addr}{c:Nat}{s':Ar}{Q:World->Prop}{r:List ai}(h:BD T w0 w ((WS.kH {x with s:=s',P:=Q} (.slice a (x.sys.length+1) c) (.slice a (x.sys.length+1) c) (x.sys.length+1) (aU x.sys++y.cells))++(x.BI.flatMap Ce.ts++x.cos.flatMap Ch.ts)++r)):BD T w0 w ((WS.uY {x with s:=s',P:=Q} y a c).ts++r):=by
 simpa[WS.uY,WS.ts,WS.head,WS.kH,aU,List.flatMap_append]using h
theorem ad3{W:World}{ba:Option Addr}{bases:List MB}{ca:Option Addr}{conds:List Int}(h:iJ W ba bases ca conds)(i:Nat)(hi:i<bases.length):∃b o,ba=some ⟨b,o,none⟩:=by
 obtain⟨b,o,hb,_⟩:=aG.at (f:=MB.cells) (fun _=>rfl) h.1.1 i hi;exact⟨b,o,hb⟩
theorem adX{P:World->Prop}{bb o:Nat}{bases:List MB}{ca:Option Addr}{conds:List Int}(h:∀W,P W->iJ W (some ⟨bb,o,none⟩) bases ca conds)(i:Nat)(hi:i<bases.length)(m:MB)(hm:bases[i]=m):abd [aA P] bb (o+i*7) 7 m.cells:=aas fun W hW j u hu=>by
 obtain⟨b',o',hb,_,hc⟩:=aG.at (f:=MB.cells) (fun _=>rfl) (h W hW).1.1 i hi;injection hb with hb
 injection hb with e1 e2
 subst e1 e2;rw[hm]at hc;rw[hc j (by have :=(List.getElem?_eq_some_iff.1 hu).1;simpa[MB.cells]using this)];exact hu
set_option maxHeartbeats 16000000 in
theorem adM(x:WS)(th:Int)(ba:Option Addr)(bases:List MB)(bc:Nat)(ca:Option Addr)(conds:List Int)(cc:Nat)(b0 b1 b2 b3:Nat)(ha:∀W,x.P W->iJ W ba bases ca conds)(hl3:x.sys.length<=100000):aai prog 109 #[b0,b1,b2,b3] [x.ts,[box b0 48 #[x.wb]],[box b1 3 #[th]],[box b3 53 #[.slice ba bases.length bc]],[box b2 54 #[.slice ca conds.length cc]]] fun e Y=>∃v er x',abr x th bases conds v er x'/\Ends e (.int .i64 v) er (.int .i64 0)/\Y=[x'.ts,[box b0 48 #[x.wb]],[box b1 3 #[th]],[box b3 53 #[.slice ba bases.length bc]],[box b2 54 #[.slice ca conds.length cc]]]:=by
 have hC:=aci x (.slice x.a1 x.BI.length x.c1) (.slice x.a2 x.cos.length x.c2) (.slice x.a3 x.sys.length x.c3);have hInc:RdG prog 110 #[x.wb,.slice ca conds.length cc] [[box x.wb 167 #[x.ga,.slice x.a1 x.BI.length x.c1,.slice x.a2 x.cos.length x.c2,.slice x.a3 x.sys.length x.c3]],[aA x.P]] fun e=>∃y:Bool,(y=true↔Ac x.cos.length conds)/\e= .returned ((fun y=> .bool y) y):=fun T w0 w hl=>(uG w x.wb x.a2 x.cos.length x.c2 ((hl.box 0 rfl).cell 2) ca cc conds (ha w (hl.still 1 rfl)).2).mono fun e w' ⟨y,he,hy,hw⟩=>⟨⟨y,hy,he⟩,hw▸Touch.refl _ _⟩;refine aai.go func109 ntmps109 ?_;refine W.turn (M':=[[box x.wb 167 #[x.ga,.slice x.a1 x.BI.length x.c1,.slice x.a2 x.cos.length x.c2,.slice x.a3 x.sys.length x.c3]],[arena x.ga x.s],[aA x.P],[aS 193 1 (.slice x.a1 x.BI.length x.c1) x.BI.length (bP x.BI),aS 158 1 (.slice x.a2 x.cos.length x.c2) x.cos.length (bK x.cos)],[aS 60 11 (.slice x.a3 x.sys.length x.c3) x.sys.length (aU x.sys)],x.BI.flatMap Ce.ts++x.cos.flatMap Ch.ts,[box b0 48 #[x.wb]],[box b1 3 #[th]],[box b3 53 #[.slice ba bases.length bc]],[box b2 54 #[.slice ca conds.length cc]]]) ?_ (fun T w0 w hl=>by simpa[WS.ts,WS.head]using hl);refine go ?_;refine crr hC fun _ _=>?_;refine go ?_;refine cr (abF fun w=>require_ok w 1) fun _ _=>?_;by_cases hth:0<=th
 case neg=>
  have n1:decide (0<=th)=false:=decide_eq_false hth;refine go ?_;refine pfy (rs:=[]) (ade fun w=>aY w 2) [x.ts,[box b0 48 #[x.wb]],[box b1 3 #[th]],[box b3 53 #[.slice ba bases.length bc]],[box b2 54 #[.slice ca conds.length cc]]] (fun T w0 w hl=>by simpa[WS.ts,WS.head,puts]using hl) ?_;exact⟨0,2,x,.inl ⟨fun h=>hth h.1,rfl,rfl,rfl⟩,.inr ⟨rfl,rfl⟩,rfl⟩
 have n1:decide (0<=th)=true:=decide_eq_true hth;refine go ?_;refine crr hInc fun y hy=>?_;refine go ?_;cases y with
 |false=>
  refine pfy (rs:=[]) (ade fun w=>aY w 2) [x.ts,[box b0 48 #[x.wb]],[box b1 3 #[th]],[box b3 53 #[.slice ba bases.length bc]],[box b2 54 #[.slice ca conds.length cc]]] (fun T w0 w hl=>by simpa[WS.ts,WS.head,puts]using hl) ?_;exact⟨0,2,x,.inl ⟨fun h=>by have :=hy.2 h.2.1;simp at this,rfl,rfl,rfl⟩,.inr ⟨rfl,rfl⟩,rfl⟩
 |true=>
 have hinc:Ac x.cos.length conds:=hy.1 rfl;clear hy hInc hC n1;refine cr (abF fun w=>require_ok w 2) fun _ _=>?_;by_cases hlb:bases.length<=32
 case neg=>
  have n1:decide ((bases.length:Int)<=32)=false:=decide_eq_false (by omega);have n2:decide (bases.length<=32)=false:=decide_eq_false hlb;refine go ?_;refine pfy (rs:=[]) (ade fun w=>aY w 2) [x.ts,[box b0 48 #[x.wb]],[box b1 3 #[th]],[box b3 53 #[.slice ba bases.length bc]],[box b2 54 #[.slice ca conds.length cc]]] (fun T w0 w hl=>by simpa[WS.ts,WS.head,puts]using hl) ?_;exact⟨0,2,x,.inl ⟨fun h=>hlb h.2.2.1,rfl,rfl,rfl⟩,.inr ⟨rfl,rfl⟩,rfl⟩
 have n1:decide ((bases.length:Int)<=32)=true:=decide_eq_true (by omega);have n2:decide (bases.length<=32)=true:=decide_eq_true hlb;refine go ?_;refine cr (abF fun w=>require_ok w 2) fun _ _=>?_;clear n1 n2;refine go ?_;refine W.aeo [6,26,27,28,29,30,31,32,33,34,35] (fun n v M=>∃i:Nat,v 26= .int .i64 (i:Int)/\i<=bases.length/\n=bases.length-i/\(∀q (hq:q<bases.length),q<i->eD x.BI.length x.cos.length conds bases[q])/\∃r:LG,M=[[box x.wb 167 #[x.ga,.slice x.a1 x.BI.length x.c1,.slice x.a2 x.cos.length x.c2,.slice x.a3 x.sys.length x.c3]],[arena x.ga x.s],[aA x.P],[aS 193 1 (.slice x.a1 x.BI.length x.c1) x.BI.length (bP x.BI),aS 158 1 (.slice x.a2 x.cos.length x.c2) x.cos.length (bK x.cos)],[aS 60 11 (.slice x.a3 x.sys.length x.c3) x.sys.length (aU x.sys)],x.BI.flatMap Ce.ts++x.cos.flatMap Ch.ts,[box b0 48 #[x.wb]],[box b1 3 #[th]],[box b3 53 #[.slice ba bases.length bc]],[box b2 54 #[.slice ca conds.length cc]]]++r) bases.length ⟨0,by kernel_rfl,Nat.zero_le _,rfl,fun q hq h0=>absurd h0 (Nat.not_lt_zero _),[],(List.append_nil _).symm⟩ ?_ (by kernel_rfl);rintro n v M a1 ⟨i,hv,hi,rfl,hA,r,rfl⟩ ha1;refine W.turn (M':=[[box x.wb 167 #[x.ga,.slice x.a1 x.BI.length x.c1,.slice x.a2 x.cos.length x.c2,.slice x.a3 x.sys.length x.c3]],[arena x.ga x.s],[aA x.P],[aS 193 1 (.slice x.a1 x.BI.length x.c1) x.BI.length (bP x.BI),aS 158 1 (.slice x.a2 x.cos.length x.c2) x.cos.length (bK x.cos)],[aS 60 11 (.slice x.a3 x.sys.length x.c3) x.sys.length (aU x.sys)],x.BI.flatMap Ce.ts++x.cos.flatMap Ch.ts,[box b0 48 #[x.wb]],[box b1 3 #[th]],[box b3 53 #[.slice ba bases.length bc]],[box b2 54 #[.slice ca conds.length cc]]]) ?_ (fun T w0 w hl=>adN hl);simp only[adS,List.foldl,sAq,sZq,sSq,hv]at ha1;subst ha1;clear hv;have hi0:(0:Int)<=(i:Int):=by omega
 by_cases hil:i<bases.length
 .have EM:(i:Int)<(bases.length:Int):=by omega
  have n1:decide ((i:Int)<(bases.length:Int))=true:=decide_eq_true EM;have n2:decide (i<bases.length)=true:=decide_eq_true hil;have hwr:IntKind.i64.wrap ((i:Int)+1)=(i:Int)+1:=IntWalk.i64_in _ (by omega);refine W.know (p:=∃bb o,ba=some ⟨bb,o,none⟩) (fun T w0 w hl=>ad3 (ha w (hl.still 2 rfl)) i hil) ?_;rintro⟨bb,o,hba⟩;subst hba;obtain⟨m,hm⟩:∃m,bases[i]=m:=⟨_,rfl⟩;have hl7:=adX ha i hil m hm;have hVal:RdG prog 111 #[x.wb,m.val,.slice ca conds.length cc] [[box x.wb 167 #[x.ga,.slice x.a1 x.BI.length x.c1,.slice x.a2 x.cos.length x.c2,.slice x.a3 x.sys.length x.c3]],[aA x.P]] fun e=>∃y:Bool,(y=true↔eD x.BI.length x.cos.length conds m)/\e= .returned ((fun y=> .bool y) y):=fun T w0 w hl=>(Nh m w x.wb x.a1 x.BI.length x.c1 x.a2 x.cos.length x.c2 ((hl.box 0 rfl).cell 1) ((hl.box 0 rfl).cell 2) ((ha w (hl.still 1 rfl)).1.2 m (hm▸List.getElem_mem hil)) ca cc conds (ha w (hl.still 1 rfl)).2 hinc.2).mono fun e w' ⟨y,he,hy,hw⟩=>⟨⟨y,hy,he⟩,hw⟩;simp only[MB.val,MB.cells]at hVal hl7;refine go1 fun _=>?_;refine crr hVal fun y hy=>?_;refine go ?_;cases y with
  |false=>
   refine pfy (rs:=[]) (ade fun w=>aY w 2) [x.ts,[box b0 48 #[x.wb]],[box b1 3 #[th]],[box b3 53 #[.slice (some ⟨bb,o,none⟩) bases.length bc]],[box b2 54 #[.slice ca conds.length cc]]] (fun T w0 w hl=>by simpa[WS.ts,WS.head,puts]using acE 10 hl) ?_;exact⟨0,2,x,.inl ⟨fun h=>by have :=hy.2 (hm▸h.2.2.2 _ (List.getElem_mem hil));simp at this,rfl,rfl,rfl⟩,.inr ⟨rfl,rfl⟩,rfl⟩
  |true=>
  refine cr (abF fun w=>require_ok w 2) fun _ _=>?_;refine go ?_;refine⟨bases.length-(i+1),by omega,by kernel_rfl,i+1,by simp,by omega,rfl,fun q hq hqi=>?_,[_],rfl⟩;by_cases hqe:q=i
  .subst hqe
   exact hm▸hy.1 rfl
  .exact hA q hq (by omega)
 have n1:decide ((i:Int)<(bases.length:Int))=false:=decide_eq_false (by omega);have n2:decide (i<bases.length)=false:=decide_eq_false hil;have hok:ou x th bases conds:=⟨hth,hinc,hlb,fun b hb=>by
  obtain⟨q,hq,rfl⟩:=List.getElem_of_mem hb;exact hA q hq (by omega)⟩
 clear hA hth hinc hlb;refine go ?_;by_cases hroom:x.s.C.length+1<=x.s.most
 case neg=>
  have hN:aai prog 113 #[x.ga] [[arena x.ga x.s]] (xq (fun _:Unit=>True) (fun _=> .tuple #[(),(6:Int)]) fun _=>[[arena x.ga x.s]]):=fun T w hl=>(BD.OH (l:=[arena x.ga x.s]) hl 0 rfl (v:=0) (er:=6) (s':=x.s) (by unfold Ar.au;rw[if_neg (by omega),if_pos (by omega)])).mono fun e w' ⟨he,hl'⟩=>⟨[[arena x.ga x.s]],rfl,⟨(),trivial,he,rfl⟩,hl'⟩;refine cr hN fun _ _=>?_;refine go ?_;refine pfy (rs:=[]) (ade fun w=>vK w 0 6 (by decide)) [x.ts,[box b0 48 #[x.wb]],[box b1 3 #[th]],[box b3 53 #[.slice ba bases.length bc]],[box b2 54 #[.slice ca conds.length cc]]] (fun T w0 w hl=>by simpa[WS.ts,WS.head,puts]using hl) ?_;exact⟨0,6,x,.inr (.inl ⟨hok,hroom,rfl,rfl,rfl⟩),.inr ⟨rfl,rfl⟩,rfl⟩
 have hN:aai prog 113 #[x.ga] [[arena x.ga x.s]] (xq (fun _:Unit=>True) (fun _=> .tuple #[(x.s.C.length:Int),()]) fun _=>[[arena x.ga (x.s.au 1).1]]):=fun T w hl=>(BD.OH (l:=[arena x.ga x.s]) hl 0 rfl (v:=x.s.C.length) (er:=0) (s':=(x.s.au 1).1) (by unfold Ar.au;rw[if_neg (by omega),if_neg (by omega)])).mono fun e w' ⟨he,hl'⟩=>⟨[[arena x.ga (x.s.au 1).1]],rfl,⟨(),trivial,he,rfl⟩,hl'⟩;have hI:adJ prog 45 60 11 128:=adz mE;have hn1:x.sys.length+1<=4000000:=by omega
 have hwr:IntKind.i64.wrap (x.sys.length:Int)=(x.sys.length:Int):=IntWalk.i64_in _ (by omega);have hbs:∀W,(Instr.build 60 #[(0,.int .i64 th),(1,.slice ba bases.length bc),(2,.slice ca conds.length cc),(3,.int .i64 (x.s.C.length:Int))]).run prog W= .ok (.agg #[th,.slice ba bases.length bc,.slice ca conds.length cc,(x.s.C.length:Int),false,false,(),(),(),True,()]) W:=fun W=>run_build W 60 _ _ (by kernel_rfl);have hCp:aai prog 63 #[.agg #[th,.slice ba bases.length bc,.slice ca conds.length cc,(x.s.C.length:Int),false,false,(),(),(),True,()]] [[aA x.P]] (xq (fun s':MS=>s'.plain=(th,bases.map MB.plain,conds,(x.s.C.length:Int),false,false,0,MT.zero.plain,0)) (fun s'=>s'.val) fun s'=>[[aA fun W=>x.P W/\s'.In W]]):=fun T w hl=>(xw ⟨th,ba,bc,bases,ca,cc,conds,(x.s.C.length:Int),false,false,0,MT.zero,0⟩ w (XA (ha w (hl.still 0 rfl)) hok (x.s.C.length:Int))).mono fun e w' ⟨s',he,hp,hl'⟩=>⟨[[aA fun W=>x.P W/\s'.In W]],rfl,⟨s',hp,he,rfl⟩,(BD.join (l:=[aA x.P]) hl hl').settle 0 rfl fun W f hp hv=>⟨hp,hv.2 W (fun _ _=>rfl)⟩⟩;refine cr hN fun _ _=>?_;refine go ?_;refine cr (abF fun w=>yg w _) fun _ _=>?_;refine go ?_;refine W.rgd ?_;repeat (refine' rgk ?_;rotate_left)
 refine rgz 0 ?_ ?_;refine go ?_;refine cr hCp fun s' hs=>?_;simp only[MS.val];refine go ?_;refine mbq (hal:=by intro w;go_simp;exact⟨rfl,rfl⟩) fun b5=>?_;refine apq (news:=s'.cells) (m:=1) hI rfl (lT s') hn1 (by decide) (hnm:=rfl) fun aa cap=>?_;refine go ?_;refine W.ady [(WS.uY (WS.knows {x with s:=(x.s.au 1).1} (fun W=>s'.In W)) s'.raw aa cap).ts,[box b0 48 #[x.wb]],[box b1 3 #[th]],[box b3 53 #[.slice ba bases.length bc]],[box b2 54 #[.slice ca conds.length cc]]] (fun T w0 w hl=>BD.less (m:=(WS.uY (WS.knows {x with s:=(x.s.au 1).1} (fun W=>s'.In W)) s'.raw aa cap).ts++[box b0 48 #[x.wb],box b1 3 #[th],box b3 53 #[.slice ba bases.length bc],box b2 54 #[.slice ca conds.length cc]]) (r:=[box b5 60 s'.cells.toArray]) (by
  rw[List.append_assoc];exact adt (by simpa[WS.kH,MS.cells,MS.raw,bL.cells]using hl))) ?_
 exact⟨_,0,_,.inr (.inr ⟨hok,hroom,rfl,rfl,s',aa,cap,hs,rfl⟩),.inl ⟨rfl,rfl⟩,rfl⟩
 kernel_rfl
theorem uo(T:List Nat)(w:World)(x:WS)(th:Int)(ba:Option Addr)(bases:List MB)(bc:Nat)(ca:Option Addr)(conds:List Int)(cc:Nat)(h:BD T w w x.ts)(ha:∀W,x.P W->iJ W ba bases ca conds)(hl3:x.sys.length<=100000):
  Calls prog 37 #[x.wb,th,.slice ba bases.length bc,.slice ca conds.length cc] w fun e w'=>∃(v er:Int) (x':WS),e= .returned (.tuple #[.int .i64 v,.int .i64 er])/\abr x th bases conds v er x'/\BD T w w' x'.ts:=by
 have hg:aai prog 37 #[x.wb,th,.slice ba bases.length bc,.slice ca conds.length cc] [x.ts] (xq (fun y:Int×Int×WS=>abr x th bases conds y.1 y.2.1 y.2.2) (fun y=> .tuple #[.int .i64 y.1,.int .i64 y.2.1]) fun y=>[y.2.2.ts]):=by
  have Ep:=mkf;refine aai.go func37 ntmps37 ?_;refine go4 fun b0 b1 b3 b2=>?_;refine cq (acj (enters_of func109 (by kernel_rfl) rfl) (R:=fun v er Y=>∃x',abr x th bases conds v er x'/\Y=[x'.ts,[box b0 48 #[x.wb]],[box b1 3 #[th]],[box b3 53 #[.slice ba bases.length bc]],[box b2 54 #[.slice ca conds.length cc]]]) ((adM x th ba bases bc ca conds cc b0 b1 b2 b3 ha hl3).mono fun e Y ⟨v,er,x',hm,he,hY⟩=>⟨v,er,he,x',hm,hY⟩)) ?_;rintro _ _ ⟨v,er,rfl,x',hm,rfl⟩;refine⟨_,rfl,nq ?_⟩;refine go ?_;refine W.abg ?_;exact⟨(v,er,x'),hm,rfl,rfl⟩
 exact(hg T w (by simpa using h)).mono fun e w' ⟨Y,_,⟨x',hm,he,hY⟩,hl⟩=>⟨_,_,_,he,hm,by rw[hY]at hl;simpa using hl⟩
def One(s s':Ar):Prop:=s'.C.length=s.C.length/\s'.most=s.most/\(s'=s\/s'.L.length=s.L.length+1)
theorem One.refl(s:Ar):One s s:=⟨rfl,rfl,.inl rfl⟩
theorem eO(s:Ar)(op:Nat)(at_:Int)(D9:Nat->Nat×Bool):One s (s.iw op at_ D9).1:=by
 unfold Ar.iw;split
 .exact⟨by simp[Ar.acc],rfl,.inr (by simp[Ar.acc])⟩
 .exact One.refl s
theorem yB(s:Ar){α:Type}(o:Option α)(f:α->Bool×Nat×Ar)(h:∀a,One s (f a).2.2):One s (rB s (o.map f)).2.2:=by
 cases o with
 |none=>exact One.refl s
 |some a=>
  simp only[Option.map_some,rB];split
  .exact h a
  .exact h a
theorem qo(s:Ar){α:Type}(o:Option α)(f:α->Nat×Ar)(h:∀a,One s (f a).2):One s (rE s (o.map f)).2:=by
 cases o with
 |none=>exact One.refl s
 |some a=>exact h a
theorem yG(s:Ar){α:Type}(o:Option α)(f:α->Nat×Nat×Ar)(h:∀a,One s (f a).2.2):One s (rF s (o.map f)).2.2:=by
 cases o with
 |none=>exact One.refl s
 |some a=>
  simp only[Option.map_some,rF];split
  .exact h a
  .exact h a
theorem mW(x:WS)(k:Int):One x.s (x.fQ k).2.2:=yB _ _ _ fun _=>eO _ _ _ _
theorem uD(x:WS)(k:Int):One x.s (x.cK k).2.2:=yB _ _ _ fun _=>eO _ _ _ _
theorem pV(x:WS)(k:Int):One x.s (x.eF k).2:=qo _ _ _ fun _=>eO _ _ _ _
theorem qQ(x:WS)(k:Int):One x.s (x.bZ k).2:=qo _ _ _ fun _=>eO _ _ _ _
theorem vv(x:WS)(k:Int):One x.s (x.ja k).2:=qo _ _ _ fun _=>eO _ _ _ _
theorem Bh(x:WS)(k:Int):One x.s (x.fK k).2.2:=yG _ _ _ fun _=>eO _ _ _ _
theorem wu(x:WS)(k:Int):One x.s (x.gL k).2.2:=yG _ _ _ fun _=>eO _ _ _ _
theorem LC(x:WS)(k:Int):One x.s (x.iH k).2.2:=yG _ _ _ fun _=>eO _ _ _ _
theorem vI(x:WS)(k:Int):One x.s (x.dX k).2:=qo _ _ _ fun _=>eO _ _ _ _
structure WS.Fair(x:WS)(ms:List MS):Prop where
 good:x.Good ms
 Hr:x.s.C.length=x.BI.length+2*x.cos.length+x.sys.length
 fits:x.s.C.length<=x.s.most
 most:x.s.most<=65536
def qB(a:BO):Prop:=4<=a.what/\a.what<=21/\¬(6<=a.what/\a.what<=8)/\a.what≠13/\a.what≠14/\a.what≠20
structure bq(a:BO)(x:WS)(ms:List MS)(x':WS)(ms':List MS):Prop where
 fair:x'.Fair ms'
 most:x'.s.most=x.s.most
 log:x'.s.L.length=x.s.L.length\/(x'.s.L.length=x.s.L.length+1/\qB a)
 sys:∀k (h:k<ms.length),∃h':k<ms'.length,ms'[k].plain=ms[k].plain\/((k:Int)=a.a/\20<=a.what/\a.what<=22)
 knows:∀W,x'.P W->x.P W
theorem bq.refl{a:BO}{x:WS}{ms:List MS}(h:x.Fair ms):bq a x ms x ms:=⟨h,rfl,.inl rfl,fun k hk=>⟨hk,.inl rfl⟩,fun _ h=>h⟩
theorem bq.ar{a:BO}{x:WS}{ms:List MS}{s:Ar}(h:x.Fair ms)(h1:One x.s s)(ha:qB a):bq a x ms (x.ar s) ms:=by
 obtain⟨g1,g2,g3⟩:=h1;refine⟨⟨⟨h.good.sides,h.good.vals,h.good.sys,h.good.cont,h.good.q1,h.good.q2,h.good.l1,h.good.l2,h.good.l3⟩,?_,?_,?_⟩,g2,?_,fun k hk=>⟨hk,.inl rfl⟩,fun _ h=>h⟩
 .show s.C.length=_;rw[g1];exact h.Hr
 .show s.C.length<=s.most;rw[g1,g2];exact h.fits
 .show s.most<=_;rw[g2];exact h.most
 .show s.L.length=_\/(s.L.length=_/\_)
  rcases g3 with rfl|g3
  .exact .inl rfl
  .exact .inr ⟨g3,ha⟩
theorem bq.knew{a:BO}{x:WS}{ms:List MS}(Q:World->Prop)(h:x.Fair ms):bq a x ms (x.knows Q) ms:=
 ⟨⟨h.good.knows Q,h.Hr,h.fits,h.most⟩,rfl,.inl rfl,fun k hk=>⟨hk,.inl rfl⟩,fun _ h=>h.1⟩
theorem uQ{y:ME}(h:y.plain.Ok):y.v.nodes<=256:=by
 rcases h.2.2.2.2 with h|h
 .have :y.v.plain.nodes=1:=by rw[show y.v.plain=y.plain.v from rfl,h];simp[MT.PT.nodes,MT.PT.aV]
  rw[MT.cu]at this;omega
 .exact lJ h
theorem mD{n kk:Nat}{e:ME}{ys:List ME}{er:Int}(h1:ys.map ME.plain=[e.plain].take kk)(h2:kK n [e.plain] kk er):n+ys.length<=4096/\∀y∈ys,y.v.nodes<=256:=by
 have hl:ys.length=min kk 1:=by have :=congrArg List.length h1;simpa using this
 refine⟨by have :=h2.2.1;omega,fun y hy=>?_⟩;have hk:0<kk:=by
  have :0<ys.length:=List.length_pos_of_mem hy;omega
 have hy2:y.plain∈[e.plain].take kk:=by rw[<-h1];exact List.mem_map_of_mem hy
 have hy3:y.plain=e.plain:=by simpa using List.mem_of_mem_take hy2
 have hok:e.plain.Ok:=h2.1 0 (by simp) hk;exact uQ (by rw[hy3];exact hok)
theorem lW{x:WS}{ms:List MS}(h:x.Fair ms)(n:Nat)(hn:n<x.BI.length)(y:Ce)(P:World->Prop)(hP:∀W,P W->x.P W)(hy:∀W,P W->bD W y.es1/\bD W y.es2)(hq:y.es1.length<=4096/\y.es2.length<=4096):(x.oQ n y P).Fair ms:=by
 refine⟨⟨fun W hW=>h.good.sides W (hP W hW),fun W hW=>⟨fun c hc=>?_,(h.good.vals W (hP W hW)).2⟩,h.good.sys,fun W hW=>h.good.cont W (hP W hW),fun m hm=>?_,h.good.q2,?_,h.good.l2,h.good.l3⟩,?_,h.fits,h.most⟩
 .rcases List.mem_or_eq_of_mem_set hc with hc|rfl
  .exact(h.good.vals W (hP W hW)).1 c hc
  .exact hy W hW
 .have hm':m<x.BI.length:=by simpa[WS.oQ]using hm
  by_cases hmn:n=m
  .subst hmn;simp only[WS.oQ,List.getElem_set_self];exact hq
  .simp only[WS.oQ,List.getElem_set_ne hmn];exact h.good.q1 m hm'
 .simpa[WS.oQ]using h.good.l1
 .show x.s.C.length=(x.BI.set n y).length+2*x.cos.length+x.sys.length
  rw[List.length_set];exact h.Hr
theorem rR{x:WS}{ms:List MS}(h:x.Fair ms)(n:Nat)(hn:n<x.cos.length)(y:Ch)(P:World->Prop)(hP:∀W,P W->x.P W)(hy:∀W,P W->bD W y.es)(hq:y.es.length<=4096):(x.jM n y P).Fair ms:=by
 refine⟨⟨fun W hW=>h.good.sides W (hP W hW),fun W hW=>⟨(h.good.vals W (hP W hW)).1,fun c hc=>?_⟩,h.good.sys,fun W hW=>h.good.cont W (hP W hW),h.good.q1,fun m hm=>?_,h.good.l1,?_,h.good.l3⟩,?_,h.fits,h.most⟩
 .rcases List.mem_or_eq_of_mem_set hc with hc|rfl
  .exact(h.good.vals W (hP W hW)).2 c hc
  .exact hy W hW
 .have hm':m<x.cos.length:=by simpa[WS.jM]using hm
  by_cases hmn:n=m
  .subst hmn;simp only[WS.jM,List.getElem_set_self];exact hq
  .simp only[WS.jM,List.getElem_set_ne hmn];exact h.good.q2 m hm'
 .simpa[WS.jM]using h.good.l2
 .show x.s.C.length=x.BI.length+2*(x.cos.set n y).length+x.sys.length
  rw[List.length_set];exact h.Hr
theorem gU{a:BO}{x x':WS}{ms:List MS}(h:x'.Fair ms)(hs:x'.s=x.s)(hP:∀W,x'.P W->x.P W):bq a x ms x' ms:=⟨h,by rw[hs],.inl (by rw[hs]),fun k hk=>⟨hk,.inl rfl⟩,hP⟩
theorem jU{W:World}{es:List ME}(h:bD W es)(i:Nat)(b:Bool):bD W (if b=true then es.eraseIdx i else es):=by
 split
 .exact fun e he=>h e (List.mem_of_mem_eraseIdx he)
 .exact h
theorem nG(es:List ME)(i n:Nat)(b:Bool)(h:es.length<=n):(if b=true then es.eraseIdx i else es).length<=n:=by
 split
 .exact Nat.le_trans (List.length_eraseIdx_le _ _) h
 .exact h
theorem mG{a:BO}{x x':WS}{ms:List MS}{k s er:Int}{e:ME}(h:x.Fair ms)(hp:lX x k s e er x'):bq a x ms x' ms:=by
 rcases hp with ⟨_,_,rfl⟩|⟨_,_,_,rfl⟩|⟨n,hn,kk,ys,rfl,h1,h2⟩
 .exact bq.refl h
 .exact bq.refl h
 .rcases h2 with ⟨_,h2,rfl⟩|⟨_,h2,rfl⟩
  .obtain⟨f1,f2⟩:=mD h1 h2
   refine gU (lW h n hn _ _ (fun W hW=>hW.1) (fun W hW=>⟨fun y hy=>?_,((h.good.vals W hW.1).1 _ (List.getElem_mem hn)).2⟩) ⟨by simpa using f1,(h.good.q1 n hn).2⟩) rfl (fun W hW=>hW.1);rcases List.mem_append.1 hy with hy|hy
   .exact((h.good.vals W hW.1).1 _ (List.getElem_mem hn)).1 y hy
   .exact⟨hW.2 y hy,f2 y hy⟩
  .obtain⟨f1,f2⟩:=mD h1 h2
   refine gU (lW h n hn _ _ (fun W hW=>hW.1) (fun W hW=>⟨((h.good.vals W hW.1).1 _ (List.getElem_mem hn)).1,fun y hy=>?_⟩) ⟨(h.good.q1 n hn).1,by simpa using f1⟩) rfl (fun W hW=>hW.1);rcases List.mem_append.1 hy with hy|hy
   .exact((h.good.vals W hW.1).1 _ (List.getElem_mem hn)).2 y hy
   .exact⟨hW.2 y hy,f2 y hy⟩
theorem yt{a:BO}{x x':WS}{ms:List MS}{k er:Int}{e:ME}(h:x.Fair ms)(hp:nu x k e er x'):bq a x ms x' ms:=by
 rcases hp with ⟨_,_,rfl⟩|⟨n,hn,kk,ys,rfl,h1,h2,rfl⟩
 .exact bq.refl h
 .obtain⟨f1,f2⟩:=mD h1 h2
  refine gU (rR h n hn _ _ (fun W hW=>hW.1) (fun W hW y hy=>?_) (by simpa using f1)) rfl (fun W hW=>hW.1);rcases List.mem_append.1 hy with hy|hy
  .exact(h.good.vals W hW.1).2 _ (List.getElem_mem hn) y hy
  .exact⟨hW.2 y hy,f2 y hy⟩
theorem xh{a:BO}{x x':WS}{ms:List MS}{k er:Int}{v:aL}(h:x.Fair ms)(hp:lS x k v er x'):bq a x ms x' ms:=by
 rcases hp with ⟨_,_,_,rfl⟩|⟨n,hn,y,b,rfl,_,_,_,rfl⟩
 .exact bq.refl h
 .exact gU (rR h n hn _ _ (fun W hW=>hW) (fun W hW=>jU ((h.good.vals W hW).2 _ (List.getElem_mem hn)) _ _) (nG _ _ _ _ (h.good.q2 n hn))) rfl (fun W hW=>hW)
theorem jO(s:Ar)(n:Nat)(h:s.C.length+n<=s.most):(s.au (n:Int)).1={s with C:=s.C++List.replicate n 0}:=by
 unfold Ar.au;rw[if_neg (by omega),if_neg (by omega)];simp
theorem mJ{a:BO}{x x':WS}{ms:List MS}{v er:Int}(h:x.Fair ms)(hp:jG x v er x'):bq a x ms x' ms:=by
 rcases hp with ⟨h1,_,_,c,M,q1,q2,aa,cap,rfl⟩|⟨_,_,_,rfl⟩
 .have hA:=jO x.s 1 h1
  have YM:=h.Hr;have Fj:=h.most;refine⟨⟨⟨h.good.sides,fun W hW=>⟨fun y hy=>?_,(h.good.vals W hW).2⟩,h.good.sys,h.good.cont,fun n hn=>?_,h.good.q2,?_,h.good.l2,h.good.l3⟩,?_,?_,?_⟩,?_,.inl ?_,fun k hk=>⟨hk,.inl rfl⟩,fun _ h=>h⟩
  .rcases List.mem_append.1 hy with hy|hy
   .exact(h.good.vals W hW).1 y hy
   .obtain rfl:=List.mem_singleton.1 hy
    exact⟨fun e he=>(List.not_mem_nil he).elim,fun e he=>(List.not_mem_nil he).elim⟩
  .simp only[WS.sI]at hn|-
   by_cases hnn:n<x.BI.length
   .rw[List.getElem_append_left hnn];exact h.good.q1 n hnn
   .rw[List.getElem_append_right (by omega)];simp
  .simp only[WS.sI,List.length_append,List.length_singleton];omega
  .show(x.s.au ((1:Nat):Int)).1.C.length=(x.BI++[_]).length+2*x.cos.length+x.sys.length
   rw[hA];simp;omega
  .show(x.s.au ((1:Nat):Int)).1.C.length<=(x.s.au ((1:Nat):Int)).1.most
   rw[hA];simpa using h1
  .show(x.s.au ((1:Nat):Int)).1.most<=_
   rw[hA];exact Fj
  .show(x.s.au ((1:Nat):Int)).1.most=_
   rw[hA]
  .show(x.s.au ((1:Nat):Int)).1.L.length=_
   rw[hA]
 .exact bq.refl h
theorem mF{a:BO}{x x':WS}{ms:List MS}{v er:Int}(h:x.Fair ms)(hp:jE x v er x'):bq a x ms x' ms:=by
 rcases hp with ⟨h1,_,_,c,q,aa,cap,rfl⟩|⟨_,_,_,rfl⟩
 .have hA:=jO x.s 2 h1
  have YM:=h.Hr;have Fj:=h.most;refine⟨⟨⟨h.good.sides,fun W hW=>⟨(h.good.vals W hW).1,fun y hy=>?_⟩,h.good.sys,h.good.cont,h.good.q1,fun n hn=>?_,h.good.l1,?_,h.good.l3⟩,?_,?_,?_⟩,?_,.inl ?_,fun k hk=>⟨hk,.inl rfl⟩,fun _ h=>h⟩
  .rcases List.mem_append.1 hy with hy|hy
   .exact(h.good.vals W hW).2 y hy
   .obtain rfl:=List.mem_singleton.1 hy
    exact fun e he=>(List.not_mem_nil he).elim
  .simp only[WS.sV]at hn|-
   by_cases hnn:n<x.cos.length
   .rw[List.getElem_append_left hnn];exact h.good.q2 n hnn
   .rw[List.getElem_append_right (by omega)];simp
  .simp only[WS.sV,List.length_append,List.length_singleton];omega
  .show(x.s.au ((2:Nat):Int)).1.C.length=x.BI.length+2*(x.cos++[_]).length+x.sys.length
   rw[hA];simp;omega
  .show(x.s.au ((2:Nat):Int)).1.C.length<=(x.s.au ((2:Nat):Int)).1.most
   rw[hA];simpa using h1
  .show(x.s.au ((2:Nat):Int)).1.most<=_
   rw[hA];exact Fj
  .show(x.s.au ((2:Nat):Int)).1.most=_
   rw[hA]
  .show(x.s.au ((2:Nat):Int)).1.L.length=_
   rw[hA]
 .exact bq.refl h
theorem NY{x:WS}{ms:List MS}(hs:x.sys=ms.map MS.raw)(n:Nat)(m:MS):x.sys.set n m.raw=(ms.set n m).map MS.raw:=by rw[hs,List.map_set]
theorem abw{a:BO}{x y:WS}{ms:List MS}(n:Nat)(hn:n<ms.length)(m:MS)(h:x.Fair ms)(hy:y.Fair ms)(hs:bq a x ms y ms)(hna:(n:Int)=a.a/\20<=a.what/\a.what<=22)(hin:∀W,y.P W->m.In W):bq a x ms (y.eP n m.raw) (ms.set n m):=by
 refine⟨⟨⟨hy.good.sides,hy.good.vals,NY hy.good.sys n m,fun W hW u hu=>?_,hy.good.q1,hy.good.q2,hy.good.l1,hy.good.l2,?_⟩,?_,hy.fits,hy.most⟩,hs.most,hs.log,fun k hk=>⟨by simpa using hk,?_⟩,hs.knows⟩
 .rcases List.mem_or_eq_of_mem_set hu with hu|rfl
  .exact hy.good.cont W hW u hu
  .exact hin W hW
 .show(y.sys.set n m.raw).length<=_
  rw[List.length_set];exact hy.good.l3
 .show y.s.C.length=y.BI.length+2*y.cos.length+(y.sys.set n m.raw).length
  rw[List.length_set];exact hy.Hr
 .by_cases hkn:n=k
  .subst hkn;exact .inr hna
  .rw[List.getElem_set_ne hkn];exact .inl rfl
theorem yx{x:WS}{ms:List MS}(hs:x.sys=ms.map MS.raw)(n:Nat)(hn:n<x.sys.length):∃hm:n<ms.length,x.sys[n]=ms[n].raw:=by
 have hm:n<ms.length:=by rw[hs]at hn;simpa using hn
 refine⟨hm,?_⟩;have :x.sys[n]? =(ms.map MS.raw)[n]? :=by rw[hs]
 rw[List.getElem?_eq_getElem hn,List.getElem?_map,List.getElem?_eq_getElem hm]at this;simpa using this
theorem zi{x x':WS}{k s er:Int}{e:ME}(hp:lX x k s e er x'):x'.wb=x.wb:=by
 rcases hp with ⟨_,_,rfl⟩|⟨_,_,_,rfl⟩|⟨n,hn,kk,ys,rfl,h1,⟨_,_,rfl⟩|⟨_,_,rfl⟩⟩<;>rfl
theorem Nw{x x':WS}{k er:Int}{e:ME}(hp:nu x k e er x'):x'.wb=x.wb:=by
 rcases hp with ⟨_,_,rfl⟩|⟨n,hn,kk,ys,rfl,h1,h2,rfl⟩<;>rfl
def WS.fJ(x:WS)(P:World->Prop):WS:={x with P:=P}
theorem WS.Good.fJ{x:WS}{ms:List MS}(h:x.Good ms)(P:World->Prop)(hP:∀W,P W->x.P W):(x.fJ P).Good ms:=
 ⟨fun W hW=>h.sides W (hP W hW),fun W hW=>h.vals W (hP W hW),h.sys,fun W hW=>h.cont W (hP W hW),h.q1,h.q2,h.l1,h.l2,h.l3⟩
theorem WS.Fair.fJ{x:WS}{ms:List MS}(h:x.Fair ms)(P:World->Prop)(hP:∀W,P W->x.P W):(x.fJ P).Fair ms:=⟨h.good.fJ P hP,h.Hr,h.fits,h.most⟩
end Go.Proofs.YtegejdlglonflaaGreatDoor
