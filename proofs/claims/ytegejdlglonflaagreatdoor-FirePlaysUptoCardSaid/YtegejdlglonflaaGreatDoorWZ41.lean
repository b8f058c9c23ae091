/-
  Texts of FirePlays, laid together by program.
-/
import Derived.Test.YtegejdlglonflaaGreatDoorWZ39
import Derived.Test.YtegejdlglonflaaGreatDoorWZ40
namespace Go.Proofs.YtegejdlglonflaaGreatDoor
open Go.RowKit Go.Shelf Go.Proofs.Tryz
set_option maxRecDepth 100000
set_option maxHeartbeats 8000000
set_option linter.unusedVariables false
set_option linter.unusedSimpArgs false
section
attribute [local go_sem] Yj YW
def SK(c:Ce)(s:Int):List ME:=if s=1 then c.es1 else if s=2 then c.es2 else[]
theorem BD.wAll{T:List Nat}{w0 w:World}{x:WS}{r0:List ai}(h:BD T w0 w (x.ts++r0))(hv:∀W,x.P W->x.fD W)(hq:∀n (hn:n<x.BI.length),x.BI[n].es1.length<=4096/\x.BI[n].es2.length<=4096)(n:Nat)(hn:n<x.BI.length)(s:Int):
  Calls prog 267 #[.pointer (some ⟨x.BI[n].c,0,none⟩),s] w fun e w'=>∃bx a cap ys,e= .returned (.func (.func 307) #[] #[.pointer (some ⟨bx,0,none⟩)])/\ys.map ME.plain=(SK x.BI[n] s).map ME.plain/\BD T w0 w' ((x.ts++r0)++[allT bx (.slice a ys.length cap) ys]):=by
 have hin:=(hv w (h.still 2 rfl)).1 x.BI[n] (List.getElem_mem hn);have hA:Calls prog 267 #[.pointer (some ⟨x.BI[n].c,0,none⟩),s] w (TR (SK x.BI[n] s) w):=by
  by_cases h1:s=1
  .subst h1
   exact X0 w _ _ _ _ _ (h.oM n hn) 1 x.BI[n].q1 x.BI[n].es1 rfl (h.YL n hn).1 hin.1 (hq n hn).1
  .by_cases h2:s=2
   .subst h2
    exact X0 w _ _ _ _ _ (h.oM n hn) 2 x.BI[n].q2 x.BI[n].es2 rfl (h.YL n hn).2 hin.2 (hq n hn).2
   .rw[show SK x.BI[n] s=[] from by unfold SK;rw[if_neg h1,if_neg h2]]
    exact Wz w _ _ _ _ _ (h.oM n hn) s (by unfold Hg;rw[if_neg h1,if_neg h2])
 refine hA.mono ?_;rintro e w' ⟨bx,a,cap,ys,rfl,hp,hL⟩;exact⟨bx,a,cap,ys,rfl,hp,h.join hL⟩
def seqB(x:WS)(k s:Int)(b3 b4 b5:Nat):List ai:=[box b3 48 #[x.wb],box b4 3 #[k],box b5 182 #[s]]
def Uo(T:List Nat)(w:World)(x:WS)(k s:Int)(r:List ai)(e:Ending)(w':World):Prop:=
 (∃(n:Nat) (hn:n<x.BI.length) (bx:Nat) (a:Option Addr) (cap:Nat) (ys:List ME),k=(n:Int)/\e= .returned (.func (.func 307) #[] #[bx])/\ys.map ME.plain=(SK x.BI[n] s).map ME.plain/\BD T w w' ((x.ts++r)++[allT bx (.slice a ys.length cap) ys]))\/
 (¬(0<=k/\k<(x.BI.length:Int))/\e= .panicked (aX 4)/\BD T w w' (x.ts++r))
theorem XK(T:List Nat)(w:World)(x:WS)(b3 b4 b5:Nat)(k s:Int)(h:BD T w w (x.ts++seqB x k s b3 b4 b5))(hv:∀W,x.P W->x.fD W)(hq:∀n (hn:n<x.BI.length),x.BI[n].es1.length<=4096/\x.BI[n].es2.length<=4096):
  Calls prog 266 #[b3,b4,b5] w (Uo T w x k s (seqB x k s b3 b4 b5)):=by
 have BG:=hdq h;have HV:=hdq hv;have HQ:=hdq hq;clear h hv hq;have HS:Hid (∀W r,BD T w W (x.ts++seqB x k s b3 b4 b5++r)->(fun w'=>w'.cell? ⟨b3,0,none⟩=some (.pointer (some ⟨x.wb,0,none⟩))/\w'.cell? ⟨b4,0,none⟩=some (.int .i64 k)/\w'.cell? ⟨b5,0,none⟩=some (.int .i64 s)) W):=hdq (fun W r hL=>by
  have h1:=hL.aF;exact⟨(h1.aC 0 rfl).cell 0,(h1.aC 1 rfl).cell 0,(h1.aC 2 rfl).cell 0⟩)
 by_cases hk:0<=k/\k<(x.BI.length:Int)
 .obtain⟨n,rfl⟩:=Int.eq_ofNat_of_zero_le hk.1
  have hnk:n<x.BI.length:=by omega
  go_enter func266,ntmps266
  go_upto_region 1 with fail
  refine wp_region_held_drew (S:=fun w'=>w'.cell? ⟨b3,0,none⟩=some (.pointer (some ⟨x.wb,0,none⟩))/\w'.cell? ⟨b4,0,none⟩=some (.int .i64 (n:Int))/\w'.cell? ⟨b5,0,none⟩=some (.int .i64 s)) (by kernel_rfl) (HS.o _ [] (by rw[List.append_nil];exact BG.o.drew)) (fun hHeld=>?_);refine nmq (hdq BG.o.drew) hHeld fun wa HA hHeld=>?_;refine tkq 0 4 ?_;refine tkq 1 5 ?_;refine tkq 3 7 ?_;refine rdq 2 rfl fun K hK=>?_;go_simp;refine(HA.o.Lp n hnk).mono ?_;rintro en wb ⟨rfl,ht⟩;have HB:=hdq (HA.o.touch ht);clear ht;go_simp;refine kpq hK.o (fun hHeld=>?_) (HS.o _ [] (by rw[List.append_nil];exact HB.o));clear hK K;refine rdq 4 rfl fun K hK=>?_;go_simp;refine(HB.o.wAll HV.o HQ.o n hnk s).mono ?_;rintro en wc ⟨bx,a,cap,ys,rfl,hp,hL⟩;have HC:=hdq hL;have HP:=hdq hp;clear hL hp;go_simp;refine kpq hK.o (fun hHeld=>?_) (HS.o _ _ HC.o);clear hK K;refine opq 5 fun hHeld=>?_;refine dnq ?_;go_wp2;go_ret
  exact .inl ⟨n,hnk,bx,a,cap,ys,rfl,rfl,HP.o,HC.o⟩
 .go_enter func266,ntmps266
  go_upto_region 1 with fail
  refine wp_region_held_drew (S:=fun w'=>w'.cell? ⟨b3,0,none⟩=some (.pointer (some ⟨x.wb,0,none⟩))/\w'.cell? ⟨b4,0,none⟩=some (.int .i64 k)/\w'.cell? ⟨b5,0,none⟩=some (.int .i64 s)) (by kernel_rfl) (HS.o _ [] (by rw[List.append_nil];exact BG.o.drew)) (fun hHeld=>?_);refine nmq (hdq BG.o.drew) hHeld fun wa HA hHeld=>?_;refine tkq 0 4 ?_;refine tkq 1 5 ?_;refine tkq 3 7 ?_;refine rdq 2 rfl fun K hK=>?_;go_simp;refine(HA.o.nK k hk).mono ?_;rintro en wb ⟨rfl,ht⟩;dsimp only;have h9:Uo T w x k s (seqB x k s b3 b4 b5) (.panicked (aX 4)) wb:=Or.inr ⟨hk,rfl,HA.o.touch ht⟩;exact⟨rfl,h9⟩
def XC(T:List Nat)(w0:World)(x:WS)(k s:Int)(r:List ai)(e:Ending)(w':World):Prop:=
 (∃(n:Nat) (hn:n<x.BI.length) (bv bx:Nat) (a:Option Addr) (cap:Nat) (ys:List ME),k=(n:Int)/\e= .returned (.func (.func 269) #[] #[bv])/\ys.map ME.plain=(SK x.BI[n] s).map ME.plain/\BD T w0 w' ((x.ts++r)++[allT bx (.slice a ys.length cap) ys,box bv 278 #[.func (.func 307) #[] #[bx]]]))\/
 (¬(0<=k/\k<(x.BI.length:Int))/\e= .returned (.func (.func 268) #[] #[])/\BD T w0 w' (x.ts++r))
theorem YF(T:List Nat)(w:World)(x:WS)(k s:Int)(h:BD T w w x.ts)(hv:∀W,x.P W->x.fD W)(hq:∀n (hn:n<x.BI.length),x.BI[n].es1.length<=4096/\x.BI[n].es2.length<=4096):
  Calls prog 193 #[x.wb,k,s] w (XC T w x k s []):=by
 have Ep:= @mfq;have BG:=hdq h;have HV:=hdq hv;have HQ:=hdq hq;clear h hv hq;go_enter func193,ntmps193
 go_wp2_with fail
 refine ah ?_;intro w1 hw1;have BB:=hdq (BG.o.UX hw1);generalize hb5:w.heap.size+1+1=b5 at BB|-;generalize hb4:w.heap.size+1=b4 at BB|-;generalize hb3:w.heap.size=b3 at BB|-;clear hw1 hb5 hb4 hb3 BG;refine(Vh T w w1 (x.ts++seqB x k s b3 b4 b5) 266 _ (fun o er l'=>(∃(n:Nat) (hn:n<x.BI.length) (bx:Nat) (a:Option Addr) (cap:Nat) (ys:List ME),o=some bx/\er=0/\k=(n:Int)/\ys.map ME.plain=(SK x.BI[n] s).map ME.plain/\l'=(x.ts++seqB x k s b3 b4 b5)++[allT bx (.slice a ys.length cap) ys])\/(o=none/\er=4/\¬(0<=k/\k<(x.BI.length:Int))/\l'=x.ts++seqB x k s b3 b4 b5)) BB.o (enters_of func266 (by kernel_rfl) rfl) (fun T' W hW=>?_)).mono ?_
 .refine(XK T' W x b3 b4 b5 k s hW HV.o HQ.o).mono ?_
  rintro e w' (⟨n,hn,bx,a,cap,ys,rfl,rfl,hp,hL⟩|⟨hk,rfl,hL⟩)
  .exact⟨some bx,0,_,.inl ⟨bx,rfl,rfl,rfl⟩,.inl ⟨n,hn,bx,a,cap,ys,rfl,rfl,rfl,hp,rfl⟩,hL⟩
  .exact⟨none,4,_,.inr ⟨rfl,rfl⟩,.inr ⟨rfl,rfl,hk,rfl⟩,hL⟩
 .rintro e w2 ⟨o,er,l',he,hR,hL⟩
  have HL2:=hdq hL;clear hL BB;rcases hR with ⟨n,hn,bx,a,cap,ys,rfl,rfl,rfl,hp,rfl⟩|⟨rfl,rfl,hk,rfl⟩
  .rcases he with ⟨v,hv,_,rfl⟩|⟨h9,_⟩
   .obtain rfl:bx=v:=by simpa using hv
    go_upto_region 2 with fail
    refine ay ?_;intro w3 hw;have h5:=HL2.o.alloc 278 #[.func (.func 307) #[] #[bx]];rw[List.append_assoc]at h5;have BF:=hdq (h5.toW hw);clear h5 hw;generalize hb:w2.heap.size=bv at BF|-;clear hb;go_wp2;go_ret
    refine .inl ⟨n,hn,bv,bx,a,cap,ys,rfl,rfl,hp,?_⟩;have h6:=BD.aB (a:=x.ts) (b:=seqB x (n:Int) s b3 b4 b5) (c:=[allT bx (.slice a ys.length cap) ys,box bv 278 #[.func (.func 307) #[] #[bx]]]) BF.o;rw[List.append_nil];exact BD.aF h6
   .cases h9
  .rcases he with ⟨v,h9,_⟩|⟨_,rfl⟩
   .cases h9
   .go_wp2
    go_ret
    refine .inr ⟨hk,rfl,?_⟩;rw[List.append_nil];exact(BD.aF HL2.o).touch ((Touch.refl [] w2).alloc _)
end
section
attribute [local go_sem] Oper.semAt_some
abbrev LiA:Type:=Option Addr×Nat×List ME
def liP(ys:List ME)(k:Nat)(z:LiA):Prop:=z.2.2.length=k/\z.2.2.map ME.plain=(ys.map ME.plain).take k/\∀e∈z.2.2,e.v.nodes<=256
def liL(b9 k:Nat)(z:LiA):List ai:=[box b9 34 #[.slice z.1 k z.2.1],row 65 7 (.slice z.1 k z.2.1) k (aM z.2.2),bS (z.2.2.map ME.v)]
def liR(ys:List ME)(b9 k:Nat):List ai:=[ah7 (liP ys k) (liL b9 k)]
theorem aif{T:List Nat}{w w':World}(h:Touch T w w'):BD T w w' []:=⟨h,fun _=>[],by simp,by simp⟩
theorem aib{T:List Nat}{w0 w:World}{m:List ai}{ys:List ME}{b9 k:Nat}(h:BD T w0 w (liR ys b9 k++m)):∃(a:Option Addr) (cap:Nat) (xs:List ME),liP ys k (a,cap,xs)/\BD T w0 w ([box b9 34 #[.slice a k cap],row 65 7 (.slice a k cap) k (aM xs),bS (xs.map ME.v)]++m):=by
 obtain⟨⟨a,cap,xs⟩,hp,hl⟩:=BD.anyOut h;exact⟨a,cap,xs,hp,hl⟩
theorem aiI{T:List Nat}{w0 w:World}{m:List ai}{ys xs:List ME}{b9 k cap:Nat}{a:Option Addr}(hp:liP ys k (a,cap,xs))(h:BD T w0 w ([box b9 34 #[.slice a k cap],row 65 7 (.slice a k cap) k (aM xs),bS (xs.map ME.v)]++m)):BD T w0 w (liR ys b9 k++m):=BD.anyIn (a:=((a,cap,xs):LiA)) h hp
def ais(bv bx:Nat)(a:Option Addr)(cap:Nat)(ys:List ME)(W:World):Prop:=JZ W bx a cap ys/\W.cell? ⟨bv,0,none⟩=some (.func (.func 307) #[] #[bx])
theorem aio{T:List Nat}{w0 w:World}{x:WS}{bv bx cap:Nat}{a:Option Addr}{ys:List ME}(h:BD T w0 w (x.ts++[allT bx (.slice a ys.length cap) ys,box bv 278 #[.func (.func 307) #[] #[bx]]])):BD T w0 w (x.knows (ais bv bx a cap ys)).ts:=by
 have h1:BD T w0 w ((x.ts++[allT bx (.slice a ys.length cap) ys])++[box bv 278 #[.func (.func 307) #[] #[bx]]]):=by simpa using h
 have h2:=h1.settle (Q:=fun W=>x.P W/\W.cell? ⟨bv,0,none⟩=some (.func (.func 307) #[] #[bx])) 2 rfl (fun W f hp hf=>⟨hp,hf.2.cell 0⟩);have h3:BD T w0 w ((x.knows (fun W=>W.cell? ⟨bv,0,none⟩=some (.func (.func 307) #[] #[bx]))).ts++[allT bx (.slice a ys.length cap) ys]):=h2;exact h3.settle 2 rfl (fun W f hp hf=>⟨hp.1,⟨hf.2.1,iL hf.2.2.1,hf.2.2.2⟩,hp.2⟩)
def ai5(T:List Nat)(w0:World)(x:WS)(n:Nat)(hn:n<x.BI.length)(s:Int)(e:Ending)(w':World):Prop:=∃(a:Option Addr) (cap:Nat) (xs:List ME),e= .returned (.tuple #[.slice a xs.length cap,true])/\xs.map ME.plain=(SK x.BI[n] s).map ME.plain/\BD T w0 w' (x.knows (fun W=>T9 W a xs.length xs)).ts
theorem ait{T:List Nat}{w0 W:World}{x:WS}{K:World->Prop}{a:Option Addr}{cap b9:Nat}{xs:List ME}{cs:Array Value}{r:List ai}(hn:∀e∈xs,e.v.nodes<=256)(h:BD T w0 W ([box b9 34 cs,row 65 7 (.slice a xs.length cap) xs.length (aM xs),bS (xs.map ME.v)]++r++(x.knows K).ts)):BD T w0 W (x.knows (fun W=>T9 W a xs.length xs)).ts:=by
 have h1:BD T w0 W (((x.knows K).ts++[row 65 7 (.slice a xs.length cap) xs.length (aM xs),bS (xs.map ME.v)])++(box b9 34 cs::r)):=h.prm (by
  have e1:([box b9 34 cs,row 65 7 (.slice a xs.length cap) xs.length (aM xs),bS (xs.map ME.v)]++r++(x.knows K).ts).Perm ((x.knows K).ts++([box b9 34 cs,row 65 7 (.slice a xs.length cap) xs.length (aM xs),bS (xs.map ME.v)]++r)):=List.perm_append_comm;refine e1.trans ?_;rw[List.append_assoc];refine List.Perm.append_left _ ?_;simp only[cAq,nAq];exact(List.Perm.swap _ _ _).trans ((List.Perm.swap _ _ _).cons _))
 have h2:=h1.front;have h3:BD T w0 W (((x.knows K).ts++[row 65 7 (.slice a xs.length cap) xs.length (aM xs)])++[bS (xs.map ME.v)]):=by simpa using h2
 have h4:=h3.settle (Q:=fun W=>x.P W/\∀e∈xs,e.v.In W) 2 rfl (fun W f hp hf=>⟨hp.1,fun e he=>hf.2 _ (List.mem_map_of_mem he)⟩);have h5:BD T w0 W ((x.knows (fun W=>∀e∈xs,e.v.In W)).ts++[row 65 7 (.slice a xs.length cap) xs.length (aM xs)]):=h4;exact h5.settle 2 rfl (fun W f hp hf=>⟨hp.1,Nat.le_refl _,iL (ZF hf.2),fun e he=>⟨hp.2 e he,hn e he⟩⟩)
theorem ahX{x:WS}{W:World}(h:x.fD W)(n:Nat)(hn:n<x.BI.length)(s:Int){ys:List ME}(hp:ys.map ME.plain=(SK x.BI[n] s).map ME.plain):∀y∈ys,y.v.nodes<=256:=by
 have hE:=h.1 x.BI[n] (List.getElem_mem hn);have hS:∀e∈SK x.BI[n] s,e.v.nodes<=256:=by
  unfold SK;split
  .exact fun e he=>(hE.1 e he).2
  .split
   .exact fun e he=>(hE.2 e he).2
   .exact fun e he=>absurd he (by simp)
 intro y hy;have hmm:y.plain∈(SK x.BI[n] s).map ME.plain:=by rw[<-hp];exact List.mem_map_of_mem hy
 obtain⟨q,hq,hpr⟩:=List.mem_map.1 hmm;rw[qI hpr];exact hS q hq
theorem aho{x:WS}{ms:List MS}(h:x.Good ms)(n:Nat)(hn:n<x.BI.length)(s:Int):(SK x.BI[n] s).length<=4096:=by
 have hq:=h.q1 n hn;unfold SK;split
 .exact hq.1
 .split
  .exact hq.2
  .simp
theorem ai7(m:Nat)(T:List Nat)(w:World)(x:WS)(ms:List MS)(n:Nat)(hn:n<x.BI.length)(s:Int)(h:BD T w w x.ts)(hf:x.Fair ms):CallsIn Fence.wide m prog 91 #[x.wb,(n:Int),s] w (ai5 T w x n hn s):=by
 have BG:=hdq h;have HF:=hdq hf;clear h hf;refine callsIn_of_wp_marks func91 rfl trivial ?_ rfl;simp only[ntmps91,List.size_toArray,List.length_cons,List.length_nil,Nat.reduceAdd,Nat.reduceSub,Array.replicate_succ,Array.replicate_zero,List.push_toArray,List.append_toArray,nAq,cAq];gi_wp2_with fail
 refine⟨trivial,Zy,?_⟩;refine(callsIn_wide.2 (YF T w x n s BG.o HF.o.good.vals HF.o.good.q1)).mono ?_;rintro e w1 (⟨n',hn',bv,bx,a,cap,ys,hk,rfl,hp,hL⟩|⟨hno,_⟩)
 case inr=>exact absurd ⟨by omega,by omega⟩ hno
 obtain rfl:n=n':=by omega
 have BB:=hdq hL;have HP:=hdq hp;clear hL hp hk BG;have hnil:∀W,(binOp .eql 278 (.func (.func 269) #[] #[bv]) .nilFunc).run prog W= .ok (.bool false) W:=fun W=>by kernel_rfl
 gi_wp2_with fail
 refine ZO ?_;intro w2 hw2;have h2:=((aio (by simpa using BB.o)).DN hw2);generalize FK:w1.heap.size=b9 at h2|-;have h3:=((h2.new (t':=row 65 7 (.slice none 0 0) 0 (aM [])) (f':=[]) ⟨rfl,World.ownsRow_nil _ _ _ _⟩ ⟨Touch.refl _ _,by simp⟩)).yS;have h4:BD T w w2 ([box b9 34 #[True],row 65 7 (.slice none 0 0) 0 (aM []),bS (([]:List ME).map ME.v)]++(x.knows (ais bv bx a cap ys)).ts):=h3.prm (by
  simp only[List.append_assoc];exact List.perm_append_comm)
 obtain⟨T',hF1,hF2⟩:=h4.aN;have HB:=hdq hF2;have hz1:BD T' w2 w2 (liR ys b9 0):=by
  have h5:=aiI (ys:=ys) (xs:=[]) (k:=0) (m:=[]) ⟨rfl,rfl,fun e he=>(List.not_mem_nil he).elim⟩ (by simpa using hF1);simpa using h5
 have hyn:∀y∈ys,y.v.nodes<=256:=ahX (HF.o.good.vals w1 (BB.o.still 2 rfl)) n hn s HP.o;have hyl:ys.length<=1048576:=by
  have h1:=aho HF.o.good n hn s;have h2:=congrArg List.length HP.o;simp only[List.length_map]at h2;omega
 have hA:∀W,Touch T' w2 W->JZ W bx a cap ys/\W.cell? ⟨bv,0,none⟩=some (.func (.func 307) #[] #[bx]):=fun W hW=>((by simpa using hF2 W [] (aif hW):BD T w W (x.knows (ais bv bx a cap ys)).ts).still 2 rfl).2;clear hw2 FK h2 h3 h4 hF1 hF2 hnil BB;refine aav (bv:=bv) (bx:=bx) (ra:=a) (rc:=cap) (ys:=ys) rfl rfl hyl hyn (liR ys b9) (fun _ _=>False) hA hz1 ?Y7 ?hdone ?hstop
 case hstop=>intro c W lx hx _;exact hx.elim
 case Y7=>
  intro k e W o0 E hE hk hxk h;obtain⟨t1,t2,t3,rfl⟩:∃t1 t2 t3,E=[t1,t2,t3]:=by
   rcases E with _|⟨t1,_|⟨t2,_|⟨t3,_|⟨_,_⟩⟩⟩⟩<;>first |exact⟨_,_,_,rfl⟩|(simp at hE)
  clear hE;generalize hD:w2.heap.size=D at h|-;have HK:=hdq h;have HX:=hdq hxk;have HKN:Hid (k<=1048576):=by unfold Hid;omega
  have HEN:Hid (e.v.nodes<=256):=by
   unfold Hid;rw[List.getElem?_map,List.getElem?_eq_getElem hk]at hxk;have h1:ys[k].plain=e.plain:=by simpa using hxk
   rw[qI h1];exact hyn _ (List.getElem_mem hk)
  clear h hD hxk hA hz1 hyn hyl hk;rw[bB];gi_wp2
  refine⟨_,HK.o.alloc _ _,fun W2 o h2=>?_⟩;generalize hbe:W.heap.size=be at h2|-;obtain⟨a3,c3,xs,hpx,h3⟩:=aib (by simpa only[List.append_assoc]using h2);clear hbe h2 HK;have HK2:=hdq h3;have HPX:=hdq hpx;simp only[marks,nAq,cAq]at HK2;clear h3 hpx;obtain⟨hx0,hx1,hx2,hx3,hx4,hx5,hx6,_,zx,_,_⟩:=HK2.o.c7 9 rfl;obtain⟨n0,fn,zn,_,_⟩:=HK2.o.c1 0 rfl;obtain⟨i0,hi,CY,CU,CX⟩:=info_parts nD;gi_wp2_with (gi_at_builtin;go_must (refine aeY _ rfl (.tmp 21) (.tmp 23) 34 rfl 65 i0 _ 7 72 underlying34 hi CY CU CX rfl (by decide) (.slice a3 k c3) k (aM xs) rfl ((HK2.o.alloc _ _).row 1 rfl) ⟨W2.heap.size,0,none⟩ 1 1 e.cells rfl rfl (World.news_of_block (heap_alloc_new W2 _)) (by have :=qf [e];simpa[aM]using this) (by omega) (by have :=HKN.o;simp only[maxLen];omega) (by have :=HKN.o;omega) ?_);intro gg cap5 w5 hown hgrow hat hlt5;refine Hid.o ?_)
  have Ca:=hdq ((HK2.o.DN rfl).grown 1 rfl hgrow hown (hat.imp (fun h=>h.symm) (fun h=>congrArg some h)));simp only[sZq,sSq,cAq,nAq]at Ca;have HO:=hdq hown;clear hgrow hat hown HK2 n0 fn zn hx0 hx1 hx2 hx3 hx4 hx5 hx6 zx;refine hdq ?_;obtain⟨n0,fn,zn,_,_⟩:=Ca.o.c1 0 rfl;gi_wp2
  have Db:=hdq (Ca.o.set 0 rfl 0 (.slice (some ⟨gg,0,none⟩) (k+1) cap5));simp only[sZq,sSq,sAq]at Db;have hj:=BD.ql (l:=[_,_,_,_,_,_,_]) (Db.o.sel [4,5,6,7,8,0,1,2,3] rfl (by decide));simp only[cAq,nAq]at hj;have hk9:BD T' w2 _ [_,_,_,_,_,_,_,_]:=hj.sel [5,6,7,0,1,2,3,4] rfl (by decide);obtain⟨p1,p2,p3⟩:=HPX.o;refine⟨[],?_⟩;have hz:=aiI (ys:=ys) (xs:=xs++[e]) (k:=k+1) (b9:=b9) (m:=[t1,t2,t3,mark D,fZ (D+1) o]) ⟨by simpa using p1,by rw[List.map_append,List.take_add_one,HX.o,p2];rfl,fun u hu=>(List.mem_append.1 hu).elim (p3 u) (fun h=>by rw[List.mem_singleton.1 h];exact HEN.o)⟩ (by simpa[aM]using hk9);simpa[marks]using hz
 case hdone=>
  intro W h;generalize hD:w2.heap.size=D at h|-;obtain⟨a3,c3,xs,⟨p1,p2,p3⟩,h3⟩:=aib h;have hlx:xs.length=ys.length:=p1;rw[<-hlx]at h3;have HP9:Hid (xs.map ME.plain=(SK x.BI[n] s).map ME.plain):=by
   unfold Hid;rw[p2,<-HP.o,List.take_of_length_le (by simp)]
  have HK:=hdq (HB.o _ _ h3);have HN:=hdq p3;simp only[Y0,nAq,cAq]at HK;clear h hD h3 p1 p2 p3 hlx hA hz1 hyn hyl;obtain⟨n0,fn,zn,_,_⟩:=HK.o.c1 0 rfl;gi_wp2
  have h7:=HK.o.shut 3 rfl;simp only[sSq,sZq]at h7;refine Y6 (v:= .tuple #[.slice a3 xs.length c3,true]) [D] _ (by simpa using HK.o.mark 3 rfl) (by simp) (by simp[results,results91,go_sem]) ?_;refine⟨a3,c3,xs,rfl,HP9.o,ait (r:=[_,_]) HN.o h7⟩
end
def aep:MB:=⟨13,0,MT.zero,none,0,[],none,0,[]⟩
def aeS(pk:Bool):MPl:=(0,[aep.plain],[],2,pk,false,0,MT.zero.plain,0)
structure W19(own:Int->pE)(b:Nat)(x:WS)(ms:List MS)(es:List PE)(pk:Bool):Prop where
 fair:x.Fair ms
 inv:o5 own false 0 0 0 b x ms
 co:x.cos.length=1
 es:∀h:0<x.cos.length,x.cos[0].es.map ME.plain=es
 sy:ms.map MS.plain=[aeS pk]
section
variable {own:Int->pE} {b:Nat} {x x':WS} {ms:List MS} {es:List PE} {pk:Bool}
theorem agt{wb ga:Nat}{P R:World->Prop}{x1:WS}{v er v2 er2:Int}(hP:∀W,P W->bJ W)(h1:jE (WS.empty wb ga 9 P) v er x1)(h2:abr (x1.knows R) 0 [aep] [] v2 er2 x'):(∃own ms,W19 own 0 x' ms [] false)/\x'.wb=wb/\∀W,x'.P W->P W:=by
 have hF0:(WS.empty wb ga 9 P).Fair []:=⟨⟨hP,fun W _=>⟨fun c hc=>(List.not_mem_nil hc).elim,fun c hc=>(List.not_mem_nil hc).elim⟩,rfl,fun W _ m hm=>(List.not_mem_nil hm).elim,fun n hn=>(Nat.not_lt_zero _ hn).elim,fun n hn=>(Nat.not_lt_zero _ hn).elim,Nat.zero_le _,Nat.zero_le _,Nat.zero_le _⟩,rfl,(show(0:Nat)<=9 by omega),(by show(9:Nat)<=65536;omega)⟩;have hI0:o5 (fun _=> .ch 0) false 0 0 0 0 (WS.empty wb ga 9 P) []:=⟨rfl,fun n hn=>(Nat.not_lt_zero _ hn).elim,fun n hn=>(Nat.not_lt_zero _ hn).elim,fun n hn=>(Nat.not_lt_zero _ hn).elim,fun n hn=>(Nat.not_lt_zero _ hn).elim,fun n hn=>(Nat.not_lt_zero _ hn).elim,fun n hn=>(Nat.not_lt_zero _ hn).elim,fun n hn=>(Nat.not_lt_zero _ hn).elim,fun n hn=>(Nat.not_lt_zero _ hn).elim,fun _ n hn=>(Nat.not_lt_zero _ hn).elim,fun n hn=>(Nat.not_lt_zero _ hn).elim,fun n hn=>(Nat.not_lt_zero _ hn).elim,Nat.zero_le _⟩;obtain⟨own1,hI1⟩:=afQ hI0 h1;have hF1:=(bq.knew (a:=adZ) R (mF (a:=adZ) hF0 h1).fair).fair;replace hI1:=hI1.know (fun W=>x1.P W/\R W)
 rcases h1 with ⟨_,_,_,c,q,aa,cap,hx1⟩|⟨hn,_⟩
 .obtain⟨x2,hx2⟩:∃x2,x1.knows R=x2:=⟨_,rfl⟩
  have hs1:x2.s=⟨[0,0],9,[]⟩:=by rw[<-hx2,hx1];rfl
  have hc1:x2.cos.length=1:=by rw[<-hx2,hx1];rfl
  have he1:∀h:0<x2.cos.length,x2.cos[0].es=[]:=by rw[<-hx2,hx1];intro h;rfl
  have hw1:x2.wb=wb:=by rw[<-hx2,hx1];rfl
  have hP1:∀W,x2.P W->P W:=by rw[<-hx2,hx1];exact fun W hW=>hW.1
  replace hI1:o5 own1 false 0 0 0 0 x2 []:=hx2▸hI1
  replace hF1:x2.Fair []:=hx2▸hF1
  rw[hx2]at h2;clear hx1 hx2;have hok:ou x2 0 [aep] []:=⟨by omega,⟨fun t h=>(Nat.not_lt_zero _ h).elim,fun s t hs=>(Nat.not_lt_zero _ hs).elim⟩,by decide,fun b hb=>by
   obtain rfl:=List.mem_singleton.1 hb;rw[hc1];exact⟨.inr (.inr (.inr (.inr ⟨rfl,⟨by decide,by decide⟩,rfl,rfl,rfl⟩))),(show(0:Nat)<=32 by omega),(show(0:Nat)<=32 by omega),fun m hm=>(List.not_mem_nil hm).elim,fun k hk=>(List.not_mem_nil hk).elim⟩⟩
  rcases h2 with ⟨hn,_⟩|⟨_,hn,_⟩|⟨_,h8,_,_,s',a,cc,hpl,rfl⟩
  .exact absurd hok hn
  .rw[hs1]at hn;exact absurd (by decide) hn
  .have hF2:=(UW (a:=adZ) hF1 s' a cc h8).fair
   have e:(x2.s.au 1).1=x2.s.more 1:=aeI (k:=1) h8;have hfl:s'.flag=(x2.s.C.length:Int):=congrArg (fun z=>z.2.2.2.1) hpl;have hdn:s'.done=false:=congrArg (fun z=>z.2.2.2.2.2.1) hpl;have hI2:=(hI1.grow 1 fun _=> .fl 0).uY s' (by rw[hfl];exact adQ.new (by simpa using afa x2.s 1 0 (by omega)) rfl) (by rw[hfl];exact ae0 (Int.le_refl _)) hdn (fun W=>s'.In W) a cc;rw[e];rw[e]at hF2;refine⟨⟨_,[]++[s'],hF2,hI2,hc1,fun _=>show List.map ME.plain (x2.cos[0]'(by rw[hc1];decide)).es=[] from by rw[he1];rfl,?_⟩,hw1,fun W hW=>hP1 W hW.1⟩;show[s'.plain]=_
   rw[hpl,hs1];rfl
 .exact absurd (by show(0:Nat)+2<=9;omega) hn
theorem W19.one(h:W19 own b x ms es pk):∃m,ms=[m]/\m.plain=aeS pk:=by
 have hs:=h.sy;have hl:ms.length=1:=by have :=congrArg List.length hs;simpa using this
 match ms,hl,hs with
 |[m],_,hs=>exact⟨m,rfl,by simpa using hs⟩
theorem agA{v:dP}{er:Int}(h:W19 own b x ms es pk)(hx:jo x ms 0 0 v er x'):er=0/\∃u:MT,v.val=(⟨0,0,0,2,u⟩:ME).val/\u.plain= .mk 0 0 []/\W19 own b x' ms es pk/\(∀W,x'.P W->u.In W)/\x'.wb=x.wb/\∀W,x'.P W->x.P W:=by
 obtain⟨m,rfl,hm⟩:=h.one;have pb:m.bases.map MB.plain=[aep.plain]:=congrArg (fun p=>p.2.1) hm;have pl:m.bases.length=1:=by have :=congrArg List.length pb;simpa using this
 have pt:m.thread=0:=congrArg (fun p=>p.1) hm;have pf:m.flag=2:=congrArg (fun p=>p.2.2.2.1) hm;rcases hx with ⟨hn,_⟩|⟨n,hn,hn0,⟨hno,_⟩|⟨j,hj,v',hj0,rfl,hv',rfl,rfl⟩⟩
 .exact absurd ⟨by omega,(show(0:Int)<((1:Nat):Int) by omega)⟩ hn
 .obtain rfl:n=0:=by omega
  refine absurd ⟨by omega,?_⟩ hno;show(0:Int)<(m.bases.length:Int)
  rw[pl];decide
 .obtain rfl:n=0:=by omega
  obtain rfl:j=0:=by omega
  have hvz:v'.plain= .mk 0 0 []:=by
   rw[hv'];have h4:(m.bases.map MB.plain)[0]? =some aep.plain:=by rw[pb];rfl
   rw[List.getElem?_map]at h4;have h5:m.bases[0]? =some m.bases[0]:=List.getElem?_eq_getElem hj;rw[h5]at h4;exact congrArg (fun p=>p.2.2.1) (Option.some.inj h4)
  refine⟨rfl,v',?_,hvz,⟨(bq.knew (a:=adZ) _ h.fair).fair,h.inv.know _,h.co,h.es,h.sy⟩,fun W hW=>hW.2.1,rfl,fun W hW=>hW.1⟩;show dP.val (dP.of 0 m 0 v')=_
  simp only[dP.val,dP.of,ME.val,pt,pf]
def afy:PE:=⟨0,0,0,2,.mk 0 0 []⟩
theorem ahc{er:Int}{e:ME}(h:W19 own b x ms [] pk)(he:e.plain=afy)(hx:nu x 0 e er x'):W19 own (b+1) x' ms [afy] pk/\x'.wb=x.wb/\∀W,x'.P W->x.P W:=by
 have hf:=(yt (a:=adZ) h.fair hx).fair;obtain⟨m,rfl,hm⟩:=h.one;have pb:m.bases.map MB.plain=[aep.plain]:=congrArg (fun p=>p.2.1) hm;have pl:m.bases.length=1:=by have :=congrArg List.length pb;simpa using this
 have hi:=afD h.inv hx ⟨0,by simp,congrArg PE.sync he,by have :=congrArg PE.branch he;rw[show e.branch=e.plain.branch from rfl,this];decide,by have :=congrArg PE.branch he;rw[show e.branch=e.plain.branch from rfl,this];show(0:Int)<(m.bases.length:Int);rw[pl];decide⟩;have hco:=h.co;rcases hx with ⟨hn,_⟩|⟨n,hn,kk,ys,hn0,hys,hr,rfl⟩
 .exact absurd ⟨by omega,by rw[hco];decide⟩ hn
 .obtain rfl:n=0:=by omega
  have hes:=h.es hn;have hl0:x.cos[0].es=[]:=by simpa using hes
  have hok:e.plain.Ok:=by rw[he];exact⟨by decide,by decide,by decide,by decide,.inl rfl⟩
  have hk:kk=1:=by
   rcases hr.2.2.2 with ⟨h5,h6⟩|⟨h5,⟨_,h6⟩|⟨_,_,h6⟩⟩
   .exact h6
   .have :kk=0:=by simpa using h5
    subst this;exact absurd hok h6
   .have h7:kk<1:=h5
    rw[hl0]at h6;simp at h6;omega
  subst hk;refine⟨⟨hf,hi,by simpa[WS.jM]using hco,fun h'=>?_,h.sy⟩,rfl,fun W hW=>hW.1⟩;simp only[WS.jM,List.getElem_set_self,hl0,nAq];rw[hys,he];rfl
theorem ahx{v:Bool}{er:Int}(h:W19 own b x ms es pk)(hx:jk x 0 v er x'):v=true/\er=0/\(∃ms',W19 own (b+1) x' ms' es true)/\x'.wb=x.wb/\∀W,x'.P W->x.P W:=by
 obtain⟨m,rfl,hm⟩:=h.one;have hd:m.done=false:=congrArg (fun p=>p.2.2.2.2.2.1) hm;have hl:x.sys.length=1:=by rw[h.inv.sys];rfl
 rcases hx with ⟨hno,_⟩|⟨n,hn,p,hn0,rfl,hx⟩
 .exact absurd ⟨by omega,by rw[hl];decide⟩ hno
 .obtain rfl:n=0:=by omega
  obtain⟨hmn,ef,hr⟩:=h.inv.flag 0 hn;have h0:x.s.val m.flag=0:=by
   have h1:=h.inv.f2 0 hmn;have h2:=h.inv.fc rfl 0 hmn;have h3:=h.inv.fd 0 hmn;simp only[List.getElem_cons_zero]at h1 h2 h3;rw[hd]at h3;have h4:x.s.val m.flag≠2:=fun e=>by have :=h3.2 e;cases this
   omega
  have ef':x.sys[0].flag=m.flag:=ef;rw[ef']at hx hr;obtain⟨d1,d2,d3,d4⟩:=adv x.s 1 m.flag j6 hr;have hz:fT x.s m.flag=(0,0,(x.s.iw 1 m.flag j6).1):=by
   simp[fT,Ar.load,d2,d4,bE,h0]
  rw[hz]at hx;have ht:abN x.s (x.s.iw 1 m.flag j6).1 m.flag (x.s.val m.flag):=by simpa[j6]using d1
  have hi:=h.inv.tnF 0 hmn rfl ht ⟨by rw[h0];omega,Iff.rfl,fun _=>by rw[h0];omega⟩ (Nat.le_refl _);have hF:=(bq.ar h.fair (eO x.s 1 m.flag j6) aeF).fair;rcases hx with ⟨hno,_⟩|⟨_,rfl,rfl,rfl⟩
  .exact absurd rfl hno
  .obtain⟨_,e1⟩:=yx h.inv.sys 0 hn
   have e2:({x.sys[0]with parked:=(((0:Nat):Int) != 2)}:bL)=MS.raw {m with parked:=true}:=by rw[e1];rfl
   rw[e2];refine⟨rfl,rfl,⟨[m].set 0 {m with parked:=true},aem hF 0 hmn _ (fun W hW=>by have hcc:=hF.good.cont W hW _ (List.getElem_mem hmn);exact hcc),hi.eP 0 hmn _ rfl rfl rfl,h.co,h.es,?_⟩,rfl,fun W hW=>hW⟩;show[MS.plain {m with parked:=true}]=[aeS true]
   simp only[MS.plain,aeS,Prod.mk.injEq]at hm;obtain⟨q1,q2,q3,q4,q5,q6,q7,q8,q9⟩:=hm;simp only[MS.plain,aeS,q1,q2,q3,q4,q6,q7,q8,q9]
end
theorem agx{x:WS}{r:RW}{L:PL}(h:adR x.P r)(hfa:r.s.C.length<=r.s.most/\r.s.most<=65536):Does 43 #[r.v.val] (x.ts++[r.th L]) (RI x L fun en r' Q=>∃v err,en= .returned (.tuple #[r'.v.val,.int .i64 v,.int .i64 err])/\Ym r v err r' x.P Q):=by
 by_cases hs:r.s.C.length+1<=r.s.most
 .refine RS _ fun T w hL=>?_
  refine(Yt T w r.v r.s x.P (r.BI.flatMap Rb.cells) hL h.fits.m (fun W hW=>(h.on W hW).h) h.fits.hc (Sj _ V3 _) (by rw[h.fits.h];exact h.l1) hs).mono ?_;rintro e w' ⟨v',L',Qy,rfl,hmm,hL'⟩;exact⟨{r with v:=v',s:=(r.s.au 1).1,BI:=r.BI++[Rb.new r.s.C.length]},L',(fun W=>x.P W/\aG W v'.ha 3 (r.v.hn+1) (r.BI.flatMap Rb.cells++[Value.int .i64 (r.s.C.length:Int),Value.slice none 0 0,Value.slice none 0 0])),Qy,⟨_,0,rfl,.inl ⟨hs,by rw[h.fits.h],rfl,v',hmm,rfl,fun W hW=>⟨hW.1,by rw[List.flatMap_append];exact hW.2⟩⟩⟩,fun W hW=>hW.1,hL'⟩
 .refine TV fun _=>fun T w hL=>?_
  have hen:=Qp (v:=r.v) (L:=L) (s:=r.s) (r:=[]) ((hL.sel [(x.ts).length] (by simp[RW.th]) (by simp)));have hm:=h.fits.m;have hms:=hfa.2;exact Qa (R:=fun en r' Q=>∃v err,en= .returned (.tuple #[r'.v.val,.int .i64 v,.int .i64 err])/\Ym r v err r' x.P Q) (fun w=>Wx r.v w (by omega) (by have :=hfa.1;omega) (by omega)) ⟨0,6,rfl,.inr ⟨hs,rfl,rfl,rfl,rfl⟩⟩ T w hL
theorem agD{x:WS}{r:RW}{L:PL}(h:adR x.P r)(hfa:r.s.C.length<=r.s.most/\r.s.most<=65536):Does 44 #[r.v.val] (x.ts++[r.th L]) (RI x L fun en r' Q=>∃v err,en= .returned (.tuple #[r'.v.val,.int .i64 v,.int .i64 err])/\X7 r v err r' x.P Q):=by
 by_cases hs:r.s.C.length+2<=r.s.most
 .refine RS _ fun T w hL=>?_
  refine(YB T w r.v r.s x.P (r.cos.flatMap RH.cells) hL h.fits.m (fun W hW=>(h.on W hW).o) h.fits.oc (Sj _ VY _) (by rw[h.fits.o];exact h.l2) hs).mono ?_;rintro e w' ⟨v',L',Qy,rfl,hmm,hL'⟩;exact⟨{r with v:=v',s:=(r.s.au 2).1,cos:=r.cos++[RH.new r.s.C.length]},L',(fun W=>x.P W/\aG W v'.oa 2 (r.v.on+1) (r.cos.flatMap RH.cells++[Value.int .i64 (r.s.C.length:Int),Value.slice none 0 0])),Qy,⟨_,0,rfl,.inl ⟨hs,by rw[h.fits.o],rfl,v',hmm,rfl,fun W hW=>⟨hW.1,by rw[List.flatMap_append];exact hW.2⟩⟩⟩,fun W hW=>hW.1,hL'⟩
 .refine TV fun _=>fun T w hL=>?_
  have hen:=Qp (v:=r.v) (L:=L) (s:=r.s) (r:=[]) ((hL.sel [(x.ts).length] (by simp[RW.th]) (by simp)));have hm:=h.fits.m;have hms:=hfa.2;exact Qa (R:=fun en r' Q=>∃v err,en= .returned (.tuple #[r'.v.val,.int .i64 v,.int .i64 err])/\X7 r v err r' x.P Q) (fun w=>AB r.v w (by omega) (by have :=hfa.1;omega) (by omega)) ⟨0,6,rfl,.inr ⟨hs,rfl,rfl,rfl,rfl⟩⟩ T w hL
theorem af2{x:WS}{r:RW}{L:PL}(h:adR x.P r)(hfa:r.s.C.length<=r.s.most/\r.s.most<=65536)(hsn:r.sys.length<=100000)(th:Int)(ba:Option Addr)(bases:List MB)(bc:Nat)(ca:Option Addr)(conds:List Int)(cc:Nat)(hA:∀W,x.P W->iJ W ba bases ca conds)(hbig:∀b∈bases,b.Big):Does 45 #[r.v.val,th,.slice ba bases.length bc,.slice ca conds.length cc] (x.ts++[r.th L]) (RI x L fun en r' Q=>∃v err,en= .returned (.tuple #[r'.v.val,.int .i64 v,.int .i64 err])/\XD r th ba bases bc ca conds cc v err r' x.P Q):=by
 by_cases hok:nM r.v.hn r.v.on th bases conds
 .by_cases hs:r.s.C.length+1<=r.s.most
  .refine RS _ fun T w hL=>?_
   refine(Xx T w r.v r.s x.P (r.sys.flatMap MS.cells) th ba bases bc ca conds cc hL h.fits.m (fun W hW=>(h.on W hW).n) h.fits.nc (Sj _ Xc _) (by rw[h.fits.n];exact hsn) hs hA hbig hok).mono ?_;rintro e w' ⟨v',L',Qy,rfl,hmm,hL'⟩;exact⟨{r with v:=v',s:=(r.s.au 1).1,sys:=r.sys++[MS.new th ba bases bc ca conds cc r.s.C.length]},L',(fun W=>x.P W/\aG W v'.sa 11 (r.v.sn+1) (r.sys.flatMap MS.cells++[Value.int .i64 th,Value.slice ba bases.length bc,Value.slice ca conds.length cc,Value.int .i64 (r.s.C.length:Int),Value.bool false,Value.bool false,Value.int .i64 0,Value.int .i64 0,Value.int .i64 0,Value.slice none 0 0,Value.int .i64 0])),Qy,⟨_,0,rfl,.inr (.inr ⟨hok,hs,by rw[h.fits.n],rfl,v',hmm,rfl,fun W hW=>⟨hW.1,by rw[List.flatMap_append];exact hW.2⟩⟩)⟩,fun W hW=>hW.1,hL'⟩
  .refine TV fun _=>fun T w hL=>?_
   have hen:=Qp (v:=r.v) (L:=L) (s:=r.s) (r:=[]) ((hL.sel [(x.ts).length] (by simp[RW.th]) (by simp)));have hm:=h.fits.m;have hms:=hfa.2;have hf:=hfa.1;refine Qm (R:=fun en r' Q=>∃v err,en= .returned (.tuple #[r'.v.val,.int .i64 v,.int .i64 err])/\XD r th ba bases bc ca conds cc v err r' x.P Q) (fun T w hL=>?_) T w hL;refine(VJ r.v w th ba bases bc ca conds cc (hA w (hL.still 0 rfl)) hbig hok (by omega) (by omega) (by omega)).mono ?_;rintro e w' ⟨rfl,ht⟩;exact⟨r,x.P,⟨⟨0,6,rfl,.inr (.inl ⟨hok,hs,rfl,rfl,rfl,rfl⟩)⟩,rfl,fun _ h=>h⟩,hL.touch ht⟩
 .refine Qm fun T w hL=>?_
  refine(Aq r.v w th ba bases bc ca conds cc (hA w (hL.still 0 rfl)) hbig hok).mono ?_;rintro e w' ⟨rfl,ht⟩;exact⟨r,x.P,⟨⟨0,2,rfl,.inl ⟨hok,rfl,rfl,rfl,rfl⟩⟩,rfl,fun _ h=>h⟩,hL.touch ht⟩
section
variable {own:Int->pE} {cl:Bool} {cd:Int} {la lf b:Nat} {x x':WS} {ms:List MS} {r r':RW} {Q:World->Prop}
theorem chan19{v er v2 err:Int}(h:Scn own cl cd la lf b x ms r)(hx:jG x v er x')(hQ:∀W,Q W->x'.P W)(hr:Ym r v2 err r' x'.P Q):∃own',Scn own' cl cd la lf b {x' with P:=Q} ms r':=by
 have hP:x'.P=x.P:=by rcases hx with ⟨_,_,_,_,_,_,_,_,_,rfl⟩|⟨_,_,_,rfl⟩<;>rfl
 have hx2:jG {x with P:=Q} v er {x' with P:=Q}:=by
  rcases hx with ⟨h1,h2,h3,c,M,q1,q2,a,cap,rfl⟩|⟨h1,h2,h3,rfl⟩
  .exact .inl ⟨h1,h2,h3,c,M,q1,q2,a,cap,rfl⟩
  .exact .inr ⟨h1,h2,h3,rfl⟩
 rw[hP]at hQ hr;obtain⟨own',hi⟩:=ahz h.inv hx;exact⟨own',(mJ (a:=adZ) h.fair hx).fair.fJ Q (by rw[hP];exact hQ),(Wu h.both h.fair hQ hr hx2).2.2,hi.know Q⟩
theorem cond19{v er v2 err:Int}(h:Scn own cl cd 0 0 b x ms r)(hx:jE x v er x')(hQ:∀W,Q W->x'.P W)(hr:X7 r v2 err r' x'.P Q):∃own',Scn own' cl cd 0 0 b {x' with P:=Q} ms r':=by
 have hP:x'.P=x.P:=by rcases hx with ⟨_,_,_,_,_,_,_,rfl⟩|⟨_,_,_,rfl⟩<;>rfl
 have hx2:jE {x with P:=Q} v er {x' with P:=Q}:=by
  rcases hx with ⟨h1,h2,h3,c,q,a,cap,rfl⟩|⟨h1,h2,h3,rfl⟩
  .exact .inl ⟨h1,h2,h3,c,q,a,cap,rfl⟩
  .exact .inr ⟨h1,h2,h3,rfl⟩
 rw[hP]at hQ hr;obtain⟨own',hi⟩:=afQ h.inv hx;exact⟨own',(mF (a:=adZ) h.fair hx).fair.fJ Q (by rw[hP];exact hQ),(WO h.both h.fair hQ hr hx2).2.2,hi.know Q⟩
theorem ahQ{th:Int}{ba ca:Option Addr}{bases:List MB}{bc cc:Nat}{conds:List Int}{v er v2 err:Int}(h:Scn own cl cd la lf b x ms r)(hA:∀W,x.P W->iJ W ba bases ca conds)(hx:abr x th bases conds v er x')(hQ:∀W,Q W->x'.P W)(hr:XD r th ba bases bc ca conds cc v2 err r' x'.P Q):er=err/\∃own' ms',Scn own' cl cd la lf b {x' with P:=Q} ms' r':=by
 have hb:=h.both;have hs:x.s=r.s:=hb.rel.s;have l1:=(PD hb.rel.h).1;have l2:=(PD hb.rel.o).1;have l3:=(PD hb.rel.n).1;have Fj:=h.fair.most;rw[hs]at Fj;have hok:ou x th bases conds↔nM r.v.hn r.v.on th bases conds:=by
  rw[hb.fits.h,hb.fits.o,<-l1,<-l2];exact Iff.rfl
 have hx0:=hx;unfold abr at hx;rw[hok]at hx;rcases hx with ⟨hno,rfl,rfl,rfl⟩|⟨hy,h1,rfl,rfl,rfl⟩|⟨hy,h1,rfl,rfl,s',aa,c,hpl,rfl⟩
 .rcases hr with ⟨_,rfl,rfl,rfl,rfl⟩|⟨hy,_⟩|⟨hy,_⟩
  .exact⟨rfl,own,ms,h.know hQ⟩
  .exact absurd hy hno
  .exact absurd hy hno
 .rcases hr with ⟨hno,_⟩|⟨_,_,rfl,rfl,rfl,rfl⟩|⟨_,h9,_⟩
  .exact absurd hy hno
  .exact⟨rfl,own,ms,h.know hQ⟩
  .rw[hs]at h1;exact absurd h9 h1
 .have h1':=h1
  rw[hs]at h1';rcases hr with ⟨hno,_⟩|⟨_,h9,_⟩|⟨_,_,rfl,rfl,v',hm,rfl,hon⟩
  .exact absurd hy hno
  .exact absurd h1' h9
  .have hA1:(r.s.au 1).1={r.s with C:=r.s.C++List.replicate 1 0}:=jO r.s 1 h1'
   obtain⟨m1,m2,m3,m4,m5,m6⟩:=made2 hm;have e:(x.s.au 1).1=x.s.more 1:=aeI (k:=1) h1;have hfl:s'.flag=(x.s.C.length:Int):=congrArg (fun z=>z.2.2.2.1) hpl;have hdn:s'.done=false:=congrArg (fun z=>z.2.2.2.2.2.1) hpl;have hi:=(h.inv.grow 1 fun _=> .fl ms.length).uY s' (by rw[hfl];exact adQ.new (by simpa using afa x.s 1 0 (by omega)) rfl) (by rw[hfl];exact ae0 (Int.le_refl _)) hdn (fun W=>s'.In W) aa c;refine⟨rfl,aeB own x.s.C.length fun _=> .fl ms.length,ms++[s'],(UW (a:=adZ) h.fair s' aa c h1).fair.fJ Q hQ,⟨⟨by show(x.s.au 1).1=(r.s.au 1).1;rw[hs],hb.rel.h,hb.rel.o,?_⟩,⟨?_,?_,?_,?_⟩,fun W hW=>?_,fun d hd=>?_,?_,fun n hn=>?_⟩,?_⟩
   .show(ms++[s']).map MS.plain=(r.sys++[_]).map MS.plain
    rw[List.map_append,List.map_append,hb.rel.n,List.map_singleton,hpl,hs];rfl
   .show v'.most=((r.s.au 1).1.most:Int)
    rw[m1,hA1];exact hb.fits.m
   .show v'.hn=_
    rw[m4];exact hb.fits.h
   .show v'.on=_
    rw[m6];exact hb.fits.o
   .show v'.sn=(r.sys++[_]).length
    rw[List.length_append,List.length_singleton,m2,hb.fits.n]
   .have hxP:x.P W:=(hQ W hW).1
    have hO:=hb.on W hxP;exact⟨by show aG W v'.ha 3 v'.hn _;rw[m3,m4];exact hO.h,by show aG W v'.oa 2 v'.on _;rw[m5,m6];exact hO.o,by show aG W v'.sa 11 v'.sn _;rw[m2];exact(hon W hW).2,hO.ch,hO.co,TU hO.sy (XA (x:=x) (bc:=bc) (cc:=cc) (hA W hxP) (hok.2 hy) _)⟩
   .show d.cell+1<(r.s.au 1).1.C.length
    rw[hA1];have :=hb.cc d hd;simp only[List.length_append,List.length_replicate];omega
   .show(r.s.au 1).1.C.length<=_
    rw[hA1];simp only[List.length_append,List.length_replicate];omega
   .have hn':n<(r.sys++[MS.new th ba bases bc ca conds cc r.s.C.length]).length:=hn
    rw[List.length_append,List.length_singleton]at hn';by_cases en:n<r.sys.length
    .obtain⟨q,hq⟩:=hb.fl n en
     have e9:(r.sys++[MS.new th ba bases bc ca conds cc r.s.C.length])[n]'hn=r.sys[n]:=List.getElem_append_left en;exact⟨q,hq.trans (congrArg MS.flag e9.symm)⟩
    .obtain rfl:n=r.sys.length:=by omega
     have e9:(r.sys++[MS.new th ba bases bc ca conds cc r.s.C.length])[r.sys.length]'hn=MS.new th ba bases bc ca conds cc r.s.C.length:=by rw[List.getElem_append_right (by omega)];simp
     exact⟨r.s.C.length,(congrArg MS.flag e9.symm)⟩
   .rw[e]
    exact hi.know Q
end
def rv0:RV:=⟨none,0,0,2000,none,0,0,none,0,0,none,0,0,none,0,0⟩
def rw0:RW:=⟨rv0,Ar.fresh 2000,[],[],[]⟩
theorem scn0{wb ga:Nat}{P:World->Prop}(hP:∀W,P W->bJ W)(cl:Bool)(cd:Int):Scn (fun _=> .ch 0) cl cd 0 0 0 (WS.empty wb ga 2000 P) [] rw0:=
 ⟨⟨⟨hP,fun W _=>⟨fun c hc=>(List.not_mem_nil hc).elim,fun c hc=>(List.not_mem_nil hc).elim⟩,rfl,fun W _ m hm=>(List.not_mem_nil hm).elim,fun n hn=>(Nat.not_lt_zero _ hn).elim,fun n hn=>(Nat.not_lt_zero _ hn).elim,Nat.zero_le _,Nat.zero_le _,Nat.zero_le _⟩,rfl,Nat.zero_le _,(by show(2000:Nat)<=65536;omega)⟩,
  ⟨⟨rfl,rfl,rfl,rfl⟩,⟨rfl,rfl,rfl,rfl⟩,fun W _=>⟨⟨Nat.zero_le _,fun i hi=>(Nat.not_lt_zero _ hi).elim⟩,⟨Nat.zero_le _,fun i hi=>(Nat.not_lt_zero _ hi).elim⟩,⟨Nat.zero_le _,fun i hi=>(Nat.not_lt_zero _ hi).elim⟩,fun c hc=>(List.not_mem_nil hc).elim,fun c hc=>(List.not_mem_nil hc).elim,fun c hc=>(List.not_mem_nil hc).elim⟩,fun c hc=>(List.not_mem_nil hc).elim,Nat.zero_le _,fun n hn=>(Nat.not_lt_zero _ hn).elim⟩,
  ⟨rfl,fun n hn=>(Nat.not_lt_zero _ hn).elim,fun n hn=>(Nat.not_lt_zero _ hn).elim,fun n hn=>(Nat.not_lt_zero _ hn).elim,fun n hn=>(Nat.not_lt_zero _ hn).elim,fun n hn=>(Nat.not_lt_zero _ hn).elim,fun n hn=>(Nat.not_lt_zero _ hn).elim,fun n hn=>(Nat.not_lt_zero _ hn).elim,fun n hn=>(Nat.not_lt_zero _ hn).elim,fun _ n hn=>(Nat.not_lt_zero _ hn).elim,fun n hn=>(Nat.not_lt_zero _ hn).elim,fun n hn=>(Nat.not_lt_zero _ hn).elim,Nat.zero_le _⟩⟩
theorem new19(P:World->Prop):aai prog 35 #[(2000:Int)] [[aA P]] (xq (fun _:Nat×Nat=>True) (fun p=> .tuple #[.pointer (some ⟨p.1,0,none⟩),()]) fun p=>[(WS.empty p.1 p.2 2000 P).ts]):=fun T w hl=>
 (OU T w P 2000 (by decide) (by decide) (by simpa using hl)).mono fun e w' ⟨wb,ga,he,hL⟩=>⟨[(WS.empty wb ga 2000 P).ts],rfl,⟨(wb,ga),trivial,he,rfl⟩,by simpa using hL⟩
theorem newR19:aai prog 41 #[(2000:Int)] [] (xq (fun _:Unit=>True) (fun _=> .tuple #[.agg #[True,(2000:Int),True,True,True,True],()]) fun _=>[]):=aam fun w=>Oo 2000 w (by decide) (by decide)
theorem ad9(e:Int):aai prog 12 #[e] [] (xq (fun _:Unit=>True) (fun _=> .int .i64 e) fun _=>[]):=by
 refine aai.go func12 ntmps12 ?_;refine go ?_;refine W.abg ?_;exact⟨(),trivial,rfl,rfl⟩
theorem ahE{T:List Nat}{w0 w:World}{wb ga:Nat}{P:World->Prop}{r:LG}(h:BD T w0 w ((WS.empty wb ga 2000 P).ts::r).flatten):BD T w0 w (((WS.empty wb ga 2000 P).ts++[rw0.th []])::r).flatten:=by
 have h2:=ZX h 2000 (by omega);have h3:BD T w0 w ((WS.empty wb ga 2000 P).ts++r.flatten++[rw0.th []]):=by simpa[rw0,RW.th,rv0,Ar.fresh]using h2
 simpa using h3.aB
theorem chanMG{x:WS}{t:List ai}(hS:∀W,x.P W->bJ W)(hn:x.BI.length<=1000000):aai prog 42 #[x.wb] [x.ts++t] (xq (fun y:Int×Int×WS=>jG x y.1 y.2.1 y.2.2) (fun y=> .tuple #[.int .i64 y.1,.int .i64 y.2.1]) fun y=>[y.2.2.ts++t]):=
 ad4 (mf:=fun y:Int×Int×WS=>y.2.2.ts) fun T w hl=>(IA T w x hl hS hn).mono fun e w' ⟨v,er,x',he,hx,hL⟩=>⟨(v,er,x'),he,hx,hL⟩
theorem condMG{x:WS}{t:List ai}(hn:x.cos.length<=1000000):aai prog 36 #[x.wb] [x.ts++t] (xq (fun y:Int×Int×WS=>jE x y.1 y.2.1 y.2.2) (fun y=> .tuple #[.int .i64 y.1,.int .i64 y.2.1]) fun y=>[y.2.2.ts++t]):=
 ad4 (mf:=fun y:Int×Int×WS=>y.2.2.ts) fun T w hl=>(Lc T w x hl hn).mono fun e w' ⟨v,er,x',he,hx,hL⟩=>⟨(v,er,x'),he,hx,hL⟩
theorem ahK{x:WS}{t:List ai}{th:Int}{ba:Option Addr}{bases:List MB}{bc:Nat}(ha:∀W,x.P W->iJ W ba bases none [])(hl3:x.sys.length<=100000):aai prog 37 #[x.wb,th,.slice ba bases.length bc,True] [x.ts++t] (xq (fun y:Int×Int×WS=>abr x th bases [] y.1 y.2.1 y.2.2) (fun y=> .tuple #[.int .i64 y.1,.int .i64 y.2.1]) fun y=>[y.2.2.ts++t]):=
 ad4 (mf:=fun y:Int×Int×WS=>y.2.2.ts) fun T w hl=>(uo T w x th ba bases bc none [] 0 hl ha hl3).mono fun e w' ⟨v,er,x',he,hx,hL⟩=>⟨(v,er,x'),he,hx,hL⟩
theorem chanMR{x:WS}{r:RW}{L:PL}(h:adR x.P r)(hfa:r.s.C.length<=r.s.most/\r.s.most<=65536):aai prog 43 #[r.v.val] [x.ts++[r.th L]] (xq (fun p:(Int×Int)×RW×PL×(World->Prop)=>(∀y∈L,y∈p.2.2.1)/\Ym r p.1.1 p.1.2 p.2.1 x.P p.2.2.2/\∀W,p.2.2.2 W->x.P W) (fun p=> .tuple #[p.2.1.v.val,.int .i64 p.1.1,.int .i64 p.1.2]) fun p=>[({x with P:=p.2.2.2}:WS).ts++[p.2.1.th p.2.2.1]]):=
 ac4 (α:=Int×Int) (H:=fun y r' Q=>Ym r y.1 y.2 r' x.P Q) (vf:=fun y v=> .tuple #[v.val,.int .i64 y.1,.int .i64 y.2]) (agx (L:=L) h hfa) fun e r' Q ⟨v,er,he,hr⟩=>⟨(v,er),hr,he⟩
theorem condMR{x:WS}{r:RW}{L:PL}(h:adR x.P r)(hfa:r.s.C.length<=r.s.most/\r.s.most<=65536):aai prog 44 #[r.v.val] [x.ts++[r.th L]] (xq (fun p:(Int×Int)×RW×PL×(World->Prop)=>(∀y∈L,y∈p.2.2.1)/\X7 r p.1.1 p.1.2 p.2.1 x.P p.2.2.2/\∀W,p.2.2.2 W->x.P W) (fun p=> .tuple #[p.2.1.v.val,.int .i64 p.1.1,.int .i64 p.1.2]) fun p=>[({x with P:=p.2.2.2}:WS).ts++[p.2.1.th p.2.2.1]]):=
 ac4 (α:=Int×Int) (H:=fun y r' Q=>X7 r y.1 y.2 r' x.P Q) (vf:=fun y v=> .tuple #[v.val,.int .i64 y.1,.int .i64 y.2]) (agD (L:=L) h hfa) fun e r' Q ⟨v,er,he,hr⟩=>⟨(v,er),hr,he⟩
theorem ahN{x:WS}{r:RW}{L:PL}(h:adR x.P r)(hfa:r.s.C.length<=r.s.most/\r.s.most<=65536)(hsn:r.sys.length<=100000)(th:Int)(ba:Option Addr)(bases:List MB)(bc:Nat)(hA:∀W,x.P W->iJ W ba bases none [])(hbig:∀b∈bases,b.Big):aai prog 45 #[r.v.val,th,.slice ba bases.length bc,True] [x.ts++[r.th L]] (xq (fun p:(Int×Int)×RW×PL×(World->Prop)=>(∀y∈L,y∈p.2.2.1)/\XD r th ba bases bc none [] 0 p.1.1 p.1.2 p.2.1 x.P p.2.2.2/\∀W,p.2.2.2 W->x.P W) (fun p=> .tuple #[p.2.1.v.val,.int .i64 p.1.1,.int .i64 p.1.2]) fun p=>[({x with P:=p.2.2.2}:WS).ts++[p.2.1.th p.2.2.1]]):=
 ac4 (α:=Int×Int) (H:=fun y r' Q=>XD r th ba bases bc none [] 0 y.1 y.2 r' x.P Q) (vf:=fun y v=> .tuple #[v.val,.int .i64 y.1,.int .i64 y.2]) (af2 (L:=L) h hfa hsn th ba bases bc none [] 0 hA hbig) fun e r' Q ⟨v,er,he,hr⟩=>⟨(v,er),hr,he⟩
structure aeu(P:World->Prop)(wb:Nat)(cl:Bool)(cd:Int)(own:Int->pE)(x:WS)(ms:List MS)(r:RW)(n1 n2 n3:Nat):Prop where
 scn:Scn own cl cd 0 0 0 x ms r
 wb:x.wb=wb
 P:∀W,x.P W->P W
 most:x.s.most=2000
 l1:x.BI.length=n1
 l2:x.cos.length=n2
 l3:x.sys.length=n3
section
variable {P:World->Prop} {wb:Nat} {cl:Bool} {cd:Int} {own:Int->pE} {x x':WS} {ms:List MS} {r r':RW} {n1 n2 n3:Nat} {Q:World->Prop}
theorem aeu.size(h:aeu P wb cl cd own x ms r n1 n2 n3):x.s.C.length=n1+2*n2+n3:=by
 have :=h.scn.fair.Hr;rw[h.l1,h.l2,h.l3]at this;exact this
theorem aeu.ok(h:aeu P wb cl cd own x ms r n1 n2 n3)(hx:∀W,x'.P W->x.P W):adR x'.P r/\r.s.C.length<=r.s.most/\r.s.most<=65536/\r.sys.length=n3:=by
 have hb:=h.scn.both;have hs:x.s=r.s:=hb.rel.s;have l3:=(PD hb.rel.n).1;have hl:=congrArg List.length h.scn.inv.sys;rw[List.length_map]at hl;refine⟨(hb.ok h.scn.fair).mono hx,?_,?_,?_⟩
 .rw[<-hs];exact h.scn.fair.fits
 .rw[<-hs];exact h.scn.fair.most
 .rw[<-l3,<-hl];exact h.l3
theorem aeu.chan{v er v2 err:Int}(h:aeu P wb cl cd own x ms r n1 n2 n3)(hn:n1+2*n2+n3<=1000)(hx:jG x v er x')(hQ:∀W,Q W->x'.P W)(hr:Ym r v2 err r' x'.P Q):∃own',aeu P wb cl cd own' {x' with P:=Q} ms r' (n1+1) n2 n3:=by
 obtain⟨own',hs⟩:=chan19 h.scn hx hQ hr;have hz:=h.size;rcases hx with ⟨h1,_,_,c,M,q1,q2,a,cap,rfl⟩|⟨h1,_⟩
 .refine⟨own',hs,h.wb,fun W hW=>h.P W (hQ W hW),?_,?_,h.l2,h.l3⟩
  .show(x.s.au ((1:Nat):Int)).1.most=_
   rw[jO x.s 1 h1];exact h.most
  .show(x.BI++[_]).length=_
   rw[List.length_append,h.l1];rfl
 .rw[h.most]at h1;omega
theorem aeu.cond{v er v2 err:Int}(h:aeu P wb cl cd own x ms r n1 n2 n3)(hn:n1+2*n2+n3<=1000)(hx:jE x v er x')(hQ:∀W,Q W->x'.P W)(hr:X7 r v2 err r' x'.P Q):∃own',aeu P wb cl cd own' {x' with P:=Q} ms r' n1 (n2+1) n3:=by
 obtain⟨own',hs⟩:=cond19 h.scn hx hQ hr;have hz:=h.size;rcases hx with ⟨h1,_,_,c,q,a,cap,rfl⟩|⟨h1,_⟩
 .refine⟨own',hs,h.wb,fun W hW=>h.P W (hQ W hW),?_,h.l1,?_,h.l3⟩
  .show(x.s.au ((2:Nat):Int)).1.most=_
   rw[jO x.s 2 h1];exact h.most
  .show(x.cos++[_]).length=_
   rw[List.length_append,h.l2];rfl
 .rw[h.most]at h1;omega
theorem aeu.begin{th:Int}{ba:Option Addr}{bases:List MB}{bc:Nat}{v er v2 err:Int}(h:aeu P wb cl cd own x ms r n1 n2 n3)(hA:∀W,x.P W->iJ W ba bases none [])(hx:abr x th bases [] v er x')(hQ:∀W,Q W->x'.P W)(hr:XD r th ba bases bc none [] 0 v2 err r' x'.P Q):er=err/\∃own' ms' m,m<=n3+1/\aeu P wb cl cd own' {x' with P:=Q} ms' r' n1 n2 m:=by
 obtain⟨he,own',ms',hs⟩:=ahQ h.scn hA hx hQ hr;refine⟨he,own',ms',?_⟩;rcases hx with ⟨_,_,_,rfl⟩|⟨_,_,_,_,rfl⟩|⟨_,h1,_,_,s',a,c,_,rfl⟩
 .exact⟨n3,by omega,hs,h.wb,fun W hW=>h.P W (hQ W hW),h.most,h.l1,h.l2,h.l3⟩
 .exact⟨n3,by omega,hs,h.wb,fun W hW=>h.P W (hQ W hW),h.most,h.l1,h.l2,h.l3⟩
 .refine⟨n3+1,by omega,hs,h.wb,fun W hW=>h.P W (hQ W hW).1,?_,h.l1,h.l2,?_⟩
  .show(x.s.au ((1:Nat):Int)).1.most=_
   rw[jO x.s 1 h1];exact h.most
  .show(x.sys++[_]).length=_
   rw[List.length_append,h.l3];rfl
theorem mk_new{wb ga:Nat}(hP:∀W,P W->bJ W):aeu P wb cl cd (fun _=> .ch 0) (WS.empty wb ga 2000 P) [] rw0 0 0 0:=⟨scn0 hP cl cd,rfl,fun _ h=>h,rfl,rfl,rfl,rfl⟩
end
theorem abt(i:Nat)(h:i<1000000):Value.int .i64 (IntKind.i64.wrap ((i:Int)+1))=Value.int .i64 ((i+1:Nat):Int):=by rw[IntWalk.i64_in _ (by omega)];rfl
theorem KN{M:LG}{T:List Nat}{w0 w:World}(rs:List Nat)(h:BD T w0 w M.flatten)(hn:rs.Nodup:=by decide):BD T w0 w (gets M rs):=(h.prm (abq rs M hn)).less
end Go.Proofs.YtegejdlglonflaaGreatDoor
