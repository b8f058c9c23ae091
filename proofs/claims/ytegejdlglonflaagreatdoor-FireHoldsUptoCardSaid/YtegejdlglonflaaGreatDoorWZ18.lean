/-
  Texts of FireHolds, laid together by program.
-/
import Derived.Test.YtegejdlglonflaaGreatDoorWZ13
import Derived.Test.YtegejdlglonflaaGreatDoorWZ17
import Derived.Deep.CutRange
namespace Go.Proofs.YtegejdlglonflaaGreatDoor
open Go.RowKit Go.Shelf Go.Proofs.Tryz
set_option maxRecDepth 100000
set_option maxHeartbeats 8000000
set_option linter.unusedVariables false
set_option linter.unusedSimpArgs false
section
attribute [local go_sem] Oper.semAt_some
theorem JZ.touch{w w':World}{bx:Nat}{a:Option Addr}{cap:Nat}{ys:List ME}(h:JZ w bx a cap ys)(ht:Touch [] w w'):JZ w' bx a cap ys:=
 ⟨Cg.touch h.1 ht (by simp),h.2.1.touch ht,fun y hy=>(h.2.2 y hy).aO ht⟩
theorem qI{x y:ME}(h:y.plain=x.plain):x.v.nodes=y.v.nodes:=by
 rw[<-MT.cu x.v,<-MT.cu y.v,show x.v.plain=x.plain.v from rfl,<-h];rfl
end
theorem Cg.src{w:World}{g:Nat}{t:TypeId}{cs:Array Value}(h:Cg w g t cs):∀j u,cs.toList[j]? =some u->w.cell? ((⟨g,0,none⟩:Addr).add j)=some u:=by
 intro j u hu;rw[Addr.add_lit,Nat.zero_add,h.cell j];simpa using hu
theorem Vb(a:Option Addr)(n c:Nat)(w:World):(Instr.build 36 #[(0,.slice a n c)]).run prog w= .ok (.agg #[.slice a n c]) w:=run_build w 36 _ _ (by kernel_rfl)
theorem V9{w:World}{e size n cap:Nat}{a:Option Addr}{xs:List Value}(h:dZ w e size (.slice a n cap) n xs):n<=cap:=by
 obtain⟨a',c',hv,h1,_⟩:=mP h;injection hv with _ _ h3
 omega
theorem cells_one(x:ME):∀u∈x.cells,u.oneCell'=true:=by have :=qf [x];simpa[aM]using this
def TD(T:List Nat)(w:World)(P:World->Prop)(a:Option Addr)(rs:List ME)(w':World):Prop:=∃P':World->Prop,(∀W,P' W->P W/\fo W a rs)/\BD T w w' [aA P']
theorem TD.same{T:List Nat}{w w':World}{P:World->Prop}{a:Option Addr}{rs:List ME}{rest:List ai}(h:BD T w w' (aA P::rest))(hP:∀W,P W->fo W a rs):TD T w P a rs w':=⟨P,fun W hW=>⟨hW,hP W hW⟩,BD.aF (l:=[aA P]) (m:=rest) h⟩
theorem TD.made{T:List Nat}{w w':World}{P:World->Prop}{a:Option Addr}{cap n:Nat}{rs:List ME}(hn:rs.length=n)(h:BD T w w' [aA P,aS 65 7 (.slice a n cap) n (aM rs)]):TD T w P a rs w':=by
 subst hn;exact⟨fun W=>P W/\fo W a rs,fun W hW=>hW,BD.settle (l:=[aA P]) h 0 rfl (fun W f hW hf=>⟨hW,iL hf.2⟩)⟩
def YK(T:List Nat)(w:World)(P:World->Prop)(rs:List ME)(x:ME)(e:Ending)(w':World):Prop:=
 ∃(err:Int) (a':Option Addr) (cap':Nat) (rs':List ME),e= .returned (.tuple #[.agg #[.slice a' rs'.length cap'],err])/\rs'.length<=cap'/\((err=2/\¬x.plain.Ok/\rs'=rs)\/(err=6/\x.plain.Ok/\rs.length=4096/\rs'=rs)\/(err=0/\x.plain.Ok/\rs.length<4096/\rs'=rs++[x]))/\TD T w P a' rs' w'
theorem XI(T:List Nat)(w:World)(P:World->Prop)(a:Option Addr)(cap:Nat)(rs:List ME)(x:ME)(hcap:rs.length<=cap)(h:BD T w w [aA P])(hP:∀W,P W->fo W a rs/\x.v.In W)(hnx:x.v.nodes<=1048576)(hlen:rs.length<=4096):
  Calls prog 288 #[.agg #[.slice a rs.length cap],x.val] w (YK T w P rs x):=by
 have HP:=hdq hP;have BG:=hdq h;have hbq:=Vb;obtain⟨i0,hi0,CY,CU,CX⟩:=info_parts nD;clear h hP;simp only[bB];go_enter func288,ntmps288
 go_wp2_with fail
 refine ah ?_;intro w1 hw1;have BB:=hdq (BG.o.UX hw1);simp only[nAq,cAq]at BB;generalize hb4:w.heap.size+1+1=b4 at BB|-;generalize hb3:w.heap.size+1=b3 at BB|-;generalize hb2:w.heap.size=b2 at BB|-;clear hw1 hb4 hb3 hb2 BG;refine(Ww x w1 (HP.o _ (BB.o.still 0 rfl)).2 hnx).mono ?_;rintro e w3 ⟨cc,rfl,hcc,ht⟩;have BF:=hdq (BB.o.touch ht);have D6:=hdq hcc;clear hcc ht BB;obtain⟨v0,_,hl2,_,_⟩:=BF.o.c1 1 rfl;obtain⟨x0,x1,x2,x3,x4,x5,x6,_,hl3,_,_⟩:=BF.o.c7 2 rfl;obtain⟨u0,uf,hl4,_,_⟩:=BF.o.c1 3 rfl;cases cc with
 |false=>
  go_wp2;have BH:=hdq (BF.o.set 3 rfl 0 (.slice a rs.length cap));simp only[sSq,sZq,sAq]at BH;obtain⟨s0,_⟩:=BH.o.c1 3 rfl;refine bodyPost_ret (v:= .tuple #[.agg #[.slice a rs.length cap],(2:Int)]) (by simp[results,results288,go_sem,s0]) rfl ?_;exact⟨2,a,cap,rs,rfl,hcap,.inl ⟨rfl,fun hk=>(by have :=D6.o.2 hk;cases this),rfl⟩,TD.same BH.o (fun W hW=>(HP.o W hW).1)⟩
 |true=>
  have EC:Hid x.plain.Ok:=D6.o.1 rfl;clear D6;by_cases hfull:rs.length=4096
  .have hf1:(4096:Int)<=(rs.length:Int):=by omega
   have HFU:=hdq hfull;clear hfull;go_wp2;have BH:=hdq (BF.o.set 3 rfl 0 (.slice a rs.length cap));simp only[sSq,sZq,sAq]at BH;obtain⟨s0,_⟩:=BH.o.c1 3 rfl;refine bodyPost_ret (v:= .tuple #[.agg #[.slice a rs.length cap],(6:Int)]) (by simp[results,results288,go_sem,s0]) rfl ?_;exact⟨6,a,cap,rs,rfl,hcap,.inr (.inl ⟨rfl,EC.o,HFU.o,rfl⟩),TD.same BH.o (fun W hW=>(HP.o W hW).1)⟩
  .have hf1:¬(4096:Int)<=(rs.length:Int):=by omega
   have n1:=BF.o.ne 1 3 rfl rfl (by decide);have n2:=Ne.symm n1;have n3:=BF.o.ne 2 3 rfl rfl (by decide);have n4:=Ne.symm n3;go_wp2_with fail
   have Gj:=hdq ((BF.o.empty 65 7).drew);have Gs:=hdq (((BF.o.empty 65 7).alloc 65 #[x.sync,x.thread,x.branch,x.flag,x.v.kind,x.v.num,.slice x.v.addr x.v.parts.length x.v.cap]).drew);have Gm:=hdq ((((BF.o.alloc 65 #[x.sync,x.thread,x.branch,x.flag,x.v.kind,x.v.num,.slice x.v.addr x.v.parts.length x.v.cap]).empty 65 7).drew).pick [0,1,2,3,5,4] (by decide) (by simp));simp only[nAq,cAq,World.size_alloc,List.filterMap_cons,List.filterMap_nil,List.getElem?_cons_zero,List.getElem?_cons_succ]at Gj Gs Gm;go_region_held3 (fun w'=>w'.cell? ⟨b2,0,none⟩=some (.slice a rs.length cap)/\w'.cell? ⟨b3,0,none⟩=some (.int .i64 x.sync)/\w'.cell? ⟨b3,1,none⟩=some (.int .i64 x.thread)/\w'.cell? ⟨b3,2,none⟩=some (.int .i64 x.branch)/\w'.cell? ⟨b3,3,none⟩=some (.int .i64 x.flag)/\w'.cell? ⟨b3,4,none⟩=some (.int .i64 x.v.kind)/\w'.cell? ⟨b3,5,none⟩=some (.int .i64 x.v.num)/\w'.cell? ⟨b3,6,none⟩=some (.slice x.v.addr x.v.parts.length x.v.cap)) (go_keep) (first
    |(refine aD _ (by rfl) (.tmp 15) (.tmp 17) 34 (by rfl) 65 i0 _ 7 72 underlying34 hi0 CY CU CX rfl (by decide) (.slice (some ⟨w3.heap.size,0,none⟩) 0 0) 0 [] (by rfl) (Gj.o.aZ 4 rfl) a rs.length cap (aM rs) (by rfl) (fU rs) (HP.o _ (Gj.o.still 0 rfl)).1.src (qf rs) (by simp only[maxLen];omega) (by omega) ?_;intro a2 c2 w2 hown hgrow hat;simp only[Nat.zero_add,nAq]at hown hat|-;have BH:=hdq (Gj.o.bG 4 rfl hgrow hown hat);simp only[sSq,sZq]at BH;obtain⟨v0,_,hl2,_,_⟩:=BH.o.c1 1 rfl;obtain⟨x0,x1,x2,x3,x4,x5,x6,_,hl3,_,_⟩:=BH.o.c7 2 rfl;obtain⟨u0,uf,hl4,_,_⟩:=BH.o.c1 3 rfl;clear hown hgrow hat)
    |(refine aD _ (by rfl) (.tmp 15) (.tmp 17) 34 (by rfl) 65 i0 _ 7 72 underlying34 hi0 CY CU CX rfl (by decide) (.slice (some ⟨w3.heap.size,0,none⟩) 0 0) 0 [] (by rfl) (Gs.o.aZ 4 rfl) a rs.length cap (aM rs) (by rfl) (fU rs) (HP.o _ (Gs.o.still 0 rfl)).1.src (qf rs) (by simp only[maxLen];omega) (by omega) ?_;intro a2 c2 w2 hown hgrow hat;simp only[Nat.zero_add,nAq]at hown hat|-;have BH:=hdq (Gs.o.bG 4 rfl hgrow hown hat);simp only[sSq,sZq]at BH;obtain⟨v0,_,hl2,_,_⟩:=BH.o.c1 1 rfl;obtain⟨x0,x1,x2,x3,x4,x5,x6,_,hl3,_,_⟩:=BH.o.c7 2 rfl;obtain⟨u0,uf,hl4,_,_⟩:=BH.o.c1 3 rfl;clear hown hgrow hat)
    |(refine aD _ (by rfl) (.tmp 15) (.tmp 17) 34 (by rfl) 65 i0 _ 7 72 underlying34 hi0 CY CU CX rfl (by decide) (.slice (some ⟨w3.heap.size+1,0,none⟩) 0 0) 0 [] (by rfl) (Gm.o.aZ 4 rfl) a rs.length cap (aM rs) (by rfl) (fU rs) (HP.o _ (Gm.o.still 0 rfl)).1.src (qf rs) (by simp only[maxLen];omega) (by omega) ?_;intro a2 c2 w2 hown hgrow hat;simp only[Nat.zero_add,nAq]at hown hat|-;have BH:=hdq (Gm.o.bG 4 rfl hgrow hown hat);simp only[sSq,sZq]at BH;obtain⟨v0,_,hl2,_,_⟩:=BH.o.c1 1 rfl;obtain⟨x0,x1,x2,x3,x4,x5,x6,_,hl3,_,_⟩:=BH.o.c7 2 rfl;obtain⟨u0,uf,hl4,_,_⟩:=BH.o.c1 3 rfl;clear hown hgrow hat)
    |(refine aD _ (by rfl) (.tmp 18) (.tmp 20) 34 (by rfl) 65 i0 _ 7 72 underlying34 hi0 CY CU CX rfl (by decide) (.slice a2 rs.length c2) rs.length (aM rs) (by rfl) ((BH.o.alloc _ _).aZ 4 rfl) (some ⟨w2.heap.size,0,none⟩) 1 1 x.cells (by rfl) rfl (.inr ⟨_,rfl,((BH.o.alloc _ _).box 5 rfl).src⟩) (cells_one x) (by simp only[maxLen];omega) (by omega) ?_;intro a3 c3 w3 hown hgrow hat;have Ca:=hdq ((BH.o.alloc _ _).bG 4 rfl hgrow hown hat);simp only[sSq,sZq,cAq,nAq]at Ca;obtain⟨v0,_,hl2,_,_⟩:=Ca.o.c1 1 rfl;obtain⟨x0,x1,x2,x3,x4,x5,x6,_,hl3,_,_⟩:=Ca.o.c7 2 rfl;obtain⟨u0,uf,hl4,_,_⟩:=Ca.o.c1 3 rfl;clear hown hgrow hat)
    |(refine aD _ (by rfl) (.tmp 18) (.tmp 20) 34 (by rfl) 65 i0 _ 7 72 underlying34 hi0 CY CU CX rfl (by decide) (.slice a2 rs.length c2) rs.length (aM rs) (by rfl) (BH.o.aZ 4 rfl) (some ⟨_,0,none⟩) 1 1 x.cells (by rfl) rfl (.inr ⟨_,rfl,(BH.o.box 5 rfl).src⟩) (cells_one x) (by simp only[maxLen];omega) (by omega) ?_;intro a3 c3 w3 hown hgrow hat;have Ca:=hdq (BH.o.bG 4 rfl hgrow hown hat);simp only[sSq,sZq,cAq,nAq]at Ca;obtain⟨v0,_,hl2,_,_⟩:=Ca.o.c1 1 rfl;obtain⟨x0,x1,x2,x3,x4,x5,x6,_,hl3,_,_⟩:=Ca.o.c7 2 rfl;obtain⟨u0,uf,hl4,_,_⟩:=Ca.o.c1 3 rfl;clear hown hgrow hat))
   all_goals go_wp2
   all_goals have FE:=hdq (Ca.o.set 3 rfl 0 (.slice a3 (rs.length+1) c3))
   all_goals simp only[sSq,sZq,sAq]at FE
   all_goals obtain⟨s0,_⟩:=FE.o.c1 3 rfl
   all_goals refine bodyPost_ret (v:= .tuple #[.agg #[.slice a3 (rs.length+1) c3],()]) (by simp[results,results288,go_sem,s0]) rfl ?_
   all_goals refine⟨0,a3,c3,rs++[x],(by simp),(by have :=V9 (FE.o.aZ 4 rfl);simpa using this),.inr (.inr ⟨rfl,EC.o,by omega,rfl⟩),TD.made (cap:=c3) (n:=rs.length+1) (by simp) ?_⟩
   all_goals rw[iC,show aM [x]=x.cells from(by simp[aM])]
   all_goals exact FE.o.sel [0,4] rfl (by decide)
theorem BD.Va{T:List Nat}{w0 w:World}{l:List ai}{P:World->Prop}(h:BD T w0 w l)(j:Nat)(hj:l[j]? =some (aA P))(a:Option Addr)(cap:Nat)(rs:List ME)(x:ME)(hcap:rs.length<=cap)(hP:∀W,P W->fo W a rs/\x.v.In W)(hnx:x.v.nodes<=1048576)(hlen:rs.length<=4096):
  Calls prog 288 #[.agg #[.slice a rs.length cap],x.val] w fun e w'=>∃(err:Int) (a':Option Addr) (cap':Nat) (rs':List ME),e= .returned (.tuple #[.agg #[.slice a' rs'.length cap'],err])/\rs'.length<=cap'/\((err=2/\¬x.plain.Ok/\rs'=rs)\/(err=6/\x.plain.Ok/\rs.length=4096/\rs'=rs)\/(err=0/\x.plain.Ok/\rs.length<4096/\rs'=rs++[x]))/\
   ∃P':World->Prop,(∀W,P' W->P W/\fo W a' rs')/\BD T w0 w' (l.set j (aA P')):=by
 obtain⟨T',h1,hb⟩:=h.qL j hj;refine(XI T' w P a cap rs x hcap h1 hP hnx hlen).mono ?_;rintro e w' ⟨err,a',cap',rs',rfl,hcp,hc,P',hP',hL⟩;exact⟨err,a',cap',rs',rfl,hcp,hc,P',hP',hb _ _ [] hL⟩
theorem kK.unique{n:Nat}{xs:List PE}{k k':Nat}{err err':Int}(h:kK n xs k err)(h':kK n xs k' err'):k=k'/\err=err':=by
 obtain⟨h1,h2,h3,h4⟩:=h;obtain⟨g1,g2,g3,g4⟩:=h';have hk:k=k':=by
  rcases h4 with ⟨_,rfl⟩|⟨hlt,h4⟩
  .rcases g4 with ⟨_,rfl⟩|⟨glt,⟨_,g⟩|⟨_,_,g⟩⟩
   .rfl
   .exact absurd (h1 k' glt glt) g
   .omega
  .rcases g4 with ⟨_,rfl⟩|⟨glt,g4⟩
   .rcases h4 with ⟨_,g⟩|⟨_,_,g⟩
    .exact absurd (g1 k hlt hlt) g
    .omega
   .by_cases h5:k<k'
    .rcases h4 with ⟨_,g⟩|⟨_,_,g⟩
     .exact absurd (g1 k hlt h5) g
     .omega
    .by_cases h6:k'<k
     .rcases g4 with ⟨_,g⟩|⟨_,_,g⟩
      .exact absurd (h1 k' glt h6) g
      .omega
     .omega
 subst hk;refine⟨rfl,?_⟩;rcases h4 with ⟨rfl,h5⟩|⟨hlt,⟨rfl,h5⟩|⟨rfl,h5,_⟩⟩<;>rcases g4 with ⟨rfl,g5⟩|⟨glt,⟨rfl,g5⟩|⟨rfl,g5,_⟩⟩<;>first |rfl|omega|exact absurd h5 g5|exact absurd g5 h5
def YC(T:List Nat)(w:World)(P:World->Prop)(cell:Int)(rs:List ME)(x:ME)(e:Ending)(w':World):Prop:=
 ∃(err:Int) (a':Option Addr) (cap':Nat) (rs':List ME),e= .returned (.tuple #[.agg #[cell,.slice a' rs'.length cap'],err])/\rs'.length<=cap'/\((err=2/\¬x.plain.Ok/\rs'=rs)\/(err=6/\x.plain.Ok/\rs.length=4096/\rs'=rs)\/(err=0/\x.plain.Ok/\rs.length<4096/\rs'=rs++[x]))/\TD T w P a' rs' w'
theorem VF(T:List Nat)(w:World)(P:World->Prop)(cell:Int)(a:Option Addr)(cap:Nat)(rs:List ME)(x:ME)(hcap:rs.length<=cap)(h:BD T w w [aA P])(hP:∀W,P W->fo W a rs/\x.v.In W)(hnx:x.v.nodes<=1048576)(hlen:rs.length<=4096):
  Calls prog 226 #[.agg #[cell,.slice a rs.length cap],x.val] w (YC T w P cell rs x):=by
 have HP:=hdq hP;have BG:=hdq h;clear h hP;simp only[bB];go_enter func226,ntmps226
 go_wp2_with fail
 refine ah ?_;intro w1 hw1;have BB:=hdq (BG.o.UX hw1);simp only[nAq,cAq]at BB;generalize hb4:w.heap.size+1+1=b4 at BB|-;generalize hb3:w.heap.size+1=b3 at BB|-;generalize hb2:w.heap.size=b2 at BB|-;clear hw1 hb4 hb3 hb2 BG;refine(BB.o.Va 0 rfl a cap rs x hcap HP.o hnx hlen).mono ?_;rintro e w2 ⟨err,a',cap',rs',rfl,hcp,hc,P',hP',hL⟩;have HL2:=hdq hL;simp only[sZq]at HL2;have HC:=hdq hc;have LU:=hdq hcp;have WI:=hdq hP';clear hL hc hcp hP' BB;obtain⟨v0,v1,vf0,vf1,hl2,_,_⟩:=HL2.o.c2 1 rfl;obtain⟨u0,u1,Z8,Z9,hl4,_,_⟩:=HL2.o.c2 3 rfl;have n1:=HL2.o.ne 1 3 rfl rfl (by decide);have n2:=Ne.symm n1;go_wp2;have BH:=hdq ((((HL2.o.set 1 rfl 1 (.slice a' rs'.length cap')).set 3 rfl 0 (.int .i64 cell)).set 3 rfl 1 (.slice a' rs'.length cap')).dL (.cells #[.slice a' rs'.length cap'] 36));simp only[sSq,sZq,sAq]at BH;obtain⟨s0,s1,_⟩:=BH.o.c2 3 rfl;refine bodyPost_ret (v:= .tuple #[.agg #[cell,.slice a' rs'.length cap'],err]) (by simp[results,results226,go_sem,s0,s1]) rfl ?_;exact⟨err,a',cap',rs',rfl,LU.o,HC.o,P',WI.o,BD.aF (l:=[_]) (m:=[_,_,_]) BH.o⟩
structure CB where
 what:Int
 n:Int
 m:Int
 a:Option Addr
 cap:Nat
 l:List ME
def CB.val(x:CB):Value:= .agg #[x.what,x.n,x.m,.slice x.a x.l.length x.cap]
def CB.In(x:CB)(W:World):Prop:=fo W x.a x.l/\∀e∈x.l,e.v.In W
def CB.Few(x:CB):Prop:=x.l.length<=6/\∀e∈x.l,e.v.nodes<=256
def kV(P:World->Prop)(es rs:List ME)(a:Option Addr)(cap:Nat):Prop:=
 es.map ME.plain=rs.map ME.plain/\rs.length<=cap/\es.length<=4096/\(∀e∈es,e.v.nodes<=256)/\∀W,P W->(∀e∈es,e.v.In W)/\fo W a rs/\∀r∈rs,r.v.In W
theorem kV.len{P:World->Prop}{es rs:List ME}{a:Option Addr}{cap:Nat}(h:kV P es rs a cap):es.length=rs.length:=by have :=congrArg List.length h.1;simpa using this
theorem l9(es:List ME)(i:Nat):(es.eraseIdx i).map ME.plain=(es.map ME.plain).eraseIdx i:=by
 simp only[List.eraseIdx_eq_take_drop_succ,List.map_append,List.map_take,List.map_drop]
theorem kV.sub{P P1:World->Prop}{es rs es1 LY:List ME}{a a1:Option Addr}{cap Ld:Nat}(h:kV P es rs a cap)(hP1:∀W,P1 W->P W/\fo W a1 LY)(h1:es1.map ME.plain=LY.map ME.plain)(he:∀e∈es1,e∈es)(hr:∀r∈LY,r∈rs)(hl:es1.length<=es.length)(hc1:LY.length<=Ld):kV P1 es1 LY a1 Ld:=
 ⟨h1,hc1,Nat.le_trans hl h.2.2.1,fun e hh=>h.2.2.2.1 e (he e hh),fun W hW=>by
  obtain⟨h2,h3⟩:=hP1 W hW;obtain⟨g1,_,g3⟩:=h.2.2.2.2 W h2;exact⟨fun e hh=>g1 e (he e hh),h3,fun r hh=>g3 r (hr r hh)⟩⟩
theorem kV.drop{P P1:World->Prop}{es rs LY:List ME}{a a1:Option Addr}{cap Ld i:Nat}{c:Bool}(h:kV P es rs a cap)(hP1:∀W,P1 W->P W/\fo W a1 LY)(hrs:LY=if c=true then rs.eraseIdx i else rs)(hc1:LY.length<=Ld):kV P1 (if c=true then es.eraseIdx i else es) LY a1 Ld:=by
 subst hrs;cases c with
 |true=>exact h.sub hP1 (by simp only[if_true,l9,h.1]) (fun e he=>List.mem_of_mem_eraseIdx he) (fun e he=>List.mem_of_mem_eraseIdx he) (List.length_eraseIdx_le es i) hc1
 |false=>exact h.sub hP1 (by simpa using h.1) (fun e he=>he) (fun e he=>he) (Nat.le_refl _) hc1
def Nexted(T:List Nat)(w0:World)(l:List ai)(i q:Nat)(es:List ME)(e:Ending)(w':World):Prop:=
 (∃x r,es=x::r/\e= .returned (.tuple #[x.val,true])/\BD T w0 w' (l.set i (aQ q r)))\/(es=[]/\e= .returned (.tuple #[ME.zero.val,false])/\BD T w0 w' (l.set i (aQ q [])))
section
variable {T:List Nat} {w0 w:World} {l:List ai} {g c q:Nat} {a f:Int} {s:Ar} {es:List ME}
theorem ng{t1:ai}:(l++[t1])[l.length]? =some t1:=by simp
theorem BD.cLock(h:BD T w0 w l)(i j:Nat)(hi:l[i]? =some (arena g s))(hj:l[j]? =some (Proofs.YtegejdlglonflaaGreatDoor.box c 269 #[a,f,q]))(hn:s.L.length<4611686018427387904):
  Calls prog 82 #[c,g] w fun e w'=>e= .returned (.tuple #[.bool (s.swap a 0 1).2.1.did,.int .i64 ((s.swap a 0 1).2.2:Int)])/\BD T w0 w' (l.set i (arena g (s.swap a 0 1).1)):=
 Lock_c w c a f q (h.kS j hj) _ (fun w'=>BD T w0 w' (l.set i (arena g (s.swap a 0 1).1))) _ _ (fun W hW=>(h.touch hW).ar i hi (fun fp hI=>zC W g fp s hI a hn))
theorem BD.OB(h:BD T w0 w l)(i j:Nat)(hi:l[i]? =some (arena g s))(hj:l[j]? =some (Proofs.YtegejdlglonflaaGreatDoor.box c 269 #[a,f,q]))(hn:s.L.length<4611686018427387904):
  Calls prog 294 #[c,g] w fun e w'=>e= .returned (.int .i64 (s.wH a:Int))/\BD T w0 w' (l.set i (arena g (s.swap a 1 0).1)):=
 Kz w c a f q (h.kS j hj) _ (fun w'=>BD T w0 w' (l.set i (arena g (s.swap a 1 0).1))) _ (fun W hW=>(h.touch hW).ar i hi (fun fp hI=>uW W g fp s hI a hn))
theorem BD.cFired(h:BD T w0 w l)(i j:Nat)(hi:l[i]? =some (arena g s))(hj:l[j]? =some (Proofs.YtegejdlglonflaaGreatDoor.box c 269 #[a,f,q]))(hn:s.L.length<4611686018427387904){d:Bool}{er:Nat}{s':Ar}(hd:d=(decide ((s.load f).2.2=0)&&decide ((s.load f).2.1.old≠0)))(he:(s.load f).2.2=er)(hs:(s.load f).1=s'):
  Calls prog 77 #[c,g] w fun e w'=>e= .returned (.tuple #[d,(er:Int)])/\BD T w0 w' (l.set i (arena g s')):=by
 subst he hs;exact Nr w c a f q (h.kS j hj) _ (fun w'=>BD T w0 w' (l.set i (arena g (s.load f).1))) _ _ _ hd (fun W hW=>(h.touch hW).ar i hi (fun fp hI=>vO W g fp s f hI hn))
theorem BD.cFire(h:BD T w0 w l)(i j:Nat)(hi:l[i]? =some (arena g s))(hj:l[j]? =some (Proofs.YtegejdlglonflaaGreatDoor.box c 269 #[a,f,q]))(hn:s.L.length<4611686018427387904){fe:Nat}{s':Ar}(hfe:fe=if(s.swap f 0 1).2.2=0/\(s.swap f 0 1).2.1.did=false then 150 else(s.swap f 0 1).2.2)(hs:(s.swap f 0 1).1=s'):
  Calls prog 149 #[c,g] w fun e w'=>e= .returned (.int .i64 (fe:Int))/\BD T w0 w' (l.set i (arena g s')):=by
 subst hs;exact Fire_c w c a f q (h.kS j hj) _ (fun w'=>BD T w0 w' (l.set i (arena g (s.swap f 0 1).1))) _ _ _ _ hfe (fun W hW=>(h.touch hW).ar i hi (fun fp hI=>kP W g fp s f hI hn 0 1 wd0 wd1))
theorem BD.cNext(h:BD T w0 w l)(i j:Nat)(hi:l[i]? =some (aQ q es))(hj:l[j]? =some (Proofs.YtegejdlglonflaaGreatDoor.box c 269 #[a,f,q]))(hes:es.length<=1048576):
  Calls prog 80 #[c] w (Nexted T w0 l i q es):=by
 obtain⟨d0,d1,d2,hl,hl2⟩:=(h.kS j hj).cells;have hil:=(List.getElem?_eq_some_iff.1 hi).1;have HC:=hdq ((h.kS j hj).touch ((Touch.refl [] w).alloc (.cells #[(),(),(),(),(),(),True] 65)));have h1:=h.alloc 65 #[(),(),(),(),(),(),True];have HP:=hdq (h1.OX i (by rw[List.getElem?_append_left hil];exact hi) 0 hes);have HI:=hdq hil;clear h h1 hi hj hil;go_enter func80,ntmps80
 go_wp2_with fail
 refine(fA _ _ _ _ _ HC.o).mono ?_;rintro e w' ⟨rfl,rfl⟩;go_wp2_with fail
 refine HP.o.mono ?_;rintro e w2 (⟨x,_,hx,rfl,hL⟩|⟨hn,rfl,hL⟩)
 .obtain⟨r,rfl⟩:∃r,es=x::r:=by
   cases es with
   |nil=>simp at hx
   |cons y r=>simp at hx;exact⟨r,by rw[hx]⟩
  rw[List.set_append_left _ _ HI.o]at hL;have HL:=hdq hL;clear hL hx HC HP;simp only[bB];obtain⟨x0,x1,x2,x3,x4,x5,x6,⟨f0,f1,f2,f3,f4,f5,f6⟩,z1,_,_⟩:=HL.o.c7 (l.set i (aQ q ((x::r).eraseIdx (Int.toNat 0)))).length ng;go_wp2;have C8:=hdq (HL.o.iD (l.set i (aQ q ((x::r).eraseIdx (Int.toNat 0)))).length ng x.sync x.thread x.branch x.flag x.v.kind x.v.num (.slice x.v.addr x.v.parts.length x.v.cap));obtain⟨s0,s1,s2,s3,s4,s5,s6,_⟩:=C8.o.c7 (l.set i (aQ q ((x::r).eraseIdx (Int.toNat 0)))).length (List.getElem?_set_self (by simp));refine bodyPost_ret (v:= .tuple #[x.val,true]) (by simp[results,results80,go_sem,s0,s1,s2,s3,s4,s5,s6,bB]) rfl ?_;refine .inl ⟨x,r,rfl,rfl,?_⟩;have h:=C8.o;rw[List.set_append_right _ _ (Nat.le_refl _)]at h;exact h.aF
 .obtain rfl:es=[]:=by
   cases es with
   |nil=>rfl
   |cons y r=>exact absurd ⟨by decide,by simp⟩ hn
  rw[List.set_append_left _ _ HI.o]at hL;have HL:=hdq hL;clear hL hn HC HP;have hzv:ME.zero.val= .agg #[(),(),(),(),(),(),True]:=rfl;rw[hzv];obtain⟨x0,x1,x2,x3,x4,x5,x6,⟨f0,f1,f2,f3,f4,f5,f6⟩,z1,_,_⟩:=HL.o.c7 (l.set i (aQ q [])).length ng;go_wp2;have C8:=hdq (HL.o.iD (l.set i (aQ q [])).length ng 0 0 0 0 0 0 (.slice none 0 0));obtain⟨s0,s1,s2,s3,s4,s5,s6,_⟩:=C8.o.c7 (l.set i (aQ q [])).length (List.getElem?_set_self (by simp));refine bodyPost_ret (v:= .tuple #[.agg #[(),(),(),(),(),(),True],false]) (by simp[results,results80,go_sem,s0,s1,s2,s3,s4,s5,s6]) rfl ?_;refine .inr ⟨rfl,rfl,?_⟩;have h:=C8.o;rw[List.set_append_right _ _ (Nat.le_refl _)]at h;exact h.aF
end
def mQ(c:Nat)(ca f:Int)(q:Nat)(es:List ME)(P:World->Prop):List ai:=[box c 269 #[ca,f,q],aQ q es,aA P]
theorem Nq(T:List Nat)(w:World)(c:Nat)(ca f:Int)(q:Nat)(es:List ME)(P:World->Prop)(x:ME)(h:BD T w w (mQ c ca f q es P))(hP:∀W,P W->x.v.In W)(hes:es.length<=4096):
  Calls prog 118 #[c,x.val] w fun e w'=>∃(k:Nat) (err:Int) (ys:List ME),e= .returned (.int .i64 err)/\kK es.length [x.plain] k err/\ys.map ME.plain=[x.plain].take k/\BD T w w' (mQ c ca f q (es++ys) (fun W=>P W/\∀y∈ys,y.v.In W)):=by
 have HP:=hdq hP;have BG:=hdq h;unfold mQ at BG;clear h hP;simp only[bB];go_enter func118,ntmps118
 go_wp2_with fail
 refine ah ?_;intro w1 hw1;have BB:=hdq (BG.o.DN hw1);simp only[nAq,cAq]at BB;generalize hb3:w.heap.size=b3 at BB|-;clear hw1 hb3 BG;refine(fA _ _ _ _ _ (BB.o.kS 0 rfl)).mono ?_;rintro e w' ⟨rfl,rfl⟩;obtain⟨d0,d1,d2,_,_,_,hl,_,_⟩:=BB.o.c3 0 rfl;obtain⟨x0,x1,x2,x3,x4,x5,x6,_,hl3,_,_⟩:=BB.o.c7 3 rfl;have HL2:=hdq (BB.o.alloc 65 #[x.sync,x.thread,x.branch,x.flag,x.v.kind,x.v.num,.slice x.v.addr x.v.parts.length x.v.cap]).drew;simp only[nAq,cAq]at HL2;have HPU:=hdq (HL2.o.JK (xs:=[x]) (a:=some ⟨w1.heap.size,0,none⟩) (cap:=1) 1 2 rfl rfl (by decide) (fun W hW=>⟨vG rfl (hW 4 _ (by decide) rfl),fun y hy=>by
  simp at hy;subst hy
  obtain⟨fz,_,hs⟩:=hW 2 (aA P) (by decide) rfl;exact HP.o W (hs W (fun _ _=>rfl))⟩) (by simp) hes)
 go_wp2_with fail
 go_region_held3 (fun w'=>w'.cell? ⟨c,2,none⟩=some (.pointer (some ⟨q,0,none⟩))/\w'.cell? ⟨b3,0,none⟩=some (.int .i64 x.sync)/\w'.cell? ⟨b3,1,none⟩=some (.int .i64 x.thread)/\w'.cell? ⟨b3,2,none⟩=some (.int .i64 x.branch)/\w'.cell? ⟨b3,3,none⟩=some (.int .i64 x.flag)/\w'.cell? ⟨b3,4,none⟩=some (.int .i64 x.v.kind)/\w'.cell? ⟨b3,5,none⟩=some (.int .i64 x.v.num)/\w'.cell? ⟨b3,6,none⟩=some (.slice x.v.addr x.v.parts.length x.v.cap)) (go_keep) (first
  |(go_at_call 212;refine HPU.o.mono ?_;rintro e w4 ⟨k,err,ys,rfl,hR,hp,hL⟩;have BH:=hdq hL;(simp only[sZq,sSq]at BH);have HR:=hdq hR;have HPY:=hdq hp;clear hL hR hp d0 d1 d2 hl x0 x1 x2 x3 x4 x5 x6 hl3;obtain⟨d0,d1,d2,_,_,_,hl,_,_⟩:=BH.o.c3 0 rfl;obtain⟨x0,x1,x2,x3,x4,x5,x6,_,hl3,_,_⟩:=BH.o.c7 3 rfl))
 go_wp2;go_ret
 exact⟨k,err,ys,rfl,HR.o,HPY.o,BH.o.sel [0,1,2] rfl (by decide)⟩
theorem Mk(T:List Nat)(w:World)(c:Nat)(ca f:Int)(q:Nat)(es:List ME)(P:World->Prop)(h:BD T w w (mQ c ca f q es P))(hes:es.length<=4096):
  Calls prog 80 #[c] w fun e w'=>∃(y:ME) (b:Bool),e= .returned (.tuple #[y.val,b])/\kF es 0 y b/\BD T w w' (mQ c ca f q (if b=true then es.eraseIdx 0 else es) P):=by
 refine(BD.cNext h 1 0 rfl rfl (by omega)).mono ?_;rintro e w' (⟨x,r,rfl,rfl,hL⟩|⟨rfl,rfl,hL⟩)
 .exact⟨x,true,rfl,.inl ⟨rfl,by omega,rfl⟩,hL⟩
 .exact⟨ME.zero,false,rfl,.inr ⟨rfl,by simp,rfl⟩,hL⟩
section
variable {T:List Nat} {w0 w:World}
theorem BD.vg{h0 h1 s:ai}{A Y B:List ai}(h:BD T w0 w ([h0,h1,s]++A++Y++B)):∃T',BD T' w w (Y++[s])/\∀w' Y' s',BD T' w w' (Y'++[s'])->BD T w0 w' ([h0,h1,s']++A++Y'++B):=by
 have e1:BD T w0 w (Y++[s]++(A++B++[h0,h1])):=by
  have g1:BD T w0 w ([]++([h0,h1,s]++A)++(Y++B)):=by simpa using h
  have g2:=g1.aB;have g3:BD T w0 w (Y++(B++[h0,h1])++([s]++A)):=by simpa using g2
  have g4:=g3.aB;have g5:BD T w0 w ((Y++[s]++A)++(B++[h0,h1])):=by simpa using g4
  simpa using g5
 obtain⟨T',hF,hb⟩:=e1.aN;refine⟨T',hF,fun w' Y' s' hL=>?_⟩;have k1:=hb w' (Y'++[s']) hL;have k2:BD T w0 w' (Y'++([s']++A)++(B++[h0,h1])):=by simpa using k1
 have k3:=k2.aB;have k4:BD T w0 w' ([]++(Y'++B)++([h0,h1,s']++A)):=by simpa using k3
 have k5:=k4.aB;simpa using k5
end
end Go.Proofs.YtegejdlglonflaaGreatDoor
