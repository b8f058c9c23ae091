/-
  Texts of FireHolds, laid together by program.
-/
import Derived.Test.YtegejdlglonflaaGreatDoorWZ21
import Derived.Lib.Walk
namespace Go.Proofs.YtegejdlglonflaaGreatDoor
open Go.RowKit Go.Shelf Go.Proofs.Tryz
set_option maxRecDepth 100000
set_option maxHeartbeats 8000000
set_option linter.unusedVariables false
set_option linter.unusedSimpArgs false
def N7(w:World)(p:Option Addr):Prop:=p=none\/∃b,p=some ⟨b,0,none⟩/\w.cell? ⟨b,1,none⟩=some (.map none)
theorem N7.touch{w w':World}{p:Option Addr}(h:N7 w p)(ht:Touch [] w w'):N7 w' p:=by
 rcases h with rfl|⟨b,rfl,hb⟩
 .exact .inl rfl
 .exact .inr ⟨b,rfl,ht.cellOf hb⟩
theorem OG(W:World):(Instr.index 297 (.agg #[(1:Int),(2:Int)]) (.int .i64 0)).run prog W= .ok (.int .i64 1) W:=by kernel_rfl
theorem O6(W:World):(Instr.index 297 (.agg #[(1:Int),(2:Int)]) (.int .i64 1)).run prog W= .ok (.int .i64 2) W:=by kernel_rfl
def bM(s:Int):Int:=if s=1 then 2 else if s=2 then 1 else 0
theorem zB(w:World)(s:Int)(hS:bJ w):Calls prog 286 #[s] w fun e w'=>e= .returned (.int .i64 (bM s))/\w=w':=by
 obtain⟨t0,t1⟩:=hS;have tl:1<w.heap.size:=World.block_lt_of_cell? _ _ t0;go_enter func286,ntmps286
 go_wp2_with fail
 go_loopw [6] (fun i wr=>wr=w/\(i= .int .i64 0\/(i= .int .i64 1/\s≠1)\/(i= .int .i64 2/\s≠1/\s≠2))) (fun i _=>2-(intOf i).toNat)
 case atStart=>exact⟨rfl,.inl rfl⟩
 case round=>
  obtain⟨rfl,rfl|⟨rfl,h1⟩|⟨rfl,h1,h2⟩⟩:=hrel
  .have hi:=OG wr
   by_cases hs:s=1
   .subst hs
    go_wp2;go_ret
    exact⟨rfl,rfl⟩
   .have hs':¬(1:Int)=s:=fun e=>hs e.symm
    go_wp2;clear hi;go_roundw
    case rel=>exact⟨trivial,.inr (.inl ⟨by go_num,hs⟩)⟩
    case measure=>simp[intOf]
  .have hi:=O6 wr
   by_cases hs:s=2
   .subst hs
    go_wp2;go_ret
    exact⟨rfl,rfl⟩
   .have hs':¬(2:Int)=s:=fun e=>hs e.symm
    go_wp2;clear hi;go_roundw
    case rel=>exact⟨trivial,.inr (.inr ⟨by go_num,h1,hs⟩)⟩
    case measure=>simp[intOf]
  .have ho:bM s=0:=by unfold bM;rw[if_neg h1,if_neg h2]
   go_wp2;go_ret
   exact⟨by rw[ho];rfl,rfl⟩
def Sr(cell:Int)(a1:Option Addr)(n1 c1:Nat)(a2:Option Addr)(n2 c2:Nat):Value:= .agg #[cell,.slice a1 n1 c1,.slice a2 n2 c2]
theorem Sz(cell:Int)(a1:Option Addr)(n1 c1:Nat)(a2:Option Addr)(n2 c2:Nat):Sr cell a1 n1 c1 a2 n2 c2= .agg #[cell,.slice a1 n1 c1,.slice a2 n2 c2]:=rfl
def jV(s:Int):Int:=if s=1 then 0 else if s=2 then 1 else -1
theorem uH(w:World)(s:Int):Calls prog 194 #[s] w fun e w'=>e= .returned (.int .i64 (jV s))/\w=w':=by
 by_cases h1:s=1
 .subst h1
  go_enter func194,ntmps194
  go_wp2;go_ret
  exact⟨rfl,rfl⟩
 by_cases h2:s=2
 .subst h2
  go_enter func194,ntmps194
  go_wp2;go_ret
  exact⟨rfl,rfl⟩
 .have h1':(s==1)=false:=by simp[h1]
  have h2':(s==2)=false:=by simp[h2]
  have ho:jV s= -1:=by unfold jV;rw[if_neg h1,if_neg h2]
  go_enter func194,ntmps194
  go_wp2;go_ret
  exact⟨by rw[ho];rfl,rfl⟩
theorem vS(w:World)(s:Int)(hs: -1000000<=s/\s<=1000000):Calls prog 223 #[s] w fun e w'=>e= .returned (.int .i64 (bM s))/\w=w':=by
 by_cases h1:s=1
 .subst h1
  go_enter func223,ntmps223
  go_wp2_with fail
  refine(uH _ _).mono ?_;rintro e w' ⟨rfl,rfl⟩;rw[show jV 1=0 from rfl];go_wp2;go_ret
  exact⟨rfl,rfl⟩
 by_cases h2:s=2
 .subst h2
  go_enter func223,ntmps223
  go_wp2_with fail
  refine(uH _ _).mono ?_;rintro e w' ⟨rfl,rfl⟩;rw[show jV 2=1 from rfl];go_wp2;go_ret
  exact⟨rfl,rfl⟩
 .have ho:jV s= -1:=by unfold jV;rw[if_neg h1,if_neg h2]
  have hoo:bM s=0:=by unfold bM;rw[if_neg h1,if_neg h2]
  go_enter func223,ntmps223
  go_wp2_with fail
  refine(uH _ _).mono ?_;rintro e w' ⟨rfl,rfl⟩;rw[ho];go_wp2;go_ret
  exact⟨by rw[hoo];rfl,rfl⟩
theorem Sw{Q:Exit->Act->World->Prop}{ex:Exit}{a:Act}{W:World}(h:∀w2,W=w2->Q ex a w2):Q ex a W:=h W rfl
def QU(rs:List ME)(x:ME)(err:Int)(rs':List ME):Prop:=(err=2/\¬x.plain.Ok/\rs'=rs)\/(err=6/\x.plain.Ok/\rs.length=4096/\rs'=rs)\/(err=0/\x.plain.Ok/\rs.length<4096/\rs'=rs++[x])
theorem UB(T:List Nat)(w:World)(P:World->Prop)(cell:Int)(a1:Option Addr)(c1:Nat)(LY:List ME)(a2:Option Addr)(c2:Nat)(SC:List ME)(x:ME)(hcap:LY.length<=c1)(h:BD T w w [aA P])(hP:∀W,P W->fo W a1 LY/\x.v.In W)(hnx:x.v.nodes<=1048576)(hlen:LY.length<=4096):
  Calls prog 224 #[Sr cell a1 LY.length c1 a2 SC.length c2,(1:Int),x.val] w fun e w'=>∃(err:Int) (a':Option Addr) (cap':Nat) (rs':List ME) (rest:List ai),e= .returned (.tuple #[Sr cell a' rs'.length cap' a2 SC.length c2,err])/\rs'.length<=cap'/\QU LY x err rs'/\∃P':World->Prop,(∀W,P' W->P W/\fo W a' rs')/\BD T w w' (aA P'::rest):=by
 have HP:=hdq hP;have BG:=hdq h;clear h hP;rw[Sz];simp only[bB];go_enter func224,ntmps224
 go_wp2_with fail
 refine ah ?_;intro w1 hw1;have BB:=hdq (BG.o.UX hw1);simp only[nAq,cAq]at BB;generalize hb6:w.heap.size+1+1=b6 at BB|-;generalize hb5:w.heap.size+1=b5 at BB|-;generalize hb3:w.heap.size=b3 at BB|-;clear hw1 hb6 hb5 hb3 BG;refine(uH _ _).mono ?_;rintro e w' ⟨rfl,rfl⟩;rw[show jV 1=0 from rfl];have Gj:=hdq BB.o.drew;have Gs:=hdq (BB.o.alloc 36 #[True]).drew;simp only[nAq,cAq]at Gs;obtain⟨d0,d1,d2,TN,TP,df2,hl,_,_⟩:=BB.o.c3 1 rfl;obtain⟨x0,x1,x2,x3,x4,x5,x6,_,hl5,_,_⟩:=BB.o.c7 2 rfl;have m1:b3≠w1.heap.size:=by omega
 have m2:=Ne.symm m1;have m3:b5≠w1.heap.size:=by omega
 have m4:=Ne.symm m3;go_wp2_with fail
 go_region_held3 (fun w'=>(w'.cell? ⟨b3,0,none⟩=some (.int .i64 cell)/\w'.cell? ⟨b3,1,none⟩=some (.slice a1 LY.length c1)/\w'.cell? ⟨b3,2,none⟩=some (.slice a2 SC.length c2))/\w'.cell? ⟨b5,0,none⟩=some (.int .i64 x.sync)/\w'.cell? ⟨b5,1,none⟩=some (.int .i64 x.thread)/\w'.cell? ⟨b5,2,none⟩=some (.int .i64 x.branch)/\w'.cell? ⟨b5,3,none⟩=some (.int .i64 x.flag)/\w'.cell? ⟨b5,4,none⟩=some (.int .i64 x.v.kind)/\w'.cell? ⟨b5,5,none⟩=some (.int .i64 x.v.num)/\w'.cell? ⟨b5,6,none⟩=some (.slice x.v.addr x.v.parts.length x.v.cap)) (go_keep) (first
  |(go_at_call 288;refine(Gj.o.Va 0 rfl a1 c1 LY x hcap HP.o hnx hlen).mono ?_;rintro e w2 ⟨err,a',cap',rs',rfl,hcp,hc,P',hP',hL⟩;have HL2:=hdq hL;(simp only[sZq]at HL2);have HC:=hdq hc;have LU:=hdq hcp;have WI:=hdq hP';clear hL hc hcp hP' d0 d1 d2 TN TP df2 hl x0 x1 x2 x3 x4 x5 x6 hl5 m1 m2 m3 m4;obtain⟨d0,d1,d2,TN,TP,df2,hl,_,_⟩:=HL2.o.c3 1 rfl;obtain⟨x0,x1,x2,x3,x4,x5,x6,_,hl5,_,_⟩:=HL2.o.c7 2 rfl;have m1:b3≠w2.heap.size:=(by omega);have m2:=Ne.symm m1;have m3:b5≠w2.heap.size:=(by omega);have m4:=Ne.symm m3)
  |(go_at_call 288;refine(Gs.o.Va 0 rfl a1 c1 LY x hcap HP.o hnx hlen).mono ?_;rintro e w2 ⟨err,a',cap',rs',rfl,hcp,hc,P',hP',hL⟩;have HL2:=hdq hL;(simp only[sZq]at HL2);have HC:=hdq hc;have LU:=hdq hcp;have WI:=hdq hP';clear hL hc hcp hP' d0 d1 d2 TN TP df2 hl x0 x1 x2 x3 x4 x5 x6 hl5;obtain⟨d0,d1,d2,TN,TP,df2,hl,_,_⟩:=HL2.o.c3 1 rfl;obtain⟨x0,x1,x2,x3,x4,x5,x6,_,hl5,_,_⟩:=HL2.o.c7 2 rfl;obtain⟨k0,kf,hlk,_,_⟩:=HL2.o.c1 4 rfl))
 all_goals rename_i hHeld
 all_goals clear hHeld Gj Gs m1 m2 m3 m4
 all_goals clear d0 d1 d2 TN TP df2 hl x0 x1 x2 x3 x4 x5 x6 hl5
 all_goals refine Sw (Q:=Exit.then _ _) ?_
 all_goals intro w5 DC
 all_goals first
  |(have k0':=k0;clear k0';have BH:=hdq ((HL2.o.set 4 rfl 0 (.slice a' rs'.length cap')).via DC);(simp only[sSq,sZq,sAq]at BH);clear DC HL2 k0 kf hlk;obtain⟨b9,FK⟩:∃b,w1.heap.size=b:=⟨_,rfl⟩;rw[FK]at BH|-;clear FK)
  |(have BH:=hdq ((HL2.o.alloc 36 #[.slice a' rs'.length cap']).via DC);clear DC HL2;obtain⟨b9,FK⟩:∃b,w2.heap.size=b:=⟨_,rfl⟩;rw[FK]at BH|-;clear FK)
 all_goals
  (try simp only[nAq,cAq]at BH)
  obtain⟨d0,d1,d2,TN,TP,df2,hl,_,_⟩:=BH.o.c3 1 rfl;obtain⟨u0,u1,u2,Z8,Z9,uf2,hu,_,_⟩:=BH.o.c3 3 rfl;obtain⟨k0,kf,hlk,_,_⟩:=BH.o.c1 4 rfl;have n1:=BH.o.ne 1 3 rfl rfl (by decide);have n2:=Ne.symm n1;have n3:=BH.o.ne 1 4 rfl rfl (by decide);have n4:=Ne.symm n3;go_wp2;have Db:=hdq ((((BH.o.set 1 rfl 1 (.slice a' rs'.length cap')).set 3 rfl 0 (.int .i64 cell)).set 3 rfl 1 (.slice a' rs'.length cap')).set 3 rfl 2 (.slice a2 SC.length c2));simp only[sSq,sZq,sAq]at Db;obtain⟨s0,s1,s2,_⟩:=Db.o.c3 3 rfl;refine bodyPost_ret (v:= .tuple #[Sr cell a' rs'.length cap' a2 SC.length c2,err]) (by simp[results,results224,go_sem,s0,s1,s2,Sr]) rfl ?_;exact⟨err,a',cap',rs',_,rfl,LU.o,HC.o,P',WI.o,Db.o⟩
theorem Uv(T:List Nat)(w:World)(P:World->Prop)(cell:Int)(a1:Option Addr)(c1:Nat)(LY:List ME)(a2:Option Addr)(c2:Nat)(SC:List ME)(x:ME)(hcap:SC.length<=c2)(h:BD T w w [aA P])(hP:∀W,P W->fo W a2 SC/\x.v.In W)(hnx:x.v.nodes<=1048576)(hlen:SC.length<=4096):
  Calls prog 224 #[Sr cell a1 LY.length c1 a2 SC.length c2,(2:Int),x.val] w fun e w'=>∃(err:Int) (a':Option Addr) (cap':Nat) (rs':List ME) (rest:List ai),e= .returned (.tuple #[Sr cell a1 LY.length c1 a' rs'.length cap',err])/\rs'.length<=cap'/\QU SC x err rs'/\∃P':World->Prop,(∀W,P' W->P W/\fo W a' rs')/\BD T w w' (aA P'::rest):=by
 have HP:=hdq hP;have BG:=hdq h;clear h hP;rw[Sz];simp only[bB];go_enter func224,ntmps224
 go_wp2_with fail
 refine ah ?_;intro w1 hw1;have BB:=hdq (BG.o.UX hw1);simp only[nAq,cAq]at BB;generalize hb6:w.heap.size+1+1=b6 at BB|-;generalize hb5:w.heap.size+1=b5 at BB|-;generalize hb3:w.heap.size=b3 at BB|-;clear hw1 hb6 hb5 hb3 BG;refine(uH _ _).mono ?_;rintro e w' ⟨rfl,rfl⟩;rw[show jV 2=1 from rfl];have Gj:=hdq BB.o.drew;have Gs:=hdq (BB.o.alloc 36 #[True]).drew;simp only[nAq,cAq]at Gs;obtain⟨d0,d1,d2,TN,TP,df2,hl,_,_⟩:=BB.o.c3 1 rfl;obtain⟨x0,x1,x2,x3,x4,x5,x6,_,hl5,_,_⟩:=BB.o.c7 2 rfl;have m1:b3≠w1.heap.size:=by omega
 have m2:=Ne.symm m1;have m3:b5≠w1.heap.size:=by omega
 have m4:=Ne.symm m3;go_wp2_with fail
 go_region_held3 (fun w'=>(w'.cell? ⟨b3,0,none⟩=some (.int .i64 cell)/\w'.cell? ⟨b3,1,none⟩=some (.slice a1 LY.length c1)/\w'.cell? ⟨b3,2,none⟩=some (.slice a2 SC.length c2))/\w'.cell? ⟨b5,0,none⟩=some (.int .i64 x.sync)/\w'.cell? ⟨b5,1,none⟩=some (.int .i64 x.thread)/\w'.cell? ⟨b5,2,none⟩=some (.int .i64 x.branch)/\w'.cell? ⟨b5,3,none⟩=some (.int .i64 x.flag)/\w'.cell? ⟨b5,4,none⟩=some (.int .i64 x.v.kind)/\w'.cell? ⟨b5,5,none⟩=some (.int .i64 x.v.num)/\w'.cell? ⟨b5,6,none⟩=some (.slice x.v.addr x.v.parts.length x.v.cap)) (go_keep) (first
  |(go_at_call 288;refine(Gj.o.Va 0 rfl a2 c2 SC x hcap HP.o hnx hlen).mono ?_;rintro e w2 ⟨err,a',cap',rs',rfl,hcp,hc,P',hP',hL⟩;have HL2:=hdq hL;(simp only[sZq]at HL2);have HC:=hdq hc;have LU:=hdq hcp;have WI:=hdq hP';clear hL hc hcp hP' d0 d1 d2 TN TP df2 hl x0 x1 x2 x3 x4 x5 x6 hl5 m1 m2 m3 m4;obtain⟨d0,d1,d2,TN,TP,df2,hl,_,_⟩:=HL2.o.c3 1 rfl;obtain⟨x0,x1,x2,x3,x4,x5,x6,_,hl5,_,_⟩:=HL2.o.c7 2 rfl;have m1:b3≠w2.heap.size:=(by omega);have m2:=Ne.symm m1;have m3:b5≠w2.heap.size:=(by omega);have m4:=Ne.symm m3)
  |(go_at_call 288;refine(Gs.o.Va 0 rfl a2 c2 SC x hcap HP.o hnx hlen).mono ?_;rintro e w2 ⟨err,a',cap',rs',rfl,hcp,hc,P',hP',hL⟩;have HL2:=hdq hL;(simp only[sZq]at HL2);have HC:=hdq hc;have LU:=hdq hcp;have WI:=hdq hP';clear hL hc hcp hP' d0 d1 d2 TN TP df2 hl x0 x1 x2 x3 x4 x5 x6 hl5;obtain⟨d0,d1,d2,TN,TP,df2,hl,_,_⟩:=HL2.o.c3 1 rfl;obtain⟨x0,x1,x2,x3,x4,x5,x6,_,hl5,_,_⟩:=HL2.o.c7 2 rfl;obtain⟨k0,kf,hlk,_,_⟩:=HL2.o.c1 4 rfl))
 all_goals rename_i hHeld
 all_goals clear hHeld Gj Gs m1 m2 m3 m4
 all_goals clear d0 d1 d2 TN TP df2 hl x0 x1 x2 x3 x4 x5 x6 hl5
 all_goals refine Sw (Q:=Exit.then _ _) ?_
 all_goals intro w5 DC
 all_goals first
  |(have k0':=k0;clear k0';have BH:=hdq ((HL2.o.set 4 rfl 0 (.slice a' rs'.length cap')).via DC);(simp only[sSq,sZq,sAq]at BH);clear DC HL2 k0 kf hlk;obtain⟨b9,FK⟩:∃b,w1.heap.size=b:=⟨_,rfl⟩;rw[FK]at BH|-;clear FK)
  |(have BH:=hdq ((HL2.o.alloc 36 #[.slice a' rs'.length cap']).via DC);clear DC HL2;obtain⟨b9,FK⟩:∃b,w2.heap.size=b:=⟨_,rfl⟩;rw[FK]at BH|-;clear FK)
 all_goals
  (try simp only[nAq,cAq]at BH)
  obtain⟨d0,d1,d2,TN,TP,df2,hl,_,_⟩:=BH.o.c3 1 rfl;obtain⟨u0,u1,u2,Z8,Z9,uf2,hu,_,_⟩:=BH.o.c3 3 rfl;obtain⟨k0,kf,hlk,_,_⟩:=BH.o.c1 4 rfl;have n1:=BH.o.ne 1 3 rfl rfl (by decide);have n2:=Ne.symm n1;have n3:=BH.o.ne 1 4 rfl rfl (by decide);have n4:=Ne.symm n3;go_wp2;have Db:=hdq ((((BH.o.set 1 rfl 2 (.slice a' rs'.length cap')).set 3 rfl 0 (.int .i64 cell)).set 3 rfl 1 (.slice a1 LY.length c1)).set 3 rfl 2 (.slice a' rs'.length cap'));simp only[sSq,sZq,sAq]at Db;obtain⟨s0,s1,s2,_⟩:=Db.o.c3 3 rfl;refine bodyPost_ret (v:= .tuple #[Sr cell a1 LY.length c1 a' rs'.length cap',err]) (by simp[results,results224,go_sem,s0,s1,s2,Sr]) rfl ?_;exact⟨err,a',cap',rs',_,rfl,LU.o,HC.o,P',WI.o,Db.o⟩
section
open Go.Shelf Go.RowKit
set_option maxRecDepth 1000000
theorem nan_c(x:Int)(w:World):Calls prog 303 #[x] w fun e w'=>e= .returned (.bool false)/\w'=w:=by
 go_enter func303,ntmps303
 go_wp2;go_ret
 simp
theorem uN(x:Int)(w:World):Calls prog 279 #[x] w fun e w'=>e= .returned (.bool false)/\w'=w:=by
 go_enter func279,ntmps279
 go_wp2;go_ret
 simp
theorem qx(x y:Int)(w:World):Calls prog 278 #[x,y] w fun e w'=>e= .returned (.bool (decide (x<y)))/\w'=w:=by
 go_enter func278,ntmps278
 go_wp2_with (go_at_call 303;refine(nan_c _ _).mono ?_;rintro e w' ⟨rfl,rfl⟩)
 go_ret
 exact⟨rfl,rfl⟩
def uj(l:List Int)(x:Int)(w:World)(e:Ending)(w':World):Prop:=∃(k:Int) (f:Bool),e= .returned (.tuple #[k,f])/\(f=true↔x∈l)/\Touch [] w w'
theorem yo{l:List Int}{x:Int}{i:Nat}(hlo:∀t (ht:t<l.length),t<i->l[t]<x)(hhi:∀t (ht:t<l.length),i<=t->x<=l[t])(hinc:∀s t (hs:s<l.length) (ht:t<l.length),s<t->l[s]<l[t]):x∈l↔∃h:i<l.length,l[i]=x:=by
 constructor
 .intro hx
  obtain⟨t,ht,he⟩:=List.getElem_of_mem hx;have h1:i<=t:=by
   by_cases hti:t<i
   .have :=hlo t ht hti;omega
   .omega
  by_cases h2:i=t
  .subst h2;exact⟨ht,he⟩
  .have h3:=hinc i t (by omega) ht (by omega)
   have h4:=hhi i (by omega) (Nat.le_refl _);omega
 .rintro⟨h,he⟩
  exact he▸List.getElem_mem h
theorem Ae(w:World)(a:Option Addr)(c:Nat)(l:List Int)(x:Int)(h:aG w a 1 l.length (l.flatMap fq))(hinc:∀s t (hs:s<l.length) (ht:t<l.length),s<t->l[s]<l[t]):
  Calls prog 209 #[.slice a l.length c,x] w (uj l x w):=by
 have HR:=hdq h;have hsz:=h.1;have F7:=hdq hinc;clear h hinc;go_enter func209,ntmps209
 go_wp2;go_loopw [7,8] (fun p q wr=>∃i j:Nat,p= .int .i64 (i:Int)/\q= .int .i64 (j:Int)/\i<=j/\j<=l.length/\Hid (Touch [] w wr)/\Hid ((∀t (ht:t<l.length),t<i->l[t]<x)/\∀t (ht:t<l.length),j<=t->x<=l[t])) (fun p q _=>(intOf q).toNat-(intOf p).toNat)
 case atStart=>exact⟨0,l.length,rfl,rfl,Nat.zero_le _,Nat.le_refl _,Touch.refl _ _,fun t ht h0=>absurd h0 (Nat.not_lt_zero _),fun t ht h1=>by omega⟩
 case round=>
  obtain⟨i,j,rfl,rfl,hij,hjl,HT,HB⟩:=hrel;by_cases hlt:i<j
  .obtain⟨b,o,hba,hb,hc⟩:=aG.at (f:=fq) (fun _=>rfl) HR.o ((i+j) / 2) (by omega)
   have hm:=HT.o.cellOf (hc 0 Nat.one_pos);obtain⟨y,hy⟩:∃y,l[(i+j) / 2]'(by omega)=y:=⟨_,rfl⟩;have HY:=hdq hy;rw[hy,Nat.mul_one,Nat.add_zero]at hm;have hm2:wr.cell? ⟨b,o+(i+j) / 2,none⟩=some (.int .i64 y):=hm;rw[hba];clear hc hy hm hb hba;by_cases hyx:y<x
   .skip
    go_wp2_with (first |(go_at_call 278;refine(qx _ _ _).mono ?_;rintro e w' ⟨rfl,rfl⟩)|(go_at_call 279;refine(uN _ _).mono ?_;rintro e w' ⟨rfl,rfl⟩))
    go_roundw
    case rel=>
     refine⟨(i+j) / 2+1,j,by rw[show((i:Int)+(j:Int)) / 2+1=(((i+j) / 2+1:Nat):Int) by omega],rfl,by omega,hjl,HT,fun t ht hti=>?_,HB.o.2⟩;by_cases h2:t=(i+j) / 2
     .subst h2;rw[HY.o];exact hyx
     .have :=F7.o t ((i+j) / 2) ht (by omega) (by omega)
      rw[HY.o]at this;omega
    case measure=>simp[intOf];omega
   .skip
    go_wp2_with (first |(go_at_call 278;refine(qx _ _ _).mono ?_;rintro e w' ⟨rfl,rfl⟩)|(go_at_call 279;refine(uN _ _).mono ?_;rintro e w' ⟨rfl,rfl⟩))
    go_roundw
    case rel=>
     refine⟨i,(i+j) / 2,rfl,by rw[show((i:Int)+(j:Int)) / 2=(((i+j) / 2:Nat):Int) by omega],by omega,by omega,HT,HB.o.1,fun t ht hti=>?_⟩;by_cases h2:t=(i+j) / 2
     .subst h2;rw[HY.o];omega
     .have :=F7.o ((i+j) / 2) t (by omega) ht (by omega)
      rw[HY.o]at this;omega
    case measure=>simp[intOf];omega
  .obtain rfl:i=j:=by omega
   have HM:=hdq (yo HB.o.1 HB.o.2 F7.o);by_cases hn:i<l.length
   .obtain⟨b,o,hba,hb,hc⟩:=aG.at (f:=fq) (fun _=>rfl) HR.o i hn
    have hm:=HT.o.cellOf (hc 0 Nat.one_pos);obtain⟨y,hy⟩:∃y,l[i]=y:=⟨_,rfl⟩;have Hl:Hid (x∈l↔y=x):=HM.o.trans ⟨fun⟨_,h⟩=>hy▸h,fun h=>⟨hn,hy.trans h⟩⟩;rw[hy,Nat.mul_one,Nat.add_zero]at hm;have hm2:wr.cell? ⟨b,o+i,none⟩=some (.int .i64 y):=hm;rw[hba];clear hc hy hm hb hba HM;by_cases hyx:y=x
    .have HE:Hid (uj l x w (.returned (.tuple #[(i:Int),true])) wr):=⟨_,true,rfl,by simp[Hl.o,hyx],HT.o⟩
     go_wp2_with (first |(go_at_call 278;refine(qx _ _ _).mono ?_;rintro e w' ⟨rfl,rfl⟩)|(go_at_call 279;refine(uN _ _).mono ?_;rintro e w' ⟨rfl,rfl⟩))
     go_ret2
     exact HE.o
    .have HE:Hid (uj l x w (.returned (.tuple #[(i:Int),false])) wr):=⟨_,false,rfl,by simp[Hl.o,hyx],HT.o⟩
     have hb2:(y==x)=false:=by simpa using hyx
     go_wp2_with (first |(go_at_call 278;refine(qx _ _ _).mono ?_;rintro e w' ⟨rfl,rfl⟩)|(go_at_call 279;refine(uN _ _).mono ?_;rintro e w' ⟨rfl,rfl⟩))
     go_ret2
     (try rw[hb2])
     exact HE.o
   .have HE:Hid (uj l x w (.returned (.tuple #[(i:Int),false])) wr):=⟨_,false,rfl,by simp[HM.o];omega,HT.o⟩
    clear HM;go_wp2_with (first |(go_at_call 278;refine(qx _ _ _).mono ?_;rintro e w' ⟨rfl,rfl⟩)|(go_at_call 279;refine(uN _ _).mono ?_;rintro e w' ⟨rfl,rfl⟩))
    go_ret2
    exact HE.o
end
end Go.Proofs.YtegejdlglonflaaGreatDoor
