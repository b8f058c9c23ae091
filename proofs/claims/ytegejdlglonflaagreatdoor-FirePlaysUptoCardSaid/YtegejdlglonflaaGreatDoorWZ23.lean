/-
  Texts of FirePlays, laid together by program.
-/
import Derived.Test.YtegejdlglonflaaGreatDoorWZ22
import Derived.Lib.Walk
namespace Go.Proofs.YtegejdlglonflaaGreatDoor
open Go.RowKit Go.Shelf Go.Proofs.Tryz
set_option maxRecDepth 100000
set_option maxHeartbeats 8000000
set_option linter.unusedVariables false
set_option linter.unusedSimpArgs false
def Sr(cell:Int)(a1:Option Addr)(n1 c1:Nat)(a2:Option Addr)(n2 c2:Nat):Value:= .agg #[cell,.slice a1 n1 c1,.slice a2 n2 c2]
theorem Sz(cell:Int)(a1:Option Addr)(n1 c1:Nat)(a2:Option Addr)(n2 c2:Nat):Sr cell a1 n1 c1 a2 n2 c2= .agg #[cell,.slice a1 n1 c1,.slice a2 n2 c2]:=rfl
def jV(s:Int):Int:=if s=1 then 0 else if s=2 then 1 else -1
theorem uH(w:World)(s:Int):Calls prog 194 #[s] w fun e w'=>e= .returned (.int .i64 (jV s))/\w=w':=by
 by_cases h1:s=1
 .subst h1
  go_enter func194,ntmps194
  go_wp2;go_ret
  exact⟨rfl,rfl⟩
 by_cases h2:s=2
 .subst h2
  go_enter func194,ntmps194
  go_wp2;go_ret
  exact⟨rfl,rfl⟩
 .have h1':(s==1)=false:=by simp[h1]
  have h2':(s==2)=false:=by simp[h2]
  have ho:jV s= -1:=by unfold jV;rw[if_neg h1,if_neg h2]
  go_enter func194,ntmps194
  go_wp2;go_ret
  exact⟨by rw[ho];rfl,rfl⟩
theorem vS(w:World)(s:Int)(hs: -1000000<=s/\s<=1000000):Calls prog 223 #[s] w fun e w'=>e= .returned (.int .i64 (bM s))/\w=w':=by
 by_cases h1:s=1
 .subst h1
  go_enter func223,ntmps223
  go_wp2_with fail
  refine(uH _ _).mono ?_;rintro e w' ⟨rfl,rfl⟩;rw[show jV 1=0 from rfl];go_wp2;go_ret
  exact⟨rfl,rfl⟩
 by_cases h2:s=2
 .subst h2
  go_enter func223,ntmps223
  go_wp2_with fail
  refine(uH _ _).mono ?_;rintro e w' ⟨rfl,rfl⟩;rw[show jV 2=1 from rfl];go_wp2;go_ret
  exact⟨rfl,rfl⟩
 .have ho:jV s= -1:=by unfold jV;rw[if_neg h1,if_neg h2]
  have hoo:bM s=0:=by unfold bM;rw[if_neg h1,if_neg h2]
  go_enter func223,ntmps223
  go_wp2_with fail
  refine(uH _ _).mono ?_;rintro e w' ⟨rfl,rfl⟩;rw[ho];go_wp2;go_ret
  exact⟨by rw[hoo];rfl,rfl⟩
section
variable (w:World) (cell:Int) (a1:Option Addr) (n1 c1:Nat) (a2:Option Addr) (n2 c2:Nat)
theorem VQ(s:Int):Calls prog 92 #[Sr cell a1 n1 c1 a2 n2 c2,s] w fun e w'=>e= .returned (if s=1 then .slice a1 n1 c1 else if s=2 then .slice a2 n2 c2 else .slice none 0 0)/\Touch [] w w':=by
 have BB:=hdq ((BD.nil' w).alloc 185 #[cell,.slice a1 n1 c1,.slice a2 n2 c2]);simp only[nAq]at BB;obtain⟨d0,d1,d2,_,_,_,hl,_,_⟩:=BB.o.c3 0 rfl;rw[Sz];by_cases h1:s=1
 .subst h1
  go_enter func92,ntmps92
  go_wp2_with fail
  refine(uH _ _).mono ?_;rintro e w' ⟨rfl,rfl⟩;rw[show jV 1=0 from rfl];go_wp2;go_ret
  exact⟨rfl,BB.o.BN⟩
 by_cases h2:s=2
 .subst h2
  go_enter func92,ntmps92
  go_wp2_with fail
  refine(uH _ _).mono ?_;rintro e w' ⟨rfl,rfl⟩;rw[show jV 2=1 from rfl];go_wp2;go_ret
  exact⟨rfl,BB.o.BN⟩
 .have ho:jV s= -1:=by unfold jV;rw[if_neg h1,if_neg h2]
  go_enter func92,ntmps92
  go_wp2_with fail
  refine(uH _ _).mono ?_;rintro e w' ⟨rfl,rfl⟩;rw[ho];go_wp2;go_ret
  exact⟨by simp[h1,h2],BB.o.BN⟩
end
theorem Sw{Q:Exit->Act->World->Prop}{ex:Exit}{a:Act}{W:World}(h:∀w2,W=w2->Q ex a w2):Q ex a W:=h W rfl
def QU(rs:List ME)(x:ME)(err:Int)(rs':List ME):Prop:=(err=2/\¬x.plain.Ok/\rs'=rs)\/(err=6/\x.plain.Ok/\rs.length=4096/\rs'=rs)\/(err=0/\x.plain.Ok/\rs.length<4096/\rs'=rs++[x])
theorem UB(T:List Nat)(w:World)(P:World->Prop)(cell:Int)(a1:Option Addr)(c1:Nat)(LY:List ME)(a2:Option Addr)(c2:Nat)(SC:List ME)(x:ME)(hcap:LY.length<=c1)(h:BD T w w [aA P])(hP:∀W,P W->fo W a1 LY/\x.v.In W)(hnx:x.v.nodes<=1048576)(hlen:LY.length<=4096):
  Calls prog 224 #[Sr cell a1 LY.length c1 a2 SC.length c2,(1:Int),x.val] w fun e w'=>∃(err:Int) (a':Option Addr) (cap':Nat) (rs':List ME) (rest:List ai),e= .returned (.tuple #[Sr cell a' rs'.length cap' a2 SC.length c2,err])/\rs'.length<=cap'/\QU LY x err rs'/\∃P':World->Prop,(∀W,P' W->P W/\fo W a' rs')/\BD T w w' (aA P'::rest):=by
 have HP:=hdq hP;have BG:=hdq h;clear h hP;rw[Sz];simp only[bB];go_enter func224,ntmps224
 go_wp2_with fail
 refine ah ?_;intro w1 hw1;have BB:=hdq (BG.o.UX hw1);simp only[nAq,cAq]at BB;generalize hb6:w.heap.size+1+1=b6 at BB|-;generalize hb5:w.heap.size+1=b5 at BB|-;generalize hb3:w.heap.size=b3 at BB|-;clear hw1 hb6 hb5 hb3 BG;refine(uH _ _).mono ?_;rintro e w' ⟨rfl,rfl⟩;rw[show jV 1=0 from rfl];have Gj:=hdq BB.o.drew;have Gs:=hdq (BB.o.alloc 36 #[True]).drew;simp only[nAq,cAq]at Gs;obtain⟨d0,d1,d2,TN,TP,df2,hl,_,_⟩:=BB.o.c3 1 rfl;obtain⟨x0,x1,x2,x3,x4,x5,x6,_,hl5,_,_⟩:=BB.o.c7 2 rfl;have m1:b3≠w1.heap.size:=by omega
 have m2:=Ne.symm m1;have m3:b5≠w1.heap.size:=by omega
 have m4:=Ne.symm m3;go_wp2_with fail
 go_region_held3 (fun w'=>(w'.cell? ⟨b3,0,none⟩=some (.int .i64 cell)/\w'.cell? ⟨b3,1,none⟩=some (.slice a1 LY.length c1)/\w'.cell? ⟨b3,2,none⟩=some (.slice a2 SC.length c2))/\w'.cell? ⟨b5,0,none⟩=some (.int .i64 x.sync)/\w'.cell? ⟨b5,1,none⟩=some (.int .i64 x.thread)/\w'.cell? ⟨b5,2,none⟩=some (.int .i64 x.branch)/\w'.cell? ⟨b5,3,none⟩=some (.int .i64 x.flag)/\w'.cell? ⟨b5,4,none⟩=some (.int .i64 x.v.kind)/\w'.cell? ⟨b5,5,none⟩=some (.int .i64 x.v.num)/\w'.cell? ⟨b5,6,none⟩=some (.slice x.v.addr x.v.parts.length x.v.cap)) (go_keep) (first
  |(go_at_call 288;refine(Gj.o.Va 0 rfl a1 c1 LY x hcap HP.o hnx hlen).mono ?_;rintro e w2 ⟨err,a',cap',rs',rfl,hcp,hc,P',hP',hL⟩;have HL2:=hdq hL;(simp only[sZq]at HL2);have HC:=hdq hc;have LU:=hdq hcp;have WI:=hdq hP';clear hL hc hcp hP' d0 d1 d2 TN TP df2 hl x0 x1 x2 x3 x4 x5 x6 hl5 m1 m2 m3 m4;obtain⟨d0,d1,d2,TN,TP,df2,hl,_,_⟩:=HL2.o.c3 1 rfl;obtain⟨x0,x1,x2,x3,x4,x5,x6,_,hl5,_,_⟩:=HL2.o.c7 2 rfl;have m1:b3≠w2.heap.size:=(by omega);have m2:=Ne.symm m1;have m3:b5≠w2.heap.size:=(by omega);have m4:=Ne.symm m3)
  |(go_at_call 288;refine(Gs.o.Va 0 rfl a1 c1 LY x hcap HP.o hnx hlen).mono ?_;rintro e w2 ⟨err,a',cap',rs',rfl,hcp,hc,P',hP',hL⟩;have HL2:=hdq hL;(simp only[sZq]at HL2);have HC:=hdq hc;have LU:=hdq hcp;have WI:=hdq hP';clear hL hc hcp hP' d0 d1 d2 TN TP df2 hl x0 x1 x2 x3 x4 x5 x6 hl5;obtain⟨d0,d1,d2,TN,TP,df2,hl,_,_⟩:=HL2.o.c3 1 rfl;obtain⟨x0,x1,x2,x3,x4,x5,x6,_,hl5,_,_⟩:=HL2.o.c7 2 rfl;obtain⟨k0,kf,hlk,_,_⟩:=HL2.o.c1 4 rfl))
 all_goals rename_i hHeld
 all_goals clear hHeld Gj Gs m1 m2 m3 m4
 all_goals clear d0 d1 d2 TN TP df2 hl x0 x1 x2 x3 x4 x5 x6 hl5
 all_goals refine Sw (Q:=Exit.then _ _) ?_
 all_goals intro w5 DC
 all_goals first
  |(have k0':=k0;clear k0';have BH:=hdq ((HL2.o.set 4 rfl 0 (.slice a' rs'.length cap')).via DC);(simp only[sSq,sZq,sAq]at BH);clear DC HL2 k0 kf hlk;obtain⟨b9,FK⟩:∃b,w1.heap.size=b:=⟨_,rfl⟩;rw[FK]at BH|-;clear FK)
  |(have BH:=hdq ((HL2.o.alloc 36 #[.slice a' rs'.length cap']).via DC);clear DC HL2;obtain⟨b9,FK⟩:∃b,w2.heap.size=b:=⟨_,rfl⟩;rw[FK]at BH|-;clear FK)
 all_goals
  (try simp only[nAq,cAq]at BH)
  obtain⟨d0,d1,d2,TN,TP,df2,hl,_,_⟩:=BH.o.c3 1 rfl;obtain⟨u0,u1,u2,Z8,Z9,uf2,hu,_,_⟩:=BH.o.c3 3 rfl;obtain⟨k0,kf,hlk,_,_⟩:=BH.o.c1 4 rfl;have n1:=BH.o.ne 1 3 rfl rfl (by decide);have n2:=Ne.symm n1;have n3:=BH.o.ne 1 4 rfl rfl (by decide);have n4:=Ne.symm n3;go_wp2;have Db:=hdq ((((BH.o.set 1 rfl 1 (.slice a' rs'.length cap')).set 3 rfl 0 (.int .i64 cell)).set 3 rfl 1 (.slice a' rs'.length cap')).set 3 rfl 2 (.slice a2 SC.length c2));simp only[sSq,sZq,sAq]at Db;obtain⟨s0,s1,s2,_⟩:=Db.o.c3 3 rfl;refine bodyPost_ret (v:= .tuple #[Sr cell a' rs'.length cap' a2 SC.length c2,err]) (by simp[results,results224,go_sem,s0,s1,s2,Sr]) rfl ?_;exact⟨err,a',cap',rs',_,rfl,LU.o,HC.o,P',WI.o,Db.o⟩
theorem Uv(T:List Nat)(w:World)(P:World->Prop)(cell:Int)(a1:Option Addr)(c1:Nat)(LY:List ME)(a2:Option Addr)(c2:Nat)(SC:List ME)(x:ME)(hcap:SC.length<=c2)(h:BD T w w [aA P])(hP:∀W,P W->fo W a2 SC/\x.v.In W)(hnx:x.v.nodes<=1048576)(hlen:SC.length<=4096):
  Calls prog 224 #[Sr cell a1 LY.length c1 a2 SC.length c2,(2:Int),x.val] w fun e w'=>∃(err:Int) (a':Option Addr) (cap':Nat) (rs':List ME) (rest:List ai),e= .returned (.tuple #[Sr cell a1 LY.length c1 a' rs'.length cap',err])/\rs'.length<=cap'/\QU SC x err rs'/\∃P':World->Prop,(∀W,P' W->P W/\fo W a' rs')/\BD T w w' (aA P'::rest):=by
 have HP:=hdq hP;have BG:=hdq h;clear h hP;rw[Sz];simp only[bB];go_enter func224,ntmps224
 go_wp2_with fail
 refine ah ?_;intro w1 hw1;have BB:=hdq (BG.o.UX hw1);simp only[nAq,cAq]at BB;generalize hb6:w.heap.size+1+1=b6 at BB|-;generalize hb5:w.heap.size+1=b5 at BB|-;generalize hb3:w.heap.size=b3 at BB|-;clear hw1 hb6 hb5 hb3 BG;refine(uH _ _).mono ?_;rintro e w' ⟨rfl,rfl⟩;rw[show jV 2=1 from rfl];have Gj:=hdq BB.o.drew;have Gs:=hdq (BB.o.alloc 36 #[True]).drew;simp only[nAq,cAq]at Gs;obtain⟨d0,d1,d2,TN,TP,df2,hl,_,_⟩:=BB.o.c3 1 rfl;obtain⟨x0,x1,x2,x3,x4,x5,x6,_,hl5,_,_⟩:=BB.o.c7 2 rfl;have m1:b3≠w1.heap.size:=by omega
 have m2:=Ne.symm m1;have m3:b5≠w1.heap.size:=by omega
 have m4:=Ne.symm m3;go_wp2_with fail
 go_region_held3 (fun w'=>(w'.cell? ⟨b3,0,none⟩=some (.int .i64 cell)/\w'.cell? ⟨b3,1,none⟩=some (.slice a1 LY.length c1)/\w'.cell? ⟨b3,2,none⟩=some (.slice a2 SC.length c2))/\w'.cell? ⟨b5,0,none⟩=some (.int .i64 x.sync)/\w'.cell? ⟨b5,1,none⟩=some (.int .i64 x.thread)/\w'.cell? ⟨b5,2,none⟩=some (.int .i64 x.branch)/\w'.cell? ⟨b5,3,none⟩=some (.int .i64 x.flag)/\w'.cell? ⟨b5,4,none⟩=some (.int .i64 x.v.kind)/\w'.cell? ⟨b5,5,none⟩=some (.int .i64 x.v.num)/\w'.cell? ⟨b5,6,none⟩=some (.slice x.v.addr x.v.parts.length x.v.cap)) (go_keep) (first
  |(go_at_call 288;refine(Gj.o.Va 0 rfl a2 c2 SC x hcap HP.o hnx hlen).mono ?_;rintro e w2 ⟨err,a',cap',rs',rfl,hcp,hc,P',hP',hL⟩;have HL2:=hdq hL;(simp only[sZq]at HL2);have HC:=hdq hc;have LU:=hdq hcp;have WI:=hdq hP';clear hL hc hcp hP' d0 d1 d2 TN TP df2 hl x0 x1 x2 x3 x4 x5 x6 hl5 m1 m2 m3 m4;obtain⟨d0,d1,d2,TN,TP,df2,hl,_,_⟩:=HL2.o.c3 1 rfl;obtain⟨x0,x1,x2,x3,x4,x5,x6,_,hl5,_,_⟩:=HL2.o.c7 2 rfl;have m1:b3≠w2.heap.size:=(by omega);have m2:=Ne.symm m1;have m3:b5≠w2.heap.size:=(by omega);have m4:=Ne.symm m3)
  |(go_at_call 288;refine(Gs.o.Va 0 rfl a2 c2 SC x hcap HP.o hnx hlen).mono ?_;rintro e w2 ⟨err,a',cap',rs',rfl,hcp,hc,P',hP',hL⟩;have HL2:=hdq hL;(simp only[sZq]at HL2);have HC:=hdq hc;have LU:=hdq hcp;have WI:=hdq hP';clear hL hc hcp hP' d0 d1 d2 TN TP df2 hl x0 x1 x2 x3 x4 x5 x6 hl5;obtain⟨d0,d1,d2,TN,TP,df2,hl,_,_⟩:=HL2.o.c3 1 rfl;obtain⟨x0,x1,x2,x3,x4,x5,x6,_,hl5,_,_⟩:=HL2.o.c7 2 rfl;obtain⟨k0,kf,hlk,_,_⟩:=HL2.o.c1 4 rfl))
 all_goals rename_i hHeld
 all_goals clear hHeld Gj Gs m1 m2 m3 m4
 all_goals clear d0 d1 d2 TN TP df2 hl x0 x1 x2 x3 x4 x5 x6 hl5
 all_goals refine Sw (Q:=Exit.then _ _) ?_
 all_goals intro w5 DC
 all_goals first
  |(have k0':=k0;clear k0';have BH:=hdq ((HL2.o.set 4 rfl 0 (.slice a' rs'.length cap')).via DC);(simp only[sSq,sZq,sAq]at BH);clear DC HL2 k0 kf hlk;obtain⟨b9,FK⟩:∃b,w1.heap.size=b:=⟨_,rfl⟩;rw[FK]at BH|-;clear FK)
  |(have BH:=hdq ((HL2.o.alloc 36 #[.slice a' rs'.length cap']).via DC);clear DC HL2;obtain⟨b9,FK⟩:∃b,w2.heap.size=b:=⟨_,rfl⟩;rw[FK]at BH|-;clear FK)
 all_goals
  (try simp only[nAq,cAq]at BH)
  obtain⟨d0,d1,d2,TN,TP,df2,hl,_,_⟩:=BH.o.c3 1 rfl;obtain⟨u0,u1,u2,Z8,Z9,uf2,hu,_,_⟩:=BH.o.c3 3 rfl;obtain⟨k0,kf,hlk,_,_⟩:=BH.o.c1 4 rfl;have n1:=BH.o.ne 1 3 rfl rfl (by decide);have n2:=Ne.symm n1;have n3:=BH.o.ne 1 4 rfl rfl (by decide);have n4:=Ne.symm n3;go_wp2;have Db:=hdq ((((BH.o.set 1 rfl 2 (.slice a' rs'.length cap')).set 3 rfl 0 (.int .i64 cell)).set 3 rfl 1 (.slice a1 LY.length c1)).set 3 rfl 2 (.slice a' rs'.length cap'));simp only[sSq,sZq,sAq]at Db;obtain⟨s0,s1,s2,_⟩:=Db.o.c3 3 rfl;refine bodyPost_ret (v:= .tuple #[Sr cell a1 LY.length c1 a' rs'.length cap',err]) (by simp[results,results224,go_sem,s0,s1,s2,Sr]) rfl ?_;exact⟨err,a',cap',rs',_,rfl,LU.o,HC.o,P',WI.o,Db.o⟩
section
open Go.Shelf Go.RowKit
set_option maxRecDepth 1000000
theorem nan_c(x:Int)(w:World):Calls prog 303 #[x] w fun e w'=>e= .returned (.bool false)/\w'=w:=by
 go_enter func303,ntmps303
 go_wp2;go_ret
 simp
theorem uN(x:Int)(w:World):Calls prog 279 #[x] w fun e w'=>e= .returned (.bool false)/\w'=w:=by
 go_enter func279,ntmps279
 go_wp2;go_ret
 simp
theorem qx(x y:Int)(w:World):Calls prog 278 #[x,y] w fun e w'=>e= .returned (.bool (decide (x<y)))/\w'=w:=by
 go_enter func278,ntmps278
 go_wp2_with (go_at_call 303;refine(nan_c _ _).mono ?_;rintro e w' ⟨rfl,rfl⟩)
 go_ret
 exact⟨rfl,rfl⟩
def uj(l:List Int)(x:Int)(w:World)(e:Ending)(w':World):Prop:=∃(k:Int) (f:Bool),e= .returned (.tuple #[k,f])/\(f=true↔x∈l)/\Touch [] w w'
theorem yo{l:List Int}{x:Int}{i:Nat}(hlo:∀t (ht:t<l.length),t<i->l[t]<x)(hhi:∀t (ht:t<l.length),i<=t->x<=l[t])(hinc:∀s t (hs:s<l.length) (ht:t<l.length),s<t->l[s]<l[t]):x∈l↔∃h:i<l.length,l[i]=x:=by
 constructor
 .intro hx
  obtain⟨t,ht,he⟩:=List.getElem_of_mem hx;have h1:i<=t:=by
   by_cases hti:t<i
   .have :=hlo t ht hti;omega
   .omega
  by_cases h2:i=t
  .subst h2;exact⟨ht,he⟩
  .have h3:=hinc i t (by omega) ht (by omega)
   have h4:=hhi i (by omega) (Nat.le_refl _);omega
 .rintro⟨h,he⟩
  exact he▸List.getElem_mem h
theorem Ae(w:World)(a:Option Addr)(c:Nat)(l:List Int)(x:Int)(h:aG w a 1 l.length (l.flatMap fq))(hinc:∀s t (hs:s<l.length) (ht:t<l.length),s<t->l[s]<l[t]):
  Calls prog 209 #[.slice a l.length c,x] w (uj l x w):=by
 have HR:=hdq h;have hsz:=h.1;have F7:=hdq hinc;clear h hinc;go_enter func209,ntmps209
 go_wp2;go_loopw [7,8] (fun p q wr=>∃i j:Nat,p= .int .i64 (i:Int)/\q= .int .i64 (j:Int)/\i<=j/\j<=l.length/\Hid (Touch [] w wr)/\Hid ((∀t (ht:t<l.length),t<i->l[t]<x)/\∀t (ht:t<l.length),j<=t->x<=l[t])) (fun p q _=>(intOf q).toNat-(intOf p).toNat)
 case atStart=>exact⟨0,l.length,rfl,rfl,Nat.zero_le _,Nat.le_refl _,Touch.refl _ _,fun t ht h0=>absurd h0 (Nat.not_lt_zero _),fun t ht h1=>by omega⟩
 case round=>
  obtain⟨i,j,rfl,rfl,hij,hjl,HT,HB⟩:=hrel;by_cases hlt:i<j
  .obtain⟨b,o,hba,hb,hc⟩:=aG.at (f:=fq) (fun _=>rfl) HR.o ((i+j) / 2) (by omega)
   have hm:=HT.o.cellOf (hc 0 Nat.one_pos);obtain⟨y,hy⟩:∃y,l[(i+j) / 2]'(by omega)=y:=⟨_,rfl⟩;have HY:=hdq hy;rw[hy,Nat.mul_one,Nat.add_zero]at hm;have hm2:wr.cell? ⟨b,o+(i+j) / 2,none⟩=some (.int .i64 y):=hm;rw[hba];clear hc hy hm hb hba;by_cases hyx:y<x
   .skip
    go_wp2_with (first |(go_at_call 278;refine(qx _ _ _).mono ?_;rintro e w' ⟨rfl,rfl⟩)|(go_at_call 279;refine(uN _ _).mono ?_;rintro e w' ⟨rfl,rfl⟩))
    go_roundw
    case rel=>
     refine⟨(i+j) / 2+1,j,by rw[show((i:Int)+(j:Int)) / 2+1=(((i+j) / 2+1:Nat):Int) by omega],rfl,by omega,hjl,HT,fun t ht hti=>?_,HB.o.2⟩;by_cases h2:t=(i+j) / 2
     .subst h2;rw[HY.o];exact hyx
     .have :=F7.o t ((i+j) / 2) ht (by omega) (by omega)
      rw[HY.o]at this;omega
    case measure=>simp[intOf];omega
   .skip
    go_wp2_with (first |(go_at_call 278;refine(qx _ _ _).mono ?_;rintro e w' ⟨rfl,rfl⟩)|(go_at_call 279;refine(uN _ _).mono ?_;rintro e w' ⟨rfl,rfl⟩))
    go_roundw
    case rel=>
     refine⟨i,(i+j) / 2,rfl,by rw[show((i:Int)+(j:Int)) / 2=(((i+j) / 2:Nat):Int) by omega],by omega,by omega,HT,HB.o.1,fun t ht hti=>?_⟩;by_cases h2:t=(i+j) / 2
     .subst h2;rw[HY.o];omega
     .have :=F7.o ((i+j) / 2) t (by omega) ht (by omega)
      rw[HY.o]at this;omega
    case measure=>simp[intOf];omega
  .obtain rfl:i=j:=by omega
   have HM:=hdq (yo HB.o.1 HB.o.2 F7.o);by_cases hn:i<l.length
   .obtain⟨b,o,hba,hb,hc⟩:=aG.at (f:=fq) (fun _=>rfl) HR.o i hn
    have hm:=HT.o.cellOf (hc 0 Nat.one_pos);obtain⟨y,hy⟩:∃y,l[i]=y:=⟨_,rfl⟩;have Hl:Hid (x∈l↔y=x):=HM.o.trans ⟨fun⟨_,h⟩=>hy▸h,fun h=>⟨hn,hy.trans h⟩⟩;rw[hy,Nat.mul_one,Nat.add_zero]at hm;have hm2:wr.cell? ⟨b,o+i,none⟩=some (.int .i64 y):=hm;rw[hba];clear hc hy hm hb hba HM;by_cases hyx:y=x
    .have HE:Hid (uj l x w (.returned (.tuple #[(i:Int),true])) wr):=⟨_,true,rfl,by simp[Hl.o,hyx],HT.o⟩
     go_wp2_with (first |(go_at_call 278;refine(qx _ _ _).mono ?_;rintro e w' ⟨rfl,rfl⟩)|(go_at_call 279;refine(uN _ _).mono ?_;rintro e w' ⟨rfl,rfl⟩))
     go_ret2
     exact HE.o
    .have HE:Hid (uj l x w (.returned (.tuple #[(i:Int),false])) wr):=⟨_,false,rfl,by simp[Hl.o,hyx],HT.o⟩
     have hb2:(y==x)=false:=by simpa using hyx
     go_wp2_with (first |(go_at_call 278;refine(qx _ _ _).mono ?_;rintro e w' ⟨rfl,rfl⟩)|(go_at_call 279;refine(uN _ _).mono ?_;rintro e w' ⟨rfl,rfl⟩))
     go_ret2
     (try rw[hb2])
     exact HE.o
   .have HE:Hid (uj l x w (.returned (.tuple #[(i:Int),false])) wr):=⟨_,false,rfl,by simp[HM.o];omega,HT.o⟩
    clear HM;go_wp2_with (first |(go_at_call 278;refine(qx _ _ _).mono ?_;rintro e w' ⟨rfl,rfl⟩)|(go_at_call 279;refine(uN _ _).mono ?_;rintro e w' ⟨rfl,rfl⟩))
    go_ret2
    exact HE.o
end
section
theorem Yj{P:Program}(w:World)(a:Addr)(m:Mode):(store a .nilFunc m).run P w=stored P w a .nilFunc m:=run_store P w a _ m rfl
theorem YW{P:Program}(w:World)(a:Addr)(m:Mode)(f:Fn)(x y:Array Value):(store a (.func f x y) m).run P w=stored P w a (.func f x y) m:=run_store P w a _ m rfl
attribute [local go_sem] Yj YW
def YD(T:List Nat)(w0:World)(R:Option Nat->Int->List ai->Prop)(e:Ending)(w':World):Prop:=∃(o:Option Nat) (er:Int) (l':List ai),((∃v,o=some v/\er=0/\e= .returned (.tuple #[(.func (.func 307) #[] #[.pointer (some ⟨v,0,none⟩)]),()]))\/(o=none/\e= .returned (.tuple #[.nilFunc,er])))/\R o er l'/\BD T w0 w' l'
theorem Ul(T:List Nat)(w0 w:World)(l:List ai)(p q:Nat)(FP er:Int)(h:BD T w0 w (box p 278 #[.nilFunc]::box q 67 #[FP]::l)):
  CallsD prog 299 #[p,q] (.panicking (aX er)) w fun e u' w'=>e= .returned (.tuple #[])/\u'= .panicking [{v:=eB er,recovered:=true}]/\BD T w0 w' (box p 278 #[.nilFunc]::box q 67 #[er]::l):=by
 have HL:=hdq h;clear h;refine callsD_of_wpS func299 rfl fun c₀ cs hu=>?_;apply wpS_seq
 apply wpS_region
 simp[wpOpsS,go_sem,recoverD,hu,ntmps299,Exit.thenS,aX]
 apply wpS_seq
 apply wpS_region
 have hq:=l8 249 (.agg #[er]);simp[wpOpsS,go_sem,Exit.thenS,eB,hq]
 refine wpS_cond (t:=true) (by simp[Act.eval,Array.replicate]) ?_;simp only[if_true];refine wpS_of_wp ?_;simp only[Array.replicate_succ,Array.replicate_zero,List.push_toArray,List.append_toArray,sAq,sZq,sSq,nAq,cAq];have GZ:=dS er;obtain⟨p0,p1,zp,CK,CO⟩:=HL.o.c1 0 rfl;obtain⟨q0,q1,zq,Fb,Fg⟩:=HL.o.c1 1 rfl;have hpq:=HL.o.ne 0 1 rfl rfl (by decide);have F9:=Ne.symm hpq;clear hu hq;go_wp2_with fail
 go_region
 all_goals
  have BF:=hdq ((((HL.o.set 0 rfl 0 (.nilFunc)).set 1 rfl 0 (.int .i64 er)).alloc 249 #[er]).drew);have BH:=hdq (BD.aF (l:=[_,_]++l) BF.o);exact⟨rfl,_,rfl,.tuple #[],results_none rfl _ _ _,rfl,rfl,BH.o⟩
theorem Uj(w:World)(p q:Addr):CallsD prog 299 #[.pointer (some p),.pointer (some q)] .returning w fun e u' w'=>e= .returned (.tuple #[])/\u'= .returning/\w=w':=by
 refine callsD_of_wpS func299 rfl fun c₀ cs hu=>?_;apply wpS_seq
 apply wpS_region
 simp[wpOpsS,go_sem,recoverD,hu,ntmps299,Exit.thenS]
 apply wpS_seq
 apply wpS_region
 have hq:∀w,(binOp .neq 20 .nilIface .nilIface).run prog w= .ok (.bool false) w:=fun w=>by kernel_rfl
 simp[wpOpsS,go_sem,Exit.thenS,hq]
 refine wpS_cond (t:=false) (by simp[Act.eval,Array.replicate]) ?_;simp only[Bool.false_eq_true,if_false];refine wpS_of_wp (wp_skip ?_);cases c₀
 simp_all [bodyPostS,results,results299]
theorem Vh(T:List Nat)(w0 w:World)(l:List ai)(D:FuncId)(caps:Array Value)(R:Option Nat->Int->List ai->Prop)(h:BD T w0 w l)(hen:∀args w,(callFunc D args).run prog w= .ok (.enter D args) w)(hd:∀T' W,BD T' W W l->Calls prog D caps W fun e w'=>∃(o:Option Nat) (er:Int) (l':List ai),((∃v,o=some v/\er=0/\e= .returned (.func (.func 307) #[] #[.pointer (some ⟨v,0,none⟩)]))\/(o=none/\e= .panicked (aX er)))/\R o er l'/\BD T' W w' l'):
  Calls prog 265 #[.func (.func D) #[] caps] w fun e w'=>YD T w0 R e w':=by
 have Ep:= @mfq;have BG:=hdq h;have HD:=hdq hd;clear h hd;go_enter_defers func265,ntmps265
 go_wp2_with fail
 refine ah ?_;intro w1 hw1;have BB:=hdq (BG.o.DZ hw1);generalize hq:w.heap.size+1=q at BB|-;generalize hp:w.heap.size=p at BB|-;clear hw1 hq hp BG;obtain⟨T',hF,hb⟩:=BD.aN (m:=l) (r:=[box p 278 #[.nilFunc],box q 67 #[()]]) (by simpa using BB.o);refine(HD.o T' _ hF).mono ?_;rintro e w2 ⟨o,er,l',he,hR,hL⟩;have HL2:=hdq (BD.aB (a:=[]) (b:=l') (c:=[box p 278 #[.nilFunc],box q 67 #[()]]) (by simpa using hb _ _ hL));simp only[nAq,cAq]at HL2;have HR:=hdq hR;clear hL hR hF hb BB HD;rcases he with ⟨v,rfl,rfl,rfl⟩|⟨rfl,rfl⟩
 .obtain⟨p0,p1,zp,_,_⟩:=HL2.o.c1 0 rfl
  obtain⟨q0,q1,zq,_,_⟩:=HL2.o.c1 1 rfl;have hpq:=HL2.o.ne 0 1 rfl rfl (by decide);have F9:=Ne.symm hpq;have BF:=hdq ((HL2.o.set 0 rfl 0 (.func (.func 307) #[] #[.pointer (some ⟨v,0,none⟩)])).set 1 rfl 0 (.int .i64 0));simp only[sSq,sZq,sAq]at BF;dsimp only;go_wp2_with fail
  refine leaves_cons (f:=299) (args:=#[.pointer (some ⟨p,0,none⟩),.pointer (some ⟨q,0,none⟩)]) (by simp) (by simp[go_sem]) ?_;refine(Uj _ _ _).mono ?_;rintro e u' w'' ⟨rfl,rfl,rfl⟩;obtain⟨r0,_,_,_,_⟩:=BF.o.c1 0 rfl;obtain⟨r1,_,_,_,_⟩:=BF.o.c1 1 rfl;refine⟨.tuple #[(.func (.func 307) #[] #[.pointer (some ⟨v,0,none⟩)]),()],by simp[results,results265,go_sem,r0,r1],some v,0,l',.inl ⟨v,rfl,rfl,rfl⟩,HR.o,?_⟩;exact BF.o.aB (a:=[]) (b:=[_,_]) (c:=l') |>.aF
 .dsimp only
  refine leaves_cons (f:=299) (args:=#[.pointer (some ⟨p,0,none⟩),.pointer (some ⟨q,0,none⟩)]) (by simp) (by simp[go_sem]) ?_;refine(Ul T w0 w2 l' p q 0 er HL2.o).mono ?_;rintro e u' w'' ⟨rfl,rfl,hL⟩;have BF:=hdq hL;obtain⟨r0,_,_,_,_⟩:=BF.o.c1 0 rfl;obtain⟨r1,_,_,_,_⟩:=BF.o.c1 1 rfl;refine⟨.tuple #[.nilFunc,er],by simp[results,results265,go_sem,r0,r1],none,er,l',.inr ⟨rfl,rfl⟩,HR.o,?_⟩;exact BD.aF (BD.aB (a:=[]) (b:=[_,_]) (c:=l') BF.o)
end
def Ac(N:Nat)(l:List Int):Prop:=(∀t (h:t<l.length),0<=l[t]/\l[t]<(N:Int))/\∀s t (hs:s<l.length) (ht:t<l.length),s<t->l[s]<l[t]
def yU(N:Nat)(l:List Int)(w:World)(e:Ending)(w':World):Prop:=∃b:Bool,e= .returned (.bool b)/\(b=true↔Ac N l)/\w=w'
theorem uG(w:World)(wb:Nat)(a2:Option Addr)(n2 c2:Nat)(hw:w.cell? ⟨wb,2,none⟩=some (.slice a2 n2 c2))(a:Option Addr)(c:Nat)(l:List Int)(h:aG w a 1 l.length (l.flatMap fq)):
  Calls prog 110 #[wb,.slice a l.length c] w (yU n2 l w):=by
 have HR:=hdq h;have hsz:=h.1;clear h;have zw:=World.block_lt_of_cell? _ _ hw;go_enter func110,ntmps110
 go_wp2;go_loopw [5,10] (fun p q wr=>∃(j:Nat) (last:Int),q= .int .i64 (j:Int)/\p= .int .i64 last/\j<=l.length/\wr=w/\ -9223372036854775808<=last/\Hid ((∀t (h:t<l.length),t<j->0<=l[t]/\l[t]<(n2:Int))/\(∀s t (hs:s<l.length) (ht:t<l.length),s<t->t<j->l[s]<l[t])/\ -1<=last/\(∀t (h:t<l.length),t<j->l[t]<=last)/\(last= -1\/∃t,∃h:t<l.length,t<j/\l[t]=last))) (fun _ q _=>l.length-(intOf q).toNat)
 case atStart=>exact⟨0, -1,rfl,rfl,Nat.zero_le _,rfl,by omega,fun t h h0=>absurd h0 (Nat.not_lt_zero _),fun s t hs ht hst h0=>absurd h0 (Nat.not_lt_zero _),by omega,fun t h h0=>absurd h0 (Nat.not_lt_zero _),.inl rfl⟩
 case round=>
  obtain⟨j,last,rfl,rfl,hj,rfl,hl64,HI⟩:=hrel;have hj0:(0:Int)<=(j:Int):=by omega
  by_cases hjl:j<l.length
  .have Cc:(j:Int)<(l.length:Int):=by omega
   obtain⟨b,o,hba,hb,hc⟩:=aG.at (f:=fq) (fun _=>rfl) HR.o j hjl;have hm:=hc 0 Nat.one_pos;obtain⟨y,hy⟩:∃y,l[j]=y:=⟨_,rfl⟩;rw[hy,Nat.mul_one,Nat.add_zero]at hm;have hm2:wr.cell? ⟨b,o+j,none⟩=some (.int .i64 y):=hm;have FR:Hid (y<=last->yU n2 l wr (.returned (.bool false)) wr):=fun hle=>⟨false,rfl,by
    simp only[Bool.false_eq_true,false_iff];rintro⟨g1,g2⟩;rcases HI.o.2.2.2.2 with h1|⟨t,ht,htj,hte⟩
    .have :=(g1 j hjl).1;omega
    .have :=g2 t j ht hjl htj;omega,rfl⟩
   have Gy:Hid ((n2:Int)<=y->yU n2 l wr (.returned (.bool false)) wr):=fun hle=>⟨false,rfl,by
    simp only[Bool.false_eq_true,false_iff];rintro⟨g1,g2⟩;have :=(g1 j hjl).2;omega,rfl⟩
   have HY:=hdq hy;rw[hba];clear hc hy hm hb hba;by_cases h1:y<=last
   .have HE:=hdq (FR.o h1)
    go_wp2;go_ret
    exact HE.o
   .have hd1:decide (y<=last)=false:=decide_eq_false h1
    by_cases h2:(n2:Int)<=y
    .have HE:=hdq (Gy.o h2)
     go_wp2;go_ret
     exact HE.o
    .have hd2:decide ((n2:Int)<=y)=false:=decide_eq_false h2
     go_wp2;go_roundw
     case rel=>
      refine⟨j+1,y,by go_num,(by first |rfl|trivial),by omega,(by first |rfl|trivial),by have :=HI.o.2.2.1;omega,fun t ht htj=>?_,fun s t hs ht hst htj=>?_,by have :=HI.o.2.2.1;omega,fun t ht htj=>?_,.inr ⟨j,hjl,by omega,HY.o⟩⟩
      .by_cases Im:t=j
       .subst Im;rw[HY.o];have :=HI.o.2.2.1;omega
       .exact HI.o.1 t ht (by omega)
      .by_cases Im:t=j
       .subst Im;rw[HY.o];have :=HI.o.2.2.2.1 s hs hst;omega
       .exact HI.o.2.1 s t hs ht hst (by omega)
      .by_cases Im:t=j
       .subst Im;rw[HY.o];omega
       .have :=HI.o.2.2.2.1 t ht (by omega);omega
     case measure=>simp[intOf];omega
  .obtain rfl:j=l.length:=by omega
   have HE:Hid (yU n2 l wr (.returned (.bool true)) wr):=⟨true,rfl,by simp only[true_iff];exact⟨fun t h=>HI.o.1 t h h,fun s t hs ht hst=>HI.o.2.1 s t hs ht hst ht⟩,rfl⟩;go_wp2;go_ret
   exact HE.o
def Di(D:FuncId):Value:= .func (.func D) #[] #[]
def pW:Obj:= .map #[⟨.int .i64 5,Di 272,0⟩,⟨.int .i64 6,Di 273,1⟩,⟨.int .i64 7,Di 274,2⟩,⟨.int .i64 8,Di 275,3⟩,⟨.int .i64 13,Di 276,4⟩] 5
theorem AX(W:World):(Instr.makeMap 303 none).run prog W= .ok (.map (some W.heap.size)) (W.alloc (.map #[] 0)):=by
 have hk:=underlying303;simp[Instr.makeMap,run_underlying hk]
theorem kU(w:World)(M:Nat)(es:Array MapEntry)(clock:Nat)(hr:w.heap[M]? =some (.map es clock))(s:Int)(hf:Instr.findNow (.int .i64) (.int .i64 s) es.toList 0=some none)(v:Value):
  (Instr.mapUpdate 303 (.map (some M)) (.int .i64 s) v).run prog w= .ok () (w.putObj M (.map (es.push ⟨.int .i64 s,v,clock⟩) (clock+1))):=by
 simp[Instr.mapUpdate,run_underlying underlying303,bX hr,bO false 9999 underlying55,bR underlying55 s es.toList hf,ny _ hr]
theorem Ou(w:World):Calls prog 207 #[] w fun e w'=>∃M,e= .returned (.map (some M))/\BD [] w w' [fZ M pW]:=by
 have hmk:=AX w;have BB:=hdq ((BD.nil' w).xK (.map #[] 0));simp only[nAq]at BB;have hm1:=kU _ w.heap.size #[] 0 (BB.o.G8 0 rfl) 5 (by kernel_rfl) (.func (.func 272) #[] #[]);have HL2:=hdq (BB.o.gq 0 rfl (.map #[⟨.int .i64 5,Di 272,0⟩] 1));simp only[sZq]at HL2;have hm2:=kU _ w.heap.size #[⟨.int .i64 5,Di 272,0⟩] 1 (HL2.o.G8 0 rfl) 6 (by kernel_rfl) (.func (.func 273) #[] #[]);have BF:=hdq (HL2.o.gq 0 rfl (.map #[⟨.int .i64 5,Di 272,0⟩,⟨.int .i64 6,Di 273,1⟩] 2));simp only[sZq]at BF;have hm3:=kU _ w.heap.size #[⟨.int .i64 5,Di 272,0⟩,⟨.int .i64 6,Di 273,1⟩] 2 (BF.o.G8 0 rfl) 7 (by kernel_rfl) (.func (.func 274) #[] #[]);have BH:=hdq (BF.o.gq 0 rfl (.map #[⟨.int .i64 5,Di 272,0⟩,⟨.int .i64 6,Di 273,1⟩,⟨.int .i64 7,Di 274,2⟩] 3));simp only[sZq]at BH;have hm4:=kU _ w.heap.size #[⟨.int .i64 5,Di 272,0⟩,⟨.int .i64 6,Di 273,1⟩,⟨.int .i64 7,Di 274,2⟩] 3 (BH.o.G8 0 rfl) 8 (by kernel_rfl) (.func (.func 275) #[] #[]);have Ca:=hdq (BH.o.gq 0 rfl (.map #[⟨.int .i64 5,Di 272,0⟩,⟨.int .i64 6,Di 273,1⟩,⟨.int .i64 7,Di 274,2⟩,⟨.int .i64 8,Di 275,3⟩] 4));simp only[sZq]at Ca;have hm5:=kU _ w.heap.size #[⟨.int .i64 5,Di 272,0⟩,⟨.int .i64 6,Di 273,1⟩,⟨.int .i64 7,Di 274,2⟩,⟨.int .i64 8,Di 275,3⟩] 4 (Ca.o.G8 0 rfl) 13 (by kernel_rfl) (.func (.func 276) #[] #[]);have Db:=hdq (Ca.o.gq 0 rfl (.map #[⟨.int .i64 5,Di 272,0⟩,⟨.int .i64 6,Di 273,1⟩,⟨.int .i64 7,Di 274,2⟩,⟨.int .i64 8,Di 275,3⟩,⟨.int .i64 13,Di 276,4⟩] 5));simp only[sZq]at Db;simp only[List.push_toArray,nAq,cAq,Nat.reduceAdd,Di]at hm1 hm2 hm3 hm4 hm5;go_enter func207,ntmps207
 clear BB HL2 BF BH Ca;go_wp2;go_ret
 exact⟨_,rfl,Db.o⟩
theorem wO(w:World):(zeroValue 301).run prog w= .ok .nilFunc w:=by kernel_rfl
def j5(k:Int):Option FuncId:=if k=5 then some 272 else if k=6 then some 273 else if k=7 then some 274 else if k=8 then some 275 else if k=13 then some 276 else none
def rY(k:Int):Value:=match j5 k with
 |some D=>Di D
 |none=> .nilFunc
theorem Ad(w:World)(M:Nat)(h:w.heap[M]? =some pW)(k:Int):(Instr.lookup 303 (.map (some M)) (.int .i64 k) true).run prog w= .ok (.tuple #[rY k,.bool (j5 k).isSome]) w:=by
 unfold pW at h;have hu:=underlying303;have hk:=underlying55;unfold rY j5;by_cases h5:k=5
 .subst h5
  have hf:Instr.findNow (.int .i64) (.int .i64 5) [⟨.int .i64 5,Di 272,0⟩,⟨.int .i64 6,Di 273,1⟩,⟨.int .i64 7,Di 274,2⟩,⟨.int .i64 8,Di 275,3⟩,⟨.int .i64 13,Di 276,4⟩] 0=some (some (0,Di 272)):=by kernel_rfl
  simp[Instr.lookup,run_underlying hu,bX h,bO false 9999 hk,bR hk 5 _ hf]
 by_cases h6:k=6
 .subst h6
  have hf:Instr.findNow (.int .i64) (.int .i64 6) [⟨.int .i64 5,Di 272,0⟩,⟨.int .i64 6,Di 273,1⟩,⟨.int .i64 7,Di 274,2⟩,⟨.int .i64 8,Di 275,3⟩,⟨.int .i64 13,Di 276,4⟩] 0=some (some (1,Di 273)):=by kernel_rfl
  simp[Instr.lookup,run_underlying hu,bX h,bO false 9999 hk,bR hk 6 _ hf]
 by_cases h7:k=7
 .subst h7
  have hf:Instr.findNow (.int .i64) (.int .i64 7) [⟨.int .i64 5,Di 272,0⟩,⟨.int .i64 6,Di 273,1⟩,⟨.int .i64 7,Di 274,2⟩,⟨.int .i64 8,Di 275,3⟩,⟨.int .i64 13,Di 276,4⟩] 0=some (some (2,Di 274)):=by kernel_rfl
  simp[Instr.lookup,run_underlying hu,bX h,bO false 9999 hk,bR hk 7 _ hf]
 by_cases h8:k=8
 .subst h8
  have hf:Instr.findNow (.int .i64) (.int .i64 8) [⟨.int .i64 5,Di 272,0⟩,⟨.int .i64 6,Di 273,1⟩,⟨.int .i64 7,Di 274,2⟩,⟨.int .i64 8,Di 275,3⟩,⟨.int .i64 13,Di 276,4⟩] 0=some (some (3,Di 275)):=by kernel_rfl
  simp[Instr.lookup,run_underlying hu,bX h,bO false 9999 hk,bR hk 8 _ hf]
 by_cases FY:k=13
 .subst FY
  have hf:Instr.findNow (.int .i64) (.int .i64 13) [⟨.int .i64 5,Di 272,0⟩,⟨.int .i64 6,Di 273,1⟩,⟨.int .i64 7,Di 274,2⟩,⟨.int .i64 8,Di 275,3⟩,⟨.int .i64 13,Di 276,4⟩] 0=some (some (4,Di 276)):=by kernel_rfl
  simp[Instr.lookup,run_underlying hu,bX h,bO false 9999 hk,bR hk 13 _ hf]
 have hf:Instr.findNow (.int .i64) (.int .i64 k) [⟨.int .i64 5,Di 272,0⟩,⟨.int .i64 6,Di 273,1⟩,⟨.int .i64 7,Di 274,2⟩,⟨.int .i64 8,Di 275,3⟩,⟨.int .i64 13,Di 276,4⟩] 0=some none:=by
  have e5:Instr.sameNow (.int .i64) (.int .i64 k) (.int .i64 5)=some false:=by simp[Instr.sameNow,h5]
  have e6:Instr.sameNow (.int .i64) (.int .i64 k) (.int .i64 6)=some false:=by simp[Instr.sameNow,h6]
  have e7:Instr.sameNow (.int .i64) (.int .i64 k) (.int .i64 7)=some false:=by simp[Instr.sameNow,h7]
  have e8:Instr.sameNow (.int .i64) (.int .i64 k) (.int .i64 8)=some false:=by simp[Instr.sameNow,h8]
  have e13:Instr.sameNow (.int .i64) (.int .i64 k) (.int .i64 13)=some false:=by simp[Instr.sameNow,FY]
  simp[Instr.findNow,e5,e6,e7,e8,e13]
 simp[Instr.lookup,run_underlying hu,bX h,bO false 9999 hk,bR hk k _ hf,wO w,h5,h6,h7,h8,FY]
def MB.Mem(w:World)(b:MB):Prop:=b.v.In w/\(aG w b.wa 2 b.wraps.length (b.wraps.flatMap MC.cells)/\∀c∈b.wraps,(c.args.length<=2000000/\MT.dK w c.a c.args)/\∀t∈c.args,t.In w)/\aG w b.na 1 b.aT.length (b.aT.flatMap fq)
theorem MB.Mem.aW{w w':World}{b:MB}(h:b.Mem w)(ht:Touch [] w w'):b.Mem w':=⟨h.1.aO ht,⟨h.2.1.1.aW ht,fun c hm=>⟨⟨(h.2.1.2 c hm).1.1,(h.2.1.2 c hm).1.2.aW ht⟩,fun t ZV=>((h.2.1.2 c hm).2 t ZV).aO ht⟩⟩,h.2.2.aW ht⟩
def dm(n1 n2:Nat)(b:MB):Prop:=
 (b.kind=5/\(0<=b.n/\b.n<(n1:Int))/\b.v.plain.Ok)\/(b.kind=6/\(0<=b.n/\b.n<(n1:Int))/\b.v.E8)\/(b.kind=7/\b.n=0/\b.v.plain.Ok)\/(b.kind=8/\b.n=0/\b.v.E8)\/(b.kind=13/\(0<=b.n/\b.n<(n2:Int))/\b.v.E8)
def eD(n1 n2:Nat)(l:List Int)(b:MB):Prop:=dm n1 n2 b/\b.wraps.length<=32/\b.aT.length<=32/\(∀c∈b.wraps,∀t∈c.args,t.plain.Ok)/\∀k∈b.aT,k∈l
theorem BA{n1 n2:Nat}{b:MB}(h:j5 b.kind=none):¬dm n1 n2 b:=by
 unfold j5 at h;unfold dm;rintro(⟨h1,_⟩|⟨h1,_⟩|⟨h1,_⟩|⟨h1,_⟩|⟨h1,_⟩)<;>simp[h1]at h
theorem fits_w(b:MB)(w:World)(wb:Nat)(a1:Option Addr)(n1 c1:Nat)(a2:Option Addr)(n2 c2:Nat)(hw1:w.cell? ⟨wb,1,none⟩=some (.slice a1 n1 c1))(hw2:w.cell? ⟨wb,2,none⟩=some (.slice a2 n2 c2))(hb:b.v.In w)(D:FuncId)(hD:j5 b.kind=some D):
  (∀args w,(callFunc D args).run prog w= .ok (.enter D args) w)/\∀W,Touch [] w W->Calls prog D #[wb,b.val] W (aI (dm n1 n2 b) W):=by
 unfold j5 at hD;split at hD
 .rename_i hk
  injection hD with hD;subst hD
  refine⟨enters_of func272 (by kernel_rfl) rfl,fun W hW=>(Mr b W wb a1 n1 c1 (hb.aO hW) (hW.cellOf hw1)).mono fun e w' h=>lu h ?_ (Touch.refl _ _)⟩;simp[dm,hk]
 split at hD
 .rename_i _ hk
  injection hD with hD;subst hD
  refine⟨enters_of func273 (by kernel_rfl) rfl,fun W hW=>(yw b W wb a1 n1 c1 (hb.aO hW) (hW.cellOf hw1)).mono fun e w' h=>lu h ?_ (Touch.refl _ _)⟩;simp[dm,hk]
 split at hD
 .rename_i _ _ hk
  injection hD with hD;subst hD
  refine⟨enters_of func274 (by kernel_rfl) rfl,fun W hW=>(J8 b W _ (hb.aO hW)).mono fun e w' h=>lu h ?_ (Touch.refl _ _)⟩;simp[dm,hk]
 split at hD
 .rename_i _ _ _ hk
  injection hD with hD;subst hD
  refine⟨enters_of func275 (by kernel_rfl) rfl,fun W hW=>(NU b W _ (hb.aO hW)).mono fun e w' h=>lu h ?_ (Touch.refl _ _)⟩;simp[dm,hk]
 split at hD
 .rename_i _ _ _ _ hk
  injection hD with hD;subst hD
  refine⟨enters_of func276 (by kernel_rfl) rfl,fun W hW=>(MH b W wb a2 n2 c2 (hb.aO hW) (hW.cellOf hw2)).mono fun e w' h=>lu h ?_ (Touch.refl _ _)⟩;simp[dm,hk]
 .cases hD
def nI(n1 n2:Nat)(l:List Int)(b:MB)(w:World):Ending->World->Prop:=aI (eD n1 n2 l b) w
theorem Nh(b:MB)(w:World)(wb:Nat)(a1:Option Addr)(n1 c1:Nat)(a2:Option Addr)(n2 c2:Nat)(hw1:w.cell? ⟨wb,1,none⟩=some (.slice a1 n1 c1))(hw2:w.cell? ⟨wb,2,none⟩=some (.slice a2 n2 c2))(hb:b.Mem w)(a:Option Addr)(c:Nat)(l:List Int)(hl:aG w a 1 l.length (l.flatMap fq))(hinc:∀s t (hs:s<l.length) (ht:t<l.length),s<t->l[s]<l[t]):
  Calls prog 111 #[wb,b.val,.slice a l.length c] w (nI n1 n2 l b w):=by
 have HB:=hdq hb;have hdl:b.wraps.length<=2000000/\b.aT.length<=2000000:=⟨hb.2.1.1.1,hb.2.2.1⟩;have HS:=hdq (fun W (hW:Touch [] w W) x=>Ae W a c l x (hl.aW hW) hinc);have HF:=hdq (fun W (hW:Touch [] w W) D hD=>(fits_w b W wb a1 n1 c1 a2 n2 c2 (hW.cellOf hw1) (hW.cellOf hw2) (hb.1.aO hW) D hD));have HW:Hid (wb<w.heap.size):=World.block_lt_of_cell? _ _ hw1;have DJ:Hid (∀W,Touch [] w W->¬eD n1 n2 l b->nI n1 n2 l b w (.returned (.bool false)) W):=fun W hW h=>⟨false,rfl,by simp[h],hW⟩;have Dj:Hid (∀W,Touch [] w W->eD n1 n2 l b->nI n1 n2 l b w (.returned (.bool true)) W):=fun W hW h=>⟨true,rfl,by simp[h],hW⟩;have HKN:Hid (j5 b.kind=none->¬eD n1 n2 l b):=fun h h2=>BA h h2.1;clear hw1 hw2 hb hl hinc;simp only[MB.val];go_enter func111,ntmps111
 go_upto_region 1 with fail
 refine ay ?_;intro w1 hw0;have BB:=hdq ((BD.nil' w).DN hw0);simp only[nAq]at BB;generalize hb4:w.heap.size=b4 at BB|-;clear hw0 hb4;obtain⟨x0,x1,x2,x3,x4,x5,x6,⟨xf0,xf1,Gd,Gh,GK,Gn,Gr⟩,zx,_,_⟩:=BB.o.c7 0 rfl;go_wp2_with fail
 refine hrq (S:=fun w'=>w'.cell? ⟨b4,0,none⟩=some (.int .i64 b.kind)) fun hHeld=>?_;refine tkq 1 19 ?_;refine tkq 2 20 ?_;refine rdq 0 rfl fun K hK=>?_;go_simp;refine(Ou _).mono ?_;rintro en w2 ⟨M,rfl,hL⟩;have HL2:=hdq (BB.o.drew.join hL);simp only[nAq,cAq]at HL2;have hlk:=Ad w2 M (HL2.o.G8 1 rfl) b.kind;clear hL BB x0 x1 x2 x3 x4 x5 x6 xf0 xf1 Gd Gh GK Gn Gr zx hHeld;obtain⟨x0,x1,x2,x3,x4,x5,x6,⟨xf0,xf1,Gd,Gh,GK,Gn,Gr⟩,zx,_,_⟩:=HL2.o.c7 0 rfl;go_simp;refine kpq hK.o fun hHeld=>?_;clear hK K;refine opq 3 fun hHeld=>?_;refine tkq 4 17 ?_;refine tkq 5 22 ?_;refine tkq 6 23 ?_;refine tkq 7 7 ?_;refine tkq 8 8 ?_;refine dnq ?_;clear hHeld hlk;rcases hk:j5 b.kind with _|D
 .have hkv:rY b.kind= .nilFunc:=by unfold rY;rw[hk]
  have HE:=hdq (DJ.o w2 HL2.o.BN (HKN.o hk));rw[hkv];simp only[Option.isSome_none];clear hk hkv DJ Dj HKN HF HS HB;go_wp2;go_ret
  exact HE.o
 .have hkv:rY b.kind= .func (.func D) #[] #[]:=by unfold rY;rw[hk];rfl
  obtain⟨hen,hfit⟩:=HF.o w (Touch.refl [] w) D hk;have HFT:=hdq hfit;rw[hkv];simp only[Option.isSome_some];clear hk hkv HKN HF hfit;go_wp2_with fail
  refine(HFT.o w2 HL2.o.BN).mono ?_;rintro e w3 ⟨cc,rfl,hcc,ht⟩;have BF:=hdq (HL2.o.touch ht);have HC:=hdq hcc;clear ht HL2 hcc x0 x1 x2 x3 x4 x5 x6 xf0 xf1 Gd Gh GK Gn Gr zx HFT hen;obtain⟨x0,x1,x2,x3,x4,x5,x6,⟨xf0,xf1,Gd,Gh,GK,Gn,Gr⟩,zx,_,_⟩:=BF.o.c7 0 rfl;cases cc with
  |false=>
   have HE:=hdq (DJ.o w3 BF.o.BN (fun h=>by have :=HC.o.2 h.1;simp at this));clear DJ Dj HS HB HC;go_wp2;go_ret
   exact HE.o
  |true=>
   have HKO:Hid (dm n1 n2 b):=HC.o.1 rfl;clear HC;by_cases hlw:b.wraps.length<=32
   .by_cases hln:b.aT.length<=32
    .have g1:decide ((32:Int)<(b.wraps.length:Int))=false:=decide_eq_false (by omega)
     have g2:decide ((32:Int)<(b.aT.length:Int))=false:=decide_eq_false (by omega);have HW1:=hdq (HB.o.aW BF.o.BN);go_wp2;have HT3:=hdq BF.o.BN;have LV:=hdq (fun W (hW:Touch [] w3 W)=>((BF.o.touch hW).c7 0 rfl).2.2.2.2.2.2.1);have N9:=hdq HW1.o.2.1;have Gb:=hdq HW1.o.2.2;clear x0 x1 x2 x3 x4 x5 x6 xf0 xf1 Gd Gh GK Gn Gr zx BF HW1 HB g1 g2;go_loopw [48] (fun p wr=>∃i:Nat,p= .int .i64 (i:Int)/\i<=b.wraps.length/\Hid (Touch [] w3 wr)/\Hid (∀q (hq:q<b.wraps.length),q<i->∀t∈b.wraps[q].args,t.plain.Ok)) (fun p _=>b.wraps.length-(intOf p).toNat)
     case atStart=>exact⟨0,rfl,Nat.zero_le _,Touch.refl _ _,fun q hq h0=>absurd h0 (Nat.not_lt_zero _)⟩
     case round=>
      obtain⟨i,rfl,hi,HT,HA⟩:=hrel;have hi0:(0:Int)<=(i:Int):=by omega
      by_cases hil:i<b.wraps.length
      .have EM:(i:Int)<(b.wraps.length:Int):=by omega
       obtain⟨bw,ow,hba,hbw,hcc⟩:=aG.at (f:=MC.cells) (fun _=>rfl) (N9.o.1.aW HT.o) i hil;have HCM:=hdq (N9.o.2 _ (List.getElem_mem hil));have Fw:Hid (∀W,Touch [] w W->(∃t∈b.wraps[i].args,¬t.plain.Ok)->nI n1 n2 l b w (.returned (.bool false)) W):=fun W hW ⟨t,ht,hno⟩=>DJ.o W hW (fun h=>hno (h.2.2.2.1 _ (List.getElem_mem hil) t ht));have Fz:Hid ((∀t∈b.wraps[i].args,t.plain.Ok)->∀q (hq:q<b.wraps.length),q<i+1->∀t∈b.wraps[q].args,t.plain.Ok):=fun h q hq hqi=>by
        by_cases hqe:q=i
        .subst hqe;exact h
        .exact HA.o q hq (by omega)
       have q0:=hcc 0 (by omega);have q1:=hcc 1 (by omega);generalize b.wraps[i]=cm at HCM Fw Fz q0 q1;have q0':wr.cell? ⟨bw,ow+i*2,none⟩=some (.int .i64 cm.fn):=q0;have q1':wr.cell? ⟨bw,ow+i*2+1,none⟩=some (.slice cm.a cm.args.length cm.cap):=q1;rw[hba];clear hcc q0 q1 hba;go_wp2;have F6:=hdq (HT.o.alloc (.cells #[cm.fn,.slice cm.a cm.args.length cm.cap] 306));clear q0' q1' hbw HT;go_loopw [55] (fun p wr2=>∃j:Nat,p= .int .i64 (j:Int)/\j<=cm.args.length/\Hid (Touch [] w3 wr2)/\Hid (∀q (hq:q<cm.args.length),q<j->cm.args[q].plain.Ok)) (fun p _=>cm.args.length-(intOf p).toNat)
       case atStart=>exact⟨0,rfl,Nat.zero_le _,F6,fun q hq h0=>absurd h0 (Nat.not_lt_zero _)⟩
       case round=>
        obtain⟨j,rfl,hj,HT,HJ⟩:=hrel;clear F6;have hj0:(0:Int)<=(j:Int):=by omega
        have hcl:=HCM.o.1.1;by_cases hjl:j<cm.args.length
        .have Cc:(j:Int)<(cm.args.length:Int):=by have :=HCM.o.1.1;omega
         obtain⟨ba,oa,OY,hbb,k0,k1,k2⟩:=(HCM.o.1.2.aW HT.o).cellAt hjl;have HTI:=hdq ((HCM.o.2 _ (List.getElem_mem hjl)).aO HT.o);have EK:Hid (¬cm.args[j].plain.Ok->∀W,Touch [] w W->nI n1 n2 l b w (.returned (.bool false)) W):=fun h W hW=>Fw.o W hW ⟨_,List.getElem_mem hjl,h⟩;have EL:Hid (cm.args[j].plain.Ok->∀q (hq:q<cm.args.length),q<j+1->cm.args[q].plain.Ok):=fun h q hq hqj=>by
          by_cases hqe:q=j
          .subst hqe;exact h
          .exact HJ.o q hq (by omega)
         generalize cm.args[j]=u at k0 k1 k2 HTI EK EL;simp only[MT.sl]at k2;rw[OY];clear OY;go_wp2_with fail
         refine ah ?_;intro w5 DC;have Ho:Hid (Touch [] wr w5):=DC▸(Touch.refl [] wr).alloc _;clear DC k0 k1 k2 hbb;refine(jH u w5 (HTI.o.aO Ho.o)).mono ?_;rintro e w6 ⟨⟨z,rfl,hz,hiff⟩,ht⟩;have Fu:=hdq ((HT.o.trans' Ho.o).trans' ht);by_cases hok:u.plain.Ok
         .obtain rfl:=hiff.2 hok
          have HJ2:=hdq (EL.o hok);clear ht Ho HT hz hiff hok EK EL HTI;go_wp2;go_roundw
          case rel=>exact⟨j+1,by go_num,by omega,Fu,HJ2⟩
          case measure=>simp[intOf];omega
         .obtain rfl:z=40:=hz.resolve_left (fun h=>hok (hiff.1 h))
          have HE:=hdq (EK.o hok w6 (HT3.o.trans' Fu.o));clear ht Ho HT hz hiff hok EK EL HTI;go_wp2;go_ret
          exact HE.o
        .have Cc:¬(j:Int)<(cm.args.length:Int):=by omega
         have HA2:=hdq (Fz.o (fun t ht=>by
          obtain⟨q,hq,rfl⟩:=List.getElem_of_mem ht;exact HJ.o q hq (by omega)))
         clear Fz HJ Fw;go_wp2;go_roundw
         case rel=>exact⟨i+1,by go_num,by omega,HT,HA2⟩
         case measure=>simp[intOf];omega
      .have EM:¬(i:Int)<(b.wraps.length:Int):=by omega
       have HAW:Hid (∀cm∈b.wraps,∀t∈cm.args,t.plain.Ok):=fun cm hm=>by
        obtain⟨q,hq,rfl⟩:=List.getElem_of_mem hm;exact HA.o q hq (by omega)
       have x6:=LV.o wr HT.o;have zx:=World.block_lt_of_cell? _ _ x6;clear HA N9;go_wp2;have HT0:=hdq HT.o;clear x6 zx;go_loopw [67] (fun p wr2=>∃i:Nat,p= .int .i64 (i:Int)/\i<=b.aT.length/\Hid (Touch [] w3 wr2)/\Hid (∀q (hq:q<b.aT.length),q<i->b.aT[q]∈l)) (fun p _=>b.aT.length-(intOf p).toNat)
       case atStart=>exact⟨0,rfl,Nat.zero_le _,HT0,fun q hq h0=>absurd h0 (Nat.not_lt_zero _)⟩
       case round=>
        clear HT HT0 EM hil;obtain⟨i,rfl,hi,HT,HA⟩:=hrel;have hi0:(0:Int)<=(i:Int):=by omega
        by_cases hil:i<b.aT.length
        .have EM:(i:Int)<(b.aT.length:Int):=by omega
         obtain⟨bw,ow,hba,hbw,hcc⟩:=aG.at (f:=fq) (fun _=>rfl) (Gb.o.aW HT.o) i hil;have Fw:Hid (b.aT[i]∉l->∀W,Touch [] w W->nI n1 n2 l b w (.returned (.bool false)) W):=fun h W hW=>DJ.o W hW (fun h2=>h (h2.2.2.2.2 _ (List.getElem_mem hil)));have Fz:Hid (b.aT[i]∈l->∀q (hq:q<b.aT.length),q<i+1->b.aT[q]∈l):=fun h q hq hqi=>by
          by_cases hqe:q=i
          .subst hqe;exact h
          .exact HA.o q hq (by omega)
         have q0:=hcc 0 Nat.one_pos;generalize b.aT[i]=k at Fw Fz q0;rw[Nat.mul_one,Nat.add_zero]at q0;have q0':wr.cell? ⟨bw,ow+i,none⟩=some (.int .i64 k):=q0;rw[hba];clear hcc q0 hba;have Fy:=hdq (HT3.o.trans' HT.o);go_wp2_with fail
         refine(HS.o _ Fy.o k).mono ?_;rintro e w6 ⟨kk,f,rfl,hf,ht⟩;have Fu:=hdq (HT.o.trans' ht);cases f with
         |true=>
          have HJ2:=hdq (Fz.o (hf.1 rfl));clear ht hf HT Fy Fw Fz q0' hbw;go_wp2;go_roundw
          case rel=>exact⟨i+1,by go_num,by omega,Fu,HJ2⟩
          case measure=>simp[intOf];omega
         |false=>
          have HE:=hdq (Fw.o (fun h=>by have :=hf.2 h;simp at this) w6 (HT3.o.trans' Fu.o));clear ht hf HT Fy Fw Fz q0' hbw;go_wp2;go_ret
          exact HE.o
        .have EM:¬(i:Int)<(b.aT.length:Int):=by omega
         have HE:=hdq (Dj.o wr (HT3.o.trans' HT.o) ⟨HKO.o,hlw,hln,HAW.o,fun k hk=>by
          obtain⟨q,hq,rfl⟩:=List.getElem_of_mem hk;exact HA.o q hq (by omega)⟩)
         clear HA HAW HKO;go_wp2;go_ret
         exact HE.o
    .have HE:=hdq (DJ.o w3 BF.o.BN (fun h=>hln h.2.2.1))
     have g1:decide ((32:Int)<(b.wraps.length:Int))=false:=decide_eq_false (by omega);have g2:(32:Int)<(b.aT.length:Int):=by omega
     clear DJ Dj HS HB HKO hln hlw;go_wp2;go_ret
     exact HE.o
   .have HE:=hdq (DJ.o w3 BF.o.BN (fun h=>hlw h.2.1))
    have g1:(32:Int)<(b.wraps.length:Int):=by omega
    clear DJ Dj HS HB HKO hlw;go_wp2;go_ret
    exact HE.o
def MB.Big(b:MB):Prop:=b.v.nodes<=1048576/\∀c∈b.wraps,∀t∈c.args,t.nodes<=1048576
structure BO where
 what:Int
 a:Int
 b:Int
 c:Int
 side:Int
 e:ME
 ba:Option Addr
 bc:Nat
 bases:List MB
 ca:Option Addr
 cc:Nat
 conds:List Int
 v:MT
def BO.cells(x:BO):List Value:=[.int .i64 x.what,.int .i64 x.a,.int .i64 x.b,.int .i64 x.c,.int .i64 x.side,.int .i64 x.e.sync,.int .i64 x.e.thread,.int .i64 x.e.branch,.int .i64 x.e.flag,.int .i64 x.e.v.kind,.int .i64 x.e.v.num,.slice x.e.v.addr x.e.v.parts.length x.e.v.cap,.slice x.ba x.bases.length x.bc,.slice x.ca x.conds.length x.cc,.int .i64 x.v.kind,.int .i64 x.v.num,.slice x.v.addr x.v.parts.length x.v.cap]
def BO.val(x:BO):Value:= .agg #[x.what,x.a,x.b,x.c,x.side,x.e.sync,x.e.thread,x.e.branch,x.e.flag,x.e.v.kind,x.e.v.num,.slice x.e.v.addr x.e.v.parts.length x.e.v.cap,.slice x.ba x.bases.length x.bc,.slice x.ca x.conds.length x.cc,x.v.kind,x.v.num,.slice x.v.addr x.v.parts.length x.v.cap]
def BO.Mem(w:World)(x:BO):Prop:=x.e.v.In w/\x.v.In w/\(aG w x.ba 7 x.bases.length (x.bases.flatMap MB.cells)/\∀b∈x.bases,b.Mem w)/\aG w x.ca 1 x.conds.length (x.conds.flatMap fq)
def BO.Big(x:BO):Prop:=x.e.v.nodes<=1048576/\x.v.nodes<=1048576/\∀b∈x.bases,b.Big
theorem BO.Mem.aW{w w':World}{x:BO}(h:x.Mem w)(ht:Touch [] w w'):x.Mem w':=⟨h.1.aO ht,h.2.1.aO ht,⟨h.2.2.1.1.aW ht,fun b hb=>(h.2.2.1.2 b hb).aW ht⟩,h.2.2.2.aW ht⟩
end Go.Proofs.YtegejdlglonflaaGreatDoor
