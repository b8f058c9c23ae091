/-
  Texts of WorldCopies, laid together by program.
-/
import Derived.Test.YtddnnapoaonmjaaGreatDoorWZ16
namespace Go.Proofs.YtddnnapoaonmjaaGreatDoor
open Go.RowKit Go.Shelf Go.Proofs.Tryz
set_option maxRecDepth 100000
set_option maxHeartbeats 8000000
set_option linter.unusedVariables false
set_option linter.unusedSimpArgs false
def N7(w:World)(p:Option Addr):Prop:=p=none\/∃b,p=some ⟨b,0,none⟩/\w.cell? ⟨b,1,none⟩=some (.map none)
theorem N7.touch{w w':World}{p:Option Addr}(h:N7 w p)(ht:Touch [] w w'):N7 w' p:=by
 rcases h with rfl|⟨b,rfl,hb⟩
 .exact .inl rfl
 .exact .inr ⟨b,rfl,ht.cellOf hb⟩
theorem OG(W:World):(Instr.index 204 (.agg #[(1:Int),(2:Int)]) (.int .i64 0)).run prog W= .ok (.int .i64 1) W:=by kernel_rfl
theorem O6(W:World):(Instr.index 204 (.agg #[(1:Int),(2:Int)]) (.int .i64 1)).run prog W= .ok (.int .i64 2) W:=by kernel_rfl
def bM(s:Int):Int:=if s=1 then 2 else if s=2 then 1 else 0
theorem zB(w:World)(s:Int)(hS:bJ w):Calls prog 194 #[s] w fun e w'=>e= .returned (.int .i64 (bM s))/\w=w':=by
 obtain⟨t0,t1⟩:=hS;have tl:0<w.heap.size:=World.block_lt_of_cell? _ _ t0;go_enter func194,ntmps194
 go_wp2_with fail
 go_loopw [6] (fun i wr=>wr=w/\(i= .int .i64 0\/(i= .int .i64 1/\s≠1)\/(i= .int .i64 2/\s≠1/\s≠2))) (fun i _=>2-(intOf i).toNat)
 case atStart=>exact⟨rfl,.inl rfl⟩
 case round=>
  obtain⟨rfl,rfl|⟨rfl,h1⟩|⟨rfl,h1,h2⟩⟩:=hrel
  .have hi:=OG wr
   by_cases hs:s=1
   .subst hs
    go_wp2;go_ret
    exact⟨rfl,rfl⟩
   .have hs':¬(1:Int)=s:=fun e=>hs e.symm
    go_wp2;go_roundw
    case rel=>exact⟨trivial,.inr (.inl ⟨by go_num,hs⟩)⟩
    case measure=>simp[intOf]
  .have hi:=O6 wr
   by_cases hs:s=2
   .subst hs
    go_wp2;go_ret
    exact⟨rfl,rfl⟩
   .have hs':¬(2:Int)=s:=fun e=>hs e.symm
    go_wp2;go_roundw
    case rel=>exact⟨trivial,.inr (.inr ⟨by go_num,h1,hs⟩)⟩
    case measure=>simp[intOf]
  .have ho:bM s=0:=by unfold bM;rw[if_neg h1,if_neg h2]
   go_wp2;go_ret
   exact⟨by rw[ho];rfl,rfl⟩
def Sr(cell:Int)(a1:Option Addr)(n1 c1:Nat)(a2:Option Addr)(n2 c2:Nat):Value:= .agg #[cell,.slice a1 n1 c1,.slice a2 n2 c2]
theorem Sz(cell:Int)(a1:Option Addr)(n1 c1:Nat)(a2:Option Addr)(n2 c2:Nat):Sr cell a1 n1 c1 a2 n2 c2= .agg #[cell,.slice a1 n1 c1,.slice a2 n2 c2]:=rfl
def jV(s:Int):Int:=if s=1 then 0 else if s=2 then 1 else -1
theorem uH(w:World)(s:Int):Calls prog 76 #[s] w fun e w'=>e= .returned (.int .i64 (jV s))/\w=w':=by
 by_cases h1:s=1
 .subst h1
  go_enter func76,ntmps76
  go_wp2;go_ret
  exact⟨rfl,rfl⟩
 by_cases h2:s=2
 .subst h2
  go_enter func76,ntmps76
  go_wp2;go_ret
  exact⟨rfl,rfl⟩
 .have h1':(s==1)=false:=by simp[h1]
  have h2':(s==2)=false:=by simp[h2]
  have ho:jV s= -1:=by unfold jV;rw[if_neg h1,if_neg h2]
  go_enter func76,ntmps76
  go_wp2;go_ret
  exact⟨by rw[ho];rfl,rfl⟩
theorem vS(w:World)(s:Int)(hs: -1000000<=s/\s<=1000000):Calls prog 231 #[s] w fun e w'=>e= .returned (.int .i64 (bM s))/\w=w':=by
 by_cases h1:s=1
 .subst h1
  go_enter func231,ntmps231
  go_wp2_with fail
  refine(uH _ _).mono ?_;rintro e w' ⟨rfl,rfl⟩;rw[show jV 1=0 from rfl];go_wp2;go_ret
  exact⟨rfl,rfl⟩
 by_cases h2:s=2
 .subst h2
  go_enter func231,ntmps231
  go_wp2_with fail
  refine(uH _ _).mono ?_;rintro e w' ⟨rfl,rfl⟩;rw[show jV 2=1 from rfl];go_wp2;go_ret
  exact⟨rfl,rfl⟩
 .have ho:jV s= -1:=by unfold jV;rw[if_neg h1,if_neg h2]
  have hoo:bM s=0:=by unfold bM;rw[if_neg h1,if_neg h2]
  go_enter func231,ntmps231
  go_wp2_with fail
  refine(uH _ _).mono ?_;rintro e w' ⟨rfl,rfl⟩;rw[ho];go_wp2;go_ret
  exact⟨by rw[hoo];rfl,rfl⟩
section
variable (w:World) (cell:Int) (a1:Option Addr) (n1 c1:Nat) (a2:Option Addr) (n2 c2:Nat)
theorem VQ(s:Int):Calls prog 18 #[Sr cell a1 n1 c1 a2 n2 c2,s] w fun e w'=>e= .returned (if s=1 then .slice a1 n1 c1 else if s=2 then .slice a2 n2 c2 else .slice none 0 0)/\Touch [] w w':=by
 have BB:=hdq ((BD.nil' w).alloc 75 #[cell,.slice a1 n1 c1,.slice a2 n2 c2]);simp only[nAq]at BB;obtain⟨d0,d1,d2,_,_,_,hl,_,_⟩:=BB.o.c3 0 rfl;rw[Sz];by_cases h1:s=1
 .subst h1
  go_enter func18,ntmps18
  go_wp2_with fail
  refine(uH _ _).mono ?_;rintro e w' ⟨rfl,rfl⟩;rw[show jV 1=0 from rfl];go_wp2;go_ret
  exact⟨rfl,BB.o.BN⟩
 by_cases h2:s=2
 .subst h2
  go_enter func18,ntmps18
  go_wp2_with fail
  refine(uH _ _).mono ?_;rintro e w' ⟨rfl,rfl⟩;rw[show jV 2=1 from rfl];go_wp2;go_ret
  exact⟨rfl,BB.o.BN⟩
 .have ho:jV s= -1:=by unfold jV;rw[if_neg h1,if_neg h2]
  go_enter func18,ntmps18
  go_wp2_with fail
  refine(uH _ _).mono ?_;rintro e w' ⟨rfl,rfl⟩;rw[ho];go_wp2;go_ret
  exact⟨by simp[h1,h2],BB.o.BN⟩
end
def V6(w:World)(rs:List ME)(i:Int)(e:Ending)(w':World):Prop:=∃x c,e= .returned (.tuple #[x.val,.bool c])/\kF rs i x c/\Touch [] w w'
theorem UF(w:World)(cell:Int)(a1:Option Addr)(c1:Nat)(LY:List ME)(a2:Option Addr)(c2:Nat)(SC:List ME)(i:Int)(he:fo w a1 LY):Calls prog 232 #[Sr cell a1 LY.length c1 a2 SC.length c2,(1:Int),i] w (V6 w LY i):=by
 have HE:=hdq (fun W (hW:Touch [] w W)=>he.touch hW);rw[Sz];go_enter func232,ntmps232
 go_wp2_with fail
 refine ah ?_;intro w1 hw1;have BB:=hdq ((BD.nil' w).DZ hw1);simp only[nAq,cAq]at BB;generalize hb6:w.heap.size+1=b6 at BB|-;generalize hb3:w.heap.size=b3 at BB|-;refine(uH _ _).mono ?_;rintro e w' ⟨rfl,rfl⟩;rw[show jV 1=0 from rfl];obtain⟨d0,d1,d2,_,_,_,hl,_,_⟩:=BB.o.c3 0 rfl;obtain⟨r0,r1,r2,r3,r4,r5,r6,⟨f0,f1,f2,f3,f4,f5,f6⟩,zr,_,_⟩:=BB.o.c7 1 rfl;go_wp2_with fail
 refine(Vx w1 a1 c1 LY i (HE.o _ BB.o.BN)).mono ?_;rintro e w2 ⟨x,cc,rfl,hR,ht⟩;have HL2:=hdq (BB.o.touch ht);have HR:=hdq hR;simp only[bB];obtain⟨r0,r1,r2,r3,r4,r5,r6,⟨f0,f1,f2,f3,f4,f5,f6⟩,zr,_,_⟩:=HL2.o.c7 1 rfl;go_wp2;have BF:=hdq (HL2.o.iD 1 rfl x.sync x.thread x.branch x.flag x.v.kind x.v.num (.slice x.v.addr x.v.parts.length x.v.cap));simp only[sZq,sSq]at BF;obtain⟨s0,s1,s2,s3,s4,s5,s6,_⟩:=BF.o.c7 1 rfl;refine bodyPost_ret (v:= .tuple #[x.val,cc]) (by simp[results,results232,go_sem,s0,s1,s2,s3,s4,s5,s6,bB]) rfl ?_;exact⟨x,cc,rfl,HR.o,BF.o.BN⟩
theorem Uy(w:World)(cell:Int)(a1:Option Addr)(c1:Nat)(LY:List ME)(a2:Option Addr)(c2:Nat)(SC:List ME)(i:Int)(he:fo w a2 SC):Calls prog 232 #[Sr cell a1 LY.length c1 a2 SC.length c2,(2:Int),i] w (V6 w SC i):=by
 have HE:=hdq (fun W (hW:Touch [] w W)=>he.touch hW);rw[Sz];go_enter func232,ntmps232
 go_wp2_with fail
 refine ah ?_;intro w1 hw1;have BB:=hdq ((BD.nil' w).DZ hw1);simp only[nAq,cAq]at BB;generalize hb6:w.heap.size+1=b6 at BB|-;generalize hb3:w.heap.size=b3 at BB|-;refine(uH _ _).mono ?_;rintro e w' ⟨rfl,rfl⟩;rw[show jV 2=1 from rfl];obtain⟨d0,d1,d2,_,_,_,hl,_,_⟩:=BB.o.c3 0 rfl;obtain⟨r0,r1,r2,r3,r4,r5,r6,⟨f0,f1,f2,f3,f4,f5,f6⟩,zr,_,_⟩:=BB.o.c7 1 rfl;go_wp2_with fail
 refine(Vx w1 a2 c2 SC i (HE.o _ BB.o.BN)).mono ?_;rintro e w2 ⟨x,cc,rfl,hR,ht⟩;have HL2:=hdq (BB.o.touch ht);have HR:=hdq hR;simp only[bB];obtain⟨r0,r1,r2,r3,r4,r5,r6,⟨f0,f1,f2,f3,f4,f5,f6⟩,zr,_,_⟩:=HL2.o.c7 1 rfl;go_wp2;have BF:=hdq (HL2.o.iD 1 rfl x.sync x.thread x.branch x.flag x.v.kind x.v.num (.slice x.v.addr x.v.parts.length x.v.cap));simp only[sZq,sSq]at BF;obtain⟨s0,s1,s2,s3,s4,s5,s6,_⟩:=BF.o.c7 1 rfl;refine bodyPost_ret (v:= .tuple #[x.val,cc]) (by simp[results,results232,go_sem,s0,s1,s2,s3,s4,s5,s6,bB]) rfl ?_;exact⟨x,cc,rfl,HR.o,BF.o.BN⟩
theorem Sw{Q:Exit->Act->World->Prop}{ex:Exit}{a:Act}{W:World}(h:∀w2,W=w2->Q ex a w2):Q ex a W:=h W rfl
def QU(rs:List ME)(x:ME)(err:Int)(rs':List ME):Prop:=(err=2/\¬x.plain.Ok/\rs'=rs)\/(err=6/\x.plain.Ok/\rs.length=4096/\rs'=rs)\/(err=0/\x.plain.Ok/\rs.length<4096/\rs'=rs++[x])
theorem UB(T:List Nat)(w:World)(P:World->Prop)(cell:Int)(a1:Option Addr)(c1:Nat)(LY:List ME)(a2:Option Addr)(c2:Nat)(SC:List ME)(x:ME)(hcap:LY.length<=c1)(h:BD T w w [aA P])(hP:∀W,P W->fo W a1 LY/\x.v.In W)(hnx:x.v.nodes<=1048576)(hlen:LY.length<=4096):
  Calls prog 235 #[Sr cell a1 LY.length c1 a2 SC.length c2,(1:Int),x.val] w fun e w'=>∃(err:Int) (a':Option Addr) (cap':Nat) (rs':List ME) (rest:List ai),e= .returned (.tuple #[Sr cell a' rs'.length cap' a2 SC.length c2,err])/\rs'.length<=cap'/\QU LY x err rs'/\∃P':World->Prop,(∀W,P' W->P W/\fo W a' rs')/\BD T w w' (aA P'::rest):=by
 have HP:=hdq hP;have BG:=hdq h;rw[Sz];simp only[bB];go_enter func235,ntmps235
 go_wp2_with fail
 refine ah ?_;intro w1 hw1;have BB:=hdq (BG.o.UX hw1);simp only[nAq,cAq]at BB;generalize hb6:w.heap.size+1+1=b6 at BB|-;generalize hb5:w.heap.size+1=b5 at BB|-;generalize hb3:w.heap.size=b3 at BB|-;refine(uH _ _).mono ?_;rintro e w' ⟨rfl,rfl⟩;rw[show jV 1=0 from rfl];have Gj:=hdq BB.o.drew;have Gs:=hdq (BB.o.alloc 72 #[True]).drew;simp only[nAq,cAq]at Gs;obtain⟨d0,d1,d2,TN,TP,df2,hl,_,_⟩:=BB.o.c3 1 rfl;obtain⟨x0,x1,x2,x3,x4,x5,x6,_,hl5,_,_⟩:=BB.o.c7 2 rfl;have m1:b3≠w1.heap.size:=by omega
 have m2:=Ne.symm m1;have m3:b5≠w1.heap.size:=by omega
 have m4:=Ne.symm m3;go_wp2_with fail
 go_region_held3 (fun w'=>(w'.cell? ⟨b3,0,none⟩=some (.int .i64 cell)/\w'.cell? ⟨b3,1,none⟩=some (.slice a1 LY.length c1)/\w'.cell? ⟨b3,2,none⟩=some (.slice a2 SC.length c2))/\w'.cell? ⟨b5,0,none⟩=some (.int .i64 x.sync)/\w'.cell? ⟨b5,1,none⟩=some (.int .i64 x.thread)/\w'.cell? ⟨b5,2,none⟩=some (.int .i64 x.branch)/\w'.cell? ⟨b5,3,none⟩=some (.int .i64 x.flag)/\w'.cell? ⟨b5,4,none⟩=some (.int .i64 x.v.kind)/\w'.cell? ⟨b5,5,none⟩=some (.int .i64 x.v.num)/\w'.cell? ⟨b5,6,none⟩=some (.slice x.v.addr x.v.parts.length x.v.cap)) (go_keep) (first
  |(go_at_call 276;refine(Gj.o.Va 0 rfl a1 c1 LY x hcap HP.o hnx hlen).mono ?_;rintro e w2 ⟨err,a',cap',rs',rfl,hcp,hc,P',hP',hL⟩;have HL2:=hdq hL;(simp only[sZq]at HL2);have HC:=hdq hc;have LU:=hdq hcp;have WI:=hdq hP';obtain⟨d0,d1,d2,TN,TP,df2,hl,_,_⟩:=HL2.o.c3 1 rfl;obtain⟨x0,x1,x2,x3,x4,x5,x6,_,hl5,_,_⟩:=HL2.o.c7 2 rfl;have m1:b3≠w2.heap.size:=(by omega);have m2:=Ne.symm m1;have m3:b5≠w2.heap.size:=(by omega);have m4:=Ne.symm m3)
  |(go_at_call 276;refine(Gs.o.Va 0 rfl a1 c1 LY x hcap HP.o hnx hlen).mono ?_;rintro e w2 ⟨err,a',cap',rs',rfl,hcp,hc,P',hP',hL⟩;have HL2:=hdq hL;(simp only[sZq]at HL2);have HC:=hdq hc;have LU:=hdq hcp;have WI:=hdq hP';obtain⟨d0,d1,d2,TN,TP,df2,hl,_,_⟩:=HL2.o.c3 1 rfl;obtain⟨x0,x1,x2,x3,x4,x5,x6,_,hl5,_,_⟩:=HL2.o.c7 2 rfl;obtain⟨k0,kf,hlk,_,_⟩:=HL2.o.c1 4 rfl))
 all_goals rename_i hHeld
 all_goals clear hHeld Gj Gs m1 m2 m3 m4
 all_goals clear d0 d1 d2 TN TP df2 hl x0 x1 x2 x3 x4 x5 x6 hl5
 all_goals refine Sw (Q:=Exit.then _ _) ?_
 all_goals intro w5 DC
 all_goals first
  |(have k0':=k0;have BH:=hdq ((HL2.o.set 4 rfl 0 (.slice a' rs'.length cap')).via DC);(simp only[sSq,sZq,sAq]at BH);obtain⟨b9,FK⟩:∃b,w1.heap.size=b:=⟨_,rfl⟩;rw[FK]at BH|-)
  |(have BH:=hdq ((HL2.o.alloc 72 #[.slice a' rs'.length cap']).via DC);obtain⟨b9,FK⟩:∃b,w2.heap.size=b:=⟨_,rfl⟩;rw[FK]at BH|-)
 all_goals
  (try simp only[nAq,cAq]at BH)
  obtain⟨d0,d1,d2,TN,TP,df2,hl,_,_⟩:=BH.o.c3 1 rfl;obtain⟨u0,u1,u2,Z8,Z9,uf2,hu,_,_⟩:=BH.o.c3 3 rfl;obtain⟨k0,kf,hlk,_,_⟩:=BH.o.c1 4 rfl;have n1:=BH.o.ne 1 3 rfl rfl (by decide);have n2:=Ne.symm n1;have n3:=BH.o.ne 1 4 rfl rfl (by decide);have n4:=Ne.symm n3;go_wp2;have Db:=hdq ((((BH.o.set 1 rfl 1 (.slice a' rs'.length cap')).set 3 rfl 0 (.int .i64 cell)).set 3 rfl 1 (.slice a' rs'.length cap')).set 3 rfl 2 (.slice a2 SC.length c2));simp only[sSq,sZq,sAq]at Db;obtain⟨s0,s1,s2,_⟩:=Db.o.c3 3 rfl;refine bodyPost_ret (v:= .tuple #[Sr cell a' rs'.length cap' a2 SC.length c2,err]) (by simp[results,results235,go_sem,s0,s1,s2,Sr]) rfl ?_;exact⟨err,a',cap',rs',_,rfl,LU.o,HC.o,P',WI.o,Db.o⟩
theorem Uv(T:List Nat)(w:World)(P:World->Prop)(cell:Int)(a1:Option Addr)(c1:Nat)(LY:List ME)(a2:Option Addr)(c2:Nat)(SC:List ME)(x:ME)(hcap:SC.length<=c2)(h:BD T w w [aA P])(hP:∀W,P W->fo W a2 SC/\x.v.In W)(hnx:x.v.nodes<=1048576)(hlen:SC.length<=4096):
  Calls prog 235 #[Sr cell a1 LY.length c1 a2 SC.length c2,(2:Int),x.val] w fun e w'=>∃(err:Int) (a':Option Addr) (cap':Nat) (rs':List ME) (rest:List ai),e= .returned (.tuple #[Sr cell a1 LY.length c1 a' rs'.length cap',err])/\rs'.length<=cap'/\QU SC x err rs'/\∃P':World->Prop,(∀W,P' W->P W/\fo W a' rs')/\BD T w w' (aA P'::rest):=by
 have HP:=hdq hP;have BG:=hdq h;rw[Sz];simp only[bB];go_enter func235,ntmps235
 go_wp2_with fail
 refine ah ?_;intro w1 hw1;have BB:=hdq (BG.o.UX hw1);simp only[nAq,cAq]at BB;generalize hb6:w.heap.size+1+1=b6 at BB|-;generalize hb5:w.heap.size+1=b5 at BB|-;generalize hb3:w.heap.size=b3 at BB|-;refine(uH _ _).mono ?_;rintro e w' ⟨rfl,rfl⟩;rw[show jV 2=1 from rfl];have Gj:=hdq BB.o.drew;have Gs:=hdq (BB.o.alloc 72 #[True]).drew;simp only[nAq,cAq]at Gs;obtain⟨d0,d1,d2,TN,TP,df2,hl,_,_⟩:=BB.o.c3 1 rfl;obtain⟨x0,x1,x2,x3,x4,x5,x6,_,hl5,_,_⟩:=BB.o.c7 2 rfl;have m1:b3≠w1.heap.size:=by omega
 have m2:=Ne.symm m1;have m3:b5≠w1.heap.size:=by omega
 have m4:=Ne.symm m3;go_wp2_with fail
 go_region_held3 (fun w'=>(w'.cell? ⟨b3,0,none⟩=some (.int .i64 cell)/\w'.cell? ⟨b3,1,none⟩=some (.slice a1 LY.length c1)/\w'.cell? ⟨b3,2,none⟩=some (.slice a2 SC.length c2))/\w'.cell? ⟨b5,0,none⟩=some (.int .i64 x.sync)/\w'.cell? ⟨b5,1,none⟩=some (.int .i64 x.thread)/\w'.cell? ⟨b5,2,none⟩=some (.int .i64 x.branch)/\w'.cell? ⟨b5,3,none⟩=some (.int .i64 x.flag)/\w'.cell? ⟨b5,4,none⟩=some (.int .i64 x.v.kind)/\w'.cell? ⟨b5,5,none⟩=some (.int .i64 x.v.num)/\w'.cell? ⟨b5,6,none⟩=some (.slice x.v.addr x.v.parts.length x.v.cap)) (go_keep) (first
  |(go_at_call 276;refine(Gj.o.Va 0 rfl a2 c2 SC x hcap HP.o hnx hlen).mono ?_;rintro e w2 ⟨err,a',cap',rs',rfl,hcp,hc,P',hP',hL⟩;have HL2:=hdq hL;(simp only[sZq]at HL2);have HC:=hdq hc;have LU:=hdq hcp;have WI:=hdq hP';obtain⟨d0,d1,d2,TN,TP,df2,hl,_,_⟩:=HL2.o.c3 1 rfl;obtain⟨x0,x1,x2,x3,x4,x5,x6,_,hl5,_,_⟩:=HL2.o.c7 2 rfl;have m1:b3≠w2.heap.size:=(by omega);have m2:=Ne.symm m1;have m3:b5≠w2.heap.size:=(by omega);have m4:=Ne.symm m3)
  |(go_at_call 276;refine(Gs.o.Va 0 rfl a2 c2 SC x hcap HP.o hnx hlen).mono ?_;rintro e w2 ⟨err,a',cap',rs',rfl,hcp,hc,P',hP',hL⟩;have HL2:=hdq hL;(simp only[sZq]at HL2);have HC:=hdq hc;have LU:=hdq hcp;have WI:=hdq hP';obtain⟨d0,d1,d2,TN,TP,df2,hl,_,_⟩:=HL2.o.c3 1 rfl;obtain⟨x0,x1,x2,x3,x4,x5,x6,_,hl5,_,_⟩:=HL2.o.c7 2 rfl;obtain⟨k0,kf,hlk,_,_⟩:=HL2.o.c1 4 rfl))
 all_goals rename_i hHeld
 all_goals clear hHeld Gj Gs m1 m2 m3 m4
 all_goals clear d0 d1 d2 TN TP df2 hl x0 x1 x2 x3 x4 x5 x6 hl5
 all_goals refine Sw (Q:=Exit.then _ _) ?_
 all_goals intro w5 DC
 all_goals first
  |(have k0':=k0;have BH:=hdq ((HL2.o.set 4 rfl 0 (.slice a' rs'.length cap')).via DC);(simp only[sSq,sZq,sAq]at BH);obtain⟨b9,FK⟩:∃b,w1.heap.size=b:=⟨_,rfl⟩;rw[FK]at BH|-)
  |(have BH:=hdq ((HL2.o.alloc 72 #[.slice a' rs'.length cap']).via DC);obtain⟨b9,FK⟩:∃b,w2.heap.size=b:=⟨_,rfl⟩;rw[FK]at BH|-)
 all_goals
  (try simp only[nAq,cAq]at BH)
  obtain⟨d0,d1,d2,TN,TP,df2,hl,_,_⟩:=BH.o.c3 1 rfl;obtain⟨u0,u1,u2,Z8,Z9,uf2,hu,_,_⟩:=BH.o.c3 3 rfl;obtain⟨k0,kf,hlk,_,_⟩:=BH.o.c1 4 rfl;have n1:=BH.o.ne 1 3 rfl rfl (by decide);have n2:=Ne.symm n1;have n3:=BH.o.ne 1 4 rfl rfl (by decide);have n4:=Ne.symm n3;go_wp2;have Db:=hdq ((((BH.o.set 1 rfl 2 (.slice a' rs'.length cap')).set 3 rfl 0 (.int .i64 cell)).set 3 rfl 1 (.slice a1 LY.length c1)).set 3 rfl 2 (.slice a' rs'.length cap'));simp only[sSq,sZq,sAq]at Db;obtain⟨s0,s1,s2,_⟩:=Db.o.c3 3 rfl;refine bodyPost_ret (v:= .tuple #[Sr cell a1 LY.length c1 a' rs'.length cap',err]) (by simp[results,results235,go_sem,s0,s1,s2,Sr]) rfl ?_;exact⟨err,a',cap',rs',_,rfl,LU.o,HC.o,P',WI.o,Db.o⟩
theorem UA(T:List Nat)(w:World)(P:World->Prop)(cell:Int)(a1:Option Addr)(c1:Nat)(LY:List ME)(a2:Option Addr)(c2:Nat)(SC:List ME)(i:Int)(hcap:LY.length<=c1)(h:BD T w w [aA P])(hP:∀W,P W->fo W a1 LY)(hlen:LY.length<=1048576):
  Calls prog 233 #[Sr cell a1 LY.length c1 a2 SC.length c2,(1:Int),i] w fun e w'=>∃(a':Option Addr) (cap':Nat) (rs':List ME) (x:ME) (c:Bool) (rest:List ai),e= .returned (.tuple #[Sr cell a' rs'.length cap' a2 SC.length c2,x.val,c])/\rs'.length<=cap'/\kF LY i x c/\rs'=(if c=true then LY.eraseIdx i.toNat else LY)/\∃P':World->Prop,(∀W,P' W->P W/\fo W a' rs')/\BD T w w' (aA P'::rest):=by
 have HP:=hdq hP;have BG:=hdq h;clear h hP;rw[Sz];go_enter func233,ntmps233
 go_wp2_with fail
 refine ah ?_;intro w1 hw1;have BB:=hdq (BG.o.UX hw1);simp only[nAq,cAq]at BB;generalize EF:w.heap.size+1+1=b7 at BB|-;generalize hb6:w.heap.size+1=b6 at BB|-;generalize hb3:w.heap.size=b3 at BB|-;clear hw1 EF hb6 hb3 BG;refine(uH _ _).mono ?_;rintro e w' ⟨rfl,rfl⟩;rw[show jV 1=0 from rfl];obtain⟨d0,d1,d2,TN,TP,df2,hl,_,_⟩:=BB.o.c3 1 rfl;go_wp2_with fail
 refine(BB.o.YQ 0 rfl a1 c1 LY i hcap HP.o hlen).mono ?_;rintro e w2 ⟨a',cap',rs',x,c,rfl,hcp,hR,hrs,P',hP',hL⟩;have HL2:=hdq hL;simp only[sZq]at HL2;have HR:=hdq hR;have HRS:=hdq hrs;have LU:=hdq hcp;have WI:=hdq hP';clear hL hR hrs hcp hP' BB d0 d1 d2 TN TP df2 hl;simp only[bB];go_upto_region 5 with fail
 refine ay ?_;intro w5 DC;have BH:=hdq (((HL2.o.alloc 72 #[.slice a' rs'.length cap']).alloc 47 #[x.sync,x.thread,x.branch,x.flag,x.v.kind,x.v.num,.slice x.v.addr x.v.parts.length x.v.cap]).via DC);simp only[nAq,cAq,World.size_alloc]at BH;generalize Xp:w2.heap.size+1=b11 at BH|-;generalize Yr:w2.heap.size=b10 at BH|-;clear DC Xp Yr HL2;obtain⟨d0,d1,d2,TN,TP,df2,hl,_,_⟩:=BH.o.c3 1 rfl;obtain⟨k0,kf,hlk,_,_⟩:=BH.o.c1 4 rfl;have n3:=BH.o.ne 1 4 rfl rfl (by decide);have n4:=Ne.symm n3;go_upto_region 6 with fail
 refine ay ?_;intro w6 LM;have Ca:=hdq ((BH.o.set 1 rfl 1 (.slice a' rs'.length cap')).via LM);simp only[sSq,sZq,sAq]at Ca;clear LM BH d0 d1 d2 TN TP df2 hl k0 kf hlk n3 n4;obtain⟨d0,d1,d2,TN,TP,df2,hl,_,_⟩:=Ca.o.c3 1 rfl;obtain⟨u0,u1,u2,Z8,Z9,uf2,hu,_,_⟩:=Ca.o.c3 2 rfl;obtain⟨r0,r1,r2,r3,r4,r5,r6,⟨f0,f1,f2,f3,f4,f5,f6⟩,zr,_,_⟩:=Ca.o.c7 3 rfl;obtain⟨x0,x1,x2,x3,x4,x5,x6,_,hlx,_,_⟩:=Ca.o.c7 5 rfl;have n1:=Ca.o.ne 1 2 rfl rfl (by decide);have n2:=Ne.symm n1;have n3:=Ca.o.ne 1 3 rfl rfl (by decide);have n4:=Ne.symm n3;have n5:=Ca.o.ne 2 3 rfl rfl (by decide);have n6:=Ne.symm n5;have n7:=Ca.o.ne 2 5 rfl rfl (by decide);have n8:=Ne.symm n7;have n9:=Ca.o.ne 3 5 rfl rfl (by decide);have n10:=Ne.symm n9;go_wp2_with fail
 go_region
 refine Sw (Q:=Exit.then _ _) ?_;intro w7 hw7;have Db:=hdq ((((((Ca.o.set 2 rfl 0 (.int .i64 cell)).set 2 rfl 1 (.slice a' rs'.length cap')).set 2 rfl 2 (.slice a2 SC.length c2)).iD 3 rfl x.sync x.thread x.branch x.flag x.v.kind x.v.num (.slice x.v.addr x.v.parts.length x.v.cap))).drew.via hw7);simp only[sSq,sZq,sAq]at Db;clear hw7 Ca d0 d1 d2 TN TP df2 hl u0 u1 u2 Z8 Z9 uf2 hu r0 r1 r2 r3 r4 r5 r6 f0 f1 f2 f3 f4 f5 f6 zr x0 x1 x2 x3 x4 x5 x6 hlx n1 n2 n3 n4 n5 n6 n7 n8 n9 n10;obtain⟨s0,s1,s2,_⟩:=Db.o.c3 2 rfl;obtain⟨t0,t1,t2,t3,t4,t5,t6,_⟩:=Db.o.c7 3 rfl;go_wp2;refine bodyPost_ret (v:= .tuple #[Sr cell a' rs'.length cap' a2 SC.length c2,x.val,c]) (by simp[results,results233,go_sem,s0,s1,s2,t0,t1,t2,t3,t4,t5,t6,Sr,bB]) rfl ?_;exact⟨a',cap',rs',x,c,_,rfl,LU.o,HR.o,HRS.o,P',WI.o,Db.o⟩
theorem UG(T:List Nat)(w:World)(P:World->Prop)(cell:Int)(a1:Option Addr)(c1:Nat)(LY:List ME)(a2:Option Addr)(c2:Nat)(SC:List ME)(i:Int)(hcap:SC.length<=c2)(h:BD T w w [aA P])(hP:∀W,P W->fo W a2 SC)(hlen:SC.length<=1048576):
  Calls prog 233 #[Sr cell a1 LY.length c1 a2 SC.length c2,(2:Int),i] w fun e w'=>∃(a':Option Addr) (cap':Nat) (rs':List ME) (x:ME) (c:Bool) (rest:List ai),e= .returned (.tuple #[Sr cell a1 LY.length c1 a' rs'.length cap',x.val,c])/\rs'.length<=cap'/\kF SC i x c/\rs'=(if c=true then SC.eraseIdx i.toNat else SC)/\∃P':World->Prop,(∀W,P' W->P W/\fo W a' rs')/\BD T w w' (aA P'::rest):=by
 have HP:=hdq hP;have BG:=hdq h;clear h hP;rw[Sz];go_enter func233,ntmps233
 go_wp2_with fail
 refine ah ?_;intro w1 hw1;have BB:=hdq (BG.o.UX hw1);simp only[nAq,cAq]at BB;generalize EF:w.heap.size+1+1=b7 at BB|-;generalize hb6:w.heap.size+1=b6 at BB|-;generalize hb3:w.heap.size=b3 at BB|-;clear hw1 EF hb6 hb3 BG;refine(uH _ _).mono ?_;rintro e w' ⟨rfl,rfl⟩;rw[show jV 2=1 from rfl];obtain⟨d0,d1,d2,TN,TP,df2,hl,_,_⟩:=BB.o.c3 1 rfl;go_wp2_with fail
 refine(BB.o.YQ 0 rfl a2 c2 SC i hcap HP.o hlen).mono ?_;rintro e w2 ⟨a',cap',rs',x,c,rfl,hcp,hR,hrs,P',hP',hL⟩;have HL2:=hdq hL;simp only[sZq]at HL2;have HR:=hdq hR;have HRS:=hdq hrs;have LU:=hdq hcp;have WI:=hdq hP';clear hL hR hrs hcp hP' BB d0 d1 d2 TN TP df2 hl;simp only[bB];go_upto_region 5 with fail
 refine ay ?_;intro w5 DC;have BH:=hdq (((HL2.o.alloc 72 #[.slice a' rs'.length cap']).alloc 47 #[x.sync,x.thread,x.branch,x.flag,x.v.kind,x.v.num,.slice x.v.addr x.v.parts.length x.v.cap]).via DC);simp only[nAq,cAq,World.size_alloc]at BH;generalize Xp:w2.heap.size+1=b11 at BH|-;generalize Yr:w2.heap.size=b10 at BH|-;clear DC Xp Yr HL2;obtain⟨d0,d1,d2,TN,TP,df2,hl,_,_⟩:=BH.o.c3 1 rfl;obtain⟨k0,kf,hlk,_,_⟩:=BH.o.c1 4 rfl;have n3:=BH.o.ne 1 4 rfl rfl (by decide);have n4:=Ne.symm n3;go_upto_region 6 with fail
 refine ay ?_;intro w6 LM;have Ca:=hdq ((BH.o.set 1 rfl 2 (.slice a' rs'.length cap')).via LM);simp only[sSq,sZq,sAq]at Ca;clear LM BH d0 d1 d2 TN TP df2 hl k0 kf hlk n3 n4;obtain⟨d0,d1,d2,TN,TP,df2,hl,_,_⟩:=Ca.o.c3 1 rfl;obtain⟨u0,u1,u2,Z8,Z9,uf2,hu,_,_⟩:=Ca.o.c3 2 rfl;obtain⟨r0,r1,r2,r3,r4,r5,r6,⟨f0,f1,f2,f3,f4,f5,f6⟩,zr,_,_⟩:=Ca.o.c7 3 rfl;obtain⟨x0,x1,x2,x3,x4,x5,x6,_,hlx,_,_⟩:=Ca.o.c7 5 rfl;have n1:=Ca.o.ne 1 2 rfl rfl (by decide);have n2:=Ne.symm n1;have n3:=Ca.o.ne 1 3 rfl rfl (by decide);have n4:=Ne.symm n3;have n5:=Ca.o.ne 2 3 rfl rfl (by decide);have n6:=Ne.symm n5;have n7:=Ca.o.ne 2 5 rfl rfl (by decide);have n8:=Ne.symm n7;have n9:=Ca.o.ne 3 5 rfl rfl (by decide);have n10:=Ne.symm n9;go_wp2_with fail
 go_region
 refine Sw (Q:=Exit.then _ _) ?_;intro w7 hw7;have Db:=hdq ((((((Ca.o.set 2 rfl 0 (.int .i64 cell)).set 2 rfl 1 (.slice a1 LY.length c1)).set 2 rfl 2 (.slice a' rs'.length cap')).iD 3 rfl x.sync x.thread x.branch x.flag x.v.kind x.v.num (.slice x.v.addr x.v.parts.length x.v.cap))).drew.via hw7);simp only[sSq,sZq,sAq]at Db;clear hw7 Ca d0 d1 d2 TN TP df2 hl u0 u1 u2 Z8 Z9 uf2 hu r0 r1 r2 r3 r4 r5 r6 f0 f1 f2 f3 f4 f5 f6 zr x0 x1 x2 x3 x4 x5 x6 hlx n1 n2 n3 n4 n5 n6 n7 n8 n9 n10;obtain⟨s0,s1,s2,_⟩:=Db.o.c3 2 rfl;obtain⟨t0,t1,t2,t3,t4,t5,t6,_⟩:=Db.o.c7 3 rfl;go_wp2;refine bodyPost_ret (v:= .tuple #[Sr cell a1 LY.length c1 a' rs'.length cap',x.val,c]) (by simp[results,results233,go_sem,s0,s1,s2,t0,t1,t2,t3,t4,t5,t6,Sr,bB]) rfl ?_;exact⟨a',cap',rs',x,c,_,rfl,LU.o,HR.o,HRS.o,P',WI.o,Db.o⟩
end Go.Proofs.YtddnnapoaonmjaaGreatDoor
