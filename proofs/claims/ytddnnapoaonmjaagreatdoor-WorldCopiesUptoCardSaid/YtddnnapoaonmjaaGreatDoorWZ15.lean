/-
  Texts of WorldCopies, laid together by program.
-/
import Derived.Test.YtddnnapoaonmjaaGreatDoorWZ14
import Derived.Deep.CutRange
namespace Go.Proofs.YtddnnapoaonmjaaGreatDoor
open Go.RowKit Go.Shelf Go.Proofs.Tryz
set_option maxRecDepth 100000
set_option maxHeartbeats 8000000
set_option linter.unusedVariables false
set_option linter.unusedSimpArgs false
theorem X5(a:Addr)(i j:Nat):(a.add i).add j=a.add (i+j):=by
 unfold Addr.add;by_cases hi:i=0<;>by_cases hj:j=0<;>simp[hi,hj,Nat.add_assoc]
theorem fo.XP{w:World}{a sa:Option Addr}{rs:List ME}{lo k:Nat}(h:fo w a rs)(hk:k=7)(hs:rs.length=lo\/sa=a.map (·.add (lo*k))):rs.length-lo=0\/∃ad,sa=some ad/\∀j u,((aM rs).drop (lo*7))[j]? =some u->w.cell? (ad.add j)=some u:=by
 subst hk;rcases hs with hs|rfl
 .exact .inl (by omega)
 .rcases h.src with h0|⟨ad,rfl,hc⟩
  .exact .inl (by omega)
  .refine .inr ⟨ad.add (lo*7),rfl,fun j u hu=>?_⟩
   rw[X5];rw[List.getElem?_drop]at hu;exact hc _ _ hu
theorem fo.src_to{w:World}{a:Option Addr}{rs:List ME}{k:Nat}(h:fo w a rs)(hk:k<=rs.length):k=0\/∃ad,a=some ad/\∀j u,((aM rs).take (k*7))[j]? =some u->w.cell? (ad.add j)=some u:=by
 rcases h.src with h0|⟨ad,rfl,hc⟩
 .exact .inl (by omega)
 .refine .inr ⟨ad,rfl,fun j u hu=>hc j u ?_⟩
  rw[List.getElem?_take]at hu;split at hu
  .exact hu
  .cases hu
def Yc(T:List Nat)(w:World)(P:World->Prop)(rs:List ME)(i:Int)(e:Ending)(w':World):Prop:=
 ∃(a':Option Addr) (cap':Nat) (rs':List ME) (x:ME) (c:Bool),e= .returned (.tuple #[.agg #[.slice a' rs'.length cap'],x.val,c])/\rs'.length<=cap'/\kF rs i x c/\rs'=(if c=true then rs.eraseIdx i.toNat else rs)/\TD T w P a' rs' w'
theorem UU(T:List Nat)(w:World)(P:World->Prop)(a:Option Addr)(cap:Nat)(rs:List ME)(i:Int)(hcap:rs.length<=cap)(h:BD T w w [aA P])(hP:∀W,P W->fo W a rs)(hlen:rs.length<=1048576):
  Calls prog 275 #[.agg #[.slice a rs.length cap],i] w (Yc T w P rs i):=by
 have HP:=hdq hP;have BG:=hdq h;have hbq:=Vb;go_enter func275,ntmps275
 go_wp2_with fail
 refine ah ?_;intro w1 hw1;have BB:=hdq (BG.o.UX hw1);simp only[nAq,cAq]at BB;generalize hb5:w.heap.size+1+1=b5 at BB|-;generalize hb4:w.heap.size+1=b4 at BB|-;generalize hb2:w.heap.size=b2 at BB|-;refine(Vx w1 a cap rs i (HP.o _ (BB.o.still 0 rfl))).mono ?_;rintro e w2 ⟨x,cc,rfl,hR,ht⟩;have HL2:=hdq (BB.o.touch ht);have HR:=hdq hR;simp only[bB];obtain⟨v0,_,hl2,_,_⟩:=HL2.o.c1 1 rfl;go_upto_region 2 with fail
 refine ay ?_;intro w3 hw3;have BF:=hdq (HL2.o.DN hw3);simp only[nAq,cAq]at BF;generalize EF:w2.heap.size=b7 at BF|-;obtain⟨v0,_,hl2,_,_⟩:=BF.o.c1 1 rfl;obtain⟨u0,uf,hl4,_,_⟩:=BF.o.c1 2 rfl;obtain⟨y0,y1,y2,y3,y4,y5,y6,⟨fy0,fy1,fy2,fy3,fy4,fy5,fy6⟩,hl5,_,_⟩:=BF.o.c7 3 rfl;obtain⟨x0,x1,x2,x3,x4,x5,x6,_,hl7,_,_⟩:=BF.o.c7 4 rfl;have n1:=BF.o.ne 1 2 rfl rfl (by decide);have n2:=BF.o.ne 1 3 rfl rfl (by decide);have n3:=BF.o.ne 2 3 rfl rfl (by decide);have n4:=BF.o.ne 2 4 rfl rfl (by decide);have n5:=BF.o.ne 3 4 rfl rfl (by decide);have m1:=Ne.symm n1;have m2:=Ne.symm n2;have m3:=Ne.symm n3;have m4:=Ne.symm n4;have m5:=Ne.symm n5;cases cc with
 |false=>
  go_wp2_with fail
  go_region_held3 (fun w'=>w'.cell? ⟨b2,0,none⟩=some (.slice a rs.length cap)/\w'.cell? ⟨b7,0,none⟩=some (.int .i64 x.sync)/\w'.cell? ⟨b7,1,none⟩=some (.int .i64 x.thread)/\w'.cell? ⟨b7,2,none⟩=some (.int .i64 x.branch)/\w'.cell? ⟨b7,3,none⟩=some (.int .i64 x.flag)/\w'.cell? ⟨b7,4,none⟩=some (.int .i64 x.v.kind)/\w'.cell? ⟨b7,5,none⟩=some (.int .i64 x.v.num)/\w'.cell? ⟨b7,6,none⟩=some (.slice x.v.addr x.v.parts.length x.v.cap)) (go_keep) (fail)
  go_wp2;have HF:=hdq (((BF.o.set 2 rfl 0 (.slice a rs.length cap)).iD 3 rfl x.sync x.thread x.branch x.flag x.v.kind x.v.num (.slice x.v.addr x.v.parts.length x.v.cap)).drew);simp only[sSq,sZq,sAq]at HF;obtain⟨q0,_⟩:=HF.o.c1 2 rfl;obtain⟨s0,s1,s2,s3,s4,s5,s6,_⟩:=HF.o.c7 3 rfl;refine bodyPost_ret (v:= .tuple #[.agg #[.slice a rs.length cap],x.val,false]) (by simp[results,results275,go_sem,q0,s0,s1,s2,s3,s4,s5,s6,bB]) rfl ?_;exact⟨a,cap,rs,x,false,rfl,hcap,HR.o,by simp,TD.same HF.o HP.o⟩
 |true=>
  obtain⟨hi0,hxi⟩:0<=i/\rs[i.toNat]? =some x:=by
   rcases HR.o with ⟨_,h1,h2⟩|⟨h,_⟩
   .exact⟨h1,h2⟩
   .cases h
  obtain⟨k,rfl⟩:=Int.eq_ofNat_of_zero_le hi0;have hk:k<rs.length:=(List.getElem?_eq_some_iff.1 hxi).1;obtain⟨i0,Vl,CY,CU,CX⟩:=info_parts nD;obtain⟨sa,hsa,hsl2⟩:=kZ underlying70 Vl a rs.length cap (k+1) (by omega) hcap;have hsl1:=fun W=>UH underlying70 Vl a rs.length cap k (by omega) W;have HSA:=hdq hsa;rw[show(((k+1:Nat)):Int)=(k:Int)+1 by omega]at hsl2;have hwk:IntKind.i64.wrap ((k:Int)+1)=(k:Int)+1:=IntWalk.i64_in _ (by omega);have LK:=hdq (BF.o.empty 47 7).drew;simp only[nAq,cAq]at LK;have HTL:Hid (((aM rs).take (k*7)).length=k*7):=by unfold Hid;rw[List.length_take,fU];omega
  have HLN:Hid (((aM rs).drop ((k+1)*7)).length=(rs.length-(k+1))*7):=by
   unfold Hid;rw[List.length_drop,fU,Nat.sub_mul]
  go_wp2_with fail
  go_region_held3 (fun w'=>w'.cell? ⟨b2,0,none⟩=some (.slice a rs.length cap)/\w'.cell? ⟨b7,0,none⟩=some (.int .i64 x.sync)/\w'.cell? ⟨b7,1,none⟩=some (.int .i64 x.thread)/\w'.cell? ⟨b7,2,none⟩=some (.int .i64 x.branch)/\w'.cell? ⟨b7,3,none⟩=some (.int .i64 x.flag)/\w'.cell? ⟨b7,4,none⟩=some (.int .i64 x.v.kind)/\w'.cell? ⟨b7,5,none⟩=some (.int .i64 x.v.num)/\w'.cell? ⟨b7,6,none⟩=some (.slice x.v.addr x.v.parts.length x.v.cap)) (go_keep) (first
   |(refine aD _ (by rfl) (.tmp 19) (.tmp 23) 70 (by rfl) 47 i0 _ 7 72 underlying70 Vl CY CU CX rfl (by decide) (.slice (some ⟨w3.heap.size,0,none⟩) 0 0) 0 [] (by rfl) (LK.o.aZ 5 rfl) a k cap ((aM rs).take (k*7)) (by rfl) HTL.o ((HP.o _ (LK.o.still 0 rfl)).src_to (by omega)) (fun u hu=>qf rs u (List.mem_of_mem_take hu)) (by simp only[maxLen];omega) (by omega) ?_;intro a8 c8 w8 hown hgrow hat;simp only[Nat.zero_add,nAq]at hown hat|-;have EX:=hdq (LK.o.bG 5 rfl hgrow hown hat);simp only[sSq,sZq]at EX;obtain⟨v0,_,hl2,_,_⟩:=EX.o.c1 1 rfl;obtain⟨u0,uf,hl4,_,_⟩:=EX.o.c1 2 rfl;obtain⟨y0,y1,y2,y3,y4,y5,y6,⟨fy0,fy1,fy2,fy3,fy4,fy5,fy6⟩,hl5,_,_⟩:=EX.o.c7 3 rfl;obtain⟨x0,x1,x2,x3,x4,x5,x6,_,hl7,_,_⟩:=EX.o.c7 4 rfl)
   |(refine aD _ (by rfl) (.tmp 24) (.tmp 29) 70 (by rfl) 47 i0 _ 7 72 underlying70 Vl CY CU CX rfl (by decide) (.slice a8 k c8) k ((aM rs).take (k*7)) (by rfl) (EX.o.aZ 5 rfl) sa (rs.length-(k+1)) (cap-(k+1)) ((aM rs).drop ((k+1)*7)) (by rfl) HLN.o ((HP.o _ (EX.o.still 0 rfl)).XP CU HSA.o) (fun u hu=>qf rs u (List.mem_of_mem_drop hu)) (by simp only[maxLen];omega) (by omega) ?_;intro a9 c9 w9 hown hgrow hat;have Rj:=hdq (EX.o.bG 5 rfl hgrow hown hat);simp only[sSq,sZq]at Rj;obtain⟨v0,_,hl2,_,_⟩:=Rj.o.c1 1 rfl;obtain⟨u0,uf,hl4,_,_⟩:=Rj.o.c1 2 rfl;obtain⟨y0,y1,y2,y3,y4,y5,y6,⟨fy0,fy1,fy2,fy3,fy4,fy5,fy6⟩,hl5,_,_⟩:=Rj.o.c7 3 rfl;obtain⟨x0,x1,x2,x3,x4,x5,x6,_,hl7,_,_⟩:=Rj.o.c7 4 rfl))
  have hel:k+(rs.length-(k+1))=(rs.eraseIdx k).length:=by rw[List.length_eraseIdx_of_lt hk];omega
  have hec:(aM rs).take (k*7)++(aM rs).drop ((k+1)*7)=aM (rs.eraseIdx k):=by rw[List.eraseIdx_eq_take_drop_succ,iC,qU,rA]
  go_wp2;have HF:=hdq (((Rj.o.set 2 rfl 0 (.slice a9 (k+(rs.length-(k+1))) c9)).iD 3 rfl x.sync x.thread x.branch x.flag x.v.kind x.v.num (.slice x.v.addr x.v.parts.length x.v.cap)));simp only[sSq,sZq,sAq]at HF;obtain⟨q0,_⟩:=HF.o.c1 2 rfl;obtain⟨s0,s1,s2,s3,s4,s5,s6,_⟩:=HF.o.c7 3 rfl;refine bodyPost_ret (v:= .tuple #[.agg #[.slice a9 (k+(rs.length-(k+1))) c9],x.val,true]) (by simp[results,results275,go_sem,q0,s0,s1,s2,s3,s4,s5,s6,bB]) rfl ?_;refine⟨a9,c9,rs.eraseIdx k,x,true,by rw[hel],?_,HR.o,by simp,TD.made (cap:=c9) hel.symm ?_⟩
  .have :=V9 (HF.o.aZ 5 rfl)
   rwa[hel]at this
  .rw[<-hec]
   exact HF.o.sel [0,5] rfl (by decide)
theorem BD.Va{T:List Nat}{w0 w:World}{l:List ai}{P:World->Prop}(h:BD T w0 w l)(j:Nat)(hj:l[j]? =some (aA P))(a:Option Addr)(cap:Nat)(rs:List ME)(x:ME)(hcap:rs.length<=cap)(hP:∀W,P W->fo W a rs/\x.v.In W)(hnx:x.v.nodes<=1048576)(hlen:rs.length<=4096):
  Calls prog 276 #[.agg #[.slice a rs.length cap],x.val] w fun e w'=>∃(err:Int) (a':Option Addr) (cap':Nat) (rs':List ME),e= .returned (.tuple #[.agg #[.slice a' rs'.length cap'],err])/\rs'.length<=cap'/\((err=2/\¬x.plain.Ok/\rs'=rs)\/(err=6/\x.plain.Ok/\rs.length=4096/\rs'=rs)\/(err=0/\x.plain.Ok/\rs.length<4096/\rs'=rs++[x]))/\
   ∃P':World->Prop,(∀W,P' W->P W/\fo W a' rs')/\BD T w0 w' (l.set j (aA P')):=by
 obtain⟨T',h1,hb⟩:=h.qL j hj;refine(XI T' w P a cap rs x hcap h1 hP hnx hlen).mono ?_;rintro e w' ⟨err,a',cap',rs',rfl,hcp,hc,P',hP',hL⟩;exact⟨err,a',cap',rs',rfl,hcp,hc,P',hP',hb _ _ [] hL⟩
theorem kK.unique{n:Nat}{xs:List PE}{k k':Nat}{err err':Int}(h:kK n xs k err)(h':kK n xs k' err'):k=k'/\err=err':=by
 obtain⟨h1,h2,h3,h4⟩:=h;obtain⟨g1,g2,g3,g4⟩:=h';have hk:k=k':=by
  rcases h4 with ⟨_,rfl⟩|⟨hlt,h4⟩
  .rcases g4 with ⟨_,rfl⟩|⟨glt,⟨_,g⟩|⟨_,_,g⟩⟩
   .rfl
   .exact absurd (h1 k' glt glt) g
   .omega
  .rcases g4 with ⟨_,rfl⟩|⟨glt,g4⟩
   .rcases h4 with ⟨_,g⟩|⟨_,_,g⟩
    .exact absurd (g1 k hlt hlt) g
    .omega
   .by_cases h5:k<k'
    .rcases h4 with ⟨_,g⟩|⟨_,_,g⟩
     .exact absurd (g1 k hlt h5) g
     .omega
    .by_cases h6:k'<k
     .rcases g4 with ⟨_,g⟩|⟨_,_,g⟩
      .exact absurd (h1 k' glt h6) g
      .omega
     .omega
 subst hk;refine⟨rfl,?_⟩;rcases h4 with ⟨rfl,h5⟩|⟨hlt,⟨rfl,h5⟩|⟨rfl,h5,_⟩⟩<;>rcases g4 with ⟨rfl,g5⟩|⟨glt,⟨rfl,g5⟩|⟨rfl,g5,_⟩⟩<;>first |rfl|omega|exact absurd h5 g5|exact absurd g5 h5
structure CB where
 what:Int
 n:Int
 m:Int
 a:Option Addr
 cap:Nat
 l:List ME
def CB.val(x:CB):Value:= .agg #[x.what,x.n,x.m,.slice x.a x.l.length x.cap]
def CB.In(x:CB)(W:World):Prop:=fo W x.a x.l/\∀e∈x.l,e.v.In W
def kV(P:World->Prop)(es rs:List ME)(a:Option Addr)(cap:Nat):Prop:=
 es.map ME.plain=rs.map ME.plain/\rs.length<=cap/\es.length<=4096/\(∀e∈es,e.v.nodes<=256)/\∀W,P W->(∀e∈es,e.v.In W)/\fo W a rs/\∀r∈rs,r.v.In W
theorem kV.len{P:World->Prop}{es rs:List ME}{a:Option Addr}{cap:Nat}(h:kV P es rs a cap):es.length=rs.length:=by have :=congrArg List.length h.1;simpa using this
theorem BD.YQ{T:List Nat}{w0 w:World}{l:List ai}{P:World->Prop}(h:BD T w0 w l)(j:Nat)(hj:l[j]? =some (aA P))(a:Option Addr)(cap:Nat)(rs:List ME)(i:Int)(hcap:rs.length<=cap)(hP:∀W,P W->fo W a rs)(hlen:rs.length<=1048576):
  Calls prog 275 #[.agg #[.slice a rs.length cap],i] w fun e w'=>∃(a':Option Addr) (cap':Nat) (rs':List ME) (x:ME) (c:Bool),e= .returned (.tuple #[.agg #[.slice a' rs'.length cap'],x.val,c])/\rs'.length<=cap'/\kF rs i x c/\rs'=(if c=true then rs.eraseIdx i.toNat else rs)/\∃P':World->Prop,(∀W,P' W->P W/\fo W a' rs')/\BD T w0 w' (l.set j (aA P')):=by
 obtain⟨T',h1,hb⟩:=h.qL j hj;refine(UU T' w P a cap rs i hcap h1 hP hlen).mono ?_;rintro e w' ⟨a',cap',rs',x,c,rfl,hc,hR,hrs,P',hP',hL⟩;exact⟨a',cap',rs',x,c,rfl,hc,hR,hrs,P',hP',hb _ _ [] hL⟩
end Go.Proofs.YtddnnapoaonmjaaGreatDoor
