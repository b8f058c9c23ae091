/-
  Texts of WorldCopies, laid together by program.
-/
import Derived.Test.YtddnnapoaonmjaaGreatDoorWZ9
import Derived.Test.YtddnnapoaonmjaaGreatDoorWZ18
import Derived.Test.YtddnnapoaonmjaaGreatDoorWZ20
namespace Go.Proofs.YtddnnapoaonmjaaGreatDoor
open Go.RowKit Go.Shelf Go.Proofs.Tryz
set_option maxRecDepth 100000
set_option maxHeartbeats 8000000
set_option linter.unusedVariables false
set_option linter.unusedSimpArgs false
theorem BD.rDrop'{T:List Nat}{w0 w:World}{l:List ai}{P:World->Prop}(h:BD T w0 w l)(j:Nat)(hj:l[j]? =some (aA P))(a:Option Addr)(cap:Nat)(rs:List ME)(i:Int)(hcap:rs.length<=cap)(hP:∀W,P W->fo W a rs)(hlen:rs.length<=1048576):
  Calls prog 275 #[.agg #[.slice a rs.length cap],i] w fun e w'=>∃(a':Option Addr) (cap':Nat) (rs':List ME) (x:ME) (c:Bool),e= .returned (.tuple #[.agg #[.slice a' rs'.length cap'],x.val,c])/\rs'.length<=cap'/\kF rs i x c/\rs'=(if c=true then rs.eraseIdx i.toNat else rs)/\∃P':World->Prop,(∀W,P' W->P W/\fo W a' rs')/\BD T w0 w' (l.set j (aA P')):=by
 obtain⟨T',h1,hb⟩:=h.qL j hj;refine(UU T' w P a cap rs i hcap h1 hP hlen).mono ?_;rintro e w' ⟨a',cap',rs',x,c,rfl,hc,hR,hrs,P',hP',hL⟩;exact⟨a',cap',rs',x,c,rfl,hc,hR,hrs,P',hP',hb _ _ [] hL⟩
def YC(T:List Nat)(w:World)(P:World->Prop)(cell:Int)(rs:List ME)(x:ME)(e:Ending)(w':World):Prop:=
 ∃(err:Int) (a':Option Addr) (cap':Nat) (rs':List ME),e= .returned (.tuple #[.agg #[cell,.slice a' rs'.length cap'],err])/\rs'.length<=cap'/\((err=2/\¬x.plain.Ok/\rs'=rs)\/(err=6/\x.plain.Ok/\rs.length=4096/\rs'=rs)\/(err=0/\x.plain.Ok/\rs.length<4096/\rs'=rs++[x]))/\TD T w P a' rs' w'
theorem VF(T:List Nat)(w:World)(P:World->Prop)(cell:Int)(a:Option Addr)(cap:Nat)(rs:List ME)(x:ME)(hcap:rs.length<=cap)(h:BD T w w [aA P])(hP:∀W,P W->fo W a rs/\x.v.In W)(hnx:x.v.nodes<=1048576)(hlen:rs.length<=4096):
  Calls prog 239 #[.agg #[cell,.slice a rs.length cap],x.val] w (YC T w P cell rs x):=by
 have HP:=hdq hP;have BG:=hdq h;simp only[bB];go_enter func239,ntmps239
 go_wp2_with fail
 refine ah ?_;intro w1 hw1;have BB:=hdq (BG.o.UX hw1);simp only[nAq,cAq]at BB;generalize hb4:w.heap.size+1+1=b4 at BB|-;generalize hb3:w.heap.size+1=b3 at BB|-;generalize hb2:w.heap.size=b2 at BB|-;refine(BB.o.Va 0 rfl a cap rs x hcap HP.o hnx hlen).mono ?_;rintro e w2 ⟨err,a',cap',rs',rfl,hcp,hc,P',hP',hL⟩;have HL2:=hdq hL;simp only[sZq]at HL2;have HC:=hdq hc;have LU:=hdq hcp;have WI:=hdq hP';obtain⟨v0,v1,vf0,vf1,hl2,_,_⟩:=HL2.o.c2 1 rfl;obtain⟨u0,u1,Z8,Z9,hl4,_,_⟩:=HL2.o.c2 3 rfl;have n1:=HL2.o.ne 1 3 rfl rfl (by decide);have n2:=Ne.symm n1;go_wp2;have BH:=hdq ((((HL2.o.set 1 rfl 1 (.slice a' rs'.length cap')).set 3 rfl 0 (.int .i64 cell)).set 3 rfl 1 (.slice a' rs'.length cap')).dL (.cells #[.slice a' rs'.length cap'] 72));simp only[sSq,sZq,sAq]at BH;obtain⟨s0,s1,_⟩:=BH.o.c2 3 rfl;refine bodyPost_ret (v:= .tuple #[.agg #[cell,.slice a' rs'.length cap'],err]) (by simp[results,results239,go_sem,s0,s1]) rfl ?_;exact⟨err,a',cap',rs',rfl,LU.o,HC.o,P',WI.o,BD.aF (l:=[_]) (m:=[_,_,_]) BH.o⟩
def Yv(T:List Nat)(w:World)(P:World->Prop)(cell:Int)(rs:List ME)(e:Ending)(w':World):Prop:=
 ∃(a':Option Addr) (cap':Nat) (rs':List ME) (x:ME) (c:Bool),e= .returned (.tuple #[.agg #[cell,.slice a' rs'.length cap'],x.val,c])/\rs'.length<=cap'/\kF rs 0 x c/\rs'=(if c=true then rs.eraseIdx 0 else rs)/\TD T w P a' rs' w'
theorem VS(T:List Nat)(w:World)(P:World->Prop)(cell:Int)(a:Option Addr)(cap:Nat)(rs:List ME)(hcap:rs.length<=cap)(h:BD T w w [aA P])(hP:∀W,P W->fo W a rs)(hlen:rs.length<=1048576):
  Calls prog 241 #[.agg #[cell,.slice a rs.length cap]] w (Yv T w P cell rs):=by
 have HP:=hdq hP;have BG:=hdq h;clear h hP;go_enter func241,ntmps241
 go_wp2_with fail
 refine ah ?_;intro w1 hw1;have BB:=hdq (BG.o.UX hw1);simp only[nAq,cAq]at BB;generalize hb3:w.heap.size+1+1=b3 at BB|-;generalize hb2:w.heap.size+1=b2 at BB|-;generalize hb1:w.heap.size=b1 at BB|-;clear hw1 hb3 hb2 hb1 BG;refine(BB.o.rDrop' 0 rfl a cap rs 0 hcap HP.o hlen).mono ?_;rintro e w2 ⟨a',cap',rs',x,c,rfl,hcp,hR,hrs,P',hP',hL⟩;have HL2:=hdq hL;simp only[sZq]at HL2;have HR:=hdq hR;have HRS:=hdq hrs;have LU:=hdq hcp;have WI:=hdq hP';clear hL hR hrs hcp hP' BB;simp only[bB];obtain⟨v0,v1,vf0,vf1,hl2,_,_⟩:=HL2.o.c2 1 rfl;go_upto_region 3 with fail
 refine ay ?_;intro w3 hw3;have BF:Hid (BD T w w3 [aA P',box b1 284 #[cell,.slice a' rs'.length cap'],box b2 284 #[(),True],box b3 47 #[(),(),(),(),(),(),True],box w2.heap.size 72 #[.slice a' rs'.length cap'],box (w2.heap.size+1) 47 #[x.sync,x.thread,x.branch,x.flag,x.v.kind,x.v.num,.slice x.v.addr x.v.parts.length x.v.cap]]):=by
  have h:=((HL2.o.set 1 rfl 1 (.slice a' rs'.length cap')).alloc 72 #[.slice a' rs'.length cap']).alloc 47 #[x.sync,x.thread,x.branch,x.flag,x.v.kind,x.v.num,.slice x.v.addr x.v.parts.length x.v.cap];rw[hw3]at h;unfold Hid;simpa using h
 generalize hb6:w2.heap.size+1=b6 at BF|-;clear hw3 hb6 HL2 v0 v1 vf0 vf1 hl2;obtain⟨v0,v1,vf0,vf1,hl2,_,_⟩:=BF.o.c2 1 rfl;obtain⟨u0,u1,Z8,Z9,hl4,_,_⟩:=BF.o.c2 2 rfl;obtain⟨y0,y1,y2,y3,y4,y5,y6,⟨fy0,fy1,fy2,fy3,fy4,fy5,fy6⟩,hl5,_,_⟩:=BF.o.c7 3 rfl;obtain⟨x0,x1,x2,x3,x4,x5,x6,_,hl7,_,_⟩:=BF.o.c7 5 rfl;have n1:=BF.o.ne 1 2 rfl rfl (by decide);have n2:=BF.o.ne 1 3 rfl rfl (by decide);have n3:=BF.o.ne 2 3 rfl rfl (by decide);have n4:=BF.o.ne 2 5 rfl rfl (by decide);have n5:=BF.o.ne 3 5 rfl rfl (by decide);have m1:=Ne.symm n1;have m2:=Ne.symm n2;have m3:=Ne.symm n3;have m4:=Ne.symm n4;have m5:=Ne.symm n5;go_wp2_with fail
 go_region_held3 (fun w'=>w'.cell? ⟨b1,0,none⟩=some (.int .i64 cell)/\w'.cell? ⟨b1,1,none⟩=some (.slice a' rs'.length cap')/\w'.cell? ⟨b6,0,none⟩=some (.int .i64 x.sync)/\w'.cell? ⟨b6,1,none⟩=some (.int .i64 x.thread)/\w'.cell? ⟨b6,2,none⟩=some (.int .i64 x.branch)/\w'.cell? ⟨b6,3,none⟩=some (.int .i64 x.flag)/\w'.cell? ⟨b6,4,none⟩=some (.int .i64 x.v.kind)/\w'.cell? ⟨b6,5,none⟩=some (.int .i64 x.v.num)/\w'.cell? ⟨b6,6,none⟩=some (.slice x.v.addr x.v.parts.length x.v.cap)) (go_keep) (fail)
 go_wp2;have HF:=hdq (((((BF.o.set 2 rfl 0 (.int .i64 cell)).set 2 rfl 1 (.slice a' rs'.length cap')).iD 3 rfl x.sync x.thread x.branch x.flag x.v.kind x.v.num (.slice x.v.addr x.v.parts.length x.v.cap))).drew);simp only[sSq,sZq,sAq]at HF;obtain⟨q0,q1,_⟩:=HF.o.c2 2 rfl;obtain⟨s0,s1,s2,s3,s4,s5,s6,_⟩:=HF.o.c7 3 rfl;refine bodyPost_ret (v:= .tuple #[.agg #[cell,.slice a' rs'.length cap'],x.val,c]) (by simp[results,results241,go_sem,q0,q1,s0,s1,s2,s3,s4,s5,s6,bB]) rfl ?_;exact⟨a',cap',rs',x,c,rfl,LU.o,HR.o,HRS.o,P',WI.o,BD.aF (l:=[_]) (m:=[_,_,_,_,_]) HF.o⟩
def O5(c:Nat)(a:Int)(M q1 q2:Nat)(es1 es2:List ME)(P:World->Prop)(d N:Nat)(o:Obj)(r:List ai):List ai:=
 gB c a M q1 q2 es1 es2++[aA P,box d 203 #[a,.map (some N)],fZ N o]++r
theorem Ow(T:List Nat)(w:World)(c:Nat)(a:Int)(M q1 q2:Nat)(es1 es2:List ME)(P:World->Prop)(h:BD T w w (gB c a M q1 q2 es1 es2++[aA P]))(hS:∀W,P W->bJ W)(hP:∀W,P W->(∀e∈es1,e.v.In W/\e.v.nodes<=256)/\∀e∈es2,e.v.In W/\e.v.nodes<=256)(hl1:es1.length<=4096)(hl2:es2.length<=4096):
  Calls prog 52 #[c] w fun e w'=>∃(d N p1 p2:Nat) (EB FC:List ME),e= .returned (.pointer (some ⟨d,0,none⟩))/\EB.map ME.plain=es1.map ME.plain/\FC.map ME.plain=es2.map ME.plain/\BD T w w' (O5 c a M q1 q2 es1 es2 P d N (gW p1 p2) [aQ p1 EB,bS (EB.map ME.v),aQ p2 FC,bS (FC.map ME.v)]):=by
 have HS:=hdq hS;have HP:=hdq hP;have BG:=hdq h;simp only[gB,cAq,nAq]at BG;obtain⟨c0,c1,hl,hl'⟩:=(BG.o.xP 0 1 rfl rfl).cells;obtain⟨t0,t1⟩:=HS.o _ (BG.o.still 4 rfl);have tl:0<w.heap.size:=World.block_lt_of_cell? _ _ t0;have tl1:0<w.heap.size+1:=by omega
 have hmk:=rJ 2;have hbc:∀W m,(Instr.build 203 #[(0,.agg #[a]),(1,.map (some m))]).run prog W= .ok (.agg #[a,.map (some m)]) W:=fun W m=>run_build W 203 _ _ (by kernel_rfl);go_enter func52,ntmps52
 go_wp2_with fail
 refine(jC _ _ _ _ _ _ (BG.o.xP 0 1 rfl rfl)).mono ?_;rintro e w' ⟨rfl,rfl⟩;go_wp2_with fail
 refine ay ?_;intro w1 hw1;have BB:=hdq (((BG.o.xK (.map #[] 0)).alloc 203 #[a,.map (some w.heap.size)]).via hw1);simp only[World.size_alloc,nAq,cAq]at BB;generalize hd:w.heap.size+1=d at BB|-;generalize hN:w.heap.size=N at BB|-;go_loopw [16] (fun i wr=>(i= .int .i64 0/\Hid (BD T w wr (O5 c a M q1 q2 es1 es2 P d N (.map #[] 0) [])))\/
   (i= .int .i64 1/\∃p1 EB,Hid (EB.map ME.plain=es1.map ME.plain)/\Hid (BD T w wr (O5 c a M q1 q2 es1 es2 P d N (.map #[⟨.int .i64 1,.pointer (some ⟨p1,0,none⟩),0⟩] 1) [aQ p1 EB,bS (EB.map ME.v)])))\/
   (i= .int .i64 2/\∃p1 p2 EB FC,Hid (EB.map ME.plain=es1.map ME.plain)/\Hid (FC.map ME.plain=es2.map ME.plain)/\Hid (BD T w wr (O5 c a M q1 q2 es1 es2 P d N (gW p1 p2) [aQ p1 EB,bS (EB.map ME.v),aQ p2 FC,bS (FC.map ME.v)])))) (fun i _=>2-(intOf i).toNat)
 case atStart=>exact .inl ⟨rfl,BB.o.sel [0,1,2,3,4,6,5] rfl (by decide)⟩
 case round=>
  rcases hrel with ⟨rfl,HK⟩|⟨rfl,p1,EB,HY1,HK⟩|⟨rfl,p1,p2,EB,FC,HY1,HY2,HK⟩
  .simp only[O5,gB,cAq,nAq,List.append_nil]at HK
   obtain⟨c0,c1,hl,hl'⟩:=(HK.o.xP 0 1 rfl rfl).cells;obtain⟨d0,d1,f0,f1,hdl,_,_⟩:=HK.o.c2 5 rfl;have hi:=OG wr;have HCQ:=hdq (fun W (hW:Touch [] wr W)=>xV W q1 es1 ((HK.o.touch hW).qAt 2 rfl) ((HP.o _ ((HK.o.touch hW).still 4 rfl)).1) (by omega));have hlk:=(fun W (hW:W.heap[M]? =some (gW q1 q2))=>iT W M q1 q2 hW 1);have hM:=HK.o.G8 1 rfl;have JC:=iT wr M q1 q2 hM 1;have hlk2:=iT wr.drew M q1 q2 hM 1;rw[show Hg 1 q1 q2=some ⟨q1,0,none⟩ from rfl]at JC hlk2;go_wp2_with fail
   go_region_held3 (fun w'=>w'.cell? ⟨c,1,none⟩=some (.map (some M))/\w'.cell? ⟨d,1,none⟩=some (.map (some N))) (go_keep) (first
    |(go_at_call 141;refine(HCQ.o _ (Touch.refl [] wr).drew).mono ?_;rintro e w3 ⟨p1,EB,rfl,hpl,hL⟩;have BF:=hdq (HK.o.drew.join hL);(simp only[nAq,cAq]at BF);have HY1:=hdq hpl;obtain⟨c0,c1,hl,hl'⟩:=(BF.o.xP 0 1 rfl rfl).cells;obtain⟨d0,d1,f0,f1,hdl,_,_⟩:=BF.o.c2 5 rfl;have hmu:=mX w3 N #[] 0 (BF.o.G8 6 rfl) 1 rfl (.pointer (some ⟨p1,0,none⟩));have hk1:=(fun o=>((BF.o.gq 6 rfl o).c2 5 rfl).2.1);have hk2:=(fun o=>((BF.o.gq 6 rfl o).c2 0 rfl).2.1);(simp only[List.push_toArray,nAq,Nat.reduceAdd]at hmu)))
   rename_i hHeld;refine jW ?_;intro w4 hw4;have BH:Hid (BD T w w4 (O5 c a M q1 q2 es1 es2 P d N (.map #[⟨.int .i64 1,.pointer (some ⟨p1,0,none⟩),0⟩] 1) [aQ p1 EB,bS (EB.map ME.v)])):=(BF.o.gq 6 rfl (.map #[⟨.int .i64 1,.pointer (some ⟨p1,0,none⟩),0⟩] 1)).via hw4;go_wp2;go_roundw
   case rel=>exact .inr (.inl ⟨by go_num,p1,EB,HY1,BH⟩)
   case measure=>simp[intOf]
  .simp only[O5,gB,cAq,nAq,List.append_nil]at HK
   obtain⟨c0,c1,hl,hl'⟩:=(HK.o.xP 0 1 rfl rfl).cells;obtain⟨d0,d1,f0,f1,hdl,_,_⟩:=HK.o.c2 5 rfl;have hi:=O6 wr;have HCQ:=hdq (fun W (hW:Touch [] wr W)=>xV W q2 es2 ((HK.o.touch hW).qAt 3 rfl) ((HP.o _ ((HK.o.touch hW).still 4 rfl)).2) (by omega));have hM:=HK.o.G8 1 rfl;have JC:=iT wr M q1 q2 hM 2;have hlk2:=iT wr.drew M q1 q2 hM 2;rw[show Hg 2 q1 q2=some ⟨q2,0,none⟩ from rfl]at JC hlk2;go_wp2_with fail
   go_region_held3 (fun w'=>w'.cell? ⟨c,1,none⟩=some (.map (some M))/\w'.cell? ⟨d,1,none⟩=some (.map (some N))) (go_keep) (first
    |(go_at_call 141;refine(HCQ.o _ (Touch.refl [] wr).drew).mono ?_;rintro e w3 ⟨p2,FC,rfl,hpl,hL⟩;have BF:=hdq (HK.o.drew.join hL);(simp only[nAq,cAq]at BF);have HY2:=hdq hpl;obtain⟨c0,c1,hl,hl'⟩:=(BF.o.xP 0 1 rfl rfl).cells;obtain⟨d0,d1,f0,f1,hdl,_,_⟩:=BF.o.c2 5 rfl;have hmu:=mX w3 N #[⟨.int .i64 1,.pointer (some ⟨p1,0,none⟩),0⟩] 1 (BF.o.G8 6 rfl) 2 rfl (.pointer (some ⟨p2,0,none⟩));have hk1:=(fun o=>((BF.o.gq 6 rfl o).c2 5 rfl).2.1);have hk2:=(fun o=>((BF.o.gq 6 rfl o).c2 0 rfl).2.1);(simp only[List.push_toArray,nAq,cAq,Nat.reduceAdd]at hmu)))
   rename_i hHeld;refine jW ?_;intro w4 hw4;have BH:Hid (BD T w w4 (O5 c a M q1 q2 es1 es2 P d N (gW p1 p2) [aQ p1 EB,bS (EB.map ME.v),aQ p2 FC,bS (FC.map ME.v)])):=(BF.o.gq 6 rfl (gW p1 p2)).via hw4;go_wp2;go_roundw
   case rel=>exact .inr (.inr ⟨by go_num,p1,p2,EB,FC,HY1,HY2,BH⟩)
   case measure=>simp[intOf]
  .go_wp2
   go_ret
   exact⟨d,N,p1,p2,EB,FC,rfl,HY1.o,HY2.o,HK.o⟩
def MT.E8(v:MT):Prop:=v.kind=0/\v.num=0/\v.parts.length=0
theorem lu{p q:Prop}{w w0 w':World}{e:Ending}(h:aI p w e w')(hpq:p↔q)(ht:Touch [] w0 w):aI q w0 e w':=by
 obtain⟨c,he,hc,h2⟩:=h;exact⟨c,he,hc.trans hpq,ht.trans' h2⟩
theorem xO(v:MT)(w:World):Calls prog 282 #[v.val] w (aI v.E8 w):=by
 have HT:Hid (Touch [] w (w.alloc (.cells #[v.kind,v.num,.slice v.addr v.parts.length v.cap] 45))):=(Touch.refl [] w).alloc _;have z1:w.heap.size<w.heap.size+1:=by omega
 have HY:Hid (v.E8->aI v.E8 w (.returned (.bool true)) (w.alloc (.cells #[v.kind,v.num,.slice v.addr v.parts.length v.cap] 45))):=fun h=>⟨true,rfl,by simp[h],HT.o⟩;have HN:Hid (¬v.E8->aI v.E8 w (.returned (.bool false)) (w.alloc (.cells #[v.kind,v.num,.slice v.addr v.parts.length v.cap] 45))):=fun h=>⟨false,rfl,by simp[h],HT.o⟩;obtain⟨p,hp⟩:∃p,v.E8=p:=⟨_,rfl⟩;simp only[MT.val,MT.sl];by_cases h1:v.kind=0
 .by_cases h2:v.num=0
  .by_cases h3:v.parts.length=0
   .have HE:=hdq (HY.o ⟨h1,h2,h3⟩)
    rw[h1,h2,h3]at HE|-;go_enter func282,ntmps282
    go_wp2;go_ret
    exact HE.o
   .have HE:=hdq (HN.o (fun h=>h3 h.2.2))
    have h3':((v.parts.length:Int)==0)=false:=by simp;exact fun h=>h3 (by simp[h])
    rw[h1,h2]at HE|-;go_enter func282,ntmps282
    go_wp2;go_ret
    exact HE.o
  .have HE:=hdq (HN.o (fun h=>h2 h.2.1))
   rw[h1]at HE|-;have h2':decide (v.num=0)=false:=decide_eq_false h2;go_enter func282,ntmps282
   go_wp2;go_ret
   exact HE.o
 .have HE:=hdq (HN.o (fun h=>h1 h.1))
  have h1':decide (v.kind=0)=false:=decide_eq_false h1;go_enter func282,ntmps282
  go_wp2;go_ret
  exact HE.o
theorem J8(b:MB)(w:World)(p:Option Addr)(hb:b.v.In w):Calls prog 255 #[.pointer p,b.val] w (aI (b.n=0/\b.v.plain.Ok) w):=by
 have HC:Hid (∀W,Touch [] w W->Calls prog 132 #[.agg #[b.v.kind,b.v.num,.slice b.v.addr b.v.parts.length b.v.cap]] W fun e w'=>(∃z:Int,e= .returned (.int .i64 z)/\(z=0\/z=40)/\(z=0↔b.v.plain.Ok))/\Touch [] W w'):=fun W hW=>jH b.v W (hb.aO hW);simp only[MB.val];have z1:w.heap.size<w.heap.size+1:=by omega
 by_cases hn:b.n=0
 .rw[hn]
  go_enter func255,ntmps255
  go_wp2_with fail
  refine ah ?_;intro w1 hw1;have BB:=hdq ((BD.nil' w).DN hw1);refine(HC.o _ BB.o.BN).mono ?_;rintro e w2 ⟨⟨z,rfl,hz,hiff⟩,ht⟩;have HT2:=hdq (BB.o.BN.trans' ht);have HIF:=hdq hiff;rcases hz with rfl|rfl
  .go_wp2
   go_ret
   have hok:b.v.plain.Ok:=by simpa using HIF.o
   exact⟨true,rfl,by simp[hn,hok],HT2.o⟩
  .go_wp2
   go_ret
   have hok:¬b.v.plain.Ok:=by simpa using HIF.o
   exact⟨false,rfl,by simp[hn,hok],HT2.o⟩
 .have h1':decide (b.n=0)=false:=decide_eq_false hn
  have HE:=hdq (show aI (b.n=0/\b.v.plain.Ok) w (.returned (.bool false)) _ from⟨false,rfl,by simp[hn],(Touch.refl [] w).alloc (.cells #[b.kind,b.n,b.v.kind,b.v.num,.slice b.v.addr b.v.parts.length b.v.cap,.slice b.wa b.wraps.length b.wc,.slice b.na b.aT.length b.nc] 110)⟩);go_enter func255,ntmps255
  go_wp2;go_ret
  exact HE.o
theorem NU(b:MB)(w:World)(p:Option Addr)(hb:b.v.In w):Calls prog 256 #[.pointer p,b.val] w (aI (b.n=0/\b.v.E8) w):=by
 have HC:Hid (∀W,Touch [] w W->Calls prog 282 #[.agg #[b.v.kind,b.v.num,.slice b.v.addr b.v.parts.length b.v.cap]] W (aI b.v.E8 W)):=fun W hW=>xO b.v W;simp only[MB.val];have z1:w.heap.size<w.heap.size+1:=by omega
 by_cases hn:b.n=0
 .rw[hn]
  go_enter func256,ntmps256
  go_wp2_with fail
  refine ah ?_;intro w1 hw1;have BB:=hdq ((BD.nil' w).DN hw1);refine(HC.o _ BB.o.BN).mono ?_;rintro e w2 ⟨c,rfl,hc,ht⟩;have HT2:=hdq (BB.o.BN.trans' ht);have HIF:=hdq hc;go_wp2;go_ret
  exact⟨c,rfl,by simp[hn,HIF.o],HT2.o⟩
 .have h1':decide (b.n=0)=false:=decide_eq_false hn
  have HE:=hdq (show aI (b.n=0/\b.v.E8) w (.returned (.bool false)) _ from⟨false,rfl,by simp[hn],(Touch.refl [] w).alloc (.cells #[b.kind,b.n,b.v.kind,b.v.num,.slice b.v.addr b.v.parts.length b.v.cap,.slice b.wa b.wraps.length b.wc,.slice b.na b.aT.length b.nc] 110)⟩);go_enter func256,ntmps256
  go_wp2;go_ret
  exact HE.o
def tC(b:MB)(n1:Nat)(w:World):Ending->World->Prop:=aI ((0<=b.n/\b.n<(n1:Int))/\b.v.plain.Ok) w
def sK(b:MB)(n1:Nat)(w:World):Ending->World->Prop:=aI ((0<=b.n/\b.n<(n1:Int))/\b.v.E8) w
theorem Mr(b:MB)(w:World)(wb:Nat)(a1:Option Addr)(n1 c1:Nat)(hb:b.v.In w)(hw:w.cell? ⟨wb,1,none⟩=some (.slice a1 n1 c1)):Calls prog 253 #[wb,b.val] w (aI ((0<=b.n/\b.n<(n1:Int))/\b.v.plain.Ok) w):=by
 have HC:Hid (∀W,Touch [] w W->Calls prog 132 #[.agg #[b.v.kind,b.v.num,.slice b.v.addr b.v.parts.length b.v.cap]] W fun e w'=>(∃z:Int,e= .returned (.int .i64 z)/\(z=0\/z=40)/\(z=0↔b.v.plain.Ok))/\Touch [] W w'):=fun W hW=>jH b.v W (hb.aO hW);simp only[MB.val];show Calls _ _ _ _ (tC b n1 w)
 have z1:w.heap.size<w.heap.size+1:=by omega
 go_enter func253,ntmps253
 go_upto_region 1 with fail
 refine ay ?_;intro w1 hw0;have BB:=hdq ((BD.nil' w).DN hw0);simp only[nAq]at BB;have hw1:=BB.o.BN.cellOf hw;generalize hb3:w.heap.size=b3 at BB|-;have FW:=hdq (fun W (hW:Touch [] w1 W)=>HC.o W (BB.o.BN.trans' hW));have HC:=FW;obtain⟨x0,x1,x2,x3,x4,x5,x6,⟨xf0,xf1,Gd,Gh,GK,Gn,Gr⟩,zx,_,_⟩:=BB.o.c7 0 rfl;have zw:=World.block_lt_of_cell? _ _ hw1;have BZ:=hdq (Touch.refl [] w1).drew;have HN:Hid (¬(0<=b.n/\b.n<(n1:Int))->tC b n1 w (.returned (.bool false)) w1.drew):=fun h=>⟨false,rfl,by simp;intro h1 h2;exact absurd ⟨h1,h2⟩ h,BB.o.BN.trans' BZ.o⟩;by_cases h1:0<=b.n
 .by_cases h2:b.n<(n1:Int)
  .clear HN
   go_wp2_with fail
   refine hrq (S:=fun w'=>w'.cell? ⟨b3,1,none⟩=some (.int .i64 b.n)/\w'.cell? ⟨b3,2,none⟩=some (.int .i64 b.v.kind)/\w'.cell? ⟨b3,3,none⟩=some (.int .i64 b.v.num)/\w'.cell? ⟨b3,4,none⟩=some (.slice b.v.addr b.v.parts.length b.v.cap)/\w'.cell? ⟨wb,1,none⟩=some (.slice a1 n1 c1)) fun hHeld=>?_;refine tkq 0 5 ?_;refine tkq 1 6 ?_;refine tkq 2 7 ?_;refine tkq 3 8 ?_;refine tkq 4 9 ?_;refine tkq 5 10 ?_;refine tkq 6 11 ?_;refine tkq 7 12 ?_;refine tkq 8 13 ?_;refine tkq 9 14 ?_;refine tkq 10 15 ?_;refine tkq 11 16 ?_;refine tkq 12 17 ?_;refine tkq 13 18 ?_;refine tkq 14 19 ?_;refine tkq 15 20 ?_;refine rdq 16 rfl fun K hK=>?_;go_simp;refine(HC.o _ BZ.o).mono ?_;rintro e w2 ⟨⟨z,rfl,hz,hiff⟩,ht⟩;have HL2:=hdq (BB.o.touch (BZ.o.trans' ht));have HIF:=hdq hiff;have hw2:=(BZ.o.trans' ht).cellOf hw1;obtain⟨x0,x1,x2,x3,x4,x5,x6,⟨xf0,xf1,Gd,Gh,GK,Gn,Gr⟩,zx,_,_⟩:=HL2.o.c7 0 rfl;have zw:=World.block_lt_of_cell? _ _ hw2;rcases hz with rfl|rfl
   .have HE:=hdq (show tC b n1 w (.returned (.bool true)) w2 from⟨true,rfl,by have :=HIF.o;simp at this;simp[h1,h2,this],HL2.o.BN⟩)
    go_simp;refine kpq hK.o fun hHeld=>?_;refine tkq 17 22 ?_;refine tkq 18 23 ?_;refine tkq 19 4 ?_;refine dnq ?_;go_wp2;go_ret
    exact HE.o
   .have HE:=hdq (show tC b n1 w (.returned (.bool false)) w2 from⟨false,rfl,by have :=HIF.o;simp at this;simp[h1,h2,this],HL2.o.BN⟩)
    go_simp;refine kpq hK.o fun hHeld=>?_;refine tkq 17 22 ?_;refine tkq 18 23 ?_;refine tkq 19 4 ?_;refine dnq ?_;go_wp2;go_ret
    exact HE.o
  .have hd2:decide (b.n<(n1:Int))=false:=decide_eq_false h2
   have HE:=hdq (HN.o (fun h=>h2 h.2));go_wp2_with fail
   refine hrq (S:=fun w'=>w'.cell? ⟨b3,1,none⟩=some (.int .i64 b.n)/\w'.cell? ⟨b3,2,none⟩=some (.int .i64 b.v.kind)/\w'.cell? ⟨b3,3,none⟩=some (.int .i64 b.v.num)/\w'.cell? ⟨b3,4,none⟩=some (.slice b.v.addr b.v.parts.length b.v.cap)/\w'.cell? ⟨wb,1,none⟩=some (.slice a1 n1 c1)) fun hHeld=>?_;refine tkq 0 5 ?_;refine tkq 1 6 ?_;refine tkq 2 7 ?_;refine tkq 3 8 ?_;refine tkq 4 9 ?_;refine tkq 5 10 ?_;refine tkq 6 11 ?_;refine tkq 7 12 ?_;refine tkq 8 13 ?_;refine tkq 9 14 ?_;refine tkq 10 15 ?_;refine tkq 11 16 ?_;refine tkq 12 17 ?_;refine tkq 13 18 ?_;refine skq 14 19 ?_;refine skq 15 20 ?_;refine skq 16 21 ?_;refine skq 17 22 ?_;refine tkq 18 23 ?_;refine tkq 19 4 ?_;refine dnq ?_;go_wp2;go_ret
   exact HE.o
 .have hd1:decide (0<=b.n)=false:=decide_eq_false h1
  have HE:=hdq (HN.o (fun h=>h1 h.1));go_wp2_with fail
  refine hrq (S:=fun w'=>w'.cell? ⟨b3,1,none⟩=some (.int .i64 b.n)/\w'.cell? ⟨b3,2,none⟩=some (.int .i64 b.v.kind)/\w'.cell? ⟨b3,3,none⟩=some (.int .i64 b.v.num)/\w'.cell? ⟨b3,4,none⟩=some (.slice b.v.addr b.v.parts.length b.v.cap)/\w'.cell? ⟨wb,1,none⟩=some (.slice a1 n1 c1)) fun hHeld=>?_;refine tkq 0 5 ?_;refine tkq 1 6 ?_;refine tkq 2 7 ?_;refine tkq 3 8 ?_;refine skq 4 9 ?_;refine skq 5 10 ?_;refine skq 6 11 ?_;refine skq 7 12 ?_;refine skq 8 13 ?_;refine skq 9 14 ?_;refine skq 10 15 ?_;refine skq 11 16 ?_;refine tkq 12 17 ?_;refine tkq 13 18 ?_;refine skq 14 19 ?_;refine skq 15 20 ?_;refine skq 16 21 ?_;refine skq 17 22 ?_;refine tkq 18 23 ?_;refine tkq 19 4 ?_;refine dnq ?_;go_wp2;go_ret
  exact HE.o
theorem yw(b:MB)(w:World)(wb:Nat)(a1:Option Addr)(n1 c1:Nat)(hb:b.v.In w)(hw:w.cell? ⟨wb,1,none⟩=some (.slice a1 n1 c1)):Calls prog 254 #[wb,b.val] w (aI ((0<=b.n/\b.n<(n1:Int))/\b.v.E8) w):=by
 have HC:Hid (∀W,Touch [] w W->Calls prog 282 #[.agg #[b.v.kind,b.v.num,.slice b.v.addr b.v.parts.length b.v.cap]] W (aI b.v.E8 W)):=fun W hW=>xO b.v W;simp only[MB.val];show Calls _ _ _ _ (sK b n1 w)
 have z1:w.heap.size<w.heap.size+1:=by omega
 go_enter func254,ntmps254
 go_upto_region 1 with fail
 refine ay ?_;intro w1 hw0;have BB:=hdq ((BD.nil' w).DN hw0);simp only[nAq]at BB;have hw1:=BB.o.BN.cellOf hw;generalize hb3:w.heap.size=b3 at BB|-;have FW:=hdq (fun W (hW:Touch [] w1 W)=>HC.o W (BB.o.BN.trans' hW));have HC:=FW;obtain⟨x0,x1,x2,x3,x4,x5,x6,⟨xf0,xf1,Gd,Gh,GK,Gn,Gr⟩,zx,_,_⟩:=BB.o.c7 0 rfl;have zw:=World.block_lt_of_cell? _ _ hw1;have BZ:=hdq (Touch.refl [] w1).drew;have HN:Hid (¬(0<=b.n/\b.n<(n1:Int))->sK b n1 w (.returned (.bool false)) w1.drew):=fun h=>⟨false,rfl,by simp;intro h1 h2;exact absurd ⟨h1,h2⟩ h,BB.o.BN.trans' BZ.o⟩;by_cases h1:0<=b.n
 .by_cases h2:b.n<(n1:Int)
  .clear HN
   go_wp2_with fail
   refine hrq (S:=fun w'=>w'.cell? ⟨b3,1,none⟩=some (.int .i64 b.n)/\w'.cell? ⟨b3,2,none⟩=some (.int .i64 b.v.kind)/\w'.cell? ⟨b3,3,none⟩=some (.int .i64 b.v.num)/\w'.cell? ⟨b3,4,none⟩=some (.slice b.v.addr b.v.parts.length b.v.cap)/\w'.cell? ⟨wb,1,none⟩=some (.slice a1 n1 c1)) fun hHeld=>?_;refine tkq 0 5 ?_;refine tkq 1 6 ?_;refine tkq 2 7 ?_;refine tkq 3 8 ?_;refine tkq 4 9 ?_;refine tkq 5 10 ?_;refine tkq 6 11 ?_;refine tkq 7 12 ?_;refine tkq 8 13 ?_;refine tkq 9 14 ?_;refine tkq 10 15 ?_;refine tkq 11 16 ?_;refine tkq 12 17 ?_;refine tkq 13 18 ?_;refine tkq 14 19 ?_;refine tkq 15 20 ?_;refine rdq 16 rfl fun K hK=>?_;go_simp;refine(HC.o _ BZ.o).mono ?_;rintro e w2 ⟨c,rfl,hc,ht⟩;have HL2:=hdq (BB.o.touch (BZ.o.trans' ht));have hw2:=(BZ.o.trans' ht).cellOf hw1;have HE:=hdq (show sK b n1 w (.returned (.bool c)) w2 from⟨c,rfl,by simp[h1,h2,hc],HL2.o.BN⟩);obtain⟨x0,x1,x2,x3,x4,x5,x6,⟨xf0,xf1,Gd,Gh,GK,Gn,Gr⟩,zx,_,_⟩:=HL2.o.c7 0 rfl;have zw:=World.block_lt_of_cell? _ _ hw2;go_simp;refine kpq hK.o fun hHeld=>?_;refine tkq 17 22 ?_;refine tkq 18 4 ?_;refine dnq ?_;go_wp2;go_ret
   exact HE.o
  .have hd2:decide (b.n<(n1:Int))=false:=decide_eq_false h2
   have HE:=hdq (HN.o (fun h=>h2 h.2));go_wp2_with fail
   refine hrq (S:=fun w'=>w'.cell? ⟨b3,1,none⟩=some (.int .i64 b.n)/\w'.cell? ⟨b3,2,none⟩=some (.int .i64 b.v.kind)/\w'.cell? ⟨b3,3,none⟩=some (.int .i64 b.v.num)/\w'.cell? ⟨b3,4,none⟩=some (.slice b.v.addr b.v.parts.length b.v.cap)/\w'.cell? ⟨wb,1,none⟩=some (.slice a1 n1 c1)) fun hHeld=>?_;refine tkq 0 5 ?_;refine tkq 1 6 ?_;refine tkq 2 7 ?_;refine tkq 3 8 ?_;refine tkq 4 9 ?_;refine tkq 5 10 ?_;refine tkq 6 11 ?_;refine tkq 7 12 ?_;refine tkq 8 13 ?_;refine tkq 9 14 ?_;refine tkq 10 15 ?_;refine tkq 11 16 ?_;refine tkq 12 17 ?_;refine tkq 13 18 ?_;refine skq 14 19 ?_;refine skq 15 20 ?_;refine skq 16 21 ?_;refine tkq 17 22 ?_;refine tkq 18 4 ?_;refine dnq ?_;go_wp2;go_ret
   exact HE.o
 .have hd1:decide (0<=b.n)=false:=decide_eq_false h1
  have HE:=hdq (HN.o (fun h=>h1 h.1));go_wp2_with fail
  refine hrq (S:=fun w'=>w'.cell? ⟨b3,1,none⟩=some (.int .i64 b.n)/\w'.cell? ⟨b3,2,none⟩=some (.int .i64 b.v.kind)/\w'.cell? ⟨b3,3,none⟩=some (.int .i64 b.v.num)/\w'.cell? ⟨b3,4,none⟩=some (.slice b.v.addr b.v.parts.length b.v.cap)/\w'.cell? ⟨wb,1,none⟩=some (.slice a1 n1 c1)) fun hHeld=>?_;refine tkq 0 5 ?_;refine tkq 1 6 ?_;refine tkq 2 7 ?_;refine tkq 3 8 ?_;refine skq 4 9 ?_;refine skq 5 10 ?_;refine skq 6 11 ?_;refine skq 7 12 ?_;refine skq 8 13 ?_;refine skq 9 14 ?_;refine skq 10 15 ?_;refine skq 11 16 ?_;refine tkq 12 17 ?_;refine tkq 13 18 ?_;refine skq 14 19 ?_;refine skq 15 20 ?_;refine skq 16 21 ?_;refine tkq 17 22 ?_;refine tkq 18 4 ?_;refine dnq ?_;go_wp2;go_ret
  exact HE.o
theorem MH(b:MB)(w:World)(wb:Nat)(a1:Option Addr)(n1 c1:Nat)(hb:b.v.In w)(hw:w.cell? ⟨wb,2,none⟩=some (.slice a1 n1 c1)):Calls prog 257 #[wb,b.val] w (aI ((0<=b.n/\b.n<(n1:Int))/\b.v.E8) w):=by
 have HC:Hid (∀W,Touch [] w W->Calls prog 282 #[.agg #[b.v.kind,b.v.num,.slice b.v.addr b.v.parts.length b.v.cap]] W (aI b.v.E8 W)):=fun W hW=>xO b.v W;simp only[MB.val];show Calls _ _ _ _ (sK b n1 w)
 have z1:w.heap.size<w.heap.size+1:=by omega
 go_enter func257,ntmps257
 go_upto_region 1 with fail
 refine ay ?_;intro w1 hw0;have BB:=hdq ((BD.nil' w).DN hw0);simp only[nAq]at BB;have hw1:=BB.o.BN.cellOf hw;generalize hb3:w.heap.size=b3 at BB|-;have FW:=hdq (fun W (hW:Touch [] w1 W)=>HC.o W (BB.o.BN.trans' hW));have HC:=FW;obtain⟨x0,x1,x2,x3,x4,x5,x6,⟨xf0,xf1,Gd,Gh,GK,Gn,Gr⟩,zx,_,_⟩:=BB.o.c7 0 rfl;have zw:=World.block_lt_of_cell? _ _ hw1;have BZ:=hdq (Touch.refl [] w1).drew;have HN:Hid (¬(0<=b.n/\b.n<(n1:Int))->sK b n1 w (.returned (.bool false)) w1.drew):=fun h=>⟨false,rfl,by simp;intro h1 h2;exact absurd ⟨h1,h2⟩ h,BB.o.BN.trans' BZ.o⟩;by_cases h1:0<=b.n
 .by_cases h2:b.n<(n1:Int)
  .clear HN
   go_wp2_with fail
   refine hrq (S:=fun w'=>w'.cell? ⟨b3,1,none⟩=some (.int .i64 b.n)/\w'.cell? ⟨b3,2,none⟩=some (.int .i64 b.v.kind)/\w'.cell? ⟨b3,3,none⟩=some (.int .i64 b.v.num)/\w'.cell? ⟨b3,4,none⟩=some (.slice b.v.addr b.v.parts.length b.v.cap)/\w'.cell? ⟨wb,2,none⟩=some (.slice a1 n1 c1)) fun hHeld=>?_;refine tkq 0 5 ?_;refine tkq 1 6 ?_;refine tkq 2 7 ?_;refine tkq 3 8 ?_;refine tkq 4 9 ?_;refine tkq 5 10 ?_;refine tkq 6 11 ?_;refine tkq 7 12 ?_;refine tkq 8 13 ?_;refine tkq 9 14 ?_;refine tkq 10 15 ?_;refine tkq 11 16 ?_;refine tkq 12 17 ?_;refine tkq 13 18 ?_;refine tkq 14 19 ?_;refine tkq 15 20 ?_;refine rdq 16 rfl fun K hK=>?_;go_simp;refine(HC.o _ BZ.o).mono ?_;rintro e w2 ⟨c,rfl,hc,ht⟩;have HL2:=hdq (BB.o.touch (BZ.o.trans' ht));have hw2:=(BZ.o.trans' ht).cellOf hw1;have HE:=hdq (show sK b n1 w (.returned (.bool c)) w2 from⟨c,rfl,by simp[h1,h2,hc],HL2.o.BN⟩);obtain⟨x0,x1,x2,x3,x4,x5,x6,⟨xf0,xf1,Gd,Gh,GK,Gn,Gr⟩,zx,_,_⟩:=HL2.o.c7 0 rfl;have zw:=World.block_lt_of_cell? _ _ hw2;go_simp;refine kpq hK.o fun hHeld=>?_;refine tkq 17 22 ?_;refine tkq 18 4 ?_;refine dnq ?_;go_wp2;go_ret
   exact HE.o
  .have hd2:decide (b.n<(n1:Int))=false:=decide_eq_false h2
   have HE:=hdq (HN.o (fun h=>h2 h.2));go_wp2_with fail
   refine hrq (S:=fun w'=>w'.cell? ⟨b3,1,none⟩=some (.int .i64 b.n)/\w'.cell? ⟨b3,2,none⟩=some (.int .i64 b.v.kind)/\w'.cell? ⟨b3,3,none⟩=some (.int .i64 b.v.num)/\w'.cell? ⟨b3,4,none⟩=some (.slice b.v.addr b.v.parts.length b.v.cap)/\w'.cell? ⟨wb,2,none⟩=some (.slice a1 n1 c1)) fun hHeld=>?_;refine tkq 0 5 ?_;refine tkq 1 6 ?_;refine tkq 2 7 ?_;refine tkq 3 8 ?_;refine tkq 4 9 ?_;refine tkq 5 10 ?_;refine tkq 6 11 ?_;refine tkq 7 12 ?_;refine tkq 8 13 ?_;refine tkq 9 14 ?_;refine tkq 10 15 ?_;refine tkq 11 16 ?_;refine tkq 12 17 ?_;refine tkq 13 18 ?_;refine skq 14 19 ?_;refine skq 15 20 ?_;refine skq 16 21 ?_;refine tkq 17 22 ?_;refine tkq 18 4 ?_;refine dnq ?_;go_wp2;go_ret
   exact HE.o
 .have hd1:decide (0<=b.n)=false:=decide_eq_false h1
  have HE:=hdq (HN.o (fun h=>h1 h.1));go_wp2_with fail
  refine hrq (S:=fun w'=>w'.cell? ⟨b3,1,none⟩=some (.int .i64 b.n)/\w'.cell? ⟨b3,2,none⟩=some (.int .i64 b.v.kind)/\w'.cell? ⟨b3,3,none⟩=some (.int .i64 b.v.num)/\w'.cell? ⟨b3,4,none⟩=some (.slice b.v.addr b.v.parts.length b.v.cap)/\w'.cell? ⟨wb,2,none⟩=some (.slice a1 n1 c1)) fun hHeld=>?_;refine tkq 0 5 ?_;refine tkq 1 6 ?_;refine tkq 2 7 ?_;refine tkq 3 8 ?_;refine skq 4 9 ?_;refine skq 5 10 ?_;refine skq 6 11 ?_;refine skq 7 12 ?_;refine skq 8 13 ?_;refine skq 9 14 ?_;refine skq 10 15 ?_;refine skq 11 16 ?_;refine tkq 12 17 ?_;refine tkq 13 18 ?_;refine skq 14 19 ?_;refine skq 15 20 ?_;refine skq 16 21 ?_;refine tkq 17 22 ?_;refine tkq 18 4 ?_;refine dnq ?_;go_wp2;go_ret
  exact HE.o
def Ac(N:Nat)(l:List Int):Prop:=(∀t (h:t<l.length),0<=l[t]/\l[t]<(N:Int))/\∀s t (hs:s<l.length) (ht:t<l.length),s<t->l[s]<l[t]
def yU(N:Nat)(l:List Int)(w:World)(e:Ending)(w':World):Prop:=∃b:Bool,e= .returned (.bool b)/\(b=true↔Ac N l)/\w=w'
theorem uG(w:World)(wb:Nat)(a2:Option Addr)(n2 c2:Nat)(hw:w.cell? ⟨wb,2,none⟩=some (.slice a2 n2 c2))(a:Option Addr)(c:Nat)(l:List Int)(h:aG w a 1 l.length (l.flatMap fq)):
  Calls prog 87 #[wb,.slice a l.length c] w (yU n2 l w):=by
 have HR:=hdq h;have hsz:=h.1;clear h;have zw:=World.block_lt_of_cell? _ _ hw;go_enter func87,ntmps87
 go_wp2;go_loopw [5,10] (fun p q wr=>∃(j:Nat) (last:Int),q= .int .i64 (j:Int)/\p= .int .i64 last/\j<=l.length/\wr=w/\ -9223372036854775808<=last/\Hid ((∀t (h:t<l.length),t<j->0<=l[t]/\l[t]<(n2:Int))/\(∀s t (hs:s<l.length) (ht:t<l.length),s<t->t<j->l[s]<l[t])/\ -1<=last/\(∀t (h:t<l.length),t<j->l[t]<=last)/\(last= -1\/∃t,∃h:t<l.length,t<j/\l[t]=last))) (fun _ q _=>l.length-(intOf q).toNat)
 case atStart=>exact⟨0, -1,rfl,rfl,Nat.zero_le _,rfl,by omega,fun t h h0=>absurd h0 (Nat.not_lt_zero _),fun s t hs ht hst h0=>absurd h0 (Nat.not_lt_zero _),by omega,fun t h h0=>absurd h0 (Nat.not_lt_zero _),.inl rfl⟩
 case round=>
  obtain⟨j,last,rfl,rfl,hj,rfl,hl64,HI⟩:=hrel;have hj0:(0:Int)<=(j:Int):=by omega
  by_cases hjl:j<l.length
  .have Cc:(j:Int)<(l.length:Int):=by omega
   obtain⟨b,o,hba,hb,hc⟩:=aG.at (f:=fq) (fun _=>rfl) HR.o j hjl;have hm:=hc 0 Nat.one_pos;obtain⟨y,hy⟩:∃y,l[j]=y:=⟨_,rfl⟩;rw[hy,Nat.mul_one,Nat.add_zero]at hm;have hm2:wr.cell? ⟨b,o+j,none⟩=some (.int .i64 y):=hm;have FR:Hid (y<=last->yU n2 l wr (.returned (.bool false)) wr):=fun hle=>⟨false,rfl,by
    simp only[Bool.false_eq_true,false_iff];rintro⟨g1,g2⟩;rcases HI.o.2.2.2.2 with h1|⟨t,ht,htj,hte⟩
    .have :=(g1 j hjl).1;omega
    .have :=g2 t j ht hjl htj;omega,rfl⟩
   have Gy:Hid ((n2:Int)<=y->yU n2 l wr (.returned (.bool false)) wr):=fun hle=>⟨false,rfl,by
    simp only[Bool.false_eq_true,false_iff];rintro⟨g1,g2⟩;have :=(g1 j hjl).2;omega,rfl⟩
   have HY:=hdq hy;rw[hba];clear hc hy hm hb hba;by_cases h1:y<=last
   .have HE:=hdq (FR.o h1)
    go_wp2;go_ret
    exact HE.o
   .have hd1:decide (y<=last)=false:=decide_eq_false h1
    by_cases h2:(n2:Int)<=y
    .have HE:=hdq (Gy.o h2)
     go_wp2;go_ret
     exact HE.o
    .have hd2:decide ((n2:Int)<=y)=false:=decide_eq_false h2
     go_wp2;go_roundw
     case rel=>
      refine⟨j+1,y,by go_num,(by first |rfl|trivial),by omega,(by first |rfl|trivial),by have :=HI.o.2.2.1;omega,fun t ht htj=>?_,fun s t hs ht hst htj=>?_,by have :=HI.o.2.2.1;omega,fun t ht htj=>?_,.inr ⟨j,hjl,by omega,HY.o⟩⟩
      .by_cases Im:t=j
       .subst Im;rw[HY.o];have :=HI.o.2.2.1;omega
       .exact HI.o.1 t ht (by omega)
      .by_cases Im:t=j
       .subst Im;rw[HY.o];have :=HI.o.2.2.2.1 s hs hst;omega
       .exact HI.o.2.1 s t hs ht hst (by omega)
      .by_cases Im:t=j
       .subst Im;rw[HY.o];omega
       .have :=HI.o.2.2.2.1 t ht (by omega);omega
     case measure=>simp[intOf];omega
  .obtain rfl:j=l.length:=by omega
   have HE:Hid (yU n2 l wr (.returned (.bool true)) wr):=⟨true,rfl,by simp only[true_iff];exact⟨fun t h=>HI.o.1 t h h,fun s t hs ht hst=>HI.o.2.1 s t hs ht hst ht⟩,rfl⟩;go_wp2;go_ret
   exact HE.o
def Di(D:FuncId):Value:= .func (.func D) #[] #[]
def pW:Obj:= .map #[⟨.int .i64 5,Di 253,0⟩,⟨.int .i64 6,Di 254,1⟩,⟨.int .i64 7,Di 255,2⟩,⟨.int .i64 8,Di 256,3⟩,⟨.int .i64 13,Di 257,4⟩] 5
theorem AX(W:World):(Instr.makeMap 245 none).run prog W= .ok (.map (some W.heap.size)) (W.alloc (.map #[] 0)):=by
 have hk:=underlying245;simp[Instr.makeMap,run_underlying hk]
theorem kU(w:World)(M:Nat)(es:Array MapEntry)(clock:Nat)(hr:w.heap[M]? =some (.map es clock))(s:Int)(hf:Instr.findNow (.int .i64) (.int .i64 s) es.toList 0=some none)(v:Value):
  (Instr.mapUpdate 245 (.map (some M)) (.int .i64 s) v).run prog w= .ok () (w.putObj M (.map (es.push ⟨.int .i64 s,v,clock⟩) (clock+1))):=by
 simp[Instr.mapUpdate,run_underlying underlying245,bX hr,bO false 9999 underlying42,bR underlying42 s es.toList hf,ny _ hr]
theorem Ou(w:World):Calls prog 187 #[] w fun e w'=>∃M,e= .returned (.map (some M))/\BD [] w w' [fZ M pW]:=by
 have hmk:=AX w;have BB:=hdq ((BD.nil' w).xK (.map #[] 0));simp only[nAq]at BB;have hm1:=kU _ w.heap.size #[] 0 (BB.o.G8 0 rfl) 5 (by kernel_rfl) (.func (.func 253) #[] #[]);have HL2:=hdq (BB.o.gq 0 rfl (.map #[⟨.int .i64 5,Di 253,0⟩] 1));simp only[sZq]at HL2;have hm2:=kU _ w.heap.size #[⟨.int .i64 5,Di 253,0⟩] 1 (HL2.o.G8 0 rfl) 6 (by kernel_rfl) (.func (.func 254) #[] #[]);have BF:=hdq (HL2.o.gq 0 rfl (.map #[⟨.int .i64 5,Di 253,0⟩,⟨.int .i64 6,Di 254,1⟩] 2));simp only[sZq]at BF;have hm3:=kU _ w.heap.size #[⟨.int .i64 5,Di 253,0⟩,⟨.int .i64 6,Di 254,1⟩] 2 (BF.o.G8 0 rfl) 7 (by kernel_rfl) (.func (.func 255) #[] #[]);have BH:=hdq (BF.o.gq 0 rfl (.map #[⟨.int .i64 5,Di 253,0⟩,⟨.int .i64 6,Di 254,1⟩,⟨.int .i64 7,Di 255,2⟩] 3));simp only[sZq]at BH;have hm4:=kU _ w.heap.size #[⟨.int .i64 5,Di 253,0⟩,⟨.int .i64 6,Di 254,1⟩,⟨.int .i64 7,Di 255,2⟩] 3 (BH.o.G8 0 rfl) 8 (by kernel_rfl) (.func (.func 256) #[] #[]);have Ca:=hdq (BH.o.gq 0 rfl (.map #[⟨.int .i64 5,Di 253,0⟩,⟨.int .i64 6,Di 254,1⟩,⟨.int .i64 7,Di 255,2⟩,⟨.int .i64 8,Di 256,3⟩] 4));simp only[sZq]at Ca;have hm5:=kU _ w.heap.size #[⟨.int .i64 5,Di 253,0⟩,⟨.int .i64 6,Di 254,1⟩,⟨.int .i64 7,Di 255,2⟩,⟨.int .i64 8,Di 256,3⟩] 4 (Ca.o.G8 0 rfl) 13 (by kernel_rfl) (.func (.func 257) #[] #[]);have Db:=hdq (Ca.o.gq 0 rfl (.map #[⟨.int .i64 5,Di 253,0⟩,⟨.int .i64 6,Di 254,1⟩,⟨.int .i64 7,Di 255,2⟩,⟨.int .i64 8,Di 256,3⟩,⟨.int .i64 13,Di 257,4⟩] 5));simp only[sZq]at Db;simp only[List.push_toArray,nAq,cAq,Nat.reduceAdd,Di]at hm1 hm2 hm3 hm4 hm5;go_enter func187,ntmps187
 go_wp2;go_ret
 exact⟨_,rfl,Db.o⟩
theorem wO(w:World):(zeroValue 243).run prog w= .ok .nilFunc w:=by kernel_rfl
def j5(k:Int):Option FuncId:=if k=5 then some 253 else if k=6 then some 254 else if k=7 then some 255 else if k=8 then some 256 else if k=13 then some 257 else none
def rY(k:Int):Value:=match j5 k with
 |some D=>Di D
 |none=> .nilFunc
theorem Ad(w:World)(M:Nat)(h:w.heap[M]? =some pW)(k:Int):(Instr.lookup 245 (.map (some M)) (.int .i64 k) true).run prog w= .ok (.tuple #[rY k,.bool (j5 k).isSome]) w:=by
 unfold pW at h;have hu:=underlying245;have hk:=underlying42;unfold rY j5;by_cases h5:k=5
 .subst h5
  have hf:Instr.findNow (.int .i64) (.int .i64 5) [⟨.int .i64 5,Di 253,0⟩,⟨.int .i64 6,Di 254,1⟩,⟨.int .i64 7,Di 255,2⟩,⟨.int .i64 8,Di 256,3⟩,⟨.int .i64 13,Di 257,4⟩] 0=some (some (0,Di 253)):=by kernel_rfl
  simp[Instr.lookup,run_underlying hu,bX h,bO false 9999 hk,bR hk 5 _ hf]
 by_cases h6:k=6
 .subst h6
  have hf:Instr.findNow (.int .i64) (.int .i64 6) [⟨.int .i64 5,Di 253,0⟩,⟨.int .i64 6,Di 254,1⟩,⟨.int .i64 7,Di 255,2⟩,⟨.int .i64 8,Di 256,3⟩,⟨.int .i64 13,Di 257,4⟩] 0=some (some (1,Di 254)):=by kernel_rfl
  simp[Instr.lookup,run_underlying hu,bX h,bO false 9999 hk,bR hk 6 _ hf]
 by_cases h7:k=7
 .subst h7
  have hf:Instr.findNow (.int .i64) (.int .i64 7) [⟨.int .i64 5,Di 253,0⟩,⟨.int .i64 6,Di 254,1⟩,⟨.int .i64 7,Di 255,2⟩,⟨.int .i64 8,Di 256,3⟩,⟨.int .i64 13,Di 257,4⟩] 0=some (some (2,Di 255)):=by kernel_rfl
  simp[Instr.lookup,run_underlying hu,bX h,bO false 9999 hk,bR hk 7 _ hf]
 by_cases h8:k=8
 .subst h8
  have hf:Instr.findNow (.int .i64) (.int .i64 8) [⟨.int .i64 5,Di 253,0⟩,⟨.int .i64 6,Di 254,1⟩,⟨.int .i64 7,Di 255,2⟩,⟨.int .i64 8,Di 256,3⟩,⟨.int .i64 13,Di 257,4⟩] 0=some (some (3,Di 256)):=by kernel_rfl
  simp[Instr.lookup,run_underlying hu,bX h,bO false 9999 hk,bR hk 8 _ hf]
 by_cases FY:k=13
 .subst FY
  have hf:Instr.findNow (.int .i64) (.int .i64 13) [⟨.int .i64 5,Di 253,0⟩,⟨.int .i64 6,Di 254,1⟩,⟨.int .i64 7,Di 255,2⟩,⟨.int .i64 8,Di 256,3⟩,⟨.int .i64 13,Di 257,4⟩] 0=some (some (4,Di 257)):=by kernel_rfl
  simp[Instr.lookup,run_underlying hu,bX h,bO false 9999 hk,bR hk 13 _ hf]
 have hf:Instr.findNow (.int .i64) (.int .i64 k) [⟨.int .i64 5,Di 253,0⟩,⟨.int .i64 6,Di 254,1⟩,⟨.int .i64 7,Di 255,2⟩,⟨.int .i64 8,Di 256,3⟩,⟨.int .i64 13,Di 257,4⟩] 0=some none:=by
  have e5:Instr.sameNow (.int .i64) (.int .i64 k) (.int .i64 5)=some false:=by simp[Instr.sameNow,h5]
  have e6:Instr.sameNow (.int .i64) (.int .i64 k) (.int .i64 6)=some false:=by simp[Instr.sameNow,h6]
  have e7:Instr.sameNow (.int .i64) (.int .i64 k) (.int .i64 7)=some false:=by simp[Instr.sameNow,h7]
  have e8:Instr.sameNow (.int .i64) (.int .i64 k) (.int .i64 8)=some false:=by simp[Instr.sameNow,h8]
  have e13:Instr.sameNow (.int .i64) (.int .i64 k) (.int .i64 13)=some false:=by simp[Instr.sameNow,FY]
  simp[Instr.findNow,e5,e6,e7,e8,e13]
 simp[Instr.lookup,run_underlying hu,bX h,bO false 9999 hk,bR hk k _ hf,wO w,h5,h6,h7,h8,FY]
def MB.Mem(w:World)(b:MB):Prop:=b.v.In w/\(aG w b.wa 2 b.wraps.length (b.wraps.flatMap MC.cells)/\∀c∈b.wraps,(c.args.length<=2000000/\MT.dK w c.a c.args)/\∀t∈c.args,t.In w)/\aG w b.na 1 b.aT.length (b.aT.flatMap fq)
theorem MB.Mem.aW{w w':World}{b:MB}(h:b.Mem w)(ht:Touch [] w w'):b.Mem w':=⟨h.1.aO ht,⟨h.2.1.1.aW ht,fun c hm=>⟨⟨(h.2.1.2 c hm).1.1,(h.2.1.2 c hm).1.2.aW ht⟩,fun t ZV=>((h.2.1.2 c hm).2 t ZV).aO ht⟩⟩,h.2.2.aW ht⟩
def dm(n1 n2:Nat)(b:MB):Prop:=
 (b.kind=5/\(0<=b.n/\b.n<(n1:Int))/\b.v.plain.Ok)\/(b.kind=6/\(0<=b.n/\b.n<(n1:Int))/\b.v.E8)\/(b.kind=7/\b.n=0/\b.v.plain.Ok)\/(b.kind=8/\b.n=0/\b.v.E8)\/(b.kind=13/\(0<=b.n/\b.n<(n2:Int))/\b.v.E8)
def eD(n1 n2:Nat)(l:List Int)(b:MB):Prop:=dm n1 n2 b/\b.wraps.length<=32/\b.aT.length<=32/\(∀c∈b.wraps,∀t∈c.args,t.plain.Ok)/\∀k∈b.aT,k∈l
theorem BA{n1 n2:Nat}{b:MB}(h:j5 b.kind=none):¬dm n1 n2 b:=by
 unfold j5 at h;unfold dm;rintro(⟨h1,_⟩|⟨h1,_⟩|⟨h1,_⟩|⟨h1,_⟩|⟨h1,_⟩)<;>simp[h1]at h
theorem fits_w(b:MB)(w:World)(wb:Nat)(a1:Option Addr)(n1 c1:Nat)(a2:Option Addr)(n2 c2:Nat)(hw1:w.cell? ⟨wb,1,none⟩=some (.slice a1 n1 c1))(hw2:w.cell? ⟨wb,2,none⟩=some (.slice a2 n2 c2))(hb:b.v.In w)(D:FuncId)(hD:j5 b.kind=some D):
  (∀args w,(callFunc D args).run prog w= .ok (.enter D args) w)/\∀W,Touch [] w W->Calls prog D #[wb,b.val] W (aI (dm n1 n2 b) W):=by
 unfold j5 at hD;split at hD
 .rename_i hk
  injection hD with hD;subst hD
  refine⟨enters_of func253 (by kernel_rfl) rfl,fun W hW=>(Mr b W wb a1 n1 c1 (hb.aO hW) (hW.cellOf hw1)).mono fun e w' h=>lu h ?_ (Touch.refl _ _)⟩;simp[dm,hk]
 split at hD
 .rename_i _ hk
  injection hD with hD;subst hD
  refine⟨enters_of func254 (by kernel_rfl) rfl,fun W hW=>(yw b W wb a1 n1 c1 (hb.aO hW) (hW.cellOf hw1)).mono fun e w' h=>lu h ?_ (Touch.refl _ _)⟩;simp[dm,hk]
 split at hD
 .rename_i _ _ hk
  injection hD with hD;subst hD
  refine⟨enters_of func255 (by kernel_rfl) rfl,fun W hW=>(J8 b W _ (hb.aO hW)).mono fun e w' h=>lu h ?_ (Touch.refl _ _)⟩;simp[dm,hk]
 split at hD
 .rename_i _ _ _ hk
  injection hD with hD;subst hD
  refine⟨enters_of func256 (by kernel_rfl) rfl,fun W hW=>(NU b W _ (hb.aO hW)).mono fun e w' h=>lu h ?_ (Touch.refl _ _)⟩;simp[dm,hk]
 split at hD
 .rename_i _ _ _ _ hk
  injection hD with hD;subst hD
  refine⟨enters_of func257 (by kernel_rfl) rfl,fun W hW=>(MH b W wb a2 n2 c2 (hb.aO hW) (hW.cellOf hw2)).mono fun e w' h=>lu h ?_ (Touch.refl _ _)⟩;simp[dm,hk]
 .cases hD
def nI(n1 n2:Nat)(l:List Int)(b:MB)(w:World):Ending->World->Prop:=aI (eD n1 n2 l b) w
theorem Nh(b:MB)(w:World)(wb:Nat)(a1:Option Addr)(n1 c1:Nat)(a2:Option Addr)(n2 c2:Nat)(hw1:w.cell? ⟨wb,1,none⟩=some (.slice a1 n1 c1))(hw2:w.cell? ⟨wb,2,none⟩=some (.slice a2 n2 c2))(hb:b.Mem w)(a:Option Addr)(c:Nat)(l:List Int)(hl:aG w a 1 l.length (l.flatMap fq))(hinc:∀s t (hs:s<l.length) (ht:t<l.length),s<t->l[s]<l[t]):
  Calls prog 88 #[wb,b.val,.slice a l.length c] w (nI n1 n2 l b w):=by
 have HB:=hdq hb;have hdl:b.wraps.length<=2000000/\b.aT.length<=2000000:=⟨hb.2.1.1.1,hb.2.2.1⟩;have HS:=hdq (fun W (hW:Touch [] w W) x=>Ae W a c l x (hl.aW hW) hinc);have HF:=hdq (fun W (hW:Touch [] w W) D hD=>(fits_w b W wb a1 n1 c1 a2 n2 c2 (hW.cellOf hw1) (hW.cellOf hw2) (hb.1.aO hW) D hD));have HW:Hid (wb<w.heap.size):=World.block_lt_of_cell? _ _ hw1;have DJ:Hid (∀W,Touch [] w W->¬eD n1 n2 l b->nI n1 n2 l b w (.returned (.bool false)) W):=fun W hW h=>⟨false,rfl,by simp[h],hW⟩;have Dj:Hid (∀W,Touch [] w W->eD n1 n2 l b->nI n1 n2 l b w (.returned (.bool true)) W):=fun W hW h=>⟨true,rfl,by simp[h],hW⟩;have HKN:Hid (j5 b.kind=none->¬eD n1 n2 l b):=fun h h2=>BA h h2.1;clear hw1 hw2 hb hl hinc;simp only[MB.val];go_enter func88,ntmps88
 go_upto_region 1 with fail
 refine ay ?_;intro w1 hw0;have BB:=hdq ((BD.nil' w).DN hw0);simp only[nAq]at BB;generalize hb4:w.heap.size=b4 at BB|-;clear hw0 hb4;obtain⟨x0,x1,x2,x3,x4,x5,x6,⟨xf0,xf1,Gd,Gh,GK,Gn,Gr⟩,zx,_,_⟩:=BB.o.c7 0 rfl;go_wp2_with fail
 refine hrq (S:=fun w'=>w'.cell? ⟨b4,0,none⟩=some (.int .i64 b.kind)) fun hHeld=>?_;refine tkq 1 19 ?_;refine tkq 2 20 ?_;refine rdq 0 rfl fun K hK=>?_;go_simp;refine(Ou _).mono ?_;rintro en w2 ⟨M,rfl,hL⟩;have HL2:=hdq (BB.o.drew.join hL);simp only[nAq,cAq]at HL2;have hlk:=Ad w2 M (HL2.o.G8 1 rfl) b.kind;clear hL BB x0 x1 x2 x3 x4 x5 x6 xf0 xf1 Gd Gh GK Gn Gr zx hHeld;obtain⟨x0,x1,x2,x3,x4,x5,x6,⟨xf0,xf1,Gd,Gh,GK,Gn,Gr⟩,zx,_,_⟩:=HL2.o.c7 0 rfl;go_simp;refine kpq hK.o fun hHeld=>?_;clear hK K;refine opq 3 fun hHeld=>?_;refine tkq 4 17 ?_;refine tkq 5 22 ?_;refine tkq 6 23 ?_;refine tkq 7 7 ?_;refine tkq 8 8 ?_;refine dnq ?_;clear hHeld hlk;rcases hk:j5 b.kind with _|D
 .have hkv:rY b.kind= .nilFunc:=by unfold rY;rw[hk]
  have HE:=hdq (DJ.o w2 HL2.o.BN (HKN.o hk));rw[hkv];simp only[Option.isSome_none];clear hk hkv DJ Dj HKN HF HS HB;go_wp2;go_ret
  exact HE.o
 .have hkv:rY b.kind= .func (.func D) #[] #[]:=by unfold rY;rw[hk];rfl
  obtain⟨hen,hfit⟩:=HF.o w (Touch.refl [] w) D hk;have HFT:=hdq hfit;rw[hkv];simp only[Option.isSome_some];clear hk hkv HKN HF hfit;go_wp2_with fail
  refine(HFT.o w2 HL2.o.BN).mono ?_;rintro e w3 ⟨cc,rfl,hcc,ht⟩;have BF:=hdq (HL2.o.touch ht);have HC:=hdq hcc;clear ht HL2 hcc x0 x1 x2 x3 x4 x5 x6 xf0 xf1 Gd Gh GK Gn Gr zx HFT hen;obtain⟨x0,x1,x2,x3,x4,x5,x6,⟨xf0,xf1,Gd,Gh,GK,Gn,Gr⟩,zx,_,_⟩:=BF.o.c7 0 rfl;cases cc with
  |false=>
   have HE:=hdq (DJ.o w3 BF.o.BN (fun h=>by have :=HC.o.2 h.1;simp at this));clear DJ Dj HS HB HC;go_wp2;go_ret
   exact HE.o
  |true=>
   have HKO:Hid (dm n1 n2 b):=HC.o.1 rfl;clear HC;by_cases hlw:b.wraps.length<=32
   .by_cases hln:b.aT.length<=32
    .have g1:decide ((32:Int)<(b.wraps.length:Int))=false:=decide_eq_false (by omega)
     have g2:decide ((32:Int)<(b.aT.length:Int))=false:=decide_eq_false (by omega);have HW1:=hdq (HB.o.aW BF.o.BN);go_wp2;have HT3:=hdq BF.o.BN;have LV:=hdq (fun W (hW:Touch [] w3 W)=>((BF.o.touch hW).c7 0 rfl).2.2.2.2.2.2.1);have N9:=hdq HW1.o.2.1;have Gb:=hdq HW1.o.2.2;clear x0 x1 x2 x3 x4 x5 x6 xf0 xf1 Gd Gh GK Gn Gr zx BF HW1 HB g1 g2;go_loopw [48] (fun p wr=>∃i:Nat,p= .int .i64 (i:Int)/\i<=b.wraps.length/\Hid (Touch [] w3 wr)/\Hid (∀q (hq:q<b.wraps.length),q<i->∀t∈b.wraps[q].args,t.plain.Ok)) (fun p _=>b.wraps.length-(intOf p).toNat)
     case atStart=>exact⟨0,rfl,Nat.zero_le _,Touch.refl _ _,fun q hq h0=>absurd h0 (Nat.not_lt_zero _)⟩
     case round=>
      obtain⟨i,rfl,hi,HT,HA⟩:=hrel;have hi0:(0:Int)<=(i:Int):=by omega
      by_cases hil:i<b.wraps.length
      .have EM:(i:Int)<(b.wraps.length:Int):=by omega
       obtain⟨bw,ow,hba,hbw,hcc⟩:=aG.at (f:=MC.cells) (fun _=>rfl) (N9.o.1.aW HT.o) i hil;have HCM:=hdq (N9.o.2 _ (List.getElem_mem hil));have Fw:Hid (∀W,Touch [] w W->(∃t∈b.wraps[i].args,¬t.plain.Ok)->nI n1 n2 l b w (.returned (.bool false)) W):=fun W hW ⟨t,ht,hno⟩=>DJ.o W hW (fun h=>hno (h.2.2.2.1 _ (List.getElem_mem hil) t ht));have Fz:Hid ((∀t∈b.wraps[i].args,t.plain.Ok)->∀q (hq:q<b.wraps.length),q<i+1->∀t∈b.wraps[q].args,t.plain.Ok):=fun h q hq hqi=>by
        by_cases hqe:q=i
        .subst hqe;exact h
        .exact HA.o q hq (by omega)
       have q0:=hcc 0 (by omega);have q1:=hcc 1 (by omega);generalize b.wraps[i]=cm at HCM Fw Fz q0 q1;have q0':wr.cell? ⟨bw,ow+i*2,none⟩=some (.int .i64 cm.fn):=q0;have q1':wr.cell? ⟨bw,ow+i*2+1,none⟩=some (.slice cm.a cm.args.length cm.cap):=q1;rw[hba];clear hcc q0 q1 hba;go_wp2;have F6:=hdq (HT.o.alloc (.cells #[cm.fn,.slice cm.a cm.args.length cm.cap] 189));clear q0' q1' hbw HT;go_loopw [55] (fun p wr2=>∃j:Nat,p= .int .i64 (j:Int)/\j<=cm.args.length/\Hid (Touch [] w3 wr2)/\Hid (∀q (hq:q<cm.args.length),q<j->cm.args[q].plain.Ok)) (fun p _=>cm.args.length-(intOf p).toNat)
       case atStart=>exact⟨0,rfl,Nat.zero_le _,F6,fun q hq h0=>absurd h0 (Nat.not_lt_zero _)⟩
       case round=>
        obtain⟨j,rfl,hj,HT,HJ⟩:=hrel;clear F6;have hj0:(0:Int)<=(j:Int):=by omega
        have hcl:=HCM.o.1.1;by_cases hjl:j<cm.args.length
        .have Cc:(j:Int)<(cm.args.length:Int):=by have :=HCM.o.1.1;omega
         obtain⟨ba,oa,OY,hbb,k0,k1,k2⟩:=(HCM.o.1.2.aW HT.o).cellAt hjl;have HTI:=hdq ((HCM.o.2 _ (List.getElem_mem hjl)).aO HT.o);have EK:Hid (¬cm.args[j].plain.Ok->∀W,Touch [] w W->nI n1 n2 l b w (.returned (.bool false)) W):=fun h W hW=>Fw.o W hW ⟨_,List.getElem_mem hjl,h⟩;have EL:Hid (cm.args[j].plain.Ok->∀q (hq:q<cm.args.length),q<j+1->cm.args[q].plain.Ok):=fun h q hq hqj=>by
          by_cases hqe:q=j
          .subst hqe;exact h
          .exact HJ.o q hq (by omega)
         generalize cm.args[j]=u at k0 k1 k2 HTI EK EL;simp only[MT.sl]at k2;rw[OY];clear OY;go_wp2_with fail
         refine ah ?_;intro w5 DC;have Ho:Hid (Touch [] wr w5):=DC▸(Touch.refl [] wr).alloc _;clear DC k0 k1 k2 hbb;refine(jH u w5 (HTI.o.aO Ho.o)).mono ?_;rintro e w6 ⟨⟨z,rfl,hz,hiff⟩,ht⟩;have Fu:=hdq ((HT.o.trans' Ho.o).trans' ht);by_cases hok:u.plain.Ok
         .obtain rfl:=hiff.2 hok
          have HJ2:=hdq (EL.o hok);clear ht Ho HT hz hiff hok EK EL HTI;go_wp2;go_roundw
          case rel=>exact⟨j+1,by go_num,by omega,Fu,HJ2⟩
          case measure=>simp[intOf];omega
         .obtain rfl:z=40:=hz.resolve_left (fun h=>hok (hiff.1 h))
          have HE:=hdq (EK.o hok w6 (HT3.o.trans' Fu.o));clear ht Ho HT hz hiff hok EK EL HTI;go_wp2;go_ret
          exact HE.o
        .have Cc:¬(j:Int)<(cm.args.length:Int):=by omega
         have HA2:=hdq (Fz.o (fun t ht=>by
          obtain⟨q,hq,rfl⟩:=List.getElem_of_mem ht;exact HJ.o q hq (by omega)))
         clear Fz HJ Fw;go_wp2;go_roundw
         case rel=>exact⟨i+1,by go_num,by omega,HT,HA2⟩
         case measure=>simp[intOf];omega
      .have EM:¬(i:Int)<(b.wraps.length:Int):=by omega
       have HAW:Hid (∀cm∈b.wraps,∀t∈cm.args,t.plain.Ok):=fun cm hm=>by
        obtain⟨q,hq,rfl⟩:=List.getElem_of_mem hm;exact HA.o q hq (by omega)
       have x6:=LV.o wr HT.o;have zx:=World.block_lt_of_cell? _ _ x6;clear HA N9;go_wp2;have HT0:=hdq HT.o;clear x6 zx;go_loopw [67] (fun p wr2=>∃i:Nat,p= .int .i64 (i:Int)/\i<=b.aT.length/\Hid (Touch [] w3 wr2)/\Hid (∀q (hq:q<b.aT.length),q<i->b.aT[q]∈l)) (fun p _=>b.aT.length-(intOf p).toNat)
       case atStart=>exact⟨0,rfl,Nat.zero_le _,HT0,fun q hq h0=>absurd h0 (Nat.not_lt_zero _)⟩
       case round=>
        clear HT HT0 EM hil;obtain⟨i,rfl,hi,HT,HA⟩:=hrel;have hi0:(0:Int)<=(i:Int):=by omega
        by_cases hil:i<b.aT.length
        .have EM:(i:Int)<(b.aT.length:Int):=by omega
         obtain⟨bw,ow,hba,hbw,hcc⟩:=aG.at (f:=fq) (fun _=>rfl) (Gb.o.aW HT.o) i hil;have Fw:Hid (b.aT[i]∉l->∀W,Touch [] w W->nI n1 n2 l b w (.returned (.bool false)) W):=fun h W hW=>DJ.o W hW (fun h2=>h (h2.2.2.2.2 _ (List.getElem_mem hil)));have Fz:Hid (b.aT[i]∈l->∀q (hq:q<b.aT.length),q<i+1->b.aT[q]∈l):=fun h q hq hqi=>by
          by_cases hqe:q=i
          .subst hqe;exact h
          .exact HA.o q hq (by omega)
         have q0:=hcc 0 Nat.one_pos;generalize b.aT[i]=k at Fw Fz q0;rw[Nat.mul_one,Nat.add_zero]at q0;have q0':wr.cell? ⟨bw,ow+i,none⟩=some (.int .i64 k):=q0;rw[hba];clear hcc q0 hba;have Fy:=hdq (HT3.o.trans' HT.o);go_wp2_with fail
         refine(HS.o _ Fy.o k).mono ?_;rintro e w6 ⟨kk,f,rfl,hf,ht⟩;have Fu:=hdq (HT.o.trans' ht);cases f with
         |true=>
          have HJ2:=hdq (Fz.o (hf.1 rfl));clear ht hf HT Fy Fw Fz q0' hbw;go_wp2;go_roundw
          case rel=>exact⟨i+1,by go_num,by omega,Fu,HJ2⟩
          case measure=>simp[intOf];omega
         |false=>
          have HE:=hdq (Fw.o (fun h=>by have :=hf.2 h;simp at this) w6 (HT3.o.trans' Fu.o));clear ht hf HT Fy Fw Fz q0' hbw;go_wp2;go_ret
          exact HE.o
        .have EM:¬(i:Int)<(b.aT.length:Int):=by omega
         have HE:=hdq (Dj.o wr (HT3.o.trans' HT.o) ⟨HKO.o,hlw,hln,HAW.o,fun k hk=>by
          obtain⟨q,hq,rfl⟩:=List.getElem_of_mem hk;exact HA.o q hq (by omega)⟩)
         clear HA HAW HKO;go_wp2;go_ret
         exact HE.o
    .have HE:=hdq (DJ.o w3 BF.o.BN (fun h=>hln h.2.2.1))
     have g1:decide ((32:Int)<(b.wraps.length:Int))=false:=decide_eq_false (by omega);have g2:(32:Int)<(b.aT.length:Int):=by omega
     clear DJ Dj HS HB HKO hln hlw;go_wp2;go_ret
     exact HE.o
   .have HE:=hdq (DJ.o w3 BF.o.BN (fun h=>hlw h.2.1))
    have g1:(32:Int)<(b.wraps.length:Int):=by omega
    clear DJ Dj HS HB HKO hlw;go_wp2;go_ret
    exact HE.o
def MB.Big(b:MB):Prop:=b.v.nodes<=1048576/\∀c∈b.wraps,∀t∈c.args,t.nodes<=1048576
def lF(b:MB):Prop:=(b.v.nodes<=20/\b.wraps.length<=40/\b.aT.length<=40)/\∀c∈b.wraps,c.args.length<=9/\∀t∈c.args,t.nodes<=20
def qp(b:MB)(w:World):Ending->World->Prop:=aI (lF b) w
theorem Ni(b:MB)(w:World)(hb:b.Mem w)(hbig:b.Big):Calls prog 45 #[b.val] w (qp b w):=by
 have HB:=hdq hb;have HG:=hdq hbig;have hdl:b.wraps.length<=2000000/\b.aT.length<=2000000:=⟨hb.2.1.1.1,hb.2.2.1⟩;have Gc:Hid (∀W,Touch [] w W->Calls prog 44 #[.agg #[b.v.kind,b.v.num,.slice b.v.addr b.v.parts.length b.v.cap]] W fun e w'=>e= .returned (.int .i64 ((min b.v.nodes 257:Nat):Int))/\Touch [] W w'):=fun W hW=>iX b.v W (hb.1.aO hW) hbig.1;have DJ:Hid (∀W,Touch [] w W->¬lF b->qp b w (.returned (.bool false)) W):=fun W hW h=>⟨false,rfl,by simp[h],hW⟩;have Dj:Hid (∀W,Touch [] w W->lF b->qp b w (.returned (.bool true)) W):=fun W hW h=>⟨true,rfl,by simp[h],hW⟩;clear hb hbig;simp only[MB.val];go_enter func45,ntmps45
 go_wp2_with fail
 refine ah ?_;intro w1 hw1;have BB:=hdq ((BD.nil' w).DN hw1);simp only[nAq]at BB;generalize hb1:w.heap.size=b1 at BB|-;clear hw1 hb1;refine(Gc.o _ BB.o.BN).mono ?_;rintro e w2 ⟨rfl,ht⟩;have HL2:=hdq (BB.o.touch ht);clear ht BB Gc;obtain⟨sz,hsz⟩:∃sz,min b.v.nodes 257=sz:=⟨_,rfl⟩;rw[hsz];have HZ:Hid (sz<=20↔b.v.nodes<=20):=by unfold Hid;omega
 clear hsz;have hsz57:sz<=257\/257<sz:=by omega
 obtain⟨x0,x1,x2,x3,x4,x5,x6,_,zx,_,_⟩:=HL2.o.c7 0 rfl;by_cases h1:sz<=20
 .have d1:decide ((20:Int)<(sz:Int))=false:=decide_eq_false (by omega)
  by_cases h2:b.wraps.length<=40
  .have d2:decide ((40:Int)<(b.wraps.length:Int))=false:=decide_eq_false (by omega)
   by_cases h3:b.aT.length<=40
   .have d3:decide ((40:Int)<(b.aT.length:Int))=false:=decide_eq_false (by omega)
    have H123:Hid (b.v.nodes<=20/\b.wraps.length<=40/\b.aT.length<=40):=⟨HZ.o.1 h1,h2,h3⟩;go_wp2;have LV:=hdq (fun W (hW:Touch [] w2 W)=>((HL2.o.touch hW).c7 0 rfl).2.2.2.2.2.1);have HT0:=hdq HL2.o.BN;have OO:=hdq (fun W (hW:Touch [] w2 W)=>(HB.o.aW (HT0.o.trans' hW)).2.1);clear x0 x1 x2 x3 x4 x5 x6 zx HL2 d1 d2 d3 h1 h3 HZ hsz57;go_loopw [3] (fun p wr=>∃i:Nat,p= .int .i64 (i:Int)/\i<=b.wraps.length/\Hid (Touch [] w2 wr)/\Hid (∀q (hq:q<b.wraps.length),q<i->b.wraps[q].args.length<=9/\∀t∈b.wraps[q].args,t.nodes<=20)) (fun p _=>b.wraps.length-(intOf p).toNat)
    case atStart=>exact⟨0,rfl,Nat.zero_le _,Touch.refl _ _,fun q hq h0=>absurd h0 (Nat.not_lt_zero _)⟩
    case round=>
     obtain⟨i,rfl,hi,HT,HA⟩:=hrel;have hi0:(0:Int)<=(i:Int):=by omega
     have x5:=LV.o wr HT.o;have zx:=World.block_lt_of_cell? _ _ x5;by_cases hil:i<b.wraps.length
     .have EM:(i:Int)<(b.wraps.length:Int):=by omega
      obtain⟨bw,ow,hba,hbw,hcc⟩:=aG.at (f:=MC.cells) (fun _=>rfl) (OO.o wr HT.o).1 i hil;have HCM:=hdq (fun W (hW:Touch [] w2 W)=>(OO.o W hW).2 _ (List.getElem_mem hil));have HGC:=hdq (HG.o.2 _ (List.getElem_mem hil));have Fw:Hid (¬(b.wraps[i].args.length<=9/\∀t∈b.wraps[i].args,t.nodes<=20)->∀W,Touch [] w W->qp b w (.returned (.bool false)) W):=fun h W hW=>DJ.o W hW (fun h2=>h (h2.2 _ (List.getElem_mem hil)));have Fz:Hid ((b.wraps[i].args.length<=9/\∀t∈b.wraps[i].args,t.nodes<=20)->∀q (hq:q<b.wraps.length),q<i+1->b.wraps[q].args.length<=9/\∀t∈b.wraps[q].args,t.nodes<=20):=fun h q hq hqi=>by
       by_cases hqe:q=i
       .subst hqe;exact h
       .exact HA.o q hq (by omega)
      have q1:=hcc 1 (by omega);obtain⟨cm,hcm⟩:∃cm,b.wraps[i]=cm:=⟨_,rfl⟩;rw[hcm]at HCM Fw Fz q1 HGC;have q1':wr.cell? ⟨bw,ow+i*2+1,none⟩=some (.slice cm.a cm.args.length cm.cap):=q1;have Uu:Hid (∀W,Touch [] w2 W->W.cell? ⟨bw,ow+i*2+1,none⟩=some (.slice cm.a cm.args.length cm.cap)):=fun W hW=>by
       obtain⟨bw',ow',DF,_,hcc'⟩:=aG.at (f:=MC.cells) (fun _=>rfl) (OO.o W hW).1 i hil;rw[hba]at DF;injection DF with DF
       injection DF with g1 g2
       subst g1 g2;rw[<-hcm];exact hcc' 1 (by omega)
      have FD:=hdq hba;have hcl:=(HCM.o wr HT.o).1.1;rw[hba]at x5;clear hcc q1 hcm hba;by_cases h9:cm.args.length<=9
      .have d9:¬(9:Int)<(cm.args.length:Int):=by omega
       go_wp2;have F6:=hdq HT.o;clear q1' hbw HT x5 zx;go_loopw [4] (fun p wr2=>∃j:Nat,p= .int .i64 (j:Int)/\j<=cm.args.length/\Hid (Touch [] w2 wr2)/\Hid (∀q (hq:q<cm.args.length),q<j->cm.args[q].nodes<=20)) (fun p _=>cm.args.length-(intOf p).toNat)
       case atStart=>exact⟨0,rfl,Nat.zero_le _,F6,fun q hq h0=>absurd h0 (Nat.not_lt_zero _)⟩
       case round=>
        obtain⟨j,rfl,hj,HT,HJ⟩:=hrel;clear F6;have hj0:(0:Int)<=(j:Int):=by omega
        have x5:=LV.o wr HT.o;have zx:=World.block_lt_of_cell? _ _ x5;have q1':=Uu.o wr HT.o;have zq:=World.block_lt_of_cell? _ _ q1';rw[FD.o]at x5;by_cases hjl:j<cm.args.length
        .have Cc:(j:Int)<(cm.args.length:Int):=by omega
         obtain⟨ba,oa,OY,hbb,k0,k1,k2⟩:=(HCM.o wr HT.o).1.2.cellAt hjl;have Gc:=hdq (iX cm.args[j] wr ((HCM.o wr HT.o).2 _ (List.getElem_mem hjl)) (HGC.o _ (List.getElem_mem hjl)));have EK:Hid (¬cm.args[j].nodes<=20->∀W,Touch [] w W->qp b w (.returned (.bool false)) W):=fun h W hW=>Fw.o (fun h2=>h (h2.2 _ (List.getElem_mem hjl))) W hW;have EL:Hid (cm.args[j].nodes<=20->∀q (hq:q<cm.args.length),q<j+1->cm.args[q].nodes<=20):=fun h q hq hqj=>by
          by_cases hqe:q=j
          .subst hqe;exact h
          .exact HJ.o q hq (by omega)
         generalize cm.args[j]=u at k0 k1 k2 Gc EK EL;simp only[MT.sl]at k2;rw[eG]at Gc;rw[OY]at q1';clear OY;obtain⟨sz,hsz⟩:∃sz,min u.nodes 257=sz:=⟨_,rfl⟩;rw[hsz]at Gc;go_wp2_with fail
         refine Gc.o.mono ?_;rintro e w6 ⟨rfl,ht⟩;have Fu:=hdq (HT.o.trans' ht);by_cases hok:u.nodes<=20
         .have d20:¬(20:Int)<(sz:Int):=by omega
          have HJ2:=hdq (EL.o hok);clear ht HT hok EK EL hsz x5 zx q1' zq k0 k1 k2 hbb Gc;go_wp2;go_roundw
          case rel=>exact⟨j+1,by go_num,by omega,Fu,HJ2⟩
          case measure=>simp[intOf];omega
         .have d20:(20:Int)<(sz:Int):=by omega
          have HE:=hdq (EK.o hok w6 (HT0.o.trans' Fu.o));clear ht HT hok EK EL hsz x5 zx q1' zq k0 k1 k2 hbb Gc;go_wp2;go_ret
          exact HE.o
        .have Cc:¬(j:Int)<(cm.args.length:Int):=by omega
         have HA2:=hdq (Fz.o ⟨h9,fun t ht=>by
          obtain⟨q,hq,rfl⟩:=List.getElem_of_mem ht;exact HJ.o q hq (by omega)⟩)
         clear Fz HJ Fw;go_wp2;go_roundw
         case rel=>exact⟨i+1,by go_num,by omega,HT,HA2⟩
         case measure=>simp[intOf];omega
      .have d9:(9:Int)<(cm.args.length:Int):=by omega
       have HE:=hdq (Fw.o (fun h=>h9 h.1) wr (HT0.o.trans' HT.o));go_wp2;go_ret
       exact HE.o
     .have EM:¬(i:Int)<(b.wraps.length:Int):=by omega
      have HE:=hdq (Dj.o wr (HT0.o.trans' HT.o) ⟨H123.o,fun cm hm=>by
       obtain⟨q,hq,rfl⟩:=List.getElem_of_mem hm;exact HA.o q hq (by omega)⟩)
      clear HA;go_wp2;go_ret
      exact HE.o
   .have d3:(40:Int)<(b.aT.length:Int):=by omega
    have HE:=hdq (DJ.o w2 HL2.o.BN (fun h=>h3 h.1.2.2));clear DJ Dj HB HG;go_wp2;go_ret
    exact HE.o
  .have d2:(40:Int)<(b.wraps.length:Int):=by omega
   have HE:=hdq (DJ.o w2 HL2.o.BN (fun h=>h2 h.1.2.1));clear DJ Dj HB HG;go_wp2;go_ret
   exact HE.o
 .have d1:(20:Int)<(sz:Int):=by omega
  have HE:=hdq (DJ.o w2 HL2.o.BN (fun h=>h1 (HZ.o.2 h.1.1)));clear DJ Dj HB HG;go_wp2;go_ret
  exact HE.o
structure BO where
 what:Int
 a:Int
 b:Int
 c:Int
 side:Int
 e:ME
 ba:Option Addr
 bc:Nat
 bases:List MB
 ca:Option Addr
 cc:Nat
 conds:List Int
 v:MT
def BO.cells(x:BO):List Value:=[.int .i64 x.what,.int .i64 x.a,.int .i64 x.b,.int .i64 x.c,.int .i64 x.side,.int .i64 x.e.sync,.int .i64 x.e.thread,.int .i64 x.e.branch,.int .i64 x.e.flag,.int .i64 x.e.v.kind,.int .i64 x.e.v.num,.slice x.e.v.addr x.e.v.parts.length x.e.v.cap,.slice x.ba x.bases.length x.bc,.slice x.ca x.conds.length x.cc,.int .i64 x.v.kind,.int .i64 x.v.num,.slice x.v.addr x.v.parts.length x.v.cap]
def BO.val(x:BO):Value:= .agg #[x.what,x.a,x.b,x.c,x.side,x.e.sync,x.e.thread,x.e.branch,x.e.flag,x.e.v.kind,x.e.v.num,.slice x.e.v.addr x.e.v.parts.length x.e.v.cap,.slice x.ba x.bases.length x.bc,.slice x.ca x.conds.length x.cc,x.v.kind,x.v.num,.slice x.v.addr x.v.parts.length x.v.cap]
def BO.Mem(w:World)(x:BO):Prop:=x.e.v.In w/\x.v.In w/\(aG w x.ba 7 x.bases.length (x.bases.flatMap MB.cells)/\∀b∈x.bases,b.Mem w)/\aG w x.ca 1 x.conds.length (x.conds.flatMap fq)
def BO.Big(x:BO):Prop:=x.e.v.nodes<=1048576/\x.v.nodes<=1048576/\∀b∈x.bases,b.Big
theorem BO.Mem.aW{w w':World}{x:BO}(h:x.Mem w)(ht:Touch [] w w'):x.Mem w':=⟨h.1.aO ht,h.2.1.aO ht,⟨h.2.2.1.1.aW ht,fun b hb=>(h.2.2.1.2 b hb).aW ht⟩,h.2.2.2.aW ht⟩
def BO.Small(x:BO):Prop:=(x.v.nodes<=20/\x.e.v.nodes<=20/\x.bases.length<=40/\x.conds.length<=40)/\∀b∈x.bases,lF b
def Jj(l:List BO)(most:Int):Prop:=(l.length:Int)<=most/\∀x∈l,x.Small
def H6(l:List BO)(most:Int)(w:World):Ending->World->Prop:=aI (Jj l most) w
theorem aa2(w:World)(a:Option Addr)(cap:Nat)(l:List BO)(most:Int)(ha:aG w a 17 l.length (l.flatMap BO.cells))(hin:∀x∈l,x.Mem w/\x.Big):
  Calls prog 6 #[.slice a l.length cap,most] w (H6 l most w):=by
 have DJ:Hid (∀W,Touch [] w W->¬Jj l most->H6 l most w (.returned (.bool false)) W):=fun W hW h=>⟨false,rfl,by simp[h],hW⟩;have Dj:Hid (∀W,Touch [] w W->Jj l most->H6 l most w (.returned (.bool true)) W):=fun W hW h=>⟨true,rfl,by simp[h],hW⟩;have HA:=hdq ha;have HI:=hdq hin;have hl6:=ha.1;clear ha hin;by_cases hm:most<(l.length:Int)
 .have HE:=hdq (DJ.o w (Touch.refl _ _) (fun h=>by have :=h.1;omega))
  go_enter func6,ntmps6
  go_wp2;go_ret
  exact HE.o
 .have hm':¬most<(l.length:Int):=hm
  have HM:Hid ((l.length:Int)<=most):=by unfold Hid;omega
  clear hm;go_enter func6,ntmps6
  go_wp2;go_loopw [5] (fun i wr=>∃k:Nat,i= .int .i64 (k:Int)/\k<=l.length/\Hid (∀j (h:j<l.length),j<k->l[j].Small)/\Hid (Touch [] w wr)) (fun i _=>l.length-(intOf i).toNat)
  case atStart=>exact⟨0,rfl,Nat.zero_le _,fun j _ h=>absurd h (Nat.not_lt_zero _),Touch.refl [] w⟩
  case round=>
   clear hm';obtain⟨k,rfl,hk,HS,HT⟩:=hrel;have hk0:(0:Int)<=(k:Int):=by omega
   by_cases hlt:k<l.length
   .have hlt':(k:Int)<(l.length:Int):=by omega
    obtain⟨b,o,hba,hb,hc⟩:=aG.at (f:=BO.cells) (fun _=>rfl) (HA.o.aW HT.o) k hlt;obtain⟨hi1,hi2⟩:=HI.o _ (List.getElem_mem hlt);have Gb:Hid (¬l[k].Small->∀W,Touch [] w W->H6 l most w (.returned (.bool false)) W):=fun h W hW=>DJ.o W hW (fun h2=>h (h2.2 _ (List.getElem_mem hlt)));have JB:Hid (l[k].Small->∀j (h:j<l.length),j<k+1->l[j].Small):=fun h j hj hjk=>by
     by_cases hjk2:j=k
     .subst hjk2;exact h
     .exact HS.o j hj (by omega)
    obtain⟨y,hy⟩:∃y,l[k]=y:=⟨_,rfl⟩;have c0:wr.cell? ⟨b,o+k*17,none⟩=some (.int .i64 y.what):=(hc 0 (by omega)).trans (by rw[hy];rfl);have c1:wr.cell? ⟨b,o+k*17+1,none⟩=some (.int .i64 y.a):=(hc 1 (by omega)).trans (by rw[hy];rfl);have c2:wr.cell? ⟨b,o+k*17+2,none⟩=some (.int .i64 y.b):=(hc 2 (by omega)).trans (by rw[hy];rfl);have c3:wr.cell? ⟨b,o+k*17+3,none⟩=some (.int .i64 y.c):=(hc 3 (by omega)).trans (by rw[hy];rfl);have c4:wr.cell? ⟨b,o+k*17+4,none⟩=some (.int .i64 y.side):=(hc 4 (by omega)).trans (by rw[hy];rfl);have c5:wr.cell? ⟨b,o+k*17+5,none⟩=some (.int .i64 y.e.sync):=(hc 5 (by omega)).trans (by rw[hy];rfl);have c6:wr.cell? ⟨b,o+k*17+6,none⟩=some (.int .i64 y.e.thread):=(hc 6 (by omega)).trans (by rw[hy];rfl);have c7:wr.cell? ⟨b,o+k*17+7,none⟩=some (.int .i64 y.e.branch):=(hc 7 (by omega)).trans (by rw[hy];rfl);have c8:wr.cell? ⟨b,o+k*17+8,none⟩=some (.int .i64 y.e.flag):=(hc 8 (by omega)).trans (by rw[hy];rfl);have c9:wr.cell? ⟨b,o+k*17+9,none⟩=some (.int .i64 y.e.v.kind):=(hc 9 (by omega)).trans (by rw[hy];rfl);have c10:wr.cell? ⟨b,o+k*17+10,none⟩=some (.int .i64 y.e.v.num):=(hc 10 (by omega)).trans (by rw[hy];rfl);have c11:wr.cell? ⟨b,o+k*17+11,none⟩=some (.slice y.e.v.addr y.e.v.parts.length y.e.v.cap):=(hc 11 (by omega)).trans (by rw[hy];rfl);have c12:wr.cell? ⟨b,o+k*17+12,none⟩=some (.slice y.ba y.bases.length y.bc):=(hc 12 (by omega)).trans (by rw[hy];rfl);have c13:wr.cell? ⟨b,o+k*17+13,none⟩=some (.slice y.ca y.conds.length y.cc):=(hc 13 (by omega)).trans (by rw[hy];rfl);have c14:wr.cell? ⟨b,o+k*17+14,none⟩=some (.int .i64 y.v.kind):=(hc 14 (by omega)).trans (by rw[hy];rfl);have c15:wr.cell? ⟨b,o+k*17+15,none⟩=some (.int .i64 y.v.num):=(hc 15 (by omega)).trans (by rw[hy];rfl);have c16:wr.cell? ⟨b,o+k*17+16,none⟩=some (.slice y.v.addr y.v.parts.length y.v.cap):=(hc 16 (by omega)).trans (by rw[hy];rfl);have f6:wr.cell? ⟨b,o+k*17+5+1,none⟩=some (.int .i64 y.e.thread):=c6;have f7:wr.cell? ⟨b,o+k*17+5+2,none⟩=some (.int .i64 y.e.branch):=c7;have f8:wr.cell? ⟨b,o+k*17+5+3,none⟩=some (.int .i64 y.e.flag):=c8;have f9:wr.cell? ⟨b,o+k*17+5+4+0,none⟩=some (.int .i64 y.e.v.kind):=c9;have f10:wr.cell? ⟨b,o+k*17+5+4+1,none⟩=some (.int .i64 y.e.v.num):=c10;have f11:wr.cell? ⟨b,o+k*17+5+4+2,none⟩=some (.slice y.e.v.addr y.e.v.parts.length y.e.v.cap):=c11;rw[hy]at hi1 hi2 Gb JB;have EI:=hdq (fun W (hW:Touch [] wr W)=>hi1.aW (HT.o.trans' hW));have Oc:=hdq hi2;have FD:=hdq hba;have HSV:Hid (∀W,Touch [] wr W->Calls prog 44 #[.agg #[y.v.kind,y.v.num,.slice y.v.addr y.v.parts.length y.v.cap]] W fun e w'=>e= .returned (.int .i64 ((min y.v.nodes 257:Nat):Int))/\Touch [] W w'):=fun W hW=>iX y.v W (EI.o W hW).2.1 hi2.2.1;have HSE:Hid (∀W,Touch [] wr W->Calls prog 44 #[.agg #[y.e.v.kind,y.e.v.num,.slice y.e.v.addr y.e.v.parts.length y.e.v.cap]] W fun e w'=>e= .returned (.int .i64 ((min y.e.v.nodes 257:Nat):Int))/\Touch [] W w'):=fun W hW=>iX y.e.v W (EI.o W hW).1 hi2.1;rw[hba];clear hy hc hi1 hi2 hba;go_wp2_with fail
    refine ah ?_;intro w2 hw2;have HL2:=hdq ((BD.nil' wr).DN hw2);simp only[nAq]at HL2;generalize hb6:wr.heap.size=b6 at HL2|-;clear hw2 hb6 c0 c1 c2 c3 c4 c5 c6 c7 c8 c9 c10 c11 c12 c13 c14 c15 c16 f6 f7 f8 f9 f10 f11 hb;obtain⟨sv,hsv⟩:∃sv,min y.v.nodes 257=sv:=⟨_,rfl⟩;obtain⟨se,hse⟩:∃se,min y.e.v.nodes 257=se:=⟨_,rfl⟩;rw[hsv]at HSV;rw[hse]at HSE;have HZV:Hid (sv<=20↔y.v.nodes<=20):=by unfold Hid;omega
    have HZE:Hid (se<=20↔y.e.v.nodes<=20):=by unfold Hid;omega
    clear hsv hse;refine(HSV.o _ HL2.o.BN).mono ?_;rintro e w3 ⟨rfl,ht⟩;have BF:=hdq (HL2.o.touch ht);clear ht HL2 HSV;have hbx:=BF.o.box 0 rfl;have zb:=hbx.lt;have g9:=hbx.cell 9;have g10:=hbx.cell 10;have g11:=hbx.cell 11;have g12:=hbx.cell 12;have g13:=hbx.cell 13;have g14:=hbx.cell 14;have g15:=hbx.cell 15;have g16:=hbx.cell 16;clear hbx;by_cases h1:sv<=20
    .have d1:decide ((20:Int)<(sv:Int))=false:=decide_eq_false (by omega)
     go_wp2_with fail
     refine(HSE.o _ BF.o.BN).mono ?_;rintro e w4 ⟨rfl,ht⟩;have BH:=hdq (BF.o.touch ht);clear ht BF HSE g9 g10 g11 g12 g13 g14 g15 g16 zb;have hbx:=BH.o.box 0 rfl;have zb:=hbx.lt;have g9:=hbx.cell 9;have g10:=hbx.cell 10;have g11:=hbx.cell 11;have g12:=hbx.cell 12;have g13:=hbx.cell 13;have g14:=hbx.cell 14;have g15:=hbx.cell 15;have g16:=hbx.cell 16;clear hbx;have F6:=hdq (HT.o.trans' BH.o.BN);by_cases h2:se<=20
     .have d2:decide ((20:Int)<(se:Int))=false:=decide_eq_false (by omega)
      by_cases h3:y.bases.length<=40
      .have d3:decide ((40:Int)<(y.bases.length:Int))=false:=decide_eq_false (by omega)
       by_cases h4:y.conds.length<=40
       .have d4:decide ((40:Int)<(y.conds.length:Int))=false:=decide_eq_false (by omega)
        have H1234:Hid (y.v.nodes<=20/\y.e.v.nodes<=20/\y.bases.length<=40/\y.conds.length<=40):=⟨HZV.o.1 h1,HZE.o.1 h2,h3,h4⟩;go_wp2;have LV:=hdq (fun W (hW:Touch [] w4 W)=>((BH.o.touch hW).box 0 rfl).cell 12);have HMB:=hdq (fun W (hW:Touch [] w4 W)=>(EI.o W (BH.o.BN.trans' hW)).2.2.1);clear g9 g10 g11 g12 g13 g14 g15 g16 zb BH d1 d2 d3 d4 h1 h2 h4 HZV HZE;go_loopw [7] (fun p w5=>∃j:Nat,p= .int .i64 (j:Int)/\j<=y.bases.length/\Hid (Touch [] w4 w5)/\Hid (∀q (hq:q<y.bases.length),q<j->lF y.bases[q])) (fun p _=>y.bases.length-(intOf p).toNat)
        case atStart=>exact⟨0,rfl,Nat.zero_le _,Touch.refl _ _,fun q hq h0=>absurd h0 (Nat.not_lt_zero _)⟩
        case round=>
         obtain⟨j,rfl,hj,Ho,HJ⟩:=hrel;have hj0:(0:Int)<=(j:Int):=by omega
         have g12:=LV.o wr Ho.o;have zb:=World.block_lt_of_cell? _ _ g12;by_cases hjl:j<y.bases.length
         .have Cc:(j:Int)<(y.bases.length:Int):=by omega
          obtain⟨bb,oo,hbb,zbb,hcc⟩:=aG.at (f:=MB.cells) (fun _=>rfl) (HMB.o wr Ho.o).1 j hjl;have HSM:=hdq (Ni y.bases[j] wr ((HMB.o wr Ho.o).2 _ (List.getElem_mem hjl)) (Oc.o.2.2 _ (List.getElem_mem hjl)));have EK:Hid (¬lF y.bases[j]->∀W,Touch [] w W->H6 l most w (.returned (.bool false)) W):=fun h W hW=>Gb.o (fun h2=>h (h2.2 _ (List.getElem_mem hjl))) W hW;have EL:Hid (lF y.bases[j]->∀q (hq:q<y.bases.length),q<j+1->lF y.bases[q]):=fun h q hq hqj=>by
           by_cases hqe:q=j
           .subst hqe;exact h
           .exact HJ.o q hq (by omega)
          obtain⟨m,hm⟩:∃m,y.bases[j]=m:=⟨_,rfl⟩;have k0:wr.cell? ⟨bb,oo+j*7,none⟩=some (.int .i64 m.kind):=(hcc 0 (by omega)).trans (by rw[hm];rfl);have k1:wr.cell? ⟨bb,oo+j*7+1,none⟩=some (.int .i64 m.n):=(hcc 1 (by omega)).trans (by rw[hm];rfl);have k2:wr.cell? ⟨bb,oo+j*7+2,none⟩=some (.int .i64 m.v.kind):=(hcc 2 (by omega)).trans (by rw[hm];rfl);have k3:wr.cell? ⟨bb,oo+j*7+3,none⟩=some (.int .i64 m.v.num):=(hcc 3 (by omega)).trans (by rw[hm];rfl);have k4:wr.cell? ⟨bb,oo+j*7+4,none⟩=some (.slice m.v.addr m.v.parts.length m.v.cap):=(hcc 4 (by omega)).trans (by rw[hm];rfl);have k5:wr.cell? ⟨bb,oo+j*7+5,none⟩=some (.slice m.wa m.wraps.length m.wc):=(hcc 5 (by omega)).trans (by rw[hm];rfl);have k6:wr.cell? ⟨bb,oo+j*7+6,none⟩=some (.slice m.na m.aT.length m.nc):=(hcc 6 (by omega)).trans (by rw[hm];rfl);rw[hm]at HSM EK EL;rw[hbb]at g12;clear hcc hm hbb;go_wp2_with fail
          refine HSM.o.mono ?_;rintro e w6 ⟨f,rfl,hf,ht⟩;have Fu:=hdq (Ho.o.trans' ht);cases f with
          |true=>
           have HJ2:=hdq (EL.o (hf.1 rfl));clear ht hf HSM EK EL HJ k0 k1 k2 k3 k4 k5 k6 g12 zb zbb Ho;go_wp2;go_roundw
           case rel=>exact⟨j+1,by go_num,by omega,Fu,HJ2⟩
           case measure=>simp[intOf];omega
          |false=>
           have HE:=hdq (EK.o (fun h=>by have :=hf.2 h;simp at this) w6 (F6.o.trans' Fu.o));clear ht hf HSM EK EL HJ k0 k1 k2 k3 k4 k5 k6 g12 zb zbb Ho;go_wp2;go_ret
           exact HE.o
         .have Cc:¬(j:Int)<(y.bases.length:Int):=by omega
          have HA2:=hdq (JB.o ⟨H1234.o,fun b hb=>by
           obtain⟨q,hq,rfl⟩:=List.getElem_of_mem hb;exact HJ.o q hq (by omega)⟩)
          have Fu:=hdq (F6.o.trans' Ho.o);clear JB HJ Gb;go_wp2;go_roundw
          case rel=>exact⟨k+1,by go_num,by omega,HA2,Fu⟩
          case measure=>simp[intOf];omega
       .have d4:(40:Int)<(y.conds.length:Int):=by omega
        have HE:=hdq (Gb.o (fun h=>h4 h.1.2.2.2) w4 F6.o);clear Gb JB EI Oc;go_wp2;go_ret
        (try rw[FD.o]at HE)
        exact HE.o
      .have d3:(40:Int)<(y.bases.length:Int):=by omega
       have HE:=hdq (Gb.o (fun h=>h3 h.1.2.2.1) w4 F6.o);clear Gb JB EI Oc;go_wp2;go_ret
       exact HE.o
     .have d2:(20:Int)<(se:Int):=by omega
      have HE:=hdq (Gb.o (fun h=>h2 (HZE.o.2 h.1.2.1)) w4 F6.o);clear Gb JB EI Oc;go_wp2;go_ret
      exact HE.o
    .have d1:(20:Int)<(sv:Int):=by omega
     have HE:=hdq (Gb.o (fun h=>h1 (HZV.o.2 h.1.1)) w3 (HT.o.trans' BF.o.BN));clear Gb JB EI Oc HSE;go_wp2;go_ret
     exact HE.o
   .have hlt':¬(k:Int)<(l.length:Int):=by omega
    have HE:=hdq (Dj.o wr HT.o ⟨HM.o,fun x hx=>by
     obtain⟨i,hi,rfl⟩:=List.getElem_of_mem hx;exact HS.o i hi (by omega)⟩)
    go_wp2;go_ret
    exact HE.o
end Go.Proofs.YtddnnapoaonmjaaGreatDoor
