/-
  Texts 3 of 5 that WorldHolds rests on, laid together and made smaller by program.
-/
import Derived.Test.YtddnnapoaonmjaaGreatDoorWZ2
import Derived.Deep.QuietTactic
import Derived.BigQuiet
import Derived.Lib.Walk
import Derived.Deep.RegionHeld3
import Derived.OwnWalkIn
import Derived.Deep.AppendLies
namespace Go.Proofs.YtddnnapoaonmjaaGreatDoor
open Go.RowKit Go.Shelf
set_option maxRecDepth 100000
set_option maxHeartbeats 8000000
set_option linter.unusedVariables false
set_option linter.unusedSimpArgs false
theorem BD.qj{β:Type}{T:List Nat}{w0 w:World}{m:List ai}{e size n:Nat}{v:Value}{xs:List Value}(p:β->World->Prop)(ys:List β)(h:BD T w0 w (m++(aS e size v n xs::ys.flatMap fun y=>[aA (p y)]))):
  BD T w0 w (m++[aA fun W=>dZ W e size v n xs/\∀y∈ys,p y W]):=by
 have h1:=h.jh m.length (P:=fun W=>dZ W e size v n xs) (t:=aS e size v n xs) (by simp) (fun W f hf=>hf.2);have h2:BD T w0 w ((m++[aA fun W=>dZ W e size v n xs])++ys.flatMap fun y=>[aA (p y)]):=by simpa using h1
 have h3:=BD.lZ (P:=fun W=>dZ W e size v n xs) p m.length ys (by simp) h2;simpa using h3
theorem kr(t:MT)(w:World)(h:t.In w)(hn:t.nodes<=256):Calls Tryz.prog 133 #[t.val] w fun e w'=>∃t':MT,e= .returned t'.val/\t'.plain=t.plain/\BD [] w w' [aA fun W=>t'.In W/\t'.nodes<=256]:=by
 refine(qG t w h hn).mono ?_;rintro e w' ⟨t',rfl,hp,hin,hnew,ht⟩;have h1:=(BD.nil' w).gH (vs:=[t']) ht (by simpa using hin) (by simpa using hnew);refine⟨t',rfl,hp,?_⟩;have hno:t'.nodes<=256:=by rw[<-MT.cu,hp,MT.cu];exact hn
 exact h1.jh 0 rfl (fun W f hf=>⟨hf.2 t' (by simp),hno⟩)
theorem A7:(Tryz.prog.info? 3).map (fun i=>(i.zero,i.size,i.bytes))=some (some (.int .i64 0),1,8):=by kernel_rfl
theorem I4(l:List Int):∀u∈l.flatMap fq,u.oneCell'=true:=by
 intro u hu;obtain⟨t,_,hu⟩:=List.mem_flatMap.1 hu;simp[fq]at hu
 subst hu;rfl
theorem aG.src{w:World}{a:Option Addr}{l:List Int}(h:aG w a 1 l.length (l.flatMap fq)):l.length=0\/∃ad,a=some ad/\∀j u,(l.flatMap fq)[j]? =some u->w.cell? (ad.add j)=some u:=by
 by_cases hl:l.length=0
 .exact .inl hl
 .obtain⟨b,o,rfl,_,_⟩:=h.2 0 (by omega)
  refine .inr ⟨_,rfl,fun j u hu=>?_⟩;have hlen:=rW fq 1 (fun _=>rfl) l;obtain⟨hj,_⟩:=List.getElem?_eq_some_iff.1 hu;obtain⟨b',o',he,_,hc⟩:=h.2 j (by omega);injection he with he
  injection he with h1 h2
  subst h1 h2;have :=hc 0 Nat.one_pos;rw[Nat.mul_one,Nat.add_zero,Nat.add_zero,hu]at this;rw[Addr.add_lit,<-this]
theorem rU(w:World)(a:Option Addr)(cap:Nat)(l:List Int)(h:aG w a 1 l.length (l.flatMap fq)):Calls Tryz.prog 146 #[.slice a l.length cap] w fun e w'=>∃a' cap',e= .returned (.slice a' l.length cap')/\BD [] w w' [aA fun W=>aG W a' 1 l.length (l.flatMap fq)]:=by
 obtain⟨i0,hi0,CY,CU,CX⟩:=info_parts A7;have H:=hdq h;clear h;cases a with
 |none=>
  have hl:l.length=0:=by
   by_cases h0:l.length=0
   .exact h0
   .obtain⟨b,o,ha,_⟩:=H.out.2 0 (by omega)
    cases ha
  obtain rfl:=List.eq_nil_of_length_eq_zero hl;have hq:∀W n c,(binOp .eql 49 (.slice none n c) (.slice none 0 0)).run Tryz.prog W= .ok (.bool true) W:=fun W n c=>by kernel_rfl
  go_enter Tryz.func146,Tryz.ntmps146
  go_wp2;go_ret
  exact⟨none,0,rfl,((BD.nil' w).gK 3 1).jh 0 rfl (fun W f hf=>gX _ _ _ _)⟩
 |some a=>
  have hne:∀W n c,(binOp .eql 49 (.slice (some a) n c) (.slice none 0 0)).run Tryz.prog W= .ok (.bool false) W:=fun W n c=>by kernel_rfl
  have hb:∀W,(Instr.buildSlice 49 0 #[]).run Tryz.prog W= .ok (.slice (some ⟨W.heap.size,0,none⟩) 0 0) (W.alloc (.cells #[] 3)):=fun W=>by kernel_rfl
  have hlen:=rW fq 1 (fun _=>rfl) l;have hl6:=H.out.1;go_enter Tryz.func146,Tryz.ntmps146
  have BB:=hdq (BD.empty (BD.nil' w) 3 1);go_wp2_with (at_builtin;go_must (refine cB _ rfl (.tmp 5) (.tmp 6) 49 rfl 3 i0 _ 1 8 Tryz.underlying49 hi0 CY CU CX rfl (by decide) (.slice (some ⟨w.heap.size,0,none⟩) 0 0) 0 [] rfl (BB.out.aZ 0 rfl) (some a) l.length cap (l.flatMap fq) rfl hlen (H.out.aW ((Touch.refl [] w).alloc _)).src (I4 l) (by simp only[maxLen];omega) (by omega) ?_);intro a5 c5 w5 hown hgrow hat;refine Hid.out ?_)
  have HL2:=hdq (BB.out.bG 0 rfl hgrow hown hat);clear hown hgrow hat BB;refine hdq ?_;go_wp2;go_ret
  rw[Nat.zero_add]at HL2;refine⟨a5,c5,rfl,HL2.out.jh 0 rfl (fun W f hf=>?_)⟩;have h:=hf.2;simp only[nAq]at h;exact iY h hl6
def M7(c:MC)(w:World)(e:Ending)(w':World):Prop:=∃c':MC,e= .returned c'.val/\c'.plain=c.plain/\BD [] w w' [aA fun W=>c'.In W]
theorem call_c(c:MC)(w:World)(h:c.In w):Calls Tryz.prog 222 #[c.val] w (M7 c w):=by
 have H:=hdq h;clear h;obtain⟨fn,a,cap,args⟩:=c;simp only[MC.val];have hbc:∀W a n c,(Instr.build 189 #[(0,.int .i64 fn),(1,.slice a n c)]).run Tryz.prog W= .ok (.agg #[.int .i64 fn,.slice a n c]) W:=fun W a n c=>run_build W 189 _ _ (by kernel_rfl);go_enter Tryz.func222,Tryz.ntmps222
 go_wp2_with fail
 refine ay ?_;intro w1 hw1;have BB:=hdq ((BD.nil' w).DZ hw1);simp only[nAq]at BB;generalize hb2:w.heap.size+1=b2 at BB|-;generalize hb1:w.heap.size=b1 at BB|-;clear hw1 hb2 hb1;have Ed:=hdq (H.out.aW BB.out.BN);obtain⟨p0,p1,_,_,zp,_,_⟩:=BB.out.c2 0 rfl;have HC:Hid (∀W,Touch [] w1 W->Calls Tryz.prog 223 #[.slice a args.length cap,.func (.func 133) #[] #[]] W (gG [] W [] 45 3 MT.cells (fun y=>[aA fun W=>y.In W/\y.nodes<=256]) MT.plain args)):=fun W hW=>by
  have hin:=Ed.out.aW hW;refine yD MT.plain _ [] W [] a cap args _ (BD.nil' W) (fun W' r hL=>(MT.JW (hin.1.2.aW hL.BN) hin.1.1)) (enters_of Tryz.func133 (by kernel_rfl) rfl) (fun W' r i hi hL=>?_) hin.1.1;have hti:=hin.2 _ (List.getElem_mem hi);refine(kr _ W' (hti.1.aO hL.BN) hti.2).mono ?_;rintro en W2 ⟨y,rfl,hp,hL2⟩;exact⟨y,rfl,hp,hL.join hL2⟩
 have BZ:=hdq (Touch.refl [] w1).drew;go_wp2_with fail
 refine hrq (S:=fun w'=>w'.cell? ⟨b1,0,none⟩=some (.int .i64 fn)/\w'.cell? ⟨b1,1,none⟩=some (.slice a args.length cap)) fun hHeld=>?_;refine tkq 0 3 ?_;refine tkq 1 4 ?_;refine tkq 2 5 ?_;refine tkq 3 6 ?_;refine rdq 4 rfl fun K hK=>?_;go_simp;refine(HC.out _ BZ.out).mono ?_;rintro en w2 ⟨a',cap',ys,rfl,hyp,hL⟩;have HL2:=hdq (BB.out.drew.join (hL.qj (m:=[]) (fun y W=>y.In W/\y.nodes<=256) ys));have LP:=hdq (show ys.length=args.length by have :=congrArg List.length hyp;simpa using this);have EA:=hdq hyp;simp only[nAq,cAq]at HL2;clear hL hyp HC BZ p0 p1 zp hHeld BB Ed;obtain⟨p0,p1,_,_,zp,_,_⟩:=HL2.out.c2 0 rfl;obtain⟨q0,q1,f0,f1,zq,_,_⟩:=HL2.out.c2 1 rfl;go_simp;refine kpq hK.out fun hHeld=>?_;clear hK K;have n1:=HL2.out.ne 0 1 rfl rfl (by decide);have n2:=Ne.symm n1;refine tkq 5 8 ?_;refine rdq 6 rfl fun K hK=>?_;go_simp;refine hK.out _ _ ?_ (fun hHeld=>?_)
 ·(try dsimp only)
  go_keep
 clear hK K;refine dnq ?_;refine ax (Q:=Exit.then _ _) ?_;intro w3 hw3;have BF:=hdq (((HL2.out.set 1 rfl 0 (.int .i64 fn)).set 1 rfl 1 (.slice a' args.length cap')).toW (by with_reducible exact hw3));simp only[sSq,sZq,sAq]at BF;clear hw3 HL2 p0 p1 zp q0 q1 f0 f1 zq n1 n2 hHeld;obtain⟨q0,q1,_,_,zq,_,_⟩:=BF.out.c2 1 rfl;go_wp2;have hv:(MC.mk fn a' cap' ys).val= .agg #[.int .i64 fn,.slice a' args.length cap']:=by simp[MC.val,LP.out]
 refine bodyPost_ret (v:=(MC.mk fn a' cap' ys).val) (by rw[hv];simp[results,Tryz.results222,go_sem,q0,q1]) rfl ?_;refine⟨_,rfl,?_,?_⟩
 .simp only[MC.plain]
  rw[EA.out]
 .have h:=(BF.out.sel [2] (l':=[_]) rfl (by decide)).weaken 0 rfl (Q:=fun W=>(MC.mk fn a' cap' ys).In W) (fun W hW=>by
   have hr:=hW.1;rw[<-LP.out]at hr;refine⟨⟨by rw[show(MC.mk fn a' cap' ys).args=ys from rfl,LP.out];exact H.out.1.1,MT.uJ (iY hr (by rw[LP.out];exact H.out.1.1))⟩,hW.2⟩)
  simpa using h
theorem BD.c11{T:List Nat}{w0 w:World}{l:List ai}{b t:Nat}(h:BD T w0 w l)(i:Nat){x0 x1 x2 x3 x4 x5 x6 x7 x8 x9 x10:Value}(hi:l[i]? =some (Proofs.YtddnnapoaonmjaaGreatDoor.box b t #[x0,x1,x2,x3,x4,x5,x6,x7,x8,x9,x10])):w.cell? ⟨b,0,none⟩=some x0/\w.cell? ⟨b,1,none⟩=some x1/\w.cell? ⟨b,2,none⟩=some x2/\w.cell? ⟨b,3,none⟩=some x3/\w.cell? ⟨b,4,none⟩=some x4/\w.cell? ⟨b,5,none⟩=some x5/\w.cell? ⟨b,6,none⟩=some x6/\w.cell? ⟨b,7,none⟩=some x7/\w.cell? ⟨b,8,none⟩=some x8/\w.cell? ⟨b,9,none⟩=some x9/\w.cell? ⟨b,10,none⟩=some x10/\(w.frozen? ⟨b,0,none⟩=false/\w.frozen? ⟨b,1,none⟩=false/\w.frozen? ⟨b,2,none⟩=false/\w.frozen? ⟨b,3,none⟩=false/\w.frozen? ⟨b,4,none⟩=false/\w.frozen? ⟨b,5,none⟩=false/\w.frozen? ⟨b,6,none⟩=false/\w.frozen? ⟨b,7,none⟩=false/\w.frozen? ⟨b,8,none⟩=false/\w.frozen? ⟨b,9,none⟩=false/\w.frozen? ⟨b,10,none⟩=false)/\b<w.heap.size/\b<w.heap.size+1/\b<w.heap.size+1+1:=by
 have hb:=h.box i hi;have hl:=hb.lt;exact⟨hb.cell 0,hb.cell 1,hb.cell 2,hb.cell 3,hb.cell 4,hb.cell 5,hb.cell 6,hb.cell 7,hb.cell 8,hb.cell 9,hb.cell 10,⟨hb.frozen 0,hb.frozen 1,hb.frozen 2,hb.frozen 3,hb.frozen 4,hb.frozen 5,hb.frozen 6,hb.frozen 7,hb.frozen 8,hb.frozen 9,hb.frozen 10⟩,hl,ltq hl,ltq (ltq hl)⟩
def H7(b:MB)(w:World)(e:Ending)(w':World):Prop:=∃b':MB,e= .returned b'.val/\b'.plain=b.plain/\BD [] w w' [aA fun W=>b'.In W]
theorem base_c(b:MB)(w:World)(h:b.In w):Calls Tryz.prog 145 #[b.val] w (H7 b w):=by
 have H:=hdq h;clear h;obtain⟨kind,n,v,wa,wc,wraps,na,nc,aT⟩:=b;simp only[MB.val];go_enter Tryz.func145,Tryz.ntmps145
 go_wp2_with fail
 refine ah ?_;intro w1 hw1;have BB:=hdq ((BD.nil' w).DZ hw1);simp only[nAq]at BB;generalize hb2:w.heap.size+1=b2 at BB|-;generalize hb1:w.heap.size=b1 at BB|-;clear hw1 hb2 hb1;have FW:Hid (∀W,Touch [] w W->Calls Tryz.prog 133 #[v.val] W fun e w'=>∃t':MT,e= .returned t'.val/\t'.plain=v.plain/\BD [] W w' [aA fun W=>t'.In W/\t'.nodes<=256]):=fun W hW=>kr v W ((H.out.aW hW).1.1) H.out.1.2;refine(FW.out _ BB.out.BN).mono ?_;rintro e u1 ⟨v',rfl,hp,hL⟩;have HPv:=hdq hp;have MG:=hdq (BB.out.join hL);simp only[nAq,cAq]at MG;clear hL hp BB FW;obtain⟨p0,p1,p2,p3,p4,p5,p6,⟨IZ,Ie,Ka,Kg,KH,Jl,Jb⟩,zp,_,_⟩:=MG.out.c7 0 rfl;simp only[MT.val,MT.sl];go_wp2_with fail
 refine ah ?_;intro w2 hw2;have HL2:=hdq ((((MG.out.set 0 rfl 2 (.int .i64 v'.kind)).set 0 rfl 3 (.int .i64 v'.num)).set 0 rfl 4 (.slice v'.addr v'.parts.length v'.cap)).toW (by with_reducible exact hw2));simp only[sSq,sZq,sAq]at HL2;clear hw2 MG p0 IZ p1 Ie p2 Ka p3 Kg p4 KH p5 Jl p6 Jb zp;have Ma:Hid (∀W,Touch [] w W->Calls Tryz.prog 221 #[.slice wa wraps.length wc,.func (.func 222) #[] #[]] W (gG [] W [] 189 2 MC.cells (fun y=>[aA fun W=>y.In W]) MC.plain wraps)):=fun W hW=>by
  have hin:=H.out.aW hW;refine vT MC.plain _ [] W [] wa wc wraps _ (BD.nil' W) (fun W' r hL=>hin.2.1.1.aW hL.BN) (enters_of Tryz.func222 (by kernel_rfl) rfl) (fun W' r i hi hL=>?_) hin.2.1.1.1;refine(call_c _ W' ((hin.2.1.2 _ (List.getElem_mem hi)).aW hL.BN)).mono ?_;rintro en W2 ⟨y,rfl,hp,hL2⟩;exact⟨y,rfl,hp,hL.join hL2⟩
 refine(Ma.out _ HL2.out.BN).mono ?_;rintro e u2 ⟨a2,c2,ys,rfl,hyp,hL⟩;have HPy:=hdq hyp;have LP:=hdq (show ys.length=wraps.length by have :=congrArg List.length hyp;simpa using this);have Hl:=hdq (HL2.out.join (hL.qj (m:=[]) (fun y W=>y.In W) ys));simp only[nAq,cAq]at Hl;clear hL hyp HL2 Ma;obtain⟨p0,p1,p2,p3,p4,p5,p6,⟨IZ,Ie,Ka,Kg,KH,Jl,Jb⟩,zp,_,_⟩:=Hl.out.c7 0 rfl;go_wp2_with fail
 refine ah ?_;intro w3 hw3;have BF:=hdq ((Hl.out.set 0 rfl 5 (.slice a2 wraps.length c2)).toW (by with_reducible exact hw3));simp only[sSq,sZq,sAq]at BF;clear hw3 Hl p0 IZ p1 Ie p2 Ka p3 Kg p4 KH p5 Jl p6 Jb zp;have HC3:Hid (∀W,Touch [] w W->Calls Tryz.prog 146 #[.slice na aT.length nc] W fun e w'=>∃a' cap',e= .returned (.slice a' aT.length cap')/\BD [] W w' [aA fun W=>aG W a' 1 aT.length (aT.flatMap fq)]):=fun W hW=>rU W na nc aT ((H.out.aW hW).2.2);refine(HC3.out _ BF.out.BN).mono ?_;rintro e u3 ⟨a3,c3,rfl,hL⟩;have He:=hdq (BF.out.join hL);simp only[nAq,cAq]at He;clear hL BF HC3;obtain⟨p0,p1,p2,p3,p4,p5,p6,⟨IZ,Ie,Ka,Kg,KH,Jl,Jb⟩,zp,_,_⟩:=He.out.c7 0 rfl;obtain⟨q0,q1,q2,q3,q4,q5,q6,⟨G9,G6,G5,Ng,NG,L6,NH⟩,zq,_,_⟩:=He.out.c7 1 rfl;have n1:=He.out.ne 0 1 rfl rfl (by decide);have n2:=Ne.symm n1;have BH:=hdq ((((((((He.out.set 0 rfl 6 (.slice a3 aT.length c3)).set 1 rfl 0 (.int .i64 kind)).set 1 rfl 1 (.int .i64 n)).set 1 rfl 2 (.int .i64 v'.kind)).set 1 rfl 3 (.int .i64 v'.num)).set 1 rfl 4 (.slice v'.addr v'.parts.length v'.cap)).set 1 rfl 5 (.slice a2 wraps.length c2)).set 1 rfl 6 (.slice a3 aT.length c3));simp only[sSq,sZq,sAq]at BH;have HB:=hdq (BH.out.c7 1 rfl);go_wp2;clear p0 IZ p1 Ie p2 Ka p3 Kg p4 KH p5 Jl p6 Jb zp q0 G9 q1 G6 q2 G5 q3 Ng q4 NG q5 L6 q6 NH zq n1 n2 He;obtain⟨q0,q1,q2,q3,q4,q5,q6,_,zq,_,_⟩:=HB.out;have hv:(MB.mk kind n v' a2 c2 ys a3 c3 aT).val= .agg #[.int .i64 kind,.int .i64 n,.int .i64 v'.kind,.int .i64 v'.num,.slice v'.addr v'.parts.length v'.cap,.slice a2 wraps.length c2,.slice a3 aT.length c3]:=by simp[MB.val,LP.out]
 refine bodyPost_ret (v:=(MB.mk kind n v' a2 c2 ys a3 c3 aT).val) (by rw[hv];simp[results,Tryz.results145,go_sem,q0,q1,q2,q3,q4,q5,q6]) rfl ?_;refine⟨_,rfl,by simp only[MB.plain,HPv.out,HPy.out],?_⟩;have hs:=(BH.out.sel [2,3,4] (l':=[_,_,_]) rfl (by decide));have h2:=(hs.settle (l:=[_,_]) 0 rfl (Q:=fun W=>_/\_) (fun W f hP ht=>⟨hP,ht.2 W (fun _ _=>rfl)⟩));have h3:=BD.settle (l:=[_]) h2 0 rfl (Q:=fun W=>_/\_) (fun W f hP ht=>⟨hP,ht.2 W (fun _ _=>rfl)⟩);have h4:=h3.weaken 0 rfl (Q:=fun W=>(MB.mk kind n v' a2 c2 ys a3 c3 aT).In W) (fun W hW=>?_)
 .simpa using h4
 .obtain⟨⟨hv',hc⟩,hr,hy⟩:=hW
  exact⟨hv',⟨show aG W a2 2 ys.length (ys.flatMap MC.cells) from LP.out▸iY hr H.out.2.1.1.1,hy⟩,hc⟩
def wE(b:MS)(w:World)(e:Ending)(w':World):Prop:=∃b':MS,e= .returned b'.val/\b'.plain=b.plain/\BD [] w w' [aA fun W=>b'.In W]
theorem xw(b:MS)(w:World)(h:b.In w):Calls Tryz.prog 56 #[b.val] w (wE b w):=by
 have H:=hdq h;clear h;obtain⟨thread,ba,bc,bases,ca,cc,conds,flag,parked,done,branch,v,partner⟩:=b;simp only[MS.val];go_enter Tryz.func56,Tryz.ntmps56
 go_wp2_with fail
 refine ah ?_;intro w1 hw1;have BB:=hdq ((BD.nil' w).DZ hw1);simp only[nAq]at BB;generalize hb2:w.heap.size+1=b2 at BB|-;generalize hb1:w.heap.size=b1 at BB|-;clear hw1 hb2 hb1;have FW:Hid (∀W,Touch [] w W->Calls Tryz.prog 144 #[.slice ba bases.length bc,.func (.func 145) #[] #[]] W (gG [] W [] 110 7 MB.cells (fun y=>[aA fun W=>y.In W]) MB.plain bases)):=fun W hW=>by
  have hin:=H.out.aW hW;refine ve MB.plain _ [] W [] ba bc bases _ (BD.nil' W) (fun W' r hL=>hin.2.1.1.aW hL.BN) (enters_of Tryz.func145 (by kernel_rfl) rfl) (fun W' r i hi hL=>?_) hin.2.1.1.1;refine(base_c _ W' ((hin.2.1.2 _ (List.getElem_mem hi)).aW hL.BN)).mono ?_;rintro en W2 ⟨y,rfl,hp,hL2⟩;exact⟨y,rfl,hp,hL.join hL2⟩
 refine(FW.out _ BB.out.BN).mono ?_;rintro e u1 ⟨a1,c1,ys,rfl,hyp,hL⟩;have HPy:=hdq hyp;have LP:=hdq (show ys.length=bases.length by have :=congrArg List.length hyp;simpa using this);have MG:=hdq (BB.out.join (hL.qj (m:=[]) (fun y W=>y.In W) ys));simp only[nAq,cAq]at MG;clear hL hyp BB FW;obtain⟨p0,p1,p2,p3,p4,p5,p6,p7,p8,p9,Ef,⟨IZ,Ie,Ka,Kg,KH,Jl,Jb,pf7,pf8,pf9,LD⟩,zp,_,_⟩:=MG.out.c11 0 rfl;go_wp2_with fail
 refine ah ?_;intro w2 hw2;have HL2:=hdq ((MG.out.set 0 rfl 1 (.slice a1 bases.length c1)).toW (by with_reducible exact hw2));simp only[sSq,sZq,sAq]at HL2;clear hw2 MG p0 IZ p1 Ie p2 Ka p3 Kg p4 KH p5 Jl p6 Jb p7 pf7 p8 pf8 p9 pf9 Ef LD zp;have Ma:Hid (∀W,Touch [] w W->Calls Tryz.prog 146 #[.slice ca conds.length cc] W fun e w'=>∃a' cap',e= .returned (.slice a' conds.length cap')/\BD [] W w' [aA fun W=>aG W a' 1 conds.length (conds.flatMap fq)]):=fun W hW=>rU W ca cc conds ((H.out.aW hW).2.2);refine(Ma.out _ HL2.out.BN).mono ?_;rintro e u2 ⟨a2,c2,rfl,hL⟩;have Hl:=hdq (HL2.out.join hL);simp only[nAq,cAq]at Hl;clear hL HL2 Ma;obtain⟨p0,p1,p2,p3,p4,p5,p6,p7,p8,p9,Ef,⟨IZ,Ie,Ka,Kg,KH,Jl,Jb,pf7,pf8,pf9,LD⟩,zp,_,_⟩:=Hl.out.c11 0 rfl;go_wp2_with fail
 refine ah ?_;intro w3 hw3;have BF:=hdq ((Hl.out.set 0 rfl 2 (.slice a2 conds.length c2)).toW (by with_reducible exact hw3));simp only[sSq,sZq,sAq]at BF;clear hw3 Hl p0 IZ p1 Ie p2 Ka p3 Kg p4 KH p5 Jl p6 Jb p7 pf7 p8 pf8 p9 pf9 Ef LD zp;have HC3:Hid (∀W,Touch [] w W->Calls Tryz.prog 133 #[v.val] W fun e w'=>∃t':MT,e= .returned t'.val/\t'.plain=v.plain/\BD [] W w' [aA fun W=>t'.In W/\t'.nodes<=256]):=fun W hW=>kr v W ((H.out.aW hW).1.1) H.out.1.2;refine(HC3.out _ BF.out.BN).mono ?_;rintro e u3 ⟨v',rfl,hp,hL⟩;have HPv:=hdq hp;have He:=hdq (BF.out.join hL);simp only[nAq,cAq]at He;clear hL hp BF HC3;obtain⟨p0,p1,p2,p3,p4,p5,p6,p7,p8,p9,Ef,⟨IZ,Ie,Ka,Kg,KH,Jl,Jb,pf7,pf8,pf9,LD⟩,zp,_,_⟩:=He.out.c11 0 rfl;simp only[MT.val,MT.sl];obtain⟨q0,q1,q2,q3,q4,q5,q6,q7,q8,q9,E5,⟨G9,G6,G5,Ng,NG,L6,NH,qf7,qf8,qf9,qf10⟩,zq,_,_⟩:=He.out.c11 1 rfl;have n1:=He.out.ne 0 1 rfl rfl (by decide);have n2:=Ne.symm n1;have BH:=hdq ((((((((((((((He.out.set 0 rfl 7 (.int .i64 v'.kind)).set 0 rfl 8 (.int .i64 v'.num)).set 0 rfl 9 (.slice v'.addr v'.parts.length v'.cap)).set 1 rfl 0 (.int .i64 thread)).set 1 rfl 1 (.slice a1 bases.length c1)).set 1 rfl 2 (.slice a2 conds.length c2)).set 1 rfl 3 (.int .i64 flag)).set 1 rfl 4 (.bool parked)).set 1 rfl 5 (.bool done)).set 1 rfl 6 (.int .i64 branch)).set 1 rfl 7 (.int .i64 v'.kind)).set 1 rfl 8 (.int .i64 v'.num)).set 1 rfl 9 (.slice v'.addr v'.parts.length v'.cap)).set 1 rfl 10 (.int .i64 partner));simp only[sSq,sZq,sAq]at BH;have HB:=hdq (BH.out.c11 1 rfl);go_wp2;clear p0 IZ p1 Ie p2 Ka p3 Kg p4 KH p5 Jl p6 Jb p7 pf7 p8 pf8 p9 pf9 Ef LD zp q0 G9 q1 G6 q2 G5 q3 Ng q4 NG q5 L6 q6 NH q7 qf7 q8 qf8 q9 qf9 E5 qf10 zq n1 n2 He;obtain⟨q0,q1,q2,q3,q4,q5,q6,q7,q8,q9,E5,_,zq,_,_⟩:=HB.out;have hv:(MS.mk thread a1 c1 ys a2 c2 conds flag parked done branch v' partner).val= .agg #[.int .i64 thread,.slice a1 bases.length c1,.slice a2 conds.length c2,.int .i64 flag,.bool parked,.bool done,.int .i64 branch,.int .i64 v'.kind,.int .i64 v'.num,.slice v'.addr v'.parts.length v'.cap,.int .i64 partner]:=by simp[MS.val,LP.out]
 refine bodyPost_ret (v:=(MS.mk thread a1 c1 ys a2 c2 conds flag parked done branch v' partner).val) (by rw[hv];simp[results,Tryz.results56,go_sem,q0,q1,q2,q3,q4,q5,q6,q7,q8,q9,E5]) rfl ?_;refine⟨_,rfl,by simp only[MS.plain,HPv.out,HPy.out],?_⟩;have hs:=(BH.out.sel [2,3,4] (l':=[_,_,_]) rfl (by decide));have h2:=(hs.settle (l:=[_,_]) 0 rfl (Q:=fun W=>_/\_) (fun W f hP ht=>⟨hP,ht.2 W (fun _ _=>rfl)⟩));have h3:=BD.settle (l:=[_]) h2 0 rfl (Q:=fun W=>_/\_) (fun W f hP ht=>⟨hP,ht.2 W (fun _ _=>rfl)⟩);have h4:=h3.weaken 0 rfl (Q:=fun W=>(MS.mk thread a1 c1 ys a2 c2 conds flag parked done branch v' partner).In W) (fun W hW=>?_)
 .simpa using h4
 .obtain⟨⟨⟨hr,hy⟩,hv'⟩,hc⟩:=hW
  exact⟨hv',⟨show aG W a1 7 ys.length (ys.flatMap MB.cells) from LP.out▸iY hr H.out.2.1.1.1,hy⟩,hc⟩
theorem BD.uM{T:List Nat}{w0 w w':World}{x:WS}{r0:List ai}{Q:World->Prop}(h:BD T w0 w (x.ts++r0))(h':BD [] w w' [aA Q]):BD T w0 w' ((x.knows Q).ts++r0):=
 (h.join h').settle 2 rfl (fun W f hp hv=>⟨hp,hv.2 W (fun _ _=>rfl)⟩)
theorem BD.Kt{T:List Nat}{w0 w:World}{x:WS}{r0:List ai}{ms:List MS}(h:BD T w0 w (x.ts++r0))(hms:x.sys=ms.map MS.raw)(n:Nat)(hn:n<ms.length)(g:Nat)(hg:x.a3=some ⟨g,0,none⟩)(r:Nat)(hr:r<11):w.cell? ⟨g,n*11+r,none⟩=ms[n].raw.cells[r]? :=by
 have h1:=h.jA n (by rw[hms];simpa using hn) g hg r hr;rw[h1];simp only[hms,List.getElem_map]
def qJ(x:WS)(ms:List MS)(k:Int)(v:bL)(er:Int)(x':WS):Prop:=
 (¬(0<=k/\k<(ms.length:Int))/\v=bL.zero/\er=4/\x'=x)\/∃(n:Nat) (hn:n<ms.length) (s':MS),k=(n:Int)/\er=0/\v=s'.raw/\s'.plain=ms[n].plain/\x'=x.knows (fun W=>s'.In W)
def Aj(T:List Nat)(w:World)(x:WS)(ms:List MS)(k:Int)(b2 b3:Nat)(en:Ending)(w':World):Prop:=∃(v:bL) (er:Int) (x':WS),qJ x ms k v er x'/\((er=0/\en= .returned v.val)\/(v=bL.zero/\en= .panicked (aX er)))/\BD T w w' (x'.ts++[wB x b2,kB b3 k])
def oH(b:Nat):ai:=box b 61 #[.int .i64 0,.slice none 0 0,.slice none 0 0,.int .i64 0,.bool false,.bool false,.int .i64 0,.int .i64 0,.int .i64 0,.slice none 0 0,.int .i64 0]
theorem Nl(T:List Nat)(w:World)(x:WS)(ms:List MS)(b2 b3:Nat)(k:Int)(h:BD T w w (x.ts++[wB x b2,kB b3 k]))(hms:x.sys=ms.map MS.raw)(hin:∀W,x.P W->∀m∈ms,m.In W):
  Calls Tryz.prog 65 #[.pointer (some ⟨b2,0,none⟩),.pointer (some ⟨b3,0,none⟩)] w (Aj T w x ms k b2 b3):=by
 have BG:=hdq h;have HMS:=hdq hms;have Ed:=hdq hin;have hlen:x.sys.length=ms.length:=by rw[hms];simp
 clear h hms hin;obtain⟨p0,zp⟩:=BG.out.jc;obtain⟨q0,zq⟩:=BG.out.kBAt;go_enter Tryz.func65,Tryz.ntmps65
 go_wp2_with fail
 refine ah ?_;intro w1 hw1;have BB:Hid (BD T w w1 (x.ts++([wB x b2,kB b3 k]++[oH w.heap.size]))):=by
  have h1:=BG.out.DN hw1;rw[List.append_assoc]at h1;exact h1
 generalize hbf:w.heap.size=bf at BB|-;clear hw1 hbf BG p0 zp q0 zq;by_cases hk:0<=k/\k<(x.sys.length:Int)
 .obtain⟨n,rfl⟩:=Int.eq_ofNat_of_zero_le hk.1
  have hnk:n<x.sys.length:=by omega
  have hnm:n<ms.length:=by omega
  clear hk;obtain⟨g3,hg3,hx⟩:=BB.out.dU n hnk;clear hx;have HC:=hdq (BB.out.nC n hnk g3 hg3);have HG:=hdq hg3;clear hg3;refine HC.out.mono ?_;rintro e w2 ⟨rfl,ht⟩;have HL2:=hdq (BB.out.touch ht);clear ht HC BB;have HA:=hdq (fun r hr=>HL2.out.Kt HMS.out n hnm g3 HG.out r hr);have HI:=hdq (Ed.out _ (HL2.out.still 2 rfl) _ (List.getElem_mem hnm));have HE:Hid (∀s':MS,s'.plain=ms[n].plain->qJ x ms (n:Int) s'.raw 0 (x.knows (fun W=>s'.In W))):=fun s' hs=> .inr ⟨n,hnm,s',rfl,rfl,rfl,hs,rfl⟩;generalize ms[n]=m at HA HI HE;have p0:w2.cell? ⟨g3,n*11,none⟩=some (.int .i64 m.thread):=HA.out 0 (by omega);have p1:w2.cell? ⟨g3,n*11+1,none⟩=some (.slice m.ba m.bases.length m.bc):=HA.out 1 (by omega);have p2:w2.cell? ⟨g3,n*11+2,none⟩=some (.slice m.ca m.conds.length m.cc):=HA.out 2 (by omega);have p3:w2.cell? ⟨g3,n*11+3,none⟩=some (.int .i64 m.flag):=HA.out 3 (by omega);have p4:w2.cell? ⟨g3,n*11+4,none⟩=some (.bool m.parked):=HA.out 4 (by omega);have p5:w2.cell? ⟨g3,n*11+5,none⟩=some (.bool m.done):=HA.out 5 (by omega);have p6:w2.cell? ⟨g3,n*11+6,none⟩=some (.int .i64 m.branch):=HA.out 6 (by omega);have p7:w2.cell? ⟨g3,n*11+7,none⟩=some (.int .i64 m.v.kind):=HA.out 7 (by omega);have p8:w2.cell? ⟨g3,n*11+8,none⟩=some (.int .i64 m.v.num):=HA.out 8 (by omega);have p9:w2.cell? ⟨g3,n*11+9,none⟩=some (.slice m.v.addr m.v.parts.length m.v.cap):=HA.out 9 (by omega);have Ef:w2.cell? ⟨g3,n*11+10,none⟩=some (.int .i64 m.partner):=HA.out 10 (by omega);clear HA;go_wp2_with fail
  refine(xw m w2 HI.out).mono ?_;rintro e w3 ⟨s',rfl,hp,hL⟩;have BF:=hdq (HL2.out.uM hL);have HE3:=hdq (HE.out s' hp);clear hL hp HL2 HE HI p0 p1 p2 p3 p4 p5 p6 p7 p8 p9 Ef;have BH:=hdq (BD.aB (a:=[]) (c:=[oH bf]) (b:=(x.knows (fun W=>s'.In W)).ts++[wB x b2,kB b3 (n:Int)]) (by rw[List.nil_append,List.append_assoc];exact BF.out));simp only[nAq,cAq,oH]at BH;clear BF;obtain⟨p0,p1,p2,p3,p4,p5,p6,p7,p8,p9,Ef,⟨f0,f1,f2,f3,f4,f5,f6,f7,f8,f9,f10⟩,zp,_,_⟩:=BH.out.c11 0 rfl;have Ca:=hdq (((((((((((BH.out.set 0 rfl 0 (.int .i64 s'.thread)).set 0 rfl 1 (.slice s'.ba s'.bases.length s'.bc)).set 0 rfl 2 (.slice s'.ca s'.conds.length s'.cc)).set 0 rfl 3 (.int .i64 s'.flag)).set 0 rfl 4 (.bool s'.parked)).set 0 rfl 5 (.bool s'.done)).set 0 rfl 6 (.int .i64 s'.branch)).set 0 rfl 7 (.int .i64 s'.v.kind)).set 0 rfl 8 (.int .i64 s'.v.num)).set 0 rfl 9 (.slice s'.v.addr s'.v.parts.length s'.v.cap)).set 0 rfl 10 (.int .i64 s'.partner));simp only[sSq,sZq,sAq]at Ca;have HB:=hdq (Ca.out.c11 0 rfl);simp only[MS.val];go_wp2;clear p0 p1 p2 p3 p4 p5 p6 p7 p8 p9 Ef f0 f1 f2 f3 f4 f5 f6 f7 f8 f9 f10 zp BH;obtain⟨p0,p1,p2,p3,p4,p5,p6,p7,p8,p9,Ef,_,zp,_,_⟩:=HB.out;refine bodyPost_ret (v:=s'.raw.val) (by simp[results,Tryz.results65,go_sem,p0,p1,p2,p3,p4,p5,p6,p7,p8,p9,Ef,bL.val,MS.raw]) rfl ?_;exact⟨_,0,_,HE3.out,.inl ⟨rfl,rfl⟩,BD.aF (BD.aB (a:=[]) (b:=[_]) Ca.out)⟩
 .have HC:=hdq (BB.out.fE k hk)
  have HE:Hid (qJ x ms k bL.zero 4 x):= .inl ⟨by rw[<-hlen];exact hk,rfl,rfl,rfl⟩;refine HC.out.mono ?_;rintro e w2 ⟨rfl,ht⟩;dsimp only;have h2:=BB.out.touch ht;rw[<-List.append_assoc]at h2;exact⟨rfl,_,4,x,HE.out,.inr ⟨rfl,rfl⟩,h2.aF⟩
theorem Sync_w(T:List Nat)(w:World)(x:WS)(ms:List MS)(k:Int)(h:BD T w w x.ts)(hms:x.sys=ms.map MS.raw)(hin:∀W,x.P W->∀m∈ms,m.In W):
  Calls Tryz.prog 15 #[.pointer (some ⟨x.wb,0,none⟩),.int .i64 k] w fun e w'=>∃(v:bL) (er:Int) (x':WS),e= .returned (.tuple #[v.val,.bool (er==0)])/\qJ x ms k v er x'/\BD T w w' x'.ts:=by
 have Ep:= @mfq;have BG:=hdq h;have HMS:=hdq hms;have Ed:=hdq hin;clear h hms hin;go_enter Tryz.func15,Tryz.ntmps15
 go_wp2_with fail
 refine ah ?_;intro w1 hw1;have BB:=hdq ((((BG.out.alloc 25 #[.pointer (some ⟨x.wb,0,none⟩)]).alloc 3 #[.int .i64 k]).alloc 61 #[.int .i64 0,.slice none 0 0,.slice none 0 0,.int .i64 0,.bool false,.bool false,.int .i64 0,.int .i64 0,.int .i64 0,.slice none 0 0,.int .i64 0]).toW hw1);simp only[World.size_alloc,List.append_assoc,cAq,nAq]at BB;generalize hb4:w.heap.size+1+1=b4 at BB|-;generalize hb3:w.heap.size+1=b3 at BB|-;generalize hb2:w.heap.size=b2 at BB|-;clear hw1 hb4 hb3 hb2 BG;refine(sZ T w w1 _ _ _ (fun v er l'=>∃x',qJ x ms k v er x'/\l'=x'.ts++[wB x b2,kB b3 k]++[oH b4]) BB.out (enters_of Tryz.func65 (by kernel_rfl) rfl) (fun T' W hW=>?_)).mono ?_
 .obtain⟨T2,hF,hb⟩:=BD.aN (m:=x.ts++[wB x b2,kB b3 k]) (r:=[oH b4]) (by rw[List.append_assoc];exact hW)
  refine(Nl T2 W x ms b2 b3 k hF HMS.out Ed.out).mono ?_;rintro en w' ⟨v,er,x',hx,he,hL⟩;exact⟨v,er,_,he,⟨x',hx,rfl⟩,hb _ _ hL⟩
 rintro en w2 ⟨v,er,l',rfl,⟨x',hx,rfl⟩,hL⟩;have HX:=hdq hx;have BF:=hdq hL;clear hL hx BB;unfold bL.val;dsimp only;go_upto_region 2 with fail
 refine ay ?_;intro w3 hw3;have BH:=hdq (BD.aB (a:=[]) (b:=x'.ts++[wB x b2,kB b3 k]) (c:=[oH b4,box w2.heap.size 61 #[.int .i64 v.thread,.slice v.jr v.gm v.jv,.slice v.ko v.kz v.jR,.int .i64 v.flag,.bool v.parked,.bool v.done,.int .i64 v.branch,.int .i64 v.kind,.int .i64 v.num,.slice v.lA v.lN v.lC,.int .i64 v.partner]]) (by simpa[oH]using(BF.out.DN hw3)));simp only[nAq,cAq,oH]at BH;generalize FK:w2.heap.size=b9 at BH|-;clear hw3 FK BF;obtain⟨p0,p1,p2,p3,p4,p5,p6,p7,p8,p9,Ef,⟨f0,f1,f2,f3,f4,f5,f6,f7,f8,f9,f10⟩,zp,_,_⟩:=BH.out.c11 0 rfl;obtain⟨q0,q1,q2,q3,q4,q5,q6,q7,q8,q9,E5,_,zq,_,_⟩:=BH.out.c11 1 rfl;have Ca:=hdq (((((((((((BH.out.set 0 rfl 0 (.int .i64 v.thread)).set 0 rfl 1 (.slice v.jr v.gm v.jv)).set 0 rfl 2 (.slice v.ko v.kz v.jR)).set 0 rfl 3 (.int .i64 v.flag)).set 0 rfl 4 (.bool v.parked)).set 0 rfl 5 (.bool v.done)).set 0 rfl 6 (.int .i64 v.branch)).set 0 rfl 7 (.int .i64 v.kind)).set 0 rfl 8 (.int .i64 v.num)).set 0 rfl 9 (.slice v.lA v.lN v.lC)).set 0 rfl 10 (.int .i64 v.partner));simp only[sSq,sZq,sAq]at Ca;clear BH;go_wp2;clear p0 p1 p2 p3 p4 p5 p6 p7 p8 p9 Ef f0 f1 f2 f3 f4 f5 f6 f7 f8 f9 f10 zp q0 q1 q2 q3 q4 q5 q6 q7 q8 q9 E5 zq;refine aP ?_;intro w5 DC;have C8:=hdq (Ca.out.toW DC);clear DC Ca;obtain⟨p0,p1,p2,p3,p4,p5,p6,p7,p8,p9,Ef,_,zp,_,_⟩:=C8.out.c11 0 rfl;have heq:∀W,(binOp .eql 26 (.int .i64 er) (.int .i64 0)).run Tryz.prog W= .ok (.bool (er==0)) W:=fun W=>by simp[go_sem]
 refine bodyPost_ret (v:= .tuple #[v.val,.bool (er==0)]) (by simp[results,Tryz.results15,go_sem,p0,p1,p2,p3,p4,p5,p6,p7,p8,p9,Ef,bL.val]) rfl ?_;refine⟨v,er,x',rfl,HX.out,?_⟩;have hz:BD T w w5 (x'.ts++[wB x b2,kB b3 k]++[_,_]):=BD.aB (a:=[]) (b:=[_,_]) C8.out;exact BD.aF (BD.aF hz)
theorem nW{P:Program}{f:FuncId}{args:Array Value}{w:World}{n:Nat}{v:Value}(h:Calls P f args (w.drewN n) fun e w'=>e= .returned v/\w.drewN n=w'):Calls P f args (w.drewN n) fun e w''=>e= .returned v/\∃m,w''=w.drewN m:=
 h.mono fun _ _ ⟨he,hm⟩=>⟨he,n,hm.symm⟩
def bL.qN(y:bL)(br:Int)(v:MT)(pt:Int):bL:={y with done:=true,branch:=br,kind:=v.kind,num:=v.num,lA:=v.addr,lN:=v.parts.length,lC:=v.cap,partner:=pt}
def gN(x:WS)(k br:Int)(v:MT)(pt:Int)(er:Int)(x':WS):Prop:=
 (¬(0<=k/\k<(x.sys.length:Int))/\er=4/\x'=x)\/∃(n:Nat) (hn:n<x.sys.length),k=(n:Int)/\
  ((¬((0<=br/\br<(x.sys[n].gm:Int))/\v.plain.Ok/\(-1<=pt/\pt<(x.sys.length:Int)))/\er=2/\x'=x)\/
  (((0<=br/\br<(x.sys[n].gm:Int))/\v.plain.Ok/\(-1<=pt/\pt<(x.sys.length:Int)))/\((x.sys[n].done=true/\er=160/\x'=x)\/
   (x.sys[n].done=false/\er=0/\∃v':MT,v'.plain=v.plain/\x'=(x.knows (fun W=>∀t∈[v'],t.In W)).eP n (x.sys[n].qN br v' pt)))))
def iq(x:WS)(k br:Int)(v:MT)(pt:Int)(b5 b6 b7 b8 b9:Nat):List ai:=[wB x b5,kB b6 k,kB b7 br,box b8 45 #[.int .i64 v.kind,.int .i64 v.num,.slice v.addr v.parts.length v.cap],kB b9 pt]
theorem BD.iq{T:List Nat}{w0 w:World}{x:WS}{m:List ai}{k br:Int}{v:MT}{pt:Int}{b5 b6 b7 b8 b9:Nat}{r:List ai}(h:BD T w0 w (m++(iq x k br v pt b5 b6 b7 b8 b9++r))):
  (w.cell? ⟨b5,0,none⟩=some (.pointer (some ⟨x.wb,0,none⟩))/\w.cell? ⟨b6,0,none⟩=some (.int .i64 k)/\w.cell? ⟨b7,0,none⟩=some (.int .i64 br)/\w.cell? ⟨b8,0,none⟩=some (.int .i64 v.kind)/\w.cell? ⟨b8,1,none⟩=some (.int .i64 v.num)/\w.cell? ⟨b8,2,none⟩=some (.slice v.addr v.parts.length v.cap)/\w.cell? ⟨b9,0,none⟩=some (.int .i64 pt))/\b5<w.heap.size/\b6<w.heap.size/\b7<w.heap.size/\b8<w.heap.size/\b9<w.heap.size:=by
 have h5:=h.box m.length (b:=b5) (t:=25) (cs:=#[.pointer (some ⟨x.wb,0,none⟩)]) (by simp[Proofs.YtddnnapoaonmjaaGreatDoor.iq,wB]);have h6:=h.box (m.length+1) (b:=b6) (t:=3) (cs:=#[.int .i64 k]) (by simp[Proofs.YtddnnapoaonmjaaGreatDoor.iq,kB]);have h7:=h.box (m.length+2) (b:=b7) (t:=3) (cs:=#[.int .i64 br]) (by simp[Proofs.YtddnnapoaonmjaaGreatDoor.iq,kB]);have h8:=h.box (m.length+3) (b:=b8) (t:=45) (cs:=#[.int .i64 v.kind,.int .i64 v.num,.slice v.addr v.parts.length v.cap]) (by simp[Proofs.YtddnnapoaonmjaaGreatDoor.iq]);have h9:=h.box (m.length+4) (b:=b9) (t:=3) (cs:=#[.int .i64 pt]) (by simp[Proofs.YtddnnapoaonmjaaGreatDoor.iq,kB]);exact⟨⟨h5.cell 0,h6.cell 0,h7.cell 0,h8.cell 0,h8.cell 1,h8.cell 2,h9.cell 0⟩,h5.lt,h6.lt,h7.lt,h8.lt,h9.lt⟩
theorem BD.comNe{T:List Nat}{w0 w:World}{x:WS}{k br:Int}{v:MT}{pt:Int}{b5 b6 b7 b8 b9 g:Nat}(h:BD T w0 w (x.ts++Proofs.YtddnnapoaonmjaaGreatDoor.iq x k br v pt b5 b6 b7 b8 b9))(hg:x.a3=some ⟨g,0,none⟩):b5≠g/\b7≠g/\b8≠g/\b9≠g:=by
 have hr:(x.ts++Proofs.YtddnnapoaonmjaaGreatDoor.iq x k br v pt b5 b6 b7 b8 b9)[5]? =some (aS 61 11 (.slice (some ⟨g,0,none⟩) x.sys.length x.c3) x.sys.length (aU x.sys)):=by rw[<-hg];rfl
 have hl:6<=x.ts.length:=by simp[WS.ts,WS.head]
 have h5:=h.ol 5 (x.ts.length) (b:=b5) (t:=25) (cs:=#[.pointer (some ⟨x.wb,0,none⟩)]) hr (by simp[Proofs.YtddnnapoaonmjaaGreatDoor.iq,wB]) (by omega);have h7:=h.ol 5 (x.ts.length+2) (b:=b7) (t:=3) (cs:=#[.int .i64 br]) hr (by simp[Proofs.YtddnnapoaonmjaaGreatDoor.iq,kB]) (by omega);have h8:=h.ol 5 (x.ts.length+3) (b:=b8) (t:=45) (cs:=#[.int .i64 v.kind,.int .i64 v.num,.slice v.addr v.parts.length v.cap]) hr (by simp[Proofs.YtddnnapoaonmjaaGreatDoor.iq]) (by omega);have h9:=h.ol 5 (x.ts.length+4) (b:=b9) (t:=3) (cs:=#[.int .i64 pt]) hr (by simp[Proofs.YtddnnapoaonmjaaGreatDoor.iq,kB]) (by omega);exact⟨Ne.symm h5,Ne.symm h7,Ne.symm h8,Ne.symm h9⟩
theorem BD.fV{T:List Nat}{w0 w:World}{x:WS}{r0:List ai}(h:BD T w0 w (x.ts++r0))(n:Nat)(hn:n<x.sys.length)(g:Nat)(hg:x.a3=some ⟨g,0,none⟩)(j:Nat)(hj:j<11)(u:Value)(y v':bL)(hy:x.sys[n]=y)(hv:y.cells.set j u=v'.cells):
  BD T w0 (w.setCell ⟨g,n*11+j,none⟩ u) ((x.eP n v').ts++r0):=h.wK n hn g hg j hj u v' (by rw[hy];exact hv)
theorem WS.dD(x:WS)(n:Nat)(a b:bL):(x.eP n a).eP n b=x.eP n b:=by simp[WS.eP]
theorem WS.eX(x:WS)(n:Nat)(hn:n<x.sys.length)(a:bL):(x.eP n a).sys[n]'(by simpa[WS.eP]using hn)=a:=by simp[WS.eP]
theorem BD.M8{T:List Nat}{w0 w:World}{x:WS}{r0:List ai}(h:BD T w0 w (x.ts++r0))(n:Nat)(hn:n<x.sys.length)(g:Nat)(hg:x.a3=some ⟨g,0,none⟩)(y:bL)(hy:x.sys[n]=y)(br:Int)(v:MT)(pt:Int):
  BD T w0 ((((((w.setCell ⟨g,n*11+5,none⟩ (.bool true)).setCell ⟨g,n*11+6,none⟩ (.int .i64 br)).setCell ⟨g,n*11+7,none⟩ (.int .i64 v.kind)).setCell ⟨g,n*11+8,none⟩ (.int .i64 v.num)).setCell ⟨g,n*11+9,none⟩ (.slice v.addr v.parts.length v.cap)).setCell ⟨g,n*11+10,none⟩ (.int .i64 pt)) ((x.eP n (y.qN br v pt)).ts++r0):=by
 have hl:∀a,n<(x.eP n a).sys.length:=fun a=>by simpa[WS.eP]using hn
 have h1:=h.fV n hn g hg 5 (by omega) (.bool true) y {y with done:=true} hy rfl;have h2:=h1.fV n (hl _) g hg 6 (by omega) (.int .i64 br) _ {y with done:=true,branch:=br} (x.eX n hn _) rfl;rw[WS.dD]at h2;have h3:=h2.fV n (hl _) g hg 7 (by omega) (.int .i64 v.kind) _ {y with done:=true,branch:=br,kind:=v.kind} (x.eX n hn _) rfl;rw[WS.dD]at h3;have h4:=h3.fV n (hl _) g hg 8 (by omega) (.int .i64 v.num) _ {y with done:=true,branch:=br,kind:=v.kind,num:=v.num} (x.eX n hn _) rfl;rw[WS.dD]at h4;have h5:=h4.fV n (hl _) g hg 9 (by omega) (.slice v.addr v.parts.length v.cap) _ {y with done:=true,branch:=br,kind:=v.kind,num:=v.num,lA:=v.addr,lN:=v.parts.length,lC:=v.cap} (x.eX n hn _) rfl;rw[WS.dD]at h5;have h6:=h5.fV n (hl _) g hg 10 (by omega) (.int .i64 pt) _ (y.qN br v pt) (x.eX n hn _) rfl;rw[WS.dD]at h6;exact h6
def wY(T:List Nat)(w:World)(x:WS)(k br:Int)(v:MT)(pt:Int)(b5 b6 b7 b8 b9:Nat)(en:Ending)(w':World):Prop:=∃er l' x',gN x k br v pt er x'/\l'=x'.ts++iq x k br v pt b5 b6 b7 b8 b9/\l5 T w er l' en w'
theorem Bo(T:List Nat)(w:World)(x:WS)(k br:Int)(v:MT)(pt:Int)(b5 b6 b7 b8 b9:Nat)(h:BD T w w (x.ts++iq x k br v pt b5 b6 b7 b8 b9))(hv:∀W,x.P W->v.In W)(hlen:x.sys.length<=1000000):
  Calls Tryz.prog 131 #[.pointer (some ⟨b5,0,none⟩),.pointer (some ⟨b6,0,none⟩),.pointer (some ⟨b7,0,none⟩),.pointer (some ⟨b8,0,none⟩),.pointer (some ⟨b9,0,none⟩)] w (wY T w x k br v pt b5 b6 b7 b8 b9):=by
 have BG:=hdq h;have HV:=hdq hv;clear h hv;obtain⟨⟨p5,p6,p7,p8,q8,r8,p9⟩,z5,z6,z7,z8,z9⟩:=BD.iq (r:=[]) (by simpa only[List.append_nil]using BG.out);by_cases hk:0<=k/\k<(x.sys.length:Int)
 .obtain⟨n,rfl⟩:=Int.eq_ofNat_of_zero_le hk.1
  have hnk:n<x.sys.length:=by omega
  clear hk;obtain⟨g3,hg3,hx⟩:=BG.out.dU n hnk;clear hx;have HC:=hdq (BG.out.nC n hnk g3 hg3);have HG:=hdq hg3;clear hg3;obtain⟨ba,hba⟩:∃u,x.sys[n].jr=u:=⟨_,rfl⟩;obtain⟨bn,hbn⟩:∃u,x.sys[n].gm=u:=⟨_,rfl⟩;obtain⟨bc,hbc⟩:∃u,x.sys[n].jv=u:=⟨_,rfl⟩;obtain⟨dn,hdn⟩:∃u,x.sys[n].done=u:=⟨_,rfl⟩;have HB:=hdq hba;have HBN:=hdq hbn;have HBC:=hdq hbc;have HD:=hdq hdn;clear hba hbn hbc hdn;have HE2:Hid (¬((0<=br/\br<(bn:Int))/\v.plain.Ok/\(-1<=pt/\pt<(x.sys.length:Int)))->gN x (n:Int) br v pt 2 x):=fun hno=> .inr ⟨n,hnk,rfl,.inl ⟨by rw[HBN.out];exact hno,rfl,rfl⟩⟩;have OI:Hid (((0<=br/\br<(bn:Int))/\v.plain.Ok/\(-1<=pt/\pt<(x.sys.length:Int)))->dn=true->gN x (n:Int) br v pt 160 x):=fun hy hd=> .inr ⟨n,hnk,rfl,.inr ⟨by rw[HBN.out];exact hy,.inl ⟨HD.out.trans hd,rfl,rfl⟩⟩⟩;have HE0:Hid (((0<=br/\br<(bn:Int))/\v.plain.Ok/\(-1<=pt/\pt<(x.sys.length:Int)))->dn=false->∀v':MT,v'.plain=v.plain->gN x (n:Int) br v pt 0 ((x.knows (fun W=>∀t∈[v'],t.In W)).eP n (x.sys[n].qN br v' pt))):=fun hy hd v' hv'=> .inr ⟨n,hnk,rfl,.inr ⟨by rw[HBN.out];exact hy,.inr ⟨HD.out.trans hd,rfl,v',hv',rfl⟩⟩⟩;go_enter Tryz.func131,Tryz.ntmps131
  go_wp2_with fail
  refine HC.out.mono ?_;rintro e w1 ⟨rfl,ht⟩;have BB:=hdq (BG.out.touch ht);clear ht HC BG;clear p5 p6 p7 p8 q8 r8 p9 z5 z6 z7 z8 z9;obtain⟨⟨p5,p6,p7,p8,q8,r8,p9⟩,z5,z6,z7,z8,z9⟩:=BD.iq (r:=[]) (by simpa only[List.append_nil]using BB.out);have f1:w1.cell? ⟨g3,n*11+1,none⟩=some (.slice ba bn bc):=HB.out▸HBN.out▸HBC.out▸BB.out.jA n hnk g3 HG.out 1 (by omega);have zg:g3<w1.heap.size:=World.block_lt_of_cell? _ _ f1;by_cases hc1:0<=br
  .by_cases hc2:br<(bn:Int)
   .skip
    go_wp2_with fail
    go_quiet ((go_at_call 80;exact nW (require_ok _ _)))
    refine ax (Q:=Exit.then _ _) ?_;intro w2 hw2;have HL2:=hdq ((BB.out.drewN _).toW hw2);have D6:Hid (0<=br/\br<(bn:Int)):=⟨hc1,hc2⟩;clear hw2 BB f1 zg;clear p5 p6 p7 p8 q8 r8 p9 z5 z6 z7 z8 z9;obtain⟨⟨p5,p6,p7,p8,q8,r8,p9⟩,z5,z6,z7,z8,z9⟩:=BD.iq (r:=[]) (by simpa only[List.append_nil]using HL2.out);go_wp2_with fail
    refine(jH v w2 (HV.out _ (HL2.out.still 2 rfl))).mono ?_;rintro e w3 ⟨⟨z,rfl,hz,hiff⟩,ht⟩;have BF:=hdq (HL2.out.touch ht);clear ht HL2;clear p5 p6 p7 p8 q8 r8 p9 z5 z6 z7 z8 z9;obtain⟨⟨p5,p6,p7,p8,q8,r8,p9⟩,z5,z6,z7,z8,z9⟩:=BD.iq (r:=[]) (by simpa only[List.append_nil]using BF.out);by_cases hvo:v.plain.Ok
    .obtain rfl:=hiff.2 hvo
     have HVO:=hdq hvo;clear hvo hz hiff hc1 hc2;go_wp2_with fail
     refine(require_ok _ _).mono ?_;rintro e wq ⟨rfl,rfl⟩;dsimp only;obtain⟨w0',w1',w2',w3'⟩:=BF.out.Cb;have zw:=BF.out.Cb.lt;clear w0' w1' w2';by_cases hc1:(-1:Int)<=pt
     .by_cases hc2:pt<(x.sys.length:Int)
      .skip
       go_wp2_with fail
       go_quiet ((go_at_call 80;exact nW (require_ok _ _)))
       refine ax (Q:=Exit.then _ _) ?_;intro w4 hw4;have BH:=hdq ((BF.out.drewN _).toW hw4);have EC:Hid ((0<=br/\br<(bn:Int))/\v.plain.Ok/\(-1<=pt/\pt<(x.sys.length:Int))):=⟨⟨D6.out.1,D6.out.2⟩,HVO.out,⟨hc1,hc2⟩⟩;clear hw4 BF HE2 hc1 hc2;clear p5 p6 p7 p8 q8 r8 p9 z5 z6 z7 z8 z9;obtain⟨⟨p5,p6,p7,p8,q8,r8,p9⟩,z5,z6,z7,z8,z9⟩:=BD.iq (r:=[]) (by simpa only[List.append_nil]using BH.out);have f5:w4.cell? ⟨g3,n*11+5,none⟩=some (.bool dn):=HD.out▸BH.out.jA n hnk g3 HG.out 5 (by omega);have zg:g3<w4.heap.size:=World.block_lt_of_cell? _ _ f5;go_wp2_with fail
       cases dn with
       |true=>
        refine(aY _ _).mono ?_;rintro e wq ⟨rfl,rfl⟩;dsimp only;exact⟨rfl,160,_,x,OI.out EC.out rfl,rfl,⟨0,160,.inr ⟨rfl,rfl⟩,rfl⟩,BH.out⟩
       |false=>
        refine(require_ok _ _).mono ?_;rintro e wq ⟨rfl,rfl⟩;dsimp only;have LU:Hid (∀W,Touch [] w4 W->Calls Tryz.prog 133 #[v.val] W (yu v W)):=fun W hW=>qG v W (HV.out _ ((BH.out.touch hW).still 2 rfl)) (by rw[<-MT.cu];exact EC.out.2.1.1);have HE:=hdq (HE0.out EC.out rfl);have BZ:=hdq (Touch.refl [] w4).drew;obtain⟨n5,n7,n8,n9⟩:=BH.out.comNe HG.out;have m7:=Ne.symm n7;have m8:=Ne.symm n8;have m9:=Ne.symm n9;clear HE0 OI EC f5 HD;go_wp2_with fail
        refine hrq (S:=fun w'=>w'.cell? ⟨b7,0,none⟩=some (.int .i64 br)/\w'.cell? ⟨b8,0,none⟩=some (.int .i64 v.kind)/\w'.cell? ⟨b8,1,none⟩=some (.int .i64 v.num)/\w'.cell? ⟨b8,2,none⟩=some (.slice v.addr v.parts.length v.cap)/\w'.cell? ⟨b9,0,none⟩=some (.int .i64 pt)) fun hHeld=>?_;refine tkq 0 44 ?_;refine tkq 1 45 ?_;refine tkq 2 46 ?_;refine tkq 3 47 ?_;refine tkq 4 48 ?_;refine tkq 5 49 ?_;refine tkq 7 51 ?_;refine rdq 6 rfl fun K hK=>?_;go_simp;refine(LU.out _ BZ.out).mono ?_;rintro en w5 ⟨v',rfl,hp,hin,hnew,ht⟩;have Ca:=hdq (BH.out.drew.IB ht [v'] (by simpa using hin) (by simpa using hnew));have HE5:=hdq (HE.out v' hp);obtain⟨y,hy⟩:∃y,x.sys[n]=y:=⟨_,rfl⟩;have Db:=hdq (Ca.out.M8 (x:=x.knows _) n hnk g3 HG.out y hy br v' pt);rw[hy]at HE5;clear hp hin hnew ht HE LU BZ HB HBN HBC hHeld;clear p5 p6 p7 p8 q8 r8 p9 z5 z6 z7 z8 z9;obtain⟨⟨p5,p6,p7,p8,q8,r8,p9⟩,z5,z6,z7,z8,z9⟩:=BD.iq (r:=[]) (by simpa only[List.append_nil]using Ca.out);have f5:w5.cell? ⟨g3,n*11+5,none⟩=some (.bool y.done):=hy▸Ca.out.jA (x:=x.knows _) n hnk g3 HG.out 5 (by omega);have zf5:=Ca.out.om (x:=x.knows _) g3 HG.out (n*11+5);have f6:w5.cell? ⟨g3,n*11+6,none⟩=some (.int .i64 y.branch):=hy▸Ca.out.jA (x:=x.knows _) n hnk g3 HG.out 6 (by omega);have zf6:=Ca.out.om (x:=x.knows _) g3 HG.out (n*11+6);have f7:w5.cell? ⟨g3,n*11+7,none⟩=some (.int .i64 y.kind):=hy▸Ca.out.jA (x:=x.knows _) n hnk g3 HG.out 7 (by omega);have zf7:=Ca.out.om (x:=x.knows _) g3 HG.out (n*11+7);have f8:w5.cell? ⟨g3,n*11+8,none⟩=some (.int .i64 y.num):=hy▸Ca.out.jA (x:=x.knows _) n hnk g3 HG.out 8 (by omega);have zf8:=Ca.out.om (x:=x.knows _) g3 HG.out (n*11+8);have f9:w5.cell? ⟨g3,n*11+9,none⟩=some (.slice y.lA y.lN y.lC):=hy▸Ca.out.jA (x:=x.knows _) n hnk g3 HG.out 9 (by omega);have zf9:=Ca.out.om (x:=x.knows _) g3 HG.out (n*11+9);have f10:w5.cell? ⟨g3,n*11+10,none⟩=some (.int .i64 y.partner):=hy▸Ca.out.jA (x:=x.knows _) n hnk g3 HG.out 10 (by omega);have zf10:=Ca.out.om (x:=x.knows _) g3 HG.out (n*11+10);have zg:g3<w5.heap.size:=World.block_lt_of_cell? _ _ f5;clear BH;simp only[MT.val,MT.sl];go_simp;refine kpq hK.out fun hHeld=>?_;clear hK K;refine tkq 8 52 ?_;refine tkq 9 53 ?_;have hl1:∀a,n<((x.knows (fun W=>∀t∈[v'],t.In W)).eP n a).sys.length:=fun a=>by simpa[WS.eP,WS.knows]using hnk
        have HS5:=hdq (Ca.out.fV (x:=x.knows _) n hnk g3 HG.out 5 (by omega) (.bool true) y {y with done:=true} hy rfl);have HS6:=hdq (HS5.out.fV n (hl1 _) g3 HG.out 6 (by omega) (.int .i64 br) _ {y with done:=true,branch:=br} (WS.eX (x.knows _) n hnk _) rfl);rw[WS.dD]at HS6;have HS7:=hdq (HS6.out.fV n (hl1 _) g3 HG.out 7 (by omega) (.int .i64 v'.kind) _ {y with done:=true,branch:=br,kind:=v'.kind} (WS.eX (x.knows _) n hnk _) rfl);rw[WS.dD]at HS7;have HS8:=hdq (HS7.out.fV n (hl1 _) g3 HG.out 8 (by omega) (.int .i64 v'.num) _ {y with done:=true,branch:=br,kind:=v'.kind,num:=v'.num} (WS.eX (x.knows _) n hnk _) rfl);rw[WS.dD]at HS8;have HS9:=hdq (HS8.out.fV n (hl1 _) g3 HG.out 9 (by omega) (.slice v'.addr v'.parts.length v'.cap) _ {y with done:=true,branch:=br,kind:=v'.kind,num:=v'.num,lA:=v'.addr,lN:=v'.parts.length,lC:=v'.cap} (WS.eX (x.knows _) n hnk _) rfl);rw[WS.dD]at HS9;have Ns:=hdq (HS9.out.fV n (hl1 _) g3 HG.out 10 (by omega) (.int .i64 pt) _ (y.qN br v' pt) (WS.eX (x.knows _) n hnk _) rfl);rw[WS.dD]at Ns;clear Db;obtain⟨⟨_,_,s7,t7,u7,v7,s9⟩,_⟩:=BD.iq (r:=[]) (by simpa only[List.append_nil]using HS5.out);refine rdq 10 rfl fun K hK=>?_;go_simp;refine hK.out _ _ ⟨s7,t7,u7,v7,s9⟩ (fun hHeld=>?_);clear hK K s7 t7 u7 v7 s9;(try simp only[Act.put,sAq,sZq,sSq])
        refine tkq 11 54 ?_;refine tkq 12 55 ?_;obtain⟨⟨_,_,s7,t7,u7,v7,s9⟩,_⟩:=BD.iq (r:=[]) (by simpa only[List.append_nil]using HS6.out);refine rdq 13 rfl fun K hK=>?_;go_simp;refine hK.out _ _ ⟨s7,t7,u7,v7,s9⟩ (fun hHeld=>?_);clear hK K s7 t7 u7 v7 s9;(try simp only[Act.put,sAq,sZq,sSq])
        refine tkq 14 56 ?_;refine tkq 15 57 ?_;obtain⟨⟨_,_,s7,t7,u7,v7,s9⟩,_⟩:=BD.iq (r:=[]) (by simpa only[List.append_nil]using HS9.out);refine rdq 16 rfl fun K hK=>?_;go_simp;refine hK.out _ _ ⟨s7,t7,u7,v7,s9⟩ (fun hHeld=>?_);clear hK K s7 t7 u7 v7 s9;(try simp only[Act.put,sAq,sZq,sSq])
        refine tkq 17 58 ?_;refine tkq 18 59 ?_;obtain⟨⟨_,_,s7,t7,u7,v7,s9⟩,_⟩:=BD.iq (r:=[]) (by simpa only[List.append_nil]using Ns.out);refine rdq 19 rfl fun K hK=>?_;go_simp;refine hK.out _ _ ⟨s7,t7,u7,v7,s9⟩ (fun hHeld=>?_);clear hK K s7 t7 u7 v7 s9;(try simp only[Act.put,sAq,sZq,sSq])
        refine dxq Ns fun w7 C8=>?_;clear HS5 HS6 HS7 HS8 HS9 Ns Ca f5 f6 f7 f8 f9 f10 zf5 zf6 zf7 zf8 zf9 zf10 zg hHeld p5 p6 p7 p8 q8 r8 p9;go_wp2;go_ret
        exact⟨0,_,_,HE5.out,rfl,⟨0,0,.inl ⟨rfl,rfl⟩,rfl⟩,C8.out⟩
      .have hd2:decide (pt<(x.sys.length:Int))=false:=decide_eq_false hc2
       go_wp2_with fail
       refine hrq (S:=fun w'=>w'.cell? ⟨b9,0,none⟩=some (.int .i64 pt)/\w'.cell? ⟨b5,0,none⟩=some (.pointer (some ⟨x.wb,0,none⟩))/\w'.cell? ⟨x.wb,3,none⟩=some (.slice x.a3 x.sys.length x.c3)) fun hHeld=>?_;refine tkq 0 26 ?_;refine tkq 1 27 ?_;refine tkq 2 28 ?_;refine tkq 3 29 ?_;refine tkq 4 30 ?_;refine tkq 5 31 ?_;refine tkq 6 32 ?_;refine tkq 7 33 ?_;refine tkq 8 34 ?_;refine tkq 9 35 ?_;refine tkq 10 36 ?_;refine rdq 11 rfl fun K hK=>?_;go_simp;(try rw[hd2])
       refine(aY _ _).mono ?_;rintro en wq ⟨rfl,rfl⟩;dsimp only;exact⟨rfl,2,_,x,HE2.out (fun h=>(fun h=>absurd h.2 (by omega)) h.2.2),rfl,⟨0,2,.inr ⟨rfl,rfl⟩,rfl⟩,BF.out.drew⟩
     .have hd1:decide ((-1:Int)<=pt)=false:=decide_eq_false hc1
      go_wp2_with fail
      refine hrq (S:=fun w'=>w'.cell? ⟨b9,0,none⟩=some (.int .i64 pt)/\w'.cell? ⟨b5,0,none⟩=some (.pointer (some ⟨x.wb,0,none⟩))/\w'.cell? ⟨x.wb,3,none⟩=some (.slice x.a3 x.sys.length x.c3)) fun hHeld=>?_;refine tkq 0 26 ?_;refine tkq 1 27 ?_;refine tkq 2 28 ?_;refine skq 3 29 ?_;refine skq 4 30 ?_;refine skq 5 31 ?_;refine skq 6 32 ?_;refine skq 7 33 ?_;refine skq 8 34 ?_;refine skq 9 35 ?_;refine tkq 10 36 ?_;refine rdq 11 rfl fun K hK=>?_;go_simp;(try rw[hd1])
      refine(aY _ _).mono ?_;rintro en wq ⟨rfl,rfl⟩;dsimp only;exact⟨rfl,2,_,x,HE2.out (fun h=>(fun h=>absurd h.1 (by omega)) h.2.2),rfl,⟨0,2,.inr ⟨rfl,rfl⟩,rfl⟩,BF.out.drew⟩
    .obtain rfl:z=40:=hz.resolve_left (fun h=>hvo (hiff.1 h))
     go_wp2_with fail
     refine(aY _ _).mono ?_;rintro e wq ⟨rfl,rfl⟩;dsimp only;exact⟨rfl,2,_,x,HE2.out (fun h=>hvo h.2.1),rfl,⟨0,2,.inr ⟨rfl,rfl⟩,rfl⟩,BF.out⟩
   .have hd2:decide (br<(bn:Int))=false:=decide_eq_false hc2
    go_wp2_with fail
    refine hrq (S:=fun w'=>w'.cell? ⟨b7,0,none⟩=some (.int .i64 br)/\w'.cell? ⟨g3,n*11+1,none⟩=some (.slice ba bn bc)) fun hHeld=>?_;refine tkq 0 10 ?_;refine tkq 1 11 ?_;refine tkq 2 12 ?_;refine tkq 3 13 ?_;refine tkq 4 14 ?_;refine tkq 5 15 ?_;refine tkq 6 16 ?_;refine tkq 7 17 ?_;refine tkq 8 18 ?_;refine tkq 9 19 ?_;refine tkq 10 20 ?_;refine rdq 11 rfl fun K hK=>?_;go_simp;(try rw[hd2])
    refine(aY _ _).mono ?_;rintro en wq ⟨rfl,rfl⟩;dsimp only;exact⟨rfl,2,_,x,HE2.out (fun h=>(fun h=>absurd h.2 (by omega)) h.1),rfl,⟨0,2,.inr ⟨rfl,rfl⟩,rfl⟩,BB.out.drew⟩
  .have hd1:decide (0<=br)=false:=decide_eq_false hc1
   go_wp2_with fail
   refine hrq (S:=fun w'=>w'.cell? ⟨b7,0,none⟩=some (.int .i64 br)/\w'.cell? ⟨g3,n*11+1,none⟩=some (.slice ba bn bc)) fun hHeld=>?_;refine tkq 0 10 ?_;refine tkq 1 11 ?_;refine tkq 2 12 ?_;refine skq 3 13 ?_;refine skq 4 14 ?_;refine skq 5 15 ?_;refine skq 6 16 ?_;refine skq 7 17 ?_;refine skq 8 18 ?_;refine skq 9 19 ?_;refine tkq 10 20 ?_;refine rdq 11 rfl fun K hK=>?_;go_simp;(try rw[hd1])
   refine(aY _ _).mono ?_;rintro en wq ⟨rfl,rfl⟩;dsimp only;exact⟨rfl,2,_,x,HE2.out (fun h=>(fun h=>absurd h.1 (by omega)) h.1),rfl,⟨0,2,.inr ⟨rfl,rfl⟩,rfl⟩,BB.out.drew⟩
 .have HE:Hid (gN x k br v pt 4 x):= .inl ⟨hk,rfl,rfl⟩
  have E9:=hdq (BG.out.fE k hk);clear hk;go_enter Tryz.func131,Tryz.ntmps131
  go_wp2_with fail
  refine E9.out.mono ?_;rintro e w1 ⟨rfl,ht⟩;dsimp only;exact⟨rfl,4,_,x,HE.out,rfl,⟨0,4,.inr ⟨rfl,rfl⟩,rfl⟩,BG.out.touch ht⟩
theorem qz(T:List Nat)(w:World)(x:WS)(k br:Int)(v:MT)(pt:Int)(h:BD T w w x.ts)(hv:∀W,x.P W->v.In W)(hlen:x.sys.length<=1000000):
  Calls Tryz.prog 40 #[.pointer (some ⟨x.wb,0,none⟩),.int .i64 k,.int .i64 br,v.val,.int .i64 pt] w fun en w'=>∃er x',en= .returned (.int .i64 er)/\gN x k br v pt er x'/\BD T w w' x'.ts:=by
 have Ep:= @mfq;have BG:=hdq h;clear h;simp only[MT.val,MT.sl];go_enter Tryz.func40,Tryz.ntmps40
 go_wp2_with fail
 refine ah ?_;intro w1 hw1;have BB:=hdq ((((((BG.out.alloc 25 #[.pointer (some ⟨x.wb,0,none⟩)]).alloc 3 #[.int .i64 k]).alloc 3 #[.int .i64 br]).alloc 45 #[.int .i64 v.kind,.int .i64 v.num,.slice v.addr v.parts.length v.cap]).alloc 3 #[.int .i64 pt]).toW hw1);simp only[World.size_alloc,List.append_assoc,cAq,nAq]at BB;generalize FK:w.heap.size+1+1+1+1=b9 at BB|-;generalize Kj:w.heap.size+1+1+1=b8 at BB|-;generalize EF:w.heap.size+1+1=b7 at BB|-;generalize hb6:w.heap.size+1=b6 at BB|-;generalize hb5:w.heap.size=b5 at BB|-;clear hw1 FK Kj EF hb6 hb5 BG;refine(yJ T w w1 _ _ _ (fun er l'=>∃x',gN x k br v pt er x'/\l'=x'.ts++iq x k br v pt b5 b6 b7 b8 b9) BB.out (enters_of Tryz.func131 (by kernel_rfl) rfl) (fun T' W hW=>?_)).mono ?_
 .refine(Bo T' W x k br v pt b5 b6 b7 b8 b9 hW hv hlen).mono ?_
  rintro en w' ⟨er,l',x',hx,rfl,ht⟩;exact⟨er,_,⟨x',hx,rfl⟩,ht⟩
 rintro en w' ⟨er,l',rfl,⟨x',hx,rfl⟩,hL⟩;have HL2:=hdq hL.aF;have HX:=hdq hx;clear hL BB hx;dsimp only;go_wp2;go_ret
 exact⟨er,x',rfl,HX.out,HL2.out⟩
def dP.of(k:Int)(m:MS)(br:Int)(v:MT):dP:=⟨k,m.thread,br,m.flag,v.kind,v.num,v.addr,v.parts.length,v.cap⟩
def jo(x:WS)(ms:List MS)(k br:Int)(v:dP)(er:Int)(x':WS):Prop:=
 (¬(0<=k/\k<(ms.length:Int))/\er=4/\v=dP.zero/\x'=x)\/∃(n:Nat) (hn:n<ms.length),k=(n:Int)/\
  ((¬(0<=br/\br<(ms[n].bases.length:Int))/\er=2/\v=dP.zero/\x'=x)\/
   ∃(j:Nat) (hj:j<ms[n].bases.length) (v':MT),br=(j:Int)/\er=0/\v'.plain=ms[n].bases[j].v.plain/\v=dP.of k ms[n] br v'/\x'=x.knows (fun W=>v'.In W/\v'.nodes<=256))
def eZ(x:WS)(k br:Int)(b2 b3 b4:Nat):List ai:=[wB x b2,kB b3 k,kB b4 br]
theorem BD.eZ{T:List Nat}{w0 w:World}{x:WS}{m:List ai}{k br:Int}{b2 b3 b4:Nat}{r:List ai}(h:BD T w0 w (m++(Proofs.YtddnnapoaonmjaaGreatDoor.eZ x k br b2 b3 b4++r))):
  (w.cell? ⟨b2,0,none⟩=some (.pointer (some ⟨x.wb,0,none⟩))/\w.cell? ⟨b3,0,none⟩=some (.int .i64 k)/\w.cell? ⟨b4,0,none⟩=some (.int .i64 br))/\b2<w.heap.size/\b3<w.heap.size/\b4<w.heap.size:=by
 have h5:=h.box m.length (b:=b2) (t:=25) (cs:=#[.pointer (some ⟨x.wb,0,none⟩)]) (by simp[Proofs.YtddnnapoaonmjaaGreatDoor.eZ,wB]);have h6:=h.box (m.length+1) (b:=b3) (t:=3) (cs:=#[.int .i64 k]) (by simp[Proofs.YtddnnapoaonmjaaGreatDoor.eZ,kB]);have h7:=h.box (m.length+2) (b:=b4) (t:=3) (cs:=#[.int .i64 br]) (by simp[Proofs.YtddnnapoaonmjaaGreatDoor.eZ,kB]);exact⟨⟨h5.cell 0,h6.cell 0,h7.cell 0⟩,h5.lt,h6.lt,h7.lt⟩
def AO(T:List Nat)(w:World)(x:WS)(ms:List MS)(k br:Int)(b2 b3 b4:Nat)(en:Ending)(w':World):Prop:=∃(v:dP) (er:Int) (x':WS),jo x ms k br v er x'/\((er=0/\en= .returned v.val)\/(v=dP.zero/\en= .panicked (aX er)))/\BD T w w' (x'.ts++eZ x k br b2 b3 b4)
def oG(b:Nat):ai:=box b 45 #[.int .i64 0,.int .i64 0,.slice none 0 0]
def rz(b:Nat)(v:MT):ai:=box b 45 #[.int .i64 v.kind,.int .i64 v.num,.slice v.addr v.parts.length v.cap]
theorem IG(T:List Nat)(w:World)(x:WS)(ms:List MS)(k br:Int)(b2 b3 b4:Nat)(h:BD T w w (x.ts++eZ x k br b2 b3 b4))(hms:x.sys=ms.map MS.raw)(hin:∀W,x.P W->∀m∈ms,m.In W):
  Calls Tryz.prog 136 #[.pointer (some ⟨b2,0,none⟩),.pointer (some ⟨b3,0,none⟩),.pointer (some ⟨b4,0,none⟩)] w (AO T w x ms k br b2 b3 b4):=by
 have BG:=hdq h;have HMS:=hdq hms;have Ed:=hdq hin;have hlen:x.sys.length=ms.length:=by rw[hms];simp
 clear h hms hin;obtain⟨⟨p5,p6,p7⟩,z5,z6,z7⟩:=BD.eZ (r:=[]) (by simpa only[List.append_nil]using BG.out);go_enter Tryz.func136,Tryz.ntmps136
 go_wp2_with fail
 refine ah ?_;intro w1 hw1;have BB:Hid (BD T w w1 (x.ts++(eZ x k br b2 b3 b4++[dJ w.heap.size]))):=by
  have h1:=BG.out.DN hw1;rw[List.append_assoc]at h1;exact h1
 generalize hb5:w.heap.size=b5 at BB|-;clear hw1 hb5 BG;clear p5 p6 p7 z5 z6 z7;by_cases hk:0<=k/\k<(x.sys.length:Int)
 .obtain⟨n,rfl⟩:=Int.eq_ofNat_of_zero_le hk.1
  have hnk:n<x.sys.length:=by omega
  have hnm:n<ms.length:=by omega
  clear hk;obtain⟨g3,hg3,hx⟩:=BB.out.dU n hnk;clear hx;have HC:=hdq (BB.out.nC n hnk g3 hg3);have HG:=hdq hg3;clear hg3;refine HC.out.mono ?_;rintro e w2 ⟨rfl,ht⟩;have HL2:=hdq (BB.out.touch ht);clear ht HC BB;obtain⟨⟨p5,p6,p7⟩,z5,z6,z7⟩:=BD.eZ HL2.out;obtain⟨m,hm⟩:∃m,ms[n]=m:=⟨_,rfl⟩;have HA:Hid (∀(y:WS) W r,y.sys=x.sys->y.a3=x.a3->BD T w W (y.ts++r)->∀q,q<11->W.cell? ⟨g3,n*11+q,none⟩=m.raw.cells[q]?):=fun y W r hy1 hy3 hL q hq=>hm▸hL.Kt (hy1.trans HMS.out) n hnm g3 (hy3.trans HG.out) q hq;have HI:Hid (∀W,x.P W->m.In W):=fun W hW=>hm▸Ed.out W hW _ (List.getElem_mem hnm);have HE2:Hid (¬(0<=br/\br<(m.bases.length:Int))->jo x ms (n:Int) br dP.zero 2 x):=fun hno=> .inr ⟨n,hnm,rfl,.inl ⟨hm▸hno,rfl,rfl,rfl⟩⟩;have HE0:Hid (∀(j:Nat) (hj:j<m.bases.length) (v':MT),br=(j:Int)->v'.plain=m.bases[j].v.plain->jo x ms (n:Int) br (dP.of (n:Int) m br v') 0 (x.knows (fun W=>v'.In W/\v'.nodes<=256))):=fun j hj v' hb hv=> .inr ⟨n,hnm,rfl,.inr ⟨j,hm▸hj,v',hb,rfl,by subst hm;exact hv,by subst hm;rfl,rfl⟩⟩;clear hm;have f1:w2.cell? ⟨g3,n*11+1,none⟩=some (.slice m.ba m.bases.length m.bc):=HA.out x w2 _ rfl rfl HL2.out 1 (by omega);have zg:g3<w2.heap.size:=World.block_lt_of_cell? _ _ f1;by_cases hc1:0<=br
  .by_cases hc2:br<(m.bases.length:Int)
   .skip
    go_wp2_with fail
    go_quiet ((go_at_call 80;exact nW (require_ok _ _)))
    refine ax (Q:=Exit.then _ _) ?_;intro w3 hw3;have BF:=hdq ((HL2.out.drewN _).toW hw3);obtain⟨j,rfl⟩:=Int.eq_ofNat_of_zero_le hc1;have hj:j<m.bases.length:=by omega
    clear hw3 HL2 f1 zg HE2;clear p5 p6 p7 z5 z6 z7;obtain⟨⟨p5,p6,p7⟩,z5,z6,z7⟩:=BD.eZ BF.out;have HB:Hid (∀W,x.P W->∃b o,m.ba=some ⟨b,o,none⟩/\b<W.heap.size/\∀q,q<7->W.cell? ⟨b,o+j*7+q,none⟩=m.bases[j].cells[q]?):=fun W hW=>aG.at (f:=MB.cells) (fun _=>rfl) (HI.out W hW).2.1.1 j hj;have HIU:Hid (∀W,x.P W->m.bases[j].v.In W/\m.bases[j].v.nodes<=256):=fun W hW=>((HI.out W hW).2.1.2 _ (List.getElem_mem hj)).1;have HE:=hdq (fun v'=>HE0.out j hj v' rfl);clear HE0;generalize m.bases[j]=u at HB HIU HE;obtain⟨bb,oo,hba,_,_⟩:=HB.out _ (BF.out.still 2 rfl);have FD:=hdq hba;have HB2:Hid (∀W,x.P W->bb<W.heap.size/\W.cell? ⟨bb,oo+j*7+2,none⟩=some (.int .i64 u.v.kind)/\W.cell? ⟨bb,oo+j*7+3,none⟩=some (.int .i64 u.v.num)/\W.cell? ⟨bb,oo+j*7+4,none⟩=some (.slice u.v.addr u.v.parts.length u.v.cap)):=fun W hW=>by
     obtain⟨b',o',hb',hlt,hc⟩:=HB.out W hW;rw[FD.out]at hb';injection hb' with hb'
     injection hb' with h1 h2
     subst h1 h2;exact⟨hlt,hc 2 (by omega),hc 3 (by omega),hc 4 (by omega)⟩
    have HS:Hid (∀(y:WS) W r,y.sys=x.sys->y.a3=x.a3->(∀W,y.P W->x.P W)->BD T w W (y.ts++(eZ x (n:Int) (j:Int) b2 b3 b4++r))->(fun w'=>w'.cell? ⟨b4,0,none⟩=some (.int .i64 (j:Int))/\w'.cell? ⟨g3,n*11+1,none⟩=some (.slice m.ba m.bases.length m.bc)/\w'.cell? ⟨bb,oo+j*7+2,none⟩=some (.int .i64 u.v.kind)/\w'.cell? ⟨bb,oo+j*7+3,none⟩=some (.int .i64 u.v.num)/\w'.cell? ⟨bb,oo+j*7+4,none⟩=some (.slice u.v.addr u.v.parts.length u.v.cap)) W):=fun y W r h1 h2 h3 hL=>⟨(BD.eZ hL).1.2.2,HA.out y W _ h1 h2 hL 1 (by omega),(HB2.out W (h3 W (hL.still 2 rfl))).2⟩;have LU:Hid (∀W,Touch [] w3 W->Calls Tryz.prog 133 #[u.v.val] W fun e w'=>∃t':MT,e= .returned t'.val/\t'.plain=u.v.plain/\BD [] W w' [aA fun W=>t'.In W/\t'.nodes<=256]):=fun W hW=>have hp:=HIU.out _ ((BF.out.touch hW).still 2 rfl);kr u.v W hp.1 hp.2;have f1:w3.cell? ⟨g3,n*11+1,none⟩=some (.slice m.ba m.bases.length m.bc):=HA.out x w3 _ rfl rfl BF.out 1 (by omega);obtain⟨zb,y2,y3,y4⟩:=HB2.out _ (BF.out.still 2 rfl);rw[hba]at f1;clear hba HB HIU;have BZ:=hdq (Touch.refl [] w3).drew;have hj0:(0:Int)<=(j:Int):=by omega
    have hj1:(j:Int)<(m.bases.length:Int):=by omega
    go_wp2_with fail
    rw[FD.out]at HS;refine wp_region_held_drew (S:=fun w'=>w'.cell? ⟨b4,0,none⟩=some (.int .i64 (j:Int))/\w'.cell? ⟨g3,n*11+1,none⟩=some (.slice (some ⟨bb,oo,none⟩) m.bases.length m.bc)/\w'.cell? ⟨bb,oo+j*7+2,none⟩=some (.int .i64 u.v.kind)/\w'.cell? ⟨bb,oo+j*7+3,none⟩=some (.int .i64 u.v.num)/\w'.cell? ⟨bb,oo+j*7+4,none⟩=some (.slice u.v.addr u.v.parts.length u.v.cap)) (by kernel_rfl) ?_ (fun hHeld=>?_)
    .exact HS.out x _ _ rfl rfl (fun _ h=>h) BF.out.drew
    refine tkq 0 21 ?_;refine tkq 1 22 ?_;refine tkq 2 23 ?_;refine tkq 3 24 ?_;refine tkq 4 25 ?_;refine tkq 5 26 ?_;refine tkq 6 27 ?_;refine tkq 7 28 ?_;refine wpAnyH_ready (rs:=[8,9]) (by kernel_rfl) (by simp) ?_;refine AllReadyH.cons rfl (fun K hK=>?_) (AllReadyH.cons rfl (fun K hK=>?_) AllReadyH.nil)
    .clear hHeld
     go_simp;refine(LU.out _ BZ.out).mono ?_;rintro en w4 ⟨v',rfl,hp,hL⟩;have BH:=hdq (BF.out.drew.uM hL);have HE4:=hdq (HE.out v' hp);clear hp hL HE LU BZ BF;clear p5 p6 p7 z5 z6 z7;clear f1 zb y2 y3 y4;simp only[MT.val,MT.sl];go_simp;refine hK.out _ _ (HS.out (x.knows (fun W=>v'.In W/\v'.nodes<=256)) w4 _ rfl rfl (fun W h=>h.1) BH.out) (fun hHeld=>?_);clear hK K;(try simp only[Act.put,sAq,sZq,sSq])
     have Ca:Hid (BD T w (w4.alloc (.cells #[.int .i64 0,.int .i64 0,.slice none 0 0] 45)) ((x.knows (fun W=>v'.In W/\v'.nodes<=256)).ts++(eZ x (n:Int) (j:Int) b2 b3 b4++[dJ b5,oG w4.heap.size]))):=by
      have h:=BH.out.alloc 45 #[.int .i64 0,.int .i64 0,.slice none 0 0];exact hdq (by simpa[oG]using h)
     refine rdq 9 rfl fun K hK=>?_;go_simp;refine hK.out _ _ (HS.out (x.knows (fun W=>v'.In W/\v'.nodes<=256)) _ _ rfl rfl (fun W h=>h.1) Ca.out) (fun hHeld=>?_);clear hK K BH;(try simp only[Act.put,sAq,sZq,sSq])
     generalize hb6:w4.heap.size=b6 at Ca|-;clear hb6;generalize w4.alloc (.cells #[.int .i64 0,.int .i64 0,.slice none 0 0] 45)=w5 at Ca hHeld|-;have Db:=hdq (BD.aB (a:=[]) (b:=(x.knows (fun W=>v'.In W/\v'.nodes<=256)).ts++eZ x (n:Int) (j:Int) b2 b3 b4) (c:=[dJ b5,oG b6]) (by simpa using Ca.out));simp only[nAq,cAq,dJ,oG]at Db;obtain⟨q0,q1,q2,G9,G6,G5,zq,_,_⟩:=Db.out.c3 1 rfl;have C8:=hdq (((Db.out.set 1 rfl 0 (.int .i64 v'.kind)).set 1 rfl 1 (.int .i64 v'.num)).set 1 rfl 2 (.slice v'.addr v'.parts.length v'.cap));simp only[sSq,sZq,sAq]at C8;have EX:Hid (BD T w (((w5.setCell ⟨b6,0,none⟩ (.int .i64 v'.kind)).setCell ⟨b6,1,none⟩ (.int .i64 v'.num)).setCell ⟨b6,2,none⟩ (.slice v'.addr v'.parts.length v'.cap)) ((x.knows (fun W=>v'.In W/\v'.nodes<=256)).ts++(eZ x (n:Int) (j:Int) b2 b3 b4++[dJ b5,rz b6 v']))):=by
      have h:=BD.aB (a:=[]) (b:=[_,_]) (c:=(x.knows (fun W=>v'.In W/\v'.nodes<=256)).ts++eZ x (n:Int) (j:Int) b2 b3 b4) C8.out;exact hdq (by simpa[dJ,rz]using h)
     clear Db C8;refine rdq 10 rfl fun K hK=>?_;go_simp;refine hK.out _ _ (HS.out (x.knows (fun W=>v'.In W/\v'.nodes<=256)) _ _ rfl rfl (fun W h=>h.1) EX.out) (fun hHeld=>?_);clear hK K;(try simp only[Act.put,sAq,sZq,sSq])
     refine dxq EX fun w7 HL9=>?_;clear EX Ca q0 q1 q2 G9 G6 G5 zq hHeld HS;have HS4:Hid (∀W (e5:ai),BD T w W ((x.knows (fun W=>v'.In W/\v'.nodes<=256)).ts++(eZ x (n:Int) (j:Int) b2 b3 b4++[e5,rz b6 v']))->(fun w'=>w'.cell? ⟨b3,0,none⟩=some (.int .i64 (n:Int))/\w'.cell? ⟨b4,0,none⟩=some (.int .i64 (j:Int))/\w'.cell? ⟨g3,n*11,none⟩=some (.int .i64 m.thread)/\w'.cell? ⟨g3,n*11+3,none⟩=some (.int .i64 m.flag)/\w'.cell? ⟨b6,0,none⟩=some (.int .i64 v'.kind)/\w'.cell? ⟨b6,1,none⟩=some (.int .i64 v'.num)/\w'.cell? ⟨b6,2,none⟩=some (.slice v'.addr v'.parts.length v'.cap)) W):=fun W e5 hL=>by
      have hb:=hL.box ((x.knows (fun W=>v'.In W/\v'.nodes<=256)).ts.length+4) (b:=b6) (t:=45) (cs:=#[.int .i64 v'.kind,.int .i64 v'.num,.slice v'.addr v'.parts.length v'.cap]) (by simp[eZ,rz]);obtain⟨⟨_,h3,h4⟩,_⟩:=BD.eZ hL;exact⟨h3,h4,HA.out (x.knows (fun W=>v'.In W/\v'.nodes<=256)) W _ rfl rfl hL 0 (by omega),HA.out (x.knows (fun W=>v'.In W/\v'.nodes<=256)) W _ rfl rfl hL 3 (by omega),hb.cell 0,hb.cell 1,hb.cell 2⟩
     have hbe:∀W,(Instr.build 47 #[(0,.int .i64 (n:Int)),(1,.int .i64 m.thread),(2,.int .i64 (j:Int)),(3,.int .i64 m.flag),(4,.agg #[.int .i64 v'.kind,.int .i64 v'.num,.slice v'.addr v'.parts.length v'.cap])]).run Tryz.prog W= .ok (.agg #[.int .i64 (n:Int),.int .i64 m.thread,.int .i64 (j:Int),.int .i64 m.flag,.int .i64 v'.kind,.int .i64 v'.num,.slice v'.addr v'.parts.length v'.cap]) W:=fun W=>run_build W 47 _ _ (by kernel_rfl);have hS0:=HS4.out _ _ HL9.out.drew;have Cf:=hdq (BD.aB (a:=[]) (b:=(x.knows (fun W=>v'.In W/\v'.nodes<=256)).ts++eZ x (n:Int) (j:Int) b2 b3 b4) (c:=[dJ b5,rz b6 v']) (by simpa using HL9.out));simp only[nAq,cAq,dJ]at Cf;obtain⟨q0,q1,q2,q3,q4,q5,q6,⟨G9,G6,G5,Ng,NG,L6,NH⟩,zq,_,_⟩:=Cf.out.c7 0 rfl;have FJ:=hdq (BD.drew (((((((Cf.out.set 0 rfl 0 (.int .i64 (n:Int))).set 0 rfl 1 (.int .i64 m.thread)).set 0 rfl 2 (.int .i64 (j:Int))).set 0 rfl 3 (.int .i64 m.flag)).set 0 rfl 4 (.int .i64 v'.kind)).set 0 rfl 5 (.int .i64 v'.num)).set 0 rfl 6 (.slice v'.addr v'.parts.length v'.cap)));simp only[sSq,sZq,sAq]at FJ;have DL:=hdq (BD.aB (a:=[]) (b:=[_,_]) (c:=(x.knows (fun W=>v'.In W/\v'.nodes<=256)).ts++eZ x (n:Int) (j:Int) b2 b3 b4) FJ.out);simp only[nAq,List.append_assoc]at DL;go_wp2_with fail
     refine wp_region_held_drew (S:=fun w'=>w'.cell? ⟨b3,0,none⟩=some (.int .i64 (n:Int))/\w'.cell? ⟨b4,0,none⟩=some (.int .i64 (j:Int))/\w'.cell? ⟨g3,n*11,none⟩=some (.int .i64 m.thread)/\w'.cell? ⟨g3,n*11+3,none⟩=some (.int .i64 m.flag)/\w'.cell? ⟨b6,0,none⟩=some (.int .i64 v'.kind)/\w'.cell? ⟨b6,1,none⟩=some (.int .i64 v'.num)/\w'.cell? ⟨b6,2,none⟩=some (.slice v'.addr v'.parts.length v'.cap)) (by kernel_rfl) ?_ (fun hHeld=>?_)
     .exact hS0
     refine tkq 0 30 ?_;refine tkq 1 31 ?_;refine tkq 2 32 ?_;refine tkq 3 33 ?_;refine tkq 4 34 ?_;refine tkq 5 35 ?_;refine tkq 6 36 ?_;refine tkq 7 37 ?_;refine tkq 8 38 ?_;refine tkq 9 39 ?_;refine tkq 10 40 ?_;refine tkq 11 41 ?_;refine rdq 12 rfl fun K hK=>?_;go_simp;refine hK.out _ _ (HS4.out _ _ DL.out) (fun hHeld=>?_);clear hK K;(try simp only[Act.put,sAq,sZq,sSq])
     refine dxq FJ fun w8 DI=>?_;clear HL9 Cf FJ DL q0 q1 q2 q3 q4 q5 q6 G9 G6 G5 Ng NG L6 NH zq hHeld hS0 HS4 hbe;obtain⟨q0,q1,q2,q3,q4,q5,q6,_,zq,_,_⟩:=DI.out.c7 0 rfl;go_wp2;refine bodyPost_ret (v:=(dP.of (n:Int) m (j:Int) v').val) (by simp[results,Tryz.results136,go_sem,q0,q1,q2,q3,q4,q5,q6,dP.val,dP.of]) rfl ?_;have h14:=BD.aB (a:=[]) (b:=[_,_]) (c:=(x.knows (fun W=>v'.In W/\v'.nodes<=256)).ts++eZ x (n:Int) (j:Int) b2 b3 b4) DI.out;exact⟨_,0,_,HE4.out,.inl ⟨rfl,rfl⟩,h14.aF⟩
    .clear hHeld
     have BH:Hid (BD T w (w3.drew.alloc (.cells #[.int .i64 0,.int .i64 0,.slice none 0 0] 45)) (x.ts++(eZ x (n:Int) (j:Int) b2 b3 b4++[dJ b5,oG w3.heap.size]))):=by
      have h:=BF.out.drew.alloc 45 #[.int .i64 0,.int .i64 0,.slice none 0 0];exact hdq (by simpa[oG]using h)
     have HT2:=hdq (BZ.out.alloc (.cells #[.int .i64 0,.int .i64 0,.slice none 0 0] 45));go_simp;refine hK.out _ _ (HS.out x _ _ rfl rfl (fun W h=>h) BH.out) (fun hHeld=>?_);clear hK K BF;(try simp only[Act.put,sAq,sZq,sSq])
     generalize hb6:w3.heap.size=b6 at BH|-;clear hb6;clear p5 p6 p7 z5 z6 z7;clear f1 zb y2 y3 y4;refine rdq 8 rfl fun K hK=>?_;go_simp;clear hHeld;refine(LU.out _ HT2.out).mono ?_;rintro en w5 ⟨v',rfl,hp,hL⟩;have Ca:=hdq (BH.out.uM hL);have HE4:=hdq (HE.out v' hp);clear hp hL HE LU BZ HT2 BH;simp only[MT.val,MT.sl];go_simp;refine hK.out _ _ (HS.out (x.knows (fun W=>v'.In W/\v'.nodes<=256)) w5 _ rfl rfl (fun W h=>h.1) Ca.out) (fun hHeld=>?_);clear hK K;(try simp only[Act.put,sAq,sZq,sSq])
     have Db:=hdq (BD.aB (a:=[]) (b:=(x.knows (fun W=>v'.In W/\v'.nodes<=256)).ts++eZ x (n:Int) (j:Int) b2 b3 b4) (c:=[dJ b5,oG b6]) (by simpa using Ca.out));simp only[nAq,cAq,dJ,oG]at Db;obtain⟨q0,q1,q2,G9,G6,G5,zq,_,_⟩:=Db.out.c3 1 rfl;have C8:=hdq (((Db.out.set 1 rfl 0 (.int .i64 v'.kind)).set 1 rfl 1 (.int .i64 v'.num)).set 1 rfl 2 (.slice v'.addr v'.parts.length v'.cap));simp only[sSq,sZq,sAq]at C8;have EX:Hid (BD T w (((w5.setCell ⟨b6,0,none⟩ (.int .i64 v'.kind)).setCell ⟨b6,1,none⟩ (.int .i64 v'.num)).setCell ⟨b6,2,none⟩ (.slice v'.addr v'.parts.length v'.cap)) ((x.knows (fun W=>v'.In W/\v'.nodes<=256)).ts++(eZ x (n:Int) (j:Int) b2 b3 b4++[dJ b5,rz b6 v']))):=by
      have h:=BD.aB (a:=[]) (b:=[_,_]) (c:=(x.knows (fun W=>v'.In W/\v'.nodes<=256)).ts++eZ x (n:Int) (j:Int) b2 b3 b4) C8.out;exact hdq (by simpa[dJ,rz]using h)
     clear Db C8;refine rdq 10 rfl fun K hK=>?_;go_simp;refine hK.out _ _ (HS.out (x.knows (fun W=>v'.In W/\v'.nodes<=256)) _ _ rfl rfl (fun W h=>h.1) EX.out) (fun hHeld=>?_);clear hK K;(try simp only[Act.put,sAq,sZq,sSq])
     refine dxq EX fun w7 HL9=>?_;clear EX Ca q0 q1 q2 G9 G6 G5 zq hHeld HS;have HS4:Hid (∀W (e5:ai),BD T w W ((x.knows (fun W=>v'.In W/\v'.nodes<=256)).ts++(eZ x (n:Int) (j:Int) b2 b3 b4++[e5,rz b6 v']))->(fun w'=>w'.cell? ⟨b3,0,none⟩=some (.int .i64 (n:Int))/\w'.cell? ⟨b4,0,none⟩=some (.int .i64 (j:Int))/\w'.cell? ⟨g3,n*11,none⟩=some (.int .i64 m.thread)/\w'.cell? ⟨g3,n*11+3,none⟩=some (.int .i64 m.flag)/\w'.cell? ⟨b6,0,none⟩=some (.int .i64 v'.kind)/\w'.cell? ⟨b6,1,none⟩=some (.int .i64 v'.num)/\w'.cell? ⟨b6,2,none⟩=some (.slice v'.addr v'.parts.length v'.cap)) W):=fun W e5 hL=>by
      have hb:=hL.box ((x.knows (fun W=>v'.In W/\v'.nodes<=256)).ts.length+4) (b:=b6) (t:=45) (cs:=#[.int .i64 v'.kind,.int .i64 v'.num,.slice v'.addr v'.parts.length v'.cap]) (by simp[eZ,rz]);obtain⟨⟨_,h3,h4⟩,_⟩:=BD.eZ hL;exact⟨h3,h4,HA.out (x.knows (fun W=>v'.In W/\v'.nodes<=256)) W _ rfl rfl hL 0 (by omega),HA.out (x.knows (fun W=>v'.In W/\v'.nodes<=256)) W _ rfl rfl hL 3 (by omega),hb.cell 0,hb.cell 1,hb.cell 2⟩
     have hbe:∀W,(Instr.build 47 #[(0,.int .i64 (n:Int)),(1,.int .i64 m.thread),(2,.int .i64 (j:Int)),(3,.int .i64 m.flag),(4,.agg #[.int .i64 v'.kind,.int .i64 v'.num,.slice v'.addr v'.parts.length v'.cap])]).run Tryz.prog W= .ok (.agg #[.int .i64 (n:Int),.int .i64 m.thread,.int .i64 (j:Int),.int .i64 m.flag,.int .i64 v'.kind,.int .i64 v'.num,.slice v'.addr v'.parts.length v'.cap]) W:=fun W=>run_build W 47 _ _ (by kernel_rfl);have hS0:=HS4.out _ _ HL9.out.drew;have Cf:=hdq (BD.aB (a:=[]) (b:=(x.knows (fun W=>v'.In W/\v'.nodes<=256)).ts++eZ x (n:Int) (j:Int) b2 b3 b4) (c:=[dJ b5,rz b6 v']) (by simpa using HL9.out));simp only[nAq,cAq,dJ]at Cf;obtain⟨q0,q1,q2,q3,q4,q5,q6,⟨G9,G6,G5,Ng,NG,L6,NH⟩,zq,_,_⟩:=Cf.out.c7 0 rfl;have FJ:=hdq (BD.drew (((((((Cf.out.set 0 rfl 0 (.int .i64 (n:Int))).set 0 rfl 1 (.int .i64 m.thread)).set 0 rfl 2 (.int .i64 (j:Int))).set 0 rfl 3 (.int .i64 m.flag)).set 0 rfl 4 (.int .i64 v'.kind)).set 0 rfl 5 (.int .i64 v'.num)).set 0 rfl 6 (.slice v'.addr v'.parts.length v'.cap)));simp only[sSq,sZq,sAq]at FJ;have DL:=hdq (BD.aB (a:=[]) (b:=[_,_]) (c:=(x.knows (fun W=>v'.In W/\v'.nodes<=256)).ts++eZ x (n:Int) (j:Int) b2 b3 b4) FJ.out);simp only[nAq,List.append_assoc]at DL;go_wp2_with fail
     refine wp_region_held_drew (S:=fun w'=>w'.cell? ⟨b3,0,none⟩=some (.int .i64 (n:Int))/\w'.cell? ⟨b4,0,none⟩=some (.int .i64 (j:Int))/\w'.cell? ⟨g3,n*11,none⟩=some (.int .i64 m.thread)/\w'.cell? ⟨g3,n*11+3,none⟩=some (.int .i64 m.flag)/\w'.cell? ⟨b6,0,none⟩=some (.int .i64 v'.kind)/\w'.cell? ⟨b6,1,none⟩=some (.int .i64 v'.num)/\w'.cell? ⟨b6,2,none⟩=some (.slice v'.addr v'.parts.length v'.cap)) (by kernel_rfl) ?_ (fun hHeld=>?_)
     .exact hS0
     refine tkq 0 30 ?_;refine tkq 1 31 ?_;refine tkq 2 32 ?_;refine tkq 3 33 ?_;refine tkq 4 34 ?_;refine tkq 5 35 ?_;refine tkq 6 36 ?_;refine tkq 7 37 ?_;refine tkq 8 38 ?_;refine tkq 9 39 ?_;refine tkq 10 40 ?_;refine tkq 11 41 ?_;refine rdq 12 rfl fun K hK=>?_;go_simp;refine hK.out _ _ (HS4.out _ _ DL.out) (fun hHeld=>?_);clear hK K;(try simp only[Act.put,sAq,sZq,sSq])
     refine dxq FJ fun w8 DI=>?_;clear HL9 Cf FJ DL q0 q1 q2 q3 q4 q5 q6 G9 G6 G5 Ng NG L6 NH zq hHeld hS0 HS4 hbe;obtain⟨q0,q1,q2,q3,q4,q5,q6,_,zq,_,_⟩:=DI.out.c7 0 rfl;go_wp2;refine bodyPost_ret (v:=(dP.of (n:Int) m (j:Int) v').val) (by simp[results,Tryz.results136,go_sem,q0,q1,q2,q3,q4,q5,q6,dP.val,dP.of]) rfl ?_;have h14:=BD.aB (a:=[]) (b:=[_,_]) (c:=(x.knows (fun W=>v'.In W/\v'.nodes<=256)).ts++eZ x (n:Int) (j:Int) b2 b3 b4) DI.out;exact⟨_,0,_,HE4.out,.inl ⟨rfl,rfl⟩,h14.aF⟩
   .have hd2:decide (br<(m.bases.length:Int))=false:=decide_eq_false hc2
    go_wp2_with fail
    refine hrq (S:=fun w'=>w'.cell? ⟨b4,0,none⟩=some (.int .i64 br)/\w'.cell? ⟨g3,n*11+1,none⟩=some (.slice m.ba m.bases.length m.bc)) fun hHeld=>?_;refine tkq 0 9 ?_;refine tkq 1 10 ?_;refine tkq 2 11 ?_;refine tkq 3 12 ?_;refine tkq 4 13 ?_;refine tkq 5 14 ?_;refine tkq 6 15 ?_;refine tkq 7 16 ?_;refine tkq 8 17 ?_;refine tkq 9 18 ?_;refine tkq 10 19 ?_;refine rdq 11 rfl fun K hK=>?_;go_simp;(try rw[hd2])
    refine(aY _ _).mono ?_;rintro en wq ⟨rfl,rfl⟩;dsimp only;exact⟨rfl,dP.zero,2,x,HE2.out (fun h=>(fun h=>absurd h.2 (by omega)) h),.inr ⟨rfl,rfl⟩,by have h2:=HL2.out.drew;rw[<-List.append_assoc]at h2;exact h2.aF⟩
  .have hd1:decide (0<=br)=false:=decide_eq_false hc1
   go_wp2_with fail
   refine hrq (S:=fun w'=>w'.cell? ⟨b4,0,none⟩=some (.int .i64 br)/\w'.cell? ⟨g3,n*11+1,none⟩=some (.slice m.ba m.bases.length m.bc)) fun hHeld=>?_;refine tkq 0 9 ?_;refine tkq 1 10 ?_;refine tkq 2 11 ?_;refine skq 3 12 ?_;refine skq 4 13 ?_;refine skq 5 14 ?_;refine skq 6 15 ?_;refine skq 7 16 ?_;refine skq 8 17 ?_;refine skq 9 18 ?_;refine tkq 10 19 ?_;refine rdq 11 rfl fun K hK=>?_;go_simp;(try rw[hd1])
   refine(aY _ _).mono ?_;rintro en wq ⟨rfl,rfl⟩;dsimp only;exact⟨rfl,dP.zero,2,x,HE2.out (fun h=>(fun h=>absurd h.1 (by omega)) h),.inr ⟨rfl,rfl⟩,by have h2:=HL2.out.drew;rw[<-List.append_assoc]at h2;exact h2.aF⟩
 .have HC:=hdq (BB.out.fE k hk)
  have HE:Hid (jo x ms k br dP.zero 4 x):= .inl ⟨by rw[<-hlen];exact hk,rfl,rfl,rfl⟩;refine HC.out.mono ?_;rintro e w2 ⟨rfl,ht⟩;dsimp only;have h2:=BB.out.touch ht;rw[<-List.append_assoc]at h2;exact⟨rfl,_,4,x,HE.out,.inr ⟨rfl,rfl⟩,h2.aF⟩
theorem zn(T:List Nat)(w:World)(x:WS)(ms:List MS)(k br:Int)(h:BD T w w x.ts)(hms:x.sys=ms.map MS.raw)(hin:∀W,x.P W->∀m∈ms,m.In W):
  Calls Tryz.prog 43 #[.pointer (some ⟨x.wb,0,none⟩),.int .i64 k,.int .i64 br] w fun e w'=>∃(v:dP) (er:Int) (x':WS),e= .returned (.tuple #[v.val,.int .i64 er])/\jo x ms k br v er x'/\BD T w w' x'.ts:=by
 have Ep:= @mfq;have BG:=hdq h;have HMS:=hdq hms;have Ed:=hdq hin;clear h hms hin;go_enter Tryz.func43,Tryz.ntmps43
 go_wp2_with fail
 refine ah ?_;intro w1 hw1;have BB:=hdq (((((BG.out.alloc 25 #[.pointer (some ⟨x.wb,0,none⟩)]).alloc 3 #[.int .i64 k]).alloc 3 #[.int .i64 br]).alloc 47 #[.int .i64 0,.int .i64 0,.int .i64 0,.int .i64 0,.int .i64 0,.int .i64 0,.slice none 0 0]).toW hw1);simp only[World.size_alloc,List.append_assoc,cAq,nAq]at BB;generalize hb5:w.heap.size+1+1+1=b5 at BB|-;generalize hb4:w.heap.size+1+1=b4 at BB|-;generalize hb3:w.heap.size+1=b3 at BB|-;generalize hb2:w.heap.size=b2 at BB|-;clear hw1 hb5 hb4 hb3 hb2 BG;refine(rG T w w1 _ _ _ (fun v er l'=>∃x',jo x ms k br v er x'/\l'=x'.ts++eZ x k br b2 b3 b4++[dJ b5]) BB.out (enters_of Tryz.func136 (by kernel_rfl) rfl) (fun T' W hW=>?_)).mono ?_
 .obtain⟨T2,hF,hb⟩:=BD.aN (m:=x.ts++eZ x k br b2 b3 b4) (r:=[dJ b5]) (by rw[List.append_assoc];exact hW)
  refine(IG T2 W x ms k br b2 b3 b4 hF HMS.out Ed.out).mono ?_;rintro en w' ⟨v,er,x',hx,he,hL⟩;exact⟨v,er,_,he,⟨x',hx,rfl⟩,hb _ _ hL⟩
 rintro en w2 ⟨v,er,l',rfl,⟨x',hx,rfl⟩,hL⟩;have HX:=hdq hx;have BF:=hdq (BD.aB (a:=[]) (b:=x'.ts++eZ x k br b2 b3 b4) (c:=[dJ b5]) (by simpa using hL));clear hL hx BB;simp only[nAq,cAq,dJ]at BF;unfold dP.val;dsimp only;obtain⟨q0,q1,q2,q3,q4,q5,q6,⟨G9,G6,G5,Ng,NG,L6,NH⟩,zq,_,_⟩:=BF.out.c7 0 rfl;have Ca:=hdq (((((((BF.out.set 0 rfl 0 (.int .i64 v.sync)).set 0 rfl 1 (.int .i64 v.thread)).set 0 rfl 2 (.int .i64 v.branch)).set 0 rfl 3 (.int .i64 v.flag)).set 0 rfl 4 (.int .i64 v.kind)).set 0 rfl 5 (.int .i64 v.num)).set 0 rfl 6 (.slice v.lA v.lN v.lC));simp only[sSq,sZq,sAq]at Ca;clear BF;go_wp2;refine aP ?_;intro w5 DC;have C8:=hdq (Ca.out.toW DC);clear DC Ca q0 q1 q2 q3 q4 q5 q6 G9 G6 G5 Ng NG L6 NH zq;obtain⟨q0,q1,q2,q3,q4,q5,q6,_,zq,_,_⟩:=C8.out.c7 0 rfl;refine bodyPost_ret (v:= .tuple #[v.val,.int .i64 er]) (by simp[results,Tryz.results43,go_sem,q0,q1,q2,q3,q4,q5,q6,dP.val]) rfl ?_;refine⟨v,er,x',rfl,HX.out,?_⟩;have hz:BD T w w5 (x'.ts++eZ x k br b2 b3 b4++[_]):=BD.aB (a:=[]) (b:=[_]) C8.out;exact BD.aF (BD.aF hz)
structure RV where
 ca:Option Addr
 cn:Nat
 cc:Nat
 most:Int
 la:Option Addr
 ln:Nat
 lc:Nat
 ha:Option Addr
 hn:Nat
 hc:Nat
 oa:Option Addr
 on:Nat
 oc:Nat
 sa:Option Addr
 sn:Nat
 sc:Nat
def RV.val(v:RV):Value:= .agg #[.slice v.ca v.cn v.cc,.int .i64 v.most,.slice v.la v.ln v.lc,.slice v.ha v.hn v.hc,.slice v.oa v.on v.oc,.slice v.sa v.sn v.sc]
theorem BD.c6{T:List Nat}{w0 w:World}{l:List ai}{b t:Nat}(h:BD T w0 w l)(i:Nat){x0 x1 x2 x3 x4 x5:Value}(hi:l[i]? =some (Proofs.YtddnnapoaonmjaaGreatDoor.box b t #[x0,x1,x2,x3,x4,x5])):w.cell? ⟨b,0,none⟩=some x0/\w.cell? ⟨b,1,none⟩=some x1/\w.cell? ⟨b,2,none⟩=some x2/\w.cell? ⟨b,3,none⟩=some x3/\w.cell? ⟨b,4,none⟩=some x4/\w.cell? ⟨b,5,none⟩=some x5/\(w.frozen? ⟨b,0,none⟩=false/\w.frozen? ⟨b,1,none⟩=false/\w.frozen? ⟨b,2,none⟩=false/\w.frozen? ⟨b,3,none⟩=false/\w.frozen? ⟨b,4,none⟩=false/\w.frozen? ⟨b,5,none⟩=false)/\b<w.heap.size/\b<w.heap.size+1/\b<w.heap.size+1+1:=by
 have hb:=h.box i hi;have hl:=hb.lt;exact⟨hb.cell 0,hb.cell 1,hb.cell 2,hb.cell 3,hb.cell 4,hb.cell 5,⟨hb.frozen 0,hb.frozen 1,hb.frozen 2,hb.frozen 3,hb.frozen 4,hb.frozen 5⟩,hl,ltq hl,ltq (ltq hl)⟩
theorem kY(v:RV)(w:World)(k:Int)(hk:¬(0<=k/\k<(v.hn:Int))):Calls Tryz.prog 228 #[v.val,.int .i64 k] w fun e w'=>e= .returned (.bool false)/\Touch [] w w':=by
 have HT:=hdq ((Touch.refl [] w).alloc (.cells #[.slice v.ca v.cn v.cc,.int .i64 v.most,.slice v.la v.ln v.lc,.slice v.ha v.hn v.hc,.slice v.oa v.on v.oc,.slice v.sa v.sn v.sc] 38));simp only[RV.val];have z1:w.heap.size<w.heap.size+1:=by omega
 by_cases h0:0<=k
 .have h1:decide (k<(v.hn:Int))=false:=decide_eq_false (fun h=>hk ⟨h0,h⟩)
  clear hk;go_enter Tryz.func228,Tryz.ntmps228
  go_wp2;go_ret
  exact⟨by simp[h1],HT.out⟩
 .have h1:decide (0<=k)=false:=decide_eq_false h0
  clear hk;go_enter Tryz.func228,Tryz.ntmps228
  go_wp2;go_ret
  exact⟨rfl,HT.out⟩
theorem jF(v:RV)(w:World)(k:Int)(hk:¬(0<=k/\k<(v.on:Int))):Calls Tryz.prog 236 #[v.val,.int .i64 k] w fun e w'=>e= .returned (.bool false)/\Touch [] w w':=by
 have HT:=hdq ((Touch.refl [] w).alloc (.cells #[.slice v.ca v.cn v.cc,.int .i64 v.most,.slice v.la v.ln v.lc,.slice v.ha v.hn v.hc,.slice v.oa v.on v.oc,.slice v.sa v.sn v.sc] 38));simp only[RV.val];have z1:w.heap.size<w.heap.size+1:=by omega
 by_cases h0:0<=k
 .have h1:decide (k<(v.on:Int))=false:=decide_eq_false (fun h=>hk ⟨h0,h⟩)
  clear hk;go_enter Tryz.func236,Tryz.ntmps236
  go_wp2;go_ret
  exact⟨by simp[h1],HT.out⟩
 .have h1:decide (0<=k)=false:=decide_eq_false h0
  clear hk;go_enter Tryz.func236,Tryz.ntmps236
  go_wp2;go_ret
  exact⟨rfl,HT.out⟩
theorem ic(v:RV)(w:World)(k:Int)(hk:¬(0<=k/\k<(v.sn:Int))):Calls Tryz.prog 242 #[v.val,.int .i64 k] w fun e w'=>e= .returned (.bool false)/\Touch [] w w':=by
 have HT:=hdq ((Touch.refl [] w).alloc (.cells #[.slice v.ca v.cn v.cc,.int .i64 v.most,.slice v.la v.ln v.lc,.slice v.ha v.hn v.hc,.slice v.oa v.on v.oc,.slice v.sa v.sn v.sc] 38));simp only[RV.val];have z1:w.heap.size<w.heap.size+1:=by omega
 by_cases h0:0<=k
 .have h1:decide (k<(v.sn:Int))=false:=decide_eq_false (fun h=>hk ⟨h0,h⟩)
  clear hk;go_enter Tryz.func242,Tryz.ntmps242
  go_wp2;go_ret
  exact⟨by simp[h1],HT.out⟩
 .have h1:decide (0<=k)=false:=decide_eq_false h0
  clear hk;go_enter Tryz.func242,Tryz.ntmps242
  go_wp2;go_ret
  exact⟨rfl,HT.out⟩
theorem iQ(w:World)(s:Int):Calls Tryz.prog 231 #[.int .i64 s] w fun e w'=>e= .returned (.int .i64 (bM s))/\w=w':=by
 by_cases h:s=1\/s=2
 .exact vS w s (by omega)
 .have h1:s≠1:=fun h1=>h (.inl h1)
  have h2:s≠2:=fun h2=>h (.inr h2);have ho:jV s= -1:=by unfold jV;rw[if_neg h1,if_neg h2]
  have hoo:bM s=0:=by unfold bM;rw[if_neg h1,if_neg h2]
  clear h h1 h2;go_enter Tryz.func231,Tryz.ntmps231
  go_wp2_with fail
  refine(uH _ _).mono ?_;rintro e w' ⟨rfl,rfl⟩;rw[ho];go_wp2;go_ret
  exact⟨by rw[hoo];rfl,rfl⟩
theorem IC(v:RV)(w:World)(k s:Int)(i:Int)(hs:¬(s=1\/s=2)):Calls Tryz.prog 154 #[v.val,.int .i64 k,.int .i64 s,.int .i64 i] w fun e w'=>e= .returned (.tuple #[.agg #[.int .i64 0,.int .i64 0,.int .i64 0,.int .i64 0,.int .i64 0,.int .i64 0,.slice none 0 0],.bool false,.int .i64 2])/\Touch [] w w':=by
 have HO:=hdq (fun W=>iQ W s);rw[show bM s=0 from by unfold bM;rw[if_neg (fun h=>hs (.inl h)),if_neg (fun h=>hs (.inr h))]]at HO;clear hs;simp only[RV.val];go_enter Tryz.func154,Tryz.ntmps154
 go_wp2_with fail
 refine ah ?_;intro w1 hw1;have BB:=hdq ((((BD.nil' w).alloc 38 #[.slice v.ca v.cn v.cc,.int .i64 v.most,.slice v.la v.ln v.lc,.slice v.ha v.hn v.hc,.slice v.oa v.on v.oc,.slice v.sa v.sn v.sc]).alloc 47 #[.int .i64 0,.int .i64 0,.int .i64 0,.int .i64 0,.int .i64 0,.int .i64 0,.slice none 0 0]).toW hw1);simp only[World.size_alloc,nAq,cAq]at BB;generalize hb1:w.heap.size+1=b1 at BB|-;generalize hb0:w.heap.size=b0 at BB|-;clear hw1 hb0 hb1;refine(HO.out _).mono ?_;rintro e w2 ⟨rfl,rfl⟩;clear HO;obtain⟨Cv,Cs,Cj,Cy,Ck,Ci,⟨Ct,Cu,Cr,Co,Cq,Cn⟩,z0,_,_⟩:=BB.out.c6 0 rfl;obtain⟨BP,BR,BQ,BV,BU,BX,Ea,⟨Cw,Cm,Cx,CG,Cz,CF,EG⟩,z1,_,_⟩:=BB.out.c7 1 rfl;have DR:=BB.out.ne 0 1 rfl rfl (by decide);have n10:=Ne.symm DR;have BF:=hdq (((((((BB.out.set 1 rfl 0 (.int .i64 0)).set 1 rfl 1 (.int .i64 0)).set 1 rfl 2 (.int .i64 0)).set 1 rfl 3 (.int .i64 0)).set 1 rfl 4 (.int .i64 0)).set 1 rfl 5 (.int .i64 0)).set 1 rfl 6 (.slice none 0 0));simp only[sSq,sZq,sAq]at BF;clear BB;go_wp2;refine aP ?_;intro w5 DC;have BH:=hdq (BF.out.toW DC);clear DC BF Cv Ct Cs Cu Cj Cr Cy Co Ck Cq Ci Cn z0 BP Cw BR Cm BQ Cx BV CG BU Cz BX CF Ea EG z1;obtain⟨BP,BR,BQ,BV,BU,BX,Ea,_,_,_,_⟩:=BH.out.c7 1 rfl;refine bodyPost_ret (v:= .tuple #[.agg #[.int .i64 0,.int .i64 0,.int .i64 0,.int .i64 0,.int .i64 0,.int .i64 0,.slice none 0 0],.bool false,.int .i64 2]) (by simp[results,Tryz.results154,go_sem,BP,BR,BQ,BV,BU,BX,Ea]) rfl ?_;exact⟨rfl,BH.out.BN⟩
theorem M0(v:RV)(w:World)(k s:Int)(i:Int)(hs:s=1\/s=2)(hk:¬(0<=k/\k<(v.hn:Int))):Calls Tryz.prog 154 #[v.val,.int .i64 k,.int .i64 s,.int .i64 i] w fun e w'=>e= .returned (.tuple #[.agg #[.int .i64 0,.int .i64 0,.int .i64 0,.int .i64 0,.int .i64 0,.int .i64 0,.slice none 0 0],.bool false,.int .i64 4])/\Touch [] w w':=by
 have HO:=hdq (fun W=>iQ W s);have ho:(bM s==0)=false:=by unfold bM;rcases hs with rfl|rfl<;>rfl
 have HC:=hdq (fun W=>kY v W k hk);clear hk hs;generalize bM s=oo at HO ho;simp only[RV.val];simp only[RV.val]at HC;go_enter Tryz.func154,Tryz.ntmps154
 go_wp2_with fail
 refine ah ?_;intro w1 hw1;have BB:=hdq ((((BD.nil' w).alloc 38 #[.slice v.ca v.cn v.cc,.int .i64 v.most,.slice v.la v.ln v.lc,.slice v.ha v.hn v.hc,.slice v.oa v.on v.oc,.slice v.sa v.sn v.sc]).alloc 47 #[.int .i64 0,.int .i64 0,.int .i64 0,.int .i64 0,.int .i64 0,.int .i64 0,.slice none 0 0]).toW hw1);simp only[World.size_alloc,nAq,cAq]at BB;generalize hb1:w.heap.size+1=b1 at BB|-;generalize hb0:w.heap.size=b0 at BB|-;clear hw1 hb0 hb1;refine(HO.out _).mono ?_;rintro e w2 ⟨rfl,rfl⟩;clear HO;obtain⟨Cv,Cs,Cj,Cy,Ck,Ci,⟨Ct,Cu,Cr,Co,Cq,Cn⟩,z0,_,_⟩:=BB.out.c6 0 rfl;obtain⟨BP,BR,BQ,BV,BU,BX,Ea,⟨Cw,Cm,Cx,CG,Cz,CF,EG⟩,z1,_,_⟩:=BB.out.c7 1 rfl;have DR:=BB.out.ne 0 1 rfl rfl (by decide);have n10:=Ne.symm DR;go_wp2_with fail
 refine(HC.out _).mono ?_;rintro e w3 ⟨rfl,ht⟩;have HL2:=hdq (BB.out.touch ht);clear ht HC BB Cv Ct Cs Cu Cj Cr Cy Co Ck Cq Ci Cn z0 BP Cw BR Cm BQ Cx BV CG BU Cz BX CF Ea EG z1 DR n10;obtain⟨Cv,Cs,Cj,Cy,Ck,Ci,⟨Ct,Cu,Cr,Co,Cq,Cn⟩,z0,_,_⟩:=HL2.out.c6 0 rfl;obtain⟨BP,BR,BQ,BV,BU,BX,Ea,⟨Cw,Cm,Cx,CG,Cz,CF,EG⟩,z1,_,_⟩:=HL2.out.c7 1 rfl;have DR:=HL2.out.ne 0 1 rfl rfl (by decide);have n10:=Ne.symm DR;have BF:=hdq (((((((HL2.out.set 1 rfl 0 (.int .i64 0)).set 1 rfl 1 (.int .i64 0)).set 1 rfl 2 (.int .i64 0)).set 1 rfl 3 (.int .i64 0)).set 1 rfl 4 (.int .i64 0)).set 1 rfl 5 (.int .i64 0)).set 1 rfl 6 (.slice none 0 0));simp only[sSq,sZq,sAq]at BF;clear HL2;go_wp2;refine aP ?_;intro w5 DC;have BH:=hdq (BF.out.toW DC);clear DC BF Cv Ct Cs Cu Cj Cr Cy Co Ck Cq Ci Cn z0 BP Cw BR Cm BQ Cx BV CG BU Cz BX CF Ea EG z1;obtain⟨BP,BR,BQ,BV,BU,BX,Ea,_,_,_,_⟩:=BH.out.c7 1 rfl;refine bodyPost_ret (v:= .tuple #[.agg #[.int .i64 0,.int .i64 0,.int .i64 0,.int .i64 0,.int .i64 0,.int .i64 0,.slice none 0 0],.bool false,.int .i64 4]) (by simp[results,Tryz.results154,go_sem,BP,BR,BQ,BV,BU,BX,Ea]) rfl ?_;exact⟨rfl,BH.out.BN⟩
theorem Jq(v:RV)(w:World)(k s:Int)(i:Int)(hs:¬(s=1\/s=2)):Calls Tryz.prog 155 #[v.val,.int .i64 k,.int .i64 s,.int .i64 i] w fun e w'=>e= .returned (.tuple #[v.val,.agg #[.int .i64 0,.int .i64 0,.int .i64 0,.int .i64 0,.int .i64 0,.int .i64 0,.slice none 0 0],.bool false,.int .i64 2])/\Touch [] w w':=by
 have HO:=hdq (fun W=>iQ W s);rw[show bM s=0 from by unfold bM;rw[if_neg (fun h=>hs (.inl h)),if_neg (fun h=>hs (.inr h))]]at HO;clear hs;simp only[RV.val];go_enter Tryz.func155,Tryz.ntmps155
 go_wp2_with fail
 refine ah ?_;intro w1 hw1;have BB:=hdq (((((BD.nil' w).alloc 38 #[.slice v.ca v.cn v.cc,.int .i64 v.most,.slice v.la v.ln v.lc,.slice v.ha v.hn v.hc,.slice v.oa v.on v.oc,.slice v.sa v.sn v.sc]).alloc 38 #[.slice none 0 0,.int .i64 0,.slice none 0 0,.slice none 0 0,.slice none 0 0,.slice none 0 0]).alloc 47 #[.int .i64 0,.int .i64 0,.int .i64 0,.int .i64 0,.int .i64 0,.int .i64 0,.slice none 0 0]).toW hw1);simp only[World.size_alloc,nAq,cAq]at BB;generalize hb2:w.heap.size+1+1=b2 at BB|-;generalize hb1:w.heap.size+1=b1 at BB|-;generalize hb0:w.heap.size=b0 at BB|-;clear hw1 hb0 hb1 hb2;refine(HO.out _).mono ?_;rintro e w2 ⟨rfl,rfl⟩;clear HO;obtain⟨Cv,Cs,Cj,Cy,Ck,Ci,⟨Ct,Cu,Cr,Co,Cq,Cn⟩,z0,_,_⟩:=BB.out.c6 0 rfl;obtain⟨BP,BR,BQ,BV,BU,BX,⟨Cw,Cm,Cx,CG,Cz,CF⟩,z1,_,_⟩:=BB.out.c6 1 rfl;obtain⟨Du,Dq,Dr,Dl,Dp,Dt,ET,⟨En,Ei,Em,Eo,El,Ej,Gl⟩,z2,_,_⟩:=BB.out.c7 2 rfl;have DR:=BB.out.ne 0 1 rfl rfl (by decide);have n10:=Ne.symm DR;have FI:=BB.out.ne 0 2 rfl rfl (by decide);have n20:=Ne.symm FI;have n12:=BB.out.ne 1 2 rfl rfl (by decide);have n21:=Ne.symm n12;have BF:=hdq (((((((((((((BB.out.set 1 rfl 0 (.slice v.ca v.cn v.cc)).set 1 rfl 1 (.int .i64 v.most)).set 1 rfl 2 (.slice v.la v.ln v.lc)).set 1 rfl 3 (.slice v.ha v.hn v.hc)).set 1 rfl 4 (.slice v.oa v.on v.oc)).set 1 rfl 5 (.slice v.sa v.sn v.sc)).set 2 rfl 0 (.int .i64 0)).set 2 rfl 1 (.int .i64 0)).set 2 rfl 2 (.int .i64 0)).set 2 rfl 3 (.int .i64 0)).set 2 rfl 4 (.int .i64 0)).set 2 rfl 5 (.int .i64 0)).set 2 rfl 6 (.slice none 0 0));simp only[sSq,sZq,sAq]at BF;clear BB;go_wp2;refine aP ?_;intro w5 DC;have BH:=hdq (BF.out.toW DC);clear DC BF Cv Ct Cs Cu Cj Cr Cy Co Ck Cq Ci Cn z0 BP Cw BR Cm BQ Cx BV CG BU Cz BX CF z1 Du En Dq Ei Dr Em Dl Eo Dp El Dt Ej ET Gl z2;obtain⟨BP,BR,BQ,BV,BU,BX,_,_,_,_⟩:=BH.out.c6 1 rfl;obtain⟨Du,Dq,Dr,Dl,Dp,Dt,ET,_,_,_,_⟩:=BH.out.c7 2 rfl;refine bodyPost_ret (v:= .tuple #[.agg #[.slice v.ca v.cn v.cc,.int .i64 v.most,.slice v.la v.ln v.lc,.slice v.ha v.hn v.hc,.slice v.oa v.on v.oc,.slice v.sa v.sn v.sc],.agg #[.int .i64 0,.int .i64 0,.int .i64 0,.int .i64 0,.int .i64 0,.int .i64 0,.slice none 0 0],.bool false,.int .i64 2]) (by simp[results,Tryz.results155,go_sem,BP,BR,BQ,BV,BU,BX,Du,Dq,Dr,Dl,Dp,Dt,ET]) rfl ?_;exact⟨rfl,BH.out.BN⟩
theorem MW(v:RV)(w:World)(k s:Int)(i:Int)(hs:s=1\/s=2)(hk:¬(0<=k/\k<(v.hn:Int))):Calls Tryz.prog 155 #[v.val,.int .i64 k,.int .i64 s,.int .i64 i] w fun e w'=>e= .returned (.tuple #[v.val,.agg #[.int .i64 0,.int .i64 0,.int .i64 0,.int .i64 0,.int .i64 0,.int .i64 0,.slice none 0 0],.bool false,.int .i64 4])/\Touch [] w w':=by
 have HO:=hdq (fun W=>iQ W s);have ho:(bM s==0)=false:=by unfold bM;rcases hs with rfl|rfl<;>rfl
 have HC:=hdq (fun W=>kY v W k hk);clear hk hs;generalize bM s=oo at HO ho;simp only[RV.val];simp only[RV.val]at HC;go_enter Tryz.func155,Tryz.ntmps155
 go_wp2_with fail
 refine ah ?_;intro w1 hw1;have BB:=hdq (((((BD.nil' w).alloc 38 #[.slice v.ca v.cn v.cc,.int .i64 v.most,.slice v.la v.ln v.lc,.slice v.ha v.hn v.hc,.slice v.oa v.on v.oc,.slice v.sa v.sn v.sc]).alloc 38 #[.slice none 0 0,.int .i64 0,.slice none 0 0,.slice none 0 0,.slice none 0 0,.slice none 0 0]).alloc 47 #[.int .i64 0,.int .i64 0,.int .i64 0,.int .i64 0,.int .i64 0,.int .i64 0,.slice none 0 0]).toW hw1);simp only[World.size_alloc,nAq,cAq]at BB;generalize hb2:w.heap.size+1+1=b2 at BB|-;generalize hb1:w.heap.size+1=b1 at BB|-;generalize hb0:w.heap.size=b0 at BB|-;clear hw1 hb0 hb1 hb2;refine(HO.out _).mono ?_;rintro e w2 ⟨rfl,rfl⟩;clear HO;obtain⟨Cv,Cs,Cj,Cy,Ck,Ci,⟨Ct,Cu,Cr,Co,Cq,Cn⟩,z0,_,_⟩:=BB.out.c6 0 rfl;obtain⟨BP,BR,BQ,BV,BU,BX,⟨Cw,Cm,Cx,CG,Cz,CF⟩,z1,_,_⟩:=BB.out.c6 1 rfl;obtain⟨Du,Dq,Dr,Dl,Dp,Dt,ET,⟨En,Ei,Em,Eo,El,Ej,Gl⟩,z2,_,_⟩:=BB.out.c7 2 rfl;have DR:=BB.out.ne 0 1 rfl rfl (by decide);have n10:=Ne.symm DR;have FI:=BB.out.ne 0 2 rfl rfl (by decide);have n20:=Ne.symm FI;have n12:=BB.out.ne 1 2 rfl rfl (by decide);have n21:=Ne.symm n12;go_wp2_with fail
 refine(HC.out _).mono ?_;rintro e w3 ⟨rfl,ht⟩;have HL2:=hdq (BB.out.touch ht);clear ht HC BB Cv Ct Cs Cu Cj Cr Cy Co Ck Cq Ci Cn z0 BP Cw BR Cm BQ Cx BV CG BU Cz BX CF z1 Du En Dq Ei Dr Em Dl Eo Dp El Dt Ej ET Gl z2 DR FI n10 n12 n20 n21;obtain⟨Cv,Cs,Cj,Cy,Ck,Ci,⟨Ct,Cu,Cr,Co,Cq,Cn⟩,z0,_,_⟩:=HL2.out.c6 0 rfl;obtain⟨BP,BR,BQ,BV,BU,BX,⟨Cw,Cm,Cx,CG,Cz,CF⟩,z1,_,_⟩:=HL2.out.c6 1 rfl;obtain⟨Du,Dq,Dr,Dl,Dp,Dt,ET,⟨En,Ei,Em,Eo,El,Ej,Gl⟩,z2,_,_⟩:=HL2.out.c7 2 rfl;have DR:=HL2.out.ne 0 1 rfl rfl (by decide);have n10:=Ne.symm DR;have FI:=HL2.out.ne 0 2 rfl rfl (by decide);have n20:=Ne.symm FI;have n12:=HL2.out.ne 1 2 rfl rfl (by decide);have n21:=Ne.symm n12;have BF:=hdq (((((((((((((HL2.out.set 1 rfl 0 (.slice v.ca v.cn v.cc)).set 1 rfl 1 (.int .i64 v.most)).set 1 rfl 2 (.slice v.la v.ln v.lc)).set 1 rfl 3 (.slice v.ha v.hn v.hc)).set 1 rfl 4 (.slice v.oa v.on v.oc)).set 1 rfl 5 (.slice v.sa v.sn v.sc)).set 2 rfl 0 (.int .i64 0)).set 2 rfl 1 (.int .i64 0)).set 2 rfl 2 (.int .i64 0)).set 2 rfl 3 (.int .i64 0)).set 2 rfl 4 (.int .i64 0)).set 2 rfl 5 (.int .i64 0)).set 2 rfl 6 (.slice none 0 0));simp only[sSq,sZq,sAq]at BF;clear HL2;go_wp2;refine aP ?_;intro w5 DC;have BH:=hdq (BF.out.toW DC);clear DC BF Cv Ct Cs Cu Cj Cr Cy Co Ck Cq Ci Cn z0 BP Cw BR Cm BQ Cx BV CG BU Cz BX CF z1 Du En Dq Ei Dr Em Dl Eo Dp El Dt Ej ET Gl z2;obtain⟨BP,BR,BQ,BV,BU,BX,_,_,_,_⟩:=BH.out.c6 1 rfl;obtain⟨Du,Dq,Dr,Dl,Dp,Dt,ET,_,_,_,_⟩:=BH.out.c7 2 rfl;refine bodyPost_ret (v:= .tuple #[.agg #[.slice v.ca v.cn v.cc,.int .i64 v.most,.slice v.la v.ln v.lc,.slice v.ha v.hn v.hc,.slice v.oa v.on v.oc,.slice v.sa v.sn v.sc],.agg #[.int .i64 0,.int .i64 0,.int .i64 0,.int .i64 0,.int .i64 0,.int .i64 0,.slice none 0 0],.bool false,.int .i64 4]) (by simp[results,Tryz.results155,go_sem,BP,BR,BQ,BV,BU,BX,Du,Dq,Dr,Dl,Dp,Dt,ET]) rfl ?_;exact⟨rfl,BH.out.BN⟩
theorem Ju(v:RV)(w:World)(k s:Int)(e:ME)(hs:¬(s=1\/s=2)):Calls Tryz.prog 156 #[v.val,.int .i64 k,.int .i64 s,e.val] w fun e w'=>e= .returned (.tuple #[v.val,.int .i64 2])/\Touch [] w w':=by
 have HO:=hdq (fun W=>iQ W s);rw[show bM s=0 from by unfold bM;rw[if_neg (fun h=>hs (.inl h)),if_neg (fun h=>hs (.inr h))]]at HO;clear hs;simp only[RV.val,bB];go_enter Tryz.func156,Tryz.ntmps156
 go_wp2_with fail
 refine ah ?_;intro w1 hw1;have BB:=hdq (((((BD.nil' w).alloc 38 #[.slice v.ca v.cn v.cc,.int .i64 v.most,.slice v.la v.ln v.lc,.slice v.ha v.hn v.hc,.slice v.oa v.on v.oc,.slice v.sa v.sn v.sc]).alloc 47 #[.int .i64 e.sync,.int .i64 e.thread,.int .i64 e.branch,.int .i64 e.flag,.int .i64 e.v.kind,.int .i64 e.v.num,.slice e.v.addr e.v.parts.length e.v.cap]).alloc 38 #[.slice none 0 0,.int .i64 0,.slice none 0 0,.slice none 0 0,.slice none 0 0,.slice none 0 0]).toW hw1);simp only[World.size_alloc,nAq,cAq]at BB;generalize hb2:w.heap.size+1+1=b2 at BB|-;generalize hb1:w.heap.size+1=b1 at BB|-;generalize hb0:w.heap.size=b0 at BB|-;clear hw1 hb0 hb1 hb2;refine(HO.out _).mono ?_;rintro e w2 ⟨rfl,rfl⟩;clear HO;obtain⟨Cv,Cs,Cj,Cy,Ck,Ci,⟨Ct,Cu,Cr,Co,Cq,Cn⟩,z0,_,_⟩:=BB.out.c6 0 rfl;obtain⟨BP,BR,BQ,BV,BU,BX,Ea,⟨Cw,Cm,Cx,CG,Cz,CF,EG⟩,z1,_,_⟩:=BB.out.c7 1 rfl;obtain⟨Du,Dq,Dr,Dl,Dp,Dt,⟨En,Ei,Em,Eo,El,Ej⟩,z2,_,_⟩:=BB.out.c6 2 rfl;have DR:=BB.out.ne 0 1 rfl rfl (by decide);have n10:=Ne.symm DR;have FI:=BB.out.ne 0 2 rfl rfl (by decide);have n20:=Ne.symm FI;have n12:=BB.out.ne 1 2 rfl rfl (by decide);have n21:=Ne.symm n12;have BF:=hdq ((((((BB.out.set 2 rfl 0 (.slice v.ca v.cn v.cc)).set 2 rfl 1 (.int .i64 v.most)).set 2 rfl 2 (.slice v.la v.ln v.lc)).set 2 rfl 3 (.slice v.ha v.hn v.hc)).set 2 rfl 4 (.slice v.oa v.on v.oc)).set 2 rfl 5 (.slice v.sa v.sn v.sc));simp only[sSq,sZq,sAq]at BF;clear BB;go_wp2;refine aP ?_;intro w5 DC;have BH:=hdq (BF.out.toW DC);clear DC BF Cv Ct Cs Cu Cj Cr Cy Co Ck Cq Ci Cn z0 BP Cw BR Cm BQ Cx BV CG BU Cz BX CF Ea EG z1 Du En Dq Ei Dr Em Dl Eo Dp El Dt Ej z2;obtain⟨Du,Dq,Dr,Dl,Dp,Dt,_,_,_,_⟩:=BH.out.c6 2 rfl;refine bodyPost_ret (v:= .tuple #[.agg #[.slice v.ca v.cn v.cc,.int .i64 v.most,.slice v.la v.ln v.lc,.slice v.ha v.hn v.hc,.slice v.oa v.on v.oc,.slice v.sa v.sn v.sc],.int .i64 2]) (by simp[results,Tryz.results156,go_sem,Du,Dq,Dr,Dl,Dp,Dt]) rfl ?_;exact⟨rfl,BH.out.BN⟩
theorem NQ(v:RV)(w:World)(k s:Int)(e:ME)(hs:s=1\/s=2)(hk:¬(0<=k/\k<(v.hn:Int))):Calls Tryz.prog 156 #[v.val,.int .i64 k,.int .i64 s,e.val] w fun e w'=>e= .returned (.tuple #[v.val,.int .i64 4])/\Touch [] w w':=by
 have HO:=hdq (fun W=>iQ W s);have ho:(bM s==0)=false:=by unfold bM;rcases hs with rfl|rfl<;>rfl
 have HC:=hdq (fun W=>kY v W k hk);clear hk hs;generalize bM s=oo at HO ho;simp only[RV.val,bB];simp only[RV.val]at HC;go_enter Tryz.func156,Tryz.ntmps156
 go_wp2_with fail
 refine ah ?_;intro w1 hw1;have BB:=hdq (((((BD.nil' w).alloc 38 #[.slice v.ca v.cn v.cc,.int .i64 v.most,.slice v.la v.ln v.lc,.slice v.ha v.hn v.hc,.slice v.oa v.on v.oc,.slice v.sa v.sn v.sc]).alloc 47 #[.int .i64 e.sync,.int .i64 e.thread,.int .i64 e.branch,.int .i64 e.flag,.int .i64 e.v.kind,.int .i64 e.v.num,.slice e.v.addr e.v.parts.length e.v.cap]).alloc 38 #[.slice none 0 0,.int .i64 0,.slice none 0 0,.slice none 0 0,.slice none 0 0,.slice none 0 0]).toW hw1);simp only[World.size_alloc,nAq,cAq]at BB;generalize hb2:w.heap.size+1+1=b2 at BB|-;generalize hb1:w.heap.size+1=b1 at BB|-;generalize hb0:w.heap.size=b0 at BB|-;clear hw1 hb0 hb1 hb2;refine(HO.out _).mono ?_;rintro e w2 ⟨rfl,rfl⟩;clear HO;obtain⟨Cv,Cs,Cj,Cy,Ck,Ci,⟨Ct,Cu,Cr,Co,Cq,Cn⟩,z0,_,_⟩:=BB.out.c6 0 rfl;obtain⟨BP,BR,BQ,BV,BU,BX,Ea,⟨Cw,Cm,Cx,CG,Cz,CF,EG⟩,z1,_,_⟩:=BB.out.c7 1 rfl;obtain⟨Du,Dq,Dr,Dl,Dp,Dt,⟨En,Ei,Em,Eo,El,Ej⟩,z2,_,_⟩:=BB.out.c6 2 rfl;have DR:=BB.out.ne 0 1 rfl rfl (by decide);have n10:=Ne.symm DR;have FI:=BB.out.ne 0 2 rfl rfl (by decide);have n20:=Ne.symm FI;have n12:=BB.out.ne 1 2 rfl rfl (by decide);have n21:=Ne.symm n12;go_wp2_with fail
 refine(HC.out _).mono ?_;rintro e w3 ⟨rfl,ht⟩;have HL2:=hdq (BB.out.touch ht);clear ht HC BB Cv Ct Cs Cu Cj Cr Cy Co Ck Cq Ci Cn z0 BP Cw BR Cm BQ Cx BV CG BU Cz BX CF Ea EG z1 Du En Dq Ei Dr Em Dl Eo Dp El Dt Ej z2 DR FI n10 n12 n20 n21;obtain⟨Cv,Cs,Cj,Cy,Ck,Ci,⟨Ct,Cu,Cr,Co,Cq,Cn⟩,z0,_,_⟩:=HL2.out.c6 0 rfl;obtain⟨BP,BR,BQ,BV,BU,BX,Ea,⟨Cw,Cm,Cx,CG,Cz,CF,EG⟩,z1,_,_⟩:=HL2.out.c7 1 rfl;obtain⟨Du,Dq,Dr,Dl,Dp,Dt,⟨En,Ei,Em,Eo,El,Ej⟩,z2,_,_⟩:=HL2.out.c6 2 rfl;have DR:=HL2.out.ne 0 1 rfl rfl (by decide);have n10:=Ne.symm DR;have FI:=HL2.out.ne 0 2 rfl rfl (by decide);have n20:=Ne.symm FI;have n12:=HL2.out.ne 1 2 rfl rfl (by decide);have n21:=Ne.symm n12;have BF:=hdq ((((((HL2.out.set 2 rfl 0 (.slice v.ca v.cn v.cc)).set 2 rfl 1 (.int .i64 v.most)).set 2 rfl 2 (.slice v.la v.ln v.lc)).set 2 rfl 3 (.slice v.ha v.hn v.hc)).set 2 rfl 4 (.slice v.oa v.on v.oc)).set 2 rfl 5 (.slice v.sa v.sn v.sc));simp only[sSq,sZq,sAq]at BF;clear HL2;go_wp2;refine aP ?_;intro w5 DC;have BH:=hdq (BF.out.toW DC);clear DC BF Cv Ct Cs Cu Cj Cr Cy Co Ck Cq Ci Cn z0 BP Cw BR Cm BQ Cx BV CG BU Cz BX CF Ea EG z1 Du En Dq Ei Dr Em Dl Eo Dp El Dt Ej z2;obtain⟨Du,Dq,Dr,Dl,Dp,Dt,_,_,_,_⟩:=BH.out.c6 2 rfl;refine bodyPost_ret (v:= .tuple #[.agg #[.slice v.ca v.cn v.cc,.int .i64 v.most,.slice v.la v.ln v.lc,.slice v.ha v.hn v.hc,.slice v.oa v.on v.oc,.slice v.sa v.sn v.sc],.int .i64 4]) (by simp[results,Tryz.results156,go_sem,Du,Dq,Dr,Dl,Dp,Dt]) rfl ?_;exact⟨rfl,BH.out.BN⟩
theorem Ol(v:RV)(w:World)(k:Int)(hk:¬(0<=k/\k<(v.hn:Int))):Calls Tryz.prog 152 #[v.val,.int .i64 k] w fun e w'=>e= .returned (.tuple #[v.val,.bool false,.int .i64 4])/\Touch [] w w':=by
 have HC:=hdq (fun W=>kY v W k hk);clear hk;simp only[RV.val];simp only[RV.val]at HC;go_enter Tryz.func152,Tryz.ntmps152
 go_wp2_with fail
 refine ah ?_;intro w1 hw1;have BB:=hdq ((((BD.nil' w).alloc 38 #[.slice v.ca v.cn v.cc,.int .i64 v.most,.slice v.la v.ln v.lc,.slice v.ha v.hn v.hc,.slice v.oa v.on v.oc,.slice v.sa v.sn v.sc]).alloc 38 #[.slice none 0 0,.int .i64 0,.slice none 0 0,.slice none 0 0,.slice none 0 0,.slice none 0 0]).toW hw1);simp only[World.size_alloc,nAq,cAq]at BB;generalize hb1:w.heap.size+1=b1 at BB|-;generalize hb0:w.heap.size=b0 at BB|-;clear hw1 hb0 hb1;refine(HC.out _).mono ?_;rintro e w2 ⟨rfl,ht⟩;have HL2:=hdq (BB.out.touch ht);clear ht BB HC;obtain⟨Cv,Cs,Cj,Cy,Ck,Ci,⟨Ct,Cu,Cr,Co,Cq,Cn⟩,z0,_,_⟩:=HL2.out.c6 0 rfl;obtain⟨BP,BR,BQ,BV,BU,BX,⟨Cw,Cm,Cx,CG,Cz,CF⟩,z1,_,_⟩:=HL2.out.c6 1 rfl;have DR:=HL2.out.ne 0 1 rfl rfl (by decide);have n10:=Ne.symm DR;have BF:=hdq ((((((HL2.out.set 1 rfl 0 (.slice v.ca v.cn v.cc)).set 1 rfl 1 (.int .i64 v.most)).set 1 rfl 2 (.slice v.la v.ln v.lc)).set 1 rfl 3 (.slice v.ha v.hn v.hc)).set 1 rfl 4 (.slice v.oa v.on v.oc)).set 1 rfl 5 (.slice v.sa v.sn v.sc));simp only[sSq,sZq,sAq]at BF;clear HL2;go_wp2;refine aP ?_;intro w3 hw3;have BH:=hdq (BF.out.toW hw3);clear hw3 BF Cv Ct Cs Cu Cj Cr Cy Co Ck Cq Ci Cn z0 BP Cw BR Cm BQ Cx BV CG BU Cz BX CF z1;obtain⟨BP,BR,BQ,BV,BU,BX,_,_,_,_⟩:=BH.out.c6 1 rfl;refine bodyPost_ret (v:= .tuple #[.agg #[.slice v.ca v.cn v.cc,.int .i64 v.most,.slice v.la v.ln v.lc,.slice v.ha v.hn v.hc,.slice v.oa v.on v.oc,.slice v.sa v.sn v.sc],.bool false,.int .i64 4]) (by simp[results,Tryz.results152,go_sem,BP,BR,BQ,BV,BU,BX]) rfl ?_;exact⟨rfl,BH.out.BN⟩
theorem zL(v:RV)(w:World)(k:Int)(hk:¬(0<=k/\k<(v.hn:Int))):Calls Tryz.prog 153 #[v.val,.int .i64 k] w fun e w'=>e= .returned (.tuple #[v.val,.int .i64 4])/\Touch [] w w':=by
 have HC:=hdq (fun W=>kY v W k hk);clear hk;simp only[RV.val];simp only[RV.val]at HC;go_enter Tryz.func153,Tryz.ntmps153
 go_wp2_with fail
 refine ah ?_;intro w1 hw1;have BB:=hdq ((((BD.nil' w).alloc 38 #[.slice v.ca v.cn v.cc,.int .i64 v.most,.slice v.la v.ln v.lc,.slice v.ha v.hn v.hc,.slice v.oa v.on v.oc,.slice v.sa v.sn v.sc]).alloc 38 #[.slice none 0 0,.int .i64 0,.slice none 0 0,.slice none 0 0,.slice none 0 0,.slice none 0 0]).toW hw1);simp only[World.size_alloc,nAq,cAq]at BB;generalize hb1:w.heap.size+1=b1 at BB|-;generalize hb0:w.heap.size=b0 at BB|-;clear hw1 hb0 hb1;refine(HC.out _).mono ?_;rintro e w2 ⟨rfl,ht⟩;have HL2:=hdq (BB.out.touch ht);clear ht BB HC;obtain⟨Cv,Cs,Cj,Cy,Ck,Ci,⟨Ct,Cu,Cr,Co,Cq,Cn⟩,z0,_,_⟩:=HL2.out.c6 0 rfl;obtain⟨BP,BR,BQ,BV,BU,BX,⟨Cw,Cm,Cx,CG,Cz,CF⟩,z1,_,_⟩:=HL2.out.c6 1 rfl;have DR:=HL2.out.ne 0 1 rfl rfl (by decide);have n10:=Ne.symm DR;have BF:=hdq ((((((HL2.out.set 1 rfl 0 (.slice v.ca v.cn v.cc)).set 1 rfl 1 (.int .i64 v.most)).set 1 rfl 2 (.slice v.la v.ln v.lc)).set 1 rfl 3 (.slice v.ha v.hn v.hc)).set 1 rfl 4 (.slice v.oa v.on v.oc)).set 1 rfl 5 (.slice v.sa v.sn v.sc));simp only[sSq,sZq,sAq]at BF;clear HL2;go_wp2;refine aP ?_;intro w3 hw3;have BH:=hdq (BF.out.toW hw3);clear hw3 BF Cv Ct Cs Cu Cj Cr Cy Co Ck Cq Ci Cn z0 BP Cw BR Cm BQ Cx BV CG BU Cz BX CF z1;obtain⟨BP,BR,BQ,BV,BU,BX,_,_,_,_⟩:=BH.out.c6 1 rfl;refine bodyPost_ret (v:= .tuple #[.agg #[.slice v.ca v.cn v.cc,.int .i64 v.most,.slice v.la v.ln v.lc,.slice v.ha v.hn v.hc,.slice v.oa v.on v.oc,.slice v.sa v.sn v.sc],.int .i64 4]) (by simp[results,Tryz.results153,go_sem,BP,BR,BQ,BV,BU,BX]) rfl ?_;exact⟨rfl,BH.out.BN⟩
theorem uT(v:RV)(w:World)(k:Int)(hk:¬(0<=k/\k<(v.on:Int))):Calls Tryz.prog 157 #[v.val,.int .i64 k] w fun e w'=>e= .returned (.tuple #[v.val,.bool false,.int .i64 4])/\Touch [] w w':=by
 have HC:=hdq (fun W=>jF v W k hk);clear hk;simp only[RV.val];simp only[RV.val]at HC;go_enter Tryz.func157,Tryz.ntmps157
 go_wp2_with fail
 refine ah ?_;intro w1 hw1;have BB:=hdq ((((BD.nil' w).alloc 38 #[.slice v.ca v.cn v.cc,.int .i64 v.most,.slice v.la v.ln v.lc,.slice v.ha v.hn v.hc,.slice v.oa v.on v.oc,.slice v.sa v.sn v.sc]).alloc 38 #[.slice none 0 0,.int .i64 0,.slice none 0 0,.slice none 0 0,.slice none 0 0,.slice none 0 0]).toW hw1);simp only[World.size_alloc,nAq,cAq]at BB;generalize hb1:w.heap.size+1=b1 at BB|-;generalize hb0:w.heap.size=b0 at BB|-;clear hw1 hb0 hb1;refine(HC.out _).mono ?_;rintro e w2 ⟨rfl,ht⟩;have HL2:=hdq (BB.out.touch ht);clear ht BB HC;obtain⟨Cv,Cs,Cj,Cy,Ck,Ci,⟨Ct,Cu,Cr,Co,Cq,Cn⟩,z0,_,_⟩:=HL2.out.c6 0 rfl;obtain⟨BP,BR,BQ,BV,BU,BX,⟨Cw,Cm,Cx,CG,Cz,CF⟩,z1,_,_⟩:=HL2.out.c6 1 rfl;have DR:=HL2.out.ne 0 1 rfl rfl (by decide);have n10:=Ne.symm DR;have BF:=hdq ((((((HL2.out.set 1 rfl 0 (.slice v.ca v.cn v.cc)).set 1 rfl 1 (.int .i64 v.most)).set 1 rfl 2 (.slice v.la v.ln v.lc)).set 1 rfl 3 (.slice v.ha v.hn v.hc)).set 1 rfl 4 (.slice v.oa v.on v.oc)).set 1 rfl 5 (.slice v.sa v.sn v.sc));simp only[sSq,sZq,sAq]at BF;clear HL2;go_wp2;refine aP ?_;intro w3 hw3;have BH:=hdq (BF.out.toW hw3);clear hw3 BF Cv Ct Cs Cu Cj Cr Cy Co Ck Cq Ci Cn z0 BP Cw BR Cm BQ Cx BV CG BU Cz BX CF z1;obtain⟨BP,BR,BQ,BV,BU,BX,_,_,_,_⟩:=BH.out.c6 1 rfl;refine bodyPost_ret (v:= .tuple #[.agg #[.slice v.ca v.cn v.cc,.int .i64 v.most,.slice v.la v.ln v.lc,.slice v.ha v.hn v.hc,.slice v.oa v.on v.oc,.slice v.sa v.sn v.sc],.bool false,.int .i64 4]) (by simp[results,Tryz.results157,go_sem,BP,BR,BQ,BV,BU,BX]) rfl ?_;exact⟨rfl,BH.out.BN⟩
theorem rD(v:RV)(w:World)(k:Int)(hk:¬(0<=k/\k<(v.on:Int))):Calls Tryz.prog 158 #[v.val,.int .i64 k] w fun e w'=>e= .returned (.tuple #[v.val,.int .i64 4])/\Touch [] w w':=by
 have HC:=hdq (fun W=>jF v W k hk);clear hk;simp only[RV.val];simp only[RV.val]at HC;go_enter Tryz.func158,Tryz.ntmps158
 go_wp2_with fail
 refine ah ?_;intro w1 hw1;have BB:=hdq ((((BD.nil' w).alloc 38 #[.slice v.ca v.cn v.cc,.int .i64 v.most,.slice v.la v.ln v.lc,.slice v.ha v.hn v.hc,.slice v.oa v.on v.oc,.slice v.sa v.sn v.sc]).alloc 38 #[.slice none 0 0,.int .i64 0,.slice none 0 0,.slice none 0 0,.slice none 0 0,.slice none 0 0]).toW hw1);simp only[World.size_alloc,nAq,cAq]at BB;generalize hb1:w.heap.size+1=b1 at BB|-;generalize hb0:w.heap.size=b0 at BB|-;clear hw1 hb0 hb1;refine(HC.out _).mono ?_;rintro e w2 ⟨rfl,ht⟩;have HL2:=hdq (BB.out.touch ht);clear ht BB HC;obtain⟨Cv,Cs,Cj,Cy,Ck,Ci,⟨Ct,Cu,Cr,Co,Cq,Cn⟩,z0,_,_⟩:=HL2.out.c6 0 rfl;obtain⟨BP,BR,BQ,BV,BU,BX,⟨Cw,Cm,Cx,CG,Cz,CF⟩,z1,_,_⟩:=HL2.out.c6 1 rfl;have DR:=HL2.out.ne 0 1 rfl rfl (by decide);have n10:=Ne.symm DR;have BF:=hdq ((((((HL2.out.set 1 rfl 0 (.slice v.ca v.cn v.cc)).set 1 rfl 1 (.int .i64 v.most)).set 1 rfl 2 (.slice v.la v.ln v.lc)).set 1 rfl 3 (.slice v.ha v.hn v.hc)).set 1 rfl 4 (.slice v.oa v.on v.oc)).set 1 rfl 5 (.slice v.sa v.sn v.sc));simp only[sSq,sZq,sAq]at BF;clear HL2;go_wp2;refine aP ?_;intro w3 hw3;have BH:=hdq (BF.out.toW hw3);clear hw3 BF Cv Ct Cs Cu Cj Cr Cy Co Ck Cq Ci Cn z0 BP Cw BR Cm BQ Cx BV CG BU Cz BX CF z1;obtain⟨BP,BR,BQ,BV,BU,BX,_,_,_,_⟩:=BH.out.c6 1 rfl;refine bodyPost_ret (v:= .tuple #[.agg #[.slice v.ca v.cn v.cc,.int .i64 v.most,.slice v.la v.ln v.lc,.slice v.ha v.hn v.hc,.slice v.oa v.on v.oc,.slice v.sa v.sn v.sc],.int .i64 4]) (by simp[results,Tryz.results158,go_sem,BP,BR,BQ,BV,BU,BX]) rfl ?_;exact⟨rfl,BH.out.BN⟩
theorem JO(v:RV)(w:World)(k:Int)(hk:¬(0<=k/\k<(v.on:Int))):Calls Tryz.prog 159 #[v.val,.int .i64 k] w fun e w'=>e= .returned (.tuple #[v.val,.bool false,.int .i64 4])/\Touch [] w w':=by
 have HC:=hdq (fun W=>jF v W k hk);clear hk;simp only[RV.val];simp only[RV.val]at HC;go_enter Tryz.func159,Tryz.ntmps159
 go_wp2_with fail
 refine ah ?_;intro w1 hw1;have BB:=hdq ((((BD.nil' w).alloc 38 #[.slice v.ca v.cn v.cc,.int .i64 v.most,.slice v.la v.ln v.lc,.slice v.ha v.hn v.hc,.slice v.oa v.on v.oc,.slice v.sa v.sn v.sc]).alloc 38 #[.slice none 0 0,.int .i64 0,.slice none 0 0,.slice none 0 0,.slice none 0 0,.slice none 0 0]).toW hw1);simp only[World.size_alloc,nAq,cAq]at BB;generalize hb1:w.heap.size+1=b1 at BB|-;generalize hb0:w.heap.size=b0 at BB|-;clear hw1 hb0 hb1;refine(HC.out _).mono ?_;rintro e w2 ⟨rfl,ht⟩;have HL2:=hdq (BB.out.touch ht);clear ht BB HC;obtain⟨Cv,Cs,Cj,Cy,Ck,Ci,⟨Ct,Cu,Cr,Co,Cq,Cn⟩,z0,_,_⟩:=HL2.out.c6 0 rfl;obtain⟨BP,BR,BQ,BV,BU,BX,⟨Cw,Cm,Cx,CG,Cz,CF⟩,z1,_,_⟩:=HL2.out.c6 1 rfl;have DR:=HL2.out.ne 0 1 rfl rfl (by decide);have n10:=Ne.symm DR;have BF:=hdq ((((((HL2.out.set 1 rfl 0 (.slice v.ca v.cn v.cc)).set 1 rfl 1 (.int .i64 v.most)).set 1 rfl 2 (.slice v.la v.ln v.lc)).set 1 rfl 3 (.slice v.ha v.hn v.hc)).set 1 rfl 4 (.slice v.oa v.on v.oc)).set 1 rfl 5 (.slice v.sa v.sn v.sc));simp only[sSq,sZq,sAq]at BF;clear HL2;go_wp2;refine aP ?_;intro w3 hw3;have BH:=hdq (BF.out.toW hw3);clear hw3 BF Cv Ct Cs Cu Cj Cr Cy Co Ck Cq Ci Cn z0 BP Cw BR Cm BQ Cx BV CG BU Cz BX CF z1;obtain⟨BP,BR,BQ,BV,BU,BX,_,_,_,_⟩:=BH.out.c6 1 rfl;refine bodyPost_ret (v:= .tuple #[.agg #[.slice v.ca v.cn v.cc,.int .i64 v.most,.slice v.la v.ln v.lc,.slice v.ha v.hn v.hc,.slice v.oa v.on v.oc,.slice v.sa v.sn v.sc],.bool false,.int .i64 4]) (by simp[results,Tryz.results159,go_sem,BP,BR,BQ,BV,BU,BX]) rfl ?_;exact⟨rfl,BH.out.BN⟩
theorem Nn(v:RV)(w:World)(k:Int)(hk:¬(0<=k/\k<(v.on:Int))):Calls Tryz.prog 160 #[v.val,.int .i64 k] w fun e w'=>e= .returned (.tuple #[v.val,.int .i64 4])/\Touch [] w w':=by
 have HC:=hdq (fun W=>jF v W k hk);clear hk;simp only[RV.val];simp only[RV.val]at HC;go_enter Tryz.func160,Tryz.ntmps160
 go_wp2_with fail
 refine ah ?_;intro w1 hw1;have BB:=hdq ((((BD.nil' w).alloc 38 #[.slice v.ca v.cn v.cc,.int .i64 v.most,.slice v.la v.ln v.lc,.slice v.ha v.hn v.hc,.slice v.oa v.on v.oc,.slice v.sa v.sn v.sc]).alloc 38 #[.slice none 0 0,.int .i64 0,.slice none 0 0,.slice none 0 0,.slice none 0 0,.slice none 0 0]).toW hw1);simp only[World.size_alloc,nAq,cAq]at BB;generalize hb1:w.heap.size+1=b1 at BB|-;generalize hb0:w.heap.size=b0 at BB|-;clear hw1 hb0 hb1;refine(HC.out _).mono ?_;rintro e w2 ⟨rfl,ht⟩;have HL2:=hdq (BB.out.touch ht);clear ht BB HC;obtain⟨Cv,Cs,Cj,Cy,Ck,Ci,⟨Ct,Cu,Cr,Co,Cq,Cn⟩,z0,_,_⟩:=HL2.out.c6 0 rfl;obtain⟨BP,BR,BQ,BV,BU,BX,⟨Cw,Cm,Cx,CG,Cz,CF⟩,z1,_,_⟩:=HL2.out.c6 1 rfl;have DR:=HL2.out.ne 0 1 rfl rfl (by decide);have n10:=Ne.symm DR;have BF:=hdq ((((((HL2.out.set 1 rfl 0 (.slice v.ca v.cn v.cc)).set 1 rfl 1 (.int .i64 v.most)).set 1 rfl 2 (.slice v.la v.ln v.lc)).set 1 rfl 3 (.slice v.ha v.hn v.hc)).set 1 rfl 4 (.slice v.oa v.on v.oc)).set 1 rfl 5 (.slice v.sa v.sn v.sc));simp only[sSq,sZq,sAq]at BF;clear HL2;go_wp2;refine aP ?_;intro w3 hw3;have BH:=hdq (BF.out.toW hw3);clear hw3 BF Cv Ct Cs Cu Cj Cr Cy Co Ck Cq Ci Cn z0 BP Cw BR Cm BQ Cx BV CG BU Cz BX CF z1;obtain⟨BP,BR,BQ,BV,BU,BX,_,_,_,_⟩:=BH.out.c6 1 rfl;refine bodyPost_ret (v:= .tuple #[.agg #[.slice v.ca v.cn v.cc,.int .i64 v.most,.slice v.la v.ln v.lc,.slice v.ha v.hn v.hc,.slice v.oa v.on v.oc,.slice v.sa v.sn v.sc],.int .i64 4]) (by simp[results,Tryz.results160,go_sem,BP,BR,BQ,BV,BU,BX]) rfl ?_;exact⟨rfl,BH.out.BN⟩
theorem OD(v:RV)(w:World)(k:Int)(e:ME)(hk:¬(0<=k/\k<(v.on:Int))):Calls Tryz.prog 161 #[v.val,.int .i64 k,e.val] w fun e w'=>e= .returned (.tuple #[v.val,.int .i64 4])/\Touch [] w w':=by
 have HC:=hdq (fun W=>jF v W k hk);clear hk;simp only[RV.val,bB];simp only[RV.val]at HC;go_enter Tryz.func161,Tryz.ntmps161
 go_wp2_with fail
 refine ah ?_;intro w1 hw1;have BB:=hdq (((((BD.nil' w).alloc 38 #[.slice v.ca v.cn v.cc,.int .i64 v.most,.slice v.la v.ln v.lc,.slice v.ha v.hn v.hc,.slice v.oa v.on v.oc,.slice v.sa v.sn v.sc]).alloc 47 #[.int .i64 e.sync,.int .i64 e.thread,.int .i64 e.branch,.int .i64 e.flag,.int .i64 e.v.kind,.int .i64 e.v.num,.slice e.v.addr e.v.parts.length e.v.cap]).alloc 38 #[.slice none 0 0,.int .i64 0,.slice none 0 0,.slice none 0 0,.slice none 0 0,.slice none 0 0]).toW hw1);simp only[World.size_alloc,nAq,cAq]at BB;generalize hb2:w.heap.size+1+1=b2 at BB|-;generalize hb1:w.heap.size+1=b1 at BB|-;generalize hb0:w.heap.size=b0 at BB|-;clear hw1 hb0 hb1 hb2;refine(HC.out _).mono ?_;rintro e w2 ⟨rfl,ht⟩;have HL2:=hdq (BB.out.touch ht);clear ht BB HC;obtain⟨Cv,Cs,Cj,Cy,Ck,Ci,⟨Ct,Cu,Cr,Co,Cq,Cn⟩,z0,_,_⟩:=HL2.out.c6 0 rfl;obtain⟨BP,BR,BQ,BV,BU,BX,Ea,⟨Cw,Cm,Cx,CG,Cz,CF,EG⟩,z1,_,_⟩:=HL2.out.c7 1 rfl;obtain⟨Du,Dq,Dr,Dl,Dp,Dt,⟨En,Ei,Em,Eo,El,Ej⟩,z2,_,_⟩:=HL2.out.c6 2 rfl;have DR:=HL2.out.ne 0 1 rfl rfl (by decide);have n10:=Ne.symm DR;have FI:=HL2.out.ne 0 2 rfl rfl (by decide);have n20:=Ne.symm FI;have n12:=HL2.out.ne 1 2 rfl rfl (by decide);have n21:=Ne.symm n12;have BF:=hdq ((((((HL2.out.set 2 rfl 0 (.slice v.ca v.cn v.cc)).set 2 rfl 1 (.int .i64 v.most)).set 2 rfl 2 (.slice v.la v.ln v.lc)).set 2 rfl 3 (.slice v.ha v.hn v.hc)).set 2 rfl 4 (.slice v.oa v.on v.oc)).set 2 rfl 5 (.slice v.sa v.sn v.sc));simp only[sSq,sZq,sAq]at BF;clear HL2;go_wp2;refine aP ?_;intro w3 hw3;have BH:=hdq (BF.out.toW hw3);clear hw3 BF Cv Ct Cs Cu Cj Cr Cy Co Ck Cq Ci Cn z0 BP Cw BR Cm BQ Cx BV CG BU Cz BX CF Ea EG z1 Du En Dq Ei Dr Em Dl Eo Dp El Dt Ej z2;obtain⟨Du,Dq,Dr,Dl,Dp,Dt,_,_,_,_⟩:=BH.out.c6 2 rfl;refine bodyPost_ret (v:= .tuple #[.agg #[.slice v.ca v.cn v.cc,.int .i64 v.most,.slice v.la v.ln v.lc,.slice v.ha v.hn v.hc,.slice v.oa v.on v.oc,.slice v.sa v.sn v.sc],.int .i64 4]) (by simp[results,Tryz.results161,go_sem,Du,Dq,Dr,Dl,Dp,Dt]) rfl ?_;exact⟨rfl,BH.out.BN⟩
theorem L8(v:RV)(w:World)(k:Int)(hk:¬(0<=k/\k<(v.on:Int))):Calls Tryz.prog 162 #[v.val,.int .i64 k] w fun e w'=>e= .returned (.tuple #[v.val,.agg #[.int .i64 0,.int .i64 0,.int .i64 0,.int .i64 0,.int .i64 0,.int .i64 0,.slice none 0 0],.bool false,.int .i64 4])/\Touch [] w w':=by
 have HC:=hdq (fun W=>jF v W k hk);clear hk;simp only[RV.val];simp only[RV.val]at HC;go_enter Tryz.func162,Tryz.ntmps162
 go_wp2_with fail
 refine ah ?_;intro w1 hw1;have BB:=hdq (((((BD.nil' w).alloc 38 #[.slice v.ca v.cn v.cc,.int .i64 v.most,.slice v.la v.ln v.lc,.slice v.ha v.hn v.hc,.slice v.oa v.on v.oc,.slice v.sa v.sn v.sc]).alloc 38 #[.slice none 0 0,.int .i64 0,.slice none 0 0,.slice none 0 0,.slice none 0 0,.slice none 0 0]).alloc 47 #[.int .i64 0,.int .i64 0,.int .i64 0,.int .i64 0,.int .i64 0,.int .i64 0,.slice none 0 0]).toW hw1);simp only[World.size_alloc,nAq,cAq]at BB;generalize hb2:w.heap.size+1+1=b2 at BB|-;generalize hb1:w.heap.size+1=b1 at BB|-;generalize hb0:w.heap.size=b0 at BB|-;clear hw1 hb0 hb1 hb2;refine(HC.out _).mono ?_;rintro e w2 ⟨rfl,ht⟩;have HL2:=hdq (BB.out.touch ht);clear ht BB HC;obtain⟨Cv,Cs,Cj,Cy,Ck,Ci,⟨Ct,Cu,Cr,Co,Cq,Cn⟩,z0,_,_⟩:=HL2.out.c6 0 rfl;obtain⟨BP,BR,BQ,BV,BU,BX,⟨Cw,Cm,Cx,CG,Cz,CF⟩,z1,_,_⟩:=HL2.out.c6 1 rfl;obtain⟨Du,Dq,Dr,Dl,Dp,Dt,ET,⟨En,Ei,Em,Eo,El,Ej,Gl⟩,z2,_,_⟩:=HL2.out.c7 2 rfl;have DR:=HL2.out.ne 0 1 rfl rfl (by decide);have n10:=Ne.symm DR;have FI:=HL2.out.ne 0 2 rfl rfl (by decide);have n20:=Ne.symm FI;have n12:=HL2.out.ne 1 2 rfl rfl (by decide);have n21:=Ne.symm n12;have BF:=hdq (((((((((((((HL2.out.set 1 rfl 0 (.slice v.ca v.cn v.cc)).set 1 rfl 1 (.int .i64 v.most)).set 1 rfl 2 (.slice v.la v.ln v.lc)).set 1 rfl 3 (.slice v.ha v.hn v.hc)).set 1 rfl 4 (.slice v.oa v.on v.oc)).set 1 rfl 5 (.slice v.sa v.sn v.sc)).set 2 rfl 0 (.int .i64 0)).set 2 rfl 1 (.int .i64 0)).set 2 rfl 2 (.int .i64 0)).set 2 rfl 3 (.int .i64 0)).set 2 rfl 4 (.int .i64 0)).set 2 rfl 5 (.int .i64 0)).set 2 rfl 6 (.slice none 0 0));simp only[sSq,sZq,sAq]at BF;clear HL2;go_wp2;refine aP ?_;intro w3 hw3;have BH:=hdq (BF.out.toW hw3);clear hw3 BF Cv Ct Cs Cu Cj Cr Cy Co Ck Cq Ci Cn z0 BP Cw BR Cm BQ Cx BV CG BU Cz BX CF z1 Du En Dq Ei Dr Em Dl Eo Dp El Dt Ej ET Gl z2;obtain⟨BP,BR,BQ,BV,BU,BX,_,_,_,_⟩:=BH.out.c6 1 rfl;obtain⟨Du,Dq,Dr,Dl,Dp,Dt,ET,_,_,_,_⟩:=BH.out.c7 2 rfl;refine bodyPost_ret (v:= .tuple #[.agg #[.slice v.ca v.cn v.cc,.int .i64 v.most,.slice v.la v.ln v.lc,.slice v.ha v.hn v.hc,.slice v.oa v.on v.oc,.slice v.sa v.sn v.sc],.agg #[.int .i64 0,.int .i64 0,.int .i64 0,.int .i64 0,.int .i64 0,.int .i64 0,.slice none 0 0],.bool false,.int .i64 4]) (by simp[results,Tryz.results162,go_sem,BP,BR,BQ,BV,BU,BX,Du,Dq,Dr,Dl,Dp,Dt,ET]) rfl ?_;exact⟨rfl,BH.out.BN⟩
theorem Ki(v:RV)(w:World)(k:Int)(hk:¬(0<=k/\k<(v.sn:Int))):Calls Tryz.prog 163 #[v.val,.int .i64 k] w fun e w'=>e= .returned (.tuple #[v.val,.int .i64 0,.int .i64 4])/\Touch [] w w':=by
 have HC:=hdq (fun W=>ic v W k hk);clear hk;simp only[RV.val];simp only[RV.val]at HC;go_enter Tryz.func163,Tryz.ntmps163
 go_wp2_with fail
 refine ah ?_;intro w1 hw1;have BB:=hdq ((((BD.nil' w).alloc 38 #[.slice v.ca v.cn v.cc,.int .i64 v.most,.slice v.la v.ln v.lc,.slice v.ha v.hn v.hc,.slice v.oa v.on v.oc,.slice v.sa v.sn v.sc]).alloc 38 #[.slice none 0 0,.int .i64 0,.slice none 0 0,.slice none 0 0,.slice none 0 0,.slice none 0 0]).toW hw1);simp only[World.size_alloc,nAq,cAq]at BB;generalize hb1:w.heap.size+1=b1 at BB|-;generalize hb0:w.heap.size=b0 at BB|-;clear hw1 hb0 hb1;refine(HC.out _).mono ?_;rintro e w2 ⟨rfl,ht⟩;have HL2:=hdq (BB.out.touch ht);clear ht BB HC;obtain⟨Cv,Cs,Cj,Cy,Ck,Ci,⟨Ct,Cu,Cr,Co,Cq,Cn⟩,z0,_,_⟩:=HL2.out.c6 0 rfl;obtain⟨BP,BR,BQ,BV,BU,BX,⟨Cw,Cm,Cx,CG,Cz,CF⟩,z1,_,_⟩:=HL2.out.c6 1 rfl;have DR:=HL2.out.ne 0 1 rfl rfl (by decide);have n10:=Ne.symm DR;have BF:=hdq ((((((HL2.out.set 1 rfl 0 (.slice v.ca v.cn v.cc)).set 1 rfl 1 (.int .i64 v.most)).set 1 rfl 2 (.slice v.la v.ln v.lc)).set 1 rfl 3 (.slice v.ha v.hn v.hc)).set 1 rfl 4 (.slice v.oa v.on v.oc)).set 1 rfl 5 (.slice v.sa v.sn v.sc));simp only[sSq,sZq,sAq]at BF;clear HL2;go_wp2;refine aP ?_;intro w3 hw3;have BH:=hdq (BF.out.toW hw3);clear hw3 BF Cv Ct Cs Cu Cj Cr Cy Co Ck Cq Ci Cn z0 BP Cw BR Cm BQ Cx BV CG BU Cz BX CF z1;obtain⟨BP,BR,BQ,BV,BU,BX,_,_,_,_⟩:=BH.out.c6 1 rfl;refine bodyPost_ret (v:= .tuple #[.agg #[.slice v.ca v.cn v.cc,.int .i64 v.most,.slice v.la v.ln v.lc,.slice v.ha v.hn v.hc,.slice v.oa v.on v.oc,.slice v.sa v.sn v.sc],.int .i64 0,.int .i64 4]) (by simp[results,Tryz.results163,go_sem,BP,BR,BQ,BV,BU,BX]) rfl ?_;exact⟨rfl,BH.out.BN⟩
theorem NP(v:RV)(w:World)(k:Int)(hk:¬(0<=k/\k<(v.sn:Int))):Calls Tryz.prog 165 #[v.val,.int .i64 k] w fun e w'=>e= .returned (.tuple #[v.val,.int .i64 0,.int .i64 4])/\Touch [] w w':=by
 have HC:=hdq (fun W=>ic v W k hk);clear hk;simp only[RV.val];simp only[RV.val]at HC;go_enter Tryz.func165,Tryz.ntmps165
 go_wp2_with fail
 refine ah ?_;intro w1 hw1;have BB:=hdq ((((BD.nil' w).alloc 38 #[.slice v.ca v.cn v.cc,.int .i64 v.most,.slice v.la v.ln v.lc,.slice v.ha v.hn v.hc,.slice v.oa v.on v.oc,.slice v.sa v.sn v.sc]).alloc 38 #[.slice none 0 0,.int .i64 0,.slice none 0 0,.slice none 0 0,.slice none 0 0,.slice none 0 0]).toW hw1);simp only[World.size_alloc,nAq,cAq]at BB;generalize hb1:w.heap.size+1=b1 at BB|-;generalize hb0:w.heap.size=b0 at BB|-;clear hw1 hb0 hb1;refine(HC.out _).mono ?_;rintro e w2 ⟨rfl,ht⟩;have HL2:=hdq (BB.out.touch ht);clear ht BB HC;obtain⟨Cv,Cs,Cj,Cy,Ck,Ci,⟨Ct,Cu,Cr,Co,Cq,Cn⟩,z0,_,_⟩:=HL2.out.c6 0 rfl;obtain⟨BP,BR,BQ,BV,BU,BX,⟨Cw,Cm,Cx,CG,Cz,CF⟩,z1,_,_⟩:=HL2.out.c6 1 rfl;have DR:=HL2.out.ne 0 1 rfl rfl (by decide);have n10:=Ne.symm DR;have BF:=hdq ((((((HL2.out.set 1 rfl 0 (.slice v.ca v.cn v.cc)).set 1 rfl 1 (.int .i64 v.most)).set 1 rfl 2 (.slice v.la v.ln v.lc)).set 1 rfl 3 (.slice v.ha v.hn v.hc)).set 1 rfl 4 (.slice v.oa v.on v.oc)).set 1 rfl 5 (.slice v.sa v.sn v.sc));simp only[sSq,sZq,sAq]at BF;clear HL2;go_wp2;refine aP ?_;intro w3 hw3;have BH:=hdq (BF.out.toW hw3);clear hw3 BF Cv Ct Cs Cu Cj Cr Cy Co Ck Cq Ci Cn z0 BP Cw BR Cm BQ Cx BV CG BU Cz BX CF z1;obtain⟨BP,BR,BQ,BV,BU,BX,_,_,_,_⟩:=BH.out.c6 1 rfl;refine bodyPost_ret (v:= .tuple #[.agg #[.slice v.ca v.cn v.cc,.int .i64 v.most,.slice v.la v.ln v.lc,.slice v.ha v.hn v.hc,.slice v.oa v.on v.oc,.slice v.sa v.sn v.sc],.int .i64 0,.int .i64 4]) (by simp[results,Tryz.results165,go_sem,BP,BR,BQ,BV,BU,BX]) rfl ?_;exact⟨rfl,BH.out.BN⟩
theorem zk(v:RV)(w:World)(k:Int)(hk:¬(0<=k/\k<(v.sn:Int))):Calls Tryz.prog 167 #[v.val,.int .i64 k] w fun e w'=>e= .returned (.tuple #[v.val,.int .i64 0,.int .i64 4])/\Touch [] w w':=by
 have HC:=hdq (fun W=>ic v W k hk);clear hk;simp only[RV.val];simp only[RV.val]at HC;go_enter Tryz.func167,Tryz.ntmps167
 go_wp2_with fail
 refine ah ?_;intro w1 hw1;have BB:=hdq ((((BD.nil' w).alloc 38 #[.slice v.ca v.cn v.cc,.int .i64 v.most,.slice v.la v.ln v.lc,.slice v.ha v.hn v.hc,.slice v.oa v.on v.oc,.slice v.sa v.sn v.sc]).alloc 38 #[.slice none 0 0,.int .i64 0,.slice none 0 0,.slice none 0 0,.slice none 0 0,.slice none 0 0]).toW hw1);simp only[World.size_alloc,nAq,cAq]at BB;generalize hb1:w.heap.size+1=b1 at BB|-;generalize hb0:w.heap.size=b0 at BB|-;clear hw1 hb0 hb1;refine(HC.out _).mono ?_;rintro e w2 ⟨rfl,ht⟩;have HL2:=hdq (BB.out.touch ht);clear ht BB HC;obtain⟨Cv,Cs,Cj,Cy,Ck,Ci,⟨Ct,Cu,Cr,Co,Cq,Cn⟩,z0,_,_⟩:=HL2.out.c6 0 rfl;obtain⟨BP,BR,BQ,BV,BU,BX,⟨Cw,Cm,Cx,CG,Cz,CF⟩,z1,_,_⟩:=HL2.out.c6 1 rfl;have DR:=HL2.out.ne 0 1 rfl rfl (by decide);have n10:=Ne.symm DR;have BF:=hdq ((((((HL2.out.set 1 rfl 0 (.slice v.ca v.cn v.cc)).set 1 rfl 1 (.int .i64 v.most)).set 1 rfl 2 (.slice v.la v.ln v.lc)).set 1 rfl 3 (.slice v.ha v.hn v.hc)).set 1 rfl 4 (.slice v.oa v.on v.oc)).set 1 rfl 5 (.slice v.sa v.sn v.sc));simp only[sSq,sZq,sAq]at BF;clear HL2;go_wp2;refine aP ?_;intro w3 hw3;have BH:=hdq (BF.out.toW hw3);clear hw3 BF Cv Ct Cs Cu Cj Cr Cy Co Ck Cq Ci Cn z0 BP Cw BR Cm BQ Cx BV CG BU Cz BX CF z1;obtain⟨BP,BR,BQ,BV,BU,BX,_,_,_,_⟩:=BH.out.c6 1 rfl;refine bodyPost_ret (v:= .tuple #[.agg #[.slice v.ca v.cn v.cc,.int .i64 v.most,.slice v.la v.ln v.lc,.slice v.ha v.hn v.hc,.slice v.oa v.on v.oc,.slice v.sa v.sn v.sc],.int .i64 0,.int .i64 4]) (by simp[results,Tryz.results167,go_sem,BP,BR,BQ,BV,BU,BX]) rfl ?_;exact⟨rfl,BH.out.BN⟩
theorem wI(v:RV)(w:World)(k:Int)(hk:¬(0<=k/\k<(v.sn:Int))):Calls Tryz.prog 164 #[v.val,.int .i64 k] w fun e w'=>e= .returned (.tuple #[v.val,.int .i64 4])/\Touch [] w w':=by
 have HC:=hdq (fun W=>ic v W k hk);clear hk;simp only[RV.val];simp only[RV.val]at HC;go_enter Tryz.func164,Tryz.ntmps164
 go_wp2_with fail
 refine ah ?_;intro w1 hw1;have BB:=hdq ((((BD.nil' w).alloc 38 #[.slice v.ca v.cn v.cc,.int .i64 v.most,.slice v.la v.ln v.lc,.slice v.ha v.hn v.hc,.slice v.oa v.on v.oc,.slice v.sa v.sn v.sc]).alloc 38 #[.slice none 0 0,.int .i64 0,.slice none 0 0,.slice none 0 0,.slice none 0 0,.slice none 0 0]).toW hw1);simp only[World.size_alloc,nAq,cAq]at BB;generalize hb1:w.heap.size+1=b1 at BB|-;generalize hb0:w.heap.size=b0 at BB|-;clear hw1 hb0 hb1;refine(HC.out _).mono ?_;rintro e w2 ⟨rfl,ht⟩;have HL2:=hdq (BB.out.touch ht);clear ht BB HC;obtain⟨Cv,Cs,Cj,Cy,Ck,Ci,⟨Ct,Cu,Cr,Co,Cq,Cn⟩,z0,_,_⟩:=HL2.out.c6 0 rfl;obtain⟨BP,BR,BQ,BV,BU,BX,⟨Cw,Cm,Cx,CG,Cz,CF⟩,z1,_,_⟩:=HL2.out.c6 1 rfl;have DR:=HL2.out.ne 0 1 rfl rfl (by decide);have n10:=Ne.symm DR;have BF:=hdq ((((((HL2.out.set 1 rfl 0 (.slice v.ca v.cn v.cc)).set 1 rfl 1 (.int .i64 v.most)).set 1 rfl 2 (.slice v.la v.ln v.lc)).set 1 rfl 3 (.slice v.ha v.hn v.hc)).set 1 rfl 4 (.slice v.oa v.on v.oc)).set 1 rfl 5 (.slice v.sa v.sn v.sc));simp only[sSq,sZq,sAq]at BF;clear HL2;go_wp2;refine aP ?_;intro w3 hw3;have BH:=hdq (BF.out.toW hw3);clear hw3 BF Cv Ct Cs Cu Cj Cr Cy Co Ck Cq Ci Cn z0 BP Cw BR Cm BQ Cx BV CG BU Cz BX CF z1;obtain⟨BP,BR,BQ,BV,BU,BX,_,_,_,_⟩:=BH.out.c6 1 rfl;refine bodyPost_ret (v:= .tuple #[.agg #[.slice v.ca v.cn v.cc,.int .i64 v.most,.slice v.la v.ln v.lc,.slice v.ha v.hn v.hc,.slice v.oa v.on v.oc,.slice v.sa v.sn v.sc],.int .i64 4]) (by simp[results,Tryz.results164,go_sem,BP,BR,BQ,BV,BU,BX]) rfl ?_;exact⟨rfl,BH.out.BN⟩
theorem Br(v:RV)(w:World)(k:Int)(hk:¬(0<=k/\k<(v.sn:Int))):Calls Tryz.prog 166 #[v.val,.int .i64 k] w fun e w'=>e= .returned (.tuple #[v.val,.int .i64 4])/\Touch [] w w':=by
 have HC:=hdq (fun W=>ic v W k hk);clear hk;simp only[RV.val];simp only[RV.val]at HC;go_enter Tryz.func166,Tryz.ntmps166
 go_wp2_with fail
 refine ah ?_;intro w1 hw1;have BB:=hdq ((((BD.nil' w).alloc 38 #[.slice v.ca v.cn v.cc,.int .i64 v.most,.slice v.la v.ln v.lc,.slice v.ha v.hn v.hc,.slice v.oa v.on v.oc,.slice v.sa v.sn v.sc]).alloc 38 #[.slice none 0 0,.int .i64 0,.slice none 0 0,.slice none 0 0,.slice none 0 0,.slice none 0 0]).toW hw1);simp only[World.size_alloc,nAq,cAq]at BB;generalize hb1:w.heap.size+1=b1 at BB|-;generalize hb0:w.heap.size=b0 at BB|-;clear hw1 hb0 hb1;refine(HC.out _).mono ?_;rintro e w2 ⟨rfl,ht⟩;have HL2:=hdq (BB.out.touch ht);clear ht BB HC;obtain⟨Cv,Cs,Cj,Cy,Ck,Ci,⟨Ct,Cu,Cr,Co,Cq,Cn⟩,z0,_,_⟩:=HL2.out.c6 0 rfl;obtain⟨BP,BR,BQ,BV,BU,BX,⟨Cw,Cm,Cx,CG,Cz,CF⟩,z1,_,_⟩:=HL2.out.c6 1 rfl;have DR:=HL2.out.ne 0 1 rfl rfl (by decide);have n10:=Ne.symm DR;have BF:=hdq ((((((HL2.out.set 1 rfl 0 (.slice v.ca v.cn v.cc)).set 1 rfl 1 (.int .i64 v.most)).set 1 rfl 2 (.slice v.la v.ln v.lc)).set 1 rfl 3 (.slice v.ha v.hn v.hc)).set 1 rfl 4 (.slice v.oa v.on v.oc)).set 1 rfl 5 (.slice v.sa v.sn v.sc));simp only[sSq,sZq,sAq]at BF;clear HL2;go_wp2;refine aP ?_;intro w3 hw3;have BH:=hdq (BF.out.toW hw3);clear hw3 BF Cv Ct Cs Cu Cj Cr Cy Co Ck Cq Ci Cn z0 BP Cw BR Cm BQ Cx BV CG BU Cz BX CF z1;obtain⟨BP,BR,BQ,BV,BU,BX,_,_,_,_⟩:=BH.out.c6 1 rfl;refine bodyPost_ret (v:= .tuple #[.agg #[.slice v.ca v.cn v.cc,.int .i64 v.most,.slice v.la v.ln v.lc,.slice v.ha v.hn v.hc,.slice v.oa v.on v.oc,.slice v.sa v.sn v.sc],.int .i64 4]) (by simp[results,Tryz.results166,go_sem,BP,BR,BQ,BV,BU,BX]) rfl ?_;exact⟨rfl,BH.out.BN⟩
theorem Ap(v:RV)(w:World)(k:Int)(br:Int)(u:MT)(pt:Int)(hk:¬(0<=k/\k<(v.sn:Int))):Calls Tryz.prog 168 #[v.val,.int .i64 k,.int .i64 br,u.val,.int .i64 pt] w fun e w'=>e= .returned (.tuple #[v.val,.int .i64 4])/\Touch [] w w':=by
 have HC:=hdq (fun W=>ic v W k hk);clear hk;simp only[RV.val,MT.val,MT.sl];simp only[RV.val]at HC;go_enter Tryz.func168,Tryz.ntmps168
 go_wp2_with fail
 refine ah ?_;intro w1 hw1;have BB:=hdq (((((BD.nil' w).alloc 38 #[.slice v.ca v.cn v.cc,.int .i64 v.most,.slice v.la v.ln v.lc,.slice v.ha v.hn v.hc,.slice v.oa v.on v.oc,.slice v.sa v.sn v.sc]).alloc 45 #[.int .i64 u.kind,.int .i64 u.num,.slice u.addr u.parts.length u.cap]).alloc 38 #[.slice none 0 0,.int .i64 0,.slice none 0 0,.slice none 0 0,.slice none 0 0,.slice none 0 0]).toW hw1);simp only[World.size_alloc,nAq,cAq]at BB;generalize hb2:w.heap.size+1+1=b2 at BB|-;generalize hb1:w.heap.size+1=b1 at BB|-;generalize hb0:w.heap.size=b0 at BB|-;clear hw1 hb0 hb1 hb2;refine(HC.out _).mono ?_;rintro e w2 ⟨rfl,ht⟩;have HL2:=hdq (BB.out.touch ht);clear ht BB HC;obtain⟨Cv,Cs,Cj,Cy,Ck,Ci,⟨Ct,Cu,Cr,Co,Cq,Cn⟩,z0,_,_⟩:=HL2.out.c6 0 rfl;obtain⟨BP,BR,BQ,Cw,Cm,Cx,z1,_,_⟩:=HL2.out.c3 1 rfl;obtain⟨Du,Dq,Dr,Dl,Dp,Dt,⟨En,Ei,Em,Eo,El,Ej⟩,z2,_,_⟩:=HL2.out.c6 2 rfl;have DR:=HL2.out.ne 0 1 rfl rfl (by decide);have n10:=Ne.symm DR;have FI:=HL2.out.ne 0 2 rfl rfl (by decide);have n20:=Ne.symm FI;have n12:=HL2.out.ne 1 2 rfl rfl (by decide);have n21:=Ne.symm n12;have BF:=hdq ((((((HL2.out.set 2 rfl 0 (.slice v.ca v.cn v.cc)).set 2 rfl 1 (.int .i64 v.most)).set 2 rfl 2 (.slice v.la v.ln v.lc)).set 2 rfl 3 (.slice v.ha v.hn v.hc)).set 2 rfl 4 (.slice v.oa v.on v.oc)).set 2 rfl 5 (.slice v.sa v.sn v.sc));simp only[sSq,sZq,sAq]at BF;clear HL2;go_wp2;refine aP ?_;intro w3 hw3;have BH:=hdq (BF.out.toW hw3);clear hw3 BF Cv Ct Cs Cu Cj Cr Cy Co Ck Cq Ci Cn z0 BP Cw BR Cm BQ Cx z1 Du En Dq Ei Dr Em Dl Eo Dp El Dt Ej z2;obtain⟨Du,Dq,Dr,Dl,Dp,Dt,_,_,_,_⟩:=BH.out.c6 2 rfl;refine bodyPost_ret (v:= .tuple #[.agg #[.slice v.ca v.cn v.cc,.int .i64 v.most,.slice v.la v.ln v.lc,.slice v.ha v.hn v.hc,.slice v.oa v.on v.oc,.slice v.sa v.sn v.sc],.int .i64 4]) (by simp[results,Tryz.results168,go_sem,Du,Dq,Dr,Dl,Dp,Dt]) rfl ?_;exact⟨rfl,BH.out.BN⟩
theorem Ot(v:RV)(w:World)(k:Int)(hk:¬(0<=k/\k<(v.sn:Int))):Calls Tryz.prog 170 #[v.val,.int .i64 k] w fun e w'=>e= .returned (.tuple #[v.val,.int .i64 4])/\Touch [] w w':=by
 have HC:=hdq (fun W=>ic v W k hk);clear hk;simp only[RV.val];simp only[RV.val]at HC;go_enter Tryz.func170,Tryz.ntmps170
 go_wp2_with fail
 refine ah ?_;intro w1 hw1;have BB:=hdq ((((BD.nil' w).alloc 38 #[.slice v.ca v.cn v.cc,.int .i64 v.most,.slice v.la v.ln v.lc,.slice v.ha v.hn v.hc,.slice v.oa v.on v.oc,.slice v.sa v.sn v.sc]).alloc 38 #[.slice none 0 0,.int .i64 0,.slice none 0 0,.slice none 0 0,.slice none 0 0,.slice none 0 0]).toW hw1);simp only[World.size_alloc,nAq,cAq]at BB;generalize hb1:w.heap.size+1=b1 at BB|-;generalize hb0:w.heap.size=b0 at BB|-;clear hw1 hb0 hb1;refine(HC.out _).mono ?_;rintro e w2 ⟨rfl,ht⟩;have HL2:=hdq (BB.out.touch ht);clear ht BB HC;obtain⟨Cv,Cs,Cj,Cy,Ck,Ci,⟨Ct,Cu,Cr,Co,Cq,Cn⟩,z0,_,_⟩:=HL2.out.c6 0 rfl;obtain⟨BP,BR,BQ,BV,BU,BX,⟨Cw,Cm,Cx,CG,Cz,CF⟩,z1,_,_⟩:=HL2.out.c6 1 rfl;have DR:=HL2.out.ne 0 1 rfl rfl (by decide);have n10:=Ne.symm DR;have BF:=hdq ((((((HL2.out.set 1 rfl 0 (.slice v.ca v.cn v.cc)).set 1 rfl 1 (.int .i64 v.most)).set 1 rfl 2 (.slice v.la v.ln v.lc)).set 1 rfl 3 (.slice v.ha v.hn v.hc)).set 1 rfl 4 (.slice v.oa v.on v.oc)).set 1 rfl 5 (.slice v.sa v.sn v.sc));simp only[sSq,sZq,sAq]at BF;clear HL2;go_wp2;refine aP ?_;intro w3 hw3;have BH:=hdq (BF.out.toW hw3);clear hw3 BF Cv Ct Cs Cu Cj Cr Cy Co Ck Cq Ci Cn z0 BP Cw BR Cm BQ Cx BV CG BU Cz BX CF z1;obtain⟨BP,BR,BQ,BV,BU,BX,_,_,_,_⟩:=BH.out.c6 1 rfl;refine bodyPost_ret (v:= .tuple #[.agg #[.slice v.ca v.cn v.cc,.int .i64 v.most,.slice v.la v.ln v.lc,.slice v.ha v.hn v.hc,.slice v.oa v.on v.oc,.slice v.sa v.sn v.sc],.int .i64 4]) (by simp[results,Tryz.results170,go_sem,BP,BR,BQ,BV,BU,BX]) rfl ?_;exact⟨rfl,BH.out.BN⟩
theorem JY(v:RV)(w:World)(k:Int)(br:Int)(hk:¬(0<=k/\k<(v.sn:Int))):Calls Tryz.prog 171 #[v.val,.int .i64 k,.int .i64 br] w fun e w'=>e= .returned (.tuple #[.agg #[.int .i64 0,.int .i64 0,.int .i64 0,.int .i64 0,.int .i64 0,.int .i64 0,.slice none 0 0],.int .i64 4])/\Touch [] w w':=by
 have HC:=hdq (fun W=>ic v W k hk);clear hk;simp only[RV.val];simp only[RV.val]at HC;go_enter Tryz.func171,Tryz.ntmps171
 go_wp2_with fail
 refine ah ?_;intro w1 hw1;have BB:=hdq ((((BD.nil' w).alloc 38 #[.slice v.ca v.cn v.cc,.int .i64 v.most,.slice v.la v.ln v.lc,.slice v.ha v.hn v.hc,.slice v.oa v.on v.oc,.slice v.sa v.sn v.sc]).alloc 47 #[.int .i64 0,.int .i64 0,.int .i64 0,.int .i64 0,.int .i64 0,.int .i64 0,.slice none 0 0]).toW hw1);simp only[World.size_alloc,nAq,cAq]at BB;generalize hb1:w.heap.size+1=b1 at BB|-;generalize hb0:w.heap.size=b0 at BB|-;clear hw1 hb0 hb1;refine(HC.out _).mono ?_;rintro e w2 ⟨rfl,ht⟩;have HL2:=hdq (BB.out.touch ht);clear ht BB HC;obtain⟨Cv,Cs,Cj,Cy,Ck,Ci,⟨Ct,Cu,Cr,Co,Cq,Cn⟩,z0,_,_⟩:=HL2.out.c6 0 rfl;obtain⟨BP,BR,BQ,BV,BU,BX,Ea,⟨Cw,Cm,Cx,CG,Cz,CF,EG⟩,z1,_,_⟩:=HL2.out.c7 1 rfl;have DR:=HL2.out.ne 0 1 rfl rfl (by decide);have n10:=Ne.symm DR;have BF:=hdq (((((((HL2.out.set 1 rfl 0 (.int .i64 0)).set 1 rfl 1 (.int .i64 0)).set 1 rfl 2 (.int .i64 0)).set 1 rfl 3 (.int .i64 0)).set 1 rfl 4 (.int .i64 0)).set 1 rfl 5 (.int .i64 0)).set 1 rfl 6 (.slice none 0 0));simp only[sSq,sZq,sAq]at BF;clear HL2;go_wp2;refine aP ?_;intro w3 hw3;have BH:=hdq (BF.out.toW hw3);clear hw3 BF Cv Ct Cs Cu Cj Cr Cy Co Ck Cq Ci Cn z0 BP Cw BR Cm BQ Cx BV CG BU Cz BX CF Ea EG z1;obtain⟨BP,BR,BQ,BV,BU,BX,Ea,_,_,_,_⟩:=BH.out.c7 1 rfl;refine bodyPost_ret (v:= .tuple #[.agg #[.int .i64 0,.int .i64 0,.int .i64 0,.int .i64 0,.int .i64 0,.int .i64 0,.slice none 0 0],.int .i64 4]) (by simp[results,Tryz.results171,go_sem,BP,BR,BQ,BV,BU,BX,Ea]) rfl ?_;exact⟨rfl,BH.out.BN⟩
theorem Nt(v:RV)(w:World)(k:Int)(hk:¬(0<=k/\k<(v.sn:Int))):Calls Tryz.prog 169 #[v.val,.int .i64 k] w fun e w'=>e= .returned (.tuple #[v.val,.bool false,.int .i64 4])/\Touch [] w w':=by
 have HC:=hdq (fun W=>zk v W k hk);clear hk;simp only[RV.val];simp only[RV.val]at HC;go_enter Tryz.func169,Tryz.ntmps169
 go_wp2_with fail
 refine ah ?_;intro w1 hw1;have BB:=hdq ((((BD.nil' w).alloc 38 #[.slice v.ca v.cn v.cc,.int .i64 v.most,.slice v.la v.ln v.lc,.slice v.ha v.hn v.hc,.slice v.oa v.on v.oc,.slice v.sa v.sn v.sc]).alloc 38 #[.slice none 0 0,.int .i64 0,.slice none 0 0,.slice none 0 0,.slice none 0 0,.slice none 0 0]).toW hw1);simp only[World.size_alloc,nAq,cAq]at BB;generalize hb1:w.heap.size+1=b1 at BB|-;generalize hb0:w.heap.size=b0 at BB|-;clear hw1 hb1 hb0;refine(HC.out _).mono ?_;rintro e w2 ⟨rfl,ht⟩;have HL2:=hdq (BB.out.touch ht);clear ht BB HC;go_upto_region 2 with fail
 refine ay ?_;intro w3 hw3;have BF:=hdq (HL2.out.DN hw3);simp only[nAq,cAq]at BF;generalize hb2:w2.heap.size=b2 at BF|-;clear hw3 hb2 HL2;obtain⟨p0,p1,p2,p3,p4,p5,⟨f0,f1,f2,f3,f4,f5⟩,z1,_,_⟩:=BF.out.c6 1 rfl;obtain⟨q0,q1,q2,q3,q4,q5,_,z2,_,_⟩:=BF.out.c6 2 rfl;have n12:=BF.out.ne 1 2 rfl rfl (by decide);have n21:=Ne.symm n12;have BH:=hdq ((((((BF.out.set 1 rfl 0 (.slice v.ca v.cn v.cc)).set 1 rfl 1 (.int .i64 v.most)).set 1 rfl 2 (.slice v.la v.ln v.lc)).set 1 rfl 3 (.slice v.ha v.hn v.hc)).set 1 rfl 4 (.slice v.oa v.on v.oc)).set 1 rfl 5 (.slice v.sa v.sn v.sc));simp only[sSq,sZq,sAq]at BH;clear BF;go_wp2;refine aP ?_;intro w5 DC;have Ca:=hdq (BH.out.toW DC);clear DC BH p0 p1 p2 p3 p4 p5 f0 f1 f2 f3 f4 f5 z1 q0 q1 q2 q3 q4 q5 z2 n12 n21;obtain⟨p0,p1,p2,p3,p4,p5,_,_,_,_⟩:=Ca.out.c6 1 rfl;refine bodyPost_ret (v:= .tuple #[.agg #[.slice v.ca v.cn v.cc,.int .i64 v.most,.slice v.la v.ln v.lc,.slice v.ha v.hn v.hc,.slice v.oa v.on v.oc,.slice v.sa v.sn v.sc],.bool false,.int .i64 4]) (by simp[results,Tryz.results169,go_sem,p0,p1,p2,p3,p4,p5]) rfl ?_;exact⟨rfl,Ca.out.BN⟩
def MT.E8(v:MT):Prop:=v.kind=0/\v.num=0/\v.parts.length=0
theorem lu{p q:Prop}{w w0 w':World}{e:Ending}(h:aI p w e w')(hpq:p↔q)(ht:Touch [] w0 w):aI q w0 e w':=by
 obtain⟨c,he,hc,h2⟩:=h;exact⟨c,he,hc.trans hpq,ht.trans' h2⟩
theorem xO(v:MT)(w:World):Calls Tryz.prog 282 #[v.val] w (aI v.E8 w):=by
 have HT:Hid (Touch [] w (w.alloc (.cells #[.int .i64 v.kind,.int .i64 v.num,.slice v.addr v.parts.length v.cap] 45))):=(Touch.refl [] w).alloc _;have z1:w.heap.size<w.heap.size+1:=by omega
 have HY:Hid (v.E8->aI v.E8 w (.returned (.bool true)) (w.alloc (.cells #[.int .i64 v.kind,.int .i64 v.num,.slice v.addr v.parts.length v.cap] 45))):=fun h=>⟨true,rfl,by simp[h],HT.out⟩;have HN:Hid (¬v.E8->aI v.E8 w (.returned (.bool false)) (w.alloc (.cells #[.int .i64 v.kind,.int .i64 v.num,.slice v.addr v.parts.length v.cap] 45))):=fun h=>⟨false,rfl,by simp[h],HT.out⟩;obtain⟨p,hp⟩:∃p,v.E8=p:=⟨_,rfl⟩;simp only[MT.val,MT.sl];by_cases h1:v.kind=0
 .by_cases h2:v.num=0
  .by_cases h3:v.parts.length=0
   .have HE:=hdq (HY.out ⟨h1,h2,h3⟩)
    clear HY HN HT;rw[h1,h2,h3]at HE|-;go_enter Tryz.func282,Tryz.ntmps282
    go_wp2;go_ret
    exact HE.out
   .have HE:=hdq (HN.out (fun h=>h3 h.2.2))
    have h3':((v.parts.length:Int)==0)=false:=by simp;exact fun h=>h3 (by simp[h])
    clear HY HN HT;rw[h1,h2]at HE|-;go_enter Tryz.func282,Tryz.ntmps282
    go_wp2;go_ret
    exact HE.out
  .have HE:=hdq (HN.out (fun h=>h2 h.2.1))
   clear HY HN HT;rw[h1]at HE|-;have h2':decide (v.num=0)=false:=decide_eq_false h2;go_enter Tryz.func282,Tryz.ntmps282
   go_wp2;go_ret
   exact HE.out
 .have HE:=hdq (HN.out (fun h=>h1 h.1))
  have h1':decide (v.kind=0)=false:=decide_eq_false h1;clear HY HN HT;go_enter Tryz.func282,Tryz.ntmps282
  go_wp2;go_ret
  exact HE.out
theorem J8(b:MB)(w:World)(p:Option Addr)(hb:b.v.In w):Calls Tryz.prog 255 #[.pointer p,b.val] w (aI (b.n=0/\b.v.plain.Ok) w):=by
 have HC:Hid (∀W,Touch [] w W->Calls Tryz.prog 132 #[.agg #[.int .i64 b.v.kind,.int .i64 b.v.num,.slice b.v.addr b.v.parts.length b.v.cap]] W fun e w'=>(∃z:Int,e= .returned (.int .i64 z)/\(z=0\/z=40)/\(z=0↔b.v.plain.Ok))/\Touch [] W w'):=fun W hW=>jH b.v W (hb.aO hW);simp only[MB.val];have z1:w.heap.size<w.heap.size+1:=by omega
 by_cases hn:b.n=0
 .rw[hn]
  go_enter Tryz.func255,Tryz.ntmps255
  go_wp2_with fail
  refine ah ?_;intro w1 hw1;have BB:=hdq ((BD.nil' w).DN hw1);clear hw1;refine(HC.out _ BB.out.BN).mono ?_;rintro e w2 ⟨⟨z,rfl,hz,hiff⟩,ht⟩;have HT2:=hdq (BB.out.BN.trans' ht);have HIF:=hdq hiff;clear ht BB HC hiff;rcases hz with rfl|rfl
  .go_wp2
   go_ret
   have hok:b.v.plain.Ok:=by simpa using HIF.out
   exact⟨true,rfl,by simp[hn,hok],HT2.out⟩
  .go_wp2
   go_ret
   have hok:¬b.v.plain.Ok:=by simpa using HIF.out
   exact⟨false,rfl,by simp[hn,hok],HT2.out⟩
 .have h1':decide (b.n=0)=false:=decide_eq_false hn
  have HE:=hdq (show aI (b.n=0/\b.v.plain.Ok) w (.returned (.bool false)) _ from⟨false,rfl,by simp[hn],(Touch.refl [] w).alloc (.cells #[.int .i64 b.kind,.int .i64 b.n,.int .i64 b.v.kind,.int .i64 b.v.num,.slice b.v.addr b.v.parts.length b.v.cap,.slice b.wa b.wraps.length b.wc,.slice b.na b.aT.length b.nc] 110)⟩);clear HC;go_enter Tryz.func255,Tryz.ntmps255
  go_wp2;go_ret
  exact HE.out
theorem NU(b:MB)(w:World)(p:Option Addr)(hb:b.v.In w):Calls Tryz.prog 256 #[.pointer p,b.val] w (aI (b.n=0/\b.v.E8) w):=by
 have HC:Hid (∀W,Touch [] w W->Calls Tryz.prog 282 #[.agg #[.int .i64 b.v.kind,.int .i64 b.v.num,.slice b.v.addr b.v.parts.length b.v.cap]] W (aI b.v.E8 W)):=fun W hW=>xO b.v W;simp only[MB.val];have z1:w.heap.size<w.heap.size+1:=by omega
 by_cases hn:b.n=0
 .rw[hn]
  go_enter Tryz.func256,Tryz.ntmps256
  go_wp2_with fail
  refine ah ?_;intro w1 hw1;have BB:=hdq ((BD.nil' w).DN hw1);clear hw1;refine(HC.out _ BB.out.BN).mono ?_;rintro e w2 ⟨c,rfl,hc,ht⟩;have HT2:=hdq (BB.out.BN.trans' ht);have HIF:=hdq hc;clear ht BB HC hc;go_wp2;go_ret
  exact⟨c,rfl,by simp[hn,HIF.out],HT2.out⟩
 .have h1':decide (b.n=0)=false:=decide_eq_false hn
  have HE:=hdq (show aI (b.n=0/\b.v.E8) w (.returned (.bool false)) _ from⟨false,rfl,by simp[hn],(Touch.refl [] w).alloc (.cells #[.int .i64 b.kind,.int .i64 b.n,.int .i64 b.v.kind,.int .i64 b.v.num,.slice b.v.addr b.v.parts.length b.v.cap,.slice b.wa b.wraps.length b.wc,.slice b.na b.aT.length b.nc] 110)⟩);clear HC;go_enter Tryz.func256,Tryz.ntmps256
  go_wp2;go_ret
  exact HE.out
def tC(b:MB)(n1:Nat)(w:World):Ending->World->Prop:=aI ((0<=b.n/\b.n<(n1:Int))/\b.v.plain.Ok) w
def sK(b:MB)(n1:Nat)(w:World):Ending->World->Prop:=aI ((0<=b.n/\b.n<(n1:Int))/\b.v.E8) w
theorem Mr(b:MB)(w:World)(wb:Nat)(a1:Option Addr)(n1 c1:Nat)(hb:b.v.In w)(hw:w.cell? ⟨wb,1,none⟩=some (.slice a1 n1 c1)):Calls Tryz.prog 253 #[.pointer (some ⟨wb,0,none⟩),b.val] w (aI ((0<=b.n/\b.n<(n1:Int))/\b.v.plain.Ok) w):=by
 have HC:Hid (∀W,Touch [] w W->Calls Tryz.prog 132 #[.agg #[.int .i64 b.v.kind,.int .i64 b.v.num,.slice b.v.addr b.v.parts.length b.v.cap]] W fun e w'=>(∃z:Int,e= .returned (.int .i64 z)/\(z=0\/z=40)/\(z=0↔b.v.plain.Ok))/\Touch [] W w'):=fun W hW=>jH b.v W (hb.aO hW);simp only[MB.val];show Calls _ _ _ _ (tC b n1 w)
 have z1:w.heap.size<w.heap.size+1:=by omega
 go_enter Tryz.func253,Tryz.ntmps253
 go_upto_region 1 with fail
 refine ay ?_;intro w1 hw0;have BB:=hdq ((BD.nil' w).DN hw0);simp only[nAq]at BB;have hw1:=BB.out.BN.cellOf hw;generalize hb3:w.heap.size=b3 at BB|-;have FW:=hdq (fun W (hW:Touch [] w1 W)=>HC.out W (BB.out.BN.trans' hW));clear hw0 hb3 z1 HC;have HC:=FW;clear FW;obtain⟨x0,x1,x2,x3,x4,x5,x6,⟨xf0,xf1,Gd,Gh,GK,Gn,Gr⟩,zx,_,_⟩:=BB.out.c7 0 rfl;have zw:=World.block_lt_of_cell? _ _ hw1;have BZ:=hdq (Touch.refl [] w1).drew;have HN:Hid (¬(0<=b.n/\b.n<(n1:Int))->tC b n1 w (.returned (.bool false)) w1.drew):=fun h=>⟨false,rfl,by simp;intro h1 h2;exact absurd ⟨h1,h2⟩ h,BB.out.BN.trans' BZ.out⟩;by_cases h1:0<=b.n
 .by_cases h2:b.n<(n1:Int)
  .clear HN
   go_wp2_with fail
   refine hrq (S:=fun w'=>w'.cell? ⟨b3,1,none⟩=some (.int .i64 b.n)/\w'.cell? ⟨b3,2,none⟩=some (.int .i64 b.v.kind)/\w'.cell? ⟨b3,3,none⟩=some (.int .i64 b.v.num)/\w'.cell? ⟨b3,4,none⟩=some (.slice b.v.addr b.v.parts.length b.v.cap)/\w'.cell? ⟨wb,1,none⟩=some (.slice a1 n1 c1)) fun hHeld=>?_;refine tkq 0 5 ?_;refine tkq 1 6 ?_;refine tkq 2 7 ?_;refine tkq 3 8 ?_;refine tkq 4 9 ?_;refine tkq 5 10 ?_;refine tkq 6 11 ?_;refine tkq 7 12 ?_;refine tkq 8 13 ?_;refine tkq 9 14 ?_;refine tkq 10 15 ?_;refine tkq 11 16 ?_;refine tkq 12 17 ?_;refine tkq 13 18 ?_;refine tkq 14 19 ?_;refine tkq 15 20 ?_;refine rdq 16 rfl fun K hK=>?_;go_simp;refine(HC.out _ BZ.out).mono ?_;rintro e w2 ⟨⟨z,rfl,hz,hiff⟩,ht⟩;have HL2:=hdq (BB.out.touch (BZ.out.trans' ht));have HIF:=hdq hiff;have hw2:=(BZ.out.trans' ht).cellOf hw1;clear ht BB HC hiff x0 x1 x2 x3 x4 x5 x6 xf0 xf1 Gd Gh GK Gn Gr zx hHeld hw1 BZ;obtain⟨x0,x1,x2,x3,x4,x5,x6,⟨xf0,xf1,Gd,Gh,GK,Gn,Gr⟩,zx,_,_⟩:=HL2.out.c7 0 rfl;have zw:=World.block_lt_of_cell? _ _ hw2;rcases hz with rfl|rfl
   .have HE:=hdq (show tC b n1 w (.returned (.bool true)) w2 from⟨true,rfl,by have :=HIF.out;simp at this;simp[h1,h2,this],HL2.out.BN⟩)
    go_simp;refine kpq hK.out fun hHeld=>?_;clear hK K;refine tkq 17 22 ?_;refine tkq 18 23 ?_;refine tkq 19 4 ?_;refine dnq ?_;clear hHeld;go_wp2;go_ret
    exact HE.out
   .have HE:=hdq (show tC b n1 w (.returned (.bool false)) w2 from⟨false,rfl,by have :=HIF.out;simp at this;simp[h1,h2,this],HL2.out.BN⟩)
    go_simp;refine kpq hK.out fun hHeld=>?_;clear hK K;refine tkq 17 22 ?_;refine tkq 18 23 ?_;refine tkq 19 4 ?_;refine dnq ?_;clear hHeld;go_wp2;go_ret
    exact HE.out
  .have hd2:decide (b.n<(n1:Int))=false:=decide_eq_false h2
   have HE:=hdq (HN.out (fun h=>h2 h.2));clear HN HC BZ;go_wp2_with fail
   refine hrq (S:=fun w'=>w'.cell? ⟨b3,1,none⟩=some (.int .i64 b.n)/\w'.cell? ⟨b3,2,none⟩=some (.int .i64 b.v.kind)/\w'.cell? ⟨b3,3,none⟩=some (.int .i64 b.v.num)/\w'.cell? ⟨b3,4,none⟩=some (.slice b.v.addr b.v.parts.length b.v.cap)/\w'.cell? ⟨wb,1,none⟩=some (.slice a1 n1 c1)) fun hHeld=>?_;refine tkq 0 5 ?_;refine tkq 1 6 ?_;refine tkq 2 7 ?_;refine tkq 3 8 ?_;refine tkq 4 9 ?_;refine tkq 5 10 ?_;refine tkq 6 11 ?_;refine tkq 7 12 ?_;refine tkq 8 13 ?_;refine tkq 9 14 ?_;refine tkq 10 15 ?_;refine tkq 11 16 ?_;refine tkq 12 17 ?_;refine tkq 13 18 ?_;refine skq 14 19 ?_;refine skq 15 20 ?_;refine skq 16 21 ?_;refine skq 17 22 ?_;refine tkq 18 23 ?_;refine tkq 19 4 ?_;refine dnq ?_;clear hHeld;go_wp2;go_ret
   exact HE.out
 .have hd1:decide (0<=b.n)=false:=decide_eq_false h1
  have HE:=hdq (HN.out (fun h=>h1 h.1));clear HN HC BZ;go_wp2_with fail
  refine hrq (S:=fun w'=>w'.cell? ⟨b3,1,none⟩=some (.int .i64 b.n)/\w'.cell? ⟨b3,2,none⟩=some (.int .i64 b.v.kind)/\w'.cell? ⟨b3,3,none⟩=some (.int .i64 b.v.num)/\w'.cell? ⟨b3,4,none⟩=some (.slice b.v.addr b.v.parts.length b.v.cap)/\w'.cell? ⟨wb,1,none⟩=some (.slice a1 n1 c1)) fun hHeld=>?_;refine tkq 0 5 ?_;refine tkq 1 6 ?_;refine tkq 2 7 ?_;refine tkq 3 8 ?_;refine skq 4 9 ?_;refine skq 5 10 ?_;refine skq 6 11 ?_;refine skq 7 12 ?_;refine skq 8 13 ?_;refine skq 9 14 ?_;refine skq 10 15 ?_;refine skq 11 16 ?_;refine tkq 12 17 ?_;refine tkq 13 18 ?_;refine skq 14 19 ?_;refine skq 15 20 ?_;refine skq 16 21 ?_;refine skq 17 22 ?_;refine tkq 18 23 ?_;refine tkq 19 4 ?_;refine dnq ?_;clear hHeld;go_wp2;go_ret
  exact HE.out
theorem yw(b:MB)(w:World)(wb:Nat)(a1:Option Addr)(n1 c1:Nat)(hb:b.v.In w)(hw:w.cell? ⟨wb,1,none⟩=some (.slice a1 n1 c1)):Calls Tryz.prog 254 #[.pointer (some ⟨wb,0,none⟩),b.val] w (aI ((0<=b.n/\b.n<(n1:Int))/\b.v.E8) w):=by
 have HC:Hid (∀W,Touch [] w W->Calls Tryz.prog 282 #[.agg #[.int .i64 b.v.kind,.int .i64 b.v.num,.slice b.v.addr b.v.parts.length b.v.cap]] W (aI b.v.E8 W)):=fun W hW=>xO b.v W;simp only[MB.val];show Calls _ _ _ _ (sK b n1 w)
 have z1:w.heap.size<w.heap.size+1:=by omega
 go_enter Tryz.func254,Tryz.ntmps254
 go_upto_region 1 with fail
 refine ay ?_;intro w1 hw0;have BB:=hdq ((BD.nil' w).DN hw0);simp only[nAq]at BB;have hw1:=BB.out.BN.cellOf hw;generalize hb3:w.heap.size=b3 at BB|-;have FW:=hdq (fun W (hW:Touch [] w1 W)=>HC.out W (BB.out.BN.trans' hW));clear hw0 hb3 z1 HC;have HC:=FW;clear FW;obtain⟨x0,x1,x2,x3,x4,x5,x6,⟨xf0,xf1,Gd,Gh,GK,Gn,Gr⟩,zx,_,_⟩:=BB.out.c7 0 rfl;have zw:=World.block_lt_of_cell? _ _ hw1;have BZ:=hdq (Touch.refl [] w1).drew;have HN:Hid (¬(0<=b.n/\b.n<(n1:Int))->sK b n1 w (.returned (.bool false)) w1.drew):=fun h=>⟨false,rfl,by simp;intro h1 h2;exact absurd ⟨h1,h2⟩ h,BB.out.BN.trans' BZ.out⟩;by_cases h1:0<=b.n
 .by_cases h2:b.n<(n1:Int)
  .clear HN
   go_wp2_with fail
   refine hrq (S:=fun w'=>w'.cell? ⟨b3,1,none⟩=some (.int .i64 b.n)/\w'.cell? ⟨b3,2,none⟩=some (.int .i64 b.v.kind)/\w'.cell? ⟨b3,3,none⟩=some (.int .i64 b.v.num)/\w'.cell? ⟨b3,4,none⟩=some (.slice b.v.addr b.v.parts.length b.v.cap)/\w'.cell? ⟨wb,1,none⟩=some (.slice a1 n1 c1)) fun hHeld=>?_;refine tkq 0 5 ?_;refine tkq 1 6 ?_;refine tkq 2 7 ?_;refine tkq 3 8 ?_;refine tkq 4 9 ?_;refine tkq 5 10 ?_;refine tkq 6 11 ?_;refine tkq 7 12 ?_;refine tkq 8 13 ?_;refine tkq 9 14 ?_;refine tkq 10 15 ?_;refine tkq 11 16 ?_;refine tkq 12 17 ?_;refine tkq 13 18 ?_;refine tkq 14 19 ?_;refine tkq 15 20 ?_;refine rdq 16 rfl fun K hK=>?_;go_simp;refine(HC.out _ BZ.out).mono ?_;rintro e w2 ⟨c,rfl,hc,ht⟩;have HL2:=hdq (BB.out.touch (BZ.out.trans' ht));have hw2:=(BZ.out.trans' ht).cellOf hw1;have HE:=hdq (show sK b n1 w (.returned (.bool c)) w2 from⟨c,rfl,by simp[h1,h2,hc],HL2.out.BN⟩);clear ht BB HC hc x0 x1 x2 x3 x4 x5 x6 xf0 xf1 Gd Gh GK Gn Gr zx hHeld hw1 BZ;obtain⟨x0,x1,x2,x3,x4,x5,x6,⟨xf0,xf1,Gd,Gh,GK,Gn,Gr⟩,zx,_,_⟩:=HL2.out.c7 0 rfl;have zw:=World.block_lt_of_cell? _ _ hw2;go_simp;refine kpq hK.out fun hHeld=>?_;clear hK K;refine tkq 17 22 ?_;refine tkq 18 4 ?_;refine dnq ?_;clear hHeld;go_wp2;go_ret
   exact HE.out
  .have hd2:decide (b.n<(n1:Int))=false:=decide_eq_false h2
   have HE:=hdq (HN.out (fun h=>h2 h.2));clear HN HC BZ;go_wp2_with fail
   refine hrq (S:=fun w'=>w'.cell? ⟨b3,1,none⟩=some (.int .i64 b.n)/\w'.cell? ⟨b3,2,none⟩=some (.int .i64 b.v.kind)/\w'.cell? ⟨b3,3,none⟩=some (.int .i64 b.v.num)/\w'.cell? ⟨b3,4,none⟩=some (.slice b.v.addr b.v.parts.length b.v.cap)/\w'.cell? ⟨wb,1,none⟩=some (.slice a1 n1 c1)) fun hHeld=>?_;refine tkq 0 5 ?_;refine tkq 1 6 ?_;refine tkq 2 7 ?_;refine tkq 3 8 ?_;refine tkq 4 9 ?_;refine tkq 5 10 ?_;refine tkq 6 11 ?_;refine tkq 7 12 ?_;refine tkq 8 13 ?_;refine tkq 9 14 ?_;refine tkq 10 15 ?_;refine tkq 11 16 ?_;refine tkq 12 17 ?_;refine tkq 13 18 ?_;refine skq 14 19 ?_;refine skq 15 20 ?_;refine skq 16 21 ?_;refine tkq 17 22 ?_;refine tkq 18 4 ?_;refine dnq ?_;clear hHeld;go_wp2;go_ret
   exact HE.out
 .have hd1:decide (0<=b.n)=false:=decide_eq_false h1
  have HE:=hdq (HN.out (fun h=>h1 h.1));clear HN HC BZ;go_wp2_with fail
  refine hrq (S:=fun w'=>w'.cell? ⟨b3,1,none⟩=some (.int .i64 b.n)/\w'.cell? ⟨b3,2,none⟩=some (.int .i64 b.v.kind)/\w'.cell? ⟨b3,3,none⟩=some (.int .i64 b.v.num)/\w'.cell? ⟨b3,4,none⟩=some (.slice b.v.addr b.v.parts.length b.v.cap)/\w'.cell? ⟨wb,1,none⟩=some (.slice a1 n1 c1)) fun hHeld=>?_;refine tkq 0 5 ?_;refine tkq 1 6 ?_;refine tkq 2 7 ?_;refine tkq 3 8 ?_;refine skq 4 9 ?_;refine skq 5 10 ?_;refine skq 6 11 ?_;refine skq 7 12 ?_;refine skq 8 13 ?_;refine skq 9 14 ?_;refine skq 10 15 ?_;refine skq 11 16 ?_;refine tkq 12 17 ?_;refine tkq 13 18 ?_;refine skq 14 19 ?_;refine skq 15 20 ?_;refine skq 16 21 ?_;refine tkq 17 22 ?_;refine tkq 18 4 ?_;refine dnq ?_;clear hHeld;go_wp2;go_ret
  exact HE.out
theorem MH(b:MB)(w:World)(wb:Nat)(a1:Option Addr)(n1 c1:Nat)(hb:b.v.In w)(hw:w.cell? ⟨wb,2,none⟩=some (.slice a1 n1 c1)):Calls Tryz.prog 257 #[.pointer (some ⟨wb,0,none⟩),b.val] w (aI ((0<=b.n/\b.n<(n1:Int))/\b.v.E8) w):=by
 have HC:Hid (∀W,Touch [] w W->Calls Tryz.prog 282 #[.agg #[.int .i64 b.v.kind,.int .i64 b.v.num,.slice b.v.addr b.v.parts.length b.v.cap]] W (aI b.v.E8 W)):=fun W hW=>xO b.v W;simp only[MB.val];show Calls _ _ _ _ (sK b n1 w)
 have z1:w.heap.size<w.heap.size+1:=by omega
 go_enter Tryz.func257,Tryz.ntmps257
 go_upto_region 1 with fail
 refine ay ?_;intro w1 hw0;have BB:=hdq ((BD.nil' w).DN hw0);simp only[nAq]at BB;have hw1:=BB.out.BN.cellOf hw;generalize hb3:w.heap.size=b3 at BB|-;have FW:=hdq (fun W (hW:Touch [] w1 W)=>HC.out W (BB.out.BN.trans' hW));clear hw0 hb3 z1 HC;have HC:=FW;clear FW;obtain⟨x0,x1,x2,x3,x4,x5,x6,⟨xf0,xf1,Gd,Gh,GK,Gn,Gr⟩,zx,_,_⟩:=BB.out.c7 0 rfl;have zw:=World.block_lt_of_cell? _ _ hw1;have BZ:=hdq (Touch.refl [] w1).drew;have HN:Hid (¬(0<=b.n/\b.n<(n1:Int))->sK b n1 w (.returned (.bool false)) w1.drew):=fun h=>⟨false,rfl,by simp;intro h1 h2;exact absurd ⟨h1,h2⟩ h,BB.out.BN.trans' BZ.out⟩;by_cases h1:0<=b.n
 .by_cases h2:b.n<(n1:Int)
  .clear HN
   go_wp2_with fail
   refine hrq (S:=fun w'=>w'.cell? ⟨b3,1,none⟩=some (.int .i64 b.n)/\w'.cell? ⟨b3,2,none⟩=some (.int .i64 b.v.kind)/\w'.cell? ⟨b3,3,none⟩=some (.int .i64 b.v.num)/\w'.cell? ⟨b3,4,none⟩=some (.slice b.v.addr b.v.parts.length b.v.cap)/\w'.cell? ⟨wb,2,none⟩=some (.slice a1 n1 c1)) fun hHeld=>?_;refine tkq 0 5 ?_;refine tkq 1 6 ?_;refine tkq 2 7 ?_;refine tkq 3 8 ?_;refine tkq 4 9 ?_;refine tkq 5 10 ?_;refine tkq 6 11 ?_;refine tkq 7 12 ?_;refine tkq 8 13 ?_;refine tkq 9 14 ?_;refine tkq 10 15 ?_;refine tkq 11 16 ?_;refine tkq 12 17 ?_;refine tkq 13 18 ?_;refine tkq 14 19 ?_;refine tkq 15 20 ?_;refine rdq 16 rfl fun K hK=>?_;go_simp;refine(HC.out _ BZ.out).mono ?_;rintro e w2 ⟨c,rfl,hc,ht⟩;have HL2:=hdq (BB.out.touch (BZ.out.trans' ht));have hw2:=(BZ.out.trans' ht).cellOf hw1;have HE:=hdq (show sK b n1 w (.returned (.bool c)) w2 from⟨c,rfl,by simp[h1,h2,hc],HL2.out.BN⟩);clear ht BB HC hc x0 x1 x2 x3 x4 x5 x6 xf0 xf1 Gd Gh GK Gn Gr zx hHeld hw1 BZ;obtain⟨x0,x1,x2,x3,x4,x5,x6,⟨xf0,xf1,Gd,Gh,GK,Gn,Gr⟩,zx,_,_⟩:=HL2.out.c7 0 rfl;have zw:=World.block_lt_of_cell? _ _ hw2;go_simp;refine kpq hK.out fun hHeld=>?_;clear hK K;refine tkq 17 22 ?_;refine tkq 18 4 ?_;refine dnq ?_;clear hHeld;go_wp2;go_ret
   exact HE.out
  .have hd2:decide (b.n<(n1:Int))=false:=decide_eq_false h2
   have HE:=hdq (HN.out (fun h=>h2 h.2));clear HN HC BZ;go_wp2_with fail
   refine hrq (S:=fun w'=>w'.cell? ⟨b3,1,none⟩=some (.int .i64 b.n)/\w'.cell? ⟨b3,2,none⟩=some (.int .i64 b.v.kind)/\w'.cell? ⟨b3,3,none⟩=some (.int .i64 b.v.num)/\w'.cell? ⟨b3,4,none⟩=some (.slice b.v.addr b.v.parts.length b.v.cap)/\w'.cell? ⟨wb,2,none⟩=some (.slice a1 n1 c1)) fun hHeld=>?_;refine tkq 0 5 ?_;refine tkq 1 6 ?_;refine tkq 2 7 ?_;refine tkq 3 8 ?_;refine tkq 4 9 ?_;refine tkq 5 10 ?_;refine tkq 6 11 ?_;refine tkq 7 12 ?_;refine tkq 8 13 ?_;refine tkq 9 14 ?_;refine tkq 10 15 ?_;refine tkq 11 16 ?_;refine tkq 12 17 ?_;refine tkq 13 18 ?_;refine skq 14 19 ?_;refine skq 15 20 ?_;refine skq 16 21 ?_;refine tkq 17 22 ?_;refine tkq 18 4 ?_;refine dnq ?_;clear hHeld;go_wp2;go_ret
   exact HE.out
 .have hd1:decide (0<=b.n)=false:=decide_eq_false h1
  have HE:=hdq (HN.out (fun h=>h1 h.1));clear HN HC BZ;go_wp2_with fail
  refine hrq (S:=fun w'=>w'.cell? ⟨b3,1,none⟩=some (.int .i64 b.n)/\w'.cell? ⟨b3,2,none⟩=some (.int .i64 b.v.kind)/\w'.cell? ⟨b3,3,none⟩=some (.int .i64 b.v.num)/\w'.cell? ⟨b3,4,none⟩=some (.slice b.v.addr b.v.parts.length b.v.cap)/\w'.cell? ⟨wb,2,none⟩=some (.slice a1 n1 c1)) fun hHeld=>?_;refine tkq 0 5 ?_;refine tkq 1 6 ?_;refine tkq 2 7 ?_;refine tkq 3 8 ?_;refine skq 4 9 ?_;refine skq 5 10 ?_;refine skq 6 11 ?_;refine skq 7 12 ?_;refine skq 8 13 ?_;refine skq 9 14 ?_;refine skq 10 15 ?_;refine skq 11 16 ?_;refine tkq 12 17 ?_;refine tkq 13 18 ?_;refine skq 14 19 ?_;refine skq 15 20 ?_;refine skq 16 21 ?_;refine tkq 17 22 ?_;refine tkq 18 4 ?_;refine dnq ?_;clear hHeld;go_wp2;go_ret
  exact HE.out
section
open Go.Shelf Go.RowKit
set_option maxRecDepth 1000000
theorem nan_c(x:Int)(w:World):Calls Tryz.prog 283 #[.int .i64 x] w fun e w'=>e= .returned (.bool false)/\w'=w:=by
 go_enter Tryz.func283,Tryz.ntmps283
 go_wp2;go_ret
 simp
theorem uN(x:Int)(w:World):Calls Tryz.prog 259 #[.int .i64 x] w fun e w'=>e= .returned (.bool false)/\w'=w:=by
 go_enter Tryz.func259,Tryz.ntmps259
 go_wp2;go_ret
 simp
theorem qx(x y:Int)(w:World):Calls Tryz.prog 258 #[.int .i64 x,.int .i64 y] w fun e w'=>e= .returned (.bool (decide (x<y)))/\w'=w:=by
 go_enter Tryz.func258,Tryz.ntmps258
 go_wp2_with (go_at_call 283;refine(nan_c _ _).mono ?_;rintro e w' ⟨rfl,rfl⟩)
 go_ret
 exact⟨rfl,rfl⟩
def uj(l:List Int)(x:Int)(w:World)(e:Ending)(w':World):Prop:=∃(k:Int) (f:Bool),e= .returned (.tuple #[.int .i64 k,.bool f])/\(f=true↔x∈l)/\Touch [] w w'
theorem yo{l:List Int}{x:Int}{i:Nat}(hlo:∀t (ht:t<l.length),t<i->l[t]<x)(hhi:∀t (ht:t<l.length),i<=t->x<=l[t])(hinc:∀s t (hs:s<l.length) (ht:t<l.length),s<t->l[s]<l[t]):x∈l↔∃h:i<l.length,l[i]=x:=by
 constructor
 .intro hx
  obtain⟨t,ht,he⟩:=List.getElem_of_mem hx;have h1:i<=t:=by
   by_cases hti:t<i
   .have :=hlo t ht hti;omega
   .omega
  by_cases h2:i=t
  .subst h2;exact⟨ht,he⟩
  .have h3:=hinc i t (by omega) ht (by omega)
   have h4:=hhi i (by omega) (Nat.le_refl _);omega
 .rintro⟨h,he⟩
  exact he▸List.getElem_mem h
theorem Ae(w:World)(a:Option Addr)(c:Nat)(l:List Int)(x:Int)(h:aG w a 1 l.length (l.flatMap fq))(hinc:∀s t (hs:s<l.length) (ht:t<l.length),s<t->l[s]<l[t]):
  Calls Tryz.prog 188 #[.slice a l.length c,.int .i64 x] w (uj l x w):=by
 have HR:=hdq h;have hsz:=h.1;have F7:=hdq hinc;clear h hinc;go_enter Tryz.func188,Tryz.ntmps188
 go_wp2;go_loopw [7,8] (fun p q wr=>∃i j:Nat,p= .int .i64 (i:Int)/\q= .int .i64 (j:Int)/\i<=j/\j<=l.length/\Hid (Touch [] w wr)/\Hid ((∀t (ht:t<l.length),t<i->l[t]<x)/\∀t (ht:t<l.length),j<=t->x<=l[t])) (fun p q _=>(intOf q).toNat-(intOf p).toNat)
 case atStart=>exact⟨0,l.length,rfl,rfl,Nat.zero_le _,Nat.le_refl _,Touch.refl _ _,fun t ht h0=>absurd h0 (Nat.not_lt_zero _),fun t ht h1=>by omega⟩
 case round=>
  obtain⟨i,j,rfl,rfl,hij,hjl,HT,HB⟩:=hrel;by_cases hlt:i<j
  .obtain⟨b,o,hba,hb,hc⟩:=aG.at (f:=fq) (fun _=>rfl) HR.out ((i+j) / 2) (by omega)
   have hm:=HT.out.cellOf (hc 0 Nat.one_pos);obtain⟨y,hy⟩:∃y,l[(i+j) / 2]'(by omega)=y:=⟨_,rfl⟩;have HY:=hdq hy;rw[hy,Nat.mul_one,Nat.add_zero]at hm;have hm2:wr.cell? ⟨b,o+(i+j) / 2,none⟩=some (.int .i64 y):=hm;rw[hba];clear hc hy hm hb hba;by_cases hyx:y<x
   .skip
    go_wp2_with (first |(go_at_call 258;refine(qx _ _ _).mono ?_;rintro e w' ⟨rfl,rfl⟩)|(go_at_call 259;refine(uN _ _).mono ?_;rintro e w' ⟨rfl,rfl⟩))
    go_roundw
    case rel=>
     refine⟨(i+j) / 2+1,j,by rw[show((i:Int)+(j:Int)) / 2+1=(((i+j) / 2+1:Nat):Int) by omega],rfl,by omega,hjl,HT,fun t ht hti=>?_,HB.out.2⟩;by_cases h2:t=(i+j) / 2
     .subst h2;rw[HY.out];exact hyx
     .have :=F7.out t ((i+j) / 2) ht (by omega) (by omega)
      rw[HY.out]at this;omega
    case measure=>simp[intOf];omega
   .skip
    go_wp2_with (first |(go_at_call 258;refine(qx _ _ _).mono ?_;rintro e w' ⟨rfl,rfl⟩)|(go_at_call 259;refine(uN _ _).mono ?_;rintro e w' ⟨rfl,rfl⟩))
    go_roundw
    case rel=>
     refine⟨i,(i+j) / 2,rfl,by rw[show((i:Int)+(j:Int)) / 2=(((i+j) / 2:Nat):Int) by omega],by omega,by omega,HT,HB.out.1,fun t ht hti=>?_⟩;by_cases h2:t=(i+j) / 2
     .subst h2;rw[HY.out];omega
     .have :=F7.out ((i+j) / 2) t (by omega) ht (by omega)
      rw[HY.out]at this;omega
    case measure=>simp[intOf];omega
  .obtain rfl:i=j:=by omega
   have HM:=hdq (yo HB.out.1 HB.out.2 F7.out);by_cases hn:i<l.length
   .obtain⟨b,o,hba,hb,hc⟩:=aG.at (f:=fq) (fun _=>rfl) HR.out i hn
    have hm:=HT.out.cellOf (hc 0 Nat.one_pos);obtain⟨y,hy⟩:∃y,l[i]=y:=⟨_,rfl⟩;have Hl:Hid (x∈l↔y=x):=HM.out.trans ⟨fun⟨_,h⟩=>hy▸h,fun h=>⟨hn,hy.trans h⟩⟩;rw[hy,Nat.mul_one,Nat.add_zero]at hm;have hm2:wr.cell? ⟨b,o+i,none⟩=some (.int .i64 y):=hm;rw[hba];clear hc hy hm hb hba HM;by_cases hyx:y=x
    .have HE:Hid (uj l x w (.returned (.tuple #[.int .i64 (i:Int),.bool true])) wr):=⟨_,true,rfl,by simp[Hl.out,hyx],HT.out⟩
     go_wp2_with (first |(go_at_call 258;refine(qx _ _ _).mono ?_;rintro e w' ⟨rfl,rfl⟩)|(go_at_call 259;refine(uN _ _).mono ?_;rintro e w' ⟨rfl,rfl⟩))
     go_ret2
     exact HE.out
    .have HE:Hid (uj l x w (.returned (.tuple #[.int .i64 (i:Int),.bool false])) wr):=⟨_,false,rfl,by simp[Hl.out,hyx],HT.out⟩
     have hb2:(y==x)=false:=by simpa using hyx
     go_wp2_with (first |(go_at_call 258;refine(qx _ _ _).mono ?_;rintro e w' ⟨rfl,rfl⟩)|(go_at_call 259;refine(uN _ _).mono ?_;rintro e w' ⟨rfl,rfl⟩))
     go_ret2
     (try rw[hb2])
     exact HE.out
   .have HE:Hid (uj l x w (.returned (.tuple #[.int .i64 (i:Int),.bool false])) wr):=⟨_,false,rfl,by simp[HM.out];omega,HT.out⟩
    clear HM;go_wp2_with (first |(go_at_call 258;refine(qx _ _ _).mono ?_;rintro e w' ⟨rfl,rfl⟩)|(go_at_call 259;refine(uN _ _).mono ?_;rintro e w' ⟨rfl,rfl⟩))
    go_ret2
    exact HE.out
end
def Ac(N:Nat)(l:List Int):Prop:=(∀t (h:t<l.length),0<=l[t]/\l[t]<(N:Int))/\∀s t (hs:s<l.length) (ht:t<l.length),s<t->l[s]<l[t]
def yU(N:Nat)(l:List Int)(w:World)(e:Ending)(w':World):Prop:=∃b:Bool,e= .returned (.bool b)/\(b=true↔Ac N l)/\w=w'
theorem uG(w:World)(wb:Nat)(a2:Option Addr)(n2 c2:Nat)(hw:w.cell? ⟨wb,2,none⟩=some (.slice a2 n2 c2))(a:Option Addr)(c:Nat)(l:List Int)(h:aG w a 1 l.length (l.flatMap fq)):
  Calls Tryz.prog 87 #[.pointer (some ⟨wb,0,none⟩),.slice a l.length c] w (yU n2 l w):=by
 have HR:=hdq h;have hsz:=h.1;clear h;have zw:=World.block_lt_of_cell? _ _ hw;go_enter Tryz.func87,Tryz.ntmps87
 go_wp2;go_loopw [5,10] (fun p q wr=>∃(j:Nat) (last:Int),q= .int .i64 (j:Int)/\p= .int .i64 last/\j<=l.length/\wr=w/\ -9223372036854775808<=last/\Hid ((∀t (h:t<l.length),t<j->0<=l[t]/\l[t]<(n2:Int))/\(∀s t (hs:s<l.length) (ht:t<l.length),s<t->t<j->l[s]<l[t])/\ -1<=last/\(∀t (h:t<l.length),t<j->l[t]<=last)/\(last= -1\/∃t,∃h:t<l.length,t<j/\l[t]=last))) (fun _ q _=>l.length-(intOf q).toNat)
 case atStart=>exact⟨0, -1,rfl,rfl,Nat.zero_le _,rfl,by omega,fun t h h0=>absurd h0 (Nat.not_lt_zero _),fun s t hs ht hst h0=>absurd h0 (Nat.not_lt_zero _),by omega,fun t h h0=>absurd h0 (Nat.not_lt_zero _),.inl rfl⟩
 case round=>
  obtain⟨j,last,rfl,rfl,hj,rfl,hl64,HI⟩:=hrel;have hj0:(0:Int)<=(j:Int):=by omega
  by_cases hjl:j<l.length
  .have Cc:(j:Int)<(l.length:Int):=by omega
   obtain⟨b,o,hba,hb,hc⟩:=aG.at (f:=fq) (fun _=>rfl) HR.out j hjl;have hm:=hc 0 Nat.one_pos;obtain⟨y,hy⟩:∃y,l[j]=y:=⟨_,rfl⟩;rw[hy,Nat.mul_one,Nat.add_zero]at hm;have hm2:wr.cell? ⟨b,o+j,none⟩=some (.int .i64 y):=hm;have FR:Hid (y<=last->yU n2 l wr (.returned (.bool false)) wr):=fun hle=>⟨false,rfl,by
    simp only[Bool.false_eq_true,false_iff];rintro⟨g1,g2⟩;rcases HI.out.2.2.2.2 with h1|⟨t,ht,htj,hte⟩
    .have :=(g1 j hjl).1;omega
    .have :=g2 t j ht hjl htj;omega,rfl⟩
   have Gy:Hid ((n2:Int)<=y->yU n2 l wr (.returned (.bool false)) wr):=fun hle=>⟨false,rfl,by
    simp only[Bool.false_eq_true,false_iff];rintro⟨g1,g2⟩;have :=(g1 j hjl).2;omega,rfl⟩
   have HY:=hdq hy;rw[hba];clear hc hy hm hb hba;by_cases h1:y<=last
   .have HE:=hdq (FR.out h1)
    go_wp2;go_ret
    exact HE.out
   .have hd1:decide (y<=last)=false:=decide_eq_false h1
    by_cases h2:(n2:Int)<=y
    .have HE:=hdq (Gy.out h2)
     go_wp2;go_ret
     exact HE.out
    .have hd2:decide ((n2:Int)<=y)=false:=decide_eq_false h2
     go_wp2;go_roundw
     case rel=>
      refine⟨j+1,y,by go_num,(by first |rfl|trivial),by omega,(by first |rfl|trivial),by have :=HI.out.2.2.1;omega,fun t ht htj=>?_,fun s t hs ht hst htj=>?_,by have :=HI.out.2.2.1;omega,fun t ht htj=>?_,.inr ⟨j,hjl,by omega,HY.out⟩⟩
      .by_cases Im:t=j
       .subst Im;rw[HY.out];have :=HI.out.2.2.1;omega
       .exact HI.out.1 t ht (by omega)
      .by_cases Im:t=j
       .subst Im;rw[HY.out];have :=HI.out.2.2.2.1 s hs hst;omega
       .exact HI.out.2.1 s t hs ht hst (by omega)
      .by_cases Im:t=j
       .subst Im;rw[HY.out];omega
       .have :=HI.out.2.2.2.1 t ht (by omega);omega
     case measure=>simp[intOf];omega
  .obtain rfl:j=l.length:=by omega
   have HE:Hid (yU n2 l wr (.returned (.bool true)) wr):=⟨true,rfl,by simp only[true_iff];exact⟨fun t h=>HI.out.1 t h h,fun s t hs ht hst=>HI.out.2.1 s t hs ht hst ht⟩,rfl⟩;go_wp2;go_ret
   exact HE.out
def Di(D:FuncId):Value:= .func (.func D) #[] #[]
def pW:Obj:= .map #[⟨.int .i64 5,Di 253,0⟩,⟨.int .i64 6,Di 254,1⟩,⟨.int .i64 7,Di 255,2⟩,⟨.int .i64 8,Di 256,3⟩,⟨.int .i64 13,Di 257,4⟩] 5
theorem AX(W:World):(Instr.makeMap 245 none).run Tryz.prog W= .ok (.map (some W.heap.size)) (W.alloc (.map #[] 0)):=by
 have hk:=Tryz.underlying245;simp[Instr.makeMap,run_underlying hk]
theorem kU(w:World)(M:Nat)(es:Array MapEntry)(clock:Nat)(hr:w.heap[M]? =some (.map es clock))(s:Int)(hf:Instr.findNow (.int .i64) (.int .i64 s) es.toList 0=some none)(v:Value):
  (Instr.mapUpdate 245 (.map (some M)) (.int .i64 s) v).run Tryz.prog w= .ok () (w.putObj M (.map (es.push ⟨.int .i64 s,v,clock⟩) (clock+1))):=by
 simp[Instr.mapUpdate,run_underlying Tryz.underlying245,bX hr,bO false 9999 Tryz.underlying42,bR Tryz.underlying42 s es.toList hf,ny _ hr]
theorem Ou(w:World):Calls Tryz.prog 187 #[] w fun e w'=>∃M,e= .returned (.map (some M))/\BD [] w w' [fZ M pW]:=by
 have hmk:=AX w;have BB:=hdq ((BD.nil' w).xK (.map #[] 0));simp only[nAq]at BB;have hm1:=kU _ w.heap.size #[] 0 (BB.out.G8 0 rfl) 5 (by kernel_rfl) (.func (.func 253) #[] #[]);have HL2:=hdq (BB.out.gq 0 rfl (.map #[⟨.int .i64 5,Di 253,0⟩] 1));simp only[sZq]at HL2;have hm2:=kU _ w.heap.size #[⟨.int .i64 5,Di 253,0⟩] 1 (HL2.out.G8 0 rfl) 6 (by kernel_rfl) (.func (.func 254) #[] #[]);have BF:=hdq (HL2.out.gq 0 rfl (.map #[⟨.int .i64 5,Di 253,0⟩,⟨.int .i64 6,Di 254,1⟩] 2));simp only[sZq]at BF;have hm3:=kU _ w.heap.size #[⟨.int .i64 5,Di 253,0⟩,⟨.int .i64 6,Di 254,1⟩] 2 (BF.out.G8 0 rfl) 7 (by kernel_rfl) (.func (.func 255) #[] #[]);have BH:=hdq (BF.out.gq 0 rfl (.map #[⟨.int .i64 5,Di 253,0⟩,⟨.int .i64 6,Di 254,1⟩,⟨.int .i64 7,Di 255,2⟩] 3));simp only[sZq]at BH;have hm4:=kU _ w.heap.size #[⟨.int .i64 5,Di 253,0⟩,⟨.int .i64 6,Di 254,1⟩,⟨.int .i64 7,Di 255,2⟩] 3 (BH.out.G8 0 rfl) 8 (by kernel_rfl) (.func (.func 256) #[] #[]);have Ca:=hdq (BH.out.gq 0 rfl (.map #[⟨.int .i64 5,Di 253,0⟩,⟨.int .i64 6,Di 254,1⟩,⟨.int .i64 7,Di 255,2⟩,⟨.int .i64 8,Di 256,3⟩] 4));simp only[sZq]at Ca;have hm5:=kU _ w.heap.size #[⟨.int .i64 5,Di 253,0⟩,⟨.int .i64 6,Di 254,1⟩,⟨.int .i64 7,Di 255,2⟩,⟨.int .i64 8,Di 256,3⟩] 4 (Ca.out.G8 0 rfl) 13 (by kernel_rfl) (.func (.func 257) #[] #[]);have Db:=hdq (Ca.out.gq 0 rfl (.map #[⟨.int .i64 5,Di 253,0⟩,⟨.int .i64 6,Di 254,1⟩,⟨.int .i64 7,Di 255,2⟩,⟨.int .i64 8,Di 256,3⟩,⟨.int .i64 13,Di 257,4⟩] 5));simp only[sZq]at Db;simp only[List.push_toArray,nAq,cAq,Nat.reduceAdd,Di]at hm1 hm2 hm3 hm4 hm5;go_enter Tryz.func187,Tryz.ntmps187
 clear BB HL2 BF BH Ca;go_wp2;go_ret
 exact⟨_,rfl,Db.out⟩
theorem wO(w:World):(zeroValue 243).run Tryz.prog w= .ok .nilFunc w:=by kernel_rfl
def j5(k:Int):Option FuncId:=if k=5 then some 253 else if k=6 then some 254 else if k=7 then some 255 else if k=8 then some 256 else if k=13 then some 257 else none
def rY(k:Int):Value:=match j5 k with
 |some D=>Di D
 |none=> .nilFunc
theorem Ad(w:World)(M:Nat)(h:w.heap[M]? =some pW)(k:Int):(Instr.lookup 245 (.map (some M)) (.int .i64 k) true).run Tryz.prog w= .ok (.tuple #[rY k,.bool (j5 k).isSome]) w:=by
 unfold pW at h;have hu:=Tryz.underlying245;have hk:=Tryz.underlying42;unfold rY j5;by_cases h5:k=5
 .subst h5
  have hf:Instr.findNow (.int .i64) (.int .i64 5) [⟨.int .i64 5,Di 253,0⟩,⟨.int .i64 6,Di 254,1⟩,⟨.int .i64 7,Di 255,2⟩,⟨.int .i64 8,Di 256,3⟩,⟨.int .i64 13,Di 257,4⟩] 0=some (some (0,Di 253)):=by kernel_rfl
  simp[Instr.lookup,run_underlying hu,bX h,bO false 9999 hk,bR hk 5 _ hf]
 by_cases h6:k=6
 .subst h6
  have hf:Instr.findNow (.int .i64) (.int .i64 6) [⟨.int .i64 5,Di 253,0⟩,⟨.int .i64 6,Di 254,1⟩,⟨.int .i64 7,Di 255,2⟩,⟨.int .i64 8,Di 256,3⟩,⟨.int .i64 13,Di 257,4⟩] 0=some (some (1,Di 254)):=by kernel_rfl
  simp[Instr.lookup,run_underlying hu,bX h,bO false 9999 hk,bR hk 6 _ hf]
 by_cases h7:k=7
 .subst h7
  have hf:Instr.findNow (.int .i64) (.int .i64 7) [⟨.int .i64 5,Di 253,0⟩,⟨.int .i64 6,Di 254,1⟩,⟨.int .i64 7,Di 255,2⟩,⟨.int .i64 8,Di 256,3⟩,⟨.int .i64 13,Di 257,4⟩] 0=some (some (2,Di 255)):=by kernel_rfl
  simp[Instr.lookup,run_underlying hu,bX h,bO false 9999 hk,bR hk 7 _ hf]
 by_cases h8:k=8
 .subst h8
  have hf:Instr.findNow (.int .i64) (.int .i64 8) [⟨.int .i64 5,Di 253,0⟩,⟨.int .i64 6,Di 254,1⟩,⟨.int .i64 7,Di 255,2⟩,⟨.int .i64 8,Di 256,3⟩,⟨.int .i64 13,Di 257,4⟩] 0=some (some (3,Di 256)):=by kernel_rfl
  simp[Instr.lookup,run_underlying hu,bX h,bO false 9999 hk,bR hk 8 _ hf]
 by_cases FY:k=13
 .subst FY
  have hf:Instr.findNow (.int .i64) (.int .i64 13) [⟨.int .i64 5,Di 253,0⟩,⟨.int .i64 6,Di 254,1⟩,⟨.int .i64 7,Di 255,2⟩,⟨.int .i64 8,Di 256,3⟩,⟨.int .i64 13,Di 257,4⟩] 0=some (some (4,Di 257)):=by kernel_rfl
  simp[Instr.lookup,run_underlying hu,bX h,bO false 9999 hk,bR hk 13 _ hf]
 have hf:Instr.findNow (.int .i64) (.int .i64 k) [⟨.int .i64 5,Di 253,0⟩,⟨.int .i64 6,Di 254,1⟩,⟨.int .i64 7,Di 255,2⟩,⟨.int .i64 8,Di 256,3⟩,⟨.int .i64 13,Di 257,4⟩] 0=some none:=by
  have e5:Instr.sameNow (.int .i64) (.int .i64 k) (.int .i64 5)=some false:=by simp[Instr.sameNow,h5]
  have e6:Instr.sameNow (.int .i64) (.int .i64 k) (.int .i64 6)=some false:=by simp[Instr.sameNow,h6]
  have e7:Instr.sameNow (.int .i64) (.int .i64 k) (.int .i64 7)=some false:=by simp[Instr.sameNow,h7]
  have e8:Instr.sameNow (.int .i64) (.int .i64 k) (.int .i64 8)=some false:=by simp[Instr.sameNow,h8]
  have e13:Instr.sameNow (.int .i64) (.int .i64 k) (.int .i64 13)=some false:=by simp[Instr.sameNow,FY]
  simp[Instr.findNow,e5,e6,e7,e8,e13]
 simp[Instr.lookup,run_underlying hu,bX h,bO false 9999 hk,bR hk k _ hf,wO w,h5,h6,h7,h8,FY]
def MB.Mem(w:World)(b:MB):Prop:=b.v.In w/\(aG w b.wa 2 b.wraps.length (b.wraps.flatMap MC.cells)/\∀c∈b.wraps,(c.args.length<=2000000/\MT.dK w c.a c.args)/\∀t∈c.args,t.In w)/\aG w b.na 1 b.aT.length (b.aT.flatMap fq)
theorem MB.Mem.aW{w w':World}{b:MB}(h:b.Mem w)(ht:Touch [] w w'):b.Mem w':=⟨h.1.aO ht,⟨h.2.1.1.aW ht,fun c hm=>⟨⟨(h.2.1.2 c hm).1.1,(h.2.1.2 c hm).1.2.aW ht⟩,fun t htm=>((h.2.1.2 c hm).2 t htm).aO ht⟩⟩,h.2.2.aW ht⟩
def dm(n1 n2:Nat)(b:MB):Prop:=
 (b.kind=5/\(0<=b.n/\b.n<(n1:Int))/\b.v.plain.Ok)\/(b.kind=6/\(0<=b.n/\b.n<(n1:Int))/\b.v.E8)\/(b.kind=7/\b.n=0/\b.v.plain.Ok)\/(b.kind=8/\b.n=0/\b.v.E8)\/(b.kind=13/\(0<=b.n/\b.n<(n2:Int))/\b.v.E8)
def eD(n1 n2:Nat)(l:List Int)(b:MB):Prop:=dm n1 n2 b/\b.wraps.length<=32/\b.aT.length<=32/\(∀c∈b.wraps,∀t∈c.args,t.plain.Ok)/\∀k∈b.aT,k∈l
theorem BA{n1 n2:Nat}{b:MB}(h:j5 b.kind=none):¬dm n1 n2 b:=by
 unfold j5 at h;unfold dm;rintro(⟨h1,_⟩|⟨h1,_⟩|⟨h1,_⟩|⟨h1,_⟩|⟨h1,_⟩)<;>simp[h1]at h
theorem fits_w(b:MB)(w:World)(wb:Nat)(a1:Option Addr)(n1 c1:Nat)(a2:Option Addr)(n2 c2:Nat)(hw1:w.cell? ⟨wb,1,none⟩=some (.slice a1 n1 c1))(hw2:w.cell? ⟨wb,2,none⟩=some (.slice a2 n2 c2))(hb:b.v.In w)(D:FuncId)(hD:j5 b.kind=some D):
  (∀args w,(callFunc D args).run Tryz.prog w= .ok (.enter D args) w)/\∀W,Touch [] w W->Calls Tryz.prog D #[.pointer (some ⟨wb,0,none⟩),b.val] W (aI (dm n1 n2 b) W):=by
 unfold j5 at hD;split at hD
 .rename_i hk
  injection hD with hD;subst hD
  refine⟨enters_of Tryz.func253 (by kernel_rfl) rfl,fun W hW=>(Mr b W wb a1 n1 c1 (hb.aO hW) (hW.cellOf hw1)).mono fun e w' h=>lu h ?_ (Touch.refl _ _)⟩;simp[dm,hk]
 split at hD
 .rename_i _ hk
  injection hD with hD;subst hD
  refine⟨enters_of Tryz.func254 (by kernel_rfl) rfl,fun W hW=>(yw b W wb a1 n1 c1 (hb.aO hW) (hW.cellOf hw1)).mono fun e w' h=>lu h ?_ (Touch.refl _ _)⟩;simp[dm,hk]
 split at hD
 .rename_i _ _ hk
  injection hD with hD;subst hD
  refine⟨enters_of Tryz.func255 (by kernel_rfl) rfl,fun W hW=>(J8 b W _ (hb.aO hW)).mono fun e w' h=>lu h ?_ (Touch.refl _ _)⟩;simp[dm,hk]
 split at hD
 .rename_i _ _ _ hk
  injection hD with hD;subst hD
  refine⟨enters_of Tryz.func256 (by kernel_rfl) rfl,fun W hW=>(NU b W _ (hb.aO hW)).mono fun e w' h=>lu h ?_ (Touch.refl _ _)⟩;simp[dm,hk]
 split at hD
 .rename_i _ _ _ _ hk
  injection hD with hD;subst hD
  refine⟨enters_of Tryz.func257 (by kernel_rfl) rfl,fun W hW=>(MH b W wb a2 n2 c2 (hb.aO hW) (hW.cellOf hw2)).mono fun e w' h=>lu h ?_ (Touch.refl _ _)⟩;simp[dm,hk]
 .cases hD
def nI(n1 n2:Nat)(l:List Int)(b:MB)(w:World):Ending->World->Prop:=aI (eD n1 n2 l b) w
theorem Nh(b:MB)(w:World)(wb:Nat)(a1:Option Addr)(n1 c1:Nat)(a2:Option Addr)(n2 c2:Nat)(hw1:w.cell? ⟨wb,1,none⟩=some (.slice a1 n1 c1))(hw2:w.cell? ⟨wb,2,none⟩=some (.slice a2 n2 c2))(hb:b.Mem w)(a:Option Addr)(c:Nat)(l:List Int)(hl:aG w a 1 l.length (l.flatMap fq))(hinc:∀s t (hs:s<l.length) (ht:t<l.length),s<t->l[s]<l[t]):
  Calls Tryz.prog 88 #[.pointer (some ⟨wb,0,none⟩),b.val,.slice a l.length c] w (nI n1 n2 l b w):=by
 have HB:=hdq hb;have hdl:b.wraps.length<=2000000/\b.aT.length<=2000000:=⟨hb.2.1.1.1,hb.2.2.1⟩;have HS:=hdq (fun W (hW:Touch [] w W) x=>Ae W a c l x (hl.aW hW) hinc);have HF:=hdq (fun W (hW:Touch [] w W) D hD=>(fits_w b W wb a1 n1 c1 a2 n2 c2 (hW.cellOf hw1) (hW.cellOf hw2) (hb.1.aO hW) D hD));have HW:Hid (wb<w.heap.size):=World.block_lt_of_cell? _ _ hw1;have DJ:Hid (∀W,Touch [] w W->¬eD n1 n2 l b->nI n1 n2 l b w (.returned (.bool false)) W):=fun W hW h=>⟨false,rfl,by simp[h],hW⟩;have Dj:Hid (∀W,Touch [] w W->eD n1 n2 l b->nI n1 n2 l b w (.returned (.bool true)) W):=fun W hW h=>⟨true,rfl,by simp[h],hW⟩;have HKN:Hid (j5 b.kind=none->¬eD n1 n2 l b):=fun h h2=>BA h h2.1;clear hw1 hw2 hb hl hinc;simp only[MB.val];go_enter Tryz.func88,Tryz.ntmps88
 go_upto_region 1 with fail
 refine ay ?_;intro w1 hw0;have BB:=hdq ((BD.nil' w).DN hw0);simp only[nAq]at BB;generalize hb4:w.heap.size=b4 at BB|-;clear hw0 hb4;obtain⟨x0,x1,x2,x3,x4,x5,x6,⟨xf0,xf1,Gd,Gh,GK,Gn,Gr⟩,zx,_,_⟩:=BB.out.c7 0 rfl;go_wp2_with fail
 refine hrq (S:=fun w'=>w'.cell? ⟨b4,0,none⟩=some (.int .i64 b.kind)) fun hHeld=>?_;refine tkq 1 19 ?_;refine tkq 2 20 ?_;refine rdq 0 rfl fun K hK=>?_;go_simp;refine(Ou _).mono ?_;rintro en w2 ⟨M,rfl,hL⟩;have HL2:=hdq (BB.out.drew.join hL);simp only[nAq,cAq]at HL2;have hlk:=Ad w2 M (HL2.out.G8 1 rfl) b.kind;clear hL BB x0 x1 x2 x3 x4 x5 x6 xf0 xf1 Gd Gh GK Gn Gr zx hHeld;obtain⟨x0,x1,x2,x3,x4,x5,x6,⟨xf0,xf1,Gd,Gh,GK,Gn,Gr⟩,zx,_,_⟩:=HL2.out.c7 0 rfl;go_simp;refine kpq hK.out fun hHeld=>?_;clear hK K;refine opq 3 fun hHeld=>?_;refine tkq 4 17 ?_;refine tkq 5 22 ?_;refine tkq 6 23 ?_;refine tkq 7 7 ?_;refine tkq 8 8 ?_;refine dnq ?_;clear hHeld hlk;rcases hk:j5 b.kind with _|D
 .have hkv:rY b.kind= .nilFunc:=by unfold rY;rw[hk]
  have HE:=hdq (DJ.out w2 HL2.out.BN (HKN.out hk));rw[hkv];simp only[Option.isSome_none];clear hk hkv DJ Dj HKN HF HS HB;go_wp2;go_ret
  exact HE.out
 .have hkv:rY b.kind= .func (.func D) #[] #[]:=by unfold rY;rw[hk];rfl
  obtain⟨hen,hfit⟩:=HF.out w (Touch.refl [] w) D hk;have HFT:=hdq hfit;rw[hkv];simp only[Option.isSome_some];clear hk hkv HKN HF hfit;go_wp2_with fail
  refine(HFT.out w2 HL2.out.BN).mono ?_;rintro e w3 ⟨cc,rfl,hcc,ht⟩;have BF:=hdq (HL2.out.touch ht);have HC:=hdq hcc;clear ht HL2 hcc x0 x1 x2 x3 x4 x5 x6 xf0 xf1 Gd Gh GK Gn Gr zx HFT hen;obtain⟨x0,x1,x2,x3,x4,x5,x6,⟨xf0,xf1,Gd,Gh,GK,Gn,Gr⟩,zx,_,_⟩:=BF.out.c7 0 rfl;cases cc with
  |false=>
   have HE:=hdq (DJ.out w3 BF.out.BN (fun h=>by have :=HC.out.2 h.1;simp at this));clear DJ Dj HS HB HC;go_wp2;go_ret
   exact HE.out
  |true=>
   have HKO:Hid (dm n1 n2 b):=HC.out.1 rfl;clear HC;by_cases hlw:b.wraps.length<=32
   .by_cases hln:b.aT.length<=32
    .have g1:decide ((32:Int)<(b.wraps.length:Int))=false:=decide_eq_false (by omega)
     have g2:decide ((32:Int)<(b.aT.length:Int))=false:=decide_eq_false (by omega);have HW1:=hdq (HB.out.aW BF.out.BN);go_wp2;have HT3:=hdq BF.out.BN;have LV:=hdq (fun W (hW:Touch [] w3 W)=>((BF.out.touch hW).c7 0 rfl).2.2.2.2.2.2.1);have N9:=hdq HW1.out.2.1;have Gb:=hdq HW1.out.2.2;clear x0 x1 x2 x3 x4 x5 x6 xf0 xf1 Gd Gh GK Gn Gr zx BF HW1 HB g1 g2;go_loopw [48] (fun p wr=>∃i:Nat,p= .int .i64 (i:Int)/\i<=b.wraps.length/\Hid (Touch [] w3 wr)/\Hid (∀q (hq:q<b.wraps.length),q<i->∀t∈b.wraps[q].args,t.plain.Ok)) (fun p _=>b.wraps.length-(intOf p).toNat)
     case atStart=>exact⟨0,rfl,Nat.zero_le _,Touch.refl _ _,fun q hq h0=>absurd h0 (Nat.not_lt_zero _)⟩
     case round=>
      obtain⟨i,rfl,hi,HT,HA⟩:=hrel;have hi0:(0:Int)<=(i:Int):=by omega
      by_cases hil:i<b.wraps.length
      .have EM:(i:Int)<(b.wraps.length:Int):=by omega
       obtain⟨bw,ow,hba,hbw,hcc⟩:=aG.at (f:=MC.cells) (fun _=>rfl) (N9.out.1.aW HT.out) i hil;have HCM:=hdq (N9.out.2 _ (List.getElem_mem hil));have Fw:Hid (∀W,Touch [] w W->(∃t∈b.wraps[i].args,¬t.plain.Ok)->nI n1 n2 l b w (.returned (.bool false)) W):=fun W hW ⟨t,ht,hno⟩=>DJ.out W hW (fun h=>hno (h.2.2.2.1 _ (List.getElem_mem hil) t ht));have Fz:Hid ((∀t∈b.wraps[i].args,t.plain.Ok)->∀q (hq:q<b.wraps.length),q<i+1->∀t∈b.wraps[q].args,t.plain.Ok):=fun h q hq hqi=>by
        by_cases hqe:q=i
        .subst hqe;exact h
        .exact HA.out q hq (by omega)
       have q0:=hcc 0 (by omega);have q1:=hcc 1 (by omega);generalize b.wraps[i]=cm at HCM Fw Fz q0 q1;have q0':wr.cell? ⟨bw,ow+i*2,none⟩=some (.int .i64 cm.fn):=q0;have q1':wr.cell? ⟨bw,ow+i*2+1,none⟩=some (.slice cm.a cm.args.length cm.cap):=q1;rw[hba];clear hcc q0 q1 hba;go_wp2;have F6:=hdq (HT.out.alloc (.cells #[.int .i64 cm.fn,.slice cm.a cm.args.length cm.cap] 189));clear q0' q1' hbw HT;go_loopw [55] (fun p wr2=>∃j:Nat,p= .int .i64 (j:Int)/\j<=cm.args.length/\Hid (Touch [] w3 wr2)/\Hid (∀q (hq:q<cm.args.length),q<j->cm.args[q].plain.Ok)) (fun p _=>cm.args.length-(intOf p).toNat)
       case atStart=>exact⟨0,rfl,Nat.zero_le _,F6,fun q hq h0=>absurd h0 (Nat.not_lt_zero _)⟩
       case round=>
        obtain⟨j,rfl,hj,HT,HJ⟩:=hrel;clear F6;have hj0:(0:Int)<=(j:Int):=by omega
        have hcl:=HCM.out.1.1;by_cases hjl:j<cm.args.length
        .have Cc:(j:Int)<(cm.args.length:Int):=by have :=HCM.out.1.1;omega
         obtain⟨ba,oa,OY,hbb,k0,k1,k2⟩:=(HCM.out.1.2.aW HT.out).cellAt hjl;have HTI:=hdq ((HCM.out.2 _ (List.getElem_mem hjl)).aO HT.out);have EK:Hid (¬cm.args[j].plain.Ok->∀W,Touch [] w W->nI n1 n2 l b w (.returned (.bool false)) W):=fun h W hW=>Fw.out W hW ⟨_,List.getElem_mem hjl,h⟩;have EL:Hid (cm.args[j].plain.Ok->∀q (hq:q<cm.args.length),q<j+1->cm.args[q].plain.Ok):=fun h q hq hqj=>by
          by_cases hqe:q=j
          .subst hqe;exact h
          .exact HJ.out q hq (by omega)
         generalize cm.args[j]=u at k0 k1 k2 HTI EK EL;simp only[MT.sl]at k2;rw[OY];clear OY;go_wp2_with fail
         refine ah ?_;intro w5 DC;have Ho:Hid (Touch [] wr w5):=DC▸(Touch.refl [] wr).alloc _;clear DC k0 k1 k2 hbb;refine(jH u w5 (HTI.out.aO Ho.out)).mono ?_;rintro e w6 ⟨⟨z,rfl,hz,hiff⟩,ht⟩;have Fu:=hdq ((HT.out.trans' Ho.out).trans' ht);by_cases hok:u.plain.Ok
         .obtain rfl:=hiff.2 hok
          have HJ2:=hdq (EL.out hok);clear ht Ho HT hz hiff hok EK EL HTI;go_wp2;go_roundw
          case rel=>exact⟨j+1,by go_num,by omega,Fu,HJ2⟩
          case measure=>simp[intOf];omega
         .obtain rfl:z=40:=hz.resolve_left (fun h=>hok (hiff.1 h))
          have HE:=hdq (EK.out hok w6 (HT3.out.trans' Fu.out));clear ht Ho HT hz hiff hok EK EL HTI;go_wp2;go_ret
          exact HE.out
        .have Cc:¬(j:Int)<(cm.args.length:Int):=by omega
         have HA2:=hdq (Fz.out (fun t ht=>by
          obtain⟨q,hq,rfl⟩:=List.getElem_of_mem ht;exact HJ.out q hq (by omega)))
         clear Fz HJ Fw;go_wp2;go_roundw
         case rel=>exact⟨i+1,by go_num,by omega,HT,HA2⟩
         case measure=>simp[intOf];omega
      .have EM:¬(i:Int)<(b.wraps.length:Int):=by omega
       have HAW:Hid (∀cm∈b.wraps,∀t∈cm.args,t.plain.Ok):=fun cm hm=>by
        obtain⟨q,hq,rfl⟩:=List.getElem_of_mem hm;exact HA.out q hq (by omega)
       have x6:=LV.out wr HT.out;have zx:=World.block_lt_of_cell? _ _ x6;clear HA N9;go_wp2;have HT0:=hdq HT.out;clear x6 zx;go_loopw [67] (fun p wr2=>∃i:Nat,p= .int .i64 (i:Int)/\i<=b.aT.length/\Hid (Touch [] w3 wr2)/\Hid (∀q (hq:q<b.aT.length),q<i->b.aT[q]∈l)) (fun p _=>b.aT.length-(intOf p).toNat)
       case atStart=>exact⟨0,rfl,Nat.zero_le _,HT0,fun q hq h0=>absurd h0 (Nat.not_lt_zero _)⟩
       case round=>
        clear HT HT0 EM hil;obtain⟨i,rfl,hi,HT,HA⟩:=hrel;have hi0:(0:Int)<=(i:Int):=by omega
        by_cases hil:i<b.aT.length
        .have EM:(i:Int)<(b.aT.length:Int):=by omega
         obtain⟨bw,ow,hba,hbw,hcc⟩:=aG.at (f:=fq) (fun _=>rfl) (Gb.out.aW HT.out) i hil;have Fw:Hid (b.aT[i]∉l->∀W,Touch [] w W->nI n1 n2 l b w (.returned (.bool false)) W):=fun h W hW=>DJ.out W hW (fun h2=>h (h2.2.2.2.2 _ (List.getElem_mem hil)));have Fz:Hid (b.aT[i]∈l->∀q (hq:q<b.aT.length),q<i+1->b.aT[q]∈l):=fun h q hq hqi=>by
          by_cases hqe:q=i
          .subst hqe;exact h
          .exact HA.out q hq (by omega)
         have q0:=hcc 0 Nat.one_pos;generalize b.aT[i]=k at Fw Fz q0;rw[Nat.mul_one,Nat.add_zero]at q0;have q0':wr.cell? ⟨bw,ow+i,none⟩=some (.int .i64 k):=q0;rw[hba];clear hcc q0 hba;have Fy:=hdq (HT3.out.trans' HT.out);go_wp2_with fail
         refine(HS.out _ Fy.out k).mono ?_;rintro e w6 ⟨kk,f,rfl,hf,ht⟩;have Fu:=hdq (HT.out.trans' ht);cases f with
         |true=>
          have HJ2:=hdq (Fz.out (hf.1 rfl));clear ht hf HT Fy Fw Fz q0' hbw;go_wp2;go_roundw
          case rel=>exact⟨i+1,by go_num,by omega,Fu,HJ2⟩
          case measure=>simp[intOf];omega
         |false=>
          have HE:=hdq (Fw.out (fun h=>by have :=hf.2 h;simp at this) w6 (HT3.out.trans' Fu.out));clear ht hf HT Fy Fw Fz q0' hbw;go_wp2;go_ret
          exact HE.out
        .have EM:¬(i:Int)<(b.aT.length:Int):=by omega
         have HE:=hdq (Dj.out wr (HT3.out.trans' HT.out) ⟨HKO.out,hlw,hln,HAW.out,fun k hk=>by
          obtain⟨q,hq,rfl⟩:=List.getElem_of_mem hk;exact HA.out q hq (by omega)⟩)
         clear HA HAW HKO;go_wp2;go_ret
         exact HE.out
    .have HE:=hdq (DJ.out w3 BF.out.BN (fun h=>hln h.2.2.1))
     have g1:decide ((32:Int)<(b.wraps.length:Int))=false:=decide_eq_false (by omega);have g2:(32:Int)<(b.aT.length:Int):=by omega
     clear DJ Dj HS HB HKO hln hlw;go_wp2;go_ret
     exact HE.out
   .have HE:=hdq (DJ.out w3 BF.out.BN (fun h=>hlw h.2.1))
    have g1:(32:Int)<(b.wraps.length:Int):=by omega
    clear DJ Dj HS HB HKO hlw;go_wp2;go_ret
    exact HE.out
def MB.Big(b:MB):Prop:=b.v.nodes<=1048576/\∀c∈b.wraps,∀t∈c.args,t.nodes<=1048576
def lF(b:MB):Prop:=(b.v.nodes<=20/\b.wraps.length<=40/\b.aT.length<=40)/\∀c∈b.wraps,c.args.length<=9/\∀t∈c.args,t.nodes<=20
def qp(b:MB)(w:World):Ending->World->Prop:=aI (lF b) w
theorem Ni(b:MB)(w:World)(hb:b.Mem w)(hbig:b.Big):Calls Tryz.prog 45 #[b.val] w (qp b w):=by
 have HB:=hdq hb;have HG:=hdq hbig;have hdl:b.wraps.length<=2000000/\b.aT.length<=2000000:=⟨hb.2.1.1.1,hb.2.2.1⟩;have Gc:Hid (∀W,Touch [] w W->Calls Tryz.prog 44 #[.agg #[.int .i64 b.v.kind,.int .i64 b.v.num,.slice b.v.addr b.v.parts.length b.v.cap]] W fun e w'=>e= .returned (.int .i64 ((min b.v.nodes 257:Nat):Int))/\Touch [] W w'):=fun W hW=>iX b.v W (hb.1.aO hW) hbig.1;have DJ:Hid (∀W,Touch [] w W->¬lF b->qp b w (.returned (.bool false)) W):=fun W hW h=>⟨false,rfl,by simp[h],hW⟩;have Dj:Hid (∀W,Touch [] w W->lF b->qp b w (.returned (.bool true)) W):=fun W hW h=>⟨true,rfl,by simp[h],hW⟩;clear hb hbig;simp only[MB.val];go_enter Tryz.func45,Tryz.ntmps45
 go_wp2_with fail
 refine ah ?_;intro w1 hw1;have BB:=hdq ((BD.nil' w).DN hw1);simp only[nAq]at BB;generalize hb1:w.heap.size=b1 at BB|-;clear hw1 hb1;refine(Gc.out _ BB.out.BN).mono ?_;rintro e w2 ⟨rfl,ht⟩;have HL2:=hdq (BB.out.touch ht);clear ht BB Gc;obtain⟨sz,hsz⟩:∃sz,min b.v.nodes 257=sz:=⟨_,rfl⟩;rw[hsz];have HZ:Hid (sz<=20↔b.v.nodes<=20):=by unfold Hid;omega
 clear hsz;have hsz57:sz<=257\/257<sz:=by omega
 obtain⟨x0,x1,x2,x3,x4,x5,x6,_,zx,_,_⟩:=HL2.out.c7 0 rfl;by_cases h1:sz<=20
 .have d1:decide ((20:Int)<(sz:Int))=false:=decide_eq_false (by omega)
  by_cases h2:b.wraps.length<=40
  .have d2:decide ((40:Int)<(b.wraps.length:Int))=false:=decide_eq_false (by omega)
   by_cases h3:b.aT.length<=40
   .have d3:decide ((40:Int)<(b.aT.length:Int))=false:=decide_eq_false (by omega)
    have H123:Hid (b.v.nodes<=20/\b.wraps.length<=40/\b.aT.length<=40):=⟨HZ.out.1 h1,h2,h3⟩;go_wp2;have LV:=hdq (fun W (hW:Touch [] w2 W)=>((HL2.out.touch hW).c7 0 rfl).2.2.2.2.2.1);have HT0:=hdq HL2.out.BN;have OO:=hdq (fun W (hW:Touch [] w2 W)=>(HB.out.aW (HT0.out.trans' hW)).2.1);clear x0 x1 x2 x3 x4 x5 x6 zx HL2 d1 d2 d3 h1 h3 HZ hsz57;go_loopw [3] (fun p wr=>∃i:Nat,p= .int .i64 (i:Int)/\i<=b.wraps.length/\Hid (Touch [] w2 wr)/\Hid (∀q (hq:q<b.wraps.length),q<i->b.wraps[q].args.length<=9/\∀t∈b.wraps[q].args,t.nodes<=20)) (fun p _=>b.wraps.length-(intOf p).toNat)
    case atStart=>exact⟨0,rfl,Nat.zero_le _,Touch.refl _ _,fun q hq h0=>absurd h0 (Nat.not_lt_zero _)⟩
    case round=>
     obtain⟨i,rfl,hi,HT,HA⟩:=hrel;have hi0:(0:Int)<=(i:Int):=by omega
     have x5:=LV.out wr HT.out;have zx:=World.block_lt_of_cell? _ _ x5;by_cases hil:i<b.wraps.length
     .have EM:(i:Int)<(b.wraps.length:Int):=by omega
      obtain⟨bw,ow,hba,hbw,hcc⟩:=aG.at (f:=MC.cells) (fun _=>rfl) (OO.out wr HT.out).1 i hil;have HCM:=hdq (fun W (hW:Touch [] w2 W)=>(OO.out W hW).2 _ (List.getElem_mem hil));have HGC:=hdq (HG.out.2 _ (List.getElem_mem hil));have Fw:Hid (¬(b.wraps[i].args.length<=9/\∀t∈b.wraps[i].args,t.nodes<=20)->∀W,Touch [] w W->qp b w (.returned (.bool false)) W):=fun h W hW=>DJ.out W hW (fun h2=>h (h2.2 _ (List.getElem_mem hil)));have Fz:Hid ((b.wraps[i].args.length<=9/\∀t∈b.wraps[i].args,t.nodes<=20)->∀q (hq:q<b.wraps.length),q<i+1->b.wraps[q].args.length<=9/\∀t∈b.wraps[q].args,t.nodes<=20):=fun h q hq hqi=>by
       by_cases hqe:q=i
       .subst hqe;exact h
       .exact HA.out q hq (by omega)
      have q1:=hcc 1 (by omega);obtain⟨cm,hcm⟩:∃cm,b.wraps[i]=cm:=⟨_,rfl⟩;rw[hcm]at HCM Fw Fz q1 HGC;have q1':wr.cell? ⟨bw,ow+i*2+1,none⟩=some (.slice cm.a cm.args.length cm.cap):=q1;have HQ1:Hid (∀W,Touch [] w2 W->W.cell? ⟨bw,ow+i*2+1,none⟩=some (.slice cm.a cm.args.length cm.cap)):=fun W hW=>by
       obtain⟨bw',ow',DF,_,hcc'⟩:=aG.at (f:=MC.cells) (fun _=>rfl) (OO.out W hW).1 i hil;rw[hba]at DF;injection DF with DF
       injection DF with g1 g2
       subst g1 g2;rw[<-hcm];exact hcc' 1 (by omega)
      have FD:=hdq hba;have hcl:=(HCM.out wr HT.out).1.1;rw[hba]at x5;clear hcc q1 hcm hba;by_cases h9:cm.args.length<=9
      .have d9:¬(9:Int)<(cm.args.length:Int):=by omega
       go_wp2;have F6:=hdq HT.out;clear q1' hbw HT x5 zx;go_loopw [4] (fun p wr2=>∃j:Nat,p= .int .i64 (j:Int)/\j<=cm.args.length/\Hid (Touch [] w2 wr2)/\Hid (∀q (hq:q<cm.args.length),q<j->cm.args[q].nodes<=20)) (fun p _=>cm.args.length-(intOf p).toNat)
       case atStart=>exact⟨0,rfl,Nat.zero_le _,F6,fun q hq h0=>absurd h0 (Nat.not_lt_zero _)⟩
       case round=>
        obtain⟨j,rfl,hj,HT,HJ⟩:=hrel;clear F6;have hj0:(0:Int)<=(j:Int):=by omega
        have x5:=LV.out wr HT.out;have zx:=World.block_lt_of_cell? _ _ x5;have q1':=HQ1.out wr HT.out;have zq:=World.block_lt_of_cell? _ _ q1';rw[FD.out]at x5;by_cases hjl:j<cm.args.length
        .have Cc:(j:Int)<(cm.args.length:Int):=by omega
         obtain⟨ba,oa,OY,hbb,k0,k1,k2⟩:=(HCM.out wr HT.out).1.2.cellAt hjl;have Gc:=hdq (iX cm.args[j] wr ((HCM.out wr HT.out).2 _ (List.getElem_mem hjl)) (HGC.out _ (List.getElem_mem hjl)));have EK:Hid (¬cm.args[j].nodes<=20->∀W,Touch [] w W->qp b w (.returned (.bool false)) W):=fun h W hW=>Fw.out (fun h2=>h (h2.2 _ (List.getElem_mem hjl))) W hW;have EL:Hid (cm.args[j].nodes<=20->∀q (hq:q<cm.args.length),q<j+1->cm.args[q].nodes<=20):=fun h q hq hqj=>by
          by_cases hqe:q=j
          .subst hqe;exact h
          .exact HJ.out q hq (by omega)
         generalize cm.args[j]=u at k0 k1 k2 Gc EK EL;simp only[MT.sl]at k2;rw[eG]at Gc;rw[OY]at q1';clear OY;obtain⟨sz,hsz⟩:∃sz,min u.nodes 257=sz:=⟨_,rfl⟩;rw[hsz]at Gc;go_wp2_with fail
         refine Gc.out.mono ?_;rintro e w6 ⟨rfl,ht⟩;have Fu:=hdq (HT.out.trans' ht);by_cases hok:u.nodes<=20
         .have d20:¬(20:Int)<(sz:Int):=by omega
          have HJ2:=hdq (EL.out hok);clear ht HT hok EK EL hsz x5 zx q1' zq k0 k1 k2 hbb Gc;go_wp2;go_roundw
          case rel=>exact⟨j+1,by go_num,by omega,Fu,HJ2⟩
          case measure=>simp[intOf];omega
         .have d20:(20:Int)<(sz:Int):=by omega
          have HE:=hdq (EK.out hok w6 (HT0.out.trans' Fu.out));clear ht HT hok EK EL hsz x5 zx q1' zq k0 k1 k2 hbb Gc;go_wp2;go_ret
          exact HE.out
        .have Cc:¬(j:Int)<(cm.args.length:Int):=by omega
         have HA2:=hdq (Fz.out ⟨h9,fun t ht=>by
          obtain⟨q,hq,rfl⟩:=List.getElem_of_mem ht;exact HJ.out q hq (by omega)⟩)
         clear Fz HJ Fw;go_wp2;go_roundw
         case rel=>exact⟨i+1,by go_num,by omega,HT,HA2⟩
         case measure=>simp[intOf];omega
      .have d9:(9:Int)<(cm.args.length:Int):=by omega
       have HE:=hdq (Fw.out (fun h=>h9 h.1) wr (HT0.out.trans' HT.out));go_wp2;go_ret
       exact HE.out
     .have EM:¬(i:Int)<(b.wraps.length:Int):=by omega
      have HE:=hdq (Dj.out wr (HT0.out.trans' HT.out) ⟨H123.out,fun cm hm=>by
       obtain⟨q,hq,rfl⟩:=List.getElem_of_mem hm;exact HA.out q hq (by omega)⟩)
      clear HA;go_wp2;go_ret
      exact HE.out
   .have d3:(40:Int)<(b.aT.length:Int):=by omega
    have HE:=hdq (DJ.out w2 HL2.out.BN (fun h=>h3 h.1.2.2));clear DJ Dj HB HG;go_wp2;go_ret
    exact HE.out
  .have d2:(40:Int)<(b.wraps.length:Int):=by omega
   have HE:=hdq (DJ.out w2 HL2.out.BN (fun h=>h2 h.1.2.1));clear DJ Dj HB HG;go_wp2;go_ret
   exact HE.out
 .have d1:(20:Int)<(sz:Int):=by omega
  have HE:=hdq (DJ.out w2 HL2.out.BN (fun h=>h1 (HZ.out.2 h.1.1)));clear DJ Dj HB HG;go_wp2;go_ret
  exact HE.out
structure BO where
 what:Int
 a:Int
 b:Int
 c:Int
 side:Int
 e:ME
 ba:Option Addr
 bc:Nat
 bases:List MB
 ca:Option Addr
 cc:Nat
 conds:List Int
 v:MT
def BO.cells(x:BO):List Value:=[.int .i64 x.what,.int .i64 x.a,.int .i64 x.b,.int .i64 x.c,.int .i64 x.side,.int .i64 x.e.sync,.int .i64 x.e.thread,.int .i64 x.e.branch,.int .i64 x.e.flag,.int .i64 x.e.v.kind,.int .i64 x.e.v.num,.slice x.e.v.addr x.e.v.parts.length x.e.v.cap,.slice x.ba x.bases.length x.bc,.slice x.ca x.conds.length x.cc,.int .i64 x.v.kind,.int .i64 x.v.num,.slice x.v.addr x.v.parts.length x.v.cap]
def BO.val(x:BO):Value:= .agg #[.int .i64 x.what,.int .i64 x.a,.int .i64 x.b,.int .i64 x.c,.int .i64 x.side,.int .i64 x.e.sync,.int .i64 x.e.thread,.int .i64 x.e.branch,.int .i64 x.e.flag,.int .i64 x.e.v.kind,.int .i64 x.e.v.num,.slice x.e.v.addr x.e.v.parts.length x.e.v.cap,.slice x.ba x.bases.length x.bc,.slice x.ca x.conds.length x.cc,.int .i64 x.v.kind,.int .i64 x.v.num,.slice x.v.addr x.v.parts.length x.v.cap]
def BO.Mem(w:World)(x:BO):Prop:=x.e.v.In w/\x.v.In w/\(aG w x.ba 7 x.bases.length (x.bases.flatMap MB.cells)/\∀b∈x.bases,b.Mem w)/\aG w x.ca 1 x.conds.length (x.conds.flatMap fq)
def BO.Big(x:BO):Prop:=x.e.v.nodes<=1048576/\x.v.nodes<=1048576/\∀b∈x.bases,b.Big
theorem BO.Mem.aW{w w':World}{x:BO}(h:x.Mem w)(ht:Touch [] w w'):x.Mem w':=⟨h.1.aO ht,h.2.1.aO ht,⟨h.2.2.1.1.aW ht,fun b hb=>(h.2.2.1.2 b hb).aW ht⟩,h.2.2.2.aW ht⟩
def BO.Small(x:BO):Prop:=(x.v.nodes<=20/\x.e.v.nodes<=20/\x.bases.length<=40/\x.conds.length<=40)/\∀b∈x.bases,lF b
def Jj(l:List BO)(most:Int):Prop:=(l.length:Int)<=most/\∀x∈l,x.Small
def H6(l:List BO)(most:Int)(w:World):Ending->World->Prop:=aI (Jj l most) w
theorem few16(w:World)(a:Option Addr)(cap:Nat)(l:List BO)(most:Int)(ha:aG w a 17 l.length (l.flatMap BO.cells))(hin:∀x∈l,x.Mem w/\x.Big):
  Calls Tryz.prog 6 #[.slice a l.length cap,.int .i64 most] w (H6 l most w):=by
 have DJ:Hid (∀W,Touch [] w W->¬Jj l most->H6 l most w (.returned (.bool false)) W):=fun W hW h=>⟨false,rfl,by simp[h],hW⟩;have Dj:Hid (∀W,Touch [] w W->Jj l most->H6 l most w (.returned (.bool true)) W):=fun W hW h=>⟨true,rfl,by simp[h],hW⟩;have HA:=hdq ha;have HI:=hdq hin;have hl6:=ha.1;clear ha hin;by_cases hm:most<(l.length:Int)
 .have HE:=hdq (DJ.out w (Touch.refl _ _) (fun h=>by have :=h.1;omega))
  go_enter Tryz.func6,Tryz.ntmps6
  go_wp2;go_ret
  exact HE.out
 .have hm':¬most<(l.length:Int):=hm
  have HM:Hid ((l.length:Int)<=most):=by unfold Hid;omega
  clear hm;go_enter Tryz.func6,Tryz.ntmps6
  go_wp2;go_loopw [5] (fun i wr=>∃k:Nat,i= .int .i64 (k:Int)/\k<=l.length/\Hid (∀j (h:j<l.length),j<k->l[j].Small)/\Hid (Touch [] w wr)) (fun i _=>l.length-(intOf i).toNat)
  case atStart=>exact⟨0,rfl,Nat.zero_le _,fun j _ h=>absurd h (Nat.not_lt_zero _),Touch.refl [] w⟩
  case round=>
   clear hm';obtain⟨k,rfl,hk,HS,HT⟩:=hrel;have hk0:(0:Int)<=(k:Int):=by omega
   by_cases hlt:k<l.length
   .have hlt':(k:Int)<(l.length:Int):=by omega
    obtain⟨b,o,hba,hb,hc⟩:=aG.at (f:=BO.cells) (fun _=>rfl) (HA.out.aW HT.out) k hlt;obtain⟨hi1,hi2⟩:=HI.out _ (List.getElem_mem hlt);have Gb:Hid (¬l[k].Small->∀W,Touch [] w W->H6 l most w (.returned (.bool false)) W):=fun h W hW=>DJ.out W hW (fun h2=>h (h2.2 _ (List.getElem_mem hlt)));have JB:Hid (l[k].Small->∀j (h:j<l.length),j<k+1->l[j].Small):=fun h j hj hjk=>by
     by_cases hjk2:j=k
     .subst hjk2;exact h
     .exact HS.out j hj (by omega)
    obtain⟨y,hy⟩:∃y,l[k]=y:=⟨_,rfl⟩;have c0:wr.cell? ⟨b,o+k*17,none⟩=some (.int .i64 y.what):=(hc 0 (by omega)).trans (by rw[hy];rfl);have c1:wr.cell? ⟨b,o+k*17+1,none⟩=some (.int .i64 y.a):=(hc 1 (by omega)).trans (by rw[hy];rfl);have c2:wr.cell? ⟨b,o+k*17+2,none⟩=some (.int .i64 y.b):=(hc 2 (by omega)).trans (by rw[hy];rfl);have c3:wr.cell? ⟨b,o+k*17+3,none⟩=some (.int .i64 y.c):=(hc 3 (by omega)).trans (by rw[hy];rfl);have c4:wr.cell? ⟨b,o+k*17+4,none⟩=some (.int .i64 y.side):=(hc 4 (by omega)).trans (by rw[hy];rfl);have c5:wr.cell? ⟨b,o+k*17+5,none⟩=some (.int .i64 y.e.sync):=(hc 5 (by omega)).trans (by rw[hy];rfl);have c6:wr.cell? ⟨b,o+k*17+6,none⟩=some (.int .i64 y.e.thread):=(hc 6 (by omega)).trans (by rw[hy];rfl);have c7:wr.cell? ⟨b,o+k*17+7,none⟩=some (.int .i64 y.e.branch):=(hc 7 (by omega)).trans (by rw[hy];rfl);have c8:wr.cell? ⟨b,o+k*17+8,none⟩=some (.int .i64 y.e.flag):=(hc 8 (by omega)).trans (by rw[hy];rfl);have c9:wr.cell? ⟨b,o+k*17+9,none⟩=some (.int .i64 y.e.v.kind):=(hc 9 (by omega)).trans (by rw[hy];rfl);have c10:wr.cell? ⟨b,o+k*17+10,none⟩=some (.int .i64 y.e.v.num):=(hc 10 (by omega)).trans (by rw[hy];rfl);have c11:wr.cell? ⟨b,o+k*17+11,none⟩=some (.slice y.e.v.addr y.e.v.parts.length y.e.v.cap):=(hc 11 (by omega)).trans (by rw[hy];rfl);have c12:wr.cell? ⟨b,o+k*17+12,none⟩=some (.slice y.ba y.bases.length y.bc):=(hc 12 (by omega)).trans (by rw[hy];rfl);have c13:wr.cell? ⟨b,o+k*17+13,none⟩=some (.slice y.ca y.conds.length y.cc):=(hc 13 (by omega)).trans (by rw[hy];rfl);have c14:wr.cell? ⟨b,o+k*17+14,none⟩=some (.int .i64 y.v.kind):=(hc 14 (by omega)).trans (by rw[hy];rfl);have c15:wr.cell? ⟨b,o+k*17+15,none⟩=some (.int .i64 y.v.num):=(hc 15 (by omega)).trans (by rw[hy];rfl);have c16:wr.cell? ⟨b,o+k*17+16,none⟩=some (.slice y.v.addr y.v.parts.length y.v.cap):=(hc 16 (by omega)).trans (by rw[hy];rfl);have f6:wr.cell? ⟨b,o+k*17+5+1,none⟩=some (.int .i64 y.e.thread):=c6;have f7:wr.cell? ⟨b,o+k*17+5+2,none⟩=some (.int .i64 y.e.branch):=c7;have f8:wr.cell? ⟨b,o+k*17+5+3,none⟩=some (.int .i64 y.e.flag):=c8;have f9:wr.cell? ⟨b,o+k*17+5+4+0,none⟩=some (.int .i64 y.e.v.kind):=c9;have f10:wr.cell? ⟨b,o+k*17+5+4+1,none⟩=some (.int .i64 y.e.v.num):=c10;have f11:wr.cell? ⟨b,o+k*17+5+4+2,none⟩=some (.slice y.e.v.addr y.e.v.parts.length y.e.v.cap):=c11;rw[hy]at hi1 hi2 Gb JB;have EI:=hdq (fun W (hW:Touch [] wr W)=>hi1.aW (HT.out.trans' hW));have Oc:=hdq hi2;have FD:=hdq hba;have HSV:Hid (∀W,Touch [] wr W->Calls Tryz.prog 44 #[.agg #[.int .i64 y.v.kind,.int .i64 y.v.num,.slice y.v.addr y.v.parts.length y.v.cap]] W fun e w'=>e= .returned (.int .i64 ((min y.v.nodes 257:Nat):Int))/\Touch [] W w'):=fun W hW=>iX y.v W (EI.out W hW).2.1 hi2.2.1;have HSE:Hid (∀W,Touch [] wr W->Calls Tryz.prog 44 #[.agg #[.int .i64 y.e.v.kind,.int .i64 y.e.v.num,.slice y.e.v.addr y.e.v.parts.length y.e.v.cap]] W fun e w'=>e= .returned (.int .i64 ((min y.e.v.nodes 257:Nat):Int))/\Touch [] W w'):=fun W hW=>iX y.e.v W (EI.out W hW).1 hi2.1;rw[hba];clear hy hc hi1 hi2 hba;go_wp2_with fail
    refine ah ?_;intro w2 hw2;have HL2:=hdq ((BD.nil' wr).DN hw2);simp only[nAq]at HL2;generalize hb6:wr.heap.size=b6 at HL2|-;clear hw2 hb6 c0 c1 c2 c3 c4 c5 c6 c7 c8 c9 c10 c11 c12 c13 c14 c15 c16 f6 f7 f8 f9 f10 f11 hb;obtain⟨sv,hsv⟩:∃sv,min y.v.nodes 257=sv:=⟨_,rfl⟩;obtain⟨se,hse⟩:∃se,min y.e.v.nodes 257=se:=⟨_,rfl⟩;rw[hsv]at HSV;rw[hse]at HSE;have HZV:Hid (sv<=20↔y.v.nodes<=20):=by unfold Hid;omega
    have HZE:Hid (se<=20↔y.e.v.nodes<=20):=by unfold Hid;omega
    clear hsv hse;refine(HSV.out _ HL2.out.BN).mono ?_;rintro e w3 ⟨rfl,ht⟩;have BF:=hdq (HL2.out.touch ht);clear ht HL2 HSV;have hbx:=BF.out.box 0 rfl;have zb:=hbx.lt;have g9:=hbx.cell 9;have g10:=hbx.cell 10;have g11:=hbx.cell 11;have g12:=hbx.cell 12;have g13:=hbx.cell 13;have g14:=hbx.cell 14;have g15:=hbx.cell 15;have g16:=hbx.cell 16;clear hbx;by_cases h1:sv<=20
    .have d1:decide ((20:Int)<(sv:Int))=false:=decide_eq_false (by omega)
     go_wp2_with fail
     refine(HSE.out _ BF.out.BN).mono ?_;rintro e w4 ⟨rfl,ht⟩;have BH:=hdq (BF.out.touch ht);clear ht BF HSE g9 g10 g11 g12 g13 g14 g15 g16 zb;have hbx:=BH.out.box 0 rfl;have zb:=hbx.lt;have g9:=hbx.cell 9;have g10:=hbx.cell 10;have g11:=hbx.cell 11;have g12:=hbx.cell 12;have g13:=hbx.cell 13;have g14:=hbx.cell 14;have g15:=hbx.cell 15;have g16:=hbx.cell 16;clear hbx;have F6:=hdq (HT.out.trans' BH.out.BN);by_cases h2:se<=20
     .have d2:decide ((20:Int)<(se:Int))=false:=decide_eq_false (by omega)
      by_cases h3:y.bases.length<=40
      .have d3:decide ((40:Int)<(y.bases.length:Int))=false:=decide_eq_false (by omega)
       by_cases h4:y.conds.length<=40
       .have d4:decide ((40:Int)<(y.conds.length:Int))=false:=decide_eq_false (by omega)
        have H1234:Hid (y.v.nodes<=20/\y.e.v.nodes<=20/\y.bases.length<=40/\y.conds.length<=40):=⟨HZV.out.1 h1,HZE.out.1 h2,h3,h4⟩;go_wp2;have LV:=hdq (fun W (hW:Touch [] w4 W)=>((BH.out.touch hW).box 0 rfl).cell 12);have HMB:=hdq (fun W (hW:Touch [] w4 W)=>(EI.out W (BH.out.BN.trans' hW)).2.2.1);clear g9 g10 g11 g12 g13 g14 g15 g16 zb BH d1 d2 d3 d4 h1 h2 h4 HZV HZE;go_loopw [7] (fun p w5=>∃j:Nat,p= .int .i64 (j:Int)/\j<=y.bases.length/\Hid (Touch [] w4 w5)/\Hid (∀q (hq:q<y.bases.length),q<j->lF y.bases[q])) (fun p _=>y.bases.length-(intOf p).toNat)
        case atStart=>exact⟨0,rfl,Nat.zero_le _,Touch.refl _ _,fun q hq h0=>absurd h0 (Nat.not_lt_zero _)⟩
        case round=>
         obtain⟨j,rfl,hj,Ho,HJ⟩:=hrel;have hj0:(0:Int)<=(j:Int):=by omega
         have g12:=LV.out wr Ho.out;have zb:=World.block_lt_of_cell? _ _ g12;by_cases hjl:j<y.bases.length
         .have Cc:(j:Int)<(y.bases.length:Int):=by omega
          obtain⟨bb,oo,hbb,zbb,hcc⟩:=aG.at (f:=MB.cells) (fun _=>rfl) (HMB.out wr Ho.out).1 j hjl;have HSM:=hdq (Ni y.bases[j] wr ((HMB.out wr Ho.out).2 _ (List.getElem_mem hjl)) (Oc.out.2.2 _ (List.getElem_mem hjl)));have EK:Hid (¬lF y.bases[j]->∀W,Touch [] w W->H6 l most w (.returned (.bool false)) W):=fun h W hW=>Gb.out (fun h2=>h (h2.2 _ (List.getElem_mem hjl))) W hW;have EL:Hid (lF y.bases[j]->∀q (hq:q<y.bases.length),q<j+1->lF y.bases[q]):=fun h q hq hqj=>by
           by_cases hqe:q=j
           .subst hqe;exact h
           .exact HJ.out q hq (by omega)
          obtain⟨m,hm⟩:∃m,y.bases[j]=m:=⟨_,rfl⟩;have k0:wr.cell? ⟨bb,oo+j*7,none⟩=some (.int .i64 m.kind):=(hcc 0 (by omega)).trans (by rw[hm];rfl);have k1:wr.cell? ⟨bb,oo+j*7+1,none⟩=some (.int .i64 m.n):=(hcc 1 (by omega)).trans (by rw[hm];rfl);have k2:wr.cell? ⟨bb,oo+j*7+2,none⟩=some (.int .i64 m.v.kind):=(hcc 2 (by omega)).trans (by rw[hm];rfl);have k3:wr.cell? ⟨bb,oo+j*7+3,none⟩=some (.int .i64 m.v.num):=(hcc 3 (by omega)).trans (by rw[hm];rfl);have k4:wr.cell? ⟨bb,oo+j*7+4,none⟩=some (.slice m.v.addr m.v.parts.length m.v.cap):=(hcc 4 (by omega)).trans (by rw[hm];rfl);have k5:wr.cell? ⟨bb,oo+j*7+5,none⟩=some (.slice m.wa m.wraps.length m.wc):=(hcc 5 (by omega)).trans (by rw[hm];rfl);have k6:wr.cell? ⟨bb,oo+j*7+6,none⟩=some (.slice m.na m.aT.length m.nc):=(hcc 6 (by omega)).trans (by rw[hm];rfl);rw[hm]at HSM EK EL;rw[hbb]at g12;clear hcc hm hbb;go_wp2_with fail
          refine HSM.out.mono ?_;rintro e w6 ⟨f,rfl,hf,ht⟩;have Fu:=hdq (Ho.out.trans' ht);cases f with
          |true=>
           have HJ2:=hdq (EL.out (hf.1 rfl));clear ht hf HSM EK EL HJ k0 k1 k2 k3 k4 k5 k6 g12 zb zbb Ho;go_wp2;go_roundw
           case rel=>exact⟨j+1,by go_num,by omega,Fu,HJ2⟩
           case measure=>simp[intOf];omega
          |false=>
           have HE:=hdq (EK.out (fun h=>by have :=hf.2 h;simp at this) w6 (F6.out.trans' Fu.out));clear ht hf HSM EK EL HJ k0 k1 k2 k3 k4 k5 k6 g12 zb zbb Ho;go_wp2;go_ret
           exact HE.out
         .have Cc:¬(j:Int)<(y.bases.length:Int):=by omega
          have HA2:=hdq (JB.out ⟨H1234.out,fun b hb=>by
           obtain⟨q,hq,rfl⟩:=List.getElem_of_mem hb;exact HJ.out q hq (by omega)⟩)
          have Fu:=hdq (F6.out.trans' Ho.out);clear JB HJ Gb;go_wp2;go_roundw
          case rel=>exact⟨k+1,by go_num,by omega,HA2,Fu⟩
          case measure=>simp[intOf];omega
       .have d4:(40:Int)<(y.conds.length:Int):=by omega
        have HE:=hdq (Gb.out (fun h=>h4 h.1.2.2.2) w4 F6.out);clear Gb JB EI Oc;go_wp2;go_ret
        (try rw[FD.out]at HE)
        exact HE.out
      .have d3:(40:Int)<(y.bases.length:Int):=by omega
       have HE:=hdq (Gb.out (fun h=>h3 h.1.2.2.1) w4 F6.out);clear Gb JB EI Oc;go_wp2;go_ret
       exact HE.out
     .have d2:(20:Int)<(se:Int):=by omega
      have HE:=hdq (Gb.out (fun h=>h2 (HZE.out.2 h.1.2.1)) w4 F6.out);clear Gb JB EI Oc;go_wp2;go_ret
      exact HE.out
    .have d1:(20:Int)<(sv:Int):=by omega
     have HE:=hdq (Gb.out (fun h=>h1 (HZV.out.2 h.1.1)) w3 (HT.out.trans' BF.out.BN));clear Gb JB EI Oc HSE;go_wp2;go_ret
     exact HE.out
   .have hlt':¬(k:Int)<(l.length:Int):=by omega
    have HE:=hdq (Dj.out wr HT.out ⟨HM.out,fun x hx=>by
     obtain⟨i,hi,rfl⟩:=List.getElem_of_mem hx;exact HS.out i hi (by omega)⟩)
    go_wp2;go_ret
    exact HE.out
theorem none16(v:MT)(w:World):Calls Tryz.prog 288 #[v.val] w (aI v.E8 w):=by
 have HT:Hid (Touch [] w (w.alloc (.cells #[.int .i64 v.kind,.int .i64 v.num,.slice v.addr v.parts.length v.cap] 45))):=(Touch.refl [] w).alloc _;have z1:w.heap.size<w.heap.size+1:=by omega
 have HY:Hid (v.E8->aI v.E8 w (.returned (.bool true)) (w.alloc (.cells #[.int .i64 v.kind,.int .i64 v.num,.slice v.addr v.parts.length v.cap] 45))):=fun h=>⟨true,rfl,by simp[h],HT.out⟩;have HN:Hid (¬v.E8->aI v.E8 w (.returned (.bool false)) (w.alloc (.cells #[.int .i64 v.kind,.int .i64 v.num,.slice v.addr v.parts.length v.cap] 45))):=fun h=>⟨false,rfl,by simp[h],HT.out⟩;obtain⟨p,hp⟩:∃p,v.E8=p:=⟨_,rfl⟩;simp only[MT.val,MT.sl];by_cases h1:v.kind=0
 .by_cases h2:v.num=0
  .by_cases h3:v.parts.length=0
   .have HE:=hdq (HY.out ⟨h1,h2,h3⟩)
    clear HY HN HT;rw[h1,h2,h3]at HE|-;go_enter Tryz.func288,Tryz.ntmps288
    go_wp2;go_ret
    exact HE.out
   .have HE:=hdq (HN.out (fun h=>h3 h.2.2))
    have h3':((v.parts.length:Int)==0)=false:=by simp;exact fun h=>h3 (by simp[h])
    clear HY HN HT;rw[h1,h2]at HE|-;go_enter Tryz.func288,Tryz.ntmps288
    go_wp2;go_ret
    exact HE.out
  .have HE:=hdq (HN.out (fun h=>h2 h.2.1))
   clear HY HN HT;rw[h1]at HE|-;have h2':decide (v.num=0)=false:=decide_eq_false h2;go_enter Tryz.func288,Tryz.ntmps288
   go_wp2;go_ret
   exact HE.out
 .have HE:=hdq (HN.out (fun h=>h1 h.1))
  have h1':decide (v.kind=0)=false:=decide_eq_false h1;clear HY HN HT;go_enter Tryz.func288,Tryz.ntmps288
  go_wp2;go_ret
  exact HE.out
def xW(k:Int)(l:List Int)(w:World):Ending->World->Prop:=aI (k∈l) w
theorem Oy(w:World)(a:Option Addr)(c:Nat)(l:List Int)(k:Int)(h:aG w a 1 l.length (l.flatMap fq)):Calls Tryz.prog 287 #[.int .i64 k,.slice a l.length c] w (xW k l w):=by
 have HR:=hdq h;have hl6:=h.1;have DJ:Hid (k∉l->∀W,Touch [] w W->xW k l w (.returned (.bool false)) W):=fun h W hW=>⟨false,rfl,by simp[h],hW⟩;have Dj:Hid (k∈l->∀W,Touch [] w W->xW k l w (.returned (.bool true)) W):=fun h W hW=>⟨true,rfl,by simp[h],hW⟩;clear h;go_enter Tryz.func287,Tryz.ntmps287
 go_wp2;go_loopw [5] (fun p wr=>∃j:Nat,p= .int .i64 (j:Int)/\j<=l.length/\Hid (Touch [] w wr)/\Hid (∀i (g:i<l.length),i<j->l[i]≠k)) (fun p _=>l.length-(intOf p).toNat)
 case atStart=>exact⟨0,rfl,Nat.zero_le _,Touch.refl _ _,fun i g h0=>absurd h0 (Nat.not_lt_zero _)⟩
 case round=>
  obtain⟨j,rfl,hj,HT,HA⟩:=hrel;have hj0:(0:Int)<=(j:Int):=by omega
  by_cases hjl:j<l.length
  .have Cc:(j:Int)<(l.length:Int):=by omega
   obtain⟨b,o,hba,hb,hc⟩:=aG.at (f:=fq) (fun _=>rfl) (HR.out.aW HT.out) j hjl;have hm:=hc 0 Nat.one_pos;have MZ:=hdq (List.getElem_mem hjl);have HJ:Hid (l[j]≠k->∀i (g:i<l.length),i<j+1->l[i]≠k):=fun h i g hi=>by
    by_cases hij:i=j
    .subst hij;exact h
    .exact HA.out i g (by omega)
   obtain⟨y,hy⟩:∃y,l[j]=y:=⟨_,rfl⟩;rw[hy,Nat.mul_one,Nat.add_zero]at hm;have hm2:wr.cell? ⟨b,o+j,none⟩=some (.int .i64 y):=hm;rw[hy]at MZ HJ;have FD:=hdq hba;rw[hba];clear hc hy hm hba;by_cases hq:y=k
   .have hb0:(y==k)=true:=by simp[hq]
    have HE:=hdq (Dj.out (hq▸MZ.out) wr HT.out);clear hq HJ HA MZ;go_wp2;go_ret
    exact HE.out
   .have hb0:(y==k)=false:=by simp[hq]
    have HA2:=hdq (HJ.out hq);clear hq HJ HA MZ;go_wp2;go_roundw
    case rel=>exact⟨j+1,by go_num,by omega,HT,HA2⟩
    case measure=>simp[intOf];omega
  .have Cc:¬(j:Int)<(l.length:Int):=by omega
   have HE:=hdq (DJ.out (fun h=>by
    obtain⟨q,hq,he⟩:=List.getElem_of_mem h;exact HA.out q hq (by omega) he) wr HT.out)
   go_wp2;go_ret
   exact HE.out
def jQ(n1 n2:Nat)(l:List Int)(b:MB)(w:World):Ending->World->Prop:=aI (eD n1 n2 l b) w
theorem base16(v:RV)(b:MB)(w:World)(hb:b.Mem w)(hbig:b.Big)(a:Option Addr)(c:Nat)(l:List Int)(hl:aG w a 1 l.length (l.flatMap fq)):Calls Tryz.prog 272 #[v.val,b.val,.slice a l.length c] w (jQ v.hn v.on l b w):=by
 have HB:=hdq hb;have HG:=hdq hbig;have hdl:b.wraps.length<=2000000/\b.aT.length<=2000000:=⟨hb.2.1.1.1,hb.2.2.1⟩;have HAM:=hdq (fun W (hW:Touch [] w W) k=>Oy W a c l k (hl.aW hW));have FU:Hid (∀W,Touch [] w W->Calls Tryz.prog 248 #[.agg #[.int .i64 b.v.kind,.int .i64 b.v.num,.slice b.v.addr b.v.parts.length b.v.cap]] W (aI b.v.plain.Ok W)):=fun W hW=>sN b.v W (hb.1.aO hW) hbig.1;have FO:Hid (∀W,Touch [] w W->Calls Tryz.prog 288 #[.agg #[.int .i64 b.v.kind,.int .i64 b.v.num,.slice b.v.addr b.v.parts.length b.v.cap]] W (aI b.v.E8 W)):=fun W hW=>none16 b.v W;have DJ:Hid (∀W,Touch [] w W->¬eD v.hn v.on l b->jQ v.hn v.on l b w (.returned (.bool false)) W):=fun W hW h=>⟨false,rfl,by simp[h],hW⟩;have HBO:Hid (∀W (f:Bool),Touch [] w W->(f=true↔eD v.hn v.on l b)->jQ v.hn v.on l b w (.returned (.bool f)) W):=fun W f hW h=>⟨f,rfl,h,hW⟩;clear hb hbig hl;simp only[MB.val,RV.val];go_enter Tryz.func272,Tryz.ntmps272
 go_upto_region 1 with fail
 refine ay ?_;intro w2 hw2;have HL2:=hdq ((BD.nil' w).DZ hw2);simp only[nAq]at HL2;generalize hb4:w.heap.size+1=b4 at HL2|-;generalize hb3:w.heap.size=b3 at HL2|-;clear hw2 hb4 hb3;obtain⟨x0,x1,x2,x3,x4,x5,x6,_,zx,_,_⟩:=HL2.out.c7 1 rfl;by_cases h2:b.wraps.length<=32
 .have d2:decide ((32:Int)<(b.wraps.length:Int))=false:=decide_eq_false (by omega)
  by_cases h3:b.aT.length<=32
  .have d3:decide ((32:Int)<(b.aT.length:Int))=false:=decide_eq_false (by omega)
   have H23:Hid (b.wraps.length<=32/\b.aT.length<=32):=⟨h2,h3⟩;go_wp2;have LV:=hdq (fun W (hW:Touch [] w2 W)=>((HL2.out.touch hW).c7 1 rfl).2.2.2.2.2.1);have HB7:=hdq (fun W (hW:Touch [] w2 W)=>(HL2.out.touch hW).c7 1 rfl);have HR6:=hdq (fun W (hW:Touch [] w2 W)=>(HL2.out.touch hW).c6 0 rfl);have HT0:=hdq HL2.out.BN;have OO:=hdq (fun W (hW:Touch [] w2 W)=>(HB.out.aW (HT0.out.trans' hW)).2.1);have Gb:=hdq (fun W (hW:Touch [] w2 W)=>(HB.out.aW (HT0.out.trans' hW)).2.2);clear x0 x1 x2 x3 x4 x5 x6 zx HL2 d2 d3;go_loopw [7] (fun p wr=>∃i:Nat,p= .int .i64 (i:Int)/\i<=b.wraps.length/\Hid (Touch [] w2 wr)/\Hid (∀q (hq:q<b.wraps.length),q<i->∀t∈b.wraps[q].args,t.plain.Ok)) (fun p _=>b.wraps.length-(intOf p).toNat)
   case atStart=>exact⟨0,rfl,Nat.zero_le _,Touch.refl _ _,fun q hq h0=>absurd h0 (Nat.not_lt_zero _)⟩
   case round=>
    obtain⟨i,rfl,hi,HT,HA⟩:=hrel;have hi0:(0:Int)<=(i:Int):=by omega
    have x5:=LV.out wr HT.out;have zx:=World.block_lt_of_cell? _ _ x5;by_cases hil:i<b.wraps.length
    .have EM:(i:Int)<(b.wraps.length:Int):=by omega
     obtain⟨bw,ow,hba,hbw,hcc⟩:=aG.at (f:=MC.cells) (fun _=>rfl) (OO.out wr HT.out).1 i hil;have HCM:=hdq (fun W (hW:Touch [] w2 W)=>(OO.out W hW).2 _ (List.getElem_mem hil));have HGC:=hdq (HG.out.2 _ (List.getElem_mem hil));have Fw:Hid (¬(∀t∈b.wraps[i].args,t.plain.Ok)->∀W,Touch [] w W->jQ v.hn v.on l b w (.returned (.bool false)) W):=fun h W hW=>DJ.out W hW (fun h2=>h (h2.2.2.2.1 _ (List.getElem_mem hil)));have Fz:Hid ((∀t∈b.wraps[i].args,t.plain.Ok)->∀q (hq:q<b.wraps.length),q<i+1->∀t∈b.wraps[q].args,t.plain.Ok):=fun h q hq hqi=>by
      by_cases hqe:q=i
      .subst hqe;exact h
      .exact HA.out q hq (by omega)
     obtain⟨cm,hcm⟩:∃cm,b.wraps[i]=cm:=⟨_,rfl⟩;have HQ1:Hid (∀W,Touch [] w2 W->W.cell? ⟨bw,ow+i*2+1,none⟩=some (.slice cm.a cm.args.length cm.cap)):=fun W hW=>by
      obtain⟨bw',ow',DF,_,hcc'⟩:=aG.at (f:=MC.cells) (fun _=>rfl) (OO.out W hW).1 i hil;rw[hba]at DF;injection DF with DF
      injection DF with g1 g2
      subst g1 g2;rw[<-hcm];exact hcc' 1 (by omega)
     rw[hcm]at HCM Fw Fz HGC;have FD:=hdq hba;have hcl:=(HCM.out wr HT.out).1.1;rw[hba]at x5;clear hcc hcm hba hbw;go_wp2;have F6:=hdq HT.out;clear HT x5 zx;go_loopw [8] (fun p wr2=>∃j:Nat,p= .int .i64 (j:Int)/\j<=cm.args.length/\Hid (Touch [] w2 wr2)/\Hid (∀q (hq:q<cm.args.length),q<j->cm.args[q].plain.Ok)) (fun p _=>cm.args.length-(intOf p).toNat)
     case atStart=>exact⟨0,rfl,Nat.zero_le _,F6,fun q hq h0=>absurd h0 (Nat.not_lt_zero _)⟩
     case round=>
      obtain⟨j,rfl,hj,HT,HJ⟩:=hrel;clear F6;have hj0:(0:Int)<=(j:Int):=by omega
      have x5:=LV.out wr HT.out;have zx:=World.block_lt_of_cell? _ _ x5;have q1':=HQ1.out wr HT.out;have zq:=World.block_lt_of_cell? _ _ q1';rw[FD.out]at x5;by_cases hjl:j<cm.args.length
      .have Cc:(j:Int)<(cm.args.length:Int):=by omega
       obtain⟨ba,oa,OY,hbb,k0,k1,k2⟩:=(HCM.out wr HT.out).1.2.cellAt hjl;have Gc:=hdq (sN cm.args[j] wr ((HCM.out wr HT.out).2 _ (List.getElem_mem hjl)) (HGC.out _ (List.getElem_mem hjl)));have EK:Hid (¬cm.args[j].plain.Ok->∀W,Touch [] w W->jQ v.hn v.on l b w (.returned (.bool false)) W):=fun h W hW=>Fw.out (fun h2=>h (h2 _ (List.getElem_mem hjl))) W hW;have EL:Hid (cm.args[j].plain.Ok->∀q (hq:q<cm.args.length),q<j+1->cm.args[q].plain.Ok):=fun h q hq hqj=>by
        by_cases hqe:q=j
        .subst hqe;exact h
        .exact HJ.out q hq (by omega)
       generalize cm.args[j]=u at k0 k1 k2 Gc EK EL;simp only[MT.sl]at k2;rw[eG]at Gc;rw[OY]at q1';clear OY;go_wp2_with fail
       refine Gc.out.mono ?_;rintro e w6 ⟨f,rfl,hf,ht⟩;have Fu:=hdq (HT.out.trans' ht);cases f with
       |true=>
        have HJ2:=hdq (EL.out (hf.1 rfl));clear ht HT hf EK EL x5 zx q1' zq k0 k1 k2 hbb Gc;go_wp2;go_roundw
        case rel=>exact⟨j+1,by go_num,by omega,Fu,HJ2⟩
        case measure=>simp[intOf];omega
       |false=>
        have HE:=hdq (EK.out (fun h=>by have :=hf.2 h;simp at this) w6 (HT0.out.trans' Fu.out));clear ht HT hf EK EL x5 zx q1' zq k0 k1 k2 hbb Gc;go_wp2;go_ret
        exact HE.out
      .have Cc:¬(j:Int)<(cm.args.length:Int):=by omega
       have HA2:=hdq (Fz.out (fun t ht=>by
        obtain⟨q,hq,rfl⟩:=List.getElem_of_mem ht;exact HJ.out q hq (by omega)))
       clear Fz HJ Fw;go_wp2;go_roundw
       case rel=>exact⟨i+1,by go_num,by omega,HT,HA2⟩
       case measure=>simp[intOf];omega
    .have EM:¬(i:Int)<(b.wraps.length:Int):=by omega
     have HAW:Hid (∀cm∈b.wraps,∀t∈cm.args,t.plain.Ok):=fun cm hm=>by
      obtain⟨q,hq,rfl⟩:=List.getElem_of_mem hm;exact HA.out q hq (by omega)
     have Fy:=hdq HT.out;clear HA OO;go_wp2;clear x5 zx LV;have HBY:=hdq (fun W (hW:Touch [] w2 W)=>(HB7.out W hW).2.2.2.2.2.2.1);go_loopw [9] (fun p wr2=>∃j:Nat,p= .int .i64 (j:Int)/\j<=b.aT.length/\Hid (Touch [] w2 wr2)/\Hid (∀q (hq:q<b.aT.length),q<j->b.aT[q]∈l)) (fun p _=>b.aT.length-(intOf p).toNat)
     case atStart=>exact⟨0,rfl,Nat.zero_le _,Fy,fun q hq h0=>absurd h0 (Nat.not_lt_zero _)⟩
     case round=>
      clear Fy HT hil EM hi hi0;obtain⟨j,rfl,hj,HT,HJ⟩:=hrel;have hj0:(0:Int)<=(j:Int):=by omega
      have x6:=HBY.out wr HT.out;have zx:=World.block_lt_of_cell? _ _ x6;by_cases hjl:j<b.aT.length
      .have Cc:(j:Int)<(b.aT.length:Int):=by omega
       obtain⟨bb,oo,hbb,zbb,hcc⟩:=aG.at (f:=fq) (fun _=>rfl) (Gb.out wr HT.out) j hjl;have EK:Hid (b.aT[j]∉l->∀W,Touch [] w W->jQ v.hn v.on l b w (.returned (.bool false)) W):=fun h W hW=>DJ.out W hW (fun h2=>h (h2.2.2.2.2 _ (List.getElem_mem hjl)));have EL:Hid (b.aT[j]∈l->∀q (hq:q<b.aT.length),q<j+1->b.aT[q]∈l):=fun h q hq hqj=>by
        by_cases hqe:q=j
        .subst hqe;exact h
        .exact HJ.out q hq (by omega)
       have q0:=hcc 0 Nat.one_pos;generalize b.aT[j]=k at EK EL q0;rw[Nat.mul_one,Nat.add_zero]at q0;have q0':wr.cell? ⟨bb,oo+j,none⟩=some (.int .i64 k):=q0;have JB:=hdq (HAM.out wr (HT0.out.trans' HT.out) k);rw[hbb]at x6;clear hcc q0 hbb;go_wp2_with fail
       refine JB.out.mono ?_;rintro e w6 ⟨f,rfl,hf,ht⟩;have Fu:=hdq (HT.out.trans' ht);cases f with
       |true=>
        have HJ2:=hdq (EL.out (hf.1 rfl));clear ht HT hf EK EL x6 zx q0' zbb JB HJ;go_wp2;go_roundw
        case rel=>exact⟨j+1,by go_num,by omega,Fu,HJ2⟩
        case measure=>simp[intOf];omega
       |false=>
        have HE:=hdq (EK.out (fun h=>by have :=hf.2 h;simp at this) w6 (HT0.out.trans' Fu.out));clear ht HT hf EK EL x6 zx q0' zbb JB HJ;go_wp2;go_ret
        exact HE.out
      .have Cc:¬(j:Int)<(b.aT.length:Int):=by omega
       have HAN:Hid (∀k∈b.aT,k∈l):=fun k hk=>by
        obtain⟨q,hq,rfl⟩:=List.getElem_of_mem hk;exact HJ.out q hq (by omega)
       have EP:Hid (∀W (f:Bool),Touch [] w W->(f=true↔dm v.hn v.on b)->jQ v.hn v.on l b w (.returned (.bool f)) W):=fun W f hW h=>HBO.out W f hW (h.trans ⟨fun hk=>⟨hk,H23.out.1,H23.out.2,HAW.out,HAN.out⟩,fun hb=>hb.1⟩);have FL:=hdq (HT0.out.trans' HT.out);obtain⟨x0,x1,x2,x3,x4,x5,_,⟨xf0,xf1,Gd,Gh,GK,Gn,Gr⟩,_,_,_⟩:=HB7.out wr HT.out;obtain⟨y0,y1,y2,y3,y4,y5,_,zy,_,_⟩:=HR6.out wr HT.out;clear HJ HAN HAW DJ HBO HAM HB HG Gb HBY HB7 HR6;by_cases hk5:b.kind=5
       .have k5:(b.kind==5)=true:=by simp[hk5]
        by_cases h1:0<=b.n
        .by_cases hz:b.n<(v.hn:Int)
         .skip
          go_wp2_with fail
          refine(FU.out _ FL.out).mono ?_;rintro e w6 ⟨f,rfl,hf,ht⟩;have HE:=hdq (EP.out w6 f (FL.out.trans' ht) (hf.trans (by simp[dm,hk5,h1,hz])));clear hf ht EP FU FO;go_wp2;go_ret
          exact HE.out
         .have dz:decide (b.n<(v.hn:Int))=false:=decide_eq_false hz
          have HE:=hdq (EP.out wr false FL.out (by simp[dm,hk5,h1,hz]));clear EP FU FO;go_wp2;go_ret
          exact HE.out
        .have d1:decide (0<=b.n)=false:=decide_eq_false h1
         have HE:=hdq (EP.out wr false FL.out (by simp[dm,hk5,h1]));clear EP FU FO;go_wp2;go_ret
         exact HE.out
       have k5:(b.kind==5)=false:=by simp[hk5]
       by_cases Hq:b.kind=6
       .have k6:(b.kind==6)=true:=by simp[Hq]
        by_cases h1:0<=b.n
        .by_cases hz:b.n<(v.hn:Int)
         .skip
          go_wp2_with fail
          refine(FO.out _ FL.out).mono ?_;rintro e w6 ⟨f,rfl,hf,ht⟩;have HE:=hdq (EP.out w6 f (FL.out.trans' ht) (hf.trans (by simp[dm,Hq,h1,hz])));clear hf ht EP FU FO;go_wp2;go_ret
          exact HE.out
         .have dz:decide (b.n<(v.hn:Int))=false:=decide_eq_false hz
          have HE:=hdq (EP.out wr false FL.out (by simp[dm,Hq,h1,hz]));clear EP FU FO;go_wp2;go_ret
          exact HE.out
        .have d1:decide (0<=b.n)=false:=decide_eq_false h1
         have HE:=hdq (EP.out wr false FL.out (by simp[dm,Hq,h1]));clear EP FU FO;go_wp2;go_ret
         exact HE.out
       have k6:(b.kind==6)=false:=by simp[Hq]
       by_cases hk7:b.kind=7
       .have k7:(b.kind==7)=true:=by simp[hk7]
        by_cases h1:b.n=0
        .have d1:(b.n==0)=true:=by simp[h1]
         go_wp2_with fail
         refine(FU.out _ FL.out).mono ?_;rintro e w6 ⟨f,rfl,hf,ht⟩;have HE:=hdq (EP.out w6 f (FL.out.trans' ht) (hf.trans (by simp[dm,hk7,h1])));clear hf ht EP FU FO;go_wp2;go_ret
         exact HE.out
        .have d1:(b.n==0)=false:=by simp[h1]
         have HE:=hdq (EP.out wr false FL.out (by simp[dm,hk7,h1]));clear EP FU FO;go_wp2;go_ret
         exact HE.out
       have k7:(b.kind==7)=false:=by simp[hk7]
       by_cases J6:b.kind=8
       .have k8:(b.kind==8)=true:=by simp[J6]
        by_cases h1:b.n=0
        .have d1:(b.n==0)=true:=by simp[h1]
         go_wp2_with fail
         refine(FO.out _ FL.out).mono ?_;rintro e w6 ⟨f,rfl,hf,ht⟩;have HE:=hdq (EP.out w6 f (FL.out.trans' ht) (hf.trans (by simp[dm,J6,h1])));clear hf ht EP FU FO;go_wp2;go_ret
         exact HE.out
        .have d1:(b.n==0)=false:=by simp[h1]
         have HE:=hdq (EP.out wr false FL.out (by simp[dm,J6,h1]));clear EP FU FO;go_wp2;go_ret
         exact HE.out
       have k8:(b.kind==8)=false:=by simp[J6]
       by_cases G7:b.kind=13
       .have k13:(b.kind==13)=true:=by simp[G7]
        by_cases h1:0<=b.n
        .by_cases hz:b.n<(v.on:Int)
         .skip
          go_wp2_with fail
          refine(FO.out _ FL.out).mono ?_;rintro e w6 ⟨f,rfl,hf,ht⟩;have HE:=hdq (EP.out w6 f (FL.out.trans' ht) (hf.trans (by simp[dm,G7,h1,hz])));clear hf ht EP FU FO;go_wp2;go_ret
          exact HE.out
         .have dz:decide (b.n<(v.on:Int))=false:=decide_eq_false hz
          have HE:=hdq (EP.out wr false FL.out (by simp[dm,G7,h1,hz]));clear EP FU FO;go_wp2;go_ret
          exact HE.out
        .have d1:decide (0<=b.n)=false:=decide_eq_false h1
         have HE:=hdq (EP.out wr false FL.out (by simp[dm,G7,h1]));clear EP FU FO;go_wp2;go_ret
         exact HE.out
       have k13:(b.kind==13)=false:=by simp[G7]
       have HE:=hdq (EP.out wr false FL.out (by simp[dm,hk5,Hq,hk7,J6,G7]));clear EP FU FO;go_wp2;go_ret
       exact HE.out
  .have d3:(32:Int)<(b.aT.length:Int):=by omega
   have HE:=hdq (DJ.out w2 HL2.out.BN (fun h=>h3 h.2.2.1));clear DJ HBO HB HG HAM FU FO;go_wp2;go_ret
   exact HE.out
 .have d2:(32:Int)<(b.wraps.length:Int):=by omega
  have HE:=hdq (DJ.out w2 HL2.out.BN (fun h=>h2 h.2.1));clear DJ HBO HB HG HAM FU FO;go_wp2;go_ret
  exact HE.out
theorem Nf(T:List Nat)(w:World)(c:Nat)(ca f:Int)(q:Nat)(es:List ME)(P:World->Prop)(h:BD T w w (mQ c ca f q es P))(hP:∀W,P W->∀e∈es,e.v.In W)(hn:∀e∈es,e.v.nodes<=256)(hes:es.length<=4096):
  Calls Tryz.prog 54 #[.pointer (some ⟨c,0,none⟩)] w fun e w'=>∃(c2 q2:Nat) (ys:List ME),e= .returned (.pointer (some ⟨c2,0,none⟩))/\ys.map ME.plain=es.map ME.plain/\BD T w w' (mQ c ca f q es P++[box c2 211 #[.int .i64 ca,.int .i64 f,.pointer (some ⟨q2,0,none⟩)],aQ q2 ys,bS (ys.map ME.v)]):=by
 have HP:=hdq hP;have HN:=hdq hn;have BG:=hdq h;unfold mQ at BG;clear h hP hn;obtain⟨d0,d1,d2,_,_,_,hl,_,_⟩:=BG.out.c3 0 rfl;have HC:=hdq (fun W (hW:Touch [] w W)=>xV W q es ((BG.out.touch hW).qAt 1 rfl) (fun e he=>⟨HP.out _ ((BG.out.touch hW).still 2 rfl) e he,HN.out e he⟩) (by omega));go_enter Tryz.func54,Tryz.ntmps54
 go_wp2_with fail
 refine(fA _ _ _ _ _ (BG.out.kS 0 rfl)).mono ?_;rintro e w' ⟨rfl,rfl⟩;go_wp2_with fail
 go_region_held3 (fun w'=>w'.cell? ⟨c,2,none⟩=some (.pointer (some ⟨q,0,none⟩))) (go_keep) (first
  |(go_at_call 141;refine(HC.out _ (Touch.refl [] w).drew).mono ?_;rintro e w2 ⟨q2,ys,rfl,hpl,hL⟩;have HL2:=hdq (BG.out.drew.join hL);(simp only[nAq,cAq]at HL2);have EA:=hdq hpl;clear hL hpl d0 d1 d2 hl;obtain⟨d0,d1,d2,_,_,_,hl,_,_⟩:=HL2.out.c3 0 rfl)
  |(go_at_call 143;refine(Il _ (some ⟨q2,0,none⟩) c 0 2 ca f d0 (by simpa using d1)).mono ?_;rintro e w3 ⟨rfl,hb,ht⟩;have BF:=hdq (HL2.out.new (t':=box w2.heap.size 211 #[.int .i64 ca,.int .i64 f,.pointer (some ⟨q2,0,none⟩)]) (f':=[w2.heap.size]) ⟨rfl,hb⟩ ⟨ht,fun k hk=> .inr (by simp at hk;omega)⟩);(simp only[nAq,cAq]at BF);clear hb ht d0 d1 d2 hl;obtain⟨d0,d1,d2,_,_,_,hl,_,_⟩:=BF.out.c3 0 rfl))
 go_wp2;go_ret
 refine⟨w2.heap.size,q2,ys,rfl,EA.out,?_⟩;exact BF.out.sel [0,1,2,5,3,4] (l':=[box c 211 #[.int .i64 ca,.int .i64 f,.pointer (some ⟨q,0,none⟩)],aQ q es,aA P]++[box w2.heap.size 211 #[.int .i64 ca,.int .i64 f,.pointer (some ⟨q2,0,none⟩)],aQ q2 ys,bS (ys.map ME.v)]) rfl (by decide)
section
open Go.RowKit
theorem lM{P:Program}(w:World)(t ty e:TypeId)(i:TypeInfo)(z:Value)(size bytes:Nat)(ht:P.underlying t=some (.slice e))(hi:P.info? e=some i)(hz:i.zero=some z)(hsize:i.size=size)(hby:i.bytes=bytes)(hzs:z.cells.size=size)(hsz:0<size)(v:Value)(n:Nat)(xs:List Value)(hown:w.ownsRow 0 e size v n xs)(vx:Value)(m:Nat)(news:List Value)(hsrc:w.ownsRow 0 e size vx m news)(h1:∀u∈news,u.oneCell'=true)(h63:n+m<=maxLen)(hbytes:(n+m)*bytes<=140737488355328):
  ∃aa cap w',(Builtin.append_ #[t,t] ty #[v,vx]).run P w= .ok (.slice aa (n+m) cap) w'/\w'.ownsRow 0 e size (.slice aa (n+m) cap) (n+m) (xs++news)/\w.grownBy w' v.ownBlock/\
   ((Value.slice aa (n+m) cap).ownBlock=v.ownBlock\/(Value.slice aa (n+m) cap).ownBlock=some w.heap.size):=by
 rcases hsrc.2 with ⟨rfl,rfl⟩|⟨g,cap,cur,rfl,hbg,hg,hnc,hcm,hcs,htake⟩
 .have hn:news=[]:=List.eq_nil_of_length_eq_zero (by simpa using hsrc.1)
  subst hn;rcases hown.2 with ⟨rfl,rfl⟩|⟨g,cap,cur,rfl,hbg,hg,hnc,hcm,hcs,htake⟩
  .refine⟨none,0,w,?_,by simpa using hown,World.grownBy.refl w _,.inl rfl⟩
   simp[Builtin.append_,run_underlying ht,sizeOf,typeInfo,hi,Builtin.lenOf,Builtin.firstCells]
  .refine⟨some ⟨g,0,none⟩,cap,w,?_,by simpa using hown,World.grownBy.refl w _,.inl rfl⟩
   simp[Builtin.append_,run_underlying ht,sizeOf,typeInfo,hi,Builtin.lenOf,Builtin.firstCells,storeCells,hnc]
 .obtain⟨v',w',hr,h2,h3,_,h5⟩:=run_append_own_at (P:=P) w 0 t ty e i z size bytes ht hi hz hsize hby hzs hsz v n xs hown ⟨g,0,none⟩ m cap news hsrc.1 (hsrc.cells (g:=g) rfl) h1 h63 hbytes (Nat.zero_le _)
  obtain⟨aa,c,rfl,_,_⟩:=aK h2;exact⟨aa,c,w',hr,h2,h3,h5⟩
theorem bW{P:Program}(w:World){ops:Array Oper}{rest:List Oper}{o:Oper}{a:Act}{Q:Exit->Act->World->Prop}(hgd:o.guard=none)(s x:Operand)(t:TypeId)(ho:o.op= .call {callee:= .builtin .append,args:=#[s,x],argTypes:=#[t,t]})(e:TypeId)(i:TypeInfo)(z:Value)(size bytes:Nat)(ht:P.underlying t=some (.slice e))(hi:P.info? e=some i)(hz:i.zero=some z)(hsize:i.size=size)(hby:i.bytes=bytes)(hzs:z.cells.size=size)(hsz:0<size)(v:Value)(n:Nat)(xs:List Value)(hs:a.eval s=v)(hown:w.ownsRow 0 e size v n xs)(vx:Value)(m:Nat)(news:List Value)(hx:a.eval x=vx)(hsrc:w.ownsRow 0 e size vx m news)(h1:∀u∈news,u.oneCell'=true)(h63:n+m<=maxLen)(hbytes:(n+m)*bytes<=140737488355328)(h:∀aa cap w',w'.ownsRow 0 e size (.slice aa (n+m) cap) (n+m) (xs++news)->w.grownBy w' v.ownBlock->((Value.slice aa (n+m) cap).ownBlock=v.ownBlock\/(Value.slice aa (n+m) cap).ownBlock=some w.heap.size)->wpList P ops Q rest (a.put o.dst (.slice aa (n+m) cap)) w'):
  wpList P ops Q (o::rest) a w:=by
 obtain⟨aa,cap,w',hr,h2,h3,h4⟩:=lM (P:=P) w t o.type e i z size bytes ht hi hz hsize hby hzs hsz v n xs hown vx m news hsrc h1 h63 hbytes;exact Lib.wpList_append_run w hgd s x t t ho v _ hs hx _ w' hr (h aa cap w' h2 h3 h4)
theorem aR{P:Program}(w:World){ops:Array Oper}{o:Oper}{a:Act}{K:Act->World->Prop}{Q:Exit->Act->World->Prop}{E:Prop}(hgd:o.guard=none)(s x:Operand)(t:TypeId)(ho:o.op= .call {callee:= .builtin .append,args:=#[s,x],argTypes:=#[t,t]})(e:TypeId)(i:TypeInfo)(z:Value)(size bytes:Nat)(ht:P.underlying t=some (.slice e))(hi:P.info? e=some i)(hz:i.zero=some z)(hsize:i.size=size)(hby:i.bytes=bytes)(hzs:z.cells.size=size)(hsz:0<size)(v:Value)(n:Nat)(xs:List Value)(hs:a.eval s=v)(hown:w.ownsRow 0 e size v n xs)(vx:Value)(m:Nat)(news:List Value)(hx:a.eval x=vx)(hsrc:w.ownsRow 0 e size vx m news)(h1:∀u∈news,u.oneCell'=true)(h63:n+m<=maxLen)(hbytes:(n+m)*bytes<=140737488355328)(h:∀aa cap w',w'.ownsRow 0 e size (.slice aa (n+m) cap) (n+m) (xs++news)->w.grownBy w' v.ownBlock->((Value.slice aa (n+m) cap).ownBlock=v.ownBlock\/(Value.slice aa (n+m) cap).ownBlock=some w.heap.size)->K (a.put o.dst (.slice aa (n+m) cap)) w'):
  if Region.wanted o (yielded ops a.tmps)=true then Oper.wp P o a w K Q else E:=by
 obtain⟨aa,cap,w',hr,h2,h3,h4⟩:=lM (P:=P) w t o.type e i z size bytes ht hi hz hsize hby hzs hsz v n xs hown vx m news hsrc h1 h63 hbytes;rw[if_pos (by simp[Region.wanted,hgd])];unfold Oper.wp execOp;simp only[ho,resolve,invoke,builtin,Sem.run_bind,Sem.run_pure,Result.andThen_ok,List.map_toArray,List.map_cons,List.map_nil,hs,hx,hr];exact h aa cap w' h2 h3 h4
end
def bI(vc:Value)(most:Nat)(vl:Value):Value:= .agg #[vc,.int .i64 (most:Int),vl]
structure gu(w:World)(vc vl:Value)(s:Ar):Prop where
 Dh:w.ownsRow 0 53 1 vc s.C.length (words s.C)
 log:w.ownsRow 0 197 5 vl s.L.length (aJ s.L)
 tQ:s.C.length<=65536
 most:s.most<=65536
theorem gu.touch{w w':World}{vc vl:Value}{s:Ar}(h:gu w vc vl s)(ht:Touch [] w w'):gu w' vc vl s:=⟨dW h.Dh ht (by simp),dW h.log ht (by simp),h.tQ,h.most⟩
theorem gu.keep{w w':World}{vc vl:Value}{s:Ar}(h:gu w vc vl s)(hs:∀b∈sb vc++sb vl,w'.heap[b]? =w.heap[b]?):gu w' vc vl s:=
 ⟨dN h.Dh (fun b hb=>hs b (List.mem_append_left _ hb)),dN h.log (fun b hb=>hs b (List.mem_append_right _ hb)),h.tQ,h.most⟩
theorem iR(l:List Nat):∀u∈words l,u.oneCell'=true:=by
 intro u hu;simp only[words,List.mem_map]at hu;obtain⟨n,_,rfl⟩:=hu;rfl
theorem dV(l:List Acc):∀u∈aJ l,u.oneCell'=true:=by
 intro u hu;simp only[aJ,List.mem_flatMap]at hu;obtain⟨x,_,hx⟩:=hu;exact gZ x u hx
theorem gF(W:World)(e:TypeId)(size:Nat):(W.alloc (.cells #[] e)).ownsRow 0 e size (.slice (some ⟨W.heap.size,0,none⟩) 0 0) 0 []:=
 ⟨by simp,.inr ⟨W.heap.size,0,#[],rfl,Nat.zero_le _,heap_alloc_new W _,Nat.le_refl _,by simp[maxLen],by simp,by simp⟩⟩
theorem lD(w:World)(vc vl:Value)(s:Ar)(n:Int)(h:gu w vc vl s):Calls Tryz.prog 271 #[bI vc s.most vl,.int .i64 n] w fun e w'=>
  ∃CQ,e= .returned (.tuple #[bI CQ s.most vl,.int .i64 ((s.au n).2.1:Int),.int .i64 ((s.au n).2.2:Int)])/\gu w' CQ vl (s.au n).1/\Touch [] w w'/\∀b∈sb CQ,b∈sb vc\/w.heap.size<=b:=by
 obtain⟨i0,hi,hz0,hz1,hz2⟩:=info_parts fB;obtain⟨aa,cp,rfl,hc1,hc2⟩:=aK h.Dh;obtain⟨la,lp,rfl,hl1,hl2⟩:=aK h.log;have HA:=hdq h;have hcl:=h.tQ;have hml:=h.most;clear h;unfold bI;by_cases hn:n<0
 .have hv:s.au n=(s,0,2):=by simp[Ar.au,hn]
  rw[hv];go_enter Tryz.func271,Tryz.ntmps271
  go_wp2;refine bodyPost_ret (v:= .tuple #[.agg #[.slice aa s.C.length cp,.int .i64 (s.most:Int),.slice la s.L.length lp],.int .i64 0,.int .i64 2]) (by simp[results,Tryz.results271,go_sem]) rfl ?_;refine⟨_,rfl,HA.out.touch ?_,?_,fun b hb=> .inl hb⟩;all_goals exact((Touch.refl [] w).alloc _).alloc _
 .by_cases hf:(s.most:Int)-(s.C.length:Int)<n
  .have hv:s.au n=(s,0,6):=by simp[Ar.au,hn,hf]
   rw[hv];go_enter Tryz.func271,Tryz.ntmps271
   go_wp2;refine bodyPost_ret (v:= .tuple #[.agg #[.slice aa s.C.length cp,.int .i64 (s.most:Int),.slice la s.L.length lp],.int .i64 0,.int .i64 6]) (by simp[results,Tryz.results271,go_sem]) rfl ?_;refine⟨_,rfl,HA.out.touch ?_,?_,fun b hb=> .inl hb⟩;all_goals exact((Touch.refl [] w).alloc _).alloc _
  .obtain⟨k,rfl⟩:=Int.eq_ofNat_of_zero_le (Int.not_lt.1 hn)
   have hv:s.au (k:Int)=({s with C:=s.C++List.replicate k 0},s.C.length,0):=by simp[Ar.au,hn,hf]
   rw[hv];have hk:s.C.length+k<=s.most:=by omega
   have HB:Hid (Cg (((w.alloc (.cells #[.slice aa s.C.length cp,.int .i64 (s.most:Int),.slice la s.L.length lp] 33)).alloc (.cells #[.slice none 0 0,.int .i64 0,.slice none 0 0] 33)).alloc (.cells #[] 53)) w.heap.size 33 #[.slice aa s.C.length cp,.int .i64 (s.most:Int),.slice la s.L.length lp]):=
    ((Cg.new w _ _).alloc _).alloc _
   have HR:Hid (Cg (((w.alloc (.cells #[.slice aa s.C.length cp,.int .i64 (s.most:Int),.slice la s.L.length lp] 33)).alloc (.cells #[.slice none 0 0,.int .i64 0,.slice none 0 0] 33)).alloc (.cells #[] 53)) (w.heap.size+1) 33 #[.slice none 0 0,.int .i64 0,.slice none 0 0]):=by
    have :=(Cg.new (w.alloc (.cells #[.slice aa s.C.length cp,.int .i64 (s.most:Int),.slice la s.L.length lp] 33)) 33 #[.slice none 0 0,.int .i64 0,.slice none 0 0]).alloc (.cells #[] 53);rw[World.size_alloc]at this;exact this
   have HT0:Hid (Touch [] w (((w.alloc (.cells #[.slice aa s.C.length cp,.int .i64 (s.most:Int),.slice la s.L.length lp] 33)).alloc (.cells #[.slice none 0 0,.int .i64 0,.slice none 0 0] 33)).alloc (.cells #[] 53))):=(((Touch.refl [] w).alloc _).alloc _).alloc _;have HE:Hid ((((w.alloc (.cells #[.slice aa s.C.length cp,.int .i64 (s.most:Int),.slice la s.L.length lp] 33)).alloc (.cells #[.slice none 0 0,.int .i64 0,.slice none 0 0] 33)).alloc (.cells #[] 53)).ownsRow 0 53 1 (.slice (some ⟨w.heap.size+1+1,0,none⟩) 0 0) 0 []):=by
    have :=gF ((w.alloc (.cells #[.slice aa s.C.length cp,.int .i64 (s.most:Int),.slice la s.L.length lp] 33)).alloc (.cells #[.slice none 0 0,.int .i64 0,.slice none 0 0] 33)) 53 1;rw[World.size_alloc,World.size_alloc]at this;exact this
   have hbl:w.heap.size<w.heap.size+1+1:=by omega
   clear hv hl1 hl2 hc1 hc2;go_enter Tryz.func271,Tryz.ntmps271
   go_wp2_with (at_builtin;go_must (refine bW _ rfl (.tmp 23) (.tmp 25) 30 rfl 53 i0 (.int .u64 0) 1 8 Tryz.underlying30 hi hz0 hz1 hz2 rfl (by decide) (.slice (some ⟨w.heap.size+1+1,0,none⟩) 0 0) 0 [] rfl HE.out (.slice aa s.C.length cp) s.C.length (words s.C) rfl (dW HA.out.Dh HT0.out (by simp)) (iR _) (by simp only[maxLen];omega) (by omega) ?_);intro a1 c1 w1 hown hgrow hat;refine Hid.out ?_)
   rw[Nat.zero_add,List.nil_append]at hown;rw[Nat.zero_add]at hat;have HT1:Hid (Touch [] w w1):=HT0.out.grown hgrow (fun j hj=> .inr (by simp[Value.ownBlock]at hj;omega));have HB1:Hid (Cg w1 w.heap.size 33 #[.slice aa s.C.length cp,.int .i64 (s.most:Int),.slice la s.L.length lp]):=HB.out.grown hgrow (by simp[Value.ownBlock];omega);have HR1:Hid (Cg w1 (w.heap.size+1) 33 #[.slice none 0 0,.int .i64 0,.slice none 0 0]):=HR.out.grown hgrow (by simp[Value.ownBlock]);have HO1:=hdq hown;have FR:Hid (∀j∈sb (.slice a1 s.C.length c1),w.heap.size<=j):=by
    intro j hj;rcases hat with h1|h1
    .rw[sb,h1]at hj
     have :j=w.heap.size+1+1:=by simpa[Value.ownBlock]using hj
     omega
    .rw[sb,h1]at hj
     have :j=w.heap.size+1+1+1:=by simpa using hj
     omega
   clear hown hgrow hat HB HE HT0 HR;refine hdq ?_;go_wp2_with (at_builtin;go_must (refine iG _ rfl (.tmp 26) (.tmp 27) 30 3 rfl 53 i0 (.int .u64 0) .i64 .i64 Tryz.underlying30 Tryz.underlying3 hi hz0 hz1 hz2 rfl rfl (.slice a1 s.C.length c1) s.C.length (words s.C) rfl HO1.out k rfl (by omega) ?_);intro a2 c2 w2 hown hgrow hat;refine Hid.out ?_)
   have HT2:Hid (Touch [] w w2):=HT1.out.grown hgrow (fun j hj=> .inr (FR.out j (by simp[sb,hj])));have hn0:w.heap.size∉sb (.slice a1 s.C.length c1):=own_ne HO1.out HB1.out (by decide);have HB2:Hid (Cg w2 w.heap.size 33 #[.slice aa s.C.length cp,.int .i64 (s.most:Int),.slice la s.L.length lp]):=HB1.out.grown hgrow (fun hc=>hn0 (by simp[sb,<-hc]));have HR2:Hid (Cg w2 (w.heap.size+1) 33 #[.slice none 0 0,.int .i64 0,.slice none 0 0]):=HR1.out.grown hgrow (fun hc=>own_ne HO1.out HR1.out (by decide) (by simp[sb,<-hc]));have Fs:=hdq hown;have Gy:Hid (∀j∈sb (.slice a2 (s.C.length+k) c2),w.heap.size<=j):=by
    intro j hj;rcases hat with h1|h1
    .exact FR.out j (by rw[sb,<-h1];exact hj)
    .rw[sb,h1]at hj
     have :j=w1.heap.size:=by simpa using hj
     have :=HT1.out.size;omega
   have b0:=HB2.out.cell 0;have b1:=HB2.out.cell 1;have b2:=HB2.out.cell 2;have r0:=HR2.out.cell 0;have r1:=HR2.out.cell 1;have r2:=HR2.out.cell 2;have g0:=HB2.out.frozen 0;have e0:=HR2.out.frozen 0;have e1:=HR2.out.frozen 1;have e2:=HR2.out.frozen 2;simp at b0 b1 b2 r0 r1 r2
   clear hown hgrow hat hn0 HB1 HR1 HT1;refine hdq ?_;go_wp2;have hf:=(((HR2.out.far (p:=⟨w.heap.size,0,none⟩) (by simp) (.slice a2 (s.C.length+k) c2)).set 0 (.slice a2 (s.C.length+k) c2)).set 1 (.int .i64 (s.most:Int))).set 2 (.slice la s.L.length lp);have q0:=hf.cell 0;have q1:=hf.cell 1;have q2:=hf.cell 2;simp at q0 q1 q2
   have HTF:Hid (Touch [] w ((((w2.setCell ⟨w.heap.size,0,none⟩ (.slice a2 (s.C.length+k) c2)).setCell ⟨w.heap.size+1,0,none⟩ (.slice a2 (s.C.length+k) c2)).setCell ⟨w.heap.size+1,1,none⟩ (.int .i64 (s.most:Int))).setCell ⟨w.heap.size+1,2,none⟩ (.slice la s.L.length lp))):=
    (((HT2.out.setCell ⟨w.heap.size,0,none⟩ _ (.inr (Nat.le_refl _))).setCell ⟨w.heap.size+1,0,none⟩ _ (.inr (Nat.le_succ _))).setCell ⟨w.heap.size+1,1,none⟩ _ (.inr (Nat.le_succ _))).setCell ⟨w.heap.size+1,2,none⟩ _ (.inr (Nat.le_succ _))
   have n0:=own_ne Fs.out HB2.out (by decide);have n1:=own_ne Fs.out HR2.out (by decide);refine bodyPost_ret (v:= .tuple #[.agg #[.slice a2 (s.C.length+k) c2,.int .i64 (s.most:Int),.slice la s.L.length lp],.int .i64 (s.C.length:Int),.int .i64 0]) (by simp[results,Tryz.results271,go_sem,q0,q1,q2]) rfl ?_;refine⟨_,rfl,⟨?_,dW HA.out.log HTF.out (by simp),by simp;omega,hml⟩,HTF.out,fun b hb=> .inr (Gy.out b hb)⟩;have :=dh (dh (dh (dh Fs.out ⟨w.heap.size,0,none⟩ (.slice a2 (s.C.length+k) c2) n0) ⟨w.heap.size+1,0,none⟩ (.slice a2 (s.C.length+k) c2) n1) ⟨w.heap.size+1,1,none⟩ (.int .i64 (s.most:Int)) n1) ⟨w.heap.size+1,2,none⟩ (.slice la s.L.length lp) n1;simp only[List.length_append,List.length_replicate,mR,kI];exact this
def mU(w:World)(e:TypeId)(size n:Nat)(xs:List Value)(en:Ending)(w':World):Prop:=
 ∃aa cap,en= .returned (.slice aa n cap)/\w'.ownsRow 0 e size (.slice aa n cap) n xs/\Touch [] w w'/\∀b∈sb (.slice aa n cap),w.heap.size<=b
theorem nk{w w1:World}{e:TypeId}{size n cap:Nat}{xs:List Value}{aa:Option Addr}(hown:w1.ownsRow 0 e size (.slice aa n cap) n xs)(hgrow:(w.alloc (.cells #[] e)).grownBy w1 (Value.slice (some ⟨w.heap.size,0,none⟩) 0 0).ownBlock)(hat:(Value.slice aa n cap).ownBlock=(Value.slice (some ⟨w.heap.size,0,none⟩) 0 0).ownBlock\/(Value.slice aa n cap).ownBlock=some (w.alloc (.cells #[] e)).heap.size):
  mU w e size n xs (.returned (.slice aa n cap)) w1:=by
 refine⟨_,_,rfl,hown,((Touch.refl [] w).alloc _).grown hgrow (fun k hk=> .inr (by simp[Value.ownBlock]at hk;omega)),fun b hb=>?_⟩;rcases hat with h|h
 .rw[sb,h]at hb;simp[Value.ownBlock]at hb;omega
 .rw[sb,h]at hb;simp at hb;omega
theorem Ko(w:World)(v:Value)(l:List Acc)(h:w.ownsRow 0 197 5 v l.length (aJ l))(hl:l.length<=1048576):
  Calls Tryz.prog 138 #[v] w (mU w 197 5 l.length (aJ l)):=by
 obtain⟨j0,hj,EZ,jz1,ER⟩:=info_parts gy;have HA:=hdq h;have hnil:=fun(w:World) (a:Option Addr) (n c:Nat)=>Lib.run_eql_slice_nil (P:=Tryz.prog) w 31 197 a n c 0 0 Tryz.underlying31;rcases h.2 with ⟨rfl,h0⟩|⟨g,cap,cur,rfl,_⟩
 .have HN:Hid (mU w 197 5 l.length (aJ l) (.returned (.slice none 0 0)) w):=by
   have h:=HA.out;rw[h0]at h|-;exact⟨none,0,rfl,h,Touch.refl _ _,by simp[sb,Value.ownBlock]⟩
  clear h;go_enter Tryz.func138,Tryz.ntmps138
  go_wp2;go_ret
  exact HN.out
 .clear h
  have HE:=hdq (gF w 197 5);go_enter Tryz.func138,Tryz.ntmps138
  go_wp2_with (at_builtin;go_must (refine bW _ rfl (.tmp 5) (.tmp 6) 31 rfl 197 j0 _ 5 40 Tryz.underlying31 hj EZ jz1 ER rfl (by decide) (.slice (some ⟨w.heap.size,0,none⟩) 0 0) 0 [] rfl HE.out (.slice (some ⟨g,0,none⟩) l.length cap) l.length (aJ l) rfl (HA.out.alloc _) (dV _) (by simp only[maxLen];omega) (by omega) ?_);intro a1 c1 w1 hown hgrow hat;simp only[Nat.zero_add,nAq]at hown hat|-;have H1:=hdq (nk hown hgrow hat);clear hown hgrow hat)
  go_ret
  exact H1.out
theorem xI(w:World)(v:Value)(l:List Nat)(h:w.ownsRow 0 53 1 v l.length (words l))(hl:l.length<=1048576):
  Calls Tryz.prog 139 #[v] w (mU w 53 1 l.length (words l)):=by
 obtain⟨j0,hj,EZ,jz1,ER⟩:=info_parts fB;have HA:=hdq h;have hnil:=fun(w:World) (a:Option Addr) (n c:Nat)=>Lib.run_eql_slice_nil (P:=Tryz.prog) w 30 53 a n c 0 0 Tryz.underlying30;rcases h.2 with ⟨rfl,h0⟩|⟨g,cap,cur,rfl,_⟩
 .have HN:Hid (mU w 53 1 l.length (words l) (.returned (.slice none 0 0)) w):=by
   have h:=HA.out;rw[h0]at h|-;exact⟨none,0,rfl,h,Touch.refl _ _,by simp[sb,Value.ownBlock]⟩
  clear h;go_enter Tryz.func139,Tryz.ntmps139
  go_wp2;go_ret
  exact HN.out
 .clear h
  have HE:=hdq (gF w 53 1);go_enter Tryz.func139,Tryz.ntmps139
  go_wp2_with (at_builtin;go_must (refine bW _ rfl (.tmp 5) (.tmp 6) 30 rfl 53 j0 _ 1 8 Tryz.underlying30 hj EZ jz1 ER rfl (by decide) (.slice (some ⟨w.heap.size,0,none⟩) 0 0) 0 [] rfl HE.out (.slice (some ⟨g,0,none⟩) l.length cap) l.length (words l) rfl (HA.out.alloc _) (iR _) (by simp only[maxLen];omega) (by omega) ?_);intro a1 c1 w1 hown hgrow hat;simp only[Nat.zero_add,nAq]at hown hat|-;have H1:=hdq (nk hown hgrow hat);clear hown hgrow hat)
  go_ret
  exact H1.out
def yR(w:World)(s:Ar)(e:Ending)(w':World):Prop:=∃g' fp',e= .returned (.pointer (some ⟨g',0,none⟩))/\gT w' g' fp' s/\(∀k∈fp',w.heap.size<=k)/\Touch [] w w'
theorem yN{w w1 w2:World}{g:Nat}{v1 v2 Lv v2':Value}{r:List Acc}{s:Ar}(hA:xQ w g v1 v2 r s)(ho1:w1.ownsRow 0 197 5 Lv r.length (aJ r))(ht1:Touch [] w.drew w1)(hb1:∀b∈sb Lv,w.drew.heap.size<=b)(ho2:w2.ownsRow 0 53 1 v2' s.C.length (words s.C))(ht2:Touch [] w1 w2)(hb2:∀b∈sb v2',w1.heap.size<=b):
  yR w s (.returned (.pointer (some ⟨w2.heap.size,0,none⟩))) (w2.alloc (.cells #[.int .u64 (s.L.length:Int),Lv,.int .i64 (s.most:Int),v2'] 193)):=by
 have ht1':Touch [] w w1:=((Touch.refl [] w).drew).trans ht1 (by simp);have hs1:=ht1'.size;have hs2:=ht2.size;refine⟨_,_,rfl,⟨Lv,v2',r,⟨Cg.new w2 _ _,(dW ho1 ht2 (by simp)).alloc _,ho2.alloc _,hA.ring,hA.kD,hA.mM,hA.len,hA.wd⟩,rfl⟩,?_,(ht1'.trans ht2 (by simp)).alloc _⟩;intro k hk;simp only[List.mem_cons,List.mem_append]at hk;rcases hk with rfl|hk|hk
 .omega
 .exact hb1 k hk
 .have :=hb2 k hk;omega
theorem IJ(w:World)(g:Nat)(fp:List Nat)(s:Ar)(hI:gT w g fp s):Calls Tryz.prog 50 #[.pointer (some ⟨g,0,none⟩)] w (yR w s):=by
 obtain⟨v1,v2,r,hA,rfl⟩:=hI;have h0:=hA.blk.cell 0;have h1:=hA.blk.cell 1;have h2:=hA.blk.cell 2;have h3:=hA.blk.cell 3;simp at h0 h1 h2 h3
 have hm1:=hA.kD;have hgl:=hA.blk.lt;have hr:r.length<=1024:=by have :=hA.ring.1;omega
 have hlen:=hA.len;have hm2:=hA.mM;have HA:=hdq hA;clear hA;go_enter Tryz.func50,Tryz.ntmps50
 go_wp2_with (go_at_call 137;refine(dR _ _ _ h2 hm1).mono ?_;rintro e w' ⟨rfl,rfl⟩)
 go_region_held3 (fun w'=>w'.cell? ⟨g,0,none⟩=some (.int .u64 (s.L.length:Int))/\w'.cell? ⟨g,1,none⟩=some v1/\w'.cell? ⟨g,2,none⟩=some (.int .i64 (s.most:Int))/\w'.cell? ⟨g,3,none⟩=some v2) (go_keep)
  (first
  |(go_at_call 138;refine(Ko _ v1 r (dx HA.out.log) (by omega)).mono ?_;rintro e w1 ⟨a1,c1,rfl,ho1,ht1,hb1⟩;have k1:=HA.out.blk.drew.touch ht1 (by simp);have h0:=k1.cell 0;have h1:=k1.cell 1;have h2:=k1.cell 2;have h3:=k1.cell 3;simp at h0 h1 h2 h3;have HO1:=hdq ho1;have HT1:=hdq ht1;have HB1:=hdq hb1;clear ho1 ht1 hb1 k1)
  |(go_at_call 139;refine(xI _ v2 s.C (dW (dx HA.out.Dh) HT1.out (by simp)) (by omega)).mono ?_;rintro e w2 ⟨a2,c2,rfl,ho2,ht2,hb2⟩;have k1:=(HA.out.blk.drew.touch HT1.out (by simp)).touch ht2 (by simp);have h0:=k1.cell 0;have h1:=k1.cell 1;have h2:=k1.cell 2;have h3:=k1.cell 3;simp at h0 h1 h2 h3;have Fs:=hdq ho2;have HT2:=hdq ht2;have HB2:=hdq hb2;clear ho2 ht2 hb2 k1))
 go_wp2;go_ret
 exact yN HA.out HO1.out HT1.out HB1.out Fs.out HT2.out HB2.out
theorem BD.arCopy{T:List Nat}{w0 w:World}{l:List ai}{g:Nat}{s:Ar}(h:BD T w0 w l)(i:Nat)(hi:l[i]? =some (arena g s)):Calls Tryz.prog 50 #[.pointer (some ⟨g,0,none⟩)] w
  fun e w'=>∃g',e= .returned (.pointer (some ⟨g',0,none⟩))/\BD T w0 w' (l++[arena g' s]):=by
 obtain⟨fp,hI⟩:=h.isAr i hi;refine(IJ w g fp s hI).mono ?_;rintro e w' ⟨g',fp',rfl,hI',hge,ht⟩;exact⟨g',rfl,h.new (t':=arena g' s) hI' ⟨ht,fun k hk=> .inr (hge k hk)⟩⟩
def O5(c:Nat)(a:Int)(M q1 q2:Nat)(es1 es2:List ME)(P:World->Prop)(d N:Nat)(o:Obj)(r:List ai):List ai:=
 gB c a M q1 q2 es1 es2++[aA P,box d 203 #[.int .i64 a,.map (some N)],fZ N o]++r
theorem Ow(T:List Nat)(w:World)(c:Nat)(a:Int)(M q1 q2:Nat)(es1 es2:List ME)(P:World->Prop)(h:BD T w w (gB c a M q1 q2 es1 es2++[aA P]))(hS:∀W,P W->bJ W)(hP:∀W,P W->(∀e∈es1,e.v.In W/\e.v.nodes<=256)/\∀e∈es2,e.v.In W/\e.v.nodes<=256)(hl1:es1.length<=4096)(hl2:es2.length<=4096):
  Calls Tryz.prog 52 #[.pointer (some ⟨c,0,none⟩)] w fun e w'=>∃(d N p1 p2:Nat) (EB FC:List ME),e= .returned (.pointer (some ⟨d,0,none⟩))/\EB.map ME.plain=es1.map ME.plain/\FC.map ME.plain=es2.map ME.plain/\BD T w w' (O5 c a M q1 q2 es1 es2 P d N (gW p1 p2) [aQ p1 EB,bS (EB.map ME.v),aQ p2 FC,bS (FC.map ME.v)]):=by
 have HS:=hdq hS;have HP:=hdq hP;have BG:=hdq h;clear h hS hP;simp only[gB,cAq,nAq]at BG;obtain⟨c0,c1,hl,hl'⟩:=(BG.out.xP 0 1 rfl rfl).cells;obtain⟨t0,t1⟩:=HS.out _ (BG.out.still 4 rfl);have tl:0<w.heap.size:=World.block_lt_of_cell? _ _ t0;have tl1:0<w.heap.size+1:=by omega
 have hmk:=rJ 2;have hbc:∀W m,(Instr.build 203 #[(0,.agg #[.int .i64 a]),(1,.map (some m))]).run Tryz.prog W= .ok (.agg #[.int .i64 a,.map (some m)]) W:=fun W m=>run_build W 203 _ _ (by kernel_rfl);go_enter Tryz.func52,Tryz.ntmps52
 go_wp2_with fail
 refine(jC _ _ _ _ _ _ (BG.out.xP 0 1 rfl rfl)).mono ?_;rintro e w' ⟨rfl,rfl⟩;go_wp2_with fail
 refine ay ?_;intro w1 hw1;have BB:=hdq (((BG.out.xK (.map #[] 0)).alloc 203 #[.int .i64 a,.map (some w.heap.size)]).via hw1);simp only[World.size_alloc,nAq,cAq]at BB;generalize hd:w.heap.size+1=d at BB|-;generalize hN:w.heap.size=N at BB|-;clear hw1 hd hN BG c0 c1 hl hl' t0 t1 tl tl1 hmk hbc;go_loopw [16] (fun i wr=>(i= .int .i64 0/\Hid (BD T w wr (O5 c a M q1 q2 es1 es2 P d N (.map #[] 0) [])))\/
   (i= .int .i64 1/\∃p1 EB,Hid (EB.map ME.plain=es1.map ME.plain)/\Hid (BD T w wr (O5 c a M q1 q2 es1 es2 P d N (.map #[⟨.int .i64 1,.pointer (some ⟨p1,0,none⟩),0⟩] 1) [aQ p1 EB,bS (EB.map ME.v)])))\/
   (i= .int .i64 2/\∃p1 p2 EB FC,Hid (EB.map ME.plain=es1.map ME.plain)/\Hid (FC.map ME.plain=es2.map ME.plain)/\Hid (BD T w wr (O5 c a M q1 q2 es1 es2 P d N (gW p1 p2) [aQ p1 EB,bS (EB.map ME.v),aQ p2 FC,bS (FC.map ME.v)])))) (fun i _=>2-(intOf i).toNat)
 case atStart=>exact .inl ⟨rfl,BB.out.sel [0,1,2,3,4,6,5] rfl (by decide)⟩
 case round=>
  clear BB;rcases hrel with ⟨rfl,HK⟩|⟨rfl,p1,EB,HY1,HK⟩|⟨rfl,p1,p2,EB,FC,HY1,HY2,HK⟩
  .simp only[O5,gB,cAq,nAq,List.append_nil]at HK
   obtain⟨c0,c1,hl,hl'⟩:=(HK.out.xP 0 1 rfl rfl).cells;obtain⟨d0,d1,f0,f1,hdl,_,_⟩:=HK.out.c2 5 rfl;have hi:=OG wr;have HCQ:=hdq (fun W (hW:Touch [] wr W)=>xV W q1 es1 ((HK.out.touch hW).qAt 2 rfl) ((HP.out _ ((HK.out.touch hW).still 4 rfl)).1) (by omega));have hlk:=(fun W (hW:W.heap[M]? =some (gW q1 q2))=>iT W M q1 q2 hW 1);have hM:=HK.out.G8 1 rfl;have JC:=iT wr M q1 q2 hM 1;have hlk2:=iT wr.drew M q1 q2 hM 1;rw[show Hg 1 q1 q2=some ⟨q1,0,none⟩ from rfl]at JC hlk2;clear hlk;go_wp2_with fail
   go_region_held3 (fun w'=>w'.cell? ⟨c,1,none⟩=some (.map (some M))/\w'.cell? ⟨d,1,none⟩=some (.map (some N))) (go_keep) (first
    |(go_at_call 141;refine(HCQ.out _ (Touch.refl [] wr).drew).mono ?_;rintro e w3 ⟨p1,EB,rfl,hpl,hL⟩;have BF:=hdq (HK.out.drew.join hL);(simp only[nAq,cAq]at BF);have HY1:=hdq hpl;clear hL hpl c0 c1 hl hl' d0 d1 f0 f1 hdl;obtain⟨c0,c1,hl,hl'⟩:=(BF.out.xP 0 1 rfl rfl).cells;obtain⟨d0,d1,f0,f1,hdl,_,_⟩:=BF.out.c2 5 rfl;have hmu:=mX w3 N #[] 0 (BF.out.G8 6 rfl) 1 rfl (.pointer (some ⟨p1,0,none⟩));have hk1:=(fun o=>((BF.out.gq 6 rfl o).c2 5 rfl).2.1);have hk2:=(fun o=>((BF.out.gq 6 rfl o).c2 0 rfl).2.1);(simp only[List.push_toArray,nAq,Nat.reduceAdd]at hmu)))
   rename_i hHeld;clear hHeld hmu hk1 hk2 c0 c1 hl hl' d0 d1 f0 f1 hdl hi JC hlk2 hM HCQ;refine jW ?_;intro w4 hw4;have BH:Hid (BD T w w4 (O5 c a M q1 q2 es1 es2 P d N (.map #[⟨.int .i64 1,.pointer (some ⟨p1,0,none⟩),0⟩] 1) [aQ p1 EB,bS (EB.map ME.v)])):=(BF.out.gq 6 rfl (.map #[⟨.int .i64 1,.pointer (some ⟨p1,0,none⟩),0⟩] 1)).via hw4;clear hw4 BF HK;go_wp2;go_roundw
   case rel=>exact .inr (.inl ⟨by go_num,p1,EB,HY1,BH⟩)
   case measure=>simp[intOf]
  .simp only[O5,gB,cAq,nAq,List.append_nil]at HK
   obtain⟨c0,c1,hl,hl'⟩:=(HK.out.xP 0 1 rfl rfl).cells;obtain⟨d0,d1,f0,f1,hdl,_,_⟩:=HK.out.c2 5 rfl;have hi:=O6 wr;have HCQ:=hdq (fun W (hW:Touch [] wr W)=>xV W q2 es2 ((HK.out.touch hW).qAt 3 rfl) ((HP.out _ ((HK.out.touch hW).still 4 rfl)).2) (by omega));have hM:=HK.out.G8 1 rfl;have JC:=iT wr M q1 q2 hM 2;have hlk2:=iT wr.drew M q1 q2 hM 2;rw[show Hg 2 q1 q2=some ⟨q2,0,none⟩ from rfl]at JC hlk2;go_wp2_with fail
   go_region_held3 (fun w'=>w'.cell? ⟨c,1,none⟩=some (.map (some M))/\w'.cell? ⟨d,1,none⟩=some (.map (some N))) (go_keep) (first
    |(go_at_call 141;refine(HCQ.out _ (Touch.refl [] wr).drew).mono ?_;rintro e w3 ⟨p2,FC,rfl,hpl,hL⟩;have BF:=hdq (HK.out.drew.join hL);(simp only[nAq,cAq]at BF);have HY2:=hdq hpl;clear hL hpl c0 c1 hl hl' d0 d1 f0 f1 hdl;obtain⟨c0,c1,hl,hl'⟩:=(BF.out.xP 0 1 rfl rfl).cells;obtain⟨d0,d1,f0,f1,hdl,_,_⟩:=BF.out.c2 5 rfl;have hmu:=mX w3 N #[⟨.int .i64 1,.pointer (some ⟨p1,0,none⟩),0⟩] 1 (BF.out.G8 6 rfl) 2 rfl (.pointer (some ⟨p2,0,none⟩));have hk1:=(fun o=>((BF.out.gq 6 rfl o).c2 5 rfl).2.1);have hk2:=(fun o=>((BF.out.gq 6 rfl o).c2 0 rfl).2.1);(simp only[List.push_toArray,nAq,cAq,Nat.reduceAdd]at hmu)))
   rename_i hHeld;clear hHeld hmu hk1 hk2 c0 c1 hl hl' d0 d1 f0 f1 hdl hi JC hlk2 hM HCQ;refine jW ?_;intro w4 hw4;have BH:Hid (BD T w w4 (O5 c a M q1 q2 es1 es2 P d N (gW p1 p2) [aQ p1 EB,bS (EB.map ME.v),aQ p2 FC,bS (FC.map ME.v)])):=(BF.out.gq 6 rfl (gW p1 p2)).via hw4;clear hw4 BF HK;go_wp2;go_roundw
   case rel=>exact .inr (.inr ⟨by go_num,p1,p2,EB,FC,HY1,HY2,BH⟩)
   case measure=>simp[intOf]
  .go_wp2
   go_ret
   exact⟨d,N,p1,p2,EB,FC,rfl,HY1.out,HY2.out,HK.out⟩
theorem tO(p:Option Addr)(a1:Option Addr)(n1 c1:Nat)(a2:Option Addr)(n2 c2:Nat)(a3:Option Addr)(n3 c3:Nat)(w:World):(Instr.build 86 #[(0,.agg #[.pointer p]),(1,.slice a1 n1 c1),(2,.slice a2 n2 c2),(3,.slice a3 n3 c3)]).run Tryz.prog w= .ok (.agg #[.pointer p,.slice a1 n1 c1,.slice a2 n2 c2,.slice a3 n3 c3]) w:=run_build w 86 _ _ (by kernel_rfl)
section
variable {T:List Nat} {w0 w w':World} {x:WS} {r0:List ai}
theorem BD.rX{h0 h1 s:ai}{A Y B:List ai}(h:BD T w0 w ([h0,h1,s]++A++Y++B)):∃T',BD T' w w (Y++[s])/\∀w' Y' s' N,BD T' w w' (Y'++[s']++N)->BD T w0 w' ([h0,h1,s']++A++Y'++B++N):=by
 have e1:BD T w0 w (Y++[s]++(A++B++[h0,h1])):=by
  have g1:BD T w0 w ([]++([h0,h1,s]++A)++(Y++B)):=by simpa using h
  have g2:=g1.aB;have g3:BD T w0 w (Y++(B++[h0,h1])++([s]++A)):=by simpa using g2
  have g4:=g3.aB;have g5:BD T w0 w ((Y++[s]++A)++(B++[h0,h1])):=by simpa using g4
  simpa using g5
 obtain⟨T',hF,hb⟩:=e1.aN;refine⟨T',hF,fun w' Y' s' N hL=>?_⟩;have k1:BD T w0 w' ((Y'++[s'])++N++(A++B++[h0,h1])):=hb w' (Y'++[s']++N) hL;have k2:=k1.aB;have k3:BD T w0 w' (Y'++([s']++A)++(B++[h0,h1]++N)):=by simpa using k2
 have k4:=k3.aB;have k5:BD T w0 w' ([]++(Y'++B)++([h0,h1]++N++([s']++A))):=by simpa using k4
 have k6:=k5.aB;have k7:BD T w0 w' ([h0,h1]++N++([s']++A++Y'++B)):=by simpa using k6
 have k8:=k7.aB;simpa using k8
def WS.AC(x:WS)(n:Nat):List ai:=[aS 118 1 (.slice x.a1 x.BI.length x.c1) x.BI.length (bP x.BI),aS 122 1 (.slice x.a2 x.cos.length x.c2) x.cos.length (bK x.cos),aS 61 11 (.slice x.a3 x.sys.length x.c3) x.sys.length (aU x.sys)]++(x.BI.take n).flatMap Ce.ts
theorem WS.vL(x:WS)(n:Nat)(hn:n<x.BI.length)(r0:List ai):x.ts++r0=[x.h0,arena x.ga x.s,aA x.P]++x.AC n++x.BI[n].ts++((x.BI.drop (n+1)).flatMap Ce.ts++x.cos.flatMap Ch.ts++r0):=by
 have e:x.BI.flatMap Ce.ts=(x.BI.take n).flatMap Ce.ts++(x.BI[n].ts++(x.BI.drop (n+1)).flatMap Ce.ts):=by
  conv=>lhs;rw[<-List.take_append_drop n x.BI,List.drop_eq_getElem_cons hn]
  rw[List.flatMap_append,List.flatMap_cons]
 unfold WS.ts;rw[e];simp[WS.head,WS.h0,WS.AC]
def Ce.pl(y:Ce):Int×List PE×List PE:=(y.cell,y.es1.map ME.plain,y.es2.map ME.plain)
def Ch.pl(y:Ch):Int×Int×List PE:=(y.a,y.f,y.es.map ME.plain)
def Ce.made(y:Ce):List ai:=y.ts++[aA fun W=>bD W y.es1/\bD W y.es2]
def Ch.made(y:Ch):List ai:=y.ts++[aA fun W=>bD W y.es]
theorem mh{es ys:List ME}(h:ys.map ME.plain=es.map ME.plain)(hn:∀e∈es,e.v.nodes<=256):∀y∈ys,y.v.nodes<=256:=by
 intro y hy;have :y.plain∈es.map ME.plain:=h▸List.mem_map.2 ⟨y,hy,rfl⟩;obtain⟨e,he,hp⟩:=List.mem_map.1 this;rw[qI hp];exact hn e he
theorem BD.Og(h:BD T w0 w (x.ts++r0))(hS:∀W,x.P W->bJ W)(hv:∀W,x.P W->x.fD W)(n:Nat)(hn:n<x.BI.length)(hq:x.BI[n].es1.length<=4096/\x.BI[n].es2.length<=4096):
  Calls Tryz.prog 52 #[x.BI[n].val] w fun en w'=>∃y:Ce,en= .returned y.val/\y.pl=x.BI[n].pl/\BD T w0 w' (x.ts++(r0++y.made)):=by
 have hp:=hv w (h.still 2 rfl);have hx:=hp.1 _ (List.getElem_mem hn);rw[x.vL n hn r0]at h;obtain⟨T',hF,hb⟩:=h.rX;refine(Ow T' w x.BI[n].c x.BI[n].cell x.BI[n].M x.BI[n].q1 x.BI[n].q2 x.BI[n].es1 x.BI[n].es2 x.P hF hS (fun W hW=>(hv W hW).1 _ (List.getElem_mem hn)) hq.1 hq.2).mono ?_;rintro en w' ⟨d,N,p1,p2,EB,FC,rfl,hp1,hp2,hL⟩;refine⟨⟨d,x.BI[n].cell,N,p1,p2,EB,FC⟩,rfl,by simp[Ce.pl,hp1,hp2],?_⟩;have h1:=hL.sel [0,1,2,3,4,5,6,7,9,8,10] (l':=x.BI[n].ts++[aA x.P]++((Ce.mk d x.BI[n].cell N p1 p2 EB FC).ts++[bS (EB.map ME.v),bS (FC.map ME.v)])) rfl (by decide);have n1:=mh hp1 (fun e he=>(hx.1 e he).2);have n2:=mh hp2 (fun e he=>(hx.2 e he).2);have h2:=h1.jh 9 (t:=bS (EB.map ME.v)) (P:=fun W=>bD W EB) rfl (fun W f hf y hy=>⟨hf.2 _ (List.mem_map.2 ⟨y,hy,rfl⟩),n1 y hy⟩);have h3:BD T' w w' ((x.BI[n].ts++[aA x.P]++((Ce.mk d x.BI[n].cell N p1 p2 EB FC).ts++[aA fun W=>bD W EB]))++[bS (FC.map ME.v)]):=by simpa[Ce.ts,gB]using h2
 have h4:=h3.settle 9 (P:=fun W=>bD W EB) (Q:=fun W=>bD W EB/\bD W FC) rfl (fun W f hW hf=>⟨hW,fun y hy=>⟨hf.2 _ (List.mem_map.2 ⟨y,hy,rfl⟩),n2 y hy⟩⟩);have h5:=hb w' x.BI[n].ts (aA x.P) ((Ce.mk d x.BI[n].cell N p1 p2 EB FC).made) (by simpa[Ce.ts,gB,Ce.made]using h4);rw[<-List.append_assoc x.ts,x.vL n hn r0];exact h5
theorem BD.OC(h:BD T w0 w (x.ts++r0))(hv:∀W,x.P W->x.fD W)(n:Nat)(hn:n<x.cos.length)(hq:x.cos[n].es.length<=4096):
  Calls Tryz.prog 54 #[x.cos[n].val] w fun en w'=>∃y:Ch,en= .returned y.val/\y.pl=x.cos[n].pl/\BD T w0 w' (x.ts++(r0++y.made)):=by
 have hp:=hv w (h.still 2 rfl);have hx:=hp.2 _ (List.getElem_mem hn);rw[x.co_split n hn r0]at h;obtain⟨T',hF,hb⟩:=h.rX;refine(Nf T' w x.cos[n].c x.cos[n].a x.cos[n].f x.cos[n].q x.cos[n].es x.P hF (fun W hW e he=>((hv W hW).2 _ (List.getElem_mem hn) e he).1) (fun e he=>(hx e he).2) hq).mono ?_;rintro en w' ⟨d,p,ys,rfl,hp1,hL⟩;refine⟨⟨d,x.cos[n].a,x.cos[n].f,p,ys⟩,rfl,by simp[Ch.pl,hp1],?_⟩;have n1:=mh hp1 (fun e he=>(hx e he).2);have h2:=hL.jh 5 (t:=bS (ys.map ME.v)) (P:=fun W=>bD W ys) rfl (fun W f hf y hy=>⟨hf.2 _ (List.mem_map.2 ⟨y,hy,rfl⟩),n1 y hy⟩);have h5:=hb w' x.cos[n].ts (aA x.P) ((Ch.mk d x.cos[n].a x.cos[n].f p ys).made) (by simpa[mQ,Ch.ts,Ch.made]using h2);rw[<-List.append_assoc x.ts,x.co_split n hn r0];exact h5
theorem BD.perm{l l':List ai}(hp:l.Perm l'):∀pre,BD T w0 w (pre++l)->BD T w0 w (pre++l'):=by
 induction hp with
 |nil=>exact fun pre h=>h
 |cons t _ ih=>
  intro pre h;have :=ih (pre++[t]) (by simpa using h);simpa using this
 |swap t u l=>
  intro pre h;have h1:BD T w0 w (pre++[u]++(t::l)):=by simpa using h
  have h2:=h1.aB;have h3:BD T w0 w ((pre++[t])++l++[u]):=by simpa using h2
  have h4:=h3.aB;simpa using h4
 |trans _ _ ih1 ih2=>exact fun pre h=>ih2 pre (ih1 pre h)
theorem qy{α:Type}(f g:α->List ai)(l:List α):(l.flatMap fun a=>f a++g a).Perm (l.flatMap f++l.flatMap g):=by
 induction l with
 |nil=>simp
 |cons a l ih=>
  simp only[List.flatMap_cons,List.append_assoc];refine List.Perm.append_left _ ?_;refine(List.Perm.append_left _ ih).trans ?_;rw[<-List.append_assoc,<-List.append_assoc];exact List.Perm.append_right _ List.perm_append_comm
theorem oz(l:List Ce):l.flatMap Ce.cells=bP l:=by
 induction l with
 |nil=>rfl
 |cons a l ih=>simp[List.flatMap_cons,ih,bP,Ce.cells]
theorem oI(l:List Ch):l.flatMap Ch.cells=bK l:=by
 induction l with
 |nil=>rfl
 |cons a l ih=>simp[List.flatMap_cons,ih,bK,Ch.cells]
theorem mK(l:List MS):l.flatMap MS.cells=aU (l.map MS.raw):=by
 induction l with
 |nil=>rfl
 |cons a l ih=>simp[List.flatMap_cons,ih,aU,MS.cells,MS.raw,bL.cells]
theorem BD.LA(h:BD T w0 w (x.ts++r0))(hS:∀W,x.P W->bJ W)(hv:∀W,x.P W->x.fD W)(hq:∀n (hn:n<x.BI.length),x.BI[n].es1.length<=4096/\x.BI[n].es2.length<=4096)(hl:x.BI.length<=2000000):
  Calls Tryz.prog 51 #[.slice x.a1 x.BI.length x.c1,.func (.func 52) #[] #[]] w fun en w'=>∃(a:Option Addr) (cap:Nat) (ys:List Ce),en= .returned (.slice a x.BI.length cap)/\ys.map Ce.pl=x.BI.map Ce.pl/\
   BD T w0 w' ((x.knows (fun W=>∀y∈ys,bD W y.es1/\bD W y.es2)).ts++(r0++(aS 118 1 (.slice a x.BI.length cap) x.BI.length (bP ys)::ys.flatMap Ce.ts))):=by
 obtain⟨T',hF,hb⟩:=h.aN;refine(vH Ce.pl Ce.made T' w x.ts x.a1 x.c1 x.BI _ hF (fun W r hL=>?_) (enters_of Tryz.func52 (by kernel_rfl) rfl) (fun W r n hn hL=>hL.Og hS hv n hn (hq n hn)) hl).mono ?_
 .rw[oz]
  exact iY (hL.aZ 3 rfl) hl
 rintro en w' ⟨a,cap,ys,rfl,hp,hL⟩;refine⟨a,cap,ys,rfl,hp,?_⟩;rw[oz]at hL;have h1:BD T' w w' ((x.ts++[aS 118 1 (.slice a x.BI.length cap) x.BI.length (bP ys)])++ys.flatMap fun y=>y.ts++[aA fun W=>bD W y.es1/\bD W y.es2]):=by rw[show Ce.made=(fun y=>y.ts++[aA fun W=>bD W y.es1/\bD W y.es2]) from rfl]at hL;simpa using hL
 have h2:=BD.perm (qy Ce.ts (fun y=>[aA fun W=>bD W y.es1/\bD W y.es2]) ys) _ h1;rw[<-List.append_assoc]at h2;have h3:=BD.lZ (P:=x.P) (fun y W=>bD W y.es1/\bD W y.es2) 2 ys rfl h2;have h4:BD T' w w' ((x.knows (fun W=>∀y∈ys,bD W y.es1/\bD W y.es2)).ts++(aS 118 1 (.slice a x.BI.length cap) x.BI.length (bP ys)::ys.flatMap Ce.ts)):=by simpa[WS.knows,WS.ts,WS.head]using h3
 have h5:=(hb w' _ h4).aB;rwa[List.append_assoc]at h5
theorem BD.Ii(h:BD T w0 w (x.ts++r0))(hv:∀W,x.P W->x.fD W)(hq:∀n (hn:n<x.cos.length),x.cos[n].es.length<=4096)(hl:x.cos.length<=2000000):
  Calls Tryz.prog 53 #[.slice x.a2 x.cos.length x.c2,.func (.func 54) #[] #[]] w fun en w'=>∃(a:Option Addr) (cap:Nat) (ys:List Ch),en= .returned (.slice a x.cos.length cap)/\ys.map Ch.pl=x.cos.map Ch.pl/\
   BD T w0 w' ((x.knows (fun W=>∀y∈ys,bD W y.es)).ts++(r0++(aS 122 1 (.slice a x.cos.length cap) x.cos.length (bK ys)::ys.flatMap Ch.ts))):=by
 obtain⟨T',hF,hb⟩:=h.aN;refine(uX Ch.pl Ch.made T' w x.ts x.a2 x.c2 x.cos _ hF (fun W r hL=>?_) (enters_of Tryz.func54 (by kernel_rfl) rfl) (fun W r n hn hL=>hL.OC hv n hn (hq n hn)) hl).mono ?_
 .rw[oI]
  exact iY (hL.aZ 4 rfl) hl
 rintro en w' ⟨a,cap,ys,rfl,hp,hL⟩;refine⟨a,cap,ys,rfl,hp,?_⟩;rw[oI]at hL;have h1:BD T' w w' ((x.ts++[aS 122 1 (.slice a x.cos.length cap) x.cos.length (bK ys)])++ys.flatMap fun y=>y.ts++[aA fun W=>bD W y.es]):=by rw[show Ch.made=(fun y=>y.ts++[aA fun W=>bD W y.es]) from rfl]at hL;simpa using hL
 have h2:=BD.perm (qy Ch.ts (fun y=>[aA fun W=>bD W y.es]) ys) _ h1;rw[<-List.append_assoc]at h2;have h3:=BD.lZ (P:=x.P) (fun y W=>bD W y.es) 2 ys rfl h2;have h4:BD T' w w' ((x.knows (fun W=>∀y∈ys,bD W y.es)).ts++(aS 122 1 (.slice a x.cos.length cap) x.cos.length (bK ys)::ys.flatMap Ch.ts)):=by simpa[WS.knows,WS.ts,WS.head]using h3
 have h5:=(hb w' _ h4).aB;rwa[List.append_assoc]at h5
theorem BD.JF{ms:List MS}(h:BD T w0 w (x.ts++r0))(hms:x.sys=ms.map MS.raw)(hin:∀W,x.P W->∀m∈ms,m.In W)(hl:x.sys.length<=2000000):
  Calls Tryz.prog 55 #[.slice x.a3 x.sys.length x.c3,.func (.func 56) #[] #[]] w fun en w'=>∃(a:Option Addr) (cap:Nat) (ys:List MS),en= .returned (.slice a x.sys.length cap)/\ys.map MS.plain=ms.map MS.plain/\
   BD T w0 w' ((x.knows (fun W=>∀y∈ys,y.In W)).ts++(r0++[aS 61 11 (.slice a x.sys.length cap) x.sys.length (aU (ys.map MS.raw))])):=by
 have hlen:x.sys.length=ms.length:=by rw[hms];simp
 have hr:=iY (h.aZ 5 (e:=61) (size:=11) (v:= .slice x.a3 x.sys.length x.c3) (n:=x.sys.length) (xs:=aU x.sys) rfl) hl;rw[hms,<-mK]at hr;simp only[List.length_map]at hr;have hI:=hin w (h.still 2 rfl);rw[hlen];refine(uP MS.plain (fun y=>[aA fun W=>y.In W]) [] w [] x.a3 x.c3 ms _ (BD.nil' w) (fun W r hL=>hr.aW hL.BN) (enters_of Tryz.func56 (by kernel_rfl) rfl) (fun W r n hn hL=>?_) (by omega)).mono ?_
 .refine(xw _ W ((hI _ (List.getElem_mem hn)).aW hL.BN)).mono ?_
  rintro en W2 ⟨y,rfl,hp,hL2⟩;exact⟨y,rfl,hp,hL.join hL2⟩
 rintro en w' ⟨a,cap,ys,rfl,hp,hL⟩;refine⟨a,cap,ys,rfl,hp,?_⟩;rw[mK,List.nil_append]at hL;have h1:=h.join hL;have h2:BD T w0 w' ((x.ts++(r0++[aS 61 11 (.slice a ms.length cap) ms.length (aU (ys.map MS.raw))]))++ys.flatMap fun y=>[aA fun W=>y.In W]):=by simpa using h1
 have h3:=BD.lZ (P:=x.P) (fun y W=>y.In W) 2 ys rfl h2;simpa[WS.knows,WS.ts,WS.head]using h3
end
structure WS.Good(x:WS)(ms:List MS):Prop where
 sides:∀W,x.P W->bJ W
 vals:∀W,x.P W->x.fD W
 sys:x.sys=ms.map MS.raw
 cont:∀W,x.P W->∀m∈ms,m.In W
 q1:∀n (hn:n<x.BI.length),x.BI[n].es1.length<=4096/\x.BI[n].es2.length<=4096
 q2:∀n (hn:n<x.cos.length),x.cos[n].es.length<=4096
 l1:x.BI.length<=100000
 l2:x.cos.length<=100000
 l3:x.sys.length<=100000
theorem WS.Good.knows{x:WS}{ms:List MS}(h:x.Good ms)(Q:World->Prop):(x.knows Q).Good ms:=
 ⟨fun W hW=>h.sides W hW.1,fun W hW=>h.vals W hW.1,h.sys,fun W hW=>h.cont W hW.1,h.q1,h.q2,h.l1,h.l2,h.l3⟩
def WS.rest(y:WS):List ai:=[y.h0,arena y.ga y.s,aS 118 1 (.slice y.a1 y.BI.length y.c1) y.BI.length (bP y.BI),aS 122 1 (.slice y.a2 y.cos.length y.c2) y.cos.length (bK y.cos),aS 61 11 (.slice y.a3 y.sys.length y.c3) y.sys.length (aU y.sys)]++(y.BI.flatMap Ce.ts++y.cos.flatMap Ch.ts)
def uO(T:List Nat)(w:World)(x:WS)(ms:List MS)(en:Ending)(w':World):Prop:=
 ∃(Q:World->Prop) (y:WS) (ms':List MS),en= .returned (.pointer (some ⟨y.wb,0,none⟩))/\y.P=(x.knows Q).P/\y.Good ms'/\y.s=x.s/\y.BI.map Ce.pl=x.BI.map Ce.pl/\y.cos.map Ch.pl=x.cos.map Ch.pl/\ms'.map MS.plain=ms.map MS.plain/\BD T w w' ((x.knows Q).ts++y.rest)
theorem uy{es ys:List ME}(h:ys.map ME.plain=es.map ME.plain):ys.length=es.length:=by have :=congrArg List.length h;simpa using this
theorem wF{T:List Nat}{w w':World}{x:WS}{ms ms':List MS}(hg:x.Good ms)(Q1 Q2 Q3:World->Prop)(b g:Nat)(a1 a2 a3:Option Addr)(c1 c2 c3:Nat)(ys:List Ce)(zs:List Ch)(h1:ys.map Ce.pl=x.BI.map Ce.pl)(h2:zs.map Ch.pl=x.cos.map Ch.pl)(h3:ms'.map MS.plain=ms.map MS.plain)(hQ1:∀W,Q1 W->∀y∈ys,bD W y.es1/\bD W y.es2)(hQ2:∀W,Q2 W->∀y∈zs,bD W y.es)(hQ3:∀W,Q3 W->∀m∈ms',m.In W)(hL:BD T w w' ((((x.knows Q1).knows Q2).knows Q3).ts++(((([arena g x.s]++(aS 118 1 (.slice a1 x.BI.length c1) x.BI.length (bP ys)::ys.flatMap Ce.ts))++(aS 122 1 (.slice a2 x.cos.length c2) x.cos.length (bK zs)::zs.flatMap Ch.ts))++[aS 61 11 (.slice a3 x.sys.length c3) x.sys.length (aU (ms'.map MS.raw))])++[box b 86 #[.pointer (some ⟨g,0,none⟩),.slice a1 x.BI.length c1,.slice a2 x.cos.length c2,.slice a3 x.sys.length c3]]))):
  uO T w x ms (.returned (.pointer (some ⟨b,0,none⟩))) w':=by
 have e1:ys.length=x.BI.length:=by have :=congrArg List.length h1;simpa using this
 have e2:zs.length=x.cos.length:=by have :=congrArg List.length h2;simpa using this
 have e3:ms'.length=ms.length:=by have :=congrArg List.length h3;simpa using this
 have e4:x.sys.length=ms.length:=by rw[hg.sys];simp
 have hq1:∀n (hn:n<ys.length),ys[n].es1.length<=4096/\ys[n].es2.length<=4096:=fun n hn=>by
  have hn':n<x.BI.length:=by omega
  have h:=congrArg (fun l=>l[n]?) h1;simp only[List.getElem?_map,List.getElem?_eq_getElem hn,List.getElem?_eq_getElem hn',Option.map_some,Option.some.injEq,Ce.pl,Prod.mk.injEq]at h;have :=hg.q1 n hn';rw[uy h.2.1,uy h.2.2];exact this
 have hq2:∀n (hn:n<zs.length),zs[n].es.length<=4096:=fun n hn=>by
  have hn':n<x.cos.length:=by omega
  have h:=congrArg (fun l=>l[n]?) h2;simp only[List.getElem?_map,List.getElem?_eq_getElem hn,List.getElem?_eq_getElem hn',Option.map_some,Option.some.injEq,Ch.pl,Prod.mk.injEq]at h;rw[uy h.2.2];exact hg.q2 n hn'
 refine⟨fun W=>(Q1 W/\Q2 W)/\Q3 W,⟨b,g,x.s,fun W=>x.P W/\((Q1 W/\Q2 W)/\Q3 W),ys,zs,ms'.map MS.raw,a1,c1,a2,c2,a3,c3⟩,ms',rfl,rfl,⟨fun W hW=>hg.sides W hW.1,fun W hW=>⟨hQ1 W hW.2.1.1,hQ2 W hW.2.1.2⟩,rfl,fun W hW=>hQ3 W hW.2.2,hq1,hq2,by rw[e1];exact hg.l1,by rw[e2];exact hg.l2,by simp only[List.length_map];have :=hg.l3;omega⟩,rfl,h1,h2,h3,?_⟩;have k0:=hL.weaken 2 rfl (Q:=fun W=>x.P W/\((Q1 W/\Q2 W)/\Q3 W)) (fun W hW=>⟨hW.1.1.1,⟨hW.1.1.2,hW.1.2⟩,hW.2⟩);have k1:BD T w w' ((x.knows (fun W=>(Q1 W/\Q2 W)/\Q3 W)).ts++([arena g x.s,aS 118 1 (.slice a1 x.BI.length c1) x.BI.length (bP ys)]++ys.flatMap Ce.ts++[aS 122 1 (.slice a2 x.cos.length c2) x.cos.length (bK zs)]++zs.flatMap Ch.ts++[aS 61 11 (.slice a3 x.sys.length c3) x.sys.length (aU (ms'.map MS.raw))])++[box b 86 #[.pointer (some ⟨g,0,none⟩),.slice a1 x.BI.length c1,.slice a2 x.cos.length c2,.slice a3 x.sys.length c3]]):=by
  simpa[WS.knows,WS.ts,WS.head]using k0
 have k2:=k1.aB;generalize hX:(x.knows (fun W=>(Q1 W/\Q2 W)/\Q3 W)).ts=X at k2;have er:WS.rest ⟨b,g,x.s,fun W=>x.P W/\((Q1 W/\Q2 W)/\Q3 W),ys,zs,ms'.map MS.raw,a1,c1,a2,c2,a3,c3⟩=[box b 86 #[.pointer (some ⟨g,0,none⟩),.slice a1 x.BI.length c1,.slice a2 x.cos.length c2,.slice a3 x.sys.length c3],arena g x.s,aS 118 1 (.slice a1 x.BI.length c1) x.BI.length (bP ys),aS 122 1 (.slice a2 x.cos.length c2) x.cos.length (bK zs),aS 61 11 (.slice a3 x.sys.length c3) x.sys.length (aU (ms'.map MS.raw))]++(ys.flatMap Ce.ts++zs.flatMap Ch.ts):=by
  simp[WS.rest,WS.h0,e1,e2,e3,e4]
 have k3:BD T w w' ((X++[box b 86 #[.pointer (some ⟨g,0,none⟩),.slice a1 x.BI.length c1,.slice a2 x.cos.length c2,.slice a3 x.sys.length c3],arena g x.s,aS 118 1 (.slice a1 x.BI.length c1) x.BI.length (bP ys)])++(ys.flatMap Ce.ts++[aS 122 1 (.slice a2 x.cos.length c2) x.cos.length (bK zs)]++zs.flatMap Ch.ts)++[aS 61 11 (.slice a3 x.sys.length c3) x.sys.length (aU (ms'.map MS.raw))]):=by simpa using k2
 have k4:=k3.aB;have k5:BD T w w' ((X++[box b 86 #[.pointer (some ⟨g,0,none⟩),.slice a1 x.BI.length c1,.slice a2 x.cos.length c2,.slice a3 x.sys.length c3],arena g x.s,aS 118 1 (.slice a1 x.BI.length c1) x.BI.length (bP ys)])++([aS 61 11 (.slice a3 x.sys.length c3) x.sys.length (aU (ms'.map MS.raw))]++ys.flatMap Ce.ts)++([aS 122 1 (.slice a2 x.cos.length c2) x.cos.length (bK zs)]++zs.flatMap Ch.ts)):=by simpa using k4
 have k6:=k5.aB;have k7:BD T w w' ((X++[box b 86 #[.pointer (some ⟨g,0,none⟩),.slice a1 x.BI.length c1,.slice a2 x.cos.length c2,.slice a3 x.sys.length c3],arena g x.s,aS 118 1 (.slice a1 x.BI.length c1) x.BI.length (bP ys),aS 122 1 (.slice a2 x.cos.length c2) x.cos.length (bK zs)])++zs.flatMap Ch.ts++([aS 61 11 (.slice a3 x.sys.length c3) x.sys.length (aU (ms'.map MS.raw))]++ys.flatMap Ce.ts)):=by simpa using k6
 have k8:=k7.aB;rw[er];simpa using k8
theorem K3(T:List Nat)(w:World)(x:WS)(ms:List MS)(h:BD T w w x.ts)(hg:x.Good ms):
  Calls Tryz.prog 11 #[.pointer (some ⟨x.wb,0,none⟩)] w (uO T w x ms):=by
 have BG:Hid (BD T w w (x.ts++[])):=by rw[List.append_nil];exact h
 have HG:=hdq hg;clear h hg;obtain⟨w0',w1',w2',w3'⟩:=BG.out.Cb;have zw:=BG.out.Cb.lt;have HN:=hdq (dG w x.wb x.ga _ _ _ BG.out.Cb);have HA:=hdq (fun W (hW:Touch [] w W)=>(BG.out.touch hW).arCopy 1 (g:=x.ga) (s:=x.s) rfl);go_enter Tryz.func11,Tryz.ntmps11
 go_wp2_with fail
 refine HN.out.mono ?_;rintro e w' ⟨rfl,rfl⟩;have BZ:=hdq (Touch.refl [] w).drew;clear HN;go_wp2_with fail
 refine hrq (S:=fun w'=>w'.cell? ⟨x.wb,0,none⟩=some (.pointer (some ⟨x.ga,0,none⟩))/\w'.cell? ⟨x.wb,1,none⟩=some (.slice x.a1 x.BI.length x.c1)/\w'.cell? ⟨x.wb,2,none⟩=some (.slice x.a2 x.cos.length x.c2)/\w'.cell? ⟨x.wb,3,none⟩=some (.slice x.a3 x.sys.length x.c3)) fun hHeld=>?_;refine tkq 0 5 ?_;refine tkq 1 6 ?_;refine tkq 2 7 ?_;refine tkq 3 8 ?_;refine tkq 4 9 ?_;refine tkq 7 12 ?_;refine tkq 8 13 ?_;refine tkq 9 14 ?_;refine tkq 10 15 ?_;refine tkq 12 17 ?_;refine tkq 13 18 ?_;refine tkq 14 19 ?_;refine tkq 15 20 ?_;refine tkq 17 22 ?_;refine tkq 18 23 ?_;refine tkq 19 24 ?_;refine tkq 20 25 ?_;refine rdq 5 rfl fun K hK=>?_;go_simp;refine(HA.out _ BZ.out).mono ?_;rintro en w1 ⟨g,rfl,hL⟩;have BB:Hid (BD T w w1 (x.ts++[arena g x.s])):=by simpa using hdq hL
 clear hL HA BZ BG w0' w1' w2' w3' zw hHeld;obtain⟨w0',w1',w2',w3'⟩:=BB.out.Cb;have zw:=BB.out.Cb.lt;have hb1:=jw (some ⟨g,0,none⟩);go_simp;refine kpq hK.out fun hHeld=>?_;clear hK K;refine tkq 6 11 ?_;refine rdq 11 rfl fun K hK=>?_;go_simp;refine(BB.out.LA HG.out.sides HG.out.vals HG.out.q1 (by have :=HG.out.l1;omega)).mono ?_;rintro en w2 ⟨a1,c1,ys,rfl,hp,hL⟩;have HL2:=hdq hL;have HP1:=hdq hp;clear hL hp BB w0' w1' w2' w3' zw hHeld;have w0':w2.cell? ⟨x.wb,0,none⟩=some (.pointer (some ⟨x.ga,0,none⟩)):=HL2.out.Cb.1;have w1':w2.cell? ⟨x.wb,1,none⟩=some (.slice x.a1 x.BI.length x.c1):=HL2.out.Cb.2.1;have w2':w2.cell? ⟨x.wb,2,none⟩=some (.slice x.a2 x.cos.length x.c2):=HL2.out.Cb.2.2.1;have w3':w2.cell? ⟨x.wb,3,none⟩=some (.slice x.a3 x.sys.length x.c3):=HL2.out.Cb.2.2.2;have zw:x.wb<w2.heap.size:=HL2.out.Cb.lt;go_simp;refine kpq hK.out fun hHeld=>?_;clear hK K;refine rdq 16 rfl fun K hK=>?_;go_simp;refine(HL2.out.Ii (HG.out.knows _).vals HG.out.q2 (by have :=HG.out.l2;show x.cos.length<=_;omega)).mono ?_;rintro en w3 ⟨a2,c2,zs,rfl,hp,hL⟩;have BF:=hdq hL;have Ht:=hdq hp;clear hL hp HL2 w0' w1' w2' w3' zw hHeld;have w0':w3.cell? ⟨x.wb,0,none⟩=some (.pointer (some ⟨x.ga,0,none⟩)):=BF.out.Cb.1;have w1':w3.cell? ⟨x.wb,1,none⟩=some (.slice x.a1 x.BI.length x.c1):=BF.out.Cb.2.1;have w2':w3.cell? ⟨x.wb,2,none⟩=some (.slice x.a2 x.cos.length x.c2):=BF.out.Cb.2.2.1;have w3':w3.cell? ⟨x.wb,3,none⟩=some (.slice x.a3 x.sys.length x.c3):=BF.out.Cb.2.2.2;have zw:x.wb<w3.heap.size:=BF.out.Cb.lt;go_simp;refine kpq hK.out fun hHeld=>?_;clear hK K;refine rdq 21 rfl fun K hK=>?_;go_simp;refine(BF.out.JF HG.out.sys ((HG.out.knows _).knows _).cont (by have :=HG.out.l3;show x.sys.length<=_;omega)).mono ?_;rintro en w4 ⟨a3,c3,ms',rfl,hp,hL⟩;have BH:=hdq hL;have HP3:=hdq hp;clear hL hp BF w0' w1' w2' w3' zw hHeld;have w0':w4.cell? ⟨x.wb,0,none⟩=some (.pointer (some ⟨x.ga,0,none⟩)):=BH.out.Cb.1;have w1':w4.cell? ⟨x.wb,1,none⟩=some (.slice x.a1 x.BI.length x.c1):=BH.out.Cb.2.1;have w2':w4.cell? ⟨x.wb,2,none⟩=some (.slice x.a2 x.cos.length x.c2):=BH.out.Cb.2.2.1;have w3':w4.cell? ⟨x.wb,3,none⟩=some (.slice x.a3 x.sys.length x.c3):=BH.out.Cb.2.2.2;have zw:x.wb<w4.heap.size:=BH.out.Cb.lt;have Ca:Hid (BD T w (w4.alloc (.cells #[.pointer (some ⟨g,0,none⟩),.slice a1 x.BI.length c1,.slice a2 x.cos.length c2,.slice a3 x.sys.length c3] 86)) ((((x.knows (fun W=>∀y∈ys,bD W y.es1/\bD W y.es2)).knows (fun W=>∀y∈zs,bD W y.es)).knows (fun W=>∀y∈ms',y.In W)).ts++(((([arena g x.s]++(aS 118 1 (.slice a1 x.BI.length c1) x.BI.length (bP ys)::ys.flatMap Ce.ts))++(aS 122 1 (.slice a2 x.cos.length c2) x.cos.length (bK zs)::zs.flatMap Ch.ts))++[aS 61 11 (.slice a3 x.sys.length c3) x.sys.length (aU (ms'.map MS.raw))])++[box w4.heap.size 86 #[.pointer (some ⟨g,0,none⟩),.slice a1 x.BI.length c1,.slice a2 x.cos.length c2,.slice a3 x.sys.length c3]]))):=by
  have h:=BH.out.alloc 86 #[.pointer (some ⟨g,0,none⟩),.slice a1 x.BI.length c1,.slice a2 x.cos.length c2,.slice a3 x.sys.length c3];rw[List.append_assoc]at h;exact h
 have HE:=hdq (wF HG.out _ _ _ _ _ _ _ _ _ _ _ _ _ HP1.out Ht.out HP3.out (fun W h=>h) (fun W h=>h) (fun W h=>h) Ca.out);have hb1:=jw (some ⟨g,0,none⟩);have hb2:=tO (some ⟨g,0,none⟩) a1 x.BI.length c1 a2 x.cos.length c2 a3 x.sys.length c3;clear Ca HP1 Ht HP3 HG;go_simp;refine kpq hK.out fun hHeld=>?_;clear hK K;refine tkq 22 27 ?_;refine opq 23 fun hHeld=>?_;refine tkq 24 2 ?_;refine dnq ?_;clear hHeld;go_wp2;go_ret
 exact HE.out
def WS.uY(x:WS)(y:bL)(a:Option Addr)(c:Nat):WS:={x with sys:=x.sys++[y],a3:=a,c3:=c}
def WS.kH(x:WS)(vb v:Value)(n:Nat)(xs:List Value):List ai:=
 [box x.wb 86 #[.pointer (some ⟨x.ga,0,none⟩),.slice x.a1 x.BI.length x.c1,.slice x.a2 x.cos.length x.c2,vb],arena x.ga x.s,aA x.P,aS 118 1 (.slice x.a1 x.BI.length x.c1) x.BI.length (bP x.BI),aS 122 1 (.slice x.a2 x.cos.length x.c2) x.cos.length (bK x.cos),aS 61 11 v n xs]
def iJ(W:World)(ba:Option Addr)(bases:List MB)(ca:Option Addr)(conds:List Int):Prop:=(aG W ba 7 bases.length (bases.flatMap MB.cells)/\∀b∈bases,b.Mem W)/\aG W ca 1 conds.length (conds.flatMap fq)
def ou(x:WS)(th:Int)(bases:List MB)(conds:List Int):Prop:=0<=th/\Ac x.cos.length conds/\bases.length<=32/\∀b∈bases,eD x.BI.length x.cos.length conds b
def mq(x:WS)(th:Int)(bases:List MB)(conds:List Int)(v er:Int)(x':WS):Prop:=
 (¬ou x th bases conds/\er=2/\v=0/\x'=x)\/(ou x th bases conds/\¬x.s.C.length+1<=x.s.most/\er=6/\v=0/\x'=x)\/
 (ou x th bases conds/\x.s.C.length+1<=x.s.most/\er=0/\v=(x.sys.length:Int)/\∃(s':MS) (a:Option Addr) (c:Nat),s'.plain=(th,bases.map MB.plain,conds,(x.s.C.length:Int),false,false,0,MT.zero.plain,0)/\x'=(WS.knows {x with s:=(x.s.au 1).1} (fun W=>s'.In W)).uY s'.raw a c)
def fF(x:WS)(th:Int)(ba:Option Addr)(bn bc:Nat)(ca:Option Addr)(cn cc:Nat)(b0 b1 b2 b3:Nat):List ai:=[wB x b0,kB b1 th,box b3 48 #[.slice ba bn bc],box b2 49 #[.slice ca cn cc]]
theorem BD.fF{T:List Nat}{w0 w:World}{x:WS}{m:List ai}{th:Int}{ba:Option Addr}{bn bc:Nat}{ca:Option Addr}{cn cc:Nat}{b0 b1 b2 b3:Nat}{r:List ai}(h:BD T w0 w (m++(Proofs.YtddnnapoaonmjaaGreatDoor.fF x th ba bn bc ca cn cc b0 b1 b2 b3++r))):
  (w.cell? ⟨b0,0,none⟩=some (.pointer (some ⟨x.wb,0,none⟩))/\w.cell? ⟨b1,0,none⟩=some (.int .i64 th)/\w.cell? ⟨b3,0,none⟩=some (.slice ba bn bc)/\w.cell? ⟨b2,0,none⟩=some (.slice ca cn cc))/\b0<w.heap.size/\b1<w.heap.size/\b3<w.heap.size/\b2<w.heap.size:=by
 have h5:=h.box m.length (b:=b0) (t:=25) (cs:=#[.pointer (some ⟨x.wb,0,none⟩)]) (by simp[Proofs.YtddnnapoaonmjaaGreatDoor.fF,wB]);have h6:=h.box (m.length+1) (b:=b1) (t:=3) (cs:=#[.int .i64 th]) (by simp[Proofs.YtddnnapoaonmjaaGreatDoor.fF,kB]);have h7:=h.box (m.length+2) (b:=b3) (t:=48) (cs:=#[.slice ba bn bc]) (by simp[Proofs.YtddnnapoaonmjaaGreatDoor.fF]);have h8:=h.box (m.length+3) (b:=b2) (t:=49) (cs:=#[.slice ca cn cc]) (by simp[Proofs.YtddnnapoaonmjaaGreatDoor.fF]);exact⟨⟨h5.cell 0,h6.cell 0,h7.cell 0,h8.cell 0⟩,h5.lt,h6.lt,h7.lt,h8.lt⟩
def pR(T:List Nat)(w:World)(x:WS)(th:Int)(ba:Option Addr)(bases:List MB)(bc:Nat)(ca:Option Addr)(conds:List Int)(cc:Nat)(b0 b1 b2 b3:Nat)(en:Ending)(w':World):Prop:=
 ∃(v er:Int) (x':WS),mq x th bases conds v er x'/\Ends en (.int .i64 v) er (.int .i64 0)/\BD T w w' (x'.ts++fF x th ba bases.length bc ca conds.length cc b0 b1 b2 b3)
theorem yj:MT.zero.nodes=1:=by simp[MT.zero,MT.nodes,MT.aV]
theorem lJ{v:MT}(h:v.plain.Ok):v.nodes<=256:=by rw[<-MT.cu];exact h.1
theorem nZ{v:MT}(h:v.E8):v.nodes<=256:=by
 have :=List.eq_nil_of_length_eq_zero h.2.2;rw[MT.ni,this];simp[MT.aV]
theorem beg_in{W:World}{x:WS}{th:Int}{ba:Option Addr}{bases:List MB}{bc:Nat}{ca:Option Addr}{conds:List Int}{cc:Nat}(h:iJ W ba bases ca conds)(hok:ou x th bases conds)(fl:Int):MS.In W ⟨th,ba,bc,bases,ca,cc,conds,fl,false,false,0,MT.zero,0⟩:=by
 refine⟨⟨MT.dQ W,by show MT.zero.nodes<=256;rw[yj];omega⟩,⟨h.1.1,fun b hb=>?_⟩,h.2⟩;have hm:=h.1.2 b hb;have hbk:=hok.2.2.2 b hb;refine⟨⟨hm.1,?_⟩,⟨hm.2.1.1,fun c hc=>⟨(hm.2.1.2 c hc).1,fun t ht=>⟨(hm.2.1.2 c hc).2 t ht,lJ (hbk.2.2.2.1 c hc t ht)⟩⟩⟩,hm.2.2⟩;rcases hbk.1 with ⟨_,_,g⟩|⟨_,_,g⟩|⟨_,_,g⟩|⟨_,_,g⟩|⟨_,_,g⟩
 .exact lJ g
 .exact nZ g
 .exact lJ g
 .exact nZ g
 .exact nZ g
set_option maxHeartbeats 16000000 in
theorem IU(T:List Nat)(w:World)(x:WS)(th:Int)(ba:Option Addr)(bases:List MB)(bc:Nat)(ca:Option Addr)(conds:List Int)(cc:Nat)(b0 b1 b2 b3:Nat)(h:BD T w w (x.ts++fF x th ba bases.length bc ca conds.length cc b0 b1 b2 b3))(ha:∀W,x.P W->iJ W ba bases ca conds)(hl3:x.sys.length<=100000):
  Calls Tryz.prog 86 #[.pointer (some ⟨b0,0,none⟩),.pointer (some ⟨b1,0,none⟩),.pointer (some ⟨b2,0,none⟩),.pointer (some ⟨b3,0,none⟩)] w (pR T w x th ba bases bc ca conds cc b0 b1 b2 b3):=by
 have BG:=hdq h;have HAR:=hdq ha;have HBAD:Hid (¬ou x th bases conds->∀W,BD T w W (x.ts++fF x th ba bases.length bc ca conds.length cc b0 b1 b2 b3)->pR T w x th ba bases bc ca conds cc b0 b1 b2 b3 (.panicked (aX 2)) W):=fun hno W hW=>⟨0,2,x,.inl ⟨hno,rfl,rfl,rfl⟩,.inr ⟨rfl,rfl⟩,hW⟩;clear h ha;obtain⟨⟨p0,p1,p3,p2⟩,z0,z1,z3,z2⟩:=BD.fF (r:=[]) (by simpa only[List.append_nil]using BG.out);have HN:=hdq (dG w x.wb x.ga _ _ _ BG.out.Cb);go_enter Tryz.func86,Tryz.ntmps86
 go_wp2_with fail
 refine HN.out.mono ?_;rintro e w' ⟨rfl,rfl⟩;clear HN;go_wp2_with fail
 refine(require_ok _ _).mono ?_;rintro e wq ⟨rfl,rfl⟩;dsimp only;by_cases hth:0<=th
 .obtain⟨_,w1',w2',w3'⟩:=BG.out.Cb
  have HCI:=hdq (uG w x.wb x.a2 x.cos.length x.c2 w2' ca cc conds (HAR.out w (BG.out.still 2 rfl)).2);clear w1' w2' w3';go_wp2_with fail
  refine HCI.out.mono ?_;rintro e w' ⟨bi,rfl,hbi,rfl⟩;clear HCI;cases bi with
  |false=>
   have HE:=hdq (HBAD.out (fun h=>by have :=hbi.2 h.2.1;simp at this) w BG.out);go_wp2_with fail
   refine(aY _ _).mono ?_;rintro e wq ⟨rfl,rfl⟩;dsimp only;exact⟨rfl,HE.out⟩
  |true=>
   have F7:Hid (Ac x.cos.length conds):=hbi.1 rfl;clear hbi;go_wp2_with fail
   refine(require_ok _ _).mono ?_;rintro e wq ⟨rfl,rfl⟩;dsimp only;by_cases hlb:bases.length<=32
   .have g1:decide ((bases.length:Int)<=32)=true:=decide_eq_true (by omega)
    go_wp2_with fail
    refine(require_ok _ _).mono ?_;rintro e wq ⟨rfl,rfl⟩;dsimp only;go_wp2;have HTH:Hid (0<=th):=hth;have HLB:Hid (bases.length<=32):=hlb;have HF1:=hdq (fun W (hW:Touch [] w W)=>BG.out.touch hW);clear p0 p1 p3 p2 z0 z1 z3 z2 g1 hth;go_loopw [26] (fun p wr=>∃i:Nat,p= .int .i64 (i:Int)/\i<=bases.length/\Hid (Touch [] w wr)/\Hid (∀q (hq:q<bases.length),q<i->eD x.BI.length x.cos.length conds bases[q])) (fun p _=>bases.length-(intOf p).toNat)
    case atStart=>exact⟨0,rfl,Nat.zero_le _,Touch.refl _ _,fun q hq h0=>absurd h0 (Nat.not_lt_zero _)⟩
    case round=>
     obtain⟨i,rfl,hi,HT,HA⟩:=hrel;have BB:=hdq (HF1.out wr HT.out);have hi0:(0:Int)<=(i:Int):=by omega
     by_cases hil:i<bases.length
     .have EM:(i:Int)<(bases.length:Int):=by omega
      have hargs:=HAR.out wr (BB.out.still 2 rfl);obtain⟨bw,ow,hba,hbw,hcc⟩:=aG.at (f:=MB.cells) (fun _=>rfl) hargs.1.1 i hil;have EI:=hdq (hargs.1.2 _ (List.getElem_mem hil));have HRC:=hdq hargs.2;have Fw:Hid (¬eD x.BI.length x.cos.length conds bases[i]->∀W,Touch [] w W->pR T w x th ba bases bc ca conds cc b0 b1 b2 b3 (.panicked (aX 2)) W):=fun h W hW=>HBAD.out (fun h2=>h (h2.2.2.2 _ (List.getElem_mem hil))) W (HF1.out W hW);have Fz:Hid (eD x.BI.length x.cos.length conds bases[i]->∀q (hq:q<bases.length),q<i+1->eD x.BI.length x.cos.length conds bases[q]):=fun h q hq hqi=>by
       by_cases hqe:q=i
       .subst hqe;exact h
       .exact HA.out q hq (by omega)
      have k0:=hcc 0 (by omega);have k1:=hcc 1 (by omega);have k2:=hcc 2 (by omega);have k3:=hcc 3 (by omega);have k4:=hcc 4 (by omega);have k5:=hcc 5 (by omega);have k6:=hcc 6 (by omega);generalize bases[i]=m at EI Fw Fz k0 k1 k2 k3 k4 k5 k6;have k0':wr.cell? ⟨bw,ow+i*7,none⟩=some (.int .i64 m.kind):=k0;have k1':wr.cell? ⟨bw,ow+i*7+1,none⟩=some (.int .i64 m.n):=k1;have k2':wr.cell? ⟨bw,ow+i*7+2,none⟩=some (.int .i64 m.v.kind):=k2;have k3':wr.cell? ⟨bw,ow+i*7+3,none⟩=some (.int .i64 m.v.num):=k3;have k4':wr.cell? ⟨bw,ow+i*7+4,none⟩=some (.slice m.v.addr m.v.parts.length m.v.cap):=k4;have k5':wr.cell? ⟨bw,ow+i*7+5,none⟩=some (.slice m.wa m.wraps.length m.wc):=k5;have k6':wr.cell? ⟨bw,ow+i*7+6,none⟩=some (.slice m.na m.aT.length m.nc):=k6;obtain⟨⟨p0,p1,p3,p2⟩,z0,z1,z3,z2⟩:=BD.fF (r:=[]) (by simpa only[List.append_nil]using BB.out);have FD:=hdq hba;rw[hba];clear hcc k0 k1 k2 k3 k4 k5 k6 hba hargs;go_wp2_with fail
      refine ah ?_;intro w2 hw2;have HT2:Hid (Touch [] wr w2):=hw2▸(Touch.refl [] wr).alloc _;have HL2:=hdq (BB.out.touch HT2.out);clear hw2 k0' k1' k2' k3' k4' k5' k6' hbw BB;clear p0 p1 p3 p2 z0 z1 z3 z2;obtain⟨_,w1',w2',w3'⟩:=HL2.out.Cb;refine(Nh m w2 x.wb x.a1 x.BI.length x.c1 x.a2 x.cos.length x.c2 w1' w2' (EI.out.aW HT2.out) ca cc conds (HRC.out.aW HT2.out) F7.out.2).mono ?_;rintro e w3 ⟨f,rfl,hf,ht⟩;have HT3:=hdq ((HT.out.trans' HT2.out).trans' ht);clear w1' w2' w3' HL2 ht HT2 EI HRC HT;cases f with
      |true=>
       have HJ2:=hdq (Fz.out (hf.1 rfl));clear hf Fz Fw HA;go_wp2_with fail
       refine(require_ok _ _).mono ?_;rintro e wq ⟨rfl,rfl⟩;dsimp only;go_wp2;go_roundw
       case rel=>exact⟨i+1,by go_num,by omega,HT3,HJ2⟩
       case measure=>simp[intOf];omega
      |false=>
       have he:=Fw.out (fun h=>by have :=hf.2 h;simp at this) w3 HT3.out;rw[FD.out]at he;have HE:=hdq he;clear he;clear hf Fz Fw HA;go_wp2_with fail
       refine(aY _ _).mono ?_;rintro e wq ⟨rfl,rfl⟩;dsimp only;exact⟨rfl,HE.out⟩
     .have EM:¬(i:Int)<(bases.length:Int):=by omega
      have EC:Hid (ou x th bases conds):=⟨HTH.out,F7.out,HLB.out,fun b hb=>by
       obtain⟨q,hq,rfl⟩:=List.getElem_of_mem hb;exact HA.out q hq (by omega)⟩
      clear HA HBAD HTH HLB HF1;obtain⟨⟨p0,p1,p3,p2⟩,z0,z1,z3,z2⟩:=BD.fF (r:=[]) (by simpa only[List.append_nil]using BB.out);obtain⟨w0',w1',w2',w3'⟩:=BB.out.Cb;have zw:=BB.out.Cb.lt;clear w1' w2' w3';by_cases hroom:x.s.C.length+1<=x.s.most
      .have hal:x.s.au 1=((x.s.au 1).1,x.s.C.length,0):=by unfold Ar.au;rw[if_neg (by omega),if_neg (by omega)]
       have HFN:=hdq (BB.out.OH 1 (g:=x.ga) (s:=x.s) rfl _ _ _ hal);have HRM:=hdq hroom;clear hroom hal;go_wp2_with fail
       refine HFN.out.mono ?_;rintro e w2 ⟨rfl,hL⟩;have HL2:Hid (BD T w w2 (({x with s:=(x.s.au 1).1}:WS).ts++fF x th ba bases.length bc ca conds.length cc b0 b1 b2 b3)):=hL;clear hL HFN BB w0' zw;clear p0 p1 p3 p2 z0 z1 z3 z2;obtain⟨⟨p0,p1,p3,p2⟩,z0,z1,z3,z2⟩:=BD.fF (r:=[]) (by simpa only[List.append_nil]using HL2.out);go_wp2_with fail
       refine(yg _ _).mono ?_;rintro e w' ⟨rfl,rfl⟩;dsimp only;obtain⟨m0,hm0⟩:∃m0:MS,m0=⟨th,ba,bc,bases,ca,cc,conds,(x.s.C.length:Int),false,false,0,MT.zero,0⟩:=⟨_,rfl⟩;have HPL0:Hid (m0.plain=(th,bases.map MB.plain,conds,(x.s.C.length:Int),false,false,0,MT.zero.plain,0)):=by subst hm0;rfl
       have HCS:Hid (∀W,Touch [] w2 W->Calls Tryz.prog 56 #[.agg #[.int .i64 th,.slice ba bases.length bc,.slice ca conds.length cc,.int .i64 (x.s.C.length:Int),.bool false,.bool false,.int .i64 0,.int .i64 0,.int .i64 0,.slice none 0 0,.int .i64 0]] W (wE m0 W)):=fun W hW=>by
        have hin:=beg_in (HAR.out W ((HL2.out.touch hW).still 2 rfl)) EC.out (bc:=bc) (cc:=cc) (x.s.C.length:Int);subst hm0;exact xw _ W hin
       clear hm0;have hbs:∀W,(Instr.build 61 #[(0,.int .i64 th),(1,.slice ba bases.length bc),(2,.slice ca conds.length cc),(3,.int .i64 (x.s.C.length:Int))]).run Tryz.prog W= .ok (.agg #[.int .i64 th,.slice ba bases.length bc,.slice ca conds.length cc,.int .i64 (x.s.C.length:Int),.bool false,.bool false,.int .i64 0,.int .i64 0,.int .i64 0,.slice none 0 0,.int .i64 0]) W:=fun W=>run_build W 61 _ _ (by kernel_rfl);have w0':w2.cell? ⟨x.wb,0,none⟩=some (.pointer (some ⟨x.ga,0,none⟩)):=HL2.out.Cb.1;have w3':w2.cell? ⟨x.wb,3,none⟩=some (.slice x.a3 x.sys.length x.c3):=HL2.out.Cb.2.2.2;have zw:x.wb<w2.heap.size:=HL2.out.Cb.lt;have BZ:=hdq (Touch.refl [] w2).drew;obtain⟨i0,hi0',CY,CU,CX⟩:=info_parts mE;go_wp2_with fail
       refine hrq (S:=fun w'=>w'.cell? ⟨b0,0,none⟩=some (.pointer (some ⟨x.wb,0,none⟩))/\w'.cell? ⟨b1,0,none⟩=some (.int .i64 th)/\w'.cell? ⟨b3,0,none⟩=some (.slice ba bases.length bc)/\w'.cell? ⟨b2,0,none⟩=some (.slice ca conds.length cc)) fun hHeld=>?_;refine tkq 0 45 ?_;refine tkq 1 46 ?_;refine tkq 2 47 ?_;refine tkq 3 48 ?_;refine tkq 5 50 ?_;refine tkq 6 51 ?_;refine tkq 7 52 ?_;refine tkq 8 53 ?_;refine tkq 9 54 ?_;refine wpAnyH_ready (rs:=[4,10]) (by kernel_rfl) (by simp) ?_;refine AllReadyH.cons rfl (fun K hK=>?_) (AllReadyH.cons rfl (fun K hK=>?_) AllReadyH.nil)
       .clear hHeld
        go_simp;refine kpq hK.out fun hHeld=>?_;clear hK K;refine rdq 10 rfl fun K hK=>?_;go_simp;refine(HCS.out _ BZ.out).mono ?_;rintro en w3 ⟨s',rfl,hp,hL⟩;have BF:Hid (BD T w w3 ((WS.knows {x with s:=(x.s.au 1).1} (fun W=>s'.In W)).ts++fF x th ba bases.length bc ca conds.length cc b0 b1 b2 b3)):=HL2.out.drew.uM hL;have HP3:=hdq (hp.trans HPL0.out);clear hp hL HCS BZ HL2 w0' w3' zw;(try clear hHeld)
        clear p0 p1 p3 p2 z0 z1 z3 z2;obtain⟨⟨p0,p1,p3,p2⟩,z0,z1,z3,z2⟩:=BD.fF (r:=[]) (by simpa only[List.append_nil]using BF.out);have w0':w3.cell? ⟨x.wb,0,none⟩=some (.pointer (some ⟨x.ga,0,none⟩)):=BF.out.Cb.1;have w3':w3.cell? ⟨x.wb,3,none⟩=some (.slice x.a3 x.sys.length x.c3):=BF.out.Cb.2.2.2;have zw:x.wb<w3.heap.size:=BF.out.Cb.lt;simp only[MS.val];go_simp;refine kpq hK.out fun hHeld=>?_;clear hK K;refine rdq 11 rfl fun K hK=>?_;go_simp;clear hHeld;go_simp;refine kpq hK.out fun hHeld=>?_;clear hK K;have BH:=hdq (BF.out.alloc 61 #[.int .i64 s'.thread,.slice s'.ba s'.bases.length s'.bc,.slice s'.ca s'.conds.length s'.cc,.int .i64 s'.flag,.bool s'.parked,.bool s'.done,.int .i64 s'.branch,.int .i64 s'.v.kind,.int .i64 s'.v.num,.slice s'.v.addr s'.v.parts.length s'.v.cap,.int .i64 s'.partner]);refine rdq 12 rfl fun K hK=>?_;refine aD _ (by rfl) (.tmp 49) (.tmp 56) 36 (by rfl) 61 i0 _ 11 128 Tryz.underlying36 hi0' CY CU CX rfl (by decide) (.slice x.a3 x.sys.length x.c3) x.sys.length (aU x.sys) (by rfl) (BH.out.aZ 5 rfl) (some ⟨w3.heap.size,0,none⟩) 1 1 s'.cells (by rfl) rfl (.inr ⟨_,rfl,World.news_of_block (heap_alloc_new w3 _)⟩) (lT s') (by simp only[maxLen];omega) (by omega) ?_;intro aa cap w5 hown hgrow hat;have Ca:=hdq (BH.out.bG 5 rfl hgrow hown hat);clear hown hgrow hat BH BF;(try clear hHeld)
        clear p0 p1 p3 p2 z0 z1 z3 z2;clear w0' w3' zw;have Db:Hid (BD T w w5 (((WS.knows {x with s:=(x.s.au 1).1} (fun W=>s'.In W)).kH (.slice x.a3 x.sys.length x.c3) (.slice aa (x.sys.length+1) cap) (x.sys.length+1) (aU x.sys++s'.cells)++(x.BI.flatMap Ce.ts++x.cos.flatMap Ch.ts))++(fF x th ba bases.length bc ca conds.length cc b0 b1 b2 b3++[box w3.heap.size 61 #[.int .i64 s'.thread,.slice s'.ba s'.bases.length s'.bc,.slice s'.ca s'.conds.length s'.cc,.int .i64 s'.flag,.bool s'.parked,.bool s'.done,.int .i64 s'.branch,.int .i64 s'.v.kind,.int .i64 s'.v.num,.slice s'.v.addr s'.v.parts.length s'.v.cap,.int .i64 s'.partner]]))):=by
         exact hdq (by simpa[WS.ts,WS.head,WS.kH,WS.knows]using Ca.out)
        clear Ca;obtain⟨⟨p0,p1,p3,p2⟩,z0,z1,z3,z2⟩:=BD.fF Db.out;obtain⟨w0',w1',w2',w3',GU,GX,f2',f3',zw,_,_⟩:=Db.out.c4 0 rfl;have v3:w5.cell? ⟨x.wb,3,none⟩=some (.slice x.a3 x.sys.length x.c3):=w3';have vf3:w5.frozen? ⟨x.wb,3,none⟩=false:=f3';have vz:x.wb<w5.heap.size:=zw;refine kpq hK.out fun hHeld=>?_;clear hK K;refine tkq 13 58 ?_;refine tkq 14 59 ?_;have C8:Hid (BD T w (w5.setCell ⟨x.wb,3,none⟩ (.slice aa (x.sys.length+1) cap)) (((WS.knows {x with s:=(x.s.au 1).1} (fun W=>s'.In W)).kH (.slice aa (x.sys.length+1) cap) (.slice aa (x.sys.length+1) cap) (x.sys.length+1) (aU x.sys++s'.cells)++(x.BI.flatMap Ce.ts++x.cos.flatMap Ch.ts))++(fF x th ba bases.length bc ca conds.length cc b0 b1 b2 b3++[box w3.heap.size 61 #[.int .i64 s'.thread,.slice s'.ba s'.bases.length s'.bc,.slice s'.ca s'.conds.length s'.cc,.int .i64 s'.flag,.bool s'.parked,.bool s'.done,.int .i64 s'.branch,.int .i64 s'.v.kind,.int .i64 s'.v.num,.slice s'.v.addr s'.v.parts.length s'.v.cap,.int .i64 s'.partner]]))):=Db.out.set 0 rfl 3 (.slice aa (x.sys.length+1) cap);obtain⟨⟨y0,y1,y3,y2⟩,_⟩:=BD.fF C8.out;refine rdq 15 rfl fun K hK=>?_;go_simp;refine hK.out _ _ ⟨y0,y1,y3,y2⟩ (fun hHeld=>?_);clear hK K y0 y1 y3 y2;(try simp only[Act.put,sAq,sZq,sSq])
        refine dnq ?_;refine ax (Q:=Exit.then _ _) ?_;intro w6 LM;have EX:=hdq (C8.out.toW (by with_reducible exact LM));clear v3 vf3 vz;clear LM C8 Db GU GX f2' f3' w0' w1' w2' w3' zw;(try clear hHeld)
        clear p0 p1 p3 p2 z0 z1 z3 z2;obtain⟨⟨p0,p1,p3,p2⟩,z0,z1,z3,z2⟩:=BD.fF EX.out;obtain⟨w0',w1',w2',w3',GU,GX,f2',f3',zw,_,_⟩:=EX.out.c4 0 rfl;have v3:w6.cell? ⟨x.wb,3,none⟩=some (.slice aa (x.sys.length+1) cap):=w3';have vz:x.wb<w6.heap.size:=zw;go_wp2;go_ret
        refine⟨(x.sys.length:Int),0,_,.inr (.inr ⟨EC.out,HRM.out,rfl,rfl,s',aa,cap,HP3.out,rfl⟩),.inl ⟨rfl,?_⟩,?_⟩
        .have hw:wrap64 (x.sys.length:Int)=(x.sys.length:Int):=by unfold wrap64;omega
         simp[hw]
        .have h:=EX.out
         rw[<-List.append_assoc]at h;have h2:=h.aF;have e:aU (x.sys++[s'.raw])=aU x.sys++s'.cells:=by simp[aU,MS.raw,bL.cells,MS.cells]
         simpa[WS.uY,WS.ts,WS.head,WS.kH,WS.knows,e]using h2
       .go_simp
        refine(HCS.out _ BZ.out).mono ?_;rintro en w3 ⟨s',rfl,hp,hL⟩;have BF:Hid (BD T w w3 ((WS.knows {x with s:=(x.s.au 1).1} (fun W=>s'.In W)).ts++fF x th ba bases.length bc ca conds.length cc b0 b1 b2 b3)):=HL2.out.drew.uM hL;have HP3:=hdq (hp.trans HPL0.out);clear hp hL HCS BZ HL2 w0' w3' zw;(try clear hHeld)
        clear p0 p1 p3 p2 z0 z1 z3 z2;obtain⟨⟨p0,p1,p3,p2⟩,z0,z1,z3,z2⟩:=BD.fF (r:=[]) (by simpa only[List.append_nil]using BF.out);have w0':w3.cell? ⟨x.wb,0,none⟩=some (.pointer (some ⟨x.ga,0,none⟩)):=BF.out.Cb.1;have w3':w3.cell? ⟨x.wb,3,none⟩=some (.slice x.a3 x.sys.length x.c3):=BF.out.Cb.2.2.2;have zw:x.wb<w3.heap.size:=BF.out.Cb.lt;simp only[MS.val];go_simp;refine kpq hK.out fun hHeld=>?_;clear hK K;refine wpAnyH_ready (rs:=[4,11]) (by kernel_rfl) (by simp) ?_;refine AllReadyH.cons rfl (fun K hK=>?_) (AllReadyH.cons rfl (fun K hK=>?_) AllReadyH.nil)
        .clear hHeld
         go_simp;refine kpq hK.out fun hHeld=>?_;clear hK K;refine rdq 11 rfl fun K hK=>?_;go_simp;clear hHeld;go_simp;refine kpq hK.out fun hHeld=>?_;clear hK K;have BH:=hdq (BF.out.alloc 61 #[.int .i64 s'.thread,.slice s'.ba s'.bases.length s'.bc,.slice s'.ca s'.conds.length s'.cc,.int .i64 s'.flag,.bool s'.parked,.bool s'.done,.int .i64 s'.branch,.int .i64 s'.v.kind,.int .i64 s'.v.num,.slice s'.v.addr s'.v.parts.length s'.v.cap,.int .i64 s'.partner]);refine rdq 12 rfl fun K hK=>?_;refine aD _ (by rfl) (.tmp 49) (.tmp 56) 36 (by rfl) 61 i0 _ 11 128 Tryz.underlying36 hi0' CY CU CX rfl (by decide) (.slice x.a3 x.sys.length x.c3) x.sys.length (aU x.sys) (by rfl) (BH.out.aZ 5 rfl) (some ⟨w3.heap.size,0,none⟩) 1 1 s'.cells (by rfl) rfl (.inr ⟨_,rfl,World.news_of_block (heap_alloc_new w3 _)⟩) (lT s') (by simp only[maxLen];omega) (by omega) ?_;intro aa cap w5 hown hgrow hat;have Ca:=hdq (BH.out.bG 5 rfl hgrow hown hat);clear hown hgrow hat BH BF;(try clear hHeld)
         clear p0 p1 p3 p2 z0 z1 z3 z2;clear w0' w3' zw;have Db:Hid (BD T w w5 (((WS.knows {x with s:=(x.s.au 1).1} (fun W=>s'.In W)).kH (.slice x.a3 x.sys.length x.c3) (.slice aa (x.sys.length+1) cap) (x.sys.length+1) (aU x.sys++s'.cells)++(x.BI.flatMap Ce.ts++x.cos.flatMap Ch.ts))++(fF x th ba bases.length bc ca conds.length cc b0 b1 b2 b3++[box w3.heap.size 61 #[.int .i64 s'.thread,.slice s'.ba s'.bases.length s'.bc,.slice s'.ca s'.conds.length s'.cc,.int .i64 s'.flag,.bool s'.parked,.bool s'.done,.int .i64 s'.branch,.int .i64 s'.v.kind,.int .i64 s'.v.num,.slice s'.v.addr s'.v.parts.length s'.v.cap,.int .i64 s'.partner]]))):=by
          exact hdq (by simpa[WS.ts,WS.head,WS.kH,WS.knows]using Ca.out)
         clear Ca;obtain⟨⟨p0,p1,p3,p2⟩,z0,z1,z3,z2⟩:=BD.fF Db.out;obtain⟨w0',w1',w2',w3',GU,GX,f2',f3',zw,_,_⟩:=Db.out.c4 0 rfl;have v3:w5.cell? ⟨x.wb,3,none⟩=some (.slice x.a3 x.sys.length x.c3):=w3';have vf3:w5.frozen? ⟨x.wb,3,none⟩=false:=f3';have vz:x.wb<w5.heap.size:=zw;refine kpq hK.out fun hHeld=>?_;clear hK K;refine tkq 13 58 ?_;refine tkq 14 59 ?_;have C8:Hid (BD T w (w5.setCell ⟨x.wb,3,none⟩ (.slice aa (x.sys.length+1) cap)) (((WS.knows {x with s:=(x.s.au 1).1} (fun W=>s'.In W)).kH (.slice aa (x.sys.length+1) cap) (.slice aa (x.sys.length+1) cap) (x.sys.length+1) (aU x.sys++s'.cells)++(x.BI.flatMap Ce.ts++x.cos.flatMap Ch.ts))++(fF x th ba bases.length bc ca conds.length cc b0 b1 b2 b3++[box w3.heap.size 61 #[.int .i64 s'.thread,.slice s'.ba s'.bases.length s'.bc,.slice s'.ca s'.conds.length s'.cc,.int .i64 s'.flag,.bool s'.parked,.bool s'.done,.int .i64 s'.branch,.int .i64 s'.v.kind,.int .i64 s'.v.num,.slice s'.v.addr s'.v.parts.length s'.v.cap,.int .i64 s'.partner]]))):=Db.out.set 0 rfl 3 (.slice aa (x.sys.length+1) cap);obtain⟨⟨y0,y1,y3,y2⟩,_⟩:=BD.fF C8.out;refine rdq 15 rfl fun K hK=>?_;go_simp;refine hK.out _ _ ⟨y0,y1,y3,y2⟩ (fun hHeld=>?_);clear hK K y0 y1 y3 y2;(try simp only[Act.put,sAq,sZq,sSq])
         refine dnq ?_;refine ax (Q:=Exit.then _ _) ?_;intro w6 LM;have EX:=hdq (C8.out.toW (by with_reducible exact LM));clear v3 vf3 vz;clear LM C8 Db GU GX f2' f3' w0' w1' w2' w3' zw;(try clear hHeld)
         clear p0 p1 p3 p2 z0 z1 z3 z2;obtain⟨⟨p0,p1,p3,p2⟩,z0,z1,z3,z2⟩:=BD.fF EX.out;obtain⟨w0',w1',w2',w3',GU,GX,f2',f3',zw,_,_⟩:=EX.out.c4 0 rfl;have v3:w6.cell? ⟨x.wb,3,none⟩=some (.slice aa (x.sys.length+1) cap):=w3';have vz:x.wb<w6.heap.size:=zw;go_wp2;go_ret
         refine⟨(x.sys.length:Int),0,_,.inr (.inr ⟨EC.out,HRM.out,rfl,rfl,s',aa,cap,HP3.out,rfl⟩),.inl ⟨rfl,?_⟩,?_⟩
         .have hw:wrap64 (x.sys.length:Int)=(x.sys.length:Int):=by unfold wrap64;omega
          simp[hw]
         .have h:=EX.out
          rw[<-List.append_assoc]at h;have h2:=h.aF;have e:aU (x.sys++[s'.raw])=aU x.sys++s'.cells:=by simp[aU,MS.raw,bL.cells,MS.cells]
          simpa[WS.uY,WS.ts,WS.head,WS.kH,WS.knows,e]using h2
        .clear hHeld
         go_simp;refine kpq hK.out fun hHeld=>?_;clear hK K;refine rdq 4 rfl fun K hK=>?_;go_simp;clear hHeld;go_simp;refine kpq hK.out fun hHeld=>?_;clear hK K;have BH:=hdq (BF.out.alloc 61 #[.int .i64 s'.thread,.slice s'.ba s'.bases.length s'.bc,.slice s'.ca s'.conds.length s'.cc,.int .i64 s'.flag,.bool s'.parked,.bool s'.done,.int .i64 s'.branch,.int .i64 s'.v.kind,.int .i64 s'.v.num,.slice s'.v.addr s'.v.parts.length s'.v.cap,.int .i64 s'.partner]);refine rdq 12 rfl fun K hK=>?_;refine aD _ (by rfl) (.tmp 49) (.tmp 56) 36 (by rfl) 61 i0 _ 11 128 Tryz.underlying36 hi0' CY CU CX rfl (by decide) (.slice x.a3 x.sys.length x.c3) x.sys.length (aU x.sys) (by rfl) (BH.out.aZ 5 rfl) (some ⟨w3.heap.size,0,none⟩) 1 1 s'.cells (by rfl) rfl (.inr ⟨_,rfl,World.news_of_block (heap_alloc_new w3 _)⟩) (lT s') (by simp only[maxLen];omega) (by omega) ?_;intro aa cap w5 hown hgrow hat;have Ca:=hdq (BH.out.bG 5 rfl hgrow hown hat);clear hown hgrow hat BH BF;(try clear hHeld)
         clear p0 p1 p3 p2 z0 z1 z3 z2;clear w0' w3' zw;have Db:Hid (BD T w w5 (((WS.knows {x with s:=(x.s.au 1).1} (fun W=>s'.In W)).kH (.slice x.a3 x.sys.length x.c3) (.slice aa (x.sys.length+1) cap) (x.sys.length+1) (aU x.sys++s'.cells)++(x.BI.flatMap Ce.ts++x.cos.flatMap Ch.ts))++(fF x th ba bases.length bc ca conds.length cc b0 b1 b2 b3++[box w3.heap.size 61 #[.int .i64 s'.thread,.slice s'.ba s'.bases.length s'.bc,.slice s'.ca s'.conds.length s'.cc,.int .i64 s'.flag,.bool s'.parked,.bool s'.done,.int .i64 s'.branch,.int .i64 s'.v.kind,.int .i64 s'.v.num,.slice s'.v.addr s'.v.parts.length s'.v.cap,.int .i64 s'.partner]]))):=by
          exact hdq (by simpa[WS.ts,WS.head,WS.kH,WS.knows]using Ca.out)
         clear Ca;obtain⟨⟨p0,p1,p3,p2⟩,z0,z1,z3,z2⟩:=BD.fF Db.out;obtain⟨w0',w1',w2',w3',GU,GX,f2',f3',zw,_,_⟩:=Db.out.c4 0 rfl;have v3:w5.cell? ⟨x.wb,3,none⟩=some (.slice x.a3 x.sys.length x.c3):=w3';have vf3:w5.frozen? ⟨x.wb,3,none⟩=false:=f3';have vz:x.wb<w5.heap.size:=zw;refine kpq hK.out fun hHeld=>?_;clear hK K;refine tkq 13 58 ?_;refine tkq 14 59 ?_;have C8:Hid (BD T w (w5.setCell ⟨x.wb,3,none⟩ (.slice aa (x.sys.length+1) cap)) (((WS.knows {x with s:=(x.s.au 1).1} (fun W=>s'.In W)).kH (.slice aa (x.sys.length+1) cap) (.slice aa (x.sys.length+1) cap) (x.sys.length+1) (aU x.sys++s'.cells)++(x.BI.flatMap Ce.ts++x.cos.flatMap Ch.ts))++(fF x th ba bases.length bc ca conds.length cc b0 b1 b2 b3++[box w3.heap.size 61 #[.int .i64 s'.thread,.slice s'.ba s'.bases.length s'.bc,.slice s'.ca s'.conds.length s'.cc,.int .i64 s'.flag,.bool s'.parked,.bool s'.done,.int .i64 s'.branch,.int .i64 s'.v.kind,.int .i64 s'.v.num,.slice s'.v.addr s'.v.parts.length s'.v.cap,.int .i64 s'.partner]]))):=Db.out.set 0 rfl 3 (.slice aa (x.sys.length+1) cap);obtain⟨⟨y0,y1,y3,y2⟩,_⟩:=BD.fF C8.out;refine rdq 15 rfl fun K hK=>?_;go_simp;refine hK.out _ _ ⟨y0,y1,y3,y2⟩ (fun hHeld=>?_);clear hK K y0 y1 y3 y2;(try simp only[Act.put,sAq,sZq,sSq])
         refine dnq ?_;refine ax (Q:=Exit.then _ _) ?_;intro w6 LM;have EX:=hdq (C8.out.toW (by with_reducible exact LM));clear v3 vf3 vz;clear LM C8 Db GU GX f2' f3' w0' w1' w2' w3' zw;(try clear hHeld)
         clear p0 p1 p3 p2 z0 z1 z3 z2;obtain⟨⟨p0,p1,p3,p2⟩,z0,z1,z3,z2⟩:=BD.fF EX.out;obtain⟨w0',w1',w2',w3',GU,GX,f2',f3',zw,_,_⟩:=EX.out.c4 0 rfl;have v3:w6.cell? ⟨x.wb,3,none⟩=some (.slice aa (x.sys.length+1) cap):=w3';have vz:x.wb<w6.heap.size:=zw;go_wp2;go_ret
         refine⟨(x.sys.length:Int),0,_,.inr (.inr ⟨EC.out,HRM.out,rfl,rfl,s',aa,cap,HP3.out,rfl⟩),.inl ⟨rfl,?_⟩,?_⟩
         .have hw:wrap64 (x.sys.length:Int)=(x.sys.length:Int):=by unfold wrap64;omega
          simp[hw]
         .have h:=EX.out
          rw[<-List.append_assoc]at h;have h2:=h.aF;have e:aU (x.sys++[s'.raw])=aU x.sys++s'.cells:=by simp[aU,MS.raw,bL.cells,MS.cells]
          simpa[WS.uY,WS.ts,WS.head,WS.kH,WS.knows,e]using h2
      .have hal:x.s.au 1=(x.s,0,6):=by unfold Ar.au;rw[if_neg (by omega),if_pos (by omega)]
       have HFN:=hdq (BB.out.OH 1 (g:=x.ga) (s:=x.s) rfl _ _ _ hal);have HRM:=hdq hroom;clear hroom hal;go_wp2_with fail
       refine HFN.out.mono ?_;rintro e w2 ⟨rfl,hL⟩;have HE:Hid (pR T w x th ba bases bc ca conds cc b0 b1 b2 b3 (.panicked (aX 6)) w2):=⟨0,6,x,.inr (.inl ⟨EC.out,HRM.out,rfl,rfl,rfl⟩),.inr ⟨rfl,rfl⟩,hL⟩;clear hL HFN BB w0' zw;clear p0 p1 p3 p2 z0 z1 z3 z2;go_wp2_with fail
       refine(vK _ _ 6 (by decide)).mono ?_;rintro e w' ⟨rfl,rfl⟩;dsimp only;exact⟨rfl,HE.out⟩
   .have HE:=hdq (HBAD.out (fun h=>hlb h.2.2.1) w BG.out)
    have g1:decide ((bases.length:Int)<=32)=false:=decide_eq_false (by omega);go_wp2_with fail
    (try rw[g1])
    refine(aY _ _).mono ?_;rintro e wq ⟨rfl,rfl⟩;dsimp only;exact⟨rfl,HE.out⟩
 .have HE:=hdq (HBAD.out (fun h=>hth h.1) w BG.out)
  have hd1:decide (0<=th)=false:=decide_eq_false hth;go_wp2_with fail
  (try rw[hd1])
  refine(aY _ _).mono ?_;rintro e wq ⟨rfl,rfl⟩;dsimp only;exact⟨rfl,HE.out⟩
theorem uo(T:List Nat)(w:World)(x:WS)(th:Int)(ba:Option Addr)(bases:List MB)(bc:Nat)(ca:Option Addr)(conds:List Int)(cc:Nat)(h:BD T w w x.ts)(ha:∀W,x.P W->iJ W ba bases ca conds)(hl3:x.sys.length<=100000):
  Calls Tryz.prog 23 #[.pointer (some ⟨x.wb,0,none⟩),.int .i64 th,.slice ba bases.length bc,.slice ca conds.length cc] w fun e w'=>∃(v er:Int) (x':WS),e= .returned (.tuple #[.int .i64 v,.int .i64 er])/\mq x th bases conds v er x'/\BD T w w' x'.ts:=by
 have Ep:= @mfq;have BG:=hdq h;clear h;go_enter Tryz.func23,Tryz.ntmps23
 go_wp2_with fail
 refine ah ?_;intro w1 hw1;have BB:=hdq (((((BG.out.alloc 25 #[.pointer (some ⟨x.wb,0,none⟩)]).alloc 3 #[.int .i64 th]).alloc 48 #[.slice ba bases.length bc]).alloc 49 #[.slice ca conds.length cc]).toW hw1);simp only[World.size_alloc,List.append_assoc,cAq,nAq]at BB;generalize hb2:w.heap.size+1+1+1=b2 at BB|-;generalize hb3:w.heap.size+1+1=b3 at BB|-;generalize hb1:w.heap.size+1=b1 at BB|-;generalize hb0:w.heap.size=b0 at BB|-;clear hw1 hb2 hb3 hb1 hb0 BG;refine(lH T w w1 _ _ _ (fun v er l'=>∃x',mq x th bases conds v er x'/\l'=x'.ts++fF x th ba bases.length bc ca conds.length cc b0 b1 b2 b3) BB.out (enters_of Tryz.func86 (by kernel_rfl) rfl) (fun T' W hW=>?_)).mono ?_
 .refine(IU T' W x th ba bases bc ca conds cc b0 b1 b2 b3 hW ha hl3).mono ?_
  rintro e w' ⟨v,er,x',hx,he,hL⟩;exact⟨v,er,_,he,⟨x',hx,rfl⟩,hL⟩
 rintro e w' ⟨v,er,l',rfl,⟨x',hx,rfl⟩,hL⟩;have HL2:=hdq hL.aF;have HX:=hdq hx;clear hL BB hx;dsimp only;go_wp2;go_ret2
 exact⟨v,er,x',rfl,HX.out,HL2.out⟩
end Go.Proofs.YtddnnapoaonmjaaGreatDoor
