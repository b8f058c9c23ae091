/-
  Texts of FirePlays, laid together by program.
-/
import Derived.Test.YtegejdlglonflaaGreatDoorWZ24
namespace Go.Proofs.YtegejdlglonflaaGreatDoor
open Go.RowKit Go.Shelf Go.Proofs.Tryz
set_option maxRecDepth 100000
set_option maxHeartbeats 8000000
set_option linter.unusedVariables false
set_option linter.unusedSimpArgs false
theorem BD.qj{β:Type}{T:List Nat}{w0 w:World}{m:List ai}{e size n:Nat}{v:Value}{xs:List Value}(p:β->World->Prop)(ys:List β)(h:BD T w0 w (m++(aS e size v n xs::ys.flatMap fun y=>[aA (p y)]))):
  BD T w0 w (m++[aA fun W=>dZ W e size v n xs/\∀y∈ys,p y W]):=by
 have h1:=h.jh m.length (P:=fun W=>dZ W e size v n xs) (t:=aS e size v n xs) (by simp) (fun W f hf=>hf.2);have h2:BD T w0 w ((m++[aA fun W=>dZ W e size v n xs])++ys.flatMap fun y=>[aA (p y)]):=by simpa using h1
 have h3:=BD.lZ (P:=fun W=>dZ W e size v n xs) p m.length ys (by simp) h2;simpa using h3
theorem kr(t:MT)(w:World)(h:t.In w)(hn:t.nodes<=256):Calls prog 89 #[t.val] w fun e w'=>∃t':MT,e= .returned t'.val/\t'.plain=t.plain/\BD [] w w' [aA fun W=>t'.In W/\t'.nodes<=256]:=by
 refine(qG t w h hn).mono ?_;rintro e w' ⟨t',rfl,hp,hin,hnew,ht⟩;have h1:=(BD.nil' w).gH (vs:=[t']) ht (by simpa using hin) (by simpa using hnew);refine⟨t',rfl,hp,?_⟩;have hno:t'.nodes<=256:=by rw[<-MT.cu,hp,MT.cu];exact hn
 exact h1.jh 0 rfl (fun W f hf=>⟨hf.2 t' (by simp),hno⟩)
theorem A7:(prog.info? 3).map (fun i=>(i.zero,i.size,i.bytes))=some (some (.int .i64 0),1,8):=by kernel_rfl
theorem I4(l:List Int):∀u∈l.flatMap fq,u.oneCell'=true:=by
 intro u hu;obtain⟨t,_,hu⟩:=List.mem_flatMap.1 hu;simp[fq]at hu
 subst hu;rfl
theorem aG.src{w:World}{a:Option Addr}{l:List Int}(h:aG w a 1 l.length (l.flatMap fq)):l.length=0\/∃ad,a=some ad/\∀j u,(l.flatMap fq)[j]? =some u->w.cell? (ad.add j)=some u:=by
 by_cases hl:l.length=0
 .exact .inl hl
 .obtain⟨b,o,rfl,_,_⟩:=h.2 0 (by omega)
  refine .inr ⟨_,rfl,fun j u hu=>?_⟩;have hlen:=rW fq 1 (fun _=>rfl) l;obtain⟨hj,_⟩:=List.getElem?_eq_some_iff.1 hu;obtain⟨b',o',he,_,hc⟩:=h.2 j (by omega);injection he with he
  injection he with h1 h2
  subst h1 h2;have :=hc 0 Nat.one_pos;rw[Nat.mul_one,Nat.add_zero,Nat.add_zero,hu]at this;rw[Addr.add_lit,<-this]
theorem rU(w:World)(a:Option Addr)(cap:Nat)(l:List Int)(h:aG w a 1 l.length (l.flatMap fq)):Calls prog 162 #[.slice a l.length cap] w fun e w'=>∃a' cap',e= .returned (.slice a' l.length cap')/\BD [] w w' [aA fun W=>aG W a' 1 l.length (l.flatMap fq)]:=by
 obtain⟨i0,hi0,CY,CU,CX⟩:=info_parts A7;have H:=hdq h;clear h;cases a with
 |none=>
  have hl:l.length=0:=by
   by_cases h0:l.length=0
   .exact h0
   .obtain⟨b,o,ha,_⟩:=H.o.2 0 (by omega)
    cases ha
  obtain rfl:=List.eq_nil_of_length_eq_zero hl;have hq:∀W n c,(binOp .eql 54 (.slice none n c) (.slice none 0 0)).run prog W= .ok (.bool true) W:=fun W n c=>by kernel_rfl
  go_enter func162,ntmps162
  go_wp2;go_ret
  exact⟨none,0,rfl,((BD.nil' w).gK 3 1).jh 0 rfl (fun W f hf=>gX _ _ _ _)⟩
 |some a=>
  have hne:∀W n c,(binOp .eql 54 (.slice (some a) n c) (.slice none 0 0)).run prog W= .ok (.bool false) W:=fun W n c=>by kernel_rfl
  have hb:∀W,(Instr.buildSlice 54 0 #[]).run prog W= .ok (.slice (some ⟨W.heap.size,0,none⟩) 0 0) (W.alloc (.cells #[] 3)):=fun W=>by kernel_rfl
  have hlen:=rW fq 1 (fun _=>rfl) l;have hl6:=H.o.1;go_enter func162,ntmps162
  have BB:=hdq (BD.empty (BD.nil' w) 3 1);go_wp2_with (at_builtin;go_must (refine cB _ rfl (.tmp 5) (.tmp 6) 54 rfl 3 i0 _ 1 8 underlying54 hi0 CY CU CX rfl (by decide) (.slice (some ⟨w.heap.size,0,none⟩) 0 0) 0 [] rfl (BB.o.aZ 0 rfl) (some a) l.length cap (l.flatMap fq) rfl hlen (H.o.aW ((Touch.refl [] w).alloc _)).src (I4 l) (by simp only[maxLen];omega) (by omega) ?_);intro a5 c5 w5 hown hgrow hat;refine Hid.o ?_)
  have HL2:=hdq (BB.o.bG 0 rfl hgrow hown hat);clear hown hgrow hat BB;refine hdq ?_;go_wp2;go_ret
  rw[Nat.zero_add]at HL2;refine⟨a5,c5,rfl,HL2.o.jh 0 rfl (fun W f hf=>?_)⟩;have h:=hf.2;simp only[nAq]at h;exact iY h hl6
def M7(c:MC)(w:World)(e:Ending)(w':World):Prop:=∃c':MC,e= .returned c'.val/\c'.plain=c.plain/\BD [] w w' [aA fun W=>c'.In W]
theorem call_c(c:MC)(w:World)(h:c.In w):Calls prog 244 #[c.val] w (M7 c w):=by
 have H:=hdq h;clear h;obtain⟨fn,a,cap,args⟩:=c;simp only[MC.val];have hbc:∀W a n c,(Instr.build 306 #[(0,.int .i64 fn),(1,.slice a n c)]).run prog W= .ok (.agg #[fn,.slice a n c]) W:=fun W a n c=>run_build W 306 _ _ (by kernel_rfl);go_enter func244,ntmps244
 go_wp2_with fail
 refine ay ?_;intro w1 hw1;have BB:=hdq ((BD.nil' w).DZ hw1);simp only[nAq]at BB;generalize hb2:w.heap.size+1=b2 at BB|-;generalize hb1:w.heap.size=b1 at BB|-;clear hw1 hb2 hb1;have Ed:=hdq (H.o.aW BB.o.BN);obtain⟨p0,p1,_,_,zp,_,_⟩:=BB.o.c2 0 rfl;have HC:Hid (∀W,Touch [] w1 W->Calls prog 245 #[.slice a args.length cap,.func (.func 89) #[] #[]] W (gG [] W [] 58 3 MT.cells (fun y=>[aA fun W=>y.In W/\y.nodes<=256]) MT.plain args)):=fun W hW=>by
  have hin:=Ed.o.aW hW;refine yD MT.plain _ [] W [] a cap args _ (BD.nil' W) (fun W' r hL=>(MT.JW (hin.1.2.aW hL.BN) hin.1.1)) (enters_of func89 (by kernel_rfl) rfl) (fun W' r i hi hL=>?_) hin.1.1;have hti:=hin.2 _ (List.getElem_mem hi);refine(kr _ W' (hti.1.aO hL.BN) hti.2).mono ?_;rintro en W2 ⟨y,rfl,hp,hL2⟩;exact⟨y,rfl,hp,hL.join hL2⟩
 have BZ:=hdq (Touch.refl [] w1).drew;go_wp2_with fail
 refine hrq (S:=fun w'=>w'.cell? ⟨b1,0,none⟩=some (.int .i64 fn)/\w'.cell? ⟨b1,1,none⟩=some (.slice a args.length cap)) fun hHeld=>?_;refine tkq 0 3 ?_;refine tkq 1 4 ?_;refine tkq 2 5 ?_;refine tkq 3 6 ?_;refine rdq 4 rfl fun K hK=>?_;go_simp;refine(HC.o _ BZ.o).mono ?_;rintro en w2 ⟨a',cap',ys,rfl,hyp,hL⟩;have HL2:=hdq (BB.o.drew.join (hL.qj (m:=[]) (fun y W=>y.In W/\y.nodes<=256) ys));have LP:=hdq (show ys.length=args.length by have :=congrArg List.length hyp;simpa using this);have EA:=hdq hyp;simp only[nAq,cAq]at HL2;clear hL hyp HC BZ p0 p1 zp hHeld BB Ed;obtain⟨p0,p1,_,_,zp,_,_⟩:=HL2.o.c2 0 rfl;obtain⟨q0,q1,f0,f1,zq,_,_⟩:=HL2.o.c2 1 rfl;go_simp;refine kpq hK.o fun hHeld=>?_;clear hK K;have n1:=HL2.o.ne 0 1 rfl rfl (by decide);have n2:=Ne.symm n1;refine tkq 5 8 ?_;refine rdq 6 rfl fun K hK=>?_;go_simp;refine hK.o _ _ ?_ (fun hHeld=>?_)
 ·(try dsimp only)
  go_keep
 clear hK K;refine dnq ?_;refine ax (Q:=Exit.then _ _) ?_;intro w3 hw3;have BF:=hdq (((HL2.o.set 1 rfl 0 (.int .i64 fn)).set 1 rfl 1 (.slice a' args.length cap')).toW (by with_reducible exact hw3));simp only[sSq,sZq,sAq]at BF;clear hw3 HL2 p0 p1 zp q0 q1 f0 f1 zq n1 n2 hHeld;obtain⟨q0,q1,_,_,zq,_,_⟩:=BF.o.c2 1 rfl;go_wp2;have hv:(MC.mk fn a' cap' ys).val= .agg #[fn,.slice a' args.length cap']:=by simp[MC.val,LP.o]
 refine bodyPost_ret (v:=(MC.mk fn a' cap' ys).val) (by rw[hv];simp[results,results244,go_sem,q0,q1]) rfl ?_;refine⟨_,rfl,?_,?_⟩
 .simp only[MC.plain]
  rw[EA.o]
 .have h:=(BF.o.sel [2] (l':=[_]) rfl (by decide)).weaken 0 rfl (Q:=fun W=>(MC.mk fn a' cap' ys).In W) (fun W hW=>by
   have hr:=hW.1;rw[<-LP.o]at hr;refine⟨⟨by rw[show(MC.mk fn a' cap' ys).args=ys from rfl,LP.o];exact H.o.1.1,MT.uJ (iY hr (by rw[LP.o];exact H.o.1.1))⟩,hW.2⟩)
  simpa using h
theorem BD.c11{T:List Nat}{w0 w:World}{l:List ai}{b t:Nat}(h:BD T w0 w l)(i:Nat){x0 x1 x2 x3 x4 x5 x6 x7 x8 x9 x10:Value}(hi:l[i]? =some (Proofs.YtegejdlglonflaaGreatDoor.box b t #[x0,x1,x2,x3,x4,x5,x6,x7,x8,x9,x10])):w.cell? ⟨b,0,none⟩=some x0/\w.cell? ⟨b,1,none⟩=some x1/\w.cell? ⟨b,2,none⟩=some x2/\w.cell? ⟨b,3,none⟩=some x3/\w.cell? ⟨b,4,none⟩=some x4/\w.cell? ⟨b,5,none⟩=some x5/\w.cell? ⟨b,6,none⟩=some x6/\w.cell? ⟨b,7,none⟩=some x7/\w.cell? ⟨b,8,none⟩=some x8/\w.cell? ⟨b,9,none⟩=some x9/\w.cell? ⟨b,10,none⟩=some x10/\(w.frozen? ⟨b,0,none⟩=false/\w.frozen? ⟨b,1,none⟩=false/\w.frozen? ⟨b,2,none⟩=false/\w.frozen? ⟨b,3,none⟩=false/\w.frozen? ⟨b,4,none⟩=false/\w.frozen? ⟨b,5,none⟩=false/\w.frozen? ⟨b,6,none⟩=false/\w.frozen? ⟨b,7,none⟩=false/\w.frozen? ⟨b,8,none⟩=false/\w.frozen? ⟨b,9,none⟩=false/\w.frozen? ⟨b,10,none⟩=false)/\b<w.heap.size/\b<w.heap.size+1/\b<w.heap.size+1+1:=by
 have hb:=h.box i hi;have hl:=hb.lt;exact⟨hb.cell 0,hb.cell 1,hb.cell 2,hb.cell 3,hb.cell 4,hb.cell 5,hb.cell 6,hb.cell 7,hb.cell 8,hb.cell 9,hb.cell 10,⟨hb.frozen 0,hb.frozen 1,hb.frozen 2,hb.frozen 3,hb.frozen 4,hb.frozen 5,hb.frozen 6,hb.frozen 7,hb.frozen 8,hb.frozen 9,hb.frozen 10⟩,hl,ltq hl,ltq (ltq hl)⟩
def H7(b:MB)(w:World)(e:Ending)(w':World):Prop:=∃b':MB,e= .returned b'.val/\b'.plain=b.plain/\BD [] w w' [aA fun W=>b'.In W]
theorem base_c(b:MB)(w:World)(h:b.In w):Calls prog 161 #[b.val] w (H7 b w):=by
 have H:=hdq h;clear h;obtain⟨kind,n,v,wa,wc,wraps,na,nc,aT⟩:=b;simp only[MB.val];go_enter func161,ntmps161
 go_wp2_with fail
 refine ah ?_;intro w1 hw1;have BB:=hdq ((BD.nil' w).DZ hw1);simp only[nAq]at BB;generalize hb2:w.heap.size+1=b2 at BB|-;generalize hb1:w.heap.size=b1 at BB|-;clear hw1 hb2 hb1;have FW:Hid (∀W,Touch [] w W->Calls prog 89 #[v.val] W fun e w'=>∃t':MT,e= .returned t'.val/\t'.plain=v.plain/\BD [] W w' [aA fun W=>t'.In W/\t'.nodes<=256]):=fun W hW=>kr v W ((H.o.aW hW).1.1) H.o.1.2;refine(FW.o _ BB.o.BN).mono ?_;rintro e u1 ⟨v',rfl,hp,hL⟩;have HPv:=hdq hp;have MG:=hdq (BB.o.join hL);simp only[nAq,cAq]at MG;clear hL hp BB FW;obtain⟨p0,p1,p2,p3,p4,p5,p6,⟨IZ,Ie,Ka,Kg,KH,Jl,Jb⟩,zp,_,_⟩:=MG.o.c7 0 rfl;simp only[MT.val,MT.sl];go_wp2_with fail
 refine ah ?_;intro w2 hw2;have HL2:=hdq ((((MG.o.set 0 rfl 2 (.int .i64 v'.kind)).set 0 rfl 3 (.int .i64 v'.num)).set 0 rfl 4 (.slice v'.addr v'.parts.length v'.cap)).toW (by with_reducible exact hw2));simp only[sSq,sZq,sAq]at HL2;clear hw2 MG p0 IZ p1 Ie p2 Ka p3 Kg p4 KH p5 Jl p6 Jb zp;have Ma:Hid (∀W,Touch [] w W->Calls prog 243 #[.slice wa wraps.length wc,.func (.func 244) #[] #[]] W (gG [] W [] 306 2 MC.cells (fun y=>[aA fun W=>y.In W]) MC.plain wraps)):=fun W hW=>by
  have hin:=H.o.aW hW;refine vT MC.plain _ [] W [] wa wc wraps _ (BD.nil' W) (fun W' r hL=>hin.2.1.1.aW hL.BN) (enters_of func244 (by kernel_rfl) rfl) (fun W' r i hi hL=>?_) hin.2.1.1.1;refine(call_c _ W' ((hin.2.1.2 _ (List.getElem_mem hi)).aW hL.BN)).mono ?_;rintro en W2 ⟨y,rfl,hp,hL2⟩;exact⟨y,rfl,hp,hL.join hL2⟩
 refine(Ma.o _ HL2.o.BN).mono ?_;rintro e u2 ⟨a2,c2,ys,rfl,hyp,hL⟩;have HPy:=hdq hyp;have LP:=hdq (show ys.length=wraps.length by have :=congrArg List.length hyp;simpa using this);have Hl:=hdq (HL2.o.join (hL.qj (m:=[]) (fun y W=>y.In W) ys));simp only[nAq,cAq]at Hl;clear hL hyp HL2 Ma;obtain⟨p0,p1,p2,p3,p4,p5,p6,⟨IZ,Ie,Ka,Kg,KH,Jl,Jb⟩,zp,_,_⟩:=Hl.o.c7 0 rfl;go_wp2_with fail
 refine ah ?_;intro w3 hw3;have BF:=hdq ((Hl.o.set 0 rfl 5 (.slice a2 wraps.length c2)).toW (by with_reducible exact hw3));simp only[sSq,sZq,sAq]at BF;clear hw3 Hl p0 IZ p1 Ie p2 Ka p3 Kg p4 KH p5 Jl p6 Jb zp;have HC3:Hid (∀W,Touch [] w W->Calls prog 162 #[.slice na aT.length nc] W fun e w'=>∃a' cap',e= .returned (.slice a' aT.length cap')/\BD [] W w' [aA fun W=>aG W a' 1 aT.length (aT.flatMap fq)]):=fun W hW=>rU W na nc aT ((H.o.aW hW).2.2);refine(HC3.o _ BF.o.BN).mono ?_;rintro e u3 ⟨a3,c3,rfl,hL⟩;have He:=hdq (BF.o.join hL);simp only[nAq,cAq]at He;clear hL BF HC3;obtain⟨p0,p1,p2,p3,p4,p5,p6,⟨IZ,Ie,Ka,Kg,KH,Jl,Jb⟩,zp,_,_⟩:=He.o.c7 0 rfl;obtain⟨q0,q1,q2,q3,q4,q5,q6,⟨G9,G6,G5,Ng,NG,L6,NH⟩,zq,_,_⟩:=He.o.c7 1 rfl;have n1:=He.o.ne 0 1 rfl rfl (by decide);have n2:=Ne.symm n1;have BH:=hdq ((((((((He.o.set 0 rfl 6 (.slice a3 aT.length c3)).set 1 rfl 0 (.int .i64 kind)).set 1 rfl 1 (.int .i64 n)).set 1 rfl 2 (.int .i64 v'.kind)).set 1 rfl 3 (.int .i64 v'.num)).set 1 rfl 4 (.slice v'.addr v'.parts.length v'.cap)).set 1 rfl 5 (.slice a2 wraps.length c2)).set 1 rfl 6 (.slice a3 aT.length c3));simp only[sSq,sZq,sAq]at BH;have HB:=hdq (BH.o.c7 1 rfl);go_wp2;clear p0 IZ p1 Ie p2 Ka p3 Kg p4 KH p5 Jl p6 Jb zp q0 G9 q1 G6 q2 G5 q3 Ng q4 NG q5 L6 q6 NH zq n1 n2 He;obtain⟨q0,q1,q2,q3,q4,q5,q6,_,zq,_,_⟩:=HB.o;have hv:(MB.mk kind n v' a2 c2 ys a3 c3 aT).val= .agg #[kind,n,v'.kind,v'.num,.slice v'.addr v'.parts.length v'.cap,.slice a2 wraps.length c2,.slice a3 aT.length c3]:=by simp[MB.val,LP.o]
 refine bodyPost_ret (v:=(MB.mk kind n v' a2 c2 ys a3 c3 aT).val) (by rw[hv];simp[results,results161,go_sem,q0,q1,q2,q3,q4,q5,q6]) rfl ?_;refine⟨_,rfl,by simp only[MB.plain,HPv.o,HPy.o],?_⟩;have hs:=(BH.o.sel [2,3,4] (l':=[_,_,_]) rfl (by decide));have h2:=(hs.settle (l:=[_,_]) 0 rfl (Q:=fun W=>_/\_) (fun W f hP ht=>⟨hP,ht.2 W (fun _ _=>rfl)⟩));have h3:=BD.settle (l:=[_]) h2 0 rfl (Q:=fun W=>_/\_) (fun W f hP ht=>⟨hP,ht.2 W (fun _ _=>rfl)⟩);have h4:=h3.weaken 0 rfl (Q:=fun W=>(MB.mk kind n v' a2 c2 ys a3 c3 aT).In W) (fun W hW=>?_)
 .simpa using h4
 .obtain⟨⟨hv',hc⟩,hr,hy⟩:=hW
  exact⟨hv',⟨show aG W a2 2 ys.length (ys.flatMap MC.cells) from LP.o▸iY hr H.o.2.1.1.1,hy⟩,hc⟩
def wE(b:MS)(w:World)(e:Ending)(w':World):Prop:=∃b':MS,e= .returned b'.val/\b'.plain=b.plain/\BD [] w w' [aA fun W=>b'.In W]
theorem xw(b:MS)(w:World)(h:b.In w):Calls prog 63 #[b.val] w (wE b w):=by
 have H:=hdq h;clear h;obtain⟨thread,ba,bc,bases,ca,cc,conds,flag,parked,done,branch,v,partner⟩:=b;simp only[MS.val];go_enter func63,ntmps63
 go_wp2_with fail
 refine ah ?_;intro w1 hw1;have BB:=hdq ((BD.nil' w).DZ hw1);simp only[nAq]at BB;generalize hb2:w.heap.size+1=b2 at BB|-;generalize hb1:w.heap.size=b1 at BB|-;clear hw1 hb2 hb1;have FW:Hid (∀W,Touch [] w W->Calls prog 160 #[.slice ba bases.length bc,.func (.func 161) #[] #[]] W (gG [] W [] 114 7 MB.cells (fun y=>[aA fun W=>y.In W]) MB.plain bases)):=fun W hW=>by
  have hin:=H.o.aW hW;refine ve MB.plain _ [] W [] ba bc bases _ (BD.nil' W) (fun W' r hL=>hin.2.1.1.aW hL.BN) (enters_of func161 (by kernel_rfl) rfl) (fun W' r i hi hL=>?_) hin.2.1.1.1;refine(base_c _ W' ((hin.2.1.2 _ (List.getElem_mem hi)).aW hL.BN)).mono ?_;rintro en W2 ⟨y,rfl,hp,hL2⟩;exact⟨y,rfl,hp,hL.join hL2⟩
 refine(FW.o _ BB.o.BN).mono ?_;rintro e u1 ⟨a1,c1,ys,rfl,hyp,hL⟩;have HPy:=hdq hyp;have LP:=hdq (show ys.length=bases.length by have :=congrArg List.length hyp;simpa using this);have MG:=hdq (BB.o.join (hL.qj (m:=[]) (fun y W=>y.In W) ys));simp only[nAq,cAq]at MG;clear hL hyp BB FW;obtain⟨p0,p1,p2,p3,p4,p5,p6,p7,p8,p9,Ef,⟨IZ,Ie,Ka,Kg,KH,Jl,Jb,pf7,pf8,pf9,LD⟩,zp,_,_⟩:=MG.o.c11 0 rfl;go_wp2_with fail
 refine ah ?_;intro w2 hw2;have HL2:=hdq ((MG.o.set 0 rfl 1 (.slice a1 bases.length c1)).toW (by with_reducible exact hw2));simp only[sSq,sZq,sAq]at HL2;clear hw2 MG p0 IZ p1 Ie p2 Ka p3 Kg p4 KH p5 Jl p6 Jb p7 pf7 p8 pf8 p9 pf9 Ef LD zp;have Ma:Hid (∀W,Touch [] w W->Calls prog 162 #[.slice ca conds.length cc] W fun e w'=>∃a' cap',e= .returned (.slice a' conds.length cap')/\BD [] W w' [aA fun W=>aG W a' 1 conds.length (conds.flatMap fq)]):=fun W hW=>rU W ca cc conds ((H.o.aW hW).2.2);refine(Ma.o _ HL2.o.BN).mono ?_;rintro e u2 ⟨a2,c2,rfl,hL⟩;have Hl:=hdq (HL2.o.join hL);simp only[nAq,cAq]at Hl;clear hL HL2 Ma;obtain⟨p0,p1,p2,p3,p4,p5,p6,p7,p8,p9,Ef,⟨IZ,Ie,Ka,Kg,KH,Jl,Jb,pf7,pf8,pf9,LD⟩,zp,_,_⟩:=Hl.o.c11 0 rfl;go_wp2_with fail
 refine ah ?_;intro w3 hw3;have BF:=hdq ((Hl.o.set 0 rfl 2 (.slice a2 conds.length c2)).toW (by with_reducible exact hw3));simp only[sSq,sZq,sAq]at BF;clear hw3 Hl p0 IZ p1 Ie p2 Ka p3 Kg p4 KH p5 Jl p6 Jb p7 pf7 p8 pf8 p9 pf9 Ef LD zp;have HC3:Hid (∀W,Touch [] w W->Calls prog 89 #[v.val] W fun e w'=>∃t':MT,e= .returned t'.val/\t'.plain=v.plain/\BD [] W w' [aA fun W=>t'.In W/\t'.nodes<=256]):=fun W hW=>kr v W ((H.o.aW hW).1.1) H.o.1.2;refine(HC3.o _ BF.o.BN).mono ?_;rintro e u3 ⟨v',rfl,hp,hL⟩;have HPv:=hdq hp;have He:=hdq (BF.o.join hL);simp only[nAq,cAq]at He;clear hL hp BF HC3;obtain⟨p0,p1,p2,p3,p4,p5,p6,p7,p8,p9,Ef,⟨IZ,Ie,Ka,Kg,KH,Jl,Jb,pf7,pf8,pf9,LD⟩,zp,_,_⟩:=He.o.c11 0 rfl;simp only[MT.val,MT.sl];obtain⟨q0,q1,q2,q3,q4,q5,q6,q7,q8,q9,E5,⟨G9,G6,G5,Ng,NG,L6,NH,qf7,qf8,qf9,qf10⟩,zq,_,_⟩:=He.o.c11 1 rfl;have n1:=He.o.ne 0 1 rfl rfl (by decide);have n2:=Ne.symm n1;have BH:=hdq ((((((((((((((He.o.set 0 rfl 7 (.int .i64 v'.kind)).set 0 rfl 8 (.int .i64 v'.num)).set 0 rfl 9 (.slice v'.addr v'.parts.length v'.cap)).set 1 rfl 0 (.int .i64 thread)).set 1 rfl 1 (.slice a1 bases.length c1)).set 1 rfl 2 (.slice a2 conds.length c2)).set 1 rfl 3 (.int .i64 flag)).set 1 rfl 4 (.bool parked)).set 1 rfl 5 (.bool done)).set 1 rfl 6 (.int .i64 branch)).set 1 rfl 7 (.int .i64 v'.kind)).set 1 rfl 8 (.int .i64 v'.num)).set 1 rfl 9 (.slice v'.addr v'.parts.length v'.cap)).set 1 rfl 10 (.int .i64 partner));simp only[sSq,sZq,sAq]at BH;have HB:=hdq (BH.o.c11 1 rfl);go_wp2;clear p0 IZ p1 Ie p2 Ka p3 Kg p4 KH p5 Jl p6 Jb p7 pf7 p8 pf8 p9 pf9 Ef LD zp q0 G9 q1 G6 q2 G5 q3 Ng q4 NG q5 L6 q6 NH q7 qf7 q8 qf8 q9 qf9 E5 qf10 zq n1 n2 He;obtain⟨q0,q1,q2,q3,q4,q5,q6,q7,q8,q9,E5,_,zq,_,_⟩:=HB.o;have hv:(MS.mk thread a1 c1 ys a2 c2 conds flag parked done branch v' partner).val= .agg #[thread,.slice a1 bases.length c1,.slice a2 conds.length c2,flag,parked,done,branch,v'.kind,v'.num,.slice v'.addr v'.parts.length v'.cap,partner]:=by simp[MS.val,LP.o]
 refine bodyPost_ret (v:=(MS.mk thread a1 c1 ys a2 c2 conds flag parked done branch v' partner).val) (by rw[hv];simp[results,results63,go_sem,q0,q1,q2,q3,q4,q5,q6,q7,q8,q9,E5]) rfl ?_;refine⟨_,rfl,by simp only[MS.plain,HPv.o,HPy.o],?_⟩;have hs:=(BH.o.sel [2,3,4] (l':=[_,_,_]) rfl (by decide));have h2:=(hs.settle (l:=[_,_]) 0 rfl (Q:=fun W=>_/\_) (fun W f hP ht=>⟨hP,ht.2 W (fun _ _=>rfl)⟩));have h3:=BD.settle (l:=[_]) h2 0 rfl (Q:=fun W=>_/\_) (fun W f hP ht=>⟨hP,ht.2 W (fun _ _=>rfl)⟩);have h4:=h3.weaken 0 rfl (Q:=fun W=>(MS.mk thread a1 c1 ys a2 c2 conds flag parked done branch v' partner).In W) (fun W hW=>?_)
 .simpa using h4
 .obtain⟨⟨⟨hr,hy⟩,hv'⟩,hc⟩:=hW
  exact⟨hv',⟨show aG W a1 7 ys.length (ys.flatMap MB.cells) from LP.o▸iY hr H.o.2.1.1.1,hy⟩,hc⟩
def kL{β γ:Type}(p:β->γ)(l m:List β)(w:World):Ending->World->Prop:=aI (l.map p=m.map p) w
theorem pz{β γ:Type}(p:β->γ){l m:List β}(i:Nat)(h1:i<l.length)(h2:i<m.length)(h:p l[i]≠p m[i]):l.map p≠m.map p:=fun he=>h (by
 have :=congrArg (fun x=>x[i]?) he;simp only[List.getElem?_map,List.getElem?_eq_getElem h1,List.getElem?_eq_getElem h2,Option.map_some,Option.some.injEq]at this;exact this)
theorem mY{β γ:Type}(p:β->γ){l m:List β}(hl:l.length=m.length)(h:∀i (h1:i<l.length) (h2:i<m.length),p l[i]=p m[i]):l.map p=m.map p:=by
 apply List.ext_getElem
 .simpa using hl
 .intro i h1 h2
  simp only[List.getElem_map];exact h i (by simpa using h1) (by simpa using h2)
theorem IQ(w:World)(a:Option Addr)(c:Nat)(l:List MT)(a':Option Addr)(c':Nat)(m:List MT)(h1:aG w a 3 l.length (l.flatMap MT.cells))(h2:aG w a' 3 m.length (m.flatMap MT.cells))(hone:∀W i (hi:i<l.length) (hi':i<m.length),Touch [] w W->Calls prog 72 #[l[i].val,m[i].val] W (aI (l[i].plain=m[i].plain) W)):Calls prog 305 #[.slice a l.length c,.slice a' m.length c'] w (kL MT.plain l m w):=by
 have H1:=hdq h1;have H2:=hdq h2;have HO:=hdq hone;have hb1:=h1.1;have hb2:=h2.1;have DJ:Hid (l.map MT.plain≠m.map MT.plain->∀W,Touch [] w W->kL MT.plain l m w (.returned (.bool false)) W):=fun h W hW=>⟨false,rfl,by simpa using h,hW⟩;have Dj:Hid (l.map MT.plain=m.map MT.plain->∀W,Touch [] w W->kL MT.plain l m w (.returned (.bool true)) W):=fun h W hW=>⟨true,rfl,by simpa using h,hW⟩;clear h1 h2 hone;go_enter func305,ntmps305
 by_cases hlen:l.length=m.length
 .have hl2:((l.length:Int) != (m.length:Int))=false:=by simp[hlen]
  have HLEN:Hid (l.length=m.length):=hlen;clear hlen;go_wp2;go_loopw [5] (fun p wr=>∃j:Nat,p= .int .i64 (j:Int)/\j<=l.length/\Hid (Touch [] w wr)/\Hid (∀i (g1:i<l.length) (g2:i<m.length),i<j->l[i].plain=m[i].plain)) (fun p _=>l.length-(intOf p).toNat)
  case atStart=>exact⟨0,rfl,Nat.zero_le _,Touch.refl _ _,fun i g1 g2 h0=>absurd h0 (Nat.not_lt_zero _)⟩
  case round=>
   obtain⟨j,rfl,hj,HT,HA⟩:=hrel;have hj0:(0:Int)<=(j:Int):=by omega
   by_cases hjl:j<l.length
   .have Cc:(j:Int)<(l.length:Int):=by omega
    have hjm:j<m.length:=by have :=HLEN.o;omega
    have hjm':(j:Int)<(m.length:Int):=by omega
    obtain⟨b1,o1,hba,hbb,hx⟩:=aG.at (f:=MT.cells) (fun _=>rfl) (H1.o.aW HT.o) j hjl;obtain⟨b2,o2,DF,hbb',hy⟩:=aG.at (f:=MT.cells) (fun _=>rfl) (H2.o.aW HT.o) j hjm;have HC:=hdq (fun W (hW:Touch [] wr W)=>HO.o W j hjl hjm (HT.o.trans' hW));have HN:=hdq (pz MT.plain j hjl hjm);have HJ:Hid (l[j].plain=m[j].plain->∀i (g1:i<l.length) (g2:i<m.length),i<j+1->l[i].plain=m[i].plain):=fun h i g1 g2 hi=>by
     by_cases hij:i=j
     .subst hij;exact h
     .exact HA.o i g1 g2 (by omega)
    obtain⟨u1,hu1⟩:∃u,l[j]=u:=⟨_,rfl⟩;obtain⟨u2,hu2⟩:∃u,m[j]=u:=⟨_,rfl⟩;have x0:wr.cell? ⟨b1,o1+j*3,none⟩=some (.int .i64 u1.kind):=(hx 0 (by omega)).trans (by rw[hu1];rfl);have x1:wr.cell? ⟨b1,o1+j*3+1,none⟩=some (.int .i64 u1.num):=(hx 1 (by omega)).trans (by rw[hu1];rfl);have x2:wr.cell? ⟨b1,o1+j*3+2,none⟩=some (.slice u1.addr u1.parts.length u1.cap):=(hx 2 (by omega)).trans (by rw[hu1];rfl);have y0:wr.cell? ⟨b2,o2+j*3,none⟩=some (.int .i64 u2.kind):=(hy 0 (by omega)).trans (by rw[hu2];rfl);have y1:wr.cell? ⟨b2,o2+j*3+1,none⟩=some (.int .i64 u2.num):=(hy 1 (by omega)).trans (by rw[hu2];rfl);have y2:wr.cell? ⟨b2,o2+j*3+2,none⟩=some (.slice u2.addr u2.parts.length u2.cap):=(hy 2 (by omega)).trans (by rw[hu2];rfl);rw[hu1,hu2]at HC HN HJ;rw[hba,DF];clear hx hy hu1 hu2;have FD:=hdq hba;have HBA':=hdq DF;clear hba DF;have BZ:=hdq (Touch.refl [] wr).drew;go_wp2_with fail
    refine hrq (S:=fun w'=>w'.cell? ⟨b1,o1+j*3,none⟩=some (.int .i64 u1.kind)/\w'.cell? ⟨b1,o1+j*3+1,none⟩=some (.int .i64 u1.num)/\w'.cell? ⟨b1,o1+j*3+2,none⟩=some (.slice u1.addr u1.parts.length u1.cap)/\w'.cell? ⟨b2,o2+j*3,none⟩=some (.int .i64 u2.kind)/\w'.cell? ⟨b2,o2+j*3+1,none⟩=some (.int .i64 u2.num)/\w'.cell? ⟨b2,o2+j*3+2,none⟩=some (.slice u2.addr u2.parts.length u2.cap)) fun hHeld=>?_;refine tkq 0 17 ?_;refine tkq 1 18 ?_;refine tkq 2 19 ?_;refine tkq 3 20 ?_;refine tkq 4 21 ?_;refine tkq 5 22 ?_;refine tkq 6 23 ?_;refine tkq 7 24 ?_;refine rdq 8 rfl fun K hK=>?_;go_simp;refine(HC.o _ BZ.o).mono ?_;rintro en w2 ⟨cb,rfl,hcb,ht⟩;have ht2:=BZ.o.trans' ht;have HT2:=hdq (HT.o.trans' ht2);have x0:=ht2.cellOf x0;have y0:=ht2.cellOf y0;have x1:=ht2.cellOf x1;have y1:=ht2.cellOf y1;have x2:=ht2.cellOf x2;have y2:=ht2.cellOf y2;clear ht ht2 HC BZ hHeld;cases cb with
    |true=>
     have HA2:=hdq (HJ.o (hcb.1 rfl));clear hcb HJ HN HA;go_simp;refine kpq hK.o fun hHeld=>?_;clear hK K;refine tkq 9 26 ?_;refine dnq ?_;clear hHeld;go_wp2;go_roundw
     case rel=>exact⟨j+1,by go_num,by omega,HT2,HA2⟩
     case measure=>simp[intOf];omega
    |false=>
     have he:=DJ.o (HN.o (fun h=>by have :=hcb.2 h;simp at this)) w2 HT2.o;have HE:=hdq he;clear he hcb HJ HN HA;go_simp;refine kpq hK.o fun hHeld=>?_;clear hK K;refine tkq 9 26 ?_;refine dnq ?_;clear hHeld;go_wp2;go_ret
     exact HE.o
   .have Cc:¬(j:Int)<(l.length:Int):=by omega
    have HE:=hdq (Dj.o (mY MT.plain HLEN.o (fun i g1 g2=>HA.o i g1 g2 (by omega))) wr HT.o);go_wp2;go_ret
    exact HE.o
 .have hl2:((l.length:Int) != (m.length:Int))=true:=by simp;omega
  have HE:=hdq (DJ.o (fun h=>hlen (by have :=congrArg List.length h;simpa using this)) w (Touch.refl _ _));go_wp2;go_ret
  exact HE.o
theorem JM(w:World)(a:Option Addr)(c:Nat)(l:List Int)(a':Option Addr)(c':Nat)(m:List Int)(h1:aG w a 1 l.length (l.flatMap fq))(h2:aG w a' 1 m.length (m.flatMap fq)):
  Calls prog 71 #[.slice a l.length c,.slice a' m.length c'] w (kL id l m w):=by
 have H1:=hdq h1;have H2:=hdq h2;have hb1:=h1.1;have hb2:=h2.1;have DJ:Hid (l.map id≠m.map id->∀W,Touch [] w W->kL id l m w (.returned (.bool false)) W):=fun h W hW=>⟨false,rfl,by simpa using h,hW⟩;have Dj:Hid (l.map id=m.map id->∀W,Touch [] w W->kL id l m w (.returned (.bool true)) W):=fun h W hW=>⟨true,rfl,by simpa using h,hW⟩;clear h1 h2;go_enter func71,ntmps71
 by_cases hlen:l.length=m.length
 .have hl2:((l.length:Int) != (m.length:Int))=false:=by simp[hlen]
  have HLEN:Hid (l.length=m.length):=hlen;clear hlen;go_wp2;go_loopw [5] (fun p wr=>∃j:Nat,p= .int .i64 (j:Int)/\j<=l.length/\Hid (Touch [] w wr)/\Hid (∀i (g1:i<l.length) (g2:i<m.length),i<j->l[i]=m[i])) (fun p _=>l.length-(intOf p).toNat)
  case atStart=>exact⟨0,rfl,Nat.zero_le _,Touch.refl _ _,fun i g1 g2 h0=>absurd h0 (Nat.not_lt_zero _)⟩
  case round=>
   obtain⟨j,rfl,hj,HT,HA⟩:=hrel;have hj0:(0:Int)<=(j:Int):=by omega
   by_cases hjl:j<l.length
   .have Cc:(j:Int)<(l.length:Int):=by omega
    have hjm:j<m.length:=by have :=HLEN.o;omega
    have hjm':(j:Int)<(m.length:Int):=by omega
    obtain⟨b1,o1,hba,hbb,hx⟩:=aG.at (f:=fq) (fun _=>rfl) (H1.o.aW HT.o) j hjl;obtain⟨b2,o2,DF,hbb',hy⟩:=aG.at (f:=fq) (fun _=>rfl) (H2.o.aW HT.o) j hjm;have HN:Hid (l[j]≠m[j]->l.map id≠m.map id):=pz id j hjl hjm;have HJ:Hid (l[j]=m[j]->∀i (g1:i<l.length) (g2:i<m.length),i<j+1->l[i]=m[i]):=fun h i g1 g2 hi=>by
     by_cases hij:i=j
     .subst hij;exact h
     .exact HA.o i g1 g2 (by omega)
    have x0:=hx 0 Nat.one_pos;have y0:=hy 0 Nat.one_pos;obtain⟨u1,hu1⟩:∃u,l[j]=u:=⟨_,rfl⟩;obtain⟨u2,hu2⟩:∃u,m[j]=u:=⟨_,rfl⟩;rw[hu1,Nat.mul_one,Nat.add_zero]at x0;rw[hu2,Nat.mul_one,Nat.add_zero]at y0;have x0':wr.cell? ⟨b1,o1+j,none⟩=some (.int .i64 u1):=x0;have y0':wr.cell? ⟨b2,o2+j,none⟩=some (.int .i64 u2):=y0;rw[hu1,hu2]at HN HJ;rw[hba,DF];clear hx hy hu1 hu2 x0 y0;have FD:=hdq hba;have HBA':=hdq DF;clear hba DF;have LX:=hdq (HT.o.trans' (Touch.refl [] wr).drew);by_cases hq:u1=u2
    .have hb0:(u1 != u2)=false:=by simp[hq]
     have HA2:=hdq (HJ.o hq);go_wp2_with fail
     refine hrq (S:=fun w'=>w'.cell? ⟨b1,o1+j,none⟩=some (.int .i64 u1)/\w'.cell? ⟨b2,o2+j,none⟩=some (.int .i64 u2)) fun hHeld=>?_;clear hq HJ HN HA;refine tkq 0 17 ?_;refine tkq 1 18 ?_;refine tkq 2 19 ?_;refine tkq 3 20 ?_;refine tkq 4 21 ?_;refine tkq 5 22 ?_;refine tkq 6 23 ?_;refine tkq 7 24 ?_;refine tkq 8 25 ?_;refine dnq ?_;clear hHeld;(try rw[hb0])
     go_wp2;go_roundw
     case rel=>exact⟨j+1,by go_num,by omega,LX,HA2⟩
     case measure=>simp[intOf];omega
    .have hb0:(u1 != u2)=true:=by simp[hq]
     have HE:=hdq (DJ.o (HN.o hq) _ LX.o);go_wp2_with fail
     refine hrq (S:=fun w'=>w'.cell? ⟨b1,o1+j,none⟩=some (.int .i64 u1)/\w'.cell? ⟨b2,o2+j,none⟩=some (.int .i64 u2)) fun hHeld=>?_;clear HJ HN HA;refine tkq 0 17 ?_;refine tkq 1 18 ?_;refine tkq 2 19 ?_;refine tkq 3 20 ?_;refine tkq 4 21 ?_;refine tkq 5 22 ?_;refine tkq 6 23 ?_;refine tkq 7 24 ?_;refine tkq 8 25 ?_;refine dnq ?_;clear hHeld;(try rw[hb0])
     go_wp2;go_ret
     exact HE.o
   .have Cc:¬(j:Int)<(l.length:Int):=by omega
    have HE:=hdq (Dj.o (mY id HLEN.o (fun i g1 g2=>HA.o i g1 g2 (by omega))) wr HT.o);go_wp2;go_ret
    exact HE.o
 .have hl2:((l.length:Int) != (m.length:Int))=true:=by simp;omega
  have HE:=hdq (DJ.o (fun h=>hlen (by have :=congrArg List.length h;simpa using this)) w (Touch.refl _ _));go_wp2;go_ret
  exact HE.o
theorem pU(t u:MT)(w:World)(ht:t.In w/\t.nodes<=256)(hu:u.In w/\u.nodes<=256):Calls prog 72 #[t.val,u.val] w (aI (t.plain=u.plain) w):=
 (jI t u w ht.1 hu.1 (by omega) (by omega)).mono fun e w' ⟨c,he,hc,h⟩=>⟨c,he,hc.trans (by simp[ht.2,hu.2]),h⟩
def pJ(p q:MC)(w:World):Ending->World->Prop:=aI (p.plain=q.plain) w
theorem Af(p q:MC)(w:World)(hp:p.In w)(hq:q.In w):Calls prog 295 #[p.val,q.val] w (pJ p q w):=by
 have FW:Hid (∀W,Touch [] w W->Calls prog 305 #[.slice p.a p.args.length p.cap,.slice q.a q.args.length q.cap] W (aI (p.args.map MT.plain=q.args.map MT.plain) W)):=fun W hW=>by
  have hp:=hp.aW hW;have hq:=hq.aW hW;exact IQ W p.a p.cap p.args q.a q.cap q.args (MT.JW hp.1.2 hp.1.1) (MT.JW hq.1.2 hq.1.1) (fun W2 i g1 g2 h2=>pU _ _ W2 ⟨(hp.2 _ (List.getElem_mem g1)).1.aO h2,(hp.2 _ (List.getElem_mem g1)).2⟩ ⟨(hq.2 _ (List.getElem_mem g2)).1.aO h2,(hq.2 _ (List.getElem_mem g2)).2⟩)
 have hiff:p.plain=q.plain↔(p.fn=q.fn)/\(p.args.map MT.plain=q.args.map MT.plain):=by
  simp only[MC.plain,Prod.mk.injEq,List.map_id_fun,id_eq]
 have HN0:Hid (¬(p.fn=q.fn)->∀W,Touch [] w W->pJ p q w (.returned (.bool false)) W):=fun hn W hW=>⟨false,rfl,by simp only[Bool.false_eq_true,false_iff];exact fun h0=>have h:=hiff.1 h0;hn h.1,hW⟩;have FR:Hid (¬(p.args.map MT.plain=q.args.map MT.plain)->∀W,Touch [] w W->pJ p q w (.returned (.bool false)) W):=fun hn W hW=>⟨false,rfl,by simp only[Bool.false_eq_true,false_iff];exact fun h0=>have h:=hiff.1 h0;hn h.2,hW⟩;have Dj:Hid ((p.fn=q.fn)/\(p.args.map MT.plain=q.args.map MT.plain)->∀W,Touch [] w W->pJ p q w (.returned (.bool true)) W):=fun h W hW=>⟨true,rfl,by simp only[true_iff];exact hiff.2 h,hW⟩;clear hp hq hiff;simp only[MC.val];go_enter func295,ntmps295
 go_upto_region 1 with fail
 refine ay ?_;intro w1 hw1;have BB:=hdq ((BD.nil' w).DZ hw1);simp only[nAq]at BB;generalize hb2:w.heap.size+1=b2 at BB|-;generalize hb1:w.heap.size=b1 at BB|-;clear hw1 hb2 hb1;obtain⟨x0,x1,_,_,zx,_,_⟩:=BB.o.c2 0 rfl;obtain⟨y0,y1,_,_,zy,_,_⟩:=BB.o.c2 1 rfl;by_cases hk0:p.fn=q.fn
 .have ek0:(p.fn==q.fn)=true:=by simp[hk0]
  have HK0:=hdq hk0;clear hk0;go_wp2_with fail
  refine(FW.o _ BB.o.BN).mono ?_;rintro e w2 ⟨c1,rfl,hc1,ht⟩;have HL2:=hdq (BB.o.touch ht);clear ht;clear x0 x1 zx y0 y1 zy;obtain⟨x0,x1,_,_,zx,_,_⟩:=HL2.o.c2 0 rfl;obtain⟨y0,y1,_,_,zy,_,_⟩:=HL2.o.c2 1 rfl;cases c1 with
  |true=>
   have O3:=hdq (hc1.1 rfl);clear hc1;have HE:=hdq (Dj.o ⟨HK0.o,O3.o⟩ w2 HL2.o.BN);go_wp2;go_ret
   exact HE.o
  |false=>
   have HE:=hdq (FR.o (fun h=>by have :=hc1.2 h;simp at this) w2 HL2.o.BN);go_wp2;go_ret
   exact HE.o
 .have ek0:(p.fn==q.fn)=false:=by simp[hk0]
  have HE:=hdq (HN0.o hk0 w1 BB.o.BN);go_wp2;go_ret
  exact HE.o
theorem rH{p q:Prop}{w w':World}{e:Ending}(h:aI p w e w')(hpq:p↔q):aI q w e w':=by
 obtain⟨c,he,hc,h2⟩:=h;exact⟨c,he,hc.trans hpq,h2⟩
theorem Bz(w:World)(a:Option Addr)(c:Nat)(l:List MC)(a':Option Addr)(c':Nat)(m:List MC)(h1:aG w a 2 l.length (l.flatMap MC.cells))(h2:aG w a' 2 m.length (m.flatMap MC.cells))(hone:∀W i (hi:i<l.length) (hi':i<m.length),Touch [] w W->Calls prog 295 #[l[i].val,m[i].val] W (aI (l[i].plain=m[i].plain) W)):Calls prog 255 #[.slice a l.length c,.slice a' m.length c'] w (kL MC.plain l m w):=by
 have H1:=hdq h1;have H2:=hdq h2;have HO:=hdq hone;have hb1:=h1.1;have hb2:=h2.1;have DJ:Hid (l.map MC.plain≠m.map MC.plain->∀W,Touch [] w W->kL MC.plain l m w (.returned (.bool false)) W):=fun h W hW=>⟨false,rfl,by simpa using h,hW⟩;have Dj:Hid (l.map MC.plain=m.map MC.plain->∀W,Touch [] w W->kL MC.plain l m w (.returned (.bool true)) W):=fun h W hW=>⟨true,rfl,by simpa using h,hW⟩;clear h1 h2 hone;go_enter func255,ntmps255
 by_cases hlen:l.length=m.length
 .have hl2:((l.length:Int) != (m.length:Int))=false:=by simp[hlen]
  have HLEN:Hid (l.length=m.length):=hlen;clear hlen;go_wp2;go_loopw [5] (fun p wr=>∃j:Nat,p= .int .i64 (j:Int)/\j<=l.length/\Hid (Touch [] w wr)/\Hid (∀i (g1:i<l.length) (g2:i<m.length),i<j->l[i].plain=m[i].plain)) (fun p _=>l.length-(intOf p).toNat)
  case atStart=>exact⟨0,rfl,Nat.zero_le _,Touch.refl _ _,fun i g1 g2 h0=>absurd h0 (Nat.not_lt_zero _)⟩
  case round=>
   obtain⟨j,rfl,hj,HT,HA⟩:=hrel;have hj0:(0:Int)<=(j:Int):=by omega
   by_cases hjl:j<l.length
   .have Cc:(j:Int)<(l.length:Int):=by omega
    have hjm:j<m.length:=by have :=HLEN.o;omega
    have hjm':(j:Int)<(m.length:Int):=by omega
    obtain⟨b1,o1,hba,hbb,hx⟩:=aG.at (f:=MC.cells) (fun _=>rfl) (H1.o.aW HT.o) j hjl;obtain⟨b2,o2,DF,hbb',hy⟩:=aG.at (f:=MC.cells) (fun _=>rfl) (H2.o.aW HT.o) j hjm;have HC:=hdq (fun W (hW:Touch [] wr W)=>HO.o W j hjl hjm (HT.o.trans' hW));have HN:=hdq (pz MC.plain j hjl hjm);have HJ:Hid (l[j].plain=m[j].plain->∀i (g1:i<l.length) (g2:i<m.length),i<j+1->l[i].plain=m[i].plain):=fun h i g1 g2 hi=>by
     by_cases hij:i=j
     .subst hij;exact h
     .exact HA.o i g1 g2 (by omega)
    obtain⟨u1,hu1⟩:∃u,l[j]=u:=⟨_,rfl⟩;obtain⟨u2,hu2⟩:∃u,m[j]=u:=⟨_,rfl⟩;have x0:wr.cell? ⟨b1,o1+j*2,none⟩=some (.int .i64 u1.fn):=(hx 0 (by omega)).trans (by rw[hu1];rfl);have x1:wr.cell? ⟨b1,o1+j*2+1,none⟩=some (.slice u1.a u1.args.length u1.cap):=(hx 1 (by omega)).trans (by rw[hu1];rfl);have y0:wr.cell? ⟨b2,o2+j*2,none⟩=some (.int .i64 u2.fn):=(hy 0 (by omega)).trans (by rw[hu2];rfl);have y1:wr.cell? ⟨b2,o2+j*2+1,none⟩=some (.slice u2.a u2.args.length u2.cap):=(hy 1 (by omega)).trans (by rw[hu2];rfl);rw[hu1,hu2]at HC HN HJ;rw[hba,DF];clear hx hy hu1 hu2;have FD:=hdq hba;have HBA':=hdq DF;clear hba DF;have BZ:=hdq (Touch.refl [] wr).drew;go_wp2_with fail
    refine hrq (S:=fun w'=>w'.cell? ⟨b1,o1+j*2,none⟩=some (.int .i64 u1.fn)/\w'.cell? ⟨b1,o1+j*2+1,none⟩=some (.slice u1.a u1.args.length u1.cap)/\w'.cell? ⟨b2,o2+j*2,none⟩=some (.int .i64 u2.fn)/\w'.cell? ⟨b2,o2+j*2+1,none⟩=some (.slice u2.a u2.args.length u2.cap)) fun hHeld=>?_;refine tkq 0 17 ?_;refine tkq 1 18 ?_;refine tkq 2 19 ?_;refine tkq 3 20 ?_;refine tkq 4 21 ?_;refine tkq 5 22 ?_;refine tkq 6 23 ?_;refine tkq 7 24 ?_;refine rdq 8 rfl fun K hK=>?_;go_simp;refine(HC.o _ BZ.o).mono ?_;rintro en w2 ⟨cb,rfl,hcb,ht⟩;have ht2:=BZ.o.trans' ht;have HT2:=hdq (HT.o.trans' ht2);have x0:=ht2.cellOf x0;have y0:=ht2.cellOf y0;have x1:=ht2.cellOf x1;have y1:=ht2.cellOf y1;clear ht ht2 HC BZ hHeld;cases cb with
    |true=>
     have HA2:=hdq (HJ.o (hcb.1 rfl));clear hcb HJ HN HA;go_simp;refine kpq hK.o fun hHeld=>?_;clear hK K;refine tkq 9 26 ?_;refine dnq ?_;clear hHeld;go_wp2;go_roundw
     case rel=>exact⟨j+1,by go_num,by omega,HT2,HA2⟩
     case measure=>simp[intOf];omega
    |false=>
     have he:=DJ.o (HN.o (fun h=>by have :=hcb.2 h;simp at this)) w2 HT2.o;have HE:=hdq he;clear he hcb HJ HN HA;go_simp;refine kpq hK.o fun hHeld=>?_;clear hK K;refine tkq 9 26 ?_;refine dnq ?_;clear hHeld;go_wp2;go_ret
     exact HE.o
   .have Cc:¬(j:Int)<(l.length:Int):=by omega
    have HE:=hdq (Dj.o (mY MC.plain HLEN.o (fun i g1 g2=>HA.o i g1 g2 (by omega))) wr HT.o);go_wp2;go_ret
    exact HE.o
 .have hl2:((l.length:Int) != (m.length:Int))=true:=by simp;omega
  have HE:=hdq (DJ.o (fun h=>hlen (by have :=congrArg List.length h;simpa using this)) w (Touch.refl _ _));go_wp2;go_ret
  exact HE.o
def jP(p q:MB)(w:World):Ending->World->Prop:=aI (p.plain=q.plain) w
theorem AZ(p q:MB)(w:World)(hp:p.In w)(hq:q.In w):Calls prog 173 #[p.val,q.val] w (jP p q w):=by
 have Ma:Hid (∀W,Touch [] w W->Calls prog 72 #[.agg #[p.v.kind,p.v.num,.slice p.v.addr p.v.parts.length p.v.cap],.agg #[q.v.kind,q.v.num,.slice q.v.addr q.v.parts.length q.v.cap]] W (aI (p.v.plain=q.v.plain) W)):=fun W hW=>by
  have hp:=hp.aW hW;have hq:=hq.aW hW;exact pU p.v q.v W hp.1 hq.1
 have HC3:Hid (∀W,Touch [] w W->Calls prog 255 #[.slice p.wa p.wraps.length p.wc,.slice q.wa q.wraps.length q.wc] W (aI (p.wraps.map MC.plain=q.wraps.map MC.plain) W)):=fun W hW=>by
  have hp:=hp.aW hW;have hq:=hq.aW hW;exact Bz W p.wa p.wc p.wraps q.wa q.wc q.wraps hp.2.1.1 hq.2.1.1 (fun W2 i g1 g2 h2=>Af _ _ W2 ((hp.2.1.2 _ (List.getElem_mem g1)).aW h2) ((hq.2.1.2 _ (List.getElem_mem g2)).aW h2))
 have HC4:Hid (∀W,Touch [] w W->Calls prog 71 #[.slice p.na p.aT.length p.nc,.slice q.na q.aT.length q.nc] W (aI (p.aT=q.aT) W)):=fun W hW=>by
  have hp:=hp.aW hW;have hq:=hq.aW hW;exact(JM W p.na p.nc p.aT q.na q.nc q.aT hp.2.2 hq.2.2).mono fun e w' h=>rH h (by simp) 
 have hiff:p.plain=q.plain↔(p.kind=q.kind)/\(p.n=q.n)/\(p.v.plain=q.v.plain)/\(p.wraps.map MC.plain=q.wraps.map MC.plain)/\(p.aT=q.aT):=by
  simp only[MB.plain,Prod.mk.injEq,List.map_id_fun,id_eq]
 have HN0:Hid (¬(p.kind=q.kind)->∀W,Touch [] w W->jP p q w (.returned (.bool false)) W):=fun hn W hW=>⟨false,rfl,by simp only[Bool.false_eq_true,false_iff];exact fun h0=>have h:=hiff.1 h0;hn h.1,hW⟩;have FR:Hid (¬(p.n=q.n)->∀W,Touch [] w W->jP p q w (.returned (.bool false)) W):=fun hn W hW=>⟨false,rfl,by simp only[Bool.false_eq_true,false_iff];exact fun h0=>have h:=hiff.1 h0;hn h.2.1,hW⟩;have Gy:Hid (¬(p.v.plain=q.v.plain)->∀W,Touch [] w W->jP p q w (.returned (.bool false)) W):=fun hn W hW=>⟨false,rfl,by simp only[Bool.false_eq_true,false_iff];exact fun h0=>have h:=hiff.1 h0;hn h.2.2.1,hW⟩;have HN3:Hid (¬(p.wraps.map MC.plain=q.wraps.map MC.plain)->∀W,Touch [] w W->jP p q w (.returned (.bool false)) W):=fun hn W hW=>⟨false,rfl,by simp only[Bool.false_eq_true,false_iff];exact fun h0=>have h:=hiff.1 h0;hn h.2.2.2.1,hW⟩;have HN4:Hid (¬(p.aT=q.aT)->∀W,Touch [] w W->jP p q w (.returned (.bool false)) W):=fun hn W hW=>⟨false,rfl,by simp only[Bool.false_eq_true,false_iff];exact fun h0=>have h:=hiff.1 h0;hn h.2.2.2.2,hW⟩;have Dj:Hid ((p.kind=q.kind)/\(p.n=q.n)/\(p.v.plain=q.v.plain)/\(p.wraps.map MC.plain=q.wraps.map MC.plain)/\(p.aT=q.aT)->∀W,Touch [] w W->jP p q w (.returned (.bool true)) W):=fun h W hW=>⟨true,rfl,by simp only[true_iff];exact hiff.2 h,hW⟩;clear hp hq hiff;simp only[MB.val];go_enter func173,ntmps173
 go_upto_region 1 with fail
 refine ay ?_;intro w1 hw1;have BB:=hdq ((BD.nil' w).DZ hw1);simp only[nAq]at BB;generalize hb2:w.heap.size+1=b2 at BB|-;generalize hb1:w.heap.size=b1 at BB|-;clear hw1 hb2 hb1;obtain⟨x0,x1,x2,x3,x4,x5,x6,_,zx,_,_⟩:=BB.o.c7 0 rfl;obtain⟨y0,y1,y2,y3,y4,y5,y6,_,zy,_,_⟩:=BB.o.c7 1 rfl;by_cases hk0:p.kind=q.kind
 .have ek0:(p.kind==q.kind)=true:=by simp[hk0]
  have HK0:=hdq hk0;clear hk0;by_cases hk1:p.n=q.n
  .have ek1:(p.n==q.n)=true:=by simp[hk1]
   have O3:=hdq hk1;clear hk1;go_wp2_with fail
   refine(Ma.o _ BB.o.BN).mono ?_;rintro e w2 ⟨c2,rfl,hc2,ht⟩;have HL2:=hdq (BB.o.touch ht);clear ht;clear x0 x1 x2 x3 x4 x5 x6 zx y0 y1 y2 y3 y4 y5 y6 zy;obtain⟨x0,x1,x2,x3,x4,x5,x6,_,zx,_,_⟩:=HL2.o.c7 0 rfl;obtain⟨y0,y1,y2,y3,y4,y5,y6,_,zy,_,_⟩:=HL2.o.c7 1 rfl;cases c2 with
   |true=>
    have HK2:=hdq (hc2.1 rfl);clear hc2;go_wp2_with fail
    refine(HC3.o _ HL2.o.BN).mono ?_;rintro e w3 ⟨c3,rfl,hc3,ht⟩;have BF:=hdq (HL2.o.touch ht);clear ht;clear x0 x1 x2 x3 x4 x5 x6 zx y0 y1 y2 y3 y4 y5 y6 zy;obtain⟨x0,x1,x2,x3,x4,x5,x6,_,zx,_,_⟩:=BF.o.c7 0 rfl;obtain⟨y0,y1,y2,y3,y4,y5,y6,_,zy,_,_⟩:=BF.o.c7 1 rfl;cases c3 with
    |true=>
     have HK3:=hdq (hc3.1 rfl);clear hc3;go_wp2_with fail
     refine(HC4.o _ BF.o.BN).mono ?_;rintro e w4 ⟨c4,rfl,hc4,ht⟩;have BH:=hdq (BF.o.touch ht);clear ht;clear x0 x1 x2 x3 x4 x5 x6 zx y0 y1 y2 y3 y4 y5 y6 zy;obtain⟨x0,x1,x2,x3,x4,x5,x6,_,zx,_,_⟩:=BH.o.c7 0 rfl;obtain⟨y0,y1,y2,y3,y4,y5,y6,_,zy,_,_⟩:=BH.o.c7 1 rfl;cases c4 with
     |true=>
      have HK4:=hdq (hc4.1 rfl);clear hc4;have HE:=hdq (Dj.o ⟨HK0.o,O3.o,HK2.o,HK3.o,HK4.o⟩ w4 BH.o.BN);go_wp2;go_ret
      exact HE.o
     |false=>
      have HE:=hdq (HN4.o (fun h=>by have :=hc4.2 h;simp at this) w4 BH.o.BN);clear hc4;go_wp2;go_ret
      exact HE.o
    |false=>
     have HE:=hdq (HN3.o (fun h=>by have :=hc3.2 h;simp at this) w3 BF.o.BN);clear hc3;go_wp2;go_ret
     exact HE.o
   |false=>
    have HE:=hdq (Gy.o (fun h=>by have :=hc2.2 h;simp at this) w2 HL2.o.BN);clear hc2;go_wp2;go_ret
    exact HE.o
  .have ek1:(p.n==q.n)=false:=by simp[hk1]
   have HE:=hdq (FR.o hk1 w1 BB.o.BN);go_wp2;go_ret
   exact HE.o
 .have ek0:(p.kind==q.kind)=false:=by simp[hk0]
  have HE:=hdq (HN0.o hk0 w1 BB.o.BN);go_wp2;go_ret
  exact HE.o
theorem AL(w:World)(a:Option Addr)(c:Nat)(l:List MB)(a':Option Addr)(c':Nat)(m:List MB)(h1:aG w a 7 l.length (l.flatMap MB.cells))(h2:aG w a' 7 m.length (m.flatMap MB.cells))(hone:∀W i (hi:i<l.length) (hi':i<m.length),Touch [] w W->Calls prog 173 #[l[i].val,m[i].val] W (aI (l[i].plain=m[i].plain) W)):Calls prog 70 #[.slice a l.length c,.slice a' m.length c'] w (kL MB.plain l m w):=by
 have H1:=hdq h1;have H2:=hdq h2;have HO:=hdq hone;have hb1:=h1.1;have hb2:=h2.1;have DJ:Hid (l.map MB.plain≠m.map MB.plain->∀W,Touch [] w W->kL MB.plain l m w (.returned (.bool false)) W):=fun h W hW=>⟨false,rfl,by simpa using h,hW⟩;have Dj:Hid (l.map MB.plain=m.map MB.plain->∀W,Touch [] w W->kL MB.plain l m w (.returned (.bool true)) W):=fun h W hW=>⟨true,rfl,by simpa using h,hW⟩;clear h1 h2 hone;go_enter func70,ntmps70
 by_cases hlen:l.length=m.length
 .have hl2:((l.length:Int) != (m.length:Int))=false:=by simp[hlen]
  have HLEN:Hid (l.length=m.length):=hlen;clear hlen;go_wp2;go_loopw [5] (fun p wr=>∃j:Nat,p= .int .i64 (j:Int)/\j<=l.length/\Hid (Touch [] w wr)/\Hid (∀i (g1:i<l.length) (g2:i<m.length),i<j->l[i].plain=m[i].plain)) (fun p _=>l.length-(intOf p).toNat)
  case atStart=>exact⟨0,rfl,Nat.zero_le _,Touch.refl _ _,fun i g1 g2 h0=>absurd h0 (Nat.not_lt_zero _)⟩
  case round=>
   obtain⟨j,rfl,hj,HT,HA⟩:=hrel;have hj0:(0:Int)<=(j:Int):=by omega
   by_cases hjl:j<l.length
   .have Cc:(j:Int)<(l.length:Int):=by omega
    have hjm:j<m.length:=by have :=HLEN.o;omega
    have hjm':(j:Int)<(m.length:Int):=by omega
    obtain⟨b1,o1,hba,hbb,hx⟩:=aG.at (f:=MB.cells) (fun _=>rfl) (H1.o.aW HT.o) j hjl;obtain⟨b2,o2,DF,hbb',hy⟩:=aG.at (f:=MB.cells) (fun _=>rfl) (H2.o.aW HT.o) j hjm;have HC:=hdq (fun W (hW:Touch [] wr W)=>HO.o W j hjl hjm (HT.o.trans' hW));have HN:=hdq (pz MB.plain j hjl hjm);have HJ:Hid (l[j].plain=m[j].plain->∀i (g1:i<l.length) (g2:i<m.length),i<j+1->l[i].plain=m[i].plain):=fun h i g1 g2 hi=>by
     by_cases hij:i=j
     .subst hij;exact h
     .exact HA.o i g1 g2 (by omega)
    obtain⟨u1,hu1⟩:∃u,l[j]=u:=⟨_,rfl⟩;obtain⟨u2,hu2⟩:∃u,m[j]=u:=⟨_,rfl⟩;have x0:wr.cell? ⟨b1,o1+j*7,none⟩=some (.int .i64 u1.kind):=(hx 0 (by omega)).trans (by rw[hu1];rfl);have x1:wr.cell? ⟨b1,o1+j*7+1,none⟩=some (.int .i64 u1.n):=(hx 1 (by omega)).trans (by rw[hu1];rfl);have x2:wr.cell? ⟨b1,o1+j*7+2,none⟩=some (.int .i64 u1.v.kind):=(hx 2 (by omega)).trans (by rw[hu1];rfl);have x3:wr.cell? ⟨b1,o1+j*7+3,none⟩=some (.int .i64 u1.v.num):=(hx 3 (by omega)).trans (by rw[hu1];rfl);have x4:wr.cell? ⟨b1,o1+j*7+4,none⟩=some (.slice u1.v.addr u1.v.parts.length u1.v.cap):=(hx 4 (by omega)).trans (by rw[hu1];rfl);have x5:wr.cell? ⟨b1,o1+j*7+5,none⟩=some (.slice u1.wa u1.wraps.length u1.wc):=(hx 5 (by omega)).trans (by rw[hu1];rfl);have x6:wr.cell? ⟨b1,o1+j*7+6,none⟩=some (.slice u1.na u1.aT.length u1.nc):=(hx 6 (by omega)).trans (by rw[hu1];rfl);have y0:wr.cell? ⟨b2,o2+j*7,none⟩=some (.int .i64 u2.kind):=(hy 0 (by omega)).trans (by rw[hu2];rfl);have y1:wr.cell? ⟨b2,o2+j*7+1,none⟩=some (.int .i64 u2.n):=(hy 1 (by omega)).trans (by rw[hu2];rfl);have y2:wr.cell? ⟨b2,o2+j*7+2,none⟩=some (.int .i64 u2.v.kind):=(hy 2 (by omega)).trans (by rw[hu2];rfl);have y3:wr.cell? ⟨b2,o2+j*7+3,none⟩=some (.int .i64 u2.v.num):=(hy 3 (by omega)).trans (by rw[hu2];rfl);have y4:wr.cell? ⟨b2,o2+j*7+4,none⟩=some (.slice u2.v.addr u2.v.parts.length u2.v.cap):=(hy 4 (by omega)).trans (by rw[hu2];rfl);have y5:wr.cell? ⟨b2,o2+j*7+5,none⟩=some (.slice u2.wa u2.wraps.length u2.wc):=(hy 5 (by omega)).trans (by rw[hu2];rfl);have y6:wr.cell? ⟨b2,o2+j*7+6,none⟩=some (.slice u2.na u2.aT.length u2.nc):=(hy 6 (by omega)).trans (by rw[hu2];rfl);rw[hu1,hu2]at HC HN HJ;rw[hba,DF];clear hx hy hu1 hu2;have FD:=hdq hba;have HBA':=hdq DF;clear hba DF;have BZ:=hdq (Touch.refl [] wr).drew;go_wp2_with fail
    refine hrq (S:=fun w'=>w'.cell? ⟨b1,o1+j*7,none⟩=some (.int .i64 u1.kind)/\w'.cell? ⟨b1,o1+j*7+1,none⟩=some (.int .i64 u1.n)/\w'.cell? ⟨b1,o1+j*7+2,none⟩=some (.int .i64 u1.v.kind)/\w'.cell? ⟨b1,o1+j*7+3,none⟩=some (.int .i64 u1.v.num)/\w'.cell? ⟨b1,o1+j*7+4,none⟩=some (.slice u1.v.addr u1.v.parts.length u1.v.cap)/\w'.cell? ⟨b1,o1+j*7+5,none⟩=some (.slice u1.wa u1.wraps.length u1.wc)/\w'.cell? ⟨b1,o1+j*7+6,none⟩=some (.slice u1.na u1.aT.length u1.nc)/\w'.cell? ⟨b2,o2+j*7,none⟩=some (.int .i64 u2.kind)/\w'.cell? ⟨b2,o2+j*7+1,none⟩=some (.int .i64 u2.n)/\w'.cell? ⟨b2,o2+j*7+2,none⟩=some (.int .i64 u2.v.kind)/\w'.cell? ⟨b2,o2+j*7+3,none⟩=some (.int .i64 u2.v.num)/\w'.cell? ⟨b2,o2+j*7+4,none⟩=some (.slice u2.v.addr u2.v.parts.length u2.v.cap)/\w'.cell? ⟨b2,o2+j*7+5,none⟩=some (.slice u2.wa u2.wraps.length u2.wc)/\w'.cell? ⟨b2,o2+j*7+6,none⟩=some (.slice u2.na u2.aT.length u2.nc)) fun hHeld=>?_;refine tkq 0 17 ?_;refine tkq 1 18 ?_;refine tkq 2 19 ?_;refine tkq 3 20 ?_;refine tkq 4 21 ?_;refine tkq 5 22 ?_;refine tkq 6 23 ?_;refine tkq 7 24 ?_;refine rdq 8 rfl fun K hK=>?_;go_simp;refine(HC.o _ BZ.o).mono ?_;rintro en w2 ⟨cb,rfl,hcb,ht⟩;have ht2:=BZ.o.trans' ht;have HT2:=hdq (HT.o.trans' ht2);have x0:=ht2.cellOf x0;have y0:=ht2.cellOf y0;have x1:=ht2.cellOf x1;have y1:=ht2.cellOf y1;have x2:=ht2.cellOf x2;have y2:=ht2.cellOf y2;have x3:=ht2.cellOf x3;have y3:=ht2.cellOf y3;have x4:=ht2.cellOf x4;have y4:=ht2.cellOf y4;have x5:=ht2.cellOf x5;have y5:=ht2.cellOf y5;have x6:=ht2.cellOf x6;have y6:=ht2.cellOf y6;clear ht ht2 HC BZ hHeld;cases cb with
    |true=>
     have HA2:=hdq (HJ.o (hcb.1 rfl));clear hcb HJ HN HA;go_simp;refine kpq hK.o fun hHeld=>?_;clear hK K;refine tkq 9 26 ?_;refine dnq ?_;clear hHeld;go_wp2;go_roundw
     case rel=>exact⟨j+1,by go_num,by omega,HT2,HA2⟩
     case measure=>simp[intOf];omega
    |false=>
     have he:=DJ.o (HN.o (fun h=>by have :=hcb.2 h;simp at this)) w2 HT2.o;have HE:=hdq he;clear he hcb HJ HN HA;go_simp;refine kpq hK.o fun hHeld=>?_;clear hK K;refine tkq 9 26 ?_;refine dnq ?_;clear hHeld;go_wp2;go_ret
     exact HE.o
   .have Cc:¬(j:Int)<(l.length:Int):=by omega
    have HE:=hdq (Dj.o (mY MB.plain HLEN.o (fun i g1 g2=>HA.o i g1 g2 (by omega))) wr HT.o);go_wp2;go_ret
    exact HE.o
 .have hl2:((l.length:Int) != (m.length:Int))=true:=by simp;omega
  have HE:=hdq (DJ.o (fun h=>hlen (by have :=congrArg List.length h;simpa using this)) w (Touch.refl _ _));go_wp2;go_ret
  exact HE.o
def gQ(p q:MS)(w:World):Ending->World->Prop:=aI (p.plain=q.plain) w
theorem Bf(p q:MS)(w:World)(hp:p.In w)(hq:q.In w):Calls prog 15 #[p.val,q.val] w (gQ p q w):=by
 have FW:Hid (∀W,Touch [] w W->Calls prog 70 #[.slice p.ba p.bases.length p.bc,.slice q.ba q.bases.length q.bc] W (aI (p.bases.map MB.plain=q.bases.map MB.plain) W)):=fun W hW=>by
  have hp:=hp.aW hW;have hq:=hq.aW hW;exact AL W p.ba p.bc p.bases q.ba q.bc q.bases hp.2.1.1 hq.2.1.1 (fun W2 i g1 g2 h2=>AZ _ _ W2 ((hp.2.1.2 _ (List.getElem_mem g1)).aW h2) ((hq.2.1.2 _ (List.getElem_mem g2)).aW h2))
 have Ma:Hid (∀W,Touch [] w W->Calls prog 71 #[.slice p.ca p.conds.length p.cc,.slice q.ca q.conds.length q.cc] W (aI (p.conds=q.conds) W)):=fun W hW=>by
  have hp:=hp.aW hW;have hq:=hq.aW hW;exact(JM W p.ca p.cc p.conds q.ca q.cc q.conds hp.2.2 hq.2.2).mono fun e w' h=>rH h (by simp) 
 have HC7:Hid (∀W,Touch [] w W->Calls prog 72 #[.agg #[p.v.kind,p.v.num,.slice p.v.addr p.v.parts.length p.v.cap],.agg #[q.v.kind,q.v.num,.slice q.v.addr q.v.parts.length q.v.cap]] W (aI (p.v.plain=q.v.plain) W)):=fun W hW=>by
  have hp:=hp.aW hW;have hq:=hq.aW hW;exact pU p.v q.v W hp.1 hq.1
 have hiff:p.plain=q.plain↔(p.thread=q.thread)/\(p.bases.map MB.plain=q.bases.map MB.plain)/\(p.conds=q.conds)/\(p.flag=q.flag)/\(p.parked=q.parked)/\(p.done=q.done)/\(p.branch=q.branch)/\(p.v.plain=q.v.plain)/\(p.partner=q.partner):=by
  simp only[MS.plain,Prod.mk.injEq,List.map_id_fun,id_eq]
 have HN0:Hid (¬(p.thread=q.thread)->∀W,Touch [] w W->gQ p q w (.returned (.bool false)) W):=fun hn W hW=>⟨false,rfl,by simp only[Bool.false_eq_true,false_iff];exact fun h0=>have h:=hiff.1 h0;hn h.1,hW⟩;have FR:Hid (¬(p.bases.map MB.plain=q.bases.map MB.plain)->∀W,Touch [] w W->gQ p q w (.returned (.bool false)) W):=fun hn W hW=>⟨false,rfl,by simp only[Bool.false_eq_true,false_iff];exact fun h0=>have h:=hiff.1 h0;hn h.2.1,hW⟩;have Gy:Hid (¬(p.conds=q.conds)->∀W,Touch [] w W->gQ p q w (.returned (.bool false)) W):=fun hn W hW=>⟨false,rfl,by simp only[Bool.false_eq_true,false_iff];exact fun h0=>have h:=hiff.1 h0;hn h.2.2.1,hW⟩;have HN3:Hid (¬(p.flag=q.flag)->∀W,Touch [] w W->gQ p q w (.returned (.bool false)) W):=fun hn W hW=>⟨false,rfl,by simp only[Bool.false_eq_true,false_iff];exact fun h0=>have h:=hiff.1 h0;hn h.2.2.2.1,hW⟩;have HN4:Hid (¬(p.parked=q.parked)->∀W,Touch [] w W->gQ p q w (.returned (.bool false)) W):=fun hn W hW=>⟨false,rfl,by simp only[Bool.false_eq_true,false_iff];exact fun h0=>have h:=hiff.1 h0;hn h.2.2.2.2.1,hW⟩;have HN5:Hid (¬(p.done=q.done)->∀W,Touch [] w W->gQ p q w (.returned (.bool false)) W):=fun hn W hW=>⟨false,rfl,by simp only[Bool.false_eq_true,false_iff];exact fun h0=>have h:=hiff.1 h0;hn h.2.2.2.2.2.1,hW⟩;have HN6:Hid (¬(p.branch=q.branch)->∀W,Touch [] w W->gQ p q w (.returned (.bool false)) W):=fun hn W hW=>⟨false,rfl,by simp only[Bool.false_eq_true,false_iff];exact fun h0=>have h:=hiff.1 h0;hn h.2.2.2.2.2.2.1,hW⟩;have HN7:Hid (¬(p.v.plain=q.v.plain)->∀W,Touch [] w W->gQ p q w (.returned (.bool false)) W):=fun hn W hW=>⟨false,rfl,by simp only[Bool.false_eq_true,false_iff];exact fun h0=>have h:=hiff.1 h0;hn h.2.2.2.2.2.2.2.1,hW⟩;have HN8:Hid (¬(p.partner=q.partner)->∀W,Touch [] w W->gQ p q w (.returned (.bool false)) W):=fun hn W hW=>⟨false,rfl,by simp only[Bool.false_eq_true,false_iff];exact fun h0=>have h:=hiff.1 h0;hn h.2.2.2.2.2.2.2.2,hW⟩;have Dj:Hid ((p.thread=q.thread)/\(p.bases.map MB.plain=q.bases.map MB.plain)/\(p.conds=q.conds)/\(p.flag=q.flag)/\(p.parked=q.parked)/\(p.done=q.done)/\(p.branch=q.branch)/\(p.v.plain=q.v.plain)/\(p.partner=q.partner)->∀W,Touch [] w W->gQ p q w (.returned (.bool true)) W):=fun h W hW=>⟨true,rfl,by simp only[true_iff];exact hiff.2 h,hW⟩;clear hp hq hiff;simp only[MS.val];go_enter func15,ntmps15
 go_upto_region 1 with fail
 refine ay ?_;intro w1 hw1;have BB:=hdq ((BD.nil' w).DZ hw1);simp only[nAq]at BB;generalize hb2:w.heap.size+1=b2 at BB|-;generalize hb1:w.heap.size=b1 at BB|-;clear hw1 hb2 hb1;obtain⟨x0,x1,x2,x3,x4,x5,x6,x7,x8,x9,x10,_,zx,_,_⟩:=BB.o.c11 0 rfl;obtain⟨y0,y1,y2,y3,y4,y5,y6,y7,y8,y9,YO,_,zy,_,_⟩:=BB.o.c11 1 rfl;by_cases hk0:p.thread=q.thread
 .have ek0:(p.thread==q.thread)=true:=by simp[hk0]
  have HK0:=hdq hk0;clear hk0;go_wp2_with fail
  refine(FW.o _ BB.o.BN).mono ?_;rintro e w2 ⟨c1,rfl,hc1,ht⟩;have HL2:=hdq (BB.o.touch ht);clear ht;clear x0 x1 x2 x3 x4 x5 x6 x7 x8 x9 x10 zx y0 y1 y2 y3 y4 y5 y6 y7 y8 y9 YO zy;obtain⟨x0,x1,x2,x3,x4,x5,x6,x7,x8,x9,x10,_,zx,_,_⟩:=HL2.o.c11 0 rfl;obtain⟨y0,y1,y2,y3,y4,y5,y6,y7,y8,y9,YO,_,zy,_,_⟩:=HL2.o.c11 1 rfl;cases c1 with
  |true=>
   have O3:=hdq (hc1.1 rfl);clear hc1;go_wp2_with fail
   refine(Ma.o _ HL2.o.BN).mono ?_;rintro e w3 ⟨c2,rfl,hc2,ht⟩;have BF:=hdq (HL2.o.touch ht);clear ht;clear x0 x1 x2 x3 x4 x5 x6 x7 x8 x9 x10 zx y0 y1 y2 y3 y4 y5 y6 y7 y8 y9 YO zy;obtain⟨x0,x1,x2,x3,x4,x5,x6,x7,x8,x9,x10,_,zx,_,_⟩:=BF.o.c11 0 rfl;obtain⟨y0,y1,y2,y3,y4,y5,y6,y7,y8,y9,YO,_,zy,_,_⟩:=BF.o.c11 1 rfl;cases c2 with
   |true=>
    have HK2:=hdq (hc2.1 rfl);clear hc2;by_cases hk3:p.flag=q.flag
    .have ek3:(p.flag==q.flag)=true:=by simp[hk3]
     have HK3:=hdq hk3;clear hk3;by_cases hk4:p.parked=q.parked
     .have ek4:(p.parked==q.parked)=true:=by simp[hk4]
      have HK4:=hdq hk4;clear hk4;by_cases hk5:p.done=q.done
      .have ek5:(p.done==q.done)=true:=by simp[hk5]
       have HK5:=hdq hk5;clear hk5;by_cases Hq:p.branch=q.branch
       .have ek6:(p.branch==q.branch)=true:=by simp[Hq]
        have HK6:=hdq Hq;clear Hq;go_wp2_with fail
        refine(HC7.o _ BF.o.BN).mono ?_;rintro e w4 ⟨c7,rfl,hc7,ht⟩;have BH:=hdq (BF.o.touch ht);clear ht;clear x0 x1 x2 x3 x4 x5 x6 x7 x8 x9 x10 zx y0 y1 y2 y3 y4 y5 y6 y7 y8 y9 YO zy;obtain⟨x0,x1,x2,x3,x4,x5,x6,x7,x8,x9,x10,_,zx,_,_⟩:=BH.o.c11 0 rfl;obtain⟨y0,y1,y2,y3,y4,y5,y6,y7,y8,y9,YO,_,zy,_,_⟩:=BH.o.c11 1 rfl;cases c7 with
        |true=>
         have HK7:=hdq (hc7.1 rfl);clear hc7;by_cases J6:p.partner=q.partner
         .have ek8:(p.partner==q.partner)=true:=by simp[J6]
          have HK8:=hdq J6;clear J6;have HE:=hdq (Dj.o ⟨HK0.o,O3.o,HK2.o,HK3.o,HK4.o,HK5.o,HK6.o,HK7.o,HK8.o⟩ w4 BH.o.BN);go_wp2;go_ret
          exact HE.o
         .have ek8:(p.partner==q.partner)=false:=by simp[J6]
          have HE:=hdq (HN8.o J6 w4 BH.o.BN);go_wp2;go_ret
          exact HE.o
        |false=>
         have HE:=hdq (HN7.o (fun h=>by have :=hc7.2 h;simp at this) w4 BH.o.BN);clear hc7;go_wp2;go_ret
         exact HE.o
       .have ek6:(p.branch==q.branch)=false:=by simp[Hq]
        have HE:=hdq (HN6.o Hq w3 BF.o.BN);go_wp2;go_ret
        exact HE.o
      .have ek5:(p.done==q.done)=false:=by simp[hk5]
       have HE:=hdq (HN5.o hk5 w3 BF.o.BN);go_wp2;go_ret
       exact HE.o
     .have ek4:(p.parked==q.parked)=false:=by simp[hk4]
      have HE:=hdq (HN4.o hk4 w3 BF.o.BN);go_wp2;go_ret
      exact HE.o
    .have ek3:(p.flag==q.flag)=false:=by simp[hk3]
     have HE:=hdq (HN3.o hk3 w3 BF.o.BN);go_wp2;go_ret
     exact HE.o
   |false=>
    have HE:=hdq (Gy.o (fun h=>by have :=hc2.2 h;simp at this) w3 BF.o.BN);clear hc2;go_wp2;go_ret
    exact HE.o
  |false=>
   have HE:=hdq (FR.o (fun h=>by have :=hc1.2 h;simp at this) w2 HL2.o.BN);clear hc1;go_wp2;go_ret
   exact HE.o
 .have ek0:(p.thread==q.thread)=false:=by simp[hk0]
  have HE:=hdq (HN0.o hk0 w1 BB.o.BN);go_wp2;go_ret
  exact HE.o
theorem BD.uM{T:List Nat}{w0 w w':World}{x:WS}{r0:List ai}{Q:World->Prop}(h:BD T w0 w (x.ts++r0))(h':BD [] w w' [aA Q]):BD T w0 w' ((x.knows Q).ts++r0):=
 (h.join h').settle 2 rfl (fun W f hp hv=>⟨hp,hv.2 W (fun _ _=>rfl)⟩)
theorem BD.Kt{T:List Nat}{w0 w:World}{x:WS}{r0:List ai}{ms:List MS}(h:BD T w0 w (x.ts++r0))(hms:x.sys=ms.map MS.raw)(n:Nat)(hn:n<ms.length)(g:Nat)(hg:x.a3=some ⟨g,0,none⟩)(r:Nat)(hr:r<11):w.cell? ⟨g,n*11+r,none⟩=ms[n].raw.cells[r]? :=by
 have h1:=h.jA n (by rw[hms];simpa using hn) g hg r hr;rw[h1];simp only[hms,List.getElem_map]
def qJ(x:WS)(ms:List MS)(k:Int)(v:bL)(er:Int)(x':WS):Prop:=
 (¬(0<=k/\k<(ms.length:Int))/\v=bL.zero/\er=4/\x'=x)\/∃(n:Nat) (hn:n<ms.length) (s':MS),k=(n:Int)/\er=0/\v=s'.raw/\s'.plain=ms[n].plain/\x'=x.knows (fun W=>s'.In W)
def Aj(T:List Nat)(w:World)(x:WS)(ms:List MS)(k:Int)(b2 b3:Nat)(en:Ending)(w':World):Prop:=∃(v:bL) (er:Int) (x':WS),qJ x ms k v er x'/\((er=0/\en= .returned v.val)\/(v=bL.zero/\en= .panicked (aX er)))/\BD T w w' (x'.ts++[wB x b2,kB b3 k])
def oH(b:Nat):ai:=box b 60 #[(),True,True,(),false,false,(),(),(),True,()]
theorem Nl(T:List Nat)(w:World)(x:WS)(ms:List MS)(b2 b3:Nat)(k:Int)(h:BD T w w (x.ts++[wB x b2,kB b3 k]))(hms:x.sys=ms.map MS.raw)(hin:∀W,x.P W->∀m∈ms,m.In W):
  Calls prog 62 #[b2,b3] w (Aj T w x ms k b2 b3):=by
 have BG:=hdq h;have HMS:=hdq hms;have Ed:=hdq hin;have hlen:x.sys.length=ms.length:=by rw[hms];simp
 clear h hms hin;obtain⟨p0,zp⟩:=BG.o.jc;obtain⟨q0,zq⟩:=BG.o.kBAt;go_enter func62,ntmps62
 go_wp2_with fail
 refine ah ?_;intro w1 hw1;have BB:Hid (BD T w w1 (x.ts++([wB x b2,kB b3 k]++[oH w.heap.size]))):=by
  have h1:=BG.o.DN hw1;rw[List.append_assoc]at h1;exact h1
 generalize hbf:w.heap.size=bf at BB|-;clear hw1 hbf BG p0 zp q0 zq;by_cases hk:0<=k/\k<(x.sys.length:Int)
 .obtain⟨n,rfl⟩:=Int.eq_ofNat_of_zero_le hk.1
  have hnk:n<x.sys.length:=by omega
  have hnm:n<ms.length:=by omega
  clear hk;obtain⟨g3,hg3,hx⟩:=BB.o.dU n hnk;clear hx;have HC:=hdq (BB.o.nC n hnk g3 hg3);have HG:=hdq hg3;clear hg3;refine HC.o.mono ?_;rintro e w2 ⟨rfl,ht⟩;have HL2:=hdq (BB.o.touch ht);clear ht HC BB;have HA:=hdq (fun r hr=>HL2.o.Kt HMS.o n hnm g3 HG.o r hr);have HI:=hdq (Ed.o _ (HL2.o.still 2 rfl) _ (List.getElem_mem hnm));have HE:Hid (∀s':MS,s'.plain=ms[n].plain->qJ x ms (n:Int) s'.raw 0 (x.knows (fun W=>s'.In W))):=fun s' hs=> .inr ⟨n,hnm,s',rfl,rfl,rfl,hs,rfl⟩;generalize ms[n]=m at HA HI HE;have p0:w2.cell? ⟨g3,n*11,none⟩=some (.int .i64 m.thread):=HA.o 0 (by omega);have p1:w2.cell? ⟨g3,n*11+1,none⟩=some (.slice m.ba m.bases.length m.bc):=HA.o 1 (by omega);have p2:w2.cell? ⟨g3,n*11+2,none⟩=some (.slice m.ca m.conds.length m.cc):=HA.o 2 (by omega);have p3:w2.cell? ⟨g3,n*11+3,none⟩=some (.int .i64 m.flag):=HA.o 3 (by omega);have p4:w2.cell? ⟨g3,n*11+4,none⟩=some (.bool m.parked):=HA.o 4 (by omega);have p5:w2.cell? ⟨g3,n*11+5,none⟩=some (.bool m.done):=HA.o 5 (by omega);have p6:w2.cell? ⟨g3,n*11+6,none⟩=some (.int .i64 m.branch):=HA.o 6 (by omega);have p7:w2.cell? ⟨g3,n*11+7,none⟩=some (.int .i64 m.v.kind):=HA.o 7 (by omega);have p8:w2.cell? ⟨g3,n*11+8,none⟩=some (.int .i64 m.v.num):=HA.o 8 (by omega);have p9:w2.cell? ⟨g3,n*11+9,none⟩=some (.slice m.v.addr m.v.parts.length m.v.cap):=HA.o 9 (by omega);have Ef:w2.cell? ⟨g3,n*11+10,none⟩=some (.int .i64 m.partner):=HA.o 10 (by omega);clear HA;go_wp2_with fail
  refine(xw m w2 HI.o).mono ?_;rintro e w3 ⟨s',rfl,hp,hL⟩;have BF:=hdq (HL2.o.uM hL);have HE3:=hdq (HE.o s' hp);clear hL hp HL2 HE HI p0 p1 p2 p3 p4 p5 p6 p7 p8 p9 Ef;have BH:=hdq (BD.aB (a:=[]) (c:=[oH bf]) (b:=(x.knows (fun W=>s'.In W)).ts++[wB x b2,kB b3 (n:Int)]) (by rw[List.nil_append,List.append_assoc];exact BF.o));simp only[nAq,cAq,oH]at BH;clear BF;obtain⟨p0,p1,p2,p3,p4,p5,p6,p7,p8,p9,Ef,⟨f0,f1,f2,f3,f4,f5,f6,f7,f8,f9,f10⟩,zp,_,_⟩:=BH.o.c11 0 rfl;have Ca:=hdq (((((((((((BH.o.set 0 rfl 0 (.int .i64 s'.thread)).set 0 rfl 1 (.slice s'.ba s'.bases.length s'.bc)).set 0 rfl 2 (.slice s'.ca s'.conds.length s'.cc)).set 0 rfl 3 (.int .i64 s'.flag)).set 0 rfl 4 (.bool s'.parked)).set 0 rfl 5 (.bool s'.done)).set 0 rfl 6 (.int .i64 s'.branch)).set 0 rfl 7 (.int .i64 s'.v.kind)).set 0 rfl 8 (.int .i64 s'.v.num)).set 0 rfl 9 (.slice s'.v.addr s'.v.parts.length s'.v.cap)).set 0 rfl 10 (.int .i64 s'.partner));simp only[sSq,sZq,sAq]at Ca;have HB:=hdq (Ca.o.c11 0 rfl);simp only[MS.val];go_wp2;clear p0 p1 p2 p3 p4 p5 p6 p7 p8 p9 Ef f0 f1 f2 f3 f4 f5 f6 f7 f8 f9 f10 zp BH;obtain⟨p0,p1,p2,p3,p4,p5,p6,p7,p8,p9,Ef,_,zp,_,_⟩:=HB.o;refine bodyPost_ret (v:=s'.raw.val) (by simp[results,results62,go_sem,p0,p1,p2,p3,p4,p5,p6,p7,p8,p9,Ef,bL.val,MS.raw]) rfl ?_;exact⟨_,0,_,HE3.o,.inl ⟨rfl,rfl⟩,BD.aF (BD.aB (a:=[]) (b:=[_]) Ca.o)⟩
 .have HC:=hdq (BB.o.fE k hk)
  have HE:Hid (qJ x ms k bL.zero 4 x):= .inl ⟨by rw[<-hlen];exact hk,rfl,rfl,rfl⟩;refine HC.o.mono ?_;rintro e w2 ⟨rfl,ht⟩;dsimp only;have h2:=BB.o.touch ht;rw[<-List.append_assoc]at h2;exact⟨rfl,_,4,x,HE.o,.inr ⟨rfl,rfl⟩,h2.aF⟩
theorem aaK(T:List Nat)(w:World)(x:WS)(ms:List MS)(k:Int)(h:BD T w w x.ts)(hms:x.sys=ms.map MS.raw)(hin:∀W,x.P W->∀m∈ms,m.In W):
  Calls prog 10 #[x.wb,k] w fun e w'=>∃(v:bL) (er:Int) (x':WS),e= .returned (.tuple #[v.val,.bool (er==0)])/\qJ x ms k v er x'/\BD T w w' x'.ts:=by
 have Ep:= @mfq;have BG:=hdq h;have HMS:=hdq hms;have Ed:=hdq hin;clear h hms hin;go_enter func10,ntmps10
 go_wp2_with fail
 refine ah ?_;intro w1 hw1;have BB:=hdq ((((BG.o.alloc 48 #[x.wb]).alloc 3 #[k]).alloc 60 #[(),True,True,(),false,false,(),(),(),True,()]).toW hw1);simp only[World.size_alloc,List.append_assoc,cAq,nAq]at BB;generalize hb4:w.heap.size+1+1=b4 at BB|-;generalize hb3:w.heap.size+1=b3 at BB|-;generalize hb2:w.heap.size=b2 at BB|-;clear hw1 hb4 hb3 hb2 BG;refine(sZ T w w1 _ _ _ (fun v er l'=>∃x',qJ x ms k v er x'/\l'=x'.ts++[wB x b2,kB b3 k]++[oH b4]) BB.o (enters_of func62 (by kernel_rfl) rfl) (fun T' W hW=>?_)).mono ?_
 .obtain⟨T2,hF,hb⟩:=BD.aN (m:=x.ts++[wB x b2,kB b3 k]) (r:=[oH b4]) (by rw[List.append_assoc];exact hW)
  refine(Nl T2 W x ms b2 b3 k hF HMS.o Ed.o).mono ?_;rintro en w' ⟨v,er,x',hx,he,hL⟩;exact⟨v,er,_,he,⟨x',hx,rfl⟩,hb _ _ hL⟩
 rintro en w2 ⟨v,er,l',rfl,⟨x',hx,rfl⟩,hL⟩;have HX:=hdq hx;have BF:=hdq hL;clear hL hx BB;unfold bL.val;dsimp only;go_upto_region 2 with fail
 refine ay ?_;intro w3 hw3;have BH:=hdq (BD.aB (a:=[]) (b:=x'.ts++[wB x b2,kB b3 k]) (c:=[oH b4,box w2.heap.size 60 #[v.thread,.slice v.jr v.gm v.jv,.slice v.ko v.kz v.jR,v.flag,v.parked,v.done,v.branch,v.kind,v.num,.slice v.lA v.lN v.lC,v.partner]]) (by simpa[oH]using(BF.o.DN hw3)));simp only[nAq,cAq,oH]at BH;generalize FK:w2.heap.size=b9 at BH|-;clear hw3 FK BF;obtain⟨p0,p1,p2,p3,p4,p5,p6,p7,p8,p9,Ef,⟨f0,f1,f2,f3,f4,f5,f6,f7,f8,f9,f10⟩,zp,_,_⟩:=BH.o.c11 0 rfl;obtain⟨q0,q1,q2,q3,q4,q5,q6,q7,q8,q9,E5,_,zq,_,_⟩:=BH.o.c11 1 rfl;have Ca:=hdq (((((((((((BH.o.set 0 rfl 0 (.int .i64 v.thread)).set 0 rfl 1 (.slice v.jr v.gm v.jv)).set 0 rfl 2 (.slice v.ko v.kz v.jR)).set 0 rfl 3 (.int .i64 v.flag)).set 0 rfl 4 (.bool v.parked)).set 0 rfl 5 (.bool v.done)).set 0 rfl 6 (.int .i64 v.branch)).set 0 rfl 7 (.int .i64 v.kind)).set 0 rfl 8 (.int .i64 v.num)).set 0 rfl 9 (.slice v.lA v.lN v.lC)).set 0 rfl 10 (.int .i64 v.partner));simp only[sSq,sZq,sAq]at Ca;clear BH;go_wp2;clear p0 p1 p2 p3 p4 p5 p6 p7 p8 p9 Ef f0 f1 f2 f3 f4 f5 f6 f7 f8 f9 f10 zp q0 q1 q2 q3 q4 q5 q6 q7 q8 q9 E5 zq;refine aP ?_;intro w5 DC;have C8:=hdq (Ca.o.toW DC);clear DC Ca;obtain⟨p0,p1,p2,p3,p4,p5,p6,p7,p8,p9,Ef,_,zp,_,_⟩:=C8.o.c11 0 rfl;have heq:∀W,(binOp .eql 67 (.int .i64 er) (.int .i64 0)).run prog W= .ok (.bool (er==0)) W:=fun W=>by simp[go_sem]
 refine bodyPost_ret (v:= .tuple #[v.val,.bool (er==0)]) (by simp[results,results10,go_sem,p0,p1,p2,p3,p4,p5,p6,p7,p8,p9,Ef,bL.val]) rfl ?_;refine⟨v,er,x',rfl,HX.o,?_⟩;have hz:BD T w w5 (x'.ts++[wB x b2,kB b3 k]++[_,_]):=BD.aB (a:=[]) (b:=[_,_]) C8.o;exact BD.aF (BD.aF hz)
end Go.Proofs.YtegejdlglonflaaGreatDoor
