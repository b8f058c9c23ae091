/-
  Texts of FirePlays, laid together by program.
-/
import Derived.Test.YtegejdlglonflaaGreatDoorWZ6
import Derived.Deep.Cut
namespace Go.Proofs.YtegejdlglonflaaGreatDoor
open Go.RowKit Go.Shelf Go.Proofs.Tryz
set_option maxRecDepth 100000
set_option maxHeartbeats 8000000
set_option linter.unusedVariables false
set_option linter.unusedSimpArgs false
def jq(w:World)(vc vl:Value)(s:Ar)(r:Ar×Acc×Nat)(e:Ending)(w':World):Prop:=
 ∃CQ Dk,e= .returned (.tuple #[bI CQ s.most Dk,r.2.1.val,(r.2.2:Int)])/\gu w' CQ Dk r.1/\Touch [] w w'/\∀b∈sb CQ++sb Dk,b∈sb vc++sb vl\/w.heap.size<=b
theorem nH(w:World)(vc vl:Value)(s:Ar)(op:Nat)(at_:Int)(x y:Int)(h:gu w vc vl s)(hat:¬(0<=at_/\at_<(s.C.length:Int)))(D9:Nat->Nat×Bool):
  Calls prog 289 #[bI vc s.most vl,(op:Int),at_,.int .u64 x,.int .u64 y] w (jq w vc vl s (s.iw op at_ D9)):=by
 obtain⟨aa,cp,rfl,hc1,hc2⟩:=aK h.Dh;obtain⟨la,lp,rfl,hl1,hl2⟩:=aK h.log;have HA:=hdq h;have hcl:=h.tQ;clear h;have hv:s.iw op at_ D9=(s,Acc.zero,4):=by simp only[Ar.iw];rw[if_neg hat]
 rw[hv];unfold bI;clear hv;go_enter func289,ntmps289
 by_cases h1:at_<0
 .go_wp2
  refine bodyPost_ret (v:= .tuple #[.agg #[.slice aa s.C.length cp,(s.most:Int),.slice la s.L.length lp],Acc.zero.val,(4:Int)]) (by simp[results,results289,go_sem,Acc.val,Acc.zero]) rfl ?_;exact⟨_,_,rfl,HA.o.touch ((((Touch.refl [] w).alloc _).alloc _).alloc _),(((Touch.refl [] w).alloc _).alloc _).alloc _,fun b hb=> .inl hb⟩
 .have h2:(s.C.length:Int)<=at_:=by omega
  go_wp2;refine bodyPost_ret (v:= .tuple #[.agg #[.slice aa s.C.length cp,(s.most:Int),.slice la s.L.length lp],Acc.zero.val,(4:Int)]) (by simp[results,results289,go_sem,Acc.val,Acc.zero]) rfl ?_;exact⟨_,_,rfl,HA.o.touch ((((Touch.refl [] w).alloc _).alloc _).alloc _),(((Touch.refl [] w).alloc _).alloc _).alloc _,fun b hb=> .inl hb⟩
theorem ig{W:World}{g:Nat}{x:Acc}(h:Cg W g 290 x.cells.toArray):W.ownsRow 0 290 5 (.slice (some ⟨g,0,none⟩) 1 1) 1 x.cells:=
 ⟨by simp[Acc.cells],.inr ⟨g,1,x.cells.toArray,rfl,Nat.zero_le _,h,Nat.le_refl _,by simp[maxLen],by simp[Acc.cells],by simp[Acc.cells]⟩⟩
theorem BD.iB{T:List Nat}{w0 w:World}{l:List ai}(h:BD T w0 w l)(e:TypeId)(size:Nat):BD T w0 (w.alloc (.cells #[] e)) (l++[Proofs.YtegejdlglonflaaGreatDoor.row e size (.slice (some ⟨w.heap.size,0,none⟩) 0 0) 0 []]):=
 h.new (t':=Proofs.YtegejdlglonflaaGreatDoor.row e size (.slice (some ⟨w.heap.size,0,none⟩) 0 0) 0 []) ⟨rfl,gF w e size⟩ ⟨(Touch.refl [] w).alloc _,fun k hk=> .inr (by simp[sb,Value.ownBlock]at hk;omega)⟩
theorem BD.Jp{w0 w:World}{l:List ai}(h:BD [] w0 w l)(i:Nat){e:TypeId}{size:Nat}{v:Value}{n:Nat}{xs:List Value}(hi:l[i]? =some (Proofs.YtegejdlglonflaaGreatDoor.row e size v n xs)):∀k∈sb v,w0.heap.size<=k:=by
 obtain⟨f,⟨hf,_⟩,hg⟩:=h.get i hi;subst hf;exact fun k hk=>(hg k hk).elim (fun h=>by simp at h) id
theorem je{w WF:World}{vc vl cv lv:Value}{s:Ar}{l:List ai}{x:Acc}(h:gu w vc vl s)(HL:BD [] w WF l)(h3:l[3]? =some (row 177 1 cv s.C.length (words (s.C.set x.at_ x.new))))(h5:l[5]? =some (row 290 5 lv (s.L.length+1) (aJ s.L++x.cells))){hq':x.at_<s.C.length}(Fa:s.C[x.at_]=x.old)(hq:x.at_<s.C.length):
  jq w vc vl s (s.acc x.op x.at_ x.new x.did,x,0) (.returned (.tuple #[bI cv s.most lv,x.val,.int .i64 ((0:Nat):Int)])) WF:=by
 have hg:s.C.getD x.at_ 0=x.old:=by simp[List.getD,hq,Fa]
 refine⟨cv,lv,rfl,⟨?_,?_,?_,h.most⟩,Touch.of_below HL.below [],?_⟩
 .have :=HL.row 3 h3
  simpa[Ar.acc]using this
 .have :=HL.row 5 h5
  simp only[Ar.acc,hg,List.length_append,List.length_cons,List.length_nil,kC];simpa[aJ]using this
 .simpa[Ar.acc]using h.tQ
 .intro b hb
  rcases List.mem_append.1 hb with hb|hb
  .exact .inr (HL.Jp 3 h3 b hb)
  .exact .inr (HL.Jp 5 h5 b hb)
theorem yE(w:World)(vc vl:Value)(s:Ar)(q:Nat)(was:Nat)(x y:Int)(h:gu w vc vl s)(hq:q<s.C.length)(EH:Hid (s.C[q]=was))(hL:s.L.length<=1048576):
  Calls prog 289 #[bI vc s.most vl,(1:Int),(q:Int),.int .u64 x,.int .u64 y] w (jq w vc vl s (s.acc 1 q was true,⟨1,q,was,was,true⟩,0)):=by
 obtain⟨i0,hi,CY,CU,CX⟩:=info_parts fB;obtain⟨j0,hj,EZ,jz1,ER⟩:=info_parts gy;obtain⟨ca,cp,cur,rfl,hcur,hc1,hc2,hc3,hc4⟩:=fC h.Dh (by omega);obtain⟨la,lp,rfl,hl1,hl2⟩:=aK h.log;have HA:=hdq h;have hcl:=h.tQ;have hcal:ca<w.heap.size:=hcur.lt;clear h hcur hc1 hc2 hc3 hc4 hl1 hl2;unfold bI;go_enter func289,ntmps289
 have hlt1:¬(q:Int)<0:=by omega
 have hlt2:¬(s.C.length:Int)<=(q:Int):=by omega
 go_upto_region 3 with fail
 obtain⟨W,hW⟩:∃W,((w.alloc (.cells #[.slice (some ⟨ca,0,none⟩) s.C.length cp,(s.most:Int),.slice la s.L.length lp] 42)).alloc (.cells #[True,(),True] 42)).alloc (.cells #[(),(),.int .u64 0,.int .u64 0,false] 290)=W:=⟨_,rfl⟩;rw[hW];have Fy:Hid (Touch [] w W):=hW▸(((Touch.refl [] w).alloc _).alloc _).alloc _;have EW:=hdq ((((BD.nil' w).alloc 42 #[.slice (some ⟨ca,0,none⟩) s.C.length cp,(s.most:Int),.slice la s.L.length lp]).alloc 42 #[True,(),True]).alloc 290 #[(),(),.int .u64 0,.int .u64 0,false]);rw[hW]at EW;simp only[nAq,cAq,World.size_alloc]at EW;have HRW:=hdq (HA.o.touch Fy.o);have cW:W.cell? ⟨ca,q,none⟩=some (.int .u64 (was:Int)):=by
  rw[dI HRW.o.Dh q (by rw[cO];exact hq)];simp[words,EH.o]
 obtain⟨b0,_,_,_,_,_,hl5⟩:=EW.o.c3 0 rfl;have HE:=hdq (gF W 177 1);have Hf:=hdq ((Touch.refl [] W).alloc (.cells #[] 177));clear hW;go_upto_region 17 with (at_builtin;go_must (refine bW _ rfl (.tmp 51) (.tmp 53) 39 rfl 177 i0 (.int .u64 0) 1 8 underlying39 hi CY CU CX rfl (by decide) (.slice (some ⟨W.heap.size,0,none⟩) 0 0) 0 [] rfl HE.o (.slice (some ⟨ca,0,none⟩) s.C.length cp) s.C.length (words s.C) rfl (dW HRW.o.Dh Hf.o (by simp)) (iR _) (by simp only[maxLen];omega) (by omega) ?_);intro a1 c1 w1 hown hgrow hat;refine Hid.o ?_)
 rw[Nat.zero_add,List.nil_append]at hown;rw[Nat.zero_add]at hat;obtain⟨g1,c1',cur1,hv1,Fh,_,_,_,_⟩:=fC hown (by omega);injection hv1 with e1 e2 e3
 subst e1 e3;have BB:=hdq ((EW.o.new (t':=row 177 1 (.slice (some ⟨W.heap.size,0,none⟩) 0 0) 0 []) ⟨rfl,HE.o⟩ ⟨(Touch.refl [] W).alloc _,fun k hk=> .inr (by simp[sb,Value.ownBlock]at hk;omega)⟩).grown 3 rfl hgrow hown hat);simp only[nAq,cAq,sSq,sZq]at BB;have hwd:=EW.o.size;have o1:w1.cell? ⟨g1,q,none⟩=some (.int .u64 (was:Int)):=by
  rw[dI hown q (by rw[cO];exact hq)];simp[words,EH.o]
 have o2:=dH hown q;obtain⟨b0,_,_,_,_,_,hl5⟩:=BB.o.c3 0 rfl;clear hown hgrow hat Fh e2 EW HE Hf cW Fy HRW;refine hdq ?_;go_upto_region 17 with fail
 obtain⟨V,hV⟩:∃V,(w1.setCell ⟨g1,q,none⟩ (.int .u64 (was:Int))).alloc (.cells #[(1:Int),(q:Int),.int .u64 (was:Int),.int .u64 (was:Int),true] 290)=V:=⟨_,rfl⟩;have DK:=hdq ((BB.o.tZ 3 rfl q (.int .u64 (was:Int))).alloc 290 #[(1:Int),(q:Int),.int .u64 (was:Int),.int .u64 (was:Int),true]);rw[hV,<-jB]at DK;simp only[nAq,cAq,sSq,sZq,World.size_setCell]at DK;obtain⟨b17,ED⟩:∃b17,w1.heap.size=b17:=⟨_,rfl⟩;rw[hV,ED];rw[ED]at DK;clear hV ED o1 o2 BB b0 hl5;obtain⟨v0,v1,v2,_,_,_,hl5⟩:=DK.o.c3 0 rfl;obtain⟨x0,x1,x2,x3,x4,_,_,_,_,_,CZ⟩:=DK.o.c5 4 rfl;obtain⟨_,_,_,_,_,_,DY⟩:=DK.o.c3 1 rfl;obtain⟨_,_,_,_,_,_,_,_,_,_,D5⟩:=DK.o.c5 2 rfl;have n1:=DK.o.ne 4 1 rfl rfl (by decide);have n2:=DK.o.ne 4 2 rfl rfl (by decide);have n3:=Ne.symm n1;have n4:=Ne.symm n2;have n5:w.heap.size≠w.heap.size+1+1:=by omega
 have n6:w.heap.size+1+1≠w.heap.size:=by omega
 have GI:Hid (V.ownsRow 0 290 5 (.slice la s.L.length lp) s.L.length (aJ s.L)):=dN HA.o.log (fun k hk=>DK.o.below.block k (iW HA.o.log k hk));have Gj:=hdq ((DK.o.iB 290 5).drew);have Gs:=hdq (((DK.o.iB 290 5).alloc 290 #[(1:Int),(q:Int),.int .u64 (was:Int),.int .u64 (was:Int),true]).drew);have Gm:=hdq ((((DK.o.alloc 290 #[(1:Int),(q:Int),.int .u64 (was:Int),.int .u64 (was:Int),true]).iB 290 5).drew).pick [0,1,2,3,4,6,5] (by decide) (by simp));simp only[nAq,cAq,World.size_alloc,List.filterMap_cons,List.filterMap_nil,List.getElem?_cons_zero,List.getElem?_cons_succ]at Gj Gs Gm;have HRa:=hdq (dx (GI.o.alloc (.cells #[] 290)));have HRb:=hdq (dx ((GI.o.alloc (.cells #[] 290)).alloc (.cells #[(1:Int),(q:Int),.int .u64 (was:Int),.int .u64 (was:Int),true] 290)));have HRc:=hdq (dx ((GI.o.alloc (.cells #[(1:Int),(q:Int),.int .u64 (was:Int),.int .u64 (was:Int),true] 290)).alloc (.cells #[] 290)));go_region_held3 (fun w'=>w'.cell? ⟨w.heap.size,1,none⟩=some (.int .i64 (s.most:Int))/\w'.cell? ⟨w.heap.size,2,none⟩=some (.slice la s.L.length lp)/\w'.cell? ⟨b17,0,none⟩=some (.int .i64 1)/\w'.cell? ⟨b17,1,none⟩=some (.int .i64 (q:Int))/\w'.cell? ⟨b17,2,none⟩=some (.int .u64 (was:Int))/\w'.cell? ⟨b17,3,none⟩=some (.int .u64 (was:Int))/\w'.cell? ⟨b17,4,none⟩=some (.bool true)) (go_keep) (first
  |(refine aR _ (by rfl) (.tmp 68) (.tmp 70) 40 (by rfl) 290 j0 _ 5 40 underlying40 hj EZ jz1 ER rfl (by decide) (.slice (some ⟨V.heap.size,0,none⟩) 0 0) 0 [] (by rfl) (Gj.o.row 5 rfl) (.slice la s.L.length lp) s.L.length (aJ s.L) (by rfl) HRa.o (dV _) (by simp only[maxLen];omega) (by omega) ?_;intro a2 c2 w2 hown hgrow hat;simp only[Nat.zero_add,nAq]at hown hat|-;have HL2:=hdq (Gj.o.grown 5 rfl hgrow hown hat);simp only[sSq,sZq]at HL2;obtain⟨v0,v1,v2,_,_,_,hl5⟩:=HL2.o.c3 0 rfl;obtain⟨x0,x1,x2,x3,x4,_,_,_,_,_,CZ⟩:=HL2.o.c5 4 rfl;obtain⟨Ef,_,_,E5,_,_,DY⟩:=HL2.o.c3 1 rfl;obtain⟨FM,_,_,_,_,FQ,_,_,_,_,D5⟩:=HL2.o.c5 2 rfl;clear hown hgrow hat)
  |(refine aR _ (by rfl) (.tmp 68) (.tmp 70) 40 (by rfl) 290 j0 _ 5 40 underlying40 hj EZ jz1 ER rfl (by decide) (.slice (some ⟨V.heap.size,0,none⟩) 0 0) 0 [] (by rfl) (Gs.o.row 5 rfl) (.slice la s.L.length lp) s.L.length (aJ s.L) (by rfl) HRb.o (dV _) (by simp only[maxLen];omega) (by omega) ?_;intro a2 c2 w2 hown hgrow hat;simp only[Nat.zero_add,nAq]at hown hat|-;have HL2:=hdq (Gs.o.grown 5 rfl hgrow hown hat);simp only[sSq,sZq]at HL2;obtain⟨v0,v1,v2,_,_,_,hl5⟩:=HL2.o.c3 0 rfl;obtain⟨x0,x1,x2,x3,x4,_,_,_,_,_,CZ⟩:=HL2.o.c5 4 rfl;obtain⟨Ef,_,_,E5,_,_,DY⟩:=HL2.o.c3 1 rfl;obtain⟨FM,_,_,_,_,FQ,_,_,_,_,D5⟩:=HL2.o.c5 2 rfl;clear hown hgrow hat)
  |(refine aR _ (by rfl) (.tmp 68) (.tmp 70) 40 (by rfl) 290 j0 _ 5 40 underlying40 hj EZ jz1 ER rfl (by decide) (.slice (some ⟨V.heap.size+1,0,none⟩) 0 0) 0 [] (by rfl) (Gm.o.row 5 rfl) (.slice la s.L.length lp) s.L.length (aJ s.L) (by rfl) HRc.o (dV _) (by simp only[maxLen];omega) (by omega) ?_;intro a2 c2 w2 hown hgrow hat;simp only[Nat.zero_add,nAq]at hown hat|-;have HL2:=hdq (Gm.o.grown 5 rfl hgrow hown hat);simp only[sSq,sZq]at HL2;obtain⟨v0,v1,v2,_,_,_,hl5⟩:=HL2.o.c3 0 rfl;obtain⟨x0,x1,x2,x3,x4,_,_,_,_,_,CZ⟩:=HL2.o.c5 4 rfl;obtain⟨Ef,_,_,E5,_,_,DY⟩:=HL2.o.c3 1 rfl;obtain⟨FM,_,_,_,_,FQ,_,_,_,_,D5⟩:=HL2.o.c5 2 rfl;clear hown hgrow hat)
  |(refine aR _ (by rfl) (.tmp 71) (.tmp 73) 40 (by rfl) 290 j0 _ 5 40 underlying40 hj EZ jz1 ER rfl (by decide) (.slice a2 s.L.length c2) s.L.length (aJ s.L) (by rfl) ((HL2.o.alloc _ _).row 5 rfl) (.slice (some ⟨w2.heap.size,0,none⟩) 1 1) 1 (Acc.cells ⟨1,q,was,was,true⟩) (by rfl) (ig ((HL2.o.alloc _ _).box 6 rfl)) (gZ _) (by simp only[maxLen];omega) (by omega) ?_;intro a3 c3 w3 hown hgrow hat;have BF:=hdq ((HL2.o.alloc _ _).grown 5 rfl hgrow hown hat);simp only[sSq,sZq,cAq,nAq]at BF;obtain⟨v0,v1,v2,_,_,_,hl5⟩:=BF.o.c3 0 rfl;obtain⟨x0,x1,x2,x3,x4,_,_,_,_,_,CZ⟩:=BF.o.c5 4 rfl;obtain⟨Ef,GJ,GA,E5,Gv,GH,DY⟩:=BF.o.c3 1 rfl;obtain⟨FM,Gf,Gt,Gu,Gx,FQ,GD,GQ,Gp,Gq,D5⟩:=BF.o.c5 2 rfl;clear hown hgrow hat)
  |(refine aR _ (by rfl) (.tmp 71) (.tmp 73) 40 (by rfl) 290 j0 _ 5 40 underlying40 hj EZ jz1 ER rfl (by decide) (.slice a2 s.L.length c2) s.L.length (aJ s.L) (by rfl) (HL2.o.row 5 rfl) (.slice (some ⟨_,0,none⟩) 1 1) 1 (Acc.cells ⟨1,q,was,was,true⟩) (by rfl) (ig (HL2.o.box 6 rfl)) (gZ _) (by simp only[maxLen];omega) (by omega) ?_;intro a3 c3 w3 hown hgrow hat;have BF:=hdq (HL2.o.grown 5 rfl hgrow hown hat);simp only[sSq,sZq,cAq,nAq]at BF;obtain⟨v0,v1,v2,_,_,_,hl5⟩:=BF.o.c3 0 rfl;obtain⟨x0,x1,x2,x3,x4,_,_,_,_,_,CZ⟩:=BF.o.c5 4 rfl;obtain⟨Ef,GJ,GA,E5,Gv,GH,DY⟩:=BF.o.c3 1 rfl;obtain⟨FM,Gf,Gt,Gu,Gx,FQ,GD,GQ,Gp,Gq,D5⟩:=BF.o.c5 2 rfl;clear hown hgrow hat))
 all_goals go_wp2
 all_goals have FE:=hdq ((((((((BF.o.set 1 rfl 0 (.slice (some ⟨g1,0,none⟩) s.C.length c1)).set 1 rfl 1 (.int .i64 (s.most:Int))).set 1 rfl 2 (.slice a3 (s.L.length+1) c3)).set 2 rfl 0 (.int .i64 1)).set 2 rfl 1 (.int .i64 (q:Int))).set 2 rfl 2 (.int .u64 (was:Int))).set 2 rfl 3 (.int .u64 (was:Int))).set 2 rfl 4 (.bool true))
 all_goals simp only[sSq,sZq,sAq]at FE
 all_goals obtain⟨y0,y1,y2,_,_,_,_⟩:=FE.o.c3 1 rfl
 all_goals obtain⟨z0,z1,z2,z3,z4,_,_,_,_,_,_⟩:=FE.o.c5 2 rfl
 all_goals refine bodyPost_ret (v:= .tuple #[.agg #[.slice (some ⟨g1,0,none⟩) s.C.length c1,(s.most:Int),.slice a3 (s.L.length+1) c3],.agg #[(1:Int),(q:Int),.int .u64 (was:Int),.int .u64 (was:Int),true],()]) (by simp[results,results289,go_sem,y0,y1,y2,z0,z1,z2,z3,z4]) rfl ?_
 all_goals exact je (x:=⟨1,q,was,was,true⟩) HA.o FE.o rfl rfl EH.o hq
theorem vJ(w:World)(vc vl:Value)(s:Ar)(q:Nat)(was:Nat)(v:Nat)(y:Int)(h:gu w vc vl s)(hq:q<s.C.length)(EH:Hid (s.C[q]=was))(hL:s.L.length<=1048576):
  Calls prog 289 #[bI vc s.most vl,(2:Int),(q:Int),.int .u64 (v:Int),.int .u64 y] w (jq w vc vl s (s.acc 2 q v true,⟨2,q,was,v,true⟩,0)):=by
 obtain⟨i0,hi,CY,CU,CX⟩:=info_parts fB;obtain⟨j0,hj,EZ,jz1,ER⟩:=info_parts gy;obtain⟨ca,cp,cur,rfl,hcur,hc1,hc2,hc3,hc4⟩:=fC h.Dh (by omega);obtain⟨la,lp,rfl,hl1,hl2⟩:=aK h.log;have HA:=hdq h;have hcl:=h.tQ;have hcal:ca<w.heap.size:=hcur.lt;clear h hcur hc1 hc2 hc3 hc4 hl1 hl2;unfold bI;go_enter func289,ntmps289
 have hlt1:¬(q:Int)<0:=by omega
 have hlt2:¬(s.C.length:Int)<=(q:Int):=by omega
 go_upto_region 3 with fail
 obtain⟨W,hW⟩:∃W,((w.alloc (.cells #[.slice (some ⟨ca,0,none⟩) s.C.length cp,(s.most:Int),.slice la s.L.length lp] 42)).alloc (.cells #[True,(),True] 42)).alloc (.cells #[(),(),.int .u64 0,.int .u64 0,false] 290)=W:=⟨_,rfl⟩;rw[hW];have Fy:Hid (Touch [] w W):=hW▸(((Touch.refl [] w).alloc _).alloc _).alloc _;have EW:=hdq ((((BD.nil' w).alloc 42 #[.slice (some ⟨ca,0,none⟩) s.C.length cp,(s.most:Int),.slice la s.L.length lp]).alloc 42 #[True,(),True]).alloc 290 #[(),(),.int .u64 0,.int .u64 0,false]);rw[hW]at EW;simp only[nAq,cAq,World.size_alloc]at EW;have HRW:=hdq (HA.o.touch Fy.o);have cW:W.cell? ⟨ca,q,none⟩=some (.int .u64 (was:Int)):=by
  rw[dI HRW.o.Dh q (by rw[cO];exact hq)];simp[words,EH.o]
 obtain⟨b0,_,_,_,_,_,hl5⟩:=EW.o.c3 0 rfl;have HE:=hdq (gF W 177 1);have Hf:=hdq ((Touch.refl [] W).alloc (.cells #[] 177));clear hW;go_upto_region 17 with (at_builtin;go_must (refine bW _ rfl (.tmp 51) (.tmp 53) 39 rfl 177 i0 (.int .u64 0) 1 8 underlying39 hi CY CU CX rfl (by decide) (.slice (some ⟨W.heap.size,0,none⟩) 0 0) 0 [] rfl HE.o (.slice (some ⟨ca,0,none⟩) s.C.length cp) s.C.length (words s.C) rfl (dW HRW.o.Dh Hf.o (by simp)) (iR _) (by simp only[maxLen];omega) (by omega) ?_);intro a1 c1 w1 hown hgrow hat;refine Hid.o ?_)
 rw[Nat.zero_add,List.nil_append]at hown;rw[Nat.zero_add]at hat;obtain⟨g1,c1',cur1,hv1,Fh,_,_,_,_⟩:=fC hown (by omega);injection hv1 with e1 e2 e3
 subst e1 e3;have BB:=hdq ((EW.o.new (t':=row 177 1 (.slice (some ⟨W.heap.size,0,none⟩) 0 0) 0 []) ⟨rfl,HE.o⟩ ⟨(Touch.refl [] W).alloc _,fun k hk=> .inr (by simp[sb,Value.ownBlock]at hk;omega)⟩).grown 3 rfl hgrow hown hat);simp only[nAq,cAq,sSq,sZq]at BB;have hwd:=EW.o.size;have o1:w1.cell? ⟨g1,q,none⟩=some (.int .u64 (was:Int)):=by
  rw[dI hown q (by rw[cO];exact hq)];simp[words,EH.o]
 have o2:=dH hown q;obtain⟨b0,_,_,_,_,_,hl5⟩:=BB.o.c3 0 rfl;clear hown hgrow hat Fh e2 EW HE Hf cW Fy HRW;refine hdq ?_;go_upto_region 17 with fail
 obtain⟨V,hV⟩:∃V,(w1.setCell ⟨g1,q,none⟩ (.int .u64 (v:Int))).alloc (.cells #[(2:Int),(q:Int),.int .u64 (was:Int),.int .u64 (v:Int),true] 290)=V:=⟨_,rfl⟩;have DK:=hdq ((BB.o.tZ 3 rfl q (.int .u64 (v:Int))).alloc 290 #[(2:Int),(q:Int),.int .u64 (was:Int),.int .u64 (v:Int),true]);rw[hV,<-jB]at DK;simp only[nAq,cAq,sSq,sZq,World.size_setCell]at DK;obtain⟨b17,ED⟩:∃b17,w1.heap.size=b17:=⟨_,rfl⟩;rw[hV,ED];rw[ED]at DK;clear hV ED o1 o2 BB b0 hl5;obtain⟨v0,v1,v2,_,_,_,hl5⟩:=DK.o.c3 0 rfl;obtain⟨x0,x1,x2,x3,x4,_,_,_,_,_,CZ⟩:=DK.o.c5 4 rfl;obtain⟨_,_,_,_,_,_,DY⟩:=DK.o.c3 1 rfl;obtain⟨_,_,_,_,_,_,_,_,_,_,D5⟩:=DK.o.c5 2 rfl;have n1:=DK.o.ne 4 1 rfl rfl (by decide);have n2:=DK.o.ne 4 2 rfl rfl (by decide);have n3:=Ne.symm n1;have n4:=Ne.symm n2;have n5:w.heap.size≠w.heap.size+1+1:=by omega
 have n6:w.heap.size+1+1≠w.heap.size:=by omega
 have GI:Hid (V.ownsRow 0 290 5 (.slice la s.L.length lp) s.L.length (aJ s.L)):=dN HA.o.log (fun k hk=>DK.o.below.block k (iW HA.o.log k hk));have Gj:=hdq ((DK.o.iB 290 5).drew);have Gs:=hdq (((DK.o.iB 290 5).alloc 290 #[(2:Int),(q:Int),.int .u64 (was:Int),.int .u64 (v:Int),true]).drew);have Gm:=hdq ((((DK.o.alloc 290 #[(2:Int),(q:Int),.int .u64 (was:Int),.int .u64 (v:Int),true]).iB 290 5).drew).pick [0,1,2,3,4,6,5] (by decide) (by simp));simp only[nAq,cAq,World.size_alloc,List.filterMap_cons,List.filterMap_nil,List.getElem?_cons_zero,List.getElem?_cons_succ]at Gj Gs Gm;have HRa:=hdq (dx (GI.o.alloc (.cells #[] 290)));have HRb:=hdq (dx ((GI.o.alloc (.cells #[] 290)).alloc (.cells #[(2:Int),(q:Int),.int .u64 (was:Int),.int .u64 (v:Int),true] 290)));have HRc:=hdq (dx ((GI.o.alloc (.cells #[(2:Int),(q:Int),.int .u64 (was:Int),.int .u64 (v:Int),true] 290)).alloc (.cells #[] 290)));go_region_held3 (fun w'=>w'.cell? ⟨w.heap.size,1,none⟩=some (.int .i64 (s.most:Int))/\w'.cell? ⟨w.heap.size,2,none⟩=some (.slice la s.L.length lp)/\w'.cell? ⟨b17,0,none⟩=some (.int .i64 2)/\w'.cell? ⟨b17,1,none⟩=some (.int .i64 (q:Int))/\w'.cell? ⟨b17,2,none⟩=some (.int .u64 (was:Int))/\w'.cell? ⟨b17,3,none⟩=some (.int .u64 (v:Int))/\w'.cell? ⟨b17,4,none⟩=some (.bool true)) (go_keep) (first
  |(refine aR _ (by rfl) (.tmp 68) (.tmp 70) 40 (by rfl) 290 j0 _ 5 40 underlying40 hj EZ jz1 ER rfl (by decide) (.slice (some ⟨V.heap.size,0,none⟩) 0 0) 0 [] (by rfl) (Gj.o.row 5 rfl) (.slice la s.L.length lp) s.L.length (aJ s.L) (by rfl) HRa.o (dV _) (by simp only[maxLen];omega) (by omega) ?_;intro a2 c2 w2 hown hgrow hat;simp only[Nat.zero_add,nAq]at hown hat|-;have HL2:=hdq (Gj.o.grown 5 rfl hgrow hown hat);simp only[sSq,sZq]at HL2;obtain⟨v0,v1,v2,_,_,_,hl5⟩:=HL2.o.c3 0 rfl;obtain⟨x0,x1,x2,x3,x4,_,_,_,_,_,CZ⟩:=HL2.o.c5 4 rfl;obtain⟨Ef,_,_,E5,_,_,DY⟩:=HL2.o.c3 1 rfl;obtain⟨FM,_,_,_,_,FQ,_,_,_,_,D5⟩:=HL2.o.c5 2 rfl;clear hown hgrow hat)
  |(refine aR _ (by rfl) (.tmp 68) (.tmp 70) 40 (by rfl) 290 j0 _ 5 40 underlying40 hj EZ jz1 ER rfl (by decide) (.slice (some ⟨V.heap.size,0,none⟩) 0 0) 0 [] (by rfl) (Gs.o.row 5 rfl) (.slice la s.L.length lp) s.L.length (aJ s.L) (by rfl) HRb.o (dV _) (by simp only[maxLen];omega) (by omega) ?_;intro a2 c2 w2 hown hgrow hat;simp only[Nat.zero_add,nAq]at hown hat|-;have HL2:=hdq (Gs.o.grown 5 rfl hgrow hown hat);simp only[sSq,sZq]at HL2;obtain⟨v0,v1,v2,_,_,_,hl5⟩:=HL2.o.c3 0 rfl;obtain⟨x0,x1,x2,x3,x4,_,_,_,_,_,CZ⟩:=HL2.o.c5 4 rfl;obtain⟨Ef,_,_,E5,_,_,DY⟩:=HL2.o.c3 1 rfl;obtain⟨FM,_,_,_,_,FQ,_,_,_,_,D5⟩:=HL2.o.c5 2 rfl;clear hown hgrow hat)
  |(refine aR _ (by rfl) (.tmp 68) (.tmp 70) 40 (by rfl) 290 j0 _ 5 40 underlying40 hj EZ jz1 ER rfl (by decide) (.slice (some ⟨V.heap.size+1,0,none⟩) 0 0) 0 [] (by rfl) (Gm.o.row 5 rfl) (.slice la s.L.length lp) s.L.length (aJ s.L) (by rfl) HRc.o (dV _) (by simp only[maxLen];omega) (by omega) ?_;intro a2 c2 w2 hown hgrow hat;simp only[Nat.zero_add,nAq]at hown hat|-;have HL2:=hdq (Gm.o.grown 5 rfl hgrow hown hat);simp only[sSq,sZq]at HL2;obtain⟨v0,v1,v2,_,_,_,hl5⟩:=HL2.o.c3 0 rfl;obtain⟨x0,x1,x2,x3,x4,_,_,_,_,_,CZ⟩:=HL2.o.c5 4 rfl;obtain⟨Ef,_,_,E5,_,_,DY⟩:=HL2.o.c3 1 rfl;obtain⟨FM,_,_,_,_,FQ,_,_,_,_,D5⟩:=HL2.o.c5 2 rfl;clear hown hgrow hat)
  |(refine aR _ (by rfl) (.tmp 71) (.tmp 73) 40 (by rfl) 290 j0 _ 5 40 underlying40 hj EZ jz1 ER rfl (by decide) (.slice a2 s.L.length c2) s.L.length (aJ s.L) (by rfl) ((HL2.o.alloc _ _).row 5 rfl) (.slice (some ⟨w2.heap.size,0,none⟩) 1 1) 1 (Acc.cells ⟨2,q,was,v,true⟩) (by rfl) (ig ((HL2.o.alloc _ _).box 6 rfl)) (gZ _) (by simp only[maxLen];omega) (by omega) ?_;intro a3 c3 w3 hown hgrow hat;have BF:=hdq ((HL2.o.alloc _ _).grown 5 rfl hgrow hown hat);simp only[sSq,sZq,cAq,nAq]at BF;obtain⟨v0,v1,v2,_,_,_,hl5⟩:=BF.o.c3 0 rfl;obtain⟨x0,x1,x2,x3,x4,_,_,_,_,_,CZ⟩:=BF.o.c5 4 rfl;obtain⟨Ef,GJ,GA,E5,Gv,GH,DY⟩:=BF.o.c3 1 rfl;obtain⟨FM,Gf,Gt,Gu,Gx,FQ,GD,GQ,Gp,Gq,D5⟩:=BF.o.c5 2 rfl;clear hown hgrow hat)
  |(refine aR _ (by rfl) (.tmp 71) (.tmp 73) 40 (by rfl) 290 j0 _ 5 40 underlying40 hj EZ jz1 ER rfl (by decide) (.slice a2 s.L.length c2) s.L.length (aJ s.L) (by rfl) (HL2.o.row 5 rfl) (.slice (some ⟨_,0,none⟩) 1 1) 1 (Acc.cells ⟨2,q,was,v,true⟩) (by rfl) (ig (HL2.o.box 6 rfl)) (gZ _) (by simp only[maxLen];omega) (by omega) ?_;intro a3 c3 w3 hown hgrow hat;have BF:=hdq (HL2.o.grown 5 rfl hgrow hown hat);simp only[sSq,sZq,cAq,nAq]at BF;obtain⟨v0,v1,v2,_,_,_,hl5⟩:=BF.o.c3 0 rfl;obtain⟨x0,x1,x2,x3,x4,_,_,_,_,_,CZ⟩:=BF.o.c5 4 rfl;obtain⟨Ef,GJ,GA,E5,Gv,GH,DY⟩:=BF.o.c3 1 rfl;obtain⟨FM,Gf,Gt,Gu,Gx,FQ,GD,GQ,Gp,Gq,D5⟩:=BF.o.c5 2 rfl;clear hown hgrow hat))
 all_goals go_wp2
 all_goals have FE:=hdq ((((((((BF.o.set 1 rfl 0 (.slice (some ⟨g1,0,none⟩) s.C.length c1)).set 1 rfl 1 (.int .i64 (s.most:Int))).set 1 rfl 2 (.slice a3 (s.L.length+1) c3)).set 2 rfl 0 (.int .i64 2)).set 2 rfl 1 (.int .i64 (q:Int))).set 2 rfl 2 (.int .u64 (was:Int))).set 2 rfl 3 (.int .u64 (v:Int))).set 2 rfl 4 (.bool true))
 all_goals simp only[sSq,sZq,sAq]at FE
 all_goals obtain⟨y0,y1,y2,_,_,_,_⟩:=FE.o.c3 1 rfl
 all_goals obtain⟨z0,z1,z2,z3,z4,_,_,_,_,_,_⟩:=FE.o.c5 2 rfl
 all_goals refine bodyPost_ret (v:= .tuple #[.agg #[.slice (some ⟨g1,0,none⟩) s.C.length c1,(s.most:Int),.slice a3 (s.L.length+1) c3],.agg #[(2:Int),(q:Int),.int .u64 (was:Int),.int .u64 (v:Int),true],()]) (by simp[results,results289,go_sem,y0,y1,y2,z0,z1,z2,z3,z4]) rfl ?_
 all_goals exact je (x:=⟨2,q,was,v,true⟩) HA.o FE.o rfl rfl EH.o hq
theorem vY(w:World)(vc vl:Value)(s:Ar)(q:Nat)(was:Nat)(y:Nat)(h:gu w vc vl s)(hq:q<s.C.length)(EH:Hid (s.C[q]=was))(hL:s.L.length<=1048576):
  Calls prog 289 #[bI vc s.most vl,(3:Int),(q:Int),.int .u64 (was:Int),.int .u64 (y:Int)] w (jq w vc vl s (s.acc 3 q y true,⟨3,q,was,y,true⟩,0)):=by
 obtain⟨i0,hi,CY,CU,CX⟩:=info_parts fB;obtain⟨j0,hj,EZ,jz1,ER⟩:=info_parts gy;obtain⟨ca,cp,cur,rfl,hcur,hc1,hc2,hc3,hc4⟩:=fC h.Dh (by omega);obtain⟨la,lp,rfl,hl1,hl2⟩:=aK h.log;have HA:=hdq h;have hcl:=h.tQ;have hcal:ca<w.heap.size:=hcur.lt;clear h hcur hc1 hc2 hc3 hc4 hl1 hl2;unfold bI;go_enter func289,ntmps289
 have hlt1:¬(q:Int)<0:=by omega
 have hlt2:¬(s.C.length:Int)<=(q:Int):=by omega
 go_upto_region 3 with fail
 obtain⟨W,hW⟩:∃W,((w.alloc (.cells #[.slice (some ⟨ca,0,none⟩) s.C.length cp,(s.most:Int),.slice la s.L.length lp] 42)).alloc (.cells #[True,(),True] 42)).alloc (.cells #[(),(),.int .u64 0,.int .u64 0,false] 290)=W:=⟨_,rfl⟩;rw[hW];have Fy:Hid (Touch [] w W):=hW▸(((Touch.refl [] w).alloc _).alloc _).alloc _;have EW:=hdq ((((BD.nil' w).alloc 42 #[.slice (some ⟨ca,0,none⟩) s.C.length cp,(s.most:Int),.slice la s.L.length lp]).alloc 42 #[True,(),True]).alloc 290 #[(),(),.int .u64 0,.int .u64 0,false]);rw[hW]at EW;simp only[nAq,cAq,World.size_alloc]at EW;have HRW:=hdq (HA.o.touch Fy.o);have cW:W.cell? ⟨ca,q,none⟩=some (.int .u64 (was:Int)):=by
  rw[dI HRW.o.Dh q (by rw[cO];exact hq)];simp[words,EH.o]
 obtain⟨b0,_,_,_,_,_,hl5⟩:=EW.o.c3 0 rfl;have HE:=hdq (gF W 177 1);have Hf:=hdq ((Touch.refl [] W).alloc (.cells #[] 177));clear hW;go_upto_region 17 with (at_builtin;go_must (refine bW _ rfl (.tmp 51) (.tmp 53) 39 rfl 177 i0 (.int .u64 0) 1 8 underlying39 hi CY CU CX rfl (by decide) (.slice (some ⟨W.heap.size,0,none⟩) 0 0) 0 [] rfl HE.o (.slice (some ⟨ca,0,none⟩) s.C.length cp) s.C.length (words s.C) rfl (dW HRW.o.Dh Hf.o (by simp)) (iR _) (by simp only[maxLen];omega) (by omega) ?_);intro a1 c1 w1 hown hgrow hat;refine Hid.o ?_)
 rw[Nat.zero_add,List.nil_append]at hown;rw[Nat.zero_add]at hat;obtain⟨g1,c1',cur1,hv1,Fh,_,_,_,_⟩:=fC hown (by omega);injection hv1 with e1 e2 e3
 subst e1 e3;have BB:=hdq ((EW.o.new (t':=row 177 1 (.slice (some ⟨W.heap.size,0,none⟩) 0 0) 0 []) ⟨rfl,HE.o⟩ ⟨(Touch.refl [] W).alloc _,fun k hk=> .inr (by simp[sb,Value.ownBlock]at hk;omega)⟩).grown 3 rfl hgrow hown hat);simp only[nAq,cAq,sSq,sZq]at BB;have hwd:=EW.o.size;have o1:w1.cell? ⟨g1,q,none⟩=some (.int .u64 (was:Int)):=by
  rw[dI hown q (by rw[cO];exact hq)];simp[words,EH.o]
 have o2:=dH hown q;obtain⟨b0,_,_,_,_,_,hl5⟩:=BB.o.c3 0 rfl;clear hown hgrow hat Fh e2 EW HE Hf cW Fy HRW;refine hdq ?_;go_upto_region 17 with fail
 obtain⟨V,hV⟩:∃V,(w1.setCell ⟨g1,q,none⟩ (.int .u64 (y:Int))).alloc (.cells #[(3:Int),(q:Int),.int .u64 (was:Int),.int .u64 (y:Int),true] 290)=V:=⟨_,rfl⟩;have DK:=hdq ((BB.o.tZ 3 rfl q (.int .u64 (y:Int))).alloc 290 #[(3:Int),(q:Int),.int .u64 (was:Int),.int .u64 (y:Int),true]);rw[hV,<-jB]at DK;simp only[nAq,cAq,sSq,sZq,World.size_setCell]at DK;obtain⟨b17,ED⟩:∃b17,w1.heap.size=b17:=⟨_,rfl⟩;rw[hV,ED];rw[ED]at DK;clear hV ED o1 o2 BB b0 hl5;obtain⟨v0,v1,v2,_,_,_,hl5⟩:=DK.o.c3 0 rfl;obtain⟨x0,x1,x2,x3,x4,_,_,_,_,_,CZ⟩:=DK.o.c5 4 rfl;obtain⟨_,_,_,_,_,_,DY⟩:=DK.o.c3 1 rfl;obtain⟨_,_,_,_,_,_,_,_,_,_,D5⟩:=DK.o.c5 2 rfl;have n1:=DK.o.ne 4 1 rfl rfl (by decide);have n2:=DK.o.ne 4 2 rfl rfl (by decide);have n3:=Ne.symm n1;have n4:=Ne.symm n2;have n5:w.heap.size≠w.heap.size+1+1:=by omega
 have n6:w.heap.size+1+1≠w.heap.size:=by omega
 have GI:Hid (V.ownsRow 0 290 5 (.slice la s.L.length lp) s.L.length (aJ s.L)):=dN HA.o.log (fun k hk=>DK.o.below.block k (iW HA.o.log k hk));have Gj:=hdq ((DK.o.iB 290 5).drew);have Gs:=hdq (((DK.o.iB 290 5).alloc 290 #[(3:Int),(q:Int),.int .u64 (was:Int),.int .u64 (y:Int),true]).drew);have Gm:=hdq ((((DK.o.alloc 290 #[(3:Int),(q:Int),.int .u64 (was:Int),.int .u64 (y:Int),true]).iB 290 5).drew).pick [0,1,2,3,4,6,5] (by decide) (by simp));simp only[nAq,cAq,World.size_alloc,List.filterMap_cons,List.filterMap_nil,List.getElem?_cons_zero,List.getElem?_cons_succ]at Gj Gs Gm;have HRa:=hdq (dx (GI.o.alloc (.cells #[] 290)));have HRb:=hdq (dx ((GI.o.alloc (.cells #[] 290)).alloc (.cells #[(3:Int),(q:Int),.int .u64 (was:Int),.int .u64 (y:Int),true] 290)));have HRc:=hdq (dx ((GI.o.alloc (.cells #[(3:Int),(q:Int),.int .u64 (was:Int),.int .u64 (y:Int),true] 290)).alloc (.cells #[] 290)));go_region_held3 (fun w'=>w'.cell? ⟨w.heap.size,1,none⟩=some (.int .i64 (s.most:Int))/\w'.cell? ⟨w.heap.size,2,none⟩=some (.slice la s.L.length lp)/\w'.cell? ⟨b17,0,none⟩=some (.int .i64 3)/\w'.cell? ⟨b17,1,none⟩=some (.int .i64 (q:Int))/\w'.cell? ⟨b17,2,none⟩=some (.int .u64 (was:Int))/\w'.cell? ⟨b17,3,none⟩=some (.int .u64 (y:Int))/\w'.cell? ⟨b17,4,none⟩=some (.bool true)) (go_keep) (first
  |(refine aR _ (by rfl) (.tmp 68) (.tmp 70) 40 (by rfl) 290 j0 _ 5 40 underlying40 hj EZ jz1 ER rfl (by decide) (.slice (some ⟨V.heap.size,0,none⟩) 0 0) 0 [] (by rfl) (Gj.o.row 5 rfl) (.slice la s.L.length lp) s.L.length (aJ s.L) (by rfl) HRa.o (dV _) (by simp only[maxLen];omega) (by omega) ?_;intro a2 c2 w2 hown hgrow hat;simp only[Nat.zero_add,nAq]at hown hat|-;have HL2:=hdq (Gj.o.grown 5 rfl hgrow hown hat);simp only[sSq,sZq]at HL2;obtain⟨v0,v1,v2,_,_,_,hl5⟩:=HL2.o.c3 0 rfl;obtain⟨x0,x1,x2,x3,x4,_,_,_,_,_,CZ⟩:=HL2.o.c5 4 rfl;obtain⟨Ef,_,_,E5,_,_,DY⟩:=HL2.o.c3 1 rfl;obtain⟨FM,_,_,_,_,FQ,_,_,_,_,D5⟩:=HL2.o.c5 2 rfl;clear hown hgrow hat)
  |(refine aR _ (by rfl) (.tmp 68) (.tmp 70) 40 (by rfl) 290 j0 _ 5 40 underlying40 hj EZ jz1 ER rfl (by decide) (.slice (some ⟨V.heap.size,0,none⟩) 0 0) 0 [] (by rfl) (Gs.o.row 5 rfl) (.slice la s.L.length lp) s.L.length (aJ s.L) (by rfl) HRb.o (dV _) (by simp only[maxLen];omega) (by omega) ?_;intro a2 c2 w2 hown hgrow hat;simp only[Nat.zero_add,nAq]at hown hat|-;have HL2:=hdq (Gs.o.grown 5 rfl hgrow hown hat);simp only[sSq,sZq]at HL2;obtain⟨v0,v1,v2,_,_,_,hl5⟩:=HL2.o.c3 0 rfl;obtain⟨x0,x1,x2,x3,x4,_,_,_,_,_,CZ⟩:=HL2.o.c5 4 rfl;obtain⟨Ef,_,_,E5,_,_,DY⟩:=HL2.o.c3 1 rfl;obtain⟨FM,_,_,_,_,FQ,_,_,_,_,D5⟩:=HL2.o.c5 2 rfl;clear hown hgrow hat)
  |(refine aR _ (by rfl) (.tmp 68) (.tmp 70) 40 (by rfl) 290 j0 _ 5 40 underlying40 hj EZ jz1 ER rfl (by decide) (.slice (some ⟨V.heap.size+1,0,none⟩) 0 0) 0 [] (by rfl) (Gm.o.row 5 rfl) (.slice la s.L.length lp) s.L.length (aJ s.L) (by rfl) HRc.o (dV _) (by simp only[maxLen];omega) (by omega) ?_;intro a2 c2 w2 hown hgrow hat;simp only[Nat.zero_add,nAq]at hown hat|-;have HL2:=hdq (Gm.o.grown 5 rfl hgrow hown hat);simp only[sSq,sZq]at HL2;obtain⟨v0,v1,v2,_,_,_,hl5⟩:=HL2.o.c3 0 rfl;obtain⟨x0,x1,x2,x3,x4,_,_,_,_,_,CZ⟩:=HL2.o.c5 4 rfl;obtain⟨Ef,_,_,E5,_,_,DY⟩:=HL2.o.c3 1 rfl;obtain⟨FM,_,_,_,_,FQ,_,_,_,_,D5⟩:=HL2.o.c5 2 rfl;clear hown hgrow hat)
  |(refine aR _ (by rfl) (.tmp 71) (.tmp 73) 40 (by rfl) 290 j0 _ 5 40 underlying40 hj EZ jz1 ER rfl (by decide) (.slice a2 s.L.length c2) s.L.length (aJ s.L) (by rfl) ((HL2.o.alloc _ _).row 5 rfl) (.slice (some ⟨w2.heap.size,0,none⟩) 1 1) 1 (Acc.cells ⟨3,q,was,y,true⟩) (by rfl) (ig ((HL2.o.alloc _ _).box 6 rfl)) (gZ _) (by simp only[maxLen];omega) (by omega) ?_;intro a3 c3 w3 hown hgrow hat;have BF:=hdq ((HL2.o.alloc _ _).grown 5 rfl hgrow hown hat);simp only[sSq,sZq,cAq,nAq]at BF;obtain⟨v0,v1,v2,_,_,_,hl5⟩:=BF.o.c3 0 rfl;obtain⟨x0,x1,x2,x3,x4,_,_,_,_,_,CZ⟩:=BF.o.c5 4 rfl;obtain⟨Ef,GJ,GA,E5,Gv,GH,DY⟩:=BF.o.c3 1 rfl;obtain⟨FM,Gf,Gt,Gu,Gx,FQ,GD,GQ,Gp,Gq,D5⟩:=BF.o.c5 2 rfl;clear hown hgrow hat)
  |(refine aR _ (by rfl) (.tmp 71) (.tmp 73) 40 (by rfl) 290 j0 _ 5 40 underlying40 hj EZ jz1 ER rfl (by decide) (.slice a2 s.L.length c2) s.L.length (aJ s.L) (by rfl) (HL2.o.row 5 rfl) (.slice (some ⟨_,0,none⟩) 1 1) 1 (Acc.cells ⟨3,q,was,y,true⟩) (by rfl) (ig (HL2.o.box 6 rfl)) (gZ _) (by simp only[maxLen];omega) (by omega) ?_;intro a3 c3 w3 hown hgrow hat;have BF:=hdq (HL2.o.grown 5 rfl hgrow hown hat);simp only[sSq,sZq,cAq,nAq]at BF;obtain⟨v0,v1,v2,_,_,_,hl5⟩:=BF.o.c3 0 rfl;obtain⟨x0,x1,x2,x3,x4,_,_,_,_,_,CZ⟩:=BF.o.c5 4 rfl;obtain⟨Ef,GJ,GA,E5,Gv,GH,DY⟩:=BF.o.c3 1 rfl;obtain⟨FM,Gf,Gt,Gu,Gx,FQ,GD,GQ,Gp,Gq,D5⟩:=BF.o.c5 2 rfl;clear hown hgrow hat))
 all_goals go_wp2
 all_goals have FE:=hdq ((((((((BF.o.set 1 rfl 0 (.slice (some ⟨g1,0,none⟩) s.C.length c1)).set 1 rfl 1 (.int .i64 (s.most:Int))).set 1 rfl 2 (.slice a3 (s.L.length+1) c3)).set 2 rfl 0 (.int .i64 3)).set 2 rfl 1 (.int .i64 (q:Int))).set 2 rfl 2 (.int .u64 (was:Int))).set 2 rfl 3 (.int .u64 (y:Int))).set 2 rfl 4 (.bool true))
 all_goals simp only[sSq,sZq,sAq]at FE
 all_goals obtain⟨y0,y1,y2,_,_,_,_⟩:=FE.o.c3 1 rfl
 all_goals obtain⟨z0,z1,z2,z3,z4,_,_,_,_,_,_⟩:=FE.o.c5 2 rfl
 all_goals refine bodyPost_ret (v:= .tuple #[.agg #[.slice (some ⟨g1,0,none⟩) s.C.length c1,(s.most:Int),.slice a3 (s.L.length+1) c3],.agg #[(3:Int),(q:Int),.int .u64 (was:Int),.int .u64 (y:Int),true],()]) (by simp[results,results289,go_sem,y0,y1,y2,z0,z1,z2,z3,z4]) rfl ?_
 all_goals exact je (x:=⟨3,q,was,y,true⟩) HA.o FE.o rfl rfl EH.o hq
theorem uS(w:World)(vc vl:Value)(s:Ar)(q:Nat)(was:Nat)(x y:Nat)(hne:((was:Int)==(x:Int))=false)(h:gu w vc vl s)(hq:q<s.C.length)(EH:Hid (s.C[q]=was))(hL:s.L.length<=1048576):
  Calls prog 289 #[bI vc s.most vl,(3:Int),(q:Int),.int .u64 (x:Int),.int .u64 (y:Int)] w (jq w vc vl s (s.acc 3 q was false,⟨3,q,was,was,false⟩,0)):=by
 obtain⟨i0,hi,CY,CU,CX⟩:=info_parts fB;obtain⟨j0,hj,EZ,jz1,ER⟩:=info_parts gy;obtain⟨ca,cp,cur,rfl,hcur,hc1,hc2,hc3,hc4⟩:=fC h.Dh (by omega);obtain⟨la,lp,rfl,hl1,hl2⟩:=aK h.log;have HA:=hdq h;have hcl:=h.tQ;have hcal:ca<w.heap.size:=hcur.lt;clear h hcur hc1 hc2 hc3 hc4 hl1 hl2;unfold bI;go_enter func289,ntmps289
 have hlt1:¬(q:Int)<0:=by omega
 have hlt2:¬(s.C.length:Int)<=(q:Int):=by omega
 go_upto_region 3 with fail
 obtain⟨W,hW⟩:∃W,((w.alloc (.cells #[.slice (some ⟨ca,0,none⟩) s.C.length cp,(s.most:Int),.slice la s.L.length lp] 42)).alloc (.cells #[True,(),True] 42)).alloc (.cells #[(),(),.int .u64 0,.int .u64 0,false] 290)=W:=⟨_,rfl⟩;rw[hW];have Fy:Hid (Touch [] w W):=hW▸(((Touch.refl [] w).alloc _).alloc _).alloc _;have EW:=hdq ((((BD.nil' w).alloc 42 #[.slice (some ⟨ca,0,none⟩) s.C.length cp,(s.most:Int),.slice la s.L.length lp]).alloc 42 #[True,(),True]).alloc 290 #[(),(),.int .u64 0,.int .u64 0,false]);rw[hW]at EW;simp only[nAq,cAq,World.size_alloc]at EW;have HRW:=hdq (HA.o.touch Fy.o);have cW:W.cell? ⟨ca,q,none⟩=some (.int .u64 (was:Int)):=by
  rw[dI HRW.o.Dh q (by rw[cO];exact hq)];simp[words,EH.o]
 obtain⟨b0,_,_,_,_,_,hl5⟩:=EW.o.c3 0 rfl;have HE:=hdq (gF W 177 1);have Hf:=hdq ((Touch.refl [] W).alloc (.cells #[] 177));clear hW;go_upto_region 17 with (at_builtin;go_must (refine bW _ rfl (.tmp 51) (.tmp 53) 39 rfl 177 i0 (.int .u64 0) 1 8 underlying39 hi CY CU CX rfl (by decide) (.slice (some ⟨W.heap.size,0,none⟩) 0 0) 0 [] rfl HE.o (.slice (some ⟨ca,0,none⟩) s.C.length cp) s.C.length (words s.C) rfl (dW HRW.o.Dh Hf.o (by simp)) (iR _) (by simp only[maxLen];omega) (by omega) ?_);intro a1 c1 w1 hown hgrow hat;refine Hid.o ?_)
 rw[Nat.zero_add,List.nil_append]at hown;rw[Nat.zero_add]at hat;obtain⟨g1,c1',cur1,hv1,Fh,_,_,_,_⟩:=fC hown (by omega);injection hv1 with e1 e2 e3
 subst e1 e3;have BB:=hdq ((EW.o.new (t':=row 177 1 (.slice (some ⟨W.heap.size,0,none⟩) 0 0) 0 []) ⟨rfl,HE.o⟩ ⟨(Touch.refl [] W).alloc _,fun k hk=> .inr (by simp[sb,Value.ownBlock]at hk;omega)⟩).grown 3 rfl hgrow hown hat);simp only[nAq,cAq,sSq,sZq]at BB;have hwd:=EW.o.size;have o1:w1.cell? ⟨g1,q,none⟩=some (.int .u64 (was:Int)):=by
  rw[dI hown q (by rw[cO];exact hq)];simp[words,EH.o]
 have o2:=dH hown q;obtain⟨b0,_,_,_,_,_,hl5⟩:=BB.o.c3 0 rfl;clear hown hgrow hat Fh e2 EW HE Hf cW Fy HRW;refine hdq ?_;go_upto_region 17 with fail
 obtain⟨V,hV⟩:∃V,(w1.setCell ⟨g1,q,none⟩ (.int .u64 (was:Int))).alloc (.cells #[(3:Int),(q:Int),.int .u64 (was:Int),.int .u64 (was:Int),false] 290)=V:=⟨_,rfl⟩;have DK:=hdq ((BB.o.tZ 3 rfl q (.int .u64 (was:Int))).alloc 290 #[(3:Int),(q:Int),.int .u64 (was:Int),.int .u64 (was:Int),false]);rw[hV,<-jB]at DK;simp only[nAq,cAq,sSq,sZq,World.size_setCell]at DK;obtain⟨b17,ED⟩:∃b17,w1.heap.size=b17:=⟨_,rfl⟩;rw[hV,ED];rw[ED]at DK;clear hV ED o1 o2 BB b0 hl5;obtain⟨v0,v1,v2,_,_,_,hl5⟩:=DK.o.c3 0 rfl;obtain⟨x0,x1,x2,x3,x4,_,_,_,_,_,CZ⟩:=DK.o.c5 4 rfl;obtain⟨_,_,_,_,_,_,DY⟩:=DK.o.c3 1 rfl;obtain⟨_,_,_,_,_,_,_,_,_,_,D5⟩:=DK.o.c5 2 rfl;have n1:=DK.o.ne 4 1 rfl rfl (by decide);have n2:=DK.o.ne 4 2 rfl rfl (by decide);have n3:=Ne.symm n1;have n4:=Ne.symm n2;have n5:w.heap.size≠w.heap.size+1+1:=by omega
 have n6:w.heap.size+1+1≠w.heap.size:=by omega
 have GI:Hid (V.ownsRow 0 290 5 (.slice la s.L.length lp) s.L.length (aJ s.L)):=dN HA.o.log (fun k hk=>DK.o.below.block k (iW HA.o.log k hk));have Gj:=hdq ((DK.o.iB 290 5).drew);have Gs:=hdq (((DK.o.iB 290 5).alloc 290 #[(3:Int),(q:Int),.int .u64 (was:Int),.int .u64 (was:Int),false]).drew);have Gm:=hdq ((((DK.o.alloc 290 #[(3:Int),(q:Int),.int .u64 (was:Int),.int .u64 (was:Int),false]).iB 290 5).drew).pick [0,1,2,3,4,6,5] (by decide) (by simp));simp only[nAq,cAq,World.size_alloc,List.filterMap_cons,List.filterMap_nil,List.getElem?_cons_zero,List.getElem?_cons_succ]at Gj Gs Gm;have HRa:=hdq (dx (GI.o.alloc (.cells #[] 290)));have HRb:=hdq (dx ((GI.o.alloc (.cells #[] 290)).alloc (.cells #[(3:Int),(q:Int),.int .u64 (was:Int),.int .u64 (was:Int),false] 290)));have HRc:=hdq (dx ((GI.o.alloc (.cells #[(3:Int),(q:Int),.int .u64 (was:Int),.int .u64 (was:Int),false] 290)).alloc (.cells #[] 290)));go_region_held3 (fun w'=>w'.cell? ⟨w.heap.size,1,none⟩=some (.int .i64 (s.most:Int))/\w'.cell? ⟨w.heap.size,2,none⟩=some (.slice la s.L.length lp)/\w'.cell? ⟨b17,0,none⟩=some (.int .i64 3)/\w'.cell? ⟨b17,1,none⟩=some (.int .i64 (q:Int))/\w'.cell? ⟨b17,2,none⟩=some (.int .u64 (was:Int))/\w'.cell? ⟨b17,3,none⟩=some (.int .u64 (was:Int))/\w'.cell? ⟨b17,4,none⟩=some (.bool false)) (go_keep) (first
  |(refine aR _ (by rfl) (.tmp 68) (.tmp 70) 40 (by rfl) 290 j0 _ 5 40 underlying40 hj EZ jz1 ER rfl (by decide) (.slice (some ⟨V.heap.size,0,none⟩) 0 0) 0 [] (by rfl) (Gj.o.row 5 rfl) (.slice la s.L.length lp) s.L.length (aJ s.L) (by rfl) HRa.o (dV _) (by simp only[maxLen];omega) (by omega) ?_;intro a2 c2 w2 hown hgrow hat;simp only[Nat.zero_add,nAq]at hown hat|-;have HL2:=hdq (Gj.o.grown 5 rfl hgrow hown hat);simp only[sSq,sZq]at HL2;obtain⟨v0,v1,v2,_,_,_,hl5⟩:=HL2.o.c3 0 rfl;obtain⟨x0,x1,x2,x3,x4,_,_,_,_,_,CZ⟩:=HL2.o.c5 4 rfl;obtain⟨Ef,_,_,E5,_,_,DY⟩:=HL2.o.c3 1 rfl;obtain⟨FM,_,_,_,_,FQ,_,_,_,_,D5⟩:=HL2.o.c5 2 rfl;clear hown hgrow hat)
  |(refine aR _ (by rfl) (.tmp 68) (.tmp 70) 40 (by rfl) 290 j0 _ 5 40 underlying40 hj EZ jz1 ER rfl (by decide) (.slice (some ⟨V.heap.size,0,none⟩) 0 0) 0 [] (by rfl) (Gs.o.row 5 rfl) (.slice la s.L.length lp) s.L.length (aJ s.L) (by rfl) HRb.o (dV _) (by simp only[maxLen];omega) (by omega) ?_;intro a2 c2 w2 hown hgrow hat;simp only[Nat.zero_add,nAq]at hown hat|-;have HL2:=hdq (Gs.o.grown 5 rfl hgrow hown hat);simp only[sSq,sZq]at HL2;obtain⟨v0,v1,v2,_,_,_,hl5⟩:=HL2.o.c3 0 rfl;obtain⟨x0,x1,x2,x3,x4,_,_,_,_,_,CZ⟩:=HL2.o.c5 4 rfl;obtain⟨Ef,_,_,E5,_,_,DY⟩:=HL2.o.c3 1 rfl;obtain⟨FM,_,_,_,_,FQ,_,_,_,_,D5⟩:=HL2.o.c5 2 rfl;clear hown hgrow hat)
  |(refine aR _ (by rfl) (.tmp 68) (.tmp 70) 40 (by rfl) 290 j0 _ 5 40 underlying40 hj EZ jz1 ER rfl (by decide) (.slice (some ⟨V.heap.size+1,0,none⟩) 0 0) 0 [] (by rfl) (Gm.o.row 5 rfl) (.slice la s.L.length lp) s.L.length (aJ s.L) (by rfl) HRc.o (dV _) (by simp only[maxLen];omega) (by omega) ?_;intro a2 c2 w2 hown hgrow hat;simp only[Nat.zero_add,nAq]at hown hat|-;have HL2:=hdq (Gm.o.grown 5 rfl hgrow hown hat);simp only[sSq,sZq]at HL2;obtain⟨v0,v1,v2,_,_,_,hl5⟩:=HL2.o.c3 0 rfl;obtain⟨x0,x1,x2,x3,x4,_,_,_,_,_,CZ⟩:=HL2.o.c5 4 rfl;obtain⟨Ef,_,_,E5,_,_,DY⟩:=HL2.o.c3 1 rfl;obtain⟨FM,_,_,_,_,FQ,_,_,_,_,D5⟩:=HL2.o.c5 2 rfl;clear hown hgrow hat)
  |(refine aR _ (by rfl) (.tmp 71) (.tmp 73) 40 (by rfl) 290 j0 _ 5 40 underlying40 hj EZ jz1 ER rfl (by decide) (.slice a2 s.L.length c2) s.L.length (aJ s.L) (by rfl) ((HL2.o.alloc _ _).row 5 rfl) (.slice (some ⟨w2.heap.size,0,none⟩) 1 1) 1 (Acc.cells ⟨3,q,was,was,false⟩) (by rfl) (ig ((HL2.o.alloc _ _).box 6 rfl)) (gZ _) (by simp only[maxLen];omega) (by omega) ?_;intro a3 c3 w3 hown hgrow hat;have BF:=hdq ((HL2.o.alloc _ _).grown 5 rfl hgrow hown hat);simp only[sSq,sZq,cAq,nAq]at BF;obtain⟨v0,v1,v2,_,_,_,hl5⟩:=BF.o.c3 0 rfl;obtain⟨x0,x1,x2,x3,x4,_,_,_,_,_,CZ⟩:=BF.o.c5 4 rfl;obtain⟨Ef,GJ,GA,E5,Gv,GH,DY⟩:=BF.o.c3 1 rfl;obtain⟨FM,Gf,Gt,Gu,Gx,FQ,GD,GQ,Gp,Gq,D5⟩:=BF.o.c5 2 rfl;clear hown hgrow hat)
  |(refine aR _ (by rfl) (.tmp 71) (.tmp 73) 40 (by rfl) 290 j0 _ 5 40 underlying40 hj EZ jz1 ER rfl (by decide) (.slice a2 s.L.length c2) s.L.length (aJ s.L) (by rfl) (HL2.o.row 5 rfl) (.slice (some ⟨_,0,none⟩) 1 1) 1 (Acc.cells ⟨3,q,was,was,false⟩) (by rfl) (ig (HL2.o.box 6 rfl)) (gZ _) (by simp only[maxLen];omega) (by omega) ?_;intro a3 c3 w3 hown hgrow hat;have BF:=hdq (HL2.o.grown 5 rfl hgrow hown hat);simp only[sSq,sZq,cAq,nAq]at BF;obtain⟨v0,v1,v2,_,_,_,hl5⟩:=BF.o.c3 0 rfl;obtain⟨x0,x1,x2,x3,x4,_,_,_,_,_,CZ⟩:=BF.o.c5 4 rfl;obtain⟨Ef,GJ,GA,E5,Gv,GH,DY⟩:=BF.o.c3 1 rfl;obtain⟨FM,Gf,Gt,Gu,Gx,FQ,GD,GQ,Gp,Gq,D5⟩:=BF.o.c5 2 rfl;clear hown hgrow hat))
 all_goals go_wp2
 all_goals have FE:=hdq ((((((((BF.o.set 1 rfl 0 (.slice (some ⟨g1,0,none⟩) s.C.length c1)).set 1 rfl 1 (.int .i64 (s.most:Int))).set 1 rfl 2 (.slice a3 (s.L.length+1) c3)).set 2 rfl 0 (.int .i64 3)).set 2 rfl 1 (.int .i64 (q:Int))).set 2 rfl 2 (.int .u64 (was:Int))).set 2 rfl 3 (.int .u64 (was:Int))).set 2 rfl 4 (.bool false))
 all_goals simp only[sSq,sZq,sAq]at FE
 all_goals obtain⟨y0,y1,y2,_,_,_,_⟩:=FE.o.c3 1 rfl
 all_goals obtain⟨z0,z1,z2,z3,z4,_,_,_,_,_,_⟩:=FE.o.c5 2 rfl
 all_goals refine bodyPost_ret (v:= .tuple #[.agg #[.slice (some ⟨g1,0,none⟩) s.C.length c1,(s.most:Int),.slice a3 (s.L.length+1) c3],.agg #[(3:Int),(q:Int),.int .u64 (was:Int),.int .u64 (was:Int),false],()]) (by simp[results,results289,go_sem,y0,y1,y2,z0,z1,z2,z3,z4]) rfl ?_
 all_goals exact je (x:=⟨3,q,was,was,false⟩) HA.o FE.o rfl rfl EH.o hq
theorem pQ(s:Ar)(op q:Nat)(D9:Nat->Nat×Bool)(hq:q<s.C.length)(now:Nat)(did:Bool)(h1:(if(D9 s.C[q]).2 then(D9 s.C[q]).1 else s.C[q])=now)(h2:(D9 s.C[q]).2=did):
  s.iw op (q:Int) D9=(s.acc op q now did,⟨op,q,s.C[q],now,did⟩,0):=by
 have hg:s.C.getD q 0=s.C[q]:=by simp[List.getD,hq]
 simp only[Ar.iw];rw[if_pos ⟨by omega,by omega⟩];simp only[Int.toNat_natCast,hg,h1];rw[h2]
section
variable (w:World) (vc vl:Value) (s:Ar) (at_:Int) (h:gu w vc vl s) (hL:s.L.length<=1048576)
include h hL
theorem NI(x y:Int):Calls prog 289 #[bI vc s.most vl,(1:Int),at_,.int .u64 x,.int .u64 y] w (jq w vc vl s (s.load at_)):=by
 by_cases hin:0<=at_/\at_<(s.C.length:Int)
 .obtain⟨q,rfl⟩:=Int.eq_ofNat_of_zero_le hin.1
  have hq:q<s.C.length:=by omega
  rw[Ar.load,pQ s 1 q j6 hq s.C[q] true (by simp[j6]) rfl];exact yE w vc vl s q s.C[q] x y h hq rfl hL
 .exact nH w vc vl s 1 at_ x y h hin _
theorem Ll(v:Nat)(y:Int):Calls prog 289 #[bI vc s.most vl,(2:Int),at_,.int .u64 (v:Int),.int .u64 y] w (jq w vc vl s (s.store at_ v)):=by
 by_cases hin:0<=at_/\at_<(s.C.length:Int)
 .obtain⟨q,rfl⟩:=Int.eq_ofNat_of_zero_le hin.1
  have hq:q<s.C.length:=by omega
  rw[Ar.store,pQ s 2 q (jK v) hq v true (by simp[jK]) rfl];exact vJ w vc vl s q s.C[q] v y h hq rfl hL
 .exact nH w vc vl s 2 at_ v y h hin _
theorem Oj(x y:Nat):Calls prog 289 #[bI vc s.most vl,(3:Int),at_,.int .u64 (x:Int),.int .u64 (y:Int)] w (jq w vc vl s (s.swap at_ x y)):=by
 by_cases hin:0<=at_/\at_<(s.C.length:Int)
 .obtain⟨q,rfl⟩:=Int.eq_ofNat_of_zero_le hin.1
  have hq:q<s.C.length:=by omega
  by_cases hx:s.C[q]=x
  .rw[Ar.swap,pQ s 3 q (eH x y) hq y true (by simp[eH,hx]) (by simp[eH,hx])]
   have :=vY w vc vl s q s.C[q] y h hq rfl hL;rwa[hx]at this|-
  .rw[Ar.swap,pQ s 3 q (eH x y) hq s.C[q] false (by simp[eH,hx]) (by simp[eH,hx])]
   exact uS w vc vl s q s.C[q] x y (by simp;omega) h hq rfl hL
 .exact nH w vc vl s 3 at_ x y h hin _
end
def di(vc vl:Value)(s:Ar):ai where
 holds w fp:=gu w vc vl s/\(∀k∈sb vc++sb vl,k∈fp)/\∀k∈fp,k<w.heap.size
 keep:=fun{w w' fp} ⟨h1,h2,h3⟩ he=>⟨h1.keep (fun b hb=>he b (h2 b hb)),h2,fun k hk=>by
  have :=he k hk;rw[Array.getElem?_eq_getElem (h3 k hk)]at this;exact(Array.getElem?_eq_some_iff.1 this).1⟩
 lt:=fun⟨_,_,h⟩=>h
section
variable {T:List Nat} {w0 w w':World} {l:List ai} {vc vl:Value} {s s':Ar}
theorem BD.bF(h:BD T w0 w l)(i:Nat)(hi:l[i]? =some (di vc vl s)):gu w vc vl s:=let ⟨_,h,_⟩:=h.get i hi;h.1
theorem BD.yY(h:BD T w0 w l)(i:Nat)(hi:l[i]? =some (di vc vl s)){CQ Dk:Value}(hr:gu w' CQ Dk s')(ht:Touch [] w w')(hn:∀b∈sb CQ++sb Dk,b∈sb vc++sb vl\/w.heap.size<=b):BD T w0 w' (l.set i (di CQ Dk s')):=by
 obtain⟨f,⟨h1,h2,h3⟩,_,hs⟩:=h.step i hi;refine hs w' (di CQ Dk s') (f++(sb CQ++sb Dk)) ⟨hr,fun k hk=>List.mem_append_right _ hk,fun k hk=>?_⟩ ⟨ht.mono (by simp),fun k hk=>?_⟩
 .rcases List.mem_append.1 hk with h|h
  .exact Nat.lt_of_lt_of_le (h3 k h) ht.size
  .rcases List.mem_append.1 h with h|h
   .exact iW hr.Dh k h
   .exact iW hr.log k h
 .rcases List.mem_append.1 hk with h|h
  .exact .inl h
  .exact(hn k h).imp (h2 k) id
theorem BD.xG(h:BD T w0 w l)(i:Nat)(hi:l[i]? =some (di vc vl s)){f:Nat}{args:Array Value}{r:Ar×Acc×Nat}(hc:gu w vc vl s->Calls prog f args w (jq w vc vl s r)):
  Calls prog f args w fun e w'=>∃CQ Dk,e= .returned (.tuple #[bI CQ s.most Dk,r.2.1.val,(r.2.2:Int)])/\BD T w0 w' (l.set i (di CQ Dk r.1)):=by
 refine(hc (h.bF i hi)).mono ?_;rintro e w' ⟨CQ,Dk,rfl,hr,ht,hn⟩;exact⟨CQ,Dk,rfl,h.yY i hi hr ht hn⟩
theorem BD.lD(h:BD T w0 w l)(i:Nat)(hi:l[i]? =some (di vc vl s))(n:Int):
  Calls prog 218 #[bI vc s.most vl,n] w fun e w'=>∃CQ,e= .returned (.tuple #[bI CQ s.most vl,.int .i64 ((s.au n).2.1:Int),.int .i64 ((s.au n).2.2:Int)])/\BD T w0 w' (l.set i (di CQ vl (s.au n).1)):=by
 refine(Proofs.YtegejdlglonflaaGreatDoor.lD w vc vl s n (h.bF i hi)).mono ?_;rintro e w' ⟨CQ,rfl,hr,ht,hn⟩;refine⟨CQ,rfl,h.yY i hi hr ht (fun b hb=>?_)⟩;rcases List.mem_append.1 hb with hb|hb
 .exact(hn b hb).imp (fun h=>List.mem_append_left _ h) id
 .exact .inl (List.mem_append_right _ hb)
end
structure tL where
 what:Int
 at_:Int
 x:Nat
 y:Nat
def tL.cells(a:tL):List Value:=[.int .i64 a.what,.int .i64 a.at_,.int .u64 (a.x:Int),.int .u64 (a.y:Int)]
def tL.Ok(a:tL):Prop:=(-9223372036854775808<=a.what/\a.what<=9223372036854775807)/\(-9223372036854775808<=a.at_/\a.at_<=9223372036854775807)/\Wd a.x/\Wd a.y
def kJ(T:List Nat)(w:World)(s':Ar)(E:Value->Value->Value)(e:Ending)(w':World):Prop:=∃CQ Dk rest,e= .returned (E CQ Dk)/\BD T w w' (di CQ Dk s'::rest)
theorem BD.mO{T0:List Nat}{w0 w:World}{l:List ai}{vc vl:Value}{s s':Ar}{E:Value->Value->Value}{f:Nat}{args:Array Value}(h:BD T0 w0 w l)(i:Nat)(hi:l[i]? =some (di vc vl s))(hc:∀T,BD T w w [di vc vl s]->Calls prog f args w (kJ T w s' E)):Calls prog f args w fun e w'=>∃CQ Dk,e= .returned (E CQ Dk)/\BD T0 w0 w' (l.set i (di CQ Dk s')):=by
 obtain⟨T',h1,h2⟩:=h.qL i hi;refine(hc T' h1).mono ?_;rintro e w' ⟨CQ,Dk,rest,rfl,h3⟩;exact⟨CQ,Dk,rfl,h2 _ _ _ h3⟩
theorem dY{P:Program}{fn:Func}{R:Ending->World->Prop}{ex:Exit}{a:Act}{W:World}(h:∀w2,W=w2->bodyPost P fn R ex a w2):bodyPost P fn R ex a W:=h W rfl
theorem rLoad(T:List Nat)(w:World)(vc vl:Value)(s:Ar)(at_:Int)(hL:s.L.length<=1048576)(h:BD T w w [di vc vl s]):
  Calls prog 232 #[bI vc s.most vl,at_] w (kJ T w (s.load at_).1 (fun CQ Dk=> .tuple #[bI CQ s.most Dk,.int .u64 ((s.load at_).2.1.old:Int),.int .i64 ((s.load at_).2.2:Int)])):=by
 obtain⟨ca,cp,rfl,_,_⟩:=aK (h.bF 0 rfl).Dh;obtain⟨la,lp,rfl,_,_⟩:=aK (h.bF 0 rfl).log;have BG:=hdq h;clear h;unfold bI;go_enter func232,ntmps232
 go_wp2_with fail
 refine(((BG.o.alloc _ _).alloc _ _).xG 0 rfl (fun hr=>NI _ _ _ s at_ hr hL 0 0)).mono ?_;rintro e w1 ⟨CQ,Dk,rfl,hL⟩;simp only[nAq,cAq,sSq,sZq,World.size_alloc]at hL;obtain⟨CR,CP,rfl,_,_⟩:=aK (hL.bF 0 rfl).Dh;obtain⟨Dc,Df,rfl,_,_⟩:=aK (hL.bF 0 rfl).log;have BB:=hdq hL;clear hL;unfold bI;generalize hb4:w.heap.size+1=b4 at BB|-;generalize hb2:w.heap.size=b2 at BB|-;clear hb4 hb2;obtain⟨p0,p1,p2,f0,f1,f2,z4,_,_⟩:=BB.o.c3 2 rfl;go_wp2_with fail
 refine ay ?_;intro w2 hw2;have HL2:=hdq (BB.o.DZ hw2);simp only[nAq,cAq]at HL2;clear hw2;generalize Kj:w1.heap.size+1=b8 at HL2|-;generalize EF:w1.heap.size=b7 at HL2|-;clear Kj EF BB p0 p1 p2 f0 f1 f2 z4;obtain⟨p0,p1,p2,f0,f1,f2,z4,_,_⟩:=HL2.o.c3 2 rfl;obtain⟨r0,r1,r2,_,_,_,zr,_,_⟩:=HL2.o.c3 3 rfl;obtain⟨_,_,q2,_,q4,_,_,_,_,_,zq,_,_⟩:=HL2.o.c5 4 rfl;have n1:=HL2.o.ne 2 3 rfl rfl (by decide);have n2:=HL2.o.ne 2 4 rfl rfl (by decide);have n3:=Ne.symm n1;have n4:=Ne.symm n2;go_region_held3 (fun w'=>w'.cell? ⟨b7,0,none⟩=some (.slice CR (s.load at_).1.C.length CP)/\w'.cell? ⟨b7,1,none⟩=some (.int .i64 (s.most:Int))/\w'.cell? ⟨b7,2,none⟩=some (.slice Dc (s.load at_).1.L.length Df)/\w'.cell? ⟨b8,2,none⟩=some (.int .u64 ((s.load at_).2.1.old:Int))) (go_keep) (first |fail)
 go_wp2;have BF:=hdq ((((HL2.o.set 2 rfl 0 (.slice CR (s.load at_).1.C.length CP)).set 2 rfl 1 (.int .i64 (s.most:Int))).set 2 rfl 2 (.slice Dc (s.load at_).1.L.length Df)).drew);simp only[sSq,sZq,sAq]at BF;obtain⟨y0,y1,y2,_,_,_,_,_,_⟩:=BF.o.c3 2 rfl;refine bodyPost_ret (v:= .tuple #[.agg #[.slice CR (s.load at_).1.C.length CP,(s.most:Int),.slice Dc (s.load at_).1.L.length Df],.int .u64 ((s.load at_).2.1.old:Int),.int .i64 ((s.load at_).2.2:Int)]) (by simp[results,results232,go_sem,y0,y1,y2]) rfl ?_;exact⟨_,_,_,rfl,BF.o⟩
theorem O0(T:List Nat)(w:World)(vc vl:Value)(s:Ar)(at_:Int)(x y:Nat)(hL:s.L.length<=1048576)(h:BD T w w [di vc vl s]):
  Calls prog 227 #[bI vc s.most vl,at_,.int .u64 (x:Int),.int .u64 (y:Int)] w (kJ T w (s.swap at_ x y).1 (fun CQ Dk=> .tuple #[bI CQ s.most Dk,.int .u64 ((s.swap at_ x y).2.1.old:Int),.bool (s.swap at_ x y).2.1.did,.int .i64 ((s.swap at_ x y).2.2:Int)])):=by
 obtain⟨ca,cp,rfl,_,_⟩:=aK (h.bF 0 rfl).Dh;obtain⟨la,lp,rfl,_,_⟩:=aK (h.bF 0 rfl).log;have BG:=hdq h;clear h;unfold bI;go_enter func227,ntmps227
 go_wp2_with fail
 refine(((BG.o.alloc _ _).alloc _ _).xG 0 rfl (fun hr=>Oj _ _ _ s at_ hr hL x y)).mono ?_;rintro e w1 ⟨CQ,Dk,rfl,hL⟩;simp only[nAq,cAq,sSq,sZq,World.size_alloc]at hL;obtain⟨CR,CP,rfl,_,_⟩:=aK (hL.bF 0 rfl).Dh;obtain⟨Dc,Df,rfl,_,_⟩:=aK (hL.bF 0 rfl).log;have BB:=hdq hL;clear hL;unfold bI;generalize hb4:w.heap.size+1=b4 at BB|-;generalize hb2:w.heap.size=b2 at BB|-;clear hb4 hb2;obtain⟨p0,p1,p2,f0,f1,f2,z4,_,_⟩:=BB.o.c3 2 rfl;go_wp2_with fail
 refine ay ?_;intro w2 hw2;have HL2:=hdq (BB.o.DZ hw2);simp only[nAq,cAq]at HL2;clear hw2;generalize Kj:w1.heap.size+1=b8 at HL2|-;generalize EF:w1.heap.size=b7 at HL2|-;clear Kj EF BB p0 p1 p2 f0 f1 f2 z4;obtain⟨p0,p1,p2,f0,f1,f2,z4,_,_⟩:=HL2.o.c3 2 rfl;obtain⟨r0,r1,r2,_,_,_,zr,_,_⟩:=HL2.o.c3 3 rfl;obtain⟨_,_,q2,_,q4,_,_,_,_,_,zq,_,_⟩:=HL2.o.c5 4 rfl;have n1:=HL2.o.ne 2 3 rfl rfl (by decide);have n2:=HL2.o.ne 2 4 rfl rfl (by decide);have n3:=Ne.symm n1;have n4:=Ne.symm n2;go_region_held3 (fun w'=>w'.cell? ⟨b7,0,none⟩=some (.slice CR (s.swap at_ x y).1.C.length CP)/\w'.cell? ⟨b7,1,none⟩=some (.int .i64 (s.most:Int))/\w'.cell? ⟨b7,2,none⟩=some (.slice Dc (s.swap at_ x y).1.L.length Df)/\w'.cell? ⟨b8,2,none⟩=some (.int .u64 ((s.swap at_ x y).2.1.old:Int))/\w'.cell? ⟨b8,4,none⟩=some (.bool (s.swap at_ x y).2.1.did)) (go_keep) (first |fail)
 go_wp2;have BF:=hdq ((((HL2.o.set 2 rfl 0 (.slice CR (s.swap at_ x y).1.C.length CP)).set 2 rfl 1 (.int .i64 (s.most:Int))).set 2 rfl 2 (.slice Dc (s.swap at_ x y).1.L.length Df)).drew);simp only[sSq,sZq,sAq]at BF;obtain⟨y0,y1,y2,_,_,_,_,_,_⟩:=BF.o.c3 2 rfl;refine bodyPost_ret (v:= .tuple #[.agg #[.slice CR (s.swap at_ x y).1.C.length CP,(s.most:Int),.slice Dc (s.swap at_ x y).1.L.length Df],.int .u64 ((s.swap at_ x y).2.1.old:Int),.bool (s.swap at_ x y).2.1.did,.int .i64 ((s.swap at_ x y).2.2:Int)]) (by simp[results,results227,go_sem,y0,y1,y2]) rfl ?_;exact⟨_,_,_,rfl,BF.o⟩
theorem JD(T:List Nat)(w:World)(vc vl:Value)(s:Ar)(at_:Int)(x:Nat)(hL:s.L.length<=1048576)(h:BD T w w [di vc vl s]):
  Calls prog 233 #[bI vc s.most vl,at_,.int .u64 (x:Int)] w (kJ T w (s.store at_ x).1 (fun CQ Dk=> .tuple #[bI CQ s.most Dk,.int .i64 ((s.store at_ x).2.2:Int)])):=by
 obtain⟨ca,cp,rfl,_,_⟩:=aK (h.bF 0 rfl).Dh;obtain⟨la,lp,rfl,_,_⟩:=aK (h.bF 0 rfl).log;have BG:=hdq h;clear h;unfold bI;go_enter func233,ntmps233
 go_wp2_with fail
 refine(((BG.o.alloc _ _).alloc _ _).xG 0 rfl (fun hr=>Ll _ _ _ s at_ hr hL x 0)).mono ?_;rintro e w1 ⟨CQ,Dk,rfl,hL⟩;simp only[nAq,cAq,sSq,sZq,World.size_alloc]at hL;obtain⟨CR,CP,rfl,_,_⟩:=aK (hL.bF 0 rfl).Dh;obtain⟨Dc,Df,rfl,_,_⟩:=aK (hL.bF 0 rfl).log;have BB:=hdq hL;clear hL;unfold bI;generalize hb4:w.heap.size+1=b4 at BB|-;generalize hb2:w.heap.size=b2 at BB|-;clear hb4 hb2;obtain⟨p0,p1,p2,f0,f1,f2,z4,_,_⟩:=BB.o.c3 2 rfl;go_wp2_with fail
 refine dY ?_;intro w2 hw2;have BF:=hdq ((((BB.o.set 2 rfl 0 (.slice CR (s.store at_ x).1.C.length CP)).set 2 rfl 1 (.int .i64 (s.most:Int))).set 2 rfl 2 (.slice Dc (s.store at_ x).1.L.length Df)).DZ hw2);simp only[sSq,sZq,sAq,cAq,nAq]at BF;clear hw2;obtain⟨y0,y1,y2,_,_,_,_,_,_⟩:=BF.o.c3 2 rfl;refine bodyPost_ret (v:= .tuple #[.agg #[.slice CR (s.store at_ x).1.C.length CP,(s.most:Int),.slice Dc (s.store at_ x).1.L.length Df],.int .i64 ((s.store at_ x).2.2:Int)]) (by simp[results,results233,go_sem,y0,y1,y2]) rfl ?_;exact⟨_,_,_,rfl,BF.o⟩
theorem Kb(v no:Nat)(hv:Wd v)(h0:no≠0->v=0)(w:World):Calls prog 228 #[.int .u64 (v:Int),(no:Int)] w fun e w'=>e= .returned (.tuple #[.int .i64 ((bE v no).1:Int),.int .i64 ((bE v no).2:Int)])/\w=w':=by
 by_cases he:no=0
 .subst he
  by_cases h2:2<v
  .have HF:Hid (bE v 0=(0,120)):=by simp[Hid,bE,h2]
   have h2':(2:Int)<(v:Int):=by omega
   clear h0;go_enter func228,ntmps228
   go_wp2;go_ret2
   exact⟨by rw[HF.o];rfl,rfl⟩
  .have HF:Hid (bE v 0=(v,0)):=by simp[Hid,bE,h2]
   have h2':¬(2:Int)<(v:Int):=by omega
   have hc:IntKind.i64.wrap (v:Int)=(v:Int):=IntWalk.i64_in _ (by omega);clear h0;go_enter func228,ntmps228
   go_wp2;go_ret2
   exact⟨by rw[HF.o];rfl,rfl⟩
 .obtain rfl:=h0 he
  have HF:Hid (bE 0 no=(0,no)):=by simp[Hid,bE,he]
  have he':((no:Int)==0)=false:=by simp;omega
  clear h0 he;go_enter func228,ntmps228
  go_wp2;go_ret2
  exact⟨by rw[HF.o];rfl,rfl⟩
theorem nV(s:Ar)(op:Nat)(at_:Int)(D9:Nat->Nat×Bool)(h:(s.iw op at_ D9).2.2≠0):(s.iw op at_ D9).2.1.old=0:=by
 rcases vZ s op at_ D9 with h1|⟨_,h1⟩
 .exact absurd h1 h
 .rw[h1];rfl
theorem qh(s:Ar)(op:Nat)(at_:Int)(D9:Nat->Nat×Bool)(h:∀n∈s.C,Wd n):Wd (s.iw op at_ D9).2.1.old:=by
 have h0:Wd 0:=by unfold Wd;omega
 simp only[Ar.iw];split
 .simp only[List.getD]
  cases hc:s.C[at_.toNat]? with
  |none=>exact h0
  |some x=>exact h x (List.mem_of_getElem? hc)
 .exact h0
theorem fK(T:List Nat)(w:World)(vc vl:Value)(s:Ar)(at_:Int)(hL:s.L.length<=1048576)(hwd:∀n∈s.C,Wd n)(h:BD T w w [di vc vl s]):
  Calls prog 135 #[bI vc s.most vl,at_] w (kJ T w (s.swap at_ 0 1).1 (fun CQ Dk=> .tuple #[bI CQ s.most Dk,.int .i64 ((bE (s.swap at_ 0 1).2.1.old (s.swap at_ 0 1).2.2).1:Int),.int .i64 ((bE (s.swap at_ 0 1).2.1.old (s.swap at_ 0 1).2.2).2:Int)])):=by
 obtain⟨ca,cp,rfl,_,_⟩:=aK (h.bF 0 rfl).Dh;obtain⟨la,lp,rfl,_,_⟩:=aK (h.bF 0 rfl).log;have BG:=hdq h;clear h;unfold bI;go_enter func135,ntmps135
 go_wp2_with fail
 refine(((BG.o.alloc _ _).alloc _ _).mO 0 rfl (fun T h=>O0 T _ _ _ s at_ 0 1 hL h)).mono ?_;rintro e w1 ⟨CQ,Dk,rfl,hL⟩;simp only[nAq,cAq,sSq,sZq,World.size_alloc]at hL;obtain⟨CR,CP,rfl,_,_⟩:=aK (hL.bF 0 rfl).Dh;obtain⟨Dc,Df,rfl,_,_⟩:=aK (hL.bF 0 rfl).log;have BB:=hdq hL;clear hL;unfold bI;generalize hb4:w.heap.size+1=b4 at BB|-;generalize hb2:w.heap.size=b2 at BB|-;clear hb4 hb2;obtain⟨p0,p1,p2,f0,f1,f2,z4,z41,z42⟩:=BB.o.c3 2 rfl;go_wp2_with fail
 refine(Kb _ _ (qh s _ at_ _ hwd) (nV s _ at_ _) _).mono ?_;rintro e w' ⟨rfl,rfl⟩;go_wp2;refine dY ?_;intro w2 hw2;have BF:=hdq ((((BB.o.set 2 rfl 0 (.slice CR (s.swap at_ 0 1).1.C.length CP)).set 2 rfl 1 (.int .i64 (s.most:Int))).set 2 rfl 2 (.slice Dc (s.swap at_ 0 1).1.L.length Df)).DN hw2);simp only[sSq,sZq,sAq,cAq,nAq]at BF;clear hw2;obtain⟨y0,y1,y2,_,_,_,_,_,_⟩:=BF.o.c3 2 rfl;refine bodyPost_ret (v:= .tuple #[.agg #[.slice CR (s.swap at_ 0 1).1.C.length CP,(s.most:Int),.slice Dc (s.swap at_ 0 1).1.L.length Df],.int .i64 ((bE (s.swap at_ 0 1).2.1.old (s.swap at_ 0 1).2.2).1:Int),.int .i64 ((bE (s.swap at_ 0 1).2.1.old (s.swap at_ 0 1).2.2).2:Int)]) (by simp[results,results135,go_sem,y0,y1,y2,Ar.swap,Ar.load]) rfl ?_;exact⟨_,_,_,rfl,BF.o⟩
theorem gL(T:List Nat)(w:World)(vc vl:Value)(s:Ar)(at_:Int)(hL:s.L.length<=1048576)(hwd:∀n∈s.C,Wd n)(h:BD T w w [di vc vl s]):
  Calls prog 187 #[bI vc s.most vl,at_] w (kJ T w (s.swap at_ 0 2).1 (fun CQ Dk=> .tuple #[bI CQ s.most Dk,.int .i64 ((bE (s.swap at_ 0 2).2.1.old (s.swap at_ 0 2).2.2).1:Int),.int .i64 ((bE (s.swap at_ 0 2).2.1.old (s.swap at_ 0 2).2.2).2:Int)])):=by
 obtain⟨ca,cp,rfl,_,_⟩:=aK (h.bF 0 rfl).Dh;obtain⟨la,lp,rfl,_,_⟩:=aK (h.bF 0 rfl).log;have BG:=hdq h;clear h;unfold bI;go_enter func187,ntmps187
 go_wp2_with fail
 refine(((BG.o.alloc _ _).alloc _ _).mO 0 rfl (fun T h=>O0 T _ _ _ s at_ 0 2 hL h)).mono ?_;rintro e w1 ⟨CQ,Dk,rfl,hL⟩;simp only[nAq,cAq,sSq,sZq,World.size_alloc]at hL;obtain⟨CR,CP,rfl,_,_⟩:=aK (hL.bF 0 rfl).Dh;obtain⟨Dc,Df,rfl,_,_⟩:=aK (hL.bF 0 rfl).log;have BB:=hdq hL;clear hL;unfold bI;generalize hb4:w.heap.size+1=b4 at BB|-;generalize hb2:w.heap.size=b2 at BB|-;clear hb4 hb2;obtain⟨p0,p1,p2,f0,f1,f2,z4,z41,z42⟩:=BB.o.c3 2 rfl;go_wp2_with fail
 refine(Kb _ _ (qh s _ at_ _ hwd) (nV s _ at_ _) _).mono ?_;rintro e w' ⟨rfl,rfl⟩;go_wp2;refine dY ?_;intro w2 hw2;have BF:=hdq ((((BB.o.set 2 rfl 0 (.slice CR (s.swap at_ 0 2).1.C.length CP)).set 2 rfl 1 (.int .i64 (s.most:Int))).set 2 rfl 2 (.slice Dc (s.swap at_ 0 2).1.L.length Df)).DN hw2);simp only[sSq,sZq,sAq,cAq,nAq]at BF;clear hw2;obtain⟨y0,y1,y2,_,_,_,_,_,_⟩:=BF.o.c3 2 rfl;refine bodyPost_ret (v:= .tuple #[.agg #[.slice CR (s.swap at_ 0 2).1.C.length CP,(s.most:Int),.slice Dc (s.swap at_ 0 2).1.L.length Df],.int .i64 ((bE (s.swap at_ 0 2).2.1.old (s.swap at_ 0 2).2.2).1:Int),.int .i64 ((bE (s.swap at_ 0 2).2.1.old (s.swap at_ 0 2).2.2).2:Int)]) (by simp[results,results187,go_sem,y0,y1,y2,Ar.swap,Ar.load]) rfl ?_;exact⟨_,_,_,rfl,BF.o⟩
theorem iH(T:List Nat)(w:World)(vc vl:Value)(s:Ar)(at_:Int)(hL:s.L.length<=1048576)(hwd:∀n∈s.C,Wd n)(h:BD T w w [di vc vl s]):
  Calls prog 139 #[bI vc s.most vl,at_] w (kJ T w (s.load at_).1 (fun CQ Dk=> .tuple #[bI CQ s.most Dk,.int .i64 ((bE (s.load at_).2.1.old (s.load at_).2.2).1:Int),.int .i64 ((bE (s.load at_).2.1.old (s.load at_).2.2).2:Int)])):=by
 obtain⟨ca,cp,rfl,_,_⟩:=aK (h.bF 0 rfl).Dh;obtain⟨la,lp,rfl,_,_⟩:=aK (h.bF 0 rfl).log;have BG:=hdq h;clear h;unfold bI;go_enter func139,ntmps139
 go_wp2_with fail
 refine(((BG.o.alloc _ _).alloc _ _).mO 0 rfl (fun T h=>rLoad T _ _ _ s at_ hL h)).mono ?_;rintro e w1 ⟨CQ,Dk,rfl,hL⟩;simp only[nAq,cAq,sSq,sZq,World.size_alloc]at hL;obtain⟨CR,CP,rfl,_,_⟩:=aK (hL.bF 0 rfl).Dh;obtain⟨Dc,Df,rfl,_,_⟩:=aK (hL.bF 0 rfl).log;have BB:=hdq hL;clear hL;unfold bI;generalize hb4:w.heap.size+1=b4 at BB|-;generalize hb2:w.heap.size=b2 at BB|-;clear hb4 hb2;obtain⟨p0,p1,p2,f0,f1,f2,z4,z41,z42⟩:=BB.o.c3 2 rfl;go_wp2_with fail
 refine(Kb _ _ (qh s _ at_ _ hwd) (nV s _ at_ _) _).mono ?_;rintro e w' ⟨rfl,rfl⟩;go_wp2;refine dY ?_;intro w2 hw2;have BF:=hdq ((((BB.o.set 2 rfl 0 (.slice CR (s.load at_).1.C.length CP)).set 2 rfl 1 (.int .i64 (s.most:Int))).set 2 rfl 2 (.slice Dc (s.load at_).1.L.length Df)).DN hw2);simp only[sSq,sZq,sAq,cAq,nAq]at BF;clear hw2;obtain⟨y0,y1,y2,_,_,_,_,_,_⟩:=BF.o.c3 2 rfl;refine bodyPost_ret (v:= .tuple #[.agg #[.slice CR (s.load at_).1.C.length CP,(s.most:Int),.slice Dc (s.load at_).1.L.length Df],.int .i64 ((bE (s.load at_).2.1.old (s.load at_).2.2).1:Int),.int .i64 ((bE (s.load at_).2.1.old (s.load at_).2.2).2:Int)]) (by simp[results,results139,go_sem,y0,y1,y2,Ar.swap,Ar.load]) rfl ?_;exact⟨_,_,_,rfl,BF.o⟩
theorem dX(T:List Nat)(w:World)(vc vl:Value)(s:Ar)(at_:Int)(hL:s.L.length<=1048576)(h:BD T w w [di vc vl s]):
  Calls prog 141 #[bI vc s.most vl,at_] w (kJ T w (s.store at_ 0).1 (fun CQ Dk=> .tuple #[bI CQ s.most Dk,.int .i64 ((s.store at_ 0).2.2:Int)])):=by
 obtain⟨ca,cp,rfl,_,_⟩:=aK (h.bF 0 rfl).Dh;obtain⟨la,lp,rfl,_,_⟩:=aK (h.bF 0 rfl).log;have BG:=hdq h;clear h;unfold bI;go_enter func141,ntmps141
 go_wp2_with fail
 refine(((BG.o.alloc _ _).alloc _ _).mO 0 rfl (fun T h=>JD T _ _ _ s at_ 0 hL h)).mono ?_;rintro e w1 ⟨CQ,Dk,rfl,hL⟩;simp only[nAq,cAq,sSq,sZq,World.size_alloc]at hL;obtain⟨CR,CP,rfl,_,_⟩:=aK (hL.bF 0 rfl).Dh;obtain⟨Dc,Df,rfl,_,_⟩:=aK (hL.bF 0 rfl).log;have BB:=hdq hL;clear hL;unfold bI;generalize hb4:w.heap.size+1=b4 at BB|-;generalize hb2:w.heap.size=b2 at BB|-;clear hb4 hb2;obtain⟨p0,p1,p2,f0,f1,f2,z4,z41,z42⟩:=BB.o.c3 2 rfl;go_wp2;refine dY ?_;intro w2 hw2;have BF:=hdq (((BB.o.set 2 rfl 0 (.slice CR (s.store at_ 0).1.C.length CP)).set 2 rfl 1 (.int .i64 (s.most:Int))).set 2 rfl 2 (.slice Dc (s.store at_ 0).1.L.length Df));simp only[sSq,sZq,sAq]at BF;rw[hw2]at BF;clear hw2;obtain⟨y0,y1,y2,_,_,_,_,_,_⟩:=BF.o.c3 2 rfl;refine bodyPost_ret (v:= .tuple #[.agg #[.slice CR (s.store at_ 0).1.C.length CP,(s.most:Int),.slice Dc (s.store at_ 0).1.L.length Df],.int .i64 ((s.store at_ 0).2.2:Int)]) (by simp[results,results141,go_sem,y0,y1,y2]) rfl ?_;exact⟨_,_,_,rfl,BF.o⟩
abbrev PL:=List (Value×Value×Ar)
def Pt(L:PL)(vc vl:Value)(s:Ar):ai where
 holds w fp:=(∀x∈(vc,vl,s)::L,gu w x.1 x.2.1 x.2.2/\∀k∈sb x.1++sb x.2.1,k∈fp)/\∀k∈fp,k<w.heap.size
 keep:=fun{w w' fp} ⟨h1,h3⟩ he=>⟨fun x hx=>⟨(h1 x hx).1.keep (fun b hb=>he b ((h1 x hx).2 b hb)),(h1 x hx).2⟩,fun k hk=>by
  have :=he k hk;rw[Array.getElem?_eq_getElem (h3 k hk)]at this;exact(Array.getElem?_eq_some_iff.1 this).1⟩
 lt:=fun⟨_,h⟩=>h
section
variable {T:List Nat} {w0 w w':World} {l:List ai} {L:PL} {vc vl:Value} {s s':Ar}
theorem BD.O7(h:BD T w0 w l)(i:Nat)(hi:l[i]? =some (Pt L vc vl s)):gu w vc vl s:=let ⟨_,h,_⟩:=h.get i hi;(h.1 _ (List.mem_cons_self ..)).1
theorem BD.U9(h:BD T w0 w l)(i:Nat)(hi:l[i]? =some (Pt L vc vl s)){CQ Dk:Value}(hr:gu w' CQ Dk s')(ht:Touch [] w w')(hn:∀b∈sb CQ++sb Dk,b∈sb vc++sb vl\/w.heap.size<=b):BD T w0 w' (l.set i (Pt ((vc,vl,s)::L) CQ Dk s')):=by
 obtain⟨f,⟨h1,h3⟩,_,hs⟩:=h.step i hi;refine hs w' (Pt ((vc,vl,s)::L) CQ Dk s') (f++(sb CQ++sb Dk)) ⟨fun x hx=>?_,fun k hk=>?_⟩ ⟨ht.mono (by simp),fun k hk=>?_⟩
 .rcases List.mem_cons.1 hx with rfl|hx
  .exact⟨hr,fun k hk=>List.mem_append_right _ hk⟩
  .exact⟨(h1 x hx).1.touch ht,fun k hk=>List.mem_append_left _ ((h1 x hx).2 k hk)⟩
 .rcases List.mem_append.1 hk with h|h
  .exact Nat.lt_of_lt_of_le (h3 k h) ht.size
  .rcases List.mem_append.1 h with h|h
   .exact iW hr.Dh k h
   .exact iW hr.log k h
 .rcases List.mem_append.1 hk with h|h
  .exact .inl h
  .exact(hn k h).imp ((h1 _ (List.mem_cons_self ..)).2 k) id
theorem BD.Uz(h:BD T w0 w l)(i:Nat)(hi:l[i]? =some (Pt L vc vl s)){f:Nat}{args:Array Value}{r:Ar×Acc×Nat}(hc:gu w vc vl s->Calls prog f args w (jq w vc vl s r)):
  Calls prog f args w fun e w'=>∃CQ Dk L',e= .returned (.tuple #[bI CQ s.most Dk,r.2.1.val,(r.2.2:Int)])/\(∀x∈L,x∈L')/\BD T w0 w' (l.set i (Pt L' CQ Dk r.1)):=by
 refine(hc (h.O7 i hi)).mono ?_;rintro e w' ⟨CQ,Dk,rfl,hr,ht,hn⟩;exact⟨CQ,Dk,_,rfl,fun x hx=>List.mem_cons_of_mem _ hx,h.U9 i hi hr ht hn⟩
theorem BD.TJ(h:BD T w0 w l)(i:Nat)(hi:l[i]? =some (Pt L vc vl s))(n:Int):
  Calls prog 218 #[bI vc s.most vl,n] w fun e w'=>∃CQ L',e= .returned (.tuple #[bI CQ s.most vl,.int .i64 ((s.au n).2.1:Int),.int .i64 ((s.au n).2.2:Int)])/\(∀x∈L,x∈L')/\BD T w0 w' (l.set i (Pt L' CQ vl (s.au n).1)):=by
 refine(Proofs.YtegejdlglonflaaGreatDoor.lD w vc vl s n (h.O7 i hi)).mono ?_;rintro e w' ⟨CQ,rfl,hr,ht,hn⟩;refine⟨CQ,_,rfl,fun x hx=>List.mem_cons_of_mem _ hx,h.U9 i hi hr ht (fun b hb=>?_)⟩;rcases List.mem_append.1 hb with hb|hb
 .exact(hn b hb).imp (fun h=>List.mem_append_left _ h) id
 .exact .inl (List.mem_append_right _ hb)
end
theorem ZX{T:List Nat}{w0 w:World}{l:List ai}(h:BD T w0 w l)(most:Nat)(hm:most<=65536):BD T w0 w (l++[Pt [] (.slice none 0 0) (.slice none 0 0) ⟨[],most,[]⟩]):=
 h.new (t':=Pt [] (.slice none 0 0) (.slice none 0 0) ⟨[],most,[]⟩) (f':=[]) ⟨fun x hx=>by obtain rfl:=List.mem_singleton.1 hx;exact⟨⟨World.ownsRow_nil _ _ _ _,World.ownsRow_nil _ _ _ _,by simp,hm⟩,by simp[sb,Value.ownBlock]⟩,by simp⟩ ⟨Touch.refl _ _,by simp⟩
def Qz(L:PL)(T:List Nat)(w:World)(s':Ar)(E:Value->Value->Value)(e:Ending)(w':World):Prop:=∃CQ Dk L' rest,e= .returned (E CQ Dk)/\(∀x∈L,x∈L')/\BD T w w' (Pt L' CQ Dk s'::rest)
theorem BD.Pw{T0:List Nat}{w0 w:World}{l:List ai}{L:PL}{vc vl:Value}{s s':Ar}{E:Value->Value->Value}{f:Nat}{args:Array Value}(h:BD T0 w0 w l)(i:Nat)(hi:l[i]? =some (Pt L vc vl s))(hc:∀T,BD T w w [Pt L vc vl s]->Calls prog f args w (Qz L T w s' E)):Calls prog f args w fun e w'=>∃CQ Dk L',e= .returned (E CQ Dk)/\(∀x∈L,x∈L')/\BD T0 w0 w' (l.set i (Pt L' CQ Dk s')):=by
 obtain⟨T',h1,h2⟩:=h.qL i hi;refine(hc T' h1).mono ?_;rintro e w' ⟨CQ,Dk,L',rest,rfl,hL,h3⟩;exact⟨CQ,Dk,L',rfl,hL,h2 _ _ _ h3⟩
end Go.Proofs.YtegejdlglonflaaGreatDoor
