/-
  Texts of WorldCopies, laid together by program.
-/
import Derived.Test.YtddnnapoaonmjaaGreatDoorWZ11
namespace Go.Proofs.YtddnnapoaonmjaaGreatDoor
open Go.RowKit Go.Shelf Go.Proofs.Tryz
set_option maxRecDepth 100000
set_option maxHeartbeats 8000000
set_option linter.unusedVariables false
set_option linter.unusedSimpArgs false
def kF(rs:List ME)(i:Int)(x:ME)(c:Bool):Prop:=(c=true/\0<=i/\rs[i.toNat]? =some x)\/(c=false/\¬(0<=i/\i<(rs.length:Int))/\x=ME.zero)
theorem kF.inq{rs:List ME}{i:Int}{x:ME}{c:Bool}(h:kF rs i x c){p:ME->Prop}(h0:p ME.zero)(hp:∀r∈rs,p r):p x:=by
 rcases h with ⟨_,_,h⟩|⟨_,_,rfl⟩
 .exact hp x (List.mem_of_getElem? h)
 .exact h0
theorem kF.plain{rs:List ME}{es:List PE}{i:Int}{x y:ME}{c d:Bool}(h:kF rs i x c)(hy:AtR es i y d)(he:es=rs.map ME.plain):y.plain=x.plain/\d=c:=by
 subst he;rcases h with ⟨rfl,h1,h2⟩|⟨rfl,h1,rfl⟩
 .have hlt:=(List.getElem?_eq_some_iff.1 h2).1
  rcases hy with ⟨rfl,h3,h4⟩|⟨rfl,h3,rfl⟩
  .rw[List.getElem?_map,h2]at h4
   simp at h4
   exact⟨h4.symm,rfl⟩
  .simp only[List.length_map]at h3
   omega
 .rcases hy with ⟨rfl,h3,h4⟩|⟨rfl,h3,rfl⟩
  .have hlt:=(List.getElem?_eq_some_iff.1 h4).1
   simp only[List.length_map]at hlt;omega
  .exact⟨rfl,rfl⟩
def YG(rs:List ME)(i:Int)(w:World)(e:Ending)(w':World):Prop:=∃x c,e= .returned (.tuple #[x.val,.bool c])/\kF rs i x c/\Touch [] w w'
theorem Vx(w:World)(a:Option Addr)(cap:Nat)(rs:List ME)(i:Int)(he:fo w a rs):Calls prog 274 #[.agg #[.slice a rs.length cap],i] w (YG rs i w):=by
 have hbe:=sH;simp only[bB,ME.zero,MT.zero,MT.kind,MT.num,MT.addr,MT.parts,MT.cap,List.length_nil]at hbe;by_cases hin:0<=i/\i<(rs.length:Int)
 .obtain⟨k,rfl⟩:=Int.eq_ofNat_of_zero_le hin.1
  have hk:k<rs.length:=by omega
  have hk1:¬(k:Int)<0:=by omega
  have hk2:¬(rs.length:Int)<=(k:Int):=by omega
  have hk3:¬rs.length<=k:=by omega
  have hk4:(k:Int)<(rs.length:Int):=by omega
  have hk0:(0:Int)<=(k:Int):=by omega
  obtain⟨b,o,rfl,hbb,p0,p1,p2,p3,p4,p5,p6⟩:=he k hk;have Jy:Hid (rs[k]? =some rs[k]):=by unfold Hid;simp[hk]
  generalize rs[k]=x at p0 p1 p2 p3 p4 p5 p6 Jy;have HY1:Hid (yX w b (o+k*7) x):=⟨p0,p1,p2,p3,p4,p5,p6⟩;go_enter func274,ntmps274
  go_upto_region 1 with fail
  refine ay ?_;intro w1 hw1;have HL:=hdq ((BD.nil' w).DZ hw1);have HTT:=hdq HL.o.BN;simp only[nAq,cAq]at HL;generalize hb4:w.heap.size+1=b4 at HL|-;generalize hb2:w.heap.size=b2 at HL|-;obtain⟨q0,fq,zq,_,_⟩:=HL.o.c1 0 rfl;obtain⟨_,_,_,_,_,_,_,_,zr,_,_⟩:=HL.o.c7 1 rfl;obtain⟨p0,p1,p2,p3,p4,p5,p6⟩:=HY1.o.touch HTT.o;have zb:b<w1.heap.size:=Nat.lt_of_lt_of_le hbb HTT.o.size;go_wp2;have Ca:=hdq (HL.o.iD 1 rfl x.sync x.thread x.branch x.flag x.v.kind x.v.num (.slice x.v.addr x.v.parts.length x.v.cap));simp only[sZq,sSq]at Ca;obtain⟨s0,s1,s2,s3,s4,s5,s6,_⟩:=Ca.o.c7 1 rfl;refine bodyPost_ret (v:= .tuple #[x.val,true]) (by simp[results,results274,go_sem,s0,s1,s2,s3,s4,s5,s6,bB]) rfl ?_;exact⟨x,true,rfl,.inl ⟨rfl,by omega,Jy.o⟩,Ca.o.BN⟩
 .have Ed:=hdq hin
  have hor:i<0\/(rs.length:Int)<=i:=by omega
  rcases hor with hi|hi
  all_goals
   go_enter func274,ntmps274
   go_upto_region 1 with fail
   refine ay ?_;intro w1 hw1;have HL:=hdq ((BD.nil' w).DZ hw1);have HTT:=hdq HL.o.BN;simp only[nAq,cAq]at HL;generalize hb4:w.heap.size+1=b4 at HL|-;generalize hb2:w.heap.size=b2 at HL|-;obtain⟨q0,fq,zq,_,_⟩:=HL.o.c1 0 rfl;obtain⟨_,_,_,_,_,_,_,_,zr,_,_⟩:=HL.o.c7 1 rfl;go_wp2;have Ca:=hdq (HL.o.iD 1 rfl 0 0 0 0 0 0 (.slice none 0 0));simp only[sZq,sSq]at Ca;obtain⟨s0,s1,s2,s3,s4,s5,s6,_⟩:=Ca.o.c7 1 rfl;refine bodyPost_ret (v:= .tuple #[ME.zero.val,false]) (by simp[results,results274,go_sem,s0,s1,s2,s3,s4,s5,s6,bB,ME.zero,MT.zero,MT.kind,MT.num,MT.addr,MT.parts,MT.cap]) rfl ?_;exact⟨ME.zero,false,rfl,.inr ⟨rfl,Ed.o,rfl⟩,Ca.o.BN⟩
section
open Go.RowKit
section
variable {T:List Nat} {w0 w w':World} {l:List ai} {g:Nat} {es:List ME}
def Beside(l:List ai)(i:Nat)(W:World):Prop:=∀j u,j≠i->l[j]? =some u->∃f,u.holds W f
theorem BD.OX(h:BD T w0 w l)(i:Nat)(hi:l[i]? =some (aQ g es))(z:Int)(hes:es.length<=1048576):
  Calls prog 199 #[g,z] w fun e w'=>(∃x,0<=z/\es[z.toNat]? =some x/\e= .returned (.tuple #[x.val,true])/\BD T w0 w' (l.set i (aQ g (es.eraseIdx z.toNat))))\/
   (¬(0<=z/\z<(es.length:Int))/\e= .returned (.tuple #[ME.zero.val,false])/\BD T w0 w' (l.set i (aQ g es))):=by
 obtain⟨T',h1,hb⟩:=h.qL i hi;refine(Drop_q T' w g es z h1 hes).mono ?_;rintro e w' (⟨x,h0,hx,rfl,hL⟩|⟨hn,rfl,hL⟩)
 .exact .inl ⟨x,h0,hx,rfl,hb _ _ _ hL⟩
 .exact .inr ⟨hn,rfl,hb _ _ _ hL⟩
theorem vG{W:World}{b c:Nat}{xs:List ME}{cs:Array Value}(hcs:cs=(aM xs).toArray)(h:∃f,(box b c cs).holds W f):fo W (some ⟨b,0,none⟩) xs:=by
 obtain⟨f,_,hb⟩:=h;subst hcs;intro i hi;have hl:=fU xs;have hc:∀q,q<7->W.cell? ⟨b,0+i*7+q,none⟩=xs[i].cells[q]? :=fun q hq=>by
  rw[Nat.zero_add,hb.cell (i*7+q),<-jT xs i hi q hq,List.getElem?_toArray]
 exact⟨b,0,rfl,hb.lt,hc 0 (by omega),hc 1 (by omega),hc 2 (by omega),hc 3 (by omega),hc 4 (by omega),hc 5 (by omega),hc 6 (by omega)⟩
end
end
theorem Cg.src{w:World}{g:Nat}{t:TypeId}{cs:Array Value}(h:Cg w g t cs):∀j u,cs.toList[j]? =some u->w.cell? ((⟨g,0,none⟩:Addr).add j)=some u:=by
 intro j u hu;rw[Addr.add_lit,Nat.zero_add,h.cell j];simpa using hu
theorem Vb(a:Option Addr)(n c:Nat)(w:World):(Instr.build 72 #[(0,.slice a n c)]).run prog w= .ok (.agg #[.slice a n c]) w:=run_build w 72 _ _ (by kernel_rfl)
theorem V9{w:World}{e size n cap:Nat}{a:Option Addr}{xs:List Value}(h:dZ w e size (.slice a n cap) n xs):n<=cap:=by
 obtain⟨a',c',hv,h1,_⟩:=mP h;injection hv with _ _ h3
 omega
theorem cells_one(x:ME):∀u∈x.cells,u.oneCell'=true:=by have :=qf [x];simpa[aM]using this
def TD(T:List Nat)(w:World)(P:World->Prop)(a:Option Addr)(rs:List ME)(w':World):Prop:=∃P':World->Prop,(∀W,P' W->P W/\fo W a rs)/\BD T w w' [aA P']
theorem TD.same{T:List Nat}{w w':World}{P:World->Prop}{a:Option Addr}{rs:List ME}{rest:List ai}(h:BD T w w' (aA P::rest))(hP:∀W,P W->fo W a rs):TD T w P a rs w':=⟨P,fun W hW=>⟨hW,hP W hW⟩,BD.aF (l:=[aA P]) (m:=rest) h⟩
theorem TD.made{T:List Nat}{w w':World}{P:World->Prop}{a:Option Addr}{cap n:Nat}{rs:List ME}(hn:rs.length=n)(h:BD T w w' [aA P,aS 47 7 (.slice a n cap) n (aM rs)]):TD T w P a rs w':=by
 subst hn;exact⟨fun W=>P W/\fo W a rs,fun W hW=>hW,BD.settle (l:=[aA P]) h 0 rfl (fun W f hW hf=>⟨hW,iL hf.2⟩)⟩
def YK(T:List Nat)(w:World)(P:World->Prop)(rs:List ME)(x:ME)(e:Ending)(w':World):Prop:=
 ∃(err:Int) (a':Option Addr) (cap':Nat) (rs':List ME),e= .returned (.tuple #[.agg #[.slice a' rs'.length cap'],err])/\rs'.length<=cap'/\((err=2/\¬x.plain.Ok/\rs'=rs)\/(err=6/\x.plain.Ok/\rs.length=4096/\rs'=rs)\/(err=0/\x.plain.Ok/\rs.length<4096/\rs'=rs++[x]))/\TD T w P a' rs' w'
theorem XI(T:List Nat)(w:World)(P:World->Prop)(a:Option Addr)(cap:Nat)(rs:List ME)(x:ME)(hcap:rs.length<=cap)(h:BD T w w [aA P])(hP:∀W,P W->fo W a rs/\x.v.In W)(hnx:x.v.nodes<=1048576)(hlen:rs.length<=4096):
  Calls prog 276 #[.agg #[.slice a rs.length cap],x.val] w (YK T w P rs x):=by
 have HP:=hdq hP;have BG:=hdq h;have hbq:=Vb;obtain⟨i0,hi0,CY,CU,CX⟩:=info_parts nD;clear h hP;simp only[bB];go_enter func276,ntmps276
 go_wp2_with fail
 refine ah ?_;intro w1 hw1;have BB:=hdq (BG.o.UX hw1);simp only[nAq,cAq]at BB;generalize hb4:w.heap.size+1+1=b4 at BB|-;generalize hb3:w.heap.size+1=b3 at BB|-;generalize hb2:w.heap.size=b2 at BB|-;clear hw1 hb4 hb3 hb2 BG;refine(Ww x w1 (HP.o _ (BB.o.still 0 rfl)).2 hnx).mono ?_;rintro e w3 ⟨cc,rfl,hcc,ht⟩;have BF:=hdq (BB.o.touch ht);have D6:=hdq hcc;clear hcc ht BB;obtain⟨v0,_,hl2,_,_⟩:=BF.o.c1 1 rfl;obtain⟨x0,x1,x2,x3,x4,x5,x6,_,hl3,_,_⟩:=BF.o.c7 2 rfl;obtain⟨u0,uf,hl4,_,_⟩:=BF.o.c1 3 rfl;cases cc with
 |false=>
  go_wp2;have BH:=hdq (BF.o.set 3 rfl 0 (.slice a rs.length cap));simp only[sSq,sZq,sAq]at BH;obtain⟨s0,_⟩:=BH.o.c1 3 rfl;refine bodyPost_ret (v:= .tuple #[.agg #[.slice a rs.length cap],(2:Int)]) (by simp[results,results276,go_sem,s0]) rfl ?_;exact⟨2,a,cap,rs,rfl,hcap,.inl ⟨rfl,fun hk=>(by have :=D6.o.2 hk;cases this),rfl⟩,TD.same BH.o (fun W hW=>(HP.o W hW).1)⟩
 |true=>
  have EC:Hid x.plain.Ok:=D6.o.1 rfl;clear D6;by_cases hfull:rs.length=4096
  .have hf1:(4096:Int)<=(rs.length:Int):=by omega
   have HFU:=hdq hfull;clear hfull;go_wp2;have BH:=hdq (BF.o.set 3 rfl 0 (.slice a rs.length cap));simp only[sSq,sZq,sAq]at BH;obtain⟨s0,_⟩:=BH.o.c1 3 rfl;refine bodyPost_ret (v:= .tuple #[.agg #[.slice a rs.length cap],(6:Int)]) (by simp[results,results276,go_sem,s0]) rfl ?_;exact⟨6,a,cap,rs,rfl,hcap,.inr (.inl ⟨rfl,EC.o,HFU.o,rfl⟩),TD.same BH.o (fun W hW=>(HP.o W hW).1)⟩
  .have hf1:¬(4096:Int)<=(rs.length:Int):=by omega
   have n1:=BF.o.ne 1 3 rfl rfl (by decide);have n2:=Ne.symm n1;have n3:=BF.o.ne 2 3 rfl rfl (by decide);have n4:=Ne.symm n3;go_wp2_with fail
   have Gj:=hdq ((BF.o.empty 47 7).drew);have Gs:=hdq (((BF.o.empty 47 7).alloc 47 #[x.sync,x.thread,x.branch,x.flag,x.v.kind,x.v.num,.slice x.v.addr x.v.parts.length x.v.cap]).drew);have Gm:=hdq ((((BF.o.alloc 47 #[x.sync,x.thread,x.branch,x.flag,x.v.kind,x.v.num,.slice x.v.addr x.v.parts.length x.v.cap]).empty 47 7).drew).pick [0,1,2,3,5,4] (by decide) (by simp));simp only[nAq,cAq,World.size_alloc,List.filterMap_cons,List.filterMap_nil,List.getElem?_cons_zero,List.getElem?_cons_succ]at Gj Gs Gm;go_region_held3 (fun w'=>w'.cell? ⟨b2,0,none⟩=some (.slice a rs.length cap)/\w'.cell? ⟨b3,0,none⟩=some (.int .i64 x.sync)/\w'.cell? ⟨b3,1,none⟩=some (.int .i64 x.thread)/\w'.cell? ⟨b3,2,none⟩=some (.int .i64 x.branch)/\w'.cell? ⟨b3,3,none⟩=some (.int .i64 x.flag)/\w'.cell? ⟨b3,4,none⟩=some (.int .i64 x.v.kind)/\w'.cell? ⟨b3,5,none⟩=some (.int .i64 x.v.num)/\w'.cell? ⟨b3,6,none⟩=some (.slice x.v.addr x.v.parts.length x.v.cap)) (go_keep) (first
    |(refine aD _ (by rfl) (.tmp 15) (.tmp 17) 70 (by rfl) 47 i0 _ 7 72 underlying70 hi0 CY CU CX rfl (by decide) (.slice (some ⟨w3.heap.size,0,none⟩) 0 0) 0 [] (by rfl) (Gj.o.aZ 4 rfl) a rs.length cap (aM rs) (by rfl) (fU rs) (HP.o _ (Gj.o.still 0 rfl)).1.src (qf rs) (by simp only[maxLen];omega) (by omega) ?_;intro a2 c2 w2 hown hgrow hat;simp only[Nat.zero_add,nAq]at hown hat|-;have BH:=hdq (Gj.o.bG 4 rfl hgrow hown hat);simp only[sSq,sZq]at BH;obtain⟨v0,_,hl2,_,_⟩:=BH.o.c1 1 rfl;obtain⟨x0,x1,x2,x3,x4,x5,x6,_,hl3,_,_⟩:=BH.o.c7 2 rfl;obtain⟨u0,uf,hl4,_,_⟩:=BH.o.c1 3 rfl;clear hown hgrow hat)
    |(refine aD _ (by rfl) (.tmp 15) (.tmp 17) 70 (by rfl) 47 i0 _ 7 72 underlying70 hi0 CY CU CX rfl (by decide) (.slice (some ⟨w3.heap.size,0,none⟩) 0 0) 0 [] (by rfl) (Gs.o.aZ 4 rfl) a rs.length cap (aM rs) (by rfl) (fU rs) (HP.o _ (Gs.o.still 0 rfl)).1.src (qf rs) (by simp only[maxLen];omega) (by omega) ?_;intro a2 c2 w2 hown hgrow hat;simp only[Nat.zero_add,nAq]at hown hat|-;have BH:=hdq (Gs.o.bG 4 rfl hgrow hown hat);simp only[sSq,sZq]at BH;obtain⟨v0,_,hl2,_,_⟩:=BH.o.c1 1 rfl;obtain⟨x0,x1,x2,x3,x4,x5,x6,_,hl3,_,_⟩:=BH.o.c7 2 rfl;obtain⟨u0,uf,hl4,_,_⟩:=BH.o.c1 3 rfl;clear hown hgrow hat)
    |(refine aD _ (by rfl) (.tmp 15) (.tmp 17) 70 (by rfl) 47 i0 _ 7 72 underlying70 hi0 CY CU CX rfl (by decide) (.slice (some ⟨w3.heap.size+1,0,none⟩) 0 0) 0 [] (by rfl) (Gm.o.aZ 4 rfl) a rs.length cap (aM rs) (by rfl) (fU rs) (HP.o _ (Gm.o.still 0 rfl)).1.src (qf rs) (by simp only[maxLen];omega) (by omega) ?_;intro a2 c2 w2 hown hgrow hat;simp only[Nat.zero_add,nAq]at hown hat|-;have BH:=hdq (Gm.o.bG 4 rfl hgrow hown hat);simp only[sSq,sZq]at BH;obtain⟨v0,_,hl2,_,_⟩:=BH.o.c1 1 rfl;obtain⟨x0,x1,x2,x3,x4,x5,x6,_,hl3,_,_⟩:=BH.o.c7 2 rfl;obtain⟨u0,uf,hl4,_,_⟩:=BH.o.c1 3 rfl;clear hown hgrow hat)
    |(refine aD _ (by rfl) (.tmp 18) (.tmp 20) 70 (by rfl) 47 i0 _ 7 72 underlying70 hi0 CY CU CX rfl (by decide) (.slice a2 rs.length c2) rs.length (aM rs) (by rfl) ((BH.o.alloc _ _).aZ 4 rfl) (some ⟨w2.heap.size,0,none⟩) 1 1 x.cells (by rfl) rfl (.inr ⟨_,rfl,((BH.o.alloc _ _).box 5 rfl).src⟩) (cells_one x) (by simp only[maxLen];omega) (by omega) ?_;intro a3 c3 w3 hown hgrow hat;have Ca:=hdq ((BH.o.alloc _ _).bG 4 rfl hgrow hown hat);simp only[sSq,sZq,cAq,nAq]at Ca;obtain⟨v0,_,hl2,_,_⟩:=Ca.o.c1 1 rfl;obtain⟨x0,x1,x2,x3,x4,x5,x6,_,hl3,_,_⟩:=Ca.o.c7 2 rfl;obtain⟨u0,uf,hl4,_,_⟩:=Ca.o.c1 3 rfl;clear hown hgrow hat)
    |(refine aD _ (by rfl) (.tmp 18) (.tmp 20) 70 (by rfl) 47 i0 _ 7 72 underlying70 hi0 CY CU CX rfl (by decide) (.slice a2 rs.length c2) rs.length (aM rs) (by rfl) (BH.o.aZ 4 rfl) (some ⟨_,0,none⟩) 1 1 x.cells (by rfl) rfl (.inr ⟨_,rfl,(BH.o.box 5 rfl).src⟩) (cells_one x) (by simp only[maxLen];omega) (by omega) ?_;intro a3 c3 w3 hown hgrow hat;have Ca:=hdq (BH.o.bG 4 rfl hgrow hown hat);simp only[sSq,sZq,cAq,nAq]at Ca;obtain⟨v0,_,hl2,_,_⟩:=Ca.o.c1 1 rfl;obtain⟨x0,x1,x2,x3,x4,x5,x6,_,hl3,_,_⟩:=Ca.o.c7 2 rfl;obtain⟨u0,uf,hl4,_,_⟩:=Ca.o.c1 3 rfl;clear hown hgrow hat))
   all_goals go_wp2
   all_goals have FE:=hdq (Ca.o.set 3 rfl 0 (.slice a3 (rs.length+1) c3))
   all_goals simp only[sSq,sZq,sAq]at FE
   all_goals obtain⟨s0,_⟩:=FE.o.c1 3 rfl
   all_goals refine bodyPost_ret (v:= .tuple #[.agg #[.slice a3 (rs.length+1) c3],()]) (by simp[results,results276,go_sem,s0]) rfl ?_
   all_goals refine⟨0,a3,c3,rs++[x],(by simp),(by have :=V9 (FE.o.aZ 4 rfl);simpa using this),.inr (.inr ⟨rfl,EC.o,by omega,rfl⟩),TD.made (cap:=c3) (n:=rs.length+1) (by simp) ?_⟩
   all_goals rw[iC,show aM [x]=x.cells from(by simp[aM])]
   all_goals exact FE.o.sel [0,4] rfl (by decide)
end Go.Proofs.YtddnnapoaonmjaaGreatDoor
