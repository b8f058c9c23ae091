/-
  Texts of WorldCopies, laid together by program.
-/
import Derived.Test.YtddnnapoaonmjaaGreatDoorWZ10
import Derived.LoopIn
namespace Go.Proofs.YtddnnapoaonmjaaGreatDoor
open Go.RowKit Go.Shelf Go.Proofs.Tryz
set_option maxRecDepth 100000
set_option maxHeartbeats 8000000
set_option linter.unusedVariables false
set_option linter.unusedSimpArgs false
def ac2(P:PE->Prop)(es:List PE)(fr r:Int):Prop:=
 (r= -1/\∀j (h:j<es.length),fr<=(j:Int)->¬P es[j])\/∃j,∃h:j<es.length,r=(j:Int)/\fr<=(j:Int)/\P es[j]/\∀i (h':i<es.length),fr<=(i:Int)->i<j->¬P es[i]
theorem ac2.unique{P:PE->Prop}{es:List PE}{fr r r':Int}(h:ac2 P es fr r)(h':ac2 P es fr r'):r=r':=by
 rcases h with ⟨h1,h2⟩|⟨j,hj,h1,h2,h3,h4⟩
 .rcases h' with ⟨h1',_⟩|⟨j',hj',h1',h2',h3',_⟩
  .omega
  .exact absurd h3' (h2 j' hj' h2')
 .rcases h' with ⟨h1',h2'⟩|⟨j',hj',h1',h2',h3',h4'⟩
  .exact absurd h3 (h2' j hj h2)
  .by_cases hlt:j<j'
   .exact absurd h3 (h4' j hj h2 hlt)
   .by_cases hlt2:j'<j
    .exact absurd h3' (h4 j' hj' h2' hlt2)
    .omega
def acF(P:PE->Prop)(es:List PE)(fr k:Int)(c:Bool):Prop:=∃r,ac2 P es fr r/\k=max r 0/\(c=true↔0<=r)
theorem acF.unique{P:PE->Prop}{es:List PE}{fr k k':Int}{c c':Bool}(h:acF P es fr k c)(h':acF P es fr k' c'):k=k'/\c=c':=by
 obtain⟨r,h1,h2,h3⟩:=h;obtain⟨r',h1',h2',h3'⟩:=h';obtain rfl:=h1.unique h1';refine⟨by omega,?_⟩;cases c<;>cases c'<;>simp_all<;>omega
def zU(m:Nat):Array Value:=madeCells #[(),(),(),(),(),(),True] (m*7)
theorem A9(m:Nat):(zU m).size=m*7:=by simp[zU,madeCells]
theorem zZ(m:Nat)(hm:m<=1048576)(W:World):(Instr.makeSlice 70 (.int .i64 0) (.int .i64 (m:Int))).run prog W=
  .ok (.slice (some ⟨W.heap.size,0,none⟩) 0 m) (W.alloc (.cells (zU m) 47)):=by
 obtain⟨i0,hi,CY,CU,CX⟩:=info_parts nD;have hr:=run_make (P:=prog) W 70 47 i0 _ underlying70 hi CY .i64 .i64 0 m (by omega) (by omega) (by rw[CX];omega) (by omega);rw[CU]at hr;simpa[Value.cells,zU]using hr
theorem BD.Ip{T:List Nat}{w0 w:World}{l:List ai}(h:BD T w0 w l)(m:Nat)(hm:m<=1048576){w':World}(e:w.alloc (.cells (zU m) 47)=w'):BD T w0 w' (l++[aS 47 7 (.slice (some ⟨w.heap.size,0,none⟩) 0 m) 0 []]):=
 e▸h.new (t':=aS 47 7 (.slice (some ⟨w.heap.size,0,none⟩) 0 m) 0 []) ⟨rfl,by simp,.inr ⟨w.heap.size,m,zU m,rfl,heap_alloc_new w _,Nat.zero_le _,by simp only[maxLen];omega,by rw[A9];exact Nat.le_refl _,by simp⟩⟩ ⟨(Touch.refl [] w).alloc _,fun k hk=> .inr (by simp[sb,Value.ownBlock]at hk;omega)⟩
def Copied(es:List ME)(w:World)(e:Ending)(w':World):Prop:=∃a cap ys,e= .returned (.slice a es.length cap)/\ys.map ME.plain=es.map ME.plain/\BD [] w w' [aS 47 7 (.slice a es.length cap) es.length (aM ys),bS (ys.map ME.v)]
theorem Ls(w:World)(a:Option Addr)(cap:Nat)(es:List ME)(he:fo w a es)(hin:∀e∈es,e.v.In w/\e.v.nodes<=256)(hlen:es.length<=1048576):Calls prog 220 #[.slice a es.length cap] w (Copied es w):=by
 have HE:=hdq he;have Ed:=hdq hin;have hmk:=zZ es.length hlen;obtain⟨i0,hi0,CY,CU,CX⟩:=info_parts nD;go_enter func220,ntmps220
 go_wp2_with fail
 refine ay ?_;intro w1 hw1;have BB:=hdq ((BD.nil' w).Ip es.length hlen hw1).yS;simp only[nAq,cAq]at BB;go_loopw [3,11] (fun x i wr=>∃(j:Nat) (ys:List ME) (ra:Option Addr) (rc:Nat),j<=es.length/\i= .int .i64 (j:Int)/\x= .slice ra j rc/\ys.length=j/\Hid (ys.map ME.plain=(es.take j).map ME.plain)/\
  Hid (BD [] w wr [aS 47 7 (.slice ra j rc) j (aM ys),bS (ys.map ME.v)])) (fun _ i _=>es.length-(intOf i).toNat)
 case atStart=>exact⟨0,[],_,_,Nat.zero_le _,rfl,rfl,rfl,by unfold Hid;simp,BB⟩
 case round=>
  obtain⟨j,ys,ra,rc,hj,rfl,rfl,hyl,HY,HK⟩:=hrel;have hj0:(0:Int)<=(j:Int):=by omega
  by_cases hjl:j<es.length
  .have Cc:(j:Int)<(es.length:Int):=by omega
   obtain⟨b,o,rfl,hb,p0,p1,p2,p3,p4,p5,p6⟩:=(HE.o.touch HK.o.BN) j hjl;have HI:=hdq (Ed.o _ (List.getElem_mem hjl));have Eh:Hid ((es.take (j+1)).map ME.plain=(es.take j).map ME.plain++[es[j].plain]):=by
    unfold Hid;rw[List.take_add_one,List.getElem?_eq_getElem hjl,Option.toList_some,List.map_append];rfl
   generalize es[j]=x at p0 p1 p2 p3 p4 p5 p6 HI Eh;go_wp2_with fail
   refine ah ?_;intro w2 hw2;have HT2:Hid (Touch [] wr w2):=hw2▸(Touch.refl [] wr).alloc _;have HL2:=hdq (HK.o.touch HT2.o);refine(kM x w2 (HI.o.1.aO (HK.o.BN.trans' HT2.o)) HI.o.2).mono ?_;rintro e w4 ⟨x',rfl,hpl,EO,hnew,ht⟩;have BH:=hdq (HL2.o.gH (vs:=[x'.v]) ht (by simpa using EO) (by simpa using hnew));simp only[nAq,cAq]at BH;have EA:=hdq hpl;simp only[bB];go_wp2_with (at_builtin;go_must (refine cB _ rfl (.tmp 15) (.tmp 18) 70 rfl 47 i0 _ 7 72 underlying70 hi0 CY CU CX rfl (by decide) (.slice ra j rc) j (aM ys) rfl ((BH.o.dL _).aZ 0 rfl) (some ⟨w4.heap.size,0,none⟩) 1 1 x'.cells rfl rfl (.inr ⟨_,rfl,World.news_of_block (heap_alloc_new w4 _)⟩) (by have :=qf [x'];simpa[aM]using this) (by simp only[maxLen];omega) (by omega) ?_);intro a5 c5 w5 hown hgrow hat;refine Hid.o ?_)
   have Ca:Hid (BD [] w w5 [aS 47 7 (.slice a5 (j+1) c5) (j+1) (aM (ys++[x'])),bS ((ys++[x']).map ME.v)]):=by
    have h:=(BH.o.dL _).bG 0 rfl hgrow hown hat;simp only[sSq,sZq]at h;rw[iC,List.map_append];exact BD.ql (l:=[_]) h
   refine hdq ?_;go_wp2;go_roundw
   case rel=>exact⟨j+1,ys++[x'],a5,c5,by omega,by go_num,rfl,by simp[hyl],by unfold Hid;rw[List.map_append,HY.o,Eh.o,<-EA.o];rfl,Ca⟩
   case measure=>simp[intOf];omega
  .have Cc:¬(j:Int)<(es.length:Int):=by omega
   obtain rfl:j=es.length:=by omega
   go_wp2;go_ret
   exact⟨ra,rc,ys,rfl,by have :=HY.o;rwa[List.take_length]at this,HK.o⟩
theorem vU(v:Option Addr)(n c:Nat)(w:World)(h:prog.built 275 [(0,.bool true),(1,.slice v n c)]=some #[.bool true,.slice v n c]):(Instr.build 275 #[(0,.bool true),(1,.slice v n c)]).run prog w= .ok (.agg #[true,.slice v n c]) w:=run_build w 275 _ _ h
def MV(es:List ME)(w:World)(e:Ending)(w':World):Prop:=∃g ys,e= .returned (.pointer (some ⟨g,0,none⟩))/\ys.map ME.plain=es.map ME.plain/\BD [] w w' [aQ g ys,bS (ys.map ME.v)]
theorem xV(w:World)(g:Nat)(es:List ME)(h:Kk w g es)(hin:∀e∈es,e.v.In w/\e.v.nodes<=256)(hlen:es.length<=1048576):Calls prog 141 #[g] w (MV es w):=by
 obtain⟨a,cap,hb,hc1,hc2,hr⟩:=h;have HC:=hdq (Ls w a cap es (iL hr) hin hlen);have q0:=hb.cell 0;have q1:=hb.cell 1;simp at q0 q1
 go_enter func141,ntmps141
 go_wp2_with fail
 refine(pG g w q0).mono ?_;rintro e w' ⟨rfl,rfl⟩;go_wp2_with fail
 refine HC.o.mono ?_;rintro e w2 ⟨a2,c2,ys,rfl,hpl,hL⟩;have HL:=hdq hL;have EA:=hdq hpl;have hb1:∀W,(Instr.build 275 #[(0,.bool true),(1,.slice a2 es.length c2)]).run prog W= .ok (.agg #[true,.slice a2 es.length c2]) W:=fun W=>vU _ _ _ W (by kernel_rfl);have hb2:∀W,(Instr.build 277 #[(0,.agg #[true,.slice a2 es.length c2])]).run prog W= .ok (.agg #[true,.slice a2 es.length c2]) W:=fun W=>oD _ _ W (by kernel_rfl);go_wp2;go_ret
 refine⟨w2.heap.size,ys,rfl,EA.o,?_⟩;have hyl:ys.length=es.length:=by have :=congrArg List.length EA.o;simpa using this
 have h:=HL.o.alloc 277 #[true,.slice a2 es.length c2];have h2:=h.sel [2,0,1] (l':=[_,_,_]) rfl (by decide);exact h2.yZ hyl
def allT(bx:Nat)(v:Value)(ys:List ME):ai where
 holds w fp:=fp=bx::(sb v++MT.dF (ys.map ME.v))/\Cg w bx 70 #[v]/\dZ w 47 7 v ys.length (aM ys)/\∀y∈ys,y.v.In w
 keep:=fun⟨h1,h2,h3,h4⟩ he=>⟨h1,h2.keep (he bx (by simp[h1])),nT h3 (fun k hk=>he k (by simp[h1,hk])),fun y hy=>(h4 y hy).keep (fun k hk=>he k (by
  rw[h1];refine List.mem_cons_of_mem _ (List.mem_append_right _ (MT.eU.2 ⟨y.v,List.mem_map.2 ⟨y,hy,rfl⟩,hk⟩))))⟩
 lt:=fun⟨h1,h2,h3,h4⟩ k hk=>by
  subst h1;rcases List.mem_cons.1 hk with rfl|hk
  .exact h2.lt
  .rcases List.mem_append.1 hk with hk|hk
   .exact lY h3 k hk
   .obtain⟨t,ht,hk⟩:=MT.eU.1 hk
    obtain⟨y,hy,rfl⟩:=List.mem_map.1 ht;exact(h4 y hy).lt k hk
def Wh(v:Value)(ys:List ME):ai where
 holds w fp:=fp=sb v++MT.dF (ys.map ME.v)/\dZ w 47 7 v ys.length (aM ys)/\∀t∈ys.map ME.v,t.In w
 keep:=fun⟨a,b,c⟩ he=>⟨a,nT b (fun k hk=>he k (by simp[a,hk])),fun t ht=>(c t ht).keep (fun k hk=>he k (by rw[a];exact List.mem_append_right _ (MT.eU.2 ⟨t,ht,hk⟩)))⟩
 lt:=fun⟨a,b,c⟩ k hk=>by
  subst a;rcases List.mem_append.1 hk with hk|hk
  .exact lY b k hk
  .obtain⟨t,ht,hk⟩:=MT.eU.1 hk
   exact(c t ht).lt k hk
theorem BD.shutAll{T:List Nat}{w0 w:World}{l:List ai}{bx n:Nat}{v:Value}{ys:List ME}(hn:ys.length=n)(h:BD T w0 w (l++[Proofs.YtddnnapoaonmjaaGreatDoor.box bx 70 #[v],aS 47 7 v n (aM ys),bS (ys.map ME.v)])):BD T w0 w (l++[allT bx v ys]):=by
 subst hn;have h1:BD T w0 w ((l++[Proofs.YtddnnapoaonmjaaGreatDoor.box bx 70 #[v]])++[aS 47 7 v ys.length (aM ys),bS (ys.map ME.v)]):=by simpa using h
 have h2:=h1.merge (t12:=Wh v ys) (fun f1 f2 ⟨a1,a2⟩ ⟨b1,b2⟩=>⟨by rw[a1,b1],a2,b2⟩);have h3:BD T w0 w (l++[Proofs.YtddnnapoaonmjaaGreatDoor.box bx 70 #[v],Wh v ys]):=by simpa using h2
 exact h3.merge (fun f1 f2 ⟨a1,a2⟩ ⟨b1,b2,b3⟩=>⟨by rw[a1,b1];rfl,a2,b2,fun y hy=>b3 _ (List.mem_map.2 ⟨y,hy,rfl⟩)⟩)
def TR(es:List ME)(w:World)(e:Ending)(w':World):Prop:=∃bx a cap ys,e= .returned (.func (.func 251) #[] #[.pointer (some ⟨bx,0,none⟩)])/\ys.map ME.plain=es.map ME.plain/\BD [] w w' [allT bx (.slice a ys.length cap) ys]
theorem All_q(w:World)(g:Nat)(es:List ME)(h:Kk w g es)(hin:∀e∈es,e.v.In w/\e.v.nodes<=256)(hlen:es.length<=1048576):Calls prog 181 #[g] w (TR es w):=by
 have HQA:=hdq h;have Ed:=hdq hin;go_enter func181,ntmps181
 go_wp2_with fail
 refine ah ?_;intro w1 hw1;have BB:=hdq ((BD.nil' w).DN hw1);simp only[nAq,cAq]at BB;generalize hb3:w.heap.size=b3 at BB|-;obtain⟨a,cap,hb,hc1,hc2,hr⟩:=HQA.o.touch BB.o.BN;have HC:=hdq (Ls w1 a cap es (iL hr) (fun e he=>⟨(Ed.o e he).1.aO BB.o.BN,(Ed.o e he).2⟩) hlen);have q0:=hb.cell 0;have q1:=hb.cell 1;simp at q0 q1
 refine(pG g w1 q0).mono ?_;rintro e w' ⟨rfl,rfl⟩;go_wp2_with fail
 refine HC.o.mono ?_;rintro e w2 ⟨a2,c2,ys,rfl,hpl,hL⟩;have EA:=hdq hpl;have HL2:Hid (BD [] w w2 [box b3 70 #[True],aS 47 7 (.slice a2 es.length c2) es.length (aM ys),bS (ys.map ME.v)]):=BB.o.join hL;obtain⟨x0,fx,zx,_,_⟩:=HL2.o.c1 0 rfl;go_wp2;go_ret
 refine⟨b3,a2,c2,ys,rfl,EA.o,?_⟩;have hyl:ys.length=es.length:=by have :=congrArg List.length EA.o;simpa using this
 have h:=HL2.o.set 0 rfl 0 (.slice a2 es.length c2);simp only[sZq,sAq]at h;have h2:=BD.shutAll (l:=[]) hyl h;rw[hyl];exact h2
section
attribute [local go_sem] Oper.semAt_some
def JZ(w:World)(bx:Nat)(a:Option Addr)(cap:Nat)(ys:List ME):Prop:=Cg w bx 70 #[.slice a ys.length cap]/\fo w a ys/\∀y∈ys,y.v.In w
theorem BD.aaf{T:List Nat}{w0 w:World}{l:List ai}{bx:Nat}{a:Option Addr}{cap:Nat}{ys:List ME}(h:BD T w0 w l)(i:Nat)(hi:l[i]? =some (allT bx (.slice a ys.length cap) ys)):JZ w bx a cap ys:=by
 obtain⟨f,⟨_,h2,h3,h4⟩,_⟩:=h.get i hi;exact⟨h2,iL h3,h4⟩
theorem Zf{F:Fence}{n:Nat}{P:Program}{f:FuncId}{args:Array Value}{Q:Ending->World->Prop}{W:World}(h:∀w2,W=w2->CallsIn F n P f args w2 Q):CallsIn F n P f args W Q:=h W rfl
theorem Zn(n l bx:Nat)(a:Option Addr)(cap:Nat)(ys:List ME)(hL:ys.length<=1048576)(hnn:∀y∈ys,y.v.nodes<=256)(J:Nat->World->Prop)(J1:Nat->ME->World->Prop)(Jx:World->Prop)(hmem:∀k W,J k W->JZ W bx a cap ys)(hmv:∀k W W' x,J k W->Touch [] W W'->x.v.In W'->(∀b∈x.v.blocks,W.heap.size<=b)->(ys.map ME.plain)[k]? =some x.plain->J1 k x W')(hY:∀(k:Nat) (x:ME) (W:World),k<ys.length->J1 k x W->YieldAt Fence.wide (n-1) prog l #[(k:Int),x.val] W (Told (J (k+1)) Jx))(W:World)(h0:J 0 W):
  CallsIn Fence.wide n prog 251 #[.func (.yield l) #[] #[],bx] W (Zj (fun k=>k=ys.length) J Jx):=by
 refine callsIn_of_wp func251 rfl trivial ?_ rfl;simp only[ntmps251,List.size_toArray,List.length_cons,List.length_nil,Nat.reduceAdd,Nat.reduceSub,Array.replicate_succ,Array.replicate_zero,List.push_toArray,List.append_toArray,nAq,cAq];have HM:=hdq hmem;have HY:=hdq hY;have HMV:=hdq hmv;have CW:=hdq hnn;obtain⟨b1,b2,b3⟩:=hmem 0 W h0;have q1:=b1.cell 0;simp at q1
 gi_wp2
 gi_loopw [7] (fun i wr=>∃k:Nat,i= .int .i64 (k:Int)/\J k wr/\k<=ys.length) (fun i _=>ys.length-(intOf i).toNat)
 case atStart=>exact⟨0,rfl,h0,Nat.zero_le _⟩
 case round=>
  obtain⟨k,rfl,hj,hk⟩:=hrel;have hk0:(0:Int)<=(k:Int):=by omega
  by_cases hlt:k<ys.length
  .have hlt':(k:Int)<(ys.length:Int):=by omega
   obtain⟨b1,b2,b3⟩:=HM.o _ _ hj;obtain⟨b,o,rfl,hb,p0,p1,p2,p3,p4,p5,p6⟩:=b2 k hlt;have HI:Hid (ys[k].v.In wr/\ys[k].v.nodes<=256):=⟨b3 _ (List.getElem_mem hlt),CW.o _ (List.getElem_mem hlt)⟩;have Jy:Hid ((ys.map ME.plain)[k]? =some ys[k].plain):=by unfold Hid;simp[hlt]
   generalize ys[k]=x at p0 p1 p2 p3 p4 p5 p6 HI Jy;have HJ:=hdq hj;gi_wp2_with fail
   refine⟨trivial,Zy,?_⟩;refine Zf ?_;intro w2 hw2;have HT2:Hid (Touch [] wr w2):=hw2▸(Touch.refl [] wr).alloc _;refine(callsIn_wide.2 (kM x w2 (HI.o.1.aO HT2.o) HI.o.2)).mono ?_;rintro e w4 ⟨x',rfl,hpl,EO,hnew,ht⟩;have hy0:=HY.o k x' w4 hlt (HMV.o k wr w4 x' HJ.o (HT2.o.trans' ht) EO (fun b hb=>Nat.le_trans HT2.o.size (hnew b hb)) (by rw[hpl];exact Jy.o));simp only[bB]at hy0|-;obtain⟨fn,tmps,assign,body,hy,hR⟩:=hy0;have HR:=hdq hR;gi_wp2_with fail
   refine⟨Zy,HR.o.mono ?_⟩;rintro e W2 (⟨rfl,hj2⟩|⟨rfl,hj2⟩)
   .have HJ2:=hdq hj2
    gi_wp2
    go_roundw
    case rel=>exact⟨k+1,by go_num,HJ2.o,hlt⟩
    case measure=>simp[intOf];omega
   .have HJ2:=hdq hj2
    gi_wp2
    refine bodyPost_ret (results_none rfl _ _ _) rfl ?_;exact⟨⟨_,rfl⟩,.inr HJ2.o⟩
  .obtain rfl:k=ys.length:=by omega
   have hlt':¬((ys.length:Nat):Int)<(ys.length:Int):=by omega
   have HJ:=hdq hj;gi_wp2
   go_end0
   exact⟨⟨_,rfl⟩,.inl ⟨_,rfl,HJ.o⟩⟩
end
end Go.Proofs.YtddnnapoaonmjaaGreatDoor
