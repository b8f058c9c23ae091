/-
  Texts of FirePlays, laid together by program.
-/
import Derived.Test.YtegejdlglonflaaGreatDoorWZ12
import Derived.Test.YtegejdlglonflaaGreatDoorRows
import Derived.Deep.Fields
import Derived.ChangeSame
import Derived.Deep.Cut
namespace Go.Proofs.YtegejdlglonflaaGreatDoor
open Go.RowKit Go.Shelf Go.Proofs.Tryz
set_option maxRecDepth 100000
set_option maxHeartbeats 8000000
set_option linter.unusedVariables false
set_option linter.unusedSimpArgs false
section
open Go.ChangeShapes Go.WideShapes Go.Deep Go.RowKit
theorem kT{α:Type}{p:Nat->α->Prop}:∀(n:Nat),(∀i,i<n->∃x,p i x)->∃l:List α,l.length=n/\∀i (hi:i<l.length),p i l[i]:=by
 intro n;induction n with
 |zero=>intro _;exact⟨[],rfl,fun i hi=>by simp at hi⟩
 |succ n ih=>
  intro h;obtain⟨l,hl,hp⟩:=ih (fun i hi=>h i (by omega));obtain⟨x,hx⟩:=h n (by omega);refine⟨l++[x],by simp[hl],fun i hi=>?_⟩;by_cases hin:i<l.length
  .rw[List.getElem_append_left hin];exact hp i hin
  .have :i=n:=by simp at hi;omega
   subst this;rw[List.getElem_append_right (by omega)];simpa using hx
theorem add_add'(a:Addr)(i j:Nat):(a.add i).add j=a.add (i+j):=by
 unfold Addr.add;by_cases hi:i=0<;>by_cases hj:j=0<;>simp[hi,hj,Nat.add_assoc]
theorem OJ{α:Type}{l:List α}(h:l.length=3):∃a b c,l=[a,b,c]:=by
 match l,h with
 |[a,b,c],_=>exact⟨a,b,c,rfl⟩
theorem vW{H:Type}(l:List MT)(ds:List (DataW H))(hl:l.length=ds.length)(h:∀i (hi:i<l.length) (hd:i<ds.length),l[i].nodes<=Rows.uptoBulk ds[i]):MT.aV l<=Rows.uptoBulkAll ds:=by
 induction l generalizing ds with
 |nil=>simp[MT.aV]
 |cons t r ih=>
  match ds,hl with
  |d::ds,hl=>
   simp only[MT.aV,Rows.uptoBulkAll];have h0:=h 0 (by simp) (by simp);have h1:=ih ds (by simpa using hl) (fun i hi hd=>h (i+1) (by simpa using hi) (by simpa using hd));simp only[List.getElem_cons_zero]at h0;omega
theorem vB{H:Type}{d:DataW H}{l:List (DataW H)}(h:d∈l):Rows.uptoBulk d<=Rows.uptoBulkAll l:=by
 induction l with
 |nil=>cases h
 |cons x r ih=>
  simp only[Rows.uptoBulkAll];rcases List.mem_cons.1 h with rfl|h
  .omega
  .have :=ih h;omega
def ME.Fits(x:ME):Prop:=(-9223372036854775808<=x.sync/\x.sync<=9223372036854775807)/\(-9223372036854775808<=x.thread/\x.thread<=9223372036854775807)/\(-9223372036854775808<=x.branch/\x.branch<=9223372036854775807)/\(-9223372036854775808<=x.flag/\x.flag<=9223372036854775807)
section
variable {H:Type} {enc:TypeId×Value->H} {w:World} {base:Nat} {spare:Nat->Bool} {held:Bool}
theorem iO:prog.cellsOf 58=3:=by kernel_rfl
theorem iV:prog.cellsOf 3=1:=by kernel_rfl
theorem qD:prog.cellsOf 55=1:=by kernel_rfl
theorem zS:prog.cellsOf 2=1:=by kernel_rfl
theorem qi:prog.cellsOf 56=1:=by kernel_rfl
theorem sO:prog.cellsOf 65=7:=by kernel_rfl
theorem gP:∀(N:Nat) (d:DataW H),Rows.uptoBulk d<=N->∀(fuel:Nat) (cs:List Value) (p:List MemPlace),DataW.trod enc prog w base spare held fuel 58 cs=some (d,p)->∃t:MT,cs=t.cells/\t.In w/\t.nodes<=Rows.uptoBulk d:=by
 intro N;induction N with
 |zero=>intro d hd fuel cs p h;obtain⟨xs,n,_,hx,_⟩:=DataW.trod_struct underlying58 h;injection hx with hx _;subst hx;simp[Rows.uptoBulk]at hd
 |succ N ih=>
  intro d hd fuel cs p h;obtain⟨xs,n,_,hx,hl,hlen,hf⟩:=DataW.trod_struct underlying58 h;injection hx with hx _
  subst hx;rw[iO]at hl;obtain⟨c0,c1,c2,rfl⟩:=OJ hl;obtain⟨x0,x1,x2,rfl⟩:=OJ hlen;have f0:DataW.trod enc prog w base spare held n 55 (List.take (prog.cellsOf 55) (List.drop 0 [c0,c1,c2]))=some x0:=hf 0 _ rfl;have f1:DataW.trod enc prog w base spare held n 2 (List.take (prog.cellsOf 2) (List.drop 1 [c0,c1,c2]))=some x1:=hf 1 _ rfl;have f2:DataW.trod enc prog w base spare held n 56 (List.take (prog.cellsOf 56) (List.drop 2 [c0,c1,c2]))=some x2:=hf 2 _ rfl;rw[qD]at f0;rw[zS]at f1;rw[qi]at f2;simp only[List.drop_zero,List.drop_succ_cons,List.take_succ_cons,List.take_zero]at f0 f1 f2;obtain⟨z0,hz0,hx0,_⟩:=DataW.trod_int underlying55 f0;obtain⟨z1,hz1,hx1,_⟩:=DataW.trod_int underlying2 f1;injection hz0 with hz0 _
  injection hz1 with hz1 _
  subst hz0 hz1 hx0 hx1;simp only[List.map_cons,List.map_nil,Rows.uptoBulk,Rows.uptoBulkAll]at hd|-;rcases open_slice underlying56 f2 with ⟨hcs,hx2⟩|⟨a,len,cap,m,n',D,Pl,hcs,hb,hlc,hm,hmm,hx2,hi⟩
  .injection hcs with hcs _
   subst hcs;exact⟨.mk z0 z1 none 0 [],rfl,MT.rZ (by simp) (fun i hi=>by simp at hi) (by simp),by simp[MT.nodes,MT.aV]⟩
  .injection hcs with hcs _
   subst hcs;have hlm:len<=m:=by rw[hmm];split<;>omega
   subst hx2;simp only[Rows.uptoBulk]at hd|-;obtain⟨l,hll,hp⟩:=kT (p:=fun i (t:MT)=>(∀j,j<3->w.cell? ((a.add (i*3)).add j)=t.cells[j]?)/\t.In w/\t.nodes<=Rows.uptoBulk (D i)) len (fun i hil=>by
    obtain⟨cs',hc,ht'⟩:=hi i (by omega);rw[iO]at hc;obtain⟨_,hcl,hat⟩:=World.cells?_some hc;have hbi:Rows.uptoBulk (D i)<=Rows.uptoBulkAll ((List.range len).map D):=vB (List.mem_map.2 ⟨i,List.mem_range.2 hil,rfl⟩);obtain⟨t,rfl,ht1,ht2⟩:=ih (D i) (by omega) _ _ _ ht';exact⟨t,hat,ht1,ht2⟩)
   subst hll;refine⟨.mk z0 z1 (some a) cap l,rfl,MT.rZ (by simp only[maxLen]at hm;omega) (fun i hil=>?_) (fun t ht=>?_),?_⟩
   .obtain⟨hat,_,_⟩:=hp i hil
    obtain⟨b,o,sp⟩:=a;have hsp:sp=none:=by
     obtain⟨aaH,_,_⟩:=hp 0 (by omega);have h00:=aaH 0 (by omega);rw[add_add']at h00;have h01:w.cell? ((⟨b,o,sp⟩:Addr).add 0)=some (.int .i64 (l[0]'(by omega)).kind):=by simp only[Nat.zero_mul,Nat.add_zero]at h00;exact h00
     simpa[Addr.add]using World.cell?_spot h01
    subst hsp;have h0:=hat 0 (by omega);rw[add_add',Addr.add_lit]at h0;refine⟨b,o,rfl,World.block_lt_of_cell? w _ (u:= .int .i64 l[i].kind) h0,fun j hj=>?_⟩;have :=hat j hj;rw[add_add',Addr.add_lit,<-Nat.add_assoc]at this;exact this
   .obtain⟨i,hil,rfl⟩:=List.mem_iff_getElem.1 ht
    exact(hp i hil).2.1
   .have :=vW l ((List.range l.length).map D) (by simp) (fun i hil hd=>by simp;exact(hp i hil).2.2)
    simp only[MT.nodes];omega
theorem list7{α:Type}{l:List α}(h:l.length=7):∃a b c d e f g,l=[a,b,c,d,e,f,g]:=by
 match l,h with
 |[a,b,c,d,e,f,g],_=>exact⟨a,b,c,d,e,f,g,rfl⟩
theorem list5{α:Type}{l:List α}(h:l.length=5):∃a b c d e,l=[a,b,c,d,e]:=by
 match l,h with
 |[a,b,c,d,e],_=>exact⟨a,b,c,d,e,rfl⟩
theorem qm(fuel:Nat)(cs:List Value)(d:DataW H)(p:List MemPlace)(h:DataW.trod enc prog w base spare held fuel 65 cs=some (d,p)):∃x:ME,cs=x.cells/\x.v.In w/\x.v.nodes<=Rows.uptoBulk d/\x.Fits:=by
 obtain⟨xs,n,_,hx,hl,hlen,hf⟩:=DataW.trod_struct underlying65 h;injection hx with hx _
 subst hx;rw[sO]at hl;obtain⟨c0,c1,c2,c3,c4,c5,c6,rfl⟩:=list7 hl;obtain⟨x0,x1,x2,x3,x4,rfl⟩:=list5 hlen;have f0:DataW.trod enc prog w base spare held n 3 (List.take (prog.cellsOf 3) (List.drop 0 [c0,c1,c2,c3,c4,c5,c6]))=some x0:=hf 0 _ rfl;have f1:DataW.trod enc prog w base spare held n 3 (List.take (prog.cellsOf 3) (List.drop 1 [c0,c1,c2,c3,c4,c5,c6]))=some x1:=hf 1 _ rfl;have f2:DataW.trod enc prog w base spare held n 3 (List.take (prog.cellsOf 3) (List.drop 2 [c0,c1,c2,c3,c4,c5,c6]))=some x2:=hf 2 _ rfl;have f3:DataW.trod enc prog w base spare held n 3 (List.take (prog.cellsOf 3) (List.drop 3 [c0,c1,c2,c3,c4,c5,c6]))=some x3:=hf 3 _ rfl;have f4:DataW.trod enc prog w base spare held n 58 (List.take (prog.cellsOf 58) (List.drop 4 [c0,c1,c2,c3,c4,c5,c6]))=some x4:=hf 4 _ rfl;rw[iV]at f0 f1 f2 f3;rw[iO]at f4;simp only[List.drop_zero,List.drop_succ_cons,List.take_succ_cons,List.take_zero]at f0 f1 f2 f3 f4;obtain⟨z0,hz0,hx0,g0⟩:=DataW.trod_int underlying3 f0;obtain⟨z1,hz1,hx1,g1⟩:=DataW.trod_int underlying3 f1;obtain⟨z2,hz2,hx2,g2⟩:=DataW.trod_int underlying3 f2;obtain⟨z3,hz3,hx3,g3⟩:=DataW.trod_int underlying3 f3;injection hz0 with hz0 _
 injection hz1 with hz1 _
 injection hz2 with hz2 _
 injection hz3 with hz3 _
 subst hz0 hz1 hz2 hz3;obtain⟨x4,p4⟩:=x4;obtain⟨t,ht,hin,hno⟩:=gP _ x4 (Nat.le_refl _) _ _ _ f4;have ht':c4= .int .i64 t.kind/\c5= .int .i64 t.num/\c6=t.sl:=by simpa[MT.cells]using ht
 obtain⟨rfl,rfl,rfl⟩:=ht';refine⟨⟨z0,z1,z2,z3,t⟩,rfl,hin,?_,bounds_i64 g0,bounds_i64 g1,bounds_i64 g2,bounds_i64 g3⟩;simp only[List.map_cons,List.map_nil,Rows.uptoBulk,Rows.uptoBulkAll];show t.nodes<=_
 omega
theorem open_ent{r:Reach}{b0:Nat}{v:Value}{d:DataW H}{p:List MemPlace}(hv:Value.okWide prog w r b0 65 v)(h:DataW.Trod enc prog w base spare held 65 v d p):∃x:ME,v=x.val/\x.v.In w/\x.v.nodes<=Rows.uptoBulk d/\x.Fits:=by
 obtain⟨cs,rfl,hsz⟩:=okWide_struct underlying65 hv;obtain⟨fuel,hf⟩:=h;obtain⟨x,hx,h1,h2,h3⟩:=qm fuel _ d p hf;refine⟨x,?_,h1,h2,h3⟩;have :cs=x.cells.toArray:=by
  apply Array.ext'
  simpa[Value.cells]using hx
 rw[this];rfl
theorem open_ents{fuel:Nat}{c:Value}{d:DataW H}{p:List MemPlace}(h:DataW.trod enc prog w base spare held fuel 34 [c]=some (d,p)):∃(a:Option Addr) (cap:Nat) (l:List ME),c= .slice a l.length cap/\l.length<=maxLen/\fo w a l/\∀x∈l,x.v.In w/\x.v.nodes<=Rows.uptoBulk d/\x.Fits:=by
 rcases open_slice underlying34 h with ⟨hcs,hx2⟩|⟨a,len,cap,m,n',D,Pl,hcs,hb,hlc,hm,hmm,hx2,hi⟩
 .injection hcs with hcs _
  subst hcs;exact⟨none,0,[],rfl,by simp[maxLen],fun i hi=>by simp at hi,by simp⟩
 .injection hcs with hcs _
  subst hcs;have hlm:len<=m:=by rw[hmm];split<;>omega
  injection hx2 with hx2 _
  subst hx2;obtain⟨l,hll,hp⟩:=kT (p:=fun i (t:ME)=>(∀j,j<7->w.cell? ((a.add (i*7)).add j)=t.cells[j]?)/\t.v.In w/\t.v.nodes<=Rows.uptoBulk (D i)/\t.Fits) len (fun i hil=>by
   obtain⟨cs',hc,ht'⟩:=hi i (by omega);rw[sO]at hc;obtain⟨_,hcl,hat⟩:=World.cells?_some hc;obtain⟨t,rfl,ht1,ht2,ht3⟩:=qm _ _ _ _ ht';exact⟨t,hat,ht1,ht2,ht3⟩)
  subst hll;refine⟨some a,cap,l,rfl,by omega,fun i hil=>?_,fun x hx=>?_⟩
  .obtain⟨hat,_,_⟩:=hp i hil
   obtain⟨b,o,sp⟩:=a;have hsp:sp=none:=by
    obtain⟨aaH,_,_⟩:=hp 0 (by omega);have h00:=aaH 0 (by omega);rw[add_add']at h00;have h01:w.cell? ((⟨b,o,sp⟩:Addr).add 0)=some (.int .i64 (l[0]'(by omega)).sync):=by simp only[Nat.zero_mul,Nat.add_zero]at h00;exact h00
    simpa[Addr.add]using World.cell?_spot h01
   subst hsp;have hc:∀j,j<7->w.cell? ⟨b,o+i*7+j,none⟩=l[i].cells[j]? :=fun j hj=>by
    have :=hat j hj;rw[add_add',Addr.add_lit,<-Nat.add_assoc]at this;exact this
   exact⟨b,o,rfl,World.block_lt_of_cell? w _ (u:= .int .i64 l[i].sync) (hc 0 (by omega)),hc 0 (by omega),hc 1 (by omega),hc 2 (by omega),hc 3 (by omega),hc 4 (by omega),hc 5 (by omega),hc 6 (by omega)⟩
  .obtain⟨i,hil,rfl⟩:=List.mem_iff_getElem.1 hx
   obtain⟨_,h1,h2,h3⟩:=hp i hil;have hbi:Rows.uptoBulk (D i)<=Rows.uptoBulkAll ((List.range l.length).map D):=vB (List.mem_map.2 ⟨i,List.mem_range.2 hil,rfl⟩);refine⟨h1,?_,h3⟩;simp only[Rows.uptoBulk];omega
end
end
theorem ax{Q:Exit->Act->World->Prop}{ex:Exit}{a:Act}{W:World}(h:∀w2,W=w2->Q ex a w2):Q ex a W:=h W rfl
theorem BD.toW{T:List Nat}{w0 w w':World}{l:List ai}(h:BD T w0 w l)(e:w=w'):BD T w0 w' l:=e▸h
theorem dxq{P:Program}{ops:Array Oper}{K:Act->World->Prop}{Q':Exit->Act->World->Prop}{md:Region.Mode}{S:World->Prop}{fuel:Nat}{listed:Array Bool}{a:Act}{T:List Nat}{w0 w:World}{l:List ai}(hL:Hid (BD T w0 w l))(h:∀w2,Hid (BD T w0 w2 l)->Exit.then K Q' .normal a w2)(hr:Region.ready md ops listed=[]:=by kernel_rfl):wpAnyH P md ops (Exit.then K Q') S fuel listed a w:=wpAnyH_done hr (h w hL) _
theorem nmq{P:Program}{ops:Array Oper}{Q:Exit->Act->World->Prop}{md:Region.Mode}{S:World->Prop}{fuel:Nat}{listed:Array Bool}{a:Act}{T:List Nat}{w0 w:World}{l:List ai}(hL:Hid (BD T w0 w l))(hS:S w)(h:∀w2,Hid (BD T w0 w2 l)->S w2->wpAnyH P md ops Q S fuel listed a w2):wpAnyH P md ops Q S fuel listed a w:=h w hL hS
theorem adi{P:Program}{c:Code}{Q:Exit->Act->LG->Prop}{a:Act}{M:LG}{Q':Exit->Act->World->Prop}{T:List Nat}{w0 w:World}(h:W P c Q a M)(hl:BD T w0 w M.flatten)(hq:∀e a M w',Q e a M->BD T w0 w' M.flatten->Q' e a w'):c.wp P Q' a w:=Code.wp_mono (fun e a w ⟨M,hl,hQ⟩=>hq _ _ _ _ hQ hl) (h T w0 w hl)
theorem catQ{G:Prop}(h:G:=by
  refine go2 fun _ _=>?_;refine W.rgd ?_;repeat (refine' rgk ?_;rotate_left)
  refine rgz 0 ?_ ?_;refine go ?_;exact⟨rfl,rfl,[_,_],rfl⟩
  kernel_rfl):G:=h
structure aL where
 sync:Int
 thread:Int
 branch:Int
 flag:Int
 kind:Int
 num:Int
 lA:Option Addr
 lN:Nat
 lC:Nat
 is:Bool
def aL.zero:aL:=⟨0,0,0,0,0,0,none,0,0,false⟩
def aL.val(v:aL):Value:= .agg #[v.sync,v.thread,v.branch,v.flag,v.kind,v.num,.slice v.lA v.lN v.lC,v.is]
theorem BD.dA{T:List Nat}{w0 w:World}{l:List ai}{b t:Nat}(h:BD T w0 w l)(i:Nat){x0 x1 x2 x3 x4 x5 x6 x7:Value}(hi:l[i]? =some (Proofs.YtegejdlglonflaaGreatDoor.box b t #[x0,x1,x2,x3,x4,x5,x6,x7])):(w.cell? ⟨b,0,none⟩=some x0/\w.cell? ⟨b,1,none⟩=some x1/\w.cell? ⟨b,2,none⟩=some x2/\w.cell? ⟨b,3,none⟩=some x3/\w.cell? ⟨b,4,none⟩=some x4/\w.cell? ⟨b,5,none⟩=some x5/\w.cell? ⟨b,6,none⟩=some x6/\w.cell? ⟨b,7,none⟩=some x7)/\(w.frozen? ⟨b,0,none⟩=false/\w.frozen? ⟨b,1,none⟩=false/\w.frozen? ⟨b,2,none⟩=false/\w.frozen? ⟨b,3,none⟩=false/\w.frozen? ⟨b,4,none⟩=false/\w.frozen? ⟨b,5,none⟩=false/\w.frozen? ⟨b,6,none⟩=false/\w.frozen? ⟨b,7,none⟩=false)/\b<w.heap.size/\b<w.heap.size+1/\b<w.heap.size+1+1:=by
 have hb:=h.box i hi;have hl:=hb.lt;exact⟨⟨hb.cell 0,hb.cell 1,hb.cell 2,hb.cell 3,hb.cell 4,hb.cell 5,hb.cell 6,hb.cell 7⟩,⟨hb.frozen 0,hb.frozen 1,hb.frozen 2,hb.frozen 3,hb.frozen 4,hb.frozen 5,hb.frozen 6,hb.frozen 7⟩,hl,ltq hl,ltq (ltq hl)⟩
theorem o6(T:List Nat)(w0 w:World)(l:List ai)(p q:Nat)(v:aL)(FP er:Int)(h:BD T w0 w (box p 169 #[v.sync,v.thread,v.branch,v.flag,v.kind,v.num,.slice v.lA v.lN v.lC,v.is]::box q 67 #[FP]::l)):
  CallsD prog 181 #[p,q] (.panicking (aX er)) w fun e u' w'=>e= .returned (.tuple #[])/\u'= .panicking [{v:=eB er,recovered:=true}]/\BD T w0 w' (box p 169 #[(),(),(),(),(),(),True,false]::box q 67 #[er]::l):=by
 have HL:=hdq h;clear h;refine callsD_of_wpS func181 rfl fun c₀ cs hu=>?_;apply wpS_seq
 apply wpS_region
 simp[wpOpsS,go_sem,recoverD,hu,ntmps181,Exit.thenS,aX]
 apply wpS_seq
 apply wpS_region
 have hq:=l8 249 (.agg #[er]);simp[wpOpsS,go_sem,Exit.thenS,eB,hq]
 refine wpS_cond (t:=true) (by simp[Act.eval,Array.replicate]) ?_;simp only[if_true];refine wpS_of_wp ?_;simp only[Array.replicate_succ,Array.replicate_zero,List.push_toArray,List.append_toArray,sAq,sZq,sSq,nAq,cAq];have GZ:=dS er;clear hu hq;refine adi (Q:=fun e a M=>e= .normal/\a.defers=[]/\∃r:LG,M=[[box p 169 #[(),(),(),(),(),(),True,false]],[box q 67 #[er]],l]++r) (M:=[[box p 169 #[v.sync,v.thread,v.branch,v.flag,v.kind,v.num,.slice v.lA v.lN v.lC,v.is]],[box q 67 #[FP]],l]) ?_ (by simpa using HL.o) ?_
 .exact catQ
 .rintro _ _ _ w' ⟨rfl,hd,r,rfl⟩ hl
  exact⟨hd,_,rfl,.tuple #[],results_none rfl _ _ _,rfl,rfl,by simpa using adN hl⟩
theorem nN(w:World)(p q:Addr):CallsD prog 181 #[.pointer (some p),.pointer (some q)] .returning w fun e u' w'=>e= .returned (.tuple #[])/\u'= .returning/\w=w':=by
 refine callsD_of_wpS func181 rfl fun c₀ cs hu=>?_;apply wpS_seq
 apply wpS_region
 simp[wpOpsS,go_sem,recoverD,hu,ntmps181,Exit.thenS]
 apply wpS_seq
 apply wpS_region
 have hq:∀w,(binOp .neq 20 .nilIface .nilIface).run prog w= .ok (.bool false) w:=fun w=>by kernel_rfl
 simp[wpOpsS,go_sem,Exit.thenS,hq]
 refine wpS_cond (t:=false) (by simp[Act.eval,Array.replicate]) ?_;simp only[Bool.false_eq_true,if_false];refine wpS_of_wp (wp_skip ?_);cases c₀
 simp_all [bodyPostS,results,results181]
theorem jy(T:List Nat)(w0 w:World)(l:List ai)(D:FuncId)(caps:Array Value)(R:aL->Int->List ai->Prop)(h:BD T w0 w l)(hen:∀args w,(callFunc D args).run prog w= .ok (.enter D args) w)(hd:∀T' W,BD T' W W l->Calls prog D caps W fun e w'=>∃(v:aL) (er:Int) (l':List ai),((er=0/\e= .returned v.val)\/(v=aL.zero/\e= .panicked (aX er)))/\R v er l'/\BD T' W w' l'):
  Calls prog 78 #[.func (.func D) #[] caps] w fun e w'=>∃(v:aL) (er:Int) (l':List ai),e= .returned (.tuple #[v.val,er])/\R v er l'/\BD T w0 w' l':=by
 have Ep:= @mfq;have BG:=hdq h;have HD:=hdq hd;clear h hd;go_enter_defers func78,ntmps78
 go_wp2_with fail
 refine ah ?_;intro w1 hw1;have BB:=hdq (BG.o.DZ hw1);generalize hq:w.heap.size+1=q at BB|-;generalize hp:w.heap.size=p at BB|-;clear hw1 hq hp BG;obtain⟨T',hF,hb⟩:=BD.aN (m:=l) (r:=[box p 169 #[(),(),(),(),(),(),True,false],box q 67 #[()]]) (by simpa using BB.o);refine(HD.o T' _ hF).mono ?_;rintro e w2 ⟨v,er,l',he,hR,hL⟩;have HL2:=hdq (BD.aB (a:=[]) (b:=l') (c:=[box p 169 #[(),(),(),(),(),(),True,false],box q 67 #[()]]) (by simpa using hb _ _ hL));simp only[nAq,cAq]at HL2;have HR:=hdq hR;clear hL hR hF hb BB HD;rcases he with ⟨rfl,rfl⟩|⟨rfl,rfl⟩
 .obtain⟨⟨p0,p1,p2,p3,p4,p5,p6,p7⟩,⟨g0,g1,g2,g3,g4,g5,g6,g7⟩,zp,CK,CO⟩:=HL2.o.dA 0 rfl
  obtain⟨q0,q1,zq,_,_⟩:=HL2.o.c1 1 rfl;have hpq:=HL2.o.ne 0 1 rfl rfl (by decide);have F9:=Ne.symm hpq;have BF:=hdq (((((((((HL2.o.set 0 rfl 0 (.int .i64 v.sync)).set 0 rfl 1 (.int .i64 v.thread)).set 0 rfl 2 (.int .i64 v.branch)).set 0 rfl 3 (.int .i64 v.flag)).set 0 rfl 4 (.int .i64 v.kind)).set 0 rfl 5 (.int .i64 v.num)).set 0 rfl 6 (.slice v.lA v.lN v.lC)).set 0 rfl 7 (.bool v.is)).set 1 rfl 0 (.int .i64 0));simp only[sSq,sZq,sAq]at BF;unfold aL.val;dsimp only;go_wp2_with fail
  refine leaves_cons (f:=181) (args:=#[.pointer (some ⟨p,0,none⟩),.pointer (some ⟨q,0,none⟩)]) (by simp) (by simp[go_sem]) ?_;refine(nN _ _ _).mono ?_;rintro e u' w'' ⟨rfl,rfl,rfl⟩;obtain⟨⟨s0,s1,s2,s3,s4,s5,s6,s7⟩,_,_,_,_⟩:=BF.o.dA 0 rfl;obtain⟨r1,_,_,_,_⟩:=BF.o.c1 1 rfl;refine⟨.tuple #[.agg #[v.sync,v.thread,v.branch,v.flag,v.kind,v.num,.slice v.lA v.lN v.lC,v.is],()],by simp[results,results78,go_sem,r1,s0,s1,s2,s3,s4,s5,s6,s7],v,0,l',rfl,HR.o,?_⟩;exact BD.aF (BD.aB (a:=[]) (b:=[_,_]) (c:=l') BF.o)
 .dsimp only
  refine leaves_cons (f:=181) (args:=#[.pointer (some ⟨p,0,none⟩),.pointer (some ⟨q,0,none⟩)]) (by simp) (by simp[go_sem]) ?_;refine(o6 T w0 w2 l' p q aL.zero 0 er HL2.o).mono ?_;rintro e u' w'' ⟨rfl,rfl,hL⟩;have BF:=hdq hL;obtain⟨⟨s0,s1,s2,s3,s4,s5,s6,s7⟩,_,_,_,_⟩:=BF.o.dA 0 rfl;obtain⟨r1,_,_,_,_⟩:=BF.o.c1 1 rfl;refine⟨.tuple #[.agg #[(),(),(),(),(),(),True,false],er],by simp[results,results78,go_sem,r1,s0,s1,s2,s3,s4,s5,s6,s7],aL.zero,er,l',rfl,HR.o,?_⟩;exact BD.aF (BD.aB (a:=[]) (b:=[_,_]) (c:=l') BF.o)
structure dP where
 sync:Int
 thread:Int
 branch:Int
 flag:Int
 kind:Int
 num:Int
 lA:Option Addr
 lN:Nat
 lC:Nat
def dP.zero:dP:=⟨0,0,0,0,0,0,none,0,0⟩
def dP.val(v:dP):Value:= .agg #[v.sync,v.thread,v.branch,v.flag,v.kind,v.num,.slice v.lA v.lN v.lC]
theorem BD.og{T:List Nat}{w0 w:World}{l:List ai}{b t:Nat}(h:BD T w0 w l)(i:Nat){x0 x1 x2 x3 x4 x5 x6:Value}(hi:l[i]? =some (Proofs.YtegejdlglonflaaGreatDoor.box b t #[x0,x1,x2,x3,x4,x5,x6])):(w.cell? ⟨b,0,none⟩=some x0/\w.cell? ⟨b,1,none⟩=some x1/\w.cell? ⟨b,2,none⟩=some x2/\w.cell? ⟨b,3,none⟩=some x3/\w.cell? ⟨b,4,none⟩=some x4/\w.cell? ⟨b,5,none⟩=some x5/\w.cell? ⟨b,6,none⟩=some x6)/\(w.frozen? ⟨b,0,none⟩=false/\w.frozen? ⟨b,1,none⟩=false/\w.frozen? ⟨b,2,none⟩=false/\w.frozen? ⟨b,3,none⟩=false/\w.frozen? ⟨b,4,none⟩=false/\w.frozen? ⟨b,5,none⟩=false/\w.frozen? ⟨b,6,none⟩=false)/\b<w.heap.size/\b<w.heap.size+1/\b<w.heap.size+1+1:=by
 have hb:=h.box i hi;have hl:=hb.lt;exact⟨⟨hb.cell 0,hb.cell 1,hb.cell 2,hb.cell 3,hb.cell 4,hb.cell 5,hb.cell 6⟩,⟨hb.frozen 0,hb.frozen 1,hb.frozen 2,hb.frozen 3,hb.frozen 4,hb.frozen 5,hb.frozen 6⟩,hl,ltq hl,ltq (ltq hl)⟩
theorem o8(T:List Nat)(w0 w:World)(l:List ai)(p q:Nat)(v:dP)(FP er:Int)(h:BD T w0 w (box p 65 #[v.sync,v.thread,v.branch,v.flag,v.kind,v.num,.slice v.lA v.lN v.lC]::box q 67 #[FP]::l)):
  CallsD prog 210 #[p,q] (.panicking (aX er)) w fun e u' w'=>e= .returned (.tuple #[])/\u'= .panicking [{v:=eB er,recovered:=true}]/\BD T w0 w' (box p 65 #[(),(),(),(),(),(),True]::box q 67 #[er]::l):=by
 have HL:=hdq h;clear h;refine callsD_of_wpS func210 rfl fun c₀ cs hu=>?_;apply wpS_seq
 apply wpS_region
 simp[wpOpsS,go_sem,recoverD,hu,ntmps210,Exit.thenS,aX]
 apply wpS_seq
 apply wpS_region
 have hq:=l8 249 (.agg #[er]);simp[wpOpsS,go_sem,Exit.thenS,eB,hq]
 refine wpS_cond (t:=true) (by simp[Act.eval,Array.replicate]) ?_;simp only[if_true];refine wpS_of_wp ?_;simp only[Array.replicate_succ,Array.replicate_zero,List.push_toArray,List.append_toArray,sAq,sZq,sSq,nAq,cAq];have GZ:=dS er;clear hu hq;refine adi (Q:=fun e a M=>e= .normal/\a.defers=[]/\∃r:LG,M=[[box p 65 #[(),(),(),(),(),(),True]],[box q 67 #[er]],l]++r) (M:=[[box p 65 #[v.sync,v.thread,v.branch,v.flag,v.kind,v.num,.slice v.lA v.lN v.lC]],[box q 67 #[FP]],l]) ?_ (by simpa using HL.o) ?_
 .exact catQ
 .rintro _ _ _ w' ⟨rfl,hd,r,rfl⟩ hl
  exact⟨hd,_,rfl,.tuple #[],results_none rfl _ _ _,rfl,rfl,by simpa using adN hl⟩
theorem nO(w:World)(p q:Addr):CallsD prog 210 #[.pointer (some p),.pointer (some q)] .returning w fun e u' w'=>e= .returned (.tuple #[])/\u'= .returning/\w=w':=by
 refine callsD_of_wpS func210 rfl fun c₀ cs hu=>?_;apply wpS_seq
 apply wpS_region
 simp[wpOpsS,go_sem,recoverD,hu,ntmps210,Exit.thenS]
 apply wpS_seq
 apply wpS_region
 have hq:∀w,(binOp .neq 20 .nilIface .nilIface).run prog w= .ok (.bool false) w:=fun w=>by kernel_rfl
 simp[wpOpsS,go_sem,Exit.thenS,hq]
 refine wpS_cond (t:=false) (by simp[Act.eval,Array.replicate]) ?_;simp only[Bool.false_eq_true,if_false];refine wpS_of_wp (wp_skip ?_);cases c₀
 simp_all [bodyPostS,results,results210]
theorem rG(T:List Nat)(w0 w:World)(l:List ai)(D:FuncId)(caps:Array Value)(R:dP->Int->List ai->Prop)(h:BD T w0 w l)(hen:∀args w,(callFunc D args).run prog w= .ok (.enter D args) w)(hd:∀T' W,BD T' W W l->Calls prog D caps W fun e w'=>∃(v:dP) (er:Int) (l':List ai),((er=0/\e= .returned v.val)\/(v=dP.zero/\e= .panicked (aX er)))/\R v er l'/\BD T' W w' l'):
  Calls prog 114 #[.func (.func D) #[] caps] w fun e w'=>∃(v:dP) (er:Int) (l':List ai),e= .returned (.tuple #[v.val,er])/\R v er l'/\BD T w0 w' l':=by
 have Ep:= @mfq;have BG:=hdq h;have HD:=hdq hd;clear h hd;go_enter_defers func114,ntmps114
 go_wp2_with fail
 refine ah ?_;intro w1 hw1;have BB:=hdq (BG.o.DZ hw1);generalize hq:w.heap.size+1=q at BB|-;generalize hp:w.heap.size=p at BB|-;clear hw1 hq hp BG;obtain⟨T',hF,hb⟩:=BD.aN (m:=l) (r:=[box p 65 #[(),(),(),(),(),(),True],box q 67 #[()]]) (by simpa using BB.o);refine(HD.o T' _ hF).mono ?_;rintro e w2 ⟨v,er,l',he,hR,hL⟩;have HL2:=hdq (BD.aB (a:=[]) (b:=l') (c:=[box p 65 #[(),(),(),(),(),(),True],box q 67 #[()]]) (by simpa using hb _ _ hL));simp only[nAq,cAq]at HL2;have HR:=hdq hR;clear hL hR hF hb BB HD;rcases he with ⟨rfl,rfl⟩|⟨rfl,rfl⟩
 .obtain⟨⟨p0,p1,p2,p3,p4,p5,p6⟩,⟨g0,g1,g2,g3,g4,g5,g6⟩,zp,CK,CO⟩:=HL2.o.og 0 rfl
  obtain⟨q0,q1,zq,_,_⟩:=HL2.o.c1 1 rfl;have hpq:=HL2.o.ne 0 1 rfl rfl (by decide);have F9:=Ne.symm hpq;have BF:=hdq ((((((((HL2.o.set 0 rfl 0 (.int .i64 v.sync)).set 0 rfl 1 (.int .i64 v.thread)).set 0 rfl 2 (.int .i64 v.branch)).set 0 rfl 3 (.int .i64 v.flag)).set 0 rfl 4 (.int .i64 v.kind)).set 0 rfl 5 (.int .i64 v.num)).set 0 rfl 6 (.slice v.lA v.lN v.lC)).set 1 rfl 0 (.int .i64 0));simp only[sSq,sZq,sAq]at BF;unfold dP.val;dsimp only;go_wp2_with fail
  refine leaves_cons (f:=210) (args:=#[.pointer (some ⟨p,0,none⟩),.pointer (some ⟨q,0,none⟩)]) (by simp) (by simp[go_sem]) ?_;refine(nO _ _ _).mono ?_;rintro e u' w'' ⟨rfl,rfl,rfl⟩;obtain⟨⟨s0,s1,s2,s3,s4,s5,s6⟩,_,_,_,_⟩:=BF.o.og 0 rfl;obtain⟨r1,_,_,_,_⟩:=BF.o.c1 1 rfl;refine⟨.tuple #[.agg #[v.sync,v.thread,v.branch,v.flag,v.kind,v.num,.slice v.lA v.lN v.lC],()],by simp[results,results114,go_sem,r1,s0,s1,s2,s3,s4,s5,s6],v,0,l',rfl,HR.o,?_⟩;exact BD.aF (BD.aB (a:=[]) (b:=[_,_]) (c:=l') BF.o)
 .dsimp only
  refine leaves_cons (f:=210) (args:=#[.pointer (some ⟨p,0,none⟩),.pointer (some ⟨q,0,none⟩)]) (by simp) (by simp[go_sem]) ?_;refine(o8 T w0 w2 l' p q dP.zero 0 er HL2.o).mono ?_;rintro e u' w'' ⟨rfl,rfl,hL⟩;have BF:=hdq hL;obtain⟨⟨s0,s1,s2,s3,s4,s5,s6⟩,_,_,_,_⟩:=BF.o.og 0 rfl;obtain⟨r1,_,_,_,_⟩:=BF.o.c1 1 rfl;refine⟨.tuple #[.agg #[(),(),(),(),(),(),True],er],by simp[results,results114,go_sem,r1,s0,s1,s2,s3,s4,s5,s6],dP.zero,er,l',rfl,HR.o,?_⟩;exact BD.aF (BD.aB (a:=[]) (b:=[_,_]) (c:=l') BF.o)
structure bL where
 thread:Int
 jr:Option Addr
 gm:Nat
 jv:Nat
 ko:Option Addr
 kz:Nat
 jR:Nat
 flag:Int
 parked:Bool
 done:Bool
 branch:Int
 kind:Int
 num:Int
 lA:Option Addr
 lN:Nat
 lC:Nat
 partner:Int
def bL.zero:bL:=⟨0,none,0,0,none,0,0,0,false,false,0,0,0,none,0,0,0⟩
def bL.val(v:bL):Value:= .agg #[v.thread,.slice v.jr v.gm v.jv,.slice v.ko v.kz v.jR,v.flag,v.parked,v.done,v.branch,v.kind,v.num,.slice v.lA v.lN v.lC,v.partner]
theorem BD.sM{T:List Nat}{w0 w:World}{l:List ai}{b t:Nat}(h:BD T w0 w l)(i:Nat){x0 x1 x2 x3 x4 x5 x6 x7 x8 x9 x10:Value}(hi:l[i]? =some (Proofs.YtegejdlglonflaaGreatDoor.box b t #[x0,x1,x2,x3,x4,x5,x6,x7,x8,x9,x10])):(w.cell? ⟨b,0,none⟩=some x0/\w.cell? ⟨b,1,none⟩=some x1/\w.cell? ⟨b,2,none⟩=some x2/\w.cell? ⟨b,3,none⟩=some x3/\w.cell? ⟨b,4,none⟩=some x4/\w.cell? ⟨b,5,none⟩=some x5/\w.cell? ⟨b,6,none⟩=some x6/\w.cell? ⟨b,7,none⟩=some x7/\w.cell? ⟨b,8,none⟩=some x8/\w.cell? ⟨b,9,none⟩=some x9/\w.cell? ⟨b,10,none⟩=some x10)/\(w.frozen? ⟨b,0,none⟩=false/\w.frozen? ⟨b,1,none⟩=false/\w.frozen? ⟨b,2,none⟩=false/\w.frozen? ⟨b,3,none⟩=false/\w.frozen? ⟨b,4,none⟩=false/\w.frozen? ⟨b,5,none⟩=false/\w.frozen? ⟨b,6,none⟩=false/\w.frozen? ⟨b,7,none⟩=false/\w.frozen? ⟨b,8,none⟩=false/\w.frozen? ⟨b,9,none⟩=false/\w.frozen? ⟨b,10,none⟩=false)/\b<w.heap.size/\b<w.heap.size+1/\b<w.heap.size+1+1:=by
 have hb:=h.box i hi;have hl:=hb.lt;exact⟨⟨hb.cell 0,hb.cell 1,hb.cell 2,hb.cell 3,hb.cell 4,hb.cell 5,hb.cell 6,hb.cell 7,hb.cell 8,hb.cell 9,hb.cell 10⟩,⟨hb.frozen 0,hb.frozen 1,hb.frozen 2,hb.frozen 3,hb.frozen 4,hb.frozen 5,hb.frozen 6,hb.frozen 7,hb.frozen 8,hb.frozen 9,hb.frozen 10⟩,hl,ltq hl,ltq (ltq hl)⟩
theorem qR(T:List Nat)(w0 w:World)(l:List ai)(p q:Nat)(v:bL)(FP er:Int)(h:BD T w0 w (box p 60 #[v.thread,.slice v.jr v.gm v.jv,.slice v.ko v.kz v.jR,v.flag,v.parked,v.done,v.branch,v.kind,v.num,.slice v.lA v.lN v.lC,v.partner]::box q 67 #[FP]::l)):
  CallsD prog 159 #[p,q] (.panicking (aX er)) w fun e u' w'=>e= .returned (.tuple #[])/\u'= .panicking [{v:=eB er,recovered:=true}]/\BD T w0 w' (box p 60 #[(),True,True,(),false,false,(),(),(),True,()]::box q 67 #[er]::l):=by
 have HL:=hdq h;clear h;refine callsD_of_wpS func159 rfl fun c₀ cs hu=>?_;apply wpS_seq
 apply wpS_region
 simp[wpOpsS,go_sem,recoverD,hu,ntmps159,Exit.thenS,aX]
 apply wpS_seq
 apply wpS_region
 have hq:=l8 249 (.agg #[er]);simp[wpOpsS,go_sem,Exit.thenS,eB,hq]
 refine wpS_cond (t:=true) (by simp[Act.eval,Array.replicate]) ?_;simp only[if_true];refine wpS_of_wp ?_;simp only[Array.replicate_succ,Array.replicate_zero,List.push_toArray,List.append_toArray,sAq,sZq,sSq,nAq,cAq];have GZ:=dS er;clear hu hq;refine adi (Q:=fun e a M=>e= .normal/\a.defers=[]/\∃r:LG,M=[[box p 60 #[(),True,True,(),false,false,(),(),(),True,()]],[box q 67 #[er]],l]++r) (M:=[[box p 60 #[v.thread,.slice v.jr v.gm v.jv,.slice v.ko v.kz v.jR,v.flag,v.parked,v.done,v.branch,v.kind,v.num,.slice v.lA v.lN v.lC,v.partner]],[box q 67 #[FP]],l]) ?_ (by simpa using HL.o) ?_
 .exact catQ
 .rintro _ _ _ w' ⟨rfl,hd,r,rfl⟩ hl
  exact⟨hd,_,rfl,.tuple #[],results_none rfl _ _ _,rfl,rfl,by simpa using adN hl⟩
theorem oZ(w:World)(p q:Addr):CallsD prog 159 #[.pointer (some p),.pointer (some q)] .returning w fun e u' w'=>e= .returned (.tuple #[])/\u'= .returning/\w=w':=by
 refine callsD_of_wpS func159 rfl fun c₀ cs hu=>?_;apply wpS_seq
 apply wpS_region
 simp[wpOpsS,go_sem,recoverD,hu,ntmps159,Exit.thenS]
 apply wpS_seq
 apply wpS_region
 have hq:∀w,(binOp .neq 20 .nilIface .nilIface).run prog w= .ok (.bool false) w:=fun w=>by kernel_rfl
 simp[wpOpsS,go_sem,Exit.thenS,hq]
 refine wpS_cond (t:=false) (by simp[Act.eval,Array.replicate]) ?_;simp only[Bool.false_eq_true,if_false];refine wpS_of_wp (wp_skip ?_);cases c₀
 simp_all [bodyPostS,results,results159]
theorem sZ(T:List Nat)(w0 w:World)(l:List ai)(D:FuncId)(caps:Array Value)(R:bL->Int->List ai->Prop)(h:BD T w0 w l)(hen:∀args w,(callFunc D args).run prog w= .ok (.enter D args) w)(hd:∀T' W,BD T' W W l->Calls prog D caps W fun e w'=>∃(v:bL) (er:Int) (l':List ai),((er=0/\e= .returned v.val)\/(v=bL.zero/\e= .panicked (aX er)))/\R v er l'/\BD T' W w' l'):
  Calls prog 61 #[.func (.func D) #[] caps] w fun e w'=>∃(v:bL) (er:Int) (l':List ai),e= .returned (.tuple #[v.val,er])/\R v er l'/\BD T w0 w' l':=by
 have Ep:= @mfq;have BG:=hdq h;have HD:=hdq hd;clear h hd;go_enter_defers func61,ntmps61
 go_wp2_with fail
 refine ah ?_;intro w1 hw1;have BB:=hdq (BG.o.DZ hw1);generalize hq:w.heap.size+1=q at BB|-;generalize hp:w.heap.size=p at BB|-;clear hw1 hq hp BG;obtain⟨T',hF,hb⟩:=BD.aN (m:=l) (r:=[box p 60 #[(),True,True,(),false,false,(),(),(),True,()],box q 67 #[()]]) (by simpa using BB.o);refine(HD.o T' _ hF).mono ?_;rintro e w2 ⟨v,er,l',he,hR,hL⟩;have HL2:=hdq (BD.aB (a:=[]) (b:=l') (c:=[box p 60 #[(),True,True,(),false,false,(),(),(),True,()],box q 67 #[()]]) (by simpa using hb _ _ hL));simp only[nAq,cAq]at HL2;have HR:=hdq hR;clear hL hR hF hb BB HD;rcases he with ⟨rfl,rfl⟩|⟨rfl,rfl⟩
 .obtain⟨⟨p0,p1,p2,p3,p4,p5,p6,p7,p8,p9,Ef⟩,⟨g0,g1,g2,g3,g4,g5,g6,g7,g8,g9,g10⟩,zp,CK,CO⟩:=HL2.o.sM 0 rfl
  obtain⟨q0,q1,zq,_,_⟩:=HL2.o.c1 1 rfl;have hpq:=HL2.o.ne 0 1 rfl rfl (by decide);have F9:=Ne.symm hpq;have BF:=hdq ((((((((((((HL2.o.set 0 rfl 0 (.int .i64 v.thread)).set 0 rfl 1 (.slice v.jr v.gm v.jv)).set 0 rfl 2 (.slice v.ko v.kz v.jR)).set 0 rfl 3 (.int .i64 v.flag)).set 0 rfl 4 (.bool v.parked)).set 0 rfl 5 (.bool v.done)).set 0 rfl 6 (.int .i64 v.branch)).set 0 rfl 7 (.int .i64 v.kind)).set 0 rfl 8 (.int .i64 v.num)).set 0 rfl 9 (.slice v.lA v.lN v.lC)).set 0 rfl 10 (.int .i64 v.partner)).set 1 rfl 0 (.int .i64 0));simp only[sSq,sZq,sAq]at BF;unfold bL.val;dsimp only;go_wp2_with fail
  refine leaves_cons (f:=159) (args:=#[.pointer (some ⟨p,0,none⟩),.pointer (some ⟨q,0,none⟩)]) (by simp) (by simp[go_sem]) ?_;refine(oZ _ _ _).mono ?_;rintro e u' w'' ⟨rfl,rfl,rfl⟩;obtain⟨⟨s0,s1,s2,s3,s4,s5,s6,s7,s8,s9,s10⟩,_,_,_,_⟩:=BF.o.sM 0 rfl;obtain⟨r1,_,_,_,_⟩:=BF.o.c1 1 rfl;refine⟨.tuple #[.agg #[v.thread,.slice v.jr v.gm v.jv,.slice v.ko v.kz v.jR,v.flag,v.parked,v.done,v.branch,v.kind,v.num,.slice v.lA v.lN v.lC,v.partner],()],by simp[results,results61,go_sem,r1,s0,s1,s2,s3,s4,s5,s6,s7,s8,s9,s10],v,0,l',rfl,HR.o,?_⟩;exact BD.aF (BD.aB (a:=[]) (b:=[_,_]) (c:=l') BF.o)
 .dsimp only
  refine leaves_cons (f:=159) (args:=#[.pointer (some ⟨p,0,none⟩),.pointer (some ⟨q,0,none⟩)]) (by simp) (by simp[go_sem]) ?_;refine(qR T w0 w2 l' p q bL.zero 0 er HL2.o).mono ?_;rintro e u' w'' ⟨rfl,rfl,hL⟩;have BF:=hdq hL;obtain⟨⟨s0,s1,s2,s3,s4,s5,s6,s7,s8,s9,s10⟩,_,_,_,_⟩:=BF.o.sM 0 rfl;obtain⟨r1,_,_,_,_⟩:=BF.o.c1 1 rfl;refine⟨.tuple #[.agg #[(),True,True,(),false,false,(),(),(),True,()],er],by simp[results,results61,go_sem,r1,s0,s1,s2,s3,s4,s5,s6,s7,s8,s9,s10],bL.zero,er,l',rfl,HR.o,?_⟩;exact BD.aF (BD.aB (a:=[]) (b:=[_,_]) (c:=l') BF.o)
end Go.Proofs.YtegejdlglonflaaGreatDoor
