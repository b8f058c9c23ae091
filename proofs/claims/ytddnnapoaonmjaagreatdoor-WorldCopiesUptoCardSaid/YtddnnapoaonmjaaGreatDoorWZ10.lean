/-
  Texts of WorldCopies, laid together by program.
-/
import Derived.Test.YtddnnapoaonmjaaGreatDoorWZ7
import Derived.Test.YtddnnapoaonmjaaGreatDoorRows
import Derived.Deep.Slices
import Derived.Deep.Fields
import Derived.ChangeSame
import Derived.ProofKit
import Derived.OpenShut
namespace Go.Proofs.YtddnnapoaonmjaaGreatDoor
open Go.RowKit Go.Shelf Go.Proofs.Tryz
set_option maxRecDepth 100000
set_option maxHeartbeats 8000000
set_option linter.unusedVariables false
set_option linter.unusedSimpArgs false
section
open Go.ChangeShapes Go.WideShapes Go.Deep Go.RowKit
theorem kT{α:Type}{p:Nat->α->Prop}:∀(n:Nat),(∀i,i<n->∃x,p i x)->∃l:List α,l.length=n/\∀i (hi:i<l.length),p i l[i]:=by
 intro n;induction n with
 |zero=>intro _;exact⟨[],rfl,fun i hi=>by simp at hi⟩
 |succ n ih=>
  intro h;obtain⟨l,hl,hp⟩:=ih (fun i hi=>h i (by omega));obtain⟨x,hx⟩:=h n (by omega);refine⟨l++[x],by simp[hl],fun i hi=>?_⟩;by_cases hin:i<l.length
  .rw[List.getElem_append_left hin];exact hp i hin
  .have :i=n:=by simp at hi;omega
   subst this;rw[List.getElem_append_right (by omega)];simpa using hx
theorem add_add'(a:Addr)(i j:Nat):(a.add i).add j=a.add (i+j):=by
 unfold Addr.add;by_cases hi:i=0<;>by_cases hj:j=0<;>simp[hi,hj,Nat.add_assoc]
theorem OJ{α:Type}{l:List α}(h:l.length=3):∃a b c,l=[a,b,c]:=by
 match l,h with
 |[a,b,c],_=>exact⟨a,b,c,rfl⟩
theorem vW{H:Type}(l:List MT)(ds:List (DataW H))(hl:l.length=ds.length)(h:∀i (hi:i<l.length) (hd:i<ds.length),l[i].nodes<=Rows.uptoBulk ds[i]):MT.aV l<=Rows.uptoBulkAll ds:=by
 induction l generalizing ds with
 |nil=>simp[MT.aV]
 |cons t r ih=>
  match ds,hl with
  |d::ds,hl=>
   simp only[MT.aV,Rows.uptoBulkAll];have h0:=h 0 (by simp) (by simp);have h1:=ih ds (by simpa using hl) (fun i hi hd=>h (i+1) (by simpa using hi) (by simpa using hd));simp only[List.getElem_cons_zero]at h0;omega
theorem vB{H:Type}{d:DataW H}{l:List (DataW H)}(h:d∈l):Rows.uptoBulk d<=Rows.uptoBulkAll l:=by
 induction l with
 |nil=>cases h
 |cons x r ih=>
  simp only[Rows.uptoBulkAll];rcases List.mem_cons.1 h with rfl|h
  .omega
  .have :=ih h;omega
def ME.Fits(x:ME):Prop:=(-9223372036854775808<=x.sync/\x.sync<=9223372036854775807)/\(-9223372036854775808<=x.thread/\x.thread<=9223372036854775807)/\(-9223372036854775808<=x.branch/\x.branch<=9223372036854775807)/\(-9223372036854775808<=x.flag/\x.flag<=9223372036854775807)
section
variable {H:Type} {enc:TypeId×Value->H} {w:World} {base:Nat} {spare:Nat->Bool} {held:Bool}
theorem iO:prog.cellsOf 45=3:=by kernel_rfl
theorem iV:prog.cellsOf 3=1:=by kernel_rfl
theorem qD:prog.cellsOf 42=1:=by kernel_rfl
theorem zS:prog.cellsOf 2=1:=by kernel_rfl
theorem qi:prog.cellsOf 43=1:=by kernel_rfl
theorem sO:prog.cellsOf 47=7:=by kernel_rfl
theorem gP:∀(N:Nat) (d:DataW H),Rows.uptoBulk d<=N->∀(fuel:Nat) (cs:List Value) (p:List MemPlace),DataW.trod enc prog w base spare held fuel 45 cs=some (d,p)->∃t:MT,cs=t.cells/\t.In w/\t.nodes<=Rows.uptoBulk d:=by
 intro N;induction N with
 |zero=>intro d hd fuel cs p h;obtain⟨xs,n,_,hx,_⟩:=DataW.trod_struct underlying45 h;injection hx with hx _;subst hx;simp[Rows.uptoBulk]at hd
 |succ N ih=>
  intro d hd fuel cs p h;obtain⟨xs,n,_,hx,hl,hlen,hf⟩:=DataW.trod_struct underlying45 h;injection hx with hx _
  subst hx;rw[iO]at hl;obtain⟨c0,c1,c2,rfl⟩:=OJ hl;obtain⟨x0,x1,x2,rfl⟩:=OJ hlen;have f0:DataW.trod enc prog w base spare held n 42 (List.take (prog.cellsOf 42) (List.drop 0 [c0,c1,c2]))=some x0:=hf 0 _ rfl;have f1:DataW.trod enc prog w base spare held n 2 (List.take (prog.cellsOf 2) (List.drop 1 [c0,c1,c2]))=some x1:=hf 1 _ rfl;have f2:DataW.trod enc prog w base spare held n 43 (List.take (prog.cellsOf 43) (List.drop 2 [c0,c1,c2]))=some x2:=hf 2 _ rfl;rw[qD]at f0;rw[zS]at f1;rw[qi]at f2;simp only[List.drop_zero,List.drop_succ_cons,List.take_succ_cons,List.take_zero]at f0 f1 f2;obtain⟨z0,hz0,hx0,_⟩:=DataW.trod_int underlying42 f0;obtain⟨z1,hz1,hx1,_⟩:=DataW.trod_int underlying2 f1;injection hz0 with hz0 _
  injection hz1 with hz1 _
  subst hz0 hz1 hx0 hx1;simp only[List.map_cons,List.map_nil,Rows.uptoBulk,Rows.uptoBulkAll]at hd|-;rcases open_slice underlying43 f2 with ⟨hcs,hx2⟩|⟨a,len,cap,m,n',D,Pl,hcs,hb,hlc,hm,hmm,hx2,hi⟩
  .injection hcs with hcs _
   subst hcs;exact⟨.mk z0 z1 none 0 [],rfl,MT.rZ (by simp) (fun i hi=>by simp at hi) (by simp),by simp[MT.nodes,MT.aV]⟩
  .injection hcs with hcs _
   subst hcs;have hlm:len<=m:=by rw[hmm];split<;>omega
   subst hx2;simp only[Rows.uptoBulk]at hd|-;obtain⟨l,hll,hp⟩:=kT (p:=fun i (t:MT)=>(∀j,j<3->w.cell? ((a.add (i*3)).add j)=t.cells[j]?)/\t.In w/\t.nodes<=Rows.uptoBulk (D i)) len (fun i hil=>by
    obtain⟨cs',hc,ht'⟩:=hi i (by omega);rw[iO]at hc;obtain⟨_,hcl,hat⟩:=World.cells?_some hc;have hbi:Rows.uptoBulk (D i)<=Rows.uptoBulkAll ((List.range len).map D):=vB (List.mem_map.2 ⟨i,List.mem_range.2 hil,rfl⟩);obtain⟨t,rfl,ht1,ht2⟩:=ih (D i) (by omega) _ _ _ ht';exact⟨t,hat,ht1,ht2⟩)
   subst hll;refine⟨.mk z0 z1 (some a) cap l,rfl,MT.rZ (by simp only[maxLen]at hm;omega) (fun i hil=>?_) (fun t ht=>?_),?_⟩
   .obtain⟨hat,_,_⟩:=hp i hil
    obtain⟨b,o,sp⟩:=a;have hsp:sp=none:=by
     obtain⟨aaH,_,_⟩:=hp 0 (by omega);have h00:=aaH 0 (by omega);rw[add_add']at h00;have h01:w.cell? ((⟨b,o,sp⟩:Addr).add 0)=some (.int .i64 (l[0]'(by omega)).kind):=by simp only[Nat.zero_mul,Nat.add_zero]at h00;exact h00
     simpa[Addr.add]using World.cell?_spot h01
    subst hsp;have h0:=hat 0 (by omega);rw[add_add',Addr.add_lit]at h0;refine⟨b,o,rfl,World.block_lt_of_cell? w _ (u:= .int .i64 l[i].kind) h0,fun j hj=>?_⟩;have :=hat j hj;rw[add_add',Addr.add_lit,<-Nat.add_assoc]at this;exact this
   .obtain⟨i,hil,rfl⟩:=List.mem_iff_getElem.1 ht
    exact(hp i hil).2.1
   .have :=vW l ((List.range l.length).map D) (by simp) (fun i hil hd=>by simp;exact(hp i hil).2.2)
    simp only[MT.nodes];omega
theorem list7{α:Type}{l:List α}(h:l.length=7):∃a b c d e f g,l=[a,b,c,d,e,f,g]:=by
 match l,h with
 |[a,b,c,d,e,f,g],_=>exact⟨a,b,c,d,e,f,g,rfl⟩
theorem list5{α:Type}{l:List α}(h:l.length=5):∃a b c d e,l=[a,b,c,d,e]:=by
 match l,h with
 |[a,b,c,d,e],_=>exact⟨a,b,c,d,e,rfl⟩
theorem qm(fuel:Nat)(cs:List Value)(d:DataW H)(p:List MemPlace)(h:DataW.trod enc prog w base spare held fuel 47 cs=some (d,p)):∃x:ME,cs=x.cells/\x.v.In w/\x.v.nodes<=Rows.uptoBulk d/\x.Fits:=by
 obtain⟨xs,n,_,hx,hl,hlen,hf⟩:=DataW.trod_struct underlying47 h;injection hx with hx _
 subst hx;rw[sO]at hl;obtain⟨c0,c1,c2,c3,c4,c5,c6,rfl⟩:=list7 hl;obtain⟨x0,x1,x2,x3,x4,rfl⟩:=list5 hlen;have f0:DataW.trod enc prog w base spare held n 3 (List.take (prog.cellsOf 3) (List.drop 0 [c0,c1,c2,c3,c4,c5,c6]))=some x0:=hf 0 _ rfl;have f1:DataW.trod enc prog w base spare held n 3 (List.take (prog.cellsOf 3) (List.drop 1 [c0,c1,c2,c3,c4,c5,c6]))=some x1:=hf 1 _ rfl;have f2:DataW.trod enc prog w base spare held n 3 (List.take (prog.cellsOf 3) (List.drop 2 [c0,c1,c2,c3,c4,c5,c6]))=some x2:=hf 2 _ rfl;have f3:DataW.trod enc prog w base spare held n 3 (List.take (prog.cellsOf 3) (List.drop 3 [c0,c1,c2,c3,c4,c5,c6]))=some x3:=hf 3 _ rfl;have f4:DataW.trod enc prog w base spare held n 45 (List.take (prog.cellsOf 45) (List.drop 4 [c0,c1,c2,c3,c4,c5,c6]))=some x4:=hf 4 _ rfl;rw[iV]at f0 f1 f2 f3;rw[iO]at f4;simp only[List.drop_zero,List.drop_succ_cons,List.take_succ_cons,List.take_zero]at f0 f1 f2 f3 f4;obtain⟨z0,hz0,hx0,g0⟩:=DataW.trod_int underlying3 f0;obtain⟨z1,hz1,hx1,g1⟩:=DataW.trod_int underlying3 f1;obtain⟨z2,hz2,hx2,g2⟩:=DataW.trod_int underlying3 f2;obtain⟨z3,hz3,hx3,g3⟩:=DataW.trod_int underlying3 f3;injection hz0 with hz0 _
 injection hz1 with hz1 _
 injection hz2 with hz2 _
 injection hz3 with hz3 _
 subst hz0 hz1 hz2 hz3;obtain⟨x4,p4⟩:=x4;obtain⟨t,ht,hin,hno⟩:=gP _ x4 (Nat.le_refl _) _ _ _ f4;have ht':c4= .int .i64 t.kind/\c5= .int .i64 t.num/\c6=t.sl:=by simpa[MT.cells]using ht
 obtain⟨rfl,rfl,rfl⟩:=ht';refine⟨⟨z0,z1,z2,z3,t⟩,rfl,hin,?_,bounds_i64 g0,bounds_i64 g1,bounds_i64 g2,bounds_i64 g3⟩;simp only[List.map_cons,List.map_nil,Rows.uptoBulk,Rows.uptoBulkAll];show t.nodes<=_
 omega
theorem open_ent{r:Reach}{b0:Nat}{v:Value}{d:DataW H}{p:List MemPlace}(hv:Value.okWide prog w r b0 47 v)(h:DataW.Trod enc prog w base spare held 47 v d p):∃x:ME,v=x.val/\x.v.In w/\x.v.nodes<=Rows.uptoBulk d/\x.Fits:=by
 obtain⟨cs,rfl,hsz⟩:=okWide_struct underlying47 hv;obtain⟨fuel,hf⟩:=h;obtain⟨x,hx,h1,h2,h3⟩:=qm fuel _ d p hf;refine⟨x,?_,h1,h2,h3⟩;have :cs=x.cells.toArray:=by
  apply Array.ext'
  simpa[Value.cells]using hx
 rw[this];rfl
theorem open_ents{fuel:Nat}{c:Value}{d:DataW H}{p:List MemPlace}(h:DataW.trod enc prog w base spare held fuel 70 [c]=some (d,p)):∃(a:Option Addr) (cap:Nat) (l:List ME),c= .slice a l.length cap/\l.length<=maxLen/\fo w a l/\∀x∈l,x.v.In w/\x.v.nodes<=Rows.uptoBulk d/\x.Fits:=by
 rcases open_slice underlying70 h with ⟨hcs,hx2⟩|⟨a,len,cap,m,n',D,Pl,hcs,hb,hlc,hm,hmm,hx2,hi⟩
 .injection hcs with hcs _
  subst hcs;exact⟨none,0,[],rfl,by simp[maxLen],fun i hi=>by simp at hi,by simp⟩
 .injection hcs with hcs _
  subst hcs;have hlm:len<=m:=by rw[hmm];split<;>omega
  injection hx2 with hx2 _
  subst hx2;obtain⟨l,hll,hp⟩:=kT (p:=fun i (t:ME)=>(∀j,j<7->w.cell? ((a.add (i*7)).add j)=t.cells[j]?)/\t.v.In w/\t.v.nodes<=Rows.uptoBulk (D i)/\t.Fits) len (fun i hil=>by
   obtain⟨cs',hc,ht'⟩:=hi i (by omega);rw[sO]at hc;obtain⟨_,hcl,hat⟩:=World.cells?_some hc;obtain⟨t,rfl,ht1,ht2,ht3⟩:=qm _ _ _ _ ht';exact⟨t,hat,ht1,ht2,ht3⟩)
  subst hll;refine⟨some a,cap,l,rfl,by omega,fun i hil=>?_,fun x hx=>?_⟩
  .obtain⟨hat,_,_⟩:=hp i hil
   obtain⟨b,o,sp⟩:=a;have hsp:sp=none:=by
    obtain⟨aaH,_,_⟩:=hp 0 (by omega);have h00:=aaH 0 (by omega);rw[add_add']at h00;have h01:w.cell? ((⟨b,o,sp⟩:Addr).add 0)=some (.int .i64 (l[0]'(by omega)).sync):=by simp only[Nat.zero_mul,Nat.add_zero]at h00;exact h00
    simpa[Addr.add]using World.cell?_spot h01
   subst hsp;have hc:∀j,j<7->w.cell? ⟨b,o+i*7+j,none⟩=l[i].cells[j]? :=fun j hj=>by
    have :=hat j hj;rw[add_add',Addr.add_lit,<-Nat.add_assoc]at this;exact this
   exact⟨b,o,rfl,World.block_lt_of_cell? w _ (u:= .int .i64 l[i].sync) (hc 0 (by omega)),hc 0 (by omega),hc 1 (by omega),hc 2 (by omega),hc 3 (by omega),hc 4 (by omega),hc 5 (by omega),hc 6 (by omega)⟩
  .obtain⟨i,hil,rfl⟩:=List.mem_iff_getElem.1 hx
   obtain⟨_,h1,h2,h3⟩:=hp i hil;have hbi:Rows.uptoBulk (D i)<=Rows.uptoBulkAll ((List.range l.length).map D):=vB (List.mem_map.2 ⟨i,List.mem_range.2 hil,rfl⟩);refine⟨h1,?_,h3⟩;simp only[Rows.uptoBulk];omega
end
end
theorem gY(x y:ME)(w:World)(hx:x.v.In w)(hy:y.v.In w)(hnx:x.v.nodes<=1048576)(hny:y.v.nodes<=1048576):Calls prog 77 #[x.val,y.val] w (aI (x.v.nodes<=256/\y.v.nodes<=256/\x.plain=y.plain) w):=by
 by_cases F8:x.sync=y.sync;rotate_left
 .have hne:(x.sync==y.sync)=false:=by simpa using F8
  have HC:=hdq (fun W (hW:Touch [] w W)=>jI x.v y.v W (hx.aO hW) (hy.aO hW) hnx hny);simp only[bB,eG]at HC|-;have z1:w.heap.size<w.heap.size+1:=by omega
  have z2:w.heap.size<w.heap.size+1+1:=by omega
  go_enter func77,ntmps77
  go_wp2;go_ret
  exact aI.no (fun h=>F8 ((PE.eq_iff x y).1 h.2.2).1.1) (((Touch.refl [] w).alloc _).alloc _)
 by_cases EN:x.thread=y.thread;rotate_left
 .have hne:(x.thread==y.thread)=false:=by simpa using EN
  have HC:=hdq (fun W (hW:Touch [] w W)=>jI x.v y.v W (hx.aO hW) (hy.aO hW) hnx hny);simp only[bB,eG]at HC|-;have z1:w.heap.size<w.heap.size+1:=by omega
  have z2:w.heap.size<w.heap.size+1+1:=by omega
  go_enter func77,ntmps77
  go_wp2;go_ret
  exact aI.no (fun h=>EN ((PE.eq_iff x y).1 h.2.2).1.2.1) (((Touch.refl [] w).alloc _).alloc _)
 by_cases EJ:x.branch=y.branch;rotate_left
 .have hne:(x.branch==y.branch)=false:=by simpa using EJ
  have HC:=hdq (fun W (hW:Touch [] w W)=>jI x.v y.v W (hx.aO hW) (hy.aO hW) hnx hny);simp only[bB,eG]at HC|-;have z1:w.heap.size<w.heap.size+1:=by omega
  have z2:w.heap.size<w.heap.size+1+1:=by omega
  go_enter func77,ntmps77
  go_wp2;go_ret
  exact aI.no (fun h=>EJ ((PE.eq_iff x y).1 h.2.2).1.2.2.1) (((Touch.refl [] w).alloc _).alloc _)
 by_cases FZ:x.flag=y.flag;rotate_left
 .have hne:(x.flag==y.flag)=false:=by simpa using FZ
  have HC:=hdq (fun W (hW:Touch [] w W)=>jI x.v y.v W (hx.aO hW) (hy.aO hW) hnx hny);simp only[bB,eG]at HC|-;have z1:w.heap.size<w.heap.size+1:=by omega
  have z2:w.heap.size<w.heap.size+1+1:=by omega
  go_enter func77,ntmps77
  go_wp2;go_ret
  exact aI.no (fun h=>FZ ((PE.eq_iff x y).1 h.2.2).1.2.2.2) (((Touch.refl [] w).alloc _).alloc _)
 have e0:(x.sync==y.sync)=true:=by simpa using F8
 have e1:(x.thread==y.thread)=true:=by simpa using EN
 have e2:(x.branch==y.branch)=true:=by simpa using EJ
 have e3:(x.flag==y.flag)=true:=by simpa using FZ
 have HEQ:Hid (x.sync=y.sync/\x.thread=y.thread/\x.branch=y.branch/\x.flag=y.flag):=⟨F8,EN,EJ,FZ⟩;have HC:=hdq (fun W (hW:Touch [] w W)=>jI x.v y.v W (hx.aO hW) (hy.aO hW) hnx hny);simp only[bB,eG]at HC|-;have z1:w.heap.size<w.heap.size+1:=by omega
 have z2:w.heap.size<w.heap.size+1+1:=by omega
 go_enter func77,ntmps77
 go_wp2_with fail
 refine(HC.o _ (((Touch.refl [] w).alloc _).alloc _)).mono ?_;rintro en w2 ⟨cc,rfl,hcc,ht⟩;have HT:=hdq ((((Touch.refl [] w).alloc _).alloc _).trans' ht);have D6:=hdq hcc;go_wp2;go_ret
 refine⟨_,rfl,?_,HT.o⟩;rw[D6.o,PE.eq_iff];simp[HEQ.o]
theorem Ww(x:ME)(w:World)(hx:x.v.In w)(hnx:x.v.nodes<=1048576):Calls prog 290 #[x.val] w (aI x.plain.Ok w):=by
 by_cases hz:x.v.kind=0/\x.v.num=0/\x.v.parts.length=0
 .have e0:(x.v.kind==0)=true:=by simpa using hz.1
  have e1:(x.v.num==0)=true:=by simpa using hz.2.1
  have e2:((x.v.parts.length:Int)==0)=true:=by simpa using hz.2.2
  have HZ:=hdq hz;clear hz;have HC:=hdq (fun W (hW:Touch [] w W)=>sN x.v W (hx.aO hW) hnx);have EA:=hdq (MT.JX x.v);clear hx hnx;simp only[bB,eG]at HC|-;have z1:w.heap.size<w.heap.size+1:=by omega
  go_enter func290,ntmps290
  go_wp2;all_goals go_ret
  all_goals refine⟨_,rfl,?_,(Touch.refl [] w).alloc _⟩
  all_goals simp only[PE.Ok,ME.plain]
  all_goals rw[EA.o]
  all_goals have e3:(MT.PT.mk x.v.kind x.v.num (x.v.parts.map MT.plain)=MT.PT.mk 0 0 []):=by have h:=HZ.o;simp at h;simp[h]
  all_goals simp only[e3,true_or,and_true]
  all_goals first |(simp;omega)|simp[*]
 .have HZ:=hdq hz
  have hz1:¬(x.v.kind=0/\x.v.num=0/\(x.v.parts.length:Int)=0):=by omega
  by_cases h0:x.sync<0
  .have HC:=hdq (fun W (hW:Touch [] w W)=>sN x.v W (hx.aO hW) hnx)
   have EA:=hdq (MT.JX x.v);clear hx hnx;simp only[bB,eG]at HC|-;have z1:w.heap.size<w.heap.size+1:=by omega
   go_enter func290,ntmps290
   go_wp2;all_goals go_ret
   all_goals exact aI.no (fun h=>by have :=h.1;simp only[ME.plain]at this;omega) ((Touch.refl [] w).alloc _)
  by_cases h1:x.thread<0
  .have HC:=hdq (fun W (hW:Touch [] w W)=>sN x.v W (hx.aO hW) hnx)
   have EA:=hdq (MT.JX x.v);clear hx hnx;simp only[bB,eG]at HC|-;have z1:w.heap.size<w.heap.size+1:=by omega
   go_enter func290,ntmps290
   go_wp2;all_goals go_ret
   all_goals exact aI.no (fun h=>by have :=h.2.1;simp only[ME.plain]at this;omega) ((Touch.refl [] w).alloc _)
  by_cases h2:x.branch<0
  .have HC:=hdq (fun W (hW:Touch [] w W)=>sN x.v W (hx.aO hW) hnx)
   have EA:=hdq (MT.JX x.v);clear hx hnx;simp only[bB,eG]at HC|-;have z1:w.heap.size<w.heap.size+1:=by omega
   go_enter func290,ntmps290
   go_wp2;all_goals go_ret
   all_goals exact aI.no (fun h=>by have :=h.2.2.1;simp only[ME.plain]at this;omega) ((Touch.refl [] w).alloc _)
  by_cases h3:x.flag<0
  .have HC:=hdq (fun W (hW:Touch [] w W)=>sN x.v W (hx.aO hW) hnx)
   have EA:=hdq (MT.JX x.v);clear hx hnx;simp only[bB,eG]at HC|-;have z1:w.heap.size<w.heap.size+1:=by omega
   go_enter func290,ntmps290
   go_wp2;all_goals go_ret
   all_goals exact aI.no (fun h=>by have :=h.2.2.2.1;simp only[ME.plain]at this;omega) ((Touch.refl [] w).alloc _)
  have CW:Hid (0<=x.sync/\0<=x.thread/\0<=x.branch/\0<=x.flag):=⟨by omega,by omega,by omega,by omega⟩;clear hz hz1;by_cases hk:x.v.kind=0
  .have e0:(x.v.kind==0)=true:=by simpa using hk
   by_cases hn:x.v.num=0
   .have e1:(x.v.num==0)=true:=by simpa using hn
    have e2:((x.v.parts.length:Int)==0)=false:=by
     have :¬(x.v.parts.length:Int)=0:=fun h=>HZ.o ⟨hk,hn,by omega⟩;simpa using this
    clear hk hn;have HC:=hdq (fun W (hW:Touch [] w W)=>sN x.v W (hx.aO hW) hnx);have EA:=hdq (MT.JX x.v);clear hx hnx;simp only[bB,eG]at HC|-;have z1:w.heap.size<w.heap.size+1:=by omega
    go_enter func290,ntmps290
    go_wp2_with fail
    refine(HC.o _ ((Touch.refl [] w).alloc _)).mono ?_;rintro en w2 ⟨cc,rfl,hcc,ht⟩;have HT:=hdq (((Touch.refl [] w).alloc _).trans' ht);have D6:=hdq hcc;clear ht hcc;go_wp2;go_ret
    refine⟨_,rfl,?_,HT.o⟩;rw[D6.o];simp only[PE.Ok,ME.plain];have hnn:=CW.o;have hno:¬x.v.plain=MT.PT.mk 0 0 []:=fun h=>by
     rw[EA.o]at h;simp at h
     exact HZ.o ⟨h.1,h.2.1,by simp[h.2.2]⟩
    simp[hnn,hno]
   .have e1:(x.v.num==0)=false:=by simpa using hn
    clear hk hn;have HC:=hdq (fun W (hW:Touch [] w W)=>sN x.v W (hx.aO hW) hnx);have EA:=hdq (MT.JX x.v);clear hx hnx;simp only[bB,eG]at HC|-;have z1:w.heap.size<w.heap.size+1:=by omega
    go_enter func290,ntmps290
    go_wp2_with fail
    refine(HC.o _ ((Touch.refl [] w).alloc _)).mono ?_;rintro en w2 ⟨cc,rfl,hcc,ht⟩;have HT:=hdq (((Touch.refl [] w).alloc _).trans' ht);have D6:=hdq hcc;clear ht hcc;go_wp2;go_ret
    refine⟨_,rfl,?_,HT.o⟩;rw[D6.o];simp only[PE.Ok,ME.plain];have hnn:=CW.o;have hno:¬x.v.plain=MT.PT.mk 0 0 []:=fun h=>by
     rw[EA.o]at h;simp at h
     exact HZ.o ⟨h.1,h.2.1,by simp[h.2.2]⟩
    simp[hnn,hno]
  .have e0:(x.v.kind==0)=false:=by simpa using hk
   clear hk;have HC:=hdq (fun W (hW:Touch [] w W)=>sN x.v W (hx.aO hW) hnx);have EA:=hdq (MT.JX x.v);clear hx hnx;simp only[bB,eG]at HC|-;have z1:w.heap.size<w.heap.size+1:=by omega
   go_enter func290,ntmps290
   go_wp2_with fail
   refine(HC.o _ ((Touch.refl [] w).alloc _)).mono ?_;rintro en w2 ⟨cc,rfl,hcc,ht⟩;have HT:=hdq (((Touch.refl [] w).alloc _).trans' ht);have D6:=hdq hcc;clear ht hcc;go_wp2;go_ret
   refine⟨_,rfl,?_,HT.o⟩;rw[D6.o];simp only[PE.Ok,ME.plain];have hnn:=CW.o;have hno:¬x.v.plain=MT.PT.mk 0 0 []:=fun h=>by
    rw[EA.o]at h;simp at h
    exact HZ.o ⟨h.1,h.2.1,by simp[h.2.2]⟩
   simp[hnn,hno]
theorem nD:(prog.info? 47).map (fun i=>(i.zero,i.size,i.bytes))=some (some (.agg #[(),(),(),(),(),(),True]),7,72):=by kernel_rfl
theorem yP(w:World):(Instr.build 275 #[(0,.bool true)]).run prog w= .ok (.agg #[true,True]) w:=run_build w 275 _ _ (by kernel_rfl)
theorem oD(a b:Value)(w:World)(h:prog.built 277 [(0,.agg #[a,b])]=some #[a,b]):(Instr.build 277 #[(0,.agg #[a,b])]).run prog w= .ok (.agg #[a,b]) w:=run_build w 277 _ _ h
theorem Km{T:List Nat}{w0:World}{l:List ai}(w:World)(h:BD T w0 w l):Calls prog 186 #[] w fun e w'=>∃g,e= .returned (.pointer (some ⟨g,0,none⟩))/\BD T w0 w' (l++[aQ g []]):=by
 have hb1:=yP;have hb2:∀W,(Instr.build 277 #[(0,.agg #[true,True])]).run prog W= .ok (.agg #[true,True]) W:=fun W=>oD _ _ W (by kernel_rfl);have H:=hdq h;go_enter func186,ntmps186
 go_wp2;go_ret
 refine⟨w.heap.size,rfl,?_⟩;have h:=(H.o.alloc 277 #[true,True]).gK 47 7;rw[List.append_assoc]at h;exact BD.za (es:=[]) h
def kK(n:Nat)(xs:List PE)(k:Nat)(err:Int):Prop:=
 (∀i (h:i<xs.length),i<k->xs[i].Ok)/\n+k<=4096/\k<=xs.length/\((err=0/\k=xs.length)\/∃h:k<xs.length,(err=2/\¬xs[k].Ok)\/(err=6/\xs[k].Ok/\n+k=4096))
def Pushed(T:List Nat)(w:World)(g:Nat)(es xs:List ME)(e:Ending)(w':World):Prop:=
 ∃k err ys,e= .returned (.int .i64 err)/\kK es.length (xs.map ME.plain) k err/\ys.map ME.plain=(xs.map ME.plain).take k/\BD T w w' [aQ g (es++ys),bS (ys.map ME.v)]
theorem BD.frameK{T:List Nat}{w0 w:World}{l:List ai}{t:ai}(h:BD T w0 w l)(i:Nat)(hi:l[i]? =some t):
  ∃T',BD T' w w [t]/\(∀k∈T',k∈T\/w0.heap.size<=k)/\(∀W,Touch T' w W->∀j u,j≠i->l[j]? =some u->∃f,u.holds W f)/\∀w' t' rest,BD T' w w' (t'::rest)->BD T w0 w' (l.set i t'++rest):=by
 have hz:=h.size;obtain⟨hb,F,h1,h2⟩:=h;have hi':=(List.getElem?_eq_some_iff.1 hi).1;obtain⟨ha1,ha2⟩:=h1 i t hi;have hL:BD T w0 w l:=⟨hb,F,h1,h2⟩;refine⟨F i,⟨Touch.refl _ _,fun _=>F i,?_,?_⟩,ha2,?_,?_⟩
 .intro j u hj
  cases j with
  |zero=>simp at hj;subst hj;exact⟨ha1,fun k hk=> .inl hk⟩
  |succ j=>simp at hj
 .intro j k hj hk hjk;simp at hj hk;omega
 .intro W hW j u hji hj
  obtain⟨hu,_⟩:=h1 j u hj;have hj':=(List.getElem?_eq_some_iff.1 hj).1;exact⟨F j,u.keep hu (fun k hk=>hW.block k (u.lt hu k hk) (h2 j i hj' hi' hji k hk))⟩
 .rintro w' t' rest ⟨hT,F',h1',h2'⟩
  have hnewF:∀m,m<(t'::rest).length->∀x∈F' m,x∈F i\/w.heap.size<=x:=fun m hm x hx=>(h1' m _ (List.getElem?_eq_getElem hm)).2 x hx;have hoth:∀m,m<l.length->m≠i->∀x∈F m,∀p,p<(t'::rest).length->x∉F' p:=fun m hm EQ x hx p hp hc=>by
   have hlt:=l[m].lt (h1 m l[m] (List.getElem?_eq_getElem hm)).1 x hx;rcases hnewF p hp x hc with h|h
   .exact h2 m i hm hi' EQ x hx h
   .omega
  refine⟨hb.trans hT ha2,fun m=>if m=i then F' 0 else if m<l.length then F m else F' (m-l.length+1),?_,?_⟩
  .intro m u hm
   by_cases hml:m<l.length
   .rw[List.getElem?_append_left (by simpa using hml)]at hm
    by_cases EQ:m=i
    .subst EQ
     rw[List.getElem?_set_self hi']at hm;cases hm
     simp only[if_true];obtain⟨a,b⟩:=h1' 0 t' rfl;exact⟨a,fun k hk=>(b k hk).elim (ha2 k) (fun h=> .inr (by omega))⟩
    .rw[List.getElem?_set_ne (fun e=>EQ e.symm)]at hm
     simp only[if_neg EQ,if_pos hml];obtain⟨hu,hu2⟩:=h1 m u hm;exact⟨u.keep hu (fun k hk=>hT.block k (u.lt hu k hk) (h2 m i hml hi' EQ k hk)),hu2⟩
   .rw[List.getElem?_append_right (by simpa using hml)]at hm
    have EQ:m≠i:=by omega
    simp only[if_neg EQ,if_neg hml];obtain⟨a,b⟩:=h1' (m-l.length+1) u (by simpa using hm);exact⟨a,fun k hk=>(b k hk).elim (ha2 k) (fun h=> .inr (by omega))⟩
  .intro m n hm hn hmn x hx hx2
   dsimp only at hx hx2;simp only[List.length_append,List.length_set]at hm hn;by_cases EQ:m=i
   .rw[if_pos EQ]at hx
    rw[if_neg (by omega)]at hx2;by_cases hnl:n<l.length
    .rw[if_pos hnl]at hx2
     exact hoth n hnl (by omega) x hx2 0 (by simp) hx
    .rw[if_neg hnl]at hx2
     exact h2' 0 (n-l.length+1) (by simp) (by simp;omega) (by omega) x hx hx2
   .rw[if_neg EQ]at hx
    by_cases hni:n=i
    .rw[if_pos hni]at hx2
     by_cases hml:m<l.length
     .rw[if_pos hml]at hx
      exact hoth m hml EQ x hx 0 (by simp) hx2
     .rw[if_neg hml]at hx
      exact h2' 0 (m-l.length+1) (by simp) (by simp;omega) (by omega) x hx2 hx
    .rw[if_neg hni]at hx2
     by_cases hml:m<l.length
     .rw[if_pos hml]at hx
      by_cases hnl:n<l.length
      .rw[if_pos hnl]at hx2;exact h2 m n hml hnl hmn x hx hx2
      .rw[if_neg hnl]at hx2;exact hoth m hml EQ x hx (n-l.length+1) (by simp;omega) hx2
     .rw[if_neg hml]at hx
      by_cases hnl:n<l.length
      .rw[if_pos hnl]at hx2;exact hoth n hnl hni x hx2 (m-l.length+1) (by simp;omega) hx
      .rw[if_neg hnl]at hx2;exact h2' (m-l.length+1) (n-l.length+1) (by simp;omega) (by simp;omega) (by omega) x hx hx2
theorem BD.yZ{T:List Nat}{w0 w:World}{g n:Nat}{v:Value}{L:List ME}{vs:List MT}{rest:List ai}(hn:L.length=n)(h:BD T w0 w (Proofs.YtddnnapoaonmjaaGreatDoor.box g 277 #[true,v]::aS 47 7 v n (aM L)::bS vs::rest)):BD T w0 w [aQ g L,bS vs]:=by
 subst hn;have h1:BD T w0 w ([bS vs]++[Proofs.YtddnnapoaonmjaaGreatDoor.box g 277 #[true,v],aS 47 7 v L.length (aM L)]):=h.sel [2,0,1] rfl (by decide);exact h1.za.sel [1,0] rfl (by decide)
theorem Push_q(T:List Nat)(w:World)(g:Nat)(es xs:List ME)(a:Option Addr)(cap:Nat)(h:BD T w w [aQ g es])(hsrc:∀W,Touch T w W->fo W a xs/\∀x∈xs,x.v.In W)(hn:xs.length<=1099511627776)(hes:es.length<=4096):
  Calls prog 200 #[g,.slice a xs.length cap] w (Pushed T w g es xs):=by
 obtain⟨qa,qc,hqc1,hqc2,h1⟩:=BD.OM (l:=[]) h;have BB:=hdq h1.yS;simp only[nAq,cAq]at BB;have HSRC:=hdq hsrc;clear h h1 hsrc hqc1 hqc2;obtain⟨q0,q1,_,_,zq,_,_⟩:=BB.o.c2 0 rfl;go_enter func200,ntmps200
 go_wp2;refine bT 0 rfl ?_;go_wp2_with fail
 refine(pG g w q0).mono ?_;rintro e w' ⟨rfl,rfl⟩;go_wp2_with fail
 go_loopw [5,12] (fun er i wr=>∃(j:Nat) (ys:List ME) (qa:Option Addr) (qc:Nat),j<=xs.length/\i= .int .i64 (j:Int)/\er= .int .i64 0/\es.length+j<=4096/\(es++ys).length=es.length+j/\Hid (ys.map ME.plain=(xs.map ME.plain).take j)/\Hid (∀i (h:i<(xs.map ME.plain).length),i<j->(xs.map ME.plain)[i].Ok)/\
  Hid (BD T w wr [box g 277 #[true,.slice qa (es.length+j) qc],aS 47 7 (.slice qa (es.length+j) qc) (es.length+j) (aM (es++ys)),bS (ys.map ME.v)])) (fun _ i _=>xs.length-(intOf i).toNat)
 case atStart=>exact⟨0,[],qa,qc,Nat.zero_le _,rfl,rfl,by omega,by simp,by unfold Hid;simp,by unfold Hid;intro i _ h;omega,by simpa using BB⟩
 case round=>
  obtain⟨j,ys,qa,qc,hj,rfl,rfl,hj2,hyl,HY,HO,HK⟩:=hrel;clear BB q0 q1 zq;have hj0:(0:Int)<=(j:Int):=by omega
  by_cases hjl:j<xs.length
  .have Cc:(j:Int)<(xs.length:Int):=by omega
   obtain⟨b,o,rfl,hb,p0,p1,p2,p3,p4,p5,p6⟩:=(HSRC.o wr HK.o.BN).1 j hjl;have HI:=hdq ((HSRC.o wr HK.o.BN).2 _ (List.getElem_mem hjl));have Jy:Hid ((xs.map ME.plain)[j]? =some xs[j].plain):=by unfold Hid;simp[hjl]
   generalize xs[j]=x at p0 p1 p2 p3 p4 p5 p6 HI Jy;go_wp2_with fail
   refine ah ?_;intro w2 hw2;have HL2:=hdq (HK.o.DN hw2);have HT2:Hid (Touch [] wr w2):=hw2▸(Touch.refl [] wr).alloc _;simp only[nAq,cAq]at HL2;generalize EF:wr.heap.size=b7 at HL2|-;clear hw2 EF p0 p1 p2 p3 p4 p5 p6 hb;refine(MQ x w2 (HI.o.aO HT2.o)).mono ?_;rintro e w3 ⟨cc,rfl,hcc,ht⟩;have BF:=hdq (HL2.o.touch ht);have HT3:=hdq (HT2.o.trans' ht);have D6:=hdq hcc;clear hcc ht HL2 HT2;cases cc with
   |false=>
    go_wp2;go_step3
    refine⟨rfl,?_⟩;go_wp2;refine dO ?_;go_ret
    refine⟨j,2,ys,rfl,⟨HO.o,by omega,by simp;omega,.inr ⟨by simp;omega,.inl ⟨rfl,?_⟩⟩⟩,HY.o,?_⟩
    .have h:=Jy.o
     rw[List.getElem?_eq_getElem (by simp;omega)]at h;injection h with h
     rw[h];intro hok;have :=D6.o.2 hok;cases this
    .exact BF.o.yZ hyl
   |true=>
    obtain⟨q0,q1,KY,LF,zq,_,_⟩:=BF.o.c2 0 rfl;go_wp2_with fail
    refine(ML g _ _ _ w3 q1).mono ?_;rintro e w' ⟨rfl,rfl⟩;by_cases hfull:es.length+j=4096
    .have hf1:(4096:Int)<=((es.length+j:Nat):Int):=by omega
     go_wp2;go_step3
     refine⟨rfl,?_⟩;go_wp2;refine dO ?_;go_ret
     refine⟨j,6,ys,rfl,⟨HO.o,by omega,by simp;omega,.inr ⟨by simp;omega,.inr ⟨rfl,?_,hfull⟩⟩⟩,HY.o,?_⟩
     .have h:=Jy.o
      rw[List.getElem?_eq_getElem (by simp;omega)]at h;injection h with h
      rw[h];exact D6.o.1 (by simp)
     .exact BF.o.yZ hyl
    .have hf1:¬(4096:Int)<=((es.length+j:Nat):Int):=by omega
     obtain⟨i0,hi0,CY,CU,CX⟩:=info_parts nD;have HXN:Hid (x.v.nodes<=256):=by
      have h1:=(D6.o.1 (by simp)).nodes;simp only[ME.plain,MT.cu]at h1;exact h1
     have HXI:=hdq (HI.o.aO HT3.o);obtain⟨x0,x1,x2,x3,x4,x5,x6,_,zx,_,_⟩:=BF.o.c7 3 rfl;go_wp2_with fail
     go_region_law (first
      |(refine aD _ rfl (.tmp 29) (.tmp 32) 70 rfl 47 i0 _ 7 72 underlying70 hi0 CY CU CX rfl (by decide) (.slice qa (es.length+j) qc) (es.length+j) (aM (es++ys)) (by simp[Act.eval]) ((BH.o.dL _).aZ 1 rfl) (some ⟨w4.heap.size,0,none⟩) 1 1 x'.cells (by simp[Act.eval]) rfl (.inr ⟨_,rfl,World.news_of_block (heap_alloc_new w4 _)⟩) (by have :=qf [x'];simpa[aM]using this) (by simp only[maxLen];omega) (by omega) ?_;intro a5 c5 w5 hown hgrow hat;have Ca:=hdq ((BH.o.dL _).bG 1 rfl hgrow hown hat);simp only[sSq,sZq]at Ca;clear hown hgrow hat q0 q1 KY LF zq;obtain⟨q0,q1,KY,LF,zq,_,_⟩:=Ca.o.c2 0 rfl)
      |(go_simp;refine(kM x w3.drew (HXI.o.aO (Touch.refl [] w3).drew) HXN.o).mono ?_;rintro e w4 ⟨x',rfl,hpl,hin,hnew,ht⟩;have BH:=hdq (BF.o.drew.gH (vs:=[x'.v]) ht (by simpa using hin) (by simpa using hnew));simp only[nAq,cAq]at BH;have EA:=hdq hpl;clear hpl hin hnew ht q0 q1 KY LF zq x0 x1 x2 x3 x4 x5 x6 zx;obtain⟨q0,q1,KY,LF,zq,_,_⟩:=BH.o.c2 0 rfl;simp only[bB]))
     all_goals
      have Db:Hid (BD T w (w5.setCell ⟨g,1,none⟩ (.slice a5 (es.length+j+1) c5)) [box g 277 #[true,.slice a5 (es.length+(j+1)) c5],aS 47 7 (.slice a5 (es.length+(j+1)) c5) (es.length+(j+1)) (aM (es++(ys++[x']))),bS ((ys++[x']).map ME.v)]):=by
       have h:=Ca.o.set 0 rfl 1 (.slice a5 (es.length+j+1) c5);simp only[sSq,sZq,sAq]at h;have h2:=BD.ql (l:=[_,_]) (h.sel [0,1,2,4] rfl (by decide));rw[<-List.append_assoc,iC,List.map_append];exact h2
      have HY6:Hid ((ys++[x']).map ME.plain=(xs.map ME.plain).take (j+1)):=by
       unfold Hid;rw[List.take_add_one,Jy.o,List.map_append,HY.o,<-EA.o];rfl
      have HO6:Hid (∀i (h:i<(xs.map ME.plain).length),i<j+1->(xs.map ME.plain)[i].Ok):=by
       unfold Hid;intro i h hi;by_cases hij:i<j
       .exact HO.o i h hij
       .obtain rfl:i=j:=by omega
        have h2:=Jy.o;rw[List.getElem?_eq_getElem h]at h2;injection h2 with h2
        rw[h2];exact D6.o.1 (by simp)
      have hyl6:(es++(ys++[x'])).length=es.length+(j+1):=by simp at hyl|-;omega
      clear Ca BH BF q0 q1 KY LF zq;go_wp2;go_roundw
      case rel=>exact⟨j+1,ys++[x'],a5,c5,by omega,by go_num,rfl,by omega,hyl6,HY6,HO6,Db⟩
      case measure=>simp[intOf];omega
  .have Cc:¬(j:Int)<(xs.length:Int):=by omega
   obtain rfl:j=xs.length:=by omega
   go_wp2;go_step3
   go_wp2;refine fO ?_;go_ret
   refine⟨xs.length,0,ys,rfl,⟨HO.o,by omega,by simp,.inl ⟨rfl,by simp⟩⟩,HY.o,?_⟩;exact HK.o.yZ hyl
def Kk(w:World)(g:Nat)(es:List ME):Prop:=∃a cap,Cg w g 277 #[true,.slice a es.length cap]/\es.length<=cap/\cap<=maxLen/\dZ w 47 7 (.slice a es.length cap) es.length (aM es)
theorem BD.qAt{T:List Nat}{w0 w:World}{l:List ai}{g:Nat}{es:List ME}(h:BD T w0 w l)(i:Nat)(hi:l[i]? =some (aQ g es)):Kk w g es:=h.q0 i hi
theorem Kk.touch{w w':World}{g:Nat}{es:List ME}(h:Kk w g es)(ht:Touch [] w w'):Kk w' g es:=by
 obtain⟨a,cap,h1,h2,h3,h4⟩:=h;exact⟨a,cap,h1.touch ht (by simp),h2,h3,nT h4 (fun k hk=>ht.block k (lY h4 k hk) (by simp))⟩
theorem BD.iD{T:List Nat}{w0 w:World}{l:List ai}(h:BD T w0 w l)(i:Nat){b t:Nat}{y0 y1 y2 y3 y4 y5 y6:Value}(hi:l[i]? =some (Proofs.YtddnnapoaonmjaaGreatDoor.box b t #[y0,y1,y2,y3,y4,y5,y6]))(s th br f k n:Int)(v:Value):
  BD T w0 (((((((w.setCell ⟨b,0,none⟩ (.int .i64 s)).setCell ⟨b,1,none⟩ (.int .i64 th)).setCell ⟨b,2,none⟩ (.int .i64 br)).setCell ⟨b,3,none⟩ (.int .i64 f)).setCell ⟨b,4,none⟩ (.int .i64 k)).setCell ⟨b,5,none⟩ (.int .i64 n)).setCell ⟨b,6,none⟩ v)
   (l.set i (Proofs.YtddnnapoaonmjaaGreatDoor.box b t #[s,th,br,f,k,n,v])):=by
 have hl:=(List.getElem?_eq_some_iff.1 hi).1;have e:∀(l:List ai) (t1 t2:ai),(l.set i t1).set i t2=l.set i t2:=fun l t1 t2=>List.set_set t1;have g:∀(t1:ai),(l.set i t1)[i]? =some t1:=fun t1=>List.getElem?_set_self hl;have h1:=h.set i hi 0 (.int .i64 s);have h2:=h1.set i (g _) 1 (.int .i64 th);rw[e]at h2;have h3:=h2.set i (g _) 2 (.int .i64 br);rw[e]at h3;have h4:=h3.set i (g _) 3 (.int .i64 f);rw[e]at h4;have h5:=h4.set i (g _) 4 (.int .i64 k);rw[e]at h5;have h6:=h5.set i (g _) 5 (.int .i64 n);rw[e]at h6;have h7:=h6.set i (g _) 6 v;rw[e]at h7;simp only[sAq,sZq,sSq]at h7;exact h7
def AtR(es:List PE)(i:Int)(x:ME)(c:Bool):Prop:=(c=true/\0<=i/\es[i.toNat]? =some x.plain)\/(c=false/\¬(0<=i/\i<(es.length:Int))/\x=ME.zero)
def tT(es:List PE)(i:Int)(w:World)(e:Ending)(w':World):Prop:=∃x c,e= .returned (.tuple #[x.val,.bool c])/\AtR es i x c/\x.v.In w'/\(∀k∈x.v.blocks,w.heap.size<=k)/\Touch [] w w'
theorem sH(w:World):(Instr.build 47 #[]).run prog w= .ok ME.zero.val w:=run_build w 47 _ _ (by kernel_rfl)
theorem At_q(w:World)(g:Nat)(es:List ME)(i:Int)(h:Kk w g es)(hin:∀e∈es,e.v.In w/\e.v.nodes<=256):Calls prog 197 #[g,i] w (tT (es.map ME.plain) i w):=by
 have Ed:=hdq hin;clear hin;obtain⟨a,cap,hb,hc1,hc2,hr⟩:=h;have HQ:Hid (∀W,Touch [] w W->W.cell? ⟨g,0,none⟩=some (.bool true)/\W.cell? ⟨g,1,none⟩=some (.slice a es.length cap)/\g<W.heap.size):=fun W hW=>⟨hW.cellOf (hb.cell 0),hW.cellOf (hb.cell 1),Nat.lt_of_lt_of_le hb.lt hW.size⟩;have hbe:=sH;simp only[bB,ME.zero,MT.zero,MT.kind,MT.num,MT.addr,MT.parts,MT.cap,List.length_nil]at hbe;go_enter func197,ntmps197
 go_wp2_with fail
 refine ah ?_;intro w1 hw1;have BB:=hdq ((BD.nil' w).DN hw1);simp only[nAq,cAq]at BB;generalize hb4:w.heap.size=b4 at BB|-;clear hb4 hw1;obtain⟨q0,q1,zq⟩:=HQ.o w1 BB.o.BN;refine(pG g w1 q0).mono ?_;rintro e w' ⟨rfl,rfl⟩;go_wp2_with fail
 refine(OW g _ _ _ i w1 q1).mono ?_;rintro e w' ⟨⟨cc,rfl,hcc⟩,rfl⟩;have D6:=hdq hcc;clear hcc;obtain⟨r0,r1,r2,r3,r4,r5,r6,⟨f0,f1,f2,f3,f4,f5,f6⟩,zr,_,_⟩:=BB.o.c7 0 rfl;cases cc with
 |false=>
  go_wp2;have HL2:=hdq (BB.o.iD 0 rfl 0 0 0 0 0 0 (.slice none 0 0));simp only[sZq]at HL2;obtain⟨s0,s1,s2,s3,s4,s5,s6,_⟩:=HL2.o.c7 0 rfl;refine bodyPost_ret (v:= .tuple #[ME.zero.val,false]) (by simp[results,results197,go_sem,s0,s1,s2,s3,s4,s5,s6,bB,ME.zero,MT.zero,MT.kind,MT.num,MT.addr,MT.parts,MT.cap]) rfl ?_;refine⟨ME.zero,false,rfl,.inr ⟨rfl,fun hx=>?_,rfl⟩,MT.dQ _,by simp[ME.zero,MT.zero,MT.blocks,MT.dF],HL2.o.BN⟩;have :=D6.o.2 (by simpa using hx);cases this
 |true=>
  obtain⟨hi1,hi2⟩:=D6.o.1 (by simp);obtain⟨k,rfl⟩:=Int.eq_ofNat_of_zero_le hi1;have hk:k<es.length:=by omega
  obtain⟨b,o,rfl,hbb,p0,p1,p2,p3,p4,p5,p6⟩:=(iL hr).touch BB.o.BN k hk;have HI:=hdq (Ed.o _ (List.getElem_mem hk));have Jy:Hid ((es.map ME.plain)[k]? =some es[k].plain):=by unfold Hid;simp[hk]
  generalize es[k]=x at p0 p1 p2 p3 p4 p5 p6 HI Jy;go_wp2_with fail
  refine(kM x w1 (HI.o.1.aO BB.o.BN) HI.o.2).mono ?_;rintro e w4 ⟨x',rfl,hpl,EO,hnew,ht⟩;have BH:=hdq (BB.o.gH (vs:=[x'.v]) ht (by simpa using EO) (by simpa using hnew));simp only[nAq,cAq]at BH;have EA:=hdq hpl;have LW:Hid (∀k∈x'.v.blocks,w.heap.size<=k):=fun k hk=>Nat.le_trans BB.o.size (hnew k hk);clear hpl EO hnew ht r0 r1 r2 r3 r4 r5 r6 f0 f1 f2 f3 f4 f5 f6 zr p0 p1 p2 p3 p4 p5 p6;obtain⟨r0,r1,r2,r3,r4,r5,r6,⟨f0,f1,f2,f3,f4,f5,f6⟩,zr,_,_⟩:=BH.o.c7 0 rfl;simp only[bB];go_wp2;have Ca:=hdq (BH.o.iD 0 rfl x'.sync x'.thread x'.branch x'.flag x'.v.kind x'.v.num (.slice x'.v.addr x'.v.parts.length x'.v.cap));simp only[sZq]at Ca;obtain⟨s0,s1,s2,s3,s4,s5,s6,_⟩:=Ca.o.c7 0 rfl;refine bodyPost_ret (v:= .tuple #[x'.val,true]) (by simp[results,results197,go_sem,s0,s1,s2,s3,s4,s5,s6,bB]) rfl ?_;exact⟨x',true,rfl,.inl ⟨rfl,by omega,by rw[EA.o];exact Jy.o⟩,Ca.o.fD 1 rfl _ (by simp),LW.o,Ca.o.BN⟩
theorem BD.rowCut{T:List Nat}{w0 w:World}{l:List ai}(h:BD T w0 w l)(i:Nat){e size g n cap:Nat}{xs:List Value}(hi:l[i]? =some (aS e size (.slice (some ⟨g,0,none⟩) n cap) n xs))(m c:Nat)(hm:m<=c)(hc:c<=n):BD T w0 w (l.set i (aS e size (.slice (some ⟨g,0,none⟩) m c) m (xs.take (m*size)))):=by
 obtain⟨f,⟨hf,hb⟩,_,hs⟩:=h.step i hi;subst hf;exact hs w _ _ ⟨rfl,KJ hb m c hm hc rfl (.inl (by simp))⟩ ⟨Touch.refl _ _,fun k hk=> .inl hk⟩
def Dropped(T:List Nat)(w:World)(g:Nat)(es:List ME)(i:Int)(e:Ending)(w':World):Prop:=
 (∃x,0<=i/\es[i.toNat]? =some x/\e= .returned (.tuple #[x.val,true])/\BD T w w' [aQ g (es.eraseIdx i.toNat)])\/
 (¬(0<=i/\i<(es.length:Int))/\e= .returned (.tuple #[ME.zero.val,false])/\BD T w w' [aQ g es])
theorem Drop_q(T:List Nat)(w:World)(g:Nat)(es:List ME)(i:Int)(hL:BD T w w [aQ g es])(hes:es.length<=1048576):Calls prog 199 #[g,i] w (Dropped T w g es i):=by
 obtain⟨qa,qc,hqc1,hqc2,h1⟩:=BD.OM (l:=[]) hL;have HK:=hdq h1;simp only[nAq]at HK;have hbe:=sH;simp only[bB,ME.zero,MT.zero,MT.kind,MT.num,MT.addr,MT.parts,MT.cap,List.length_nil]at hbe;clear h1 hL;go_enter func199,ntmps199
 go_wp2_with fail
 refine ah ?_;intro w1 hw1;have BB:=hdq (HK.o.DN hw1);simp only[nAq,cAq]at BB;generalize hb4:w.heap.size=b4 at BB|-;clear hb4 hw1 HK;obtain⟨q0,q1,KY,LF,zq,_,_⟩:=BB.o.c2 0 rfl;refine(pG g w1 q0).mono ?_;rintro e w' ⟨rfl,rfl⟩;go_wp2_with fail
 refine(OW g _ _ _ i w1 q1).mono ?_;rintro e w' ⟨⟨cc,rfl,hcc⟩,rfl⟩;have D6:=hdq hcc;clear hcc;obtain⟨r0,r1,r2,r3,r4,r5,r6,⟨f0,f1,f2,f3,f4,f5,f6⟩,zr,_,_⟩:=BB.o.c7 2 rfl;cases cc with
 |false=>
  go_wp2;have HL2:=hdq (BB.o.iD 2 rfl 0 0 0 0 0 0 (.slice none 0 0));simp only[sZq,sSq]at HL2;obtain⟨s0,s1,s2,s3,s4,s5,s6,_⟩:=HL2.o.c7 2 rfl;refine bodyPost_ret (v:= .tuple #[ME.zero.val,false]) (by simp[results,results199,go_sem,s0,s1,s2,s3,s4,s5,s6,bB,ME.zero,MT.zero,MT.kind,MT.num,MT.addr,MT.parts,MT.cap]) rfl ?_;refine .inr ⟨fun hx=>?_,rfl,?_⟩
  .have :=D6.o.2 hx
   cases this
  .exact BD.za (l:=[]) (HL2.o.sel [0,1] rfl (by decide))
 |true=>
  obtain⟨hi1,hi2⟩:=D6.o.1 (by simp);obtain⟨k,rfl⟩:=Int.eq_ofNat_of_zero_le hi1;have hk:k<es.length:=by omega
  obtain⟨gr,cap',cur,hv,_⟩:=gD (BB.o.aZ 1 rfl) (by omega);injection hv with hv1 _ hv3
  subst hv1 hv3;obtain⟨b,o,DX,hbb,p0,p1,p2,p3,p4,p5,p6⟩:=(iL (BB.o.aZ 1 rfl)) k hk;injection DX with DX
  injection DX with hbo1 hbo2
  subst hbo1 hbo2;have Jy:Hid (es[k]? =some es[k]):=by unfold Hid;simp[hk]
  generalize es[k]=x at p0 p1 p2 p3 p4 p5 p6 Jy;obtain⟨i0,hi0,CY,CU,CX⟩:=info_parts nD;obtain⟨sa,hsa,hsl2⟩:=kZ underlying70 hi0 (some ⟨gr,0,none⟩) es.length qc (k+1) (by omega) hqc1;have hsl1:=fun W=>qV underlying70 hi0 (some ⟨gr,0,none⟩) es.length qc k (by omega) W;have HSA:=hdq hsa;clear hsa;rw[show(((k+1:Nat)):Int)=(k:Int)+1 by omega]at hsl2;simp only[Nat.zero_add]at p0 p1 p2 p3 p4 p5 p6;have hwk:IntKind.i64.wrap ((k:Int)+1)=(k:Int)+1:=IntWalk.i64_in _ (by omega);go_wp2_with fail
  refine ay ?_;intro w2 hw2;have HL2:=hdq (BB.o.DN hw2);simp only[nAq,cAq]at HL2;generalize hb6:w1.heap.size=b6 at HL2|-;clear hw2 hb6 BB p0 p1 p2 p3 p4 p5 p6 q0 q1 KY LF zq r0 r1 r2 r3 r4 r5 r6 f0 f1 f2 f3 f4 f5 f6 zr hbb;have HLC:=hdq (HL2.o.drew.rowCut 1 rfl k k (Nat.le_refl _) (by omega));simp only[sZq,sSq]at HLC;have HLN:Hid (((aM es).drop ((k+1)*7)).length=(es.length-(k+1))*7):=by
   unfold Hid;rw[List.length_drop,fU,Nat.sub_mul]
  obtain⟨q0,q1,KY,LF,zq,_,_⟩:=HL2.o.c2 0 rfl;go_region_law (first
   |(refine aD _ rfl (.tmp 34) (.tmp 42) 70 rfl 47 i0 _ 7 72 underlying70 hi0 CY CU CX rfl (by decide) (.slice (some ⟨gr,0,none⟩) k k) k ((aM es).take (k*7)) (by first |rfl|simp[Act.eval,Act.put]) (HLC.o.aZ 1 rfl) sa (es.length-(k+1)) (qc-(k+1)) ((aM es).drop ((k+1)*7)) (by first |rfl|simp[Act.eval,Act.put]) HLN.o (vR (lo:=k+1) (HL2.o.drew.aZ 1 rfl) (by rw[CU]) HSA.o) (fun u hu=>qf es u (List.mem_of_mem_drop hu)) (by simp only[maxLen];omega) (by omega) ?_;intro a5 c5 w5 hown hgrow hat;have Ca:=hdq (HLC.o.bG 1 rfl hgrow hown hat);simp only[sSq,sZq]at Ca;clear hown hgrow hat q0 q1 KY LF zq;obtain⟨q0,q1,KY,LF,zq,_,_⟩:=Ca.o.c2 0 rfl))
  all_goals
   have LK:Hid (k+(es.length-(k+1))=(es.eraseIdx k).length/\(aM es).take (k*7)++(aM es).drop ((k+1)*7)=aM (es.eraseIdx k)):=by
    refine⟨?_,?_⟩
    .rw[List.length_eraseIdx_of_lt hk];omega
    .rw[List.eraseIdx_eq_take_drop_succ,iC,qU,rA]
   have Db:=hdq (Ca.o.set 0 rfl 1 (.slice a5 (k+(es.length-(k+1))) c5));simp only[sSq,sZq,sAq]at Db;rw[LK.o.2,LK.o.1]at Db;rw[LK.o.1];refine Hid.o ?_;generalize LM:w5.setCell ⟨g,1,none⟩ (.slice a5 (es.eraseIdx k).length c5)=w6 at Db|-;refine hdq ?_;clear LM Ca HLC HL2 q0 q1 KY LF zq hsl1 hsl2 hwk LK;obtain⟨r0,r1,r2,r3,r4,r5,r6,⟨f0,f1,f2,f3,f4,f5,f6⟩,zr,_,_⟩:=Db.o.c7 2 rfl;obtain⟨y0,y1,y2,y3,y4,y5,y6,_,zy,_,_⟩:=Db.o.c7 3 rfl;have n1:=Db.o.ne 2 3 rfl rfl (by decide);have n2:=Ne.symm n1;go_wp2;have C8:=hdq (Db.o.iD 2 rfl x.sync x.thread x.branch x.flag x.v.kind x.v.num (.slice x.v.addr x.v.parts.length x.v.cap));simp only[sZq,sSq]at C8;obtain⟨s0,s1,s2,s3,s4,s5,s6,_⟩:=C8.o.c7 2 rfl;refine bodyPost_ret (v:= .tuple #[x.val,true]) (by simp[results,results199,go_sem,s0,s1,s2,s3,s4,s5,s6,bB]) rfl ?_;exact .inl ⟨x,by omega,Jy.o,rfl,BD.za (l:=[]) (C8.o.sel [0,1] rfl (by decide))⟩
end Go.Proofs.YtddnnapoaonmjaaGreatDoor
