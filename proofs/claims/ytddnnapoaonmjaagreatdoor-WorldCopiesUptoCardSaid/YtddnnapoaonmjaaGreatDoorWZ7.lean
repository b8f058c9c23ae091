/-
  Texts of WorldCopies, laid together by program.
-/
import Derived.Test.YtddnnapoaonmjaaGreatDoorWZ6
import Derived.Laws.StructEq
namespace Go.Proofs.YtddnnapoaonmjaaGreatDoor
open Go.RowKit Go.Shelf Go.Proofs.Tryz
set_option maxRecDepth 100000
set_option maxHeartbeats 8000000
set_option linter.unusedVariables false
set_option linter.unusedSimpArgs false
section
open Go.RowKit
structure ME where
 sync:Int
 thread:Int
 branch:Int
 flag:Int
 v:MT
structure PE where
 sync:Int
 thread:Int
 branch:Int
 flag:Int
 v:MT.PT
namespace ME
def plain(e:ME):PE:=⟨e.sync,e.thread,e.branch,e.flag,e.v.plain⟩
def cells(e:ME):List Value:=[.int .i64 e.sync,.int .i64 e.thread,.int .i64 e.branch,.int .i64 e.flag,.int .i64 e.v.kind,.int .i64 e.v.num,.slice e.v.addr e.v.parts.length e.v.cap]
def val(e:ME):Value:= .agg #[e.sync,e.thread,e.branch,e.flag,e.v.kind,e.v.num,.slice e.v.addr e.v.parts.length e.v.cap]
theorem bH(e:ME):e.cells.length=7:=rfl
def zero:ME:=⟨0,0,0,0,MT.zero⟩
end ME
theorem bB(e:ME):e.val= .agg #[e.sync,e.thread,e.branch,e.flag,e.v.kind,e.v.num,.slice e.v.addr e.v.parts.length e.v.cap]:=rfl
def PE.Ok(p:PE):Prop:=0<=p.sync/\0<=p.thread/\0<=p.branch/\0<=p.flag/\(p.v= .mk 0 0 []\/p.v.Ok)
theorem MT.PT.Nu{k n:Int}{l:List MT.PT}(h:(MT.PT.mk k n l).Ok):k≠0:=by
 rintro rfl;have :=h.2.1;simp[Shape]at this
theorem PE.Ok.nodes{p:PE}(h:p.Ok):p.v.nodes<=256:=by
 rcases h.2.2.2.2 with h|h
 .rw[h];simp[MT.PT.nodes,MT.PT.aV]
 .exact h.1
def aM(l:List ME):List Value:=l.flatMap ME.cells
theorem fU(l:List ME):(aM l).length=l.length*7:=by
 induction l with
 |nil=>rfl
 |cons x l ih=>simp only[aM,List.flatMap_cons,List.length_append,ME.bH,List.length_cons]at ih|-;omega
theorem iC(a b:List ME):aM (a++b)=aM a++aM b:=by simp[aM]
theorem qU(l:List ME)(i:Nat):aM (l.take i)=(aM l).take (i*7):=by
 induction l generalizing i with
 |nil=>simp[aM]
 |cons x l ih=>
  cases i with
  |zero=>simp[aM]
  |succ i=>
   simp only[List.take_succ_cons];have h1:aM (x::l)=x.cells++aM l:=by simp[aM]
   have h2:aM (x::l.take i)=x.cells++aM (l.take i):=by simp[aM]
   rw[h1,h2,ih i,List.take_append,List.take_of_length_le (l:=x.cells) (by rw[ME.bH];omega),ME.bH,show(i+1)*7-7=i*7 by omega]
theorem rA(l:List ME)(i:Nat):aM (l.drop i)=(aM l).drop (i*7):=by
 induction l generalizing i with
 |nil=>simp[aM]
 |cons x l ih=>
  cases i with
  |zero=>simp[aM]
  |succ i=>
   simp only[List.drop_succ_cons];have h1:aM (x::l)=x.cells++aM l:=by simp[aM]
   rw[h1,ih i,List.drop_append,List.drop_of_length_le (l:=x.cells) (by rw[ME.bH];omega),ME.bH,List.nil_append,show(i+1)*7-7=i*7 by omega]
theorem jT(l:List ME)(i:Nat)(hi:i<l.length)(j:Nat)(hj:j<7):(aM l)[i*7+j]? =l[i].cells[j]? :=by
 induction l generalizing i with
 |nil=>simp at hi
 |cons x l ih=>
  simp only[aM,List.flatMap_cons];cases i with
  |zero=>
   rw[List.getElem?_append_left (by simp[ME.bH];omega)];simp
  |succ i=>
   rw[List.getElem?_append_right (by simp[ME.bH];omega)];have :=ih i (by simpa using hi);simp only[ME.bH,List.getElem_cons_succ];rw[show(i+1)*7+j-7=i*7+j from by omega];exact this
theorem qf(l:List ME):∀u∈aM l,u.oneCell'=true:=by
 intro u hu;obtain⟨t,_,hu⟩:=List.mem_flatMap.1 hu;simp only[ME.cells,List.mem_cons,List.not_mem_nil,or_false]at hu;rcases hu with rfl|rfl|rfl|rfl|rfl|rfl|rfl<;>rfl
def yX(w:World)(b o:Nat)(e:ME):Prop:=w.cell? ⟨b,o,none⟩=some (.int .i64 e.sync)/\w.cell? ⟨b,o+1,none⟩=some (.int .i64 e.thread)/\w.cell? ⟨b,o+2,none⟩=some (.int .i64 e.branch)/\w.cell? ⟨b,o+3,none⟩=some (.int .i64 e.flag)/\
 w.cell? ⟨b,o+4,none⟩=some (.int .i64 e.v.kind)/\w.cell? ⟨b,o+5,none⟩=some (.int .i64 e.v.num)/\w.cell? ⟨b,o+6,none⟩=some (.slice e.v.addr e.v.parts.length e.v.cap)
theorem yX.touch{w w':World}{b o:Nat}{e:ME}(h:yX w b o e)(ht:Touch [] w w'):yX w' b o e:=
 ⟨ht.cellOf h.1,ht.cellOf h.2.1,ht.cellOf h.2.2.1,ht.cellOf h.2.2.2.1,ht.cellOf h.2.2.2.2.1,ht.cellOf h.2.2.2.2.2.1,ht.cellOf h.2.2.2.2.2.2⟩
def fo(w:World)(a:Option Addr)(l:List ME):Prop:=∀i (hi:i<l.length),∃b o,a=some ⟨b,o,none⟩/\b<w.heap.size/\yX w b (o+i*7) l[i]
theorem fo.touch{w w':World}{a:Option Addr}{l:List ME}(h:fo w a l)(ht:Touch [] w w'):fo w' a l:=fun i hi=>by
 obtain⟨b,o,ha,hb,he⟩:=h i hi;exact⟨b,o,ha,Nat.lt_of_lt_of_le hb ht.size,he.touch ht⟩
theorem fo.src{w:World}{a:Option Addr}{l:List ME}(h:fo w a l):l.length=0\/∃ad,a=some ad/\∀j u,(aM l)[j]? =some u->w.cell? (ad.add j)=some u:=by
 by_cases hl:l.length=0
 .exact .inl hl
 .obtain⟨b,o,rfl,_,_⟩:=h 0 (by omega)
  refine .inr ⟨_,rfl,fun j u hu=>?_⟩;have hlen:=fU l;obtain⟨hj,_⟩:=List.getElem?_eq_some_iff.1 hu;obtain⟨b',o',he,_,hc⟩:=h (j / 7) (by omega);injection he with he
  injection he with h1 h2
  subst h1 h2;have hg:=jT l (j / 7) (by omega) (j % 7) (by omega);rw[show j / 7*7+j % 7=j by omega,hu]at hg;rw[Addr.add_lit,show o+j=o+j / 7*7+j % 7 by omega];obtain⟨c0,c1,c2,c3,c4,c5,c6⟩:=hc;generalize l[j / 7]=e at *;have hm:j % 7=0\/j % 7=1\/j % 7=2\/j % 7=3\/j % 7=4\/j % 7=5\/j % 7=6:=by omega
  rcases hm with hm|hm|hm|hm|hm|hm|hm<;>rw[hm]at hg|- <;>simp[ME.cells]at hg<;>subst hg<;>assumption
theorem uU{w:World}{e g n cap:Nat}{l:List ME}(hn:l.length=n)(h:dZ w e 7 (.slice (some ⟨g,0,none⟩) n cap) n (aM l)):fo w (some ⟨g,0,none⟩) l:=by
 subst hn;intro i hi;have hl:=fU l;have hc:∀q,q<7->w.cell? ⟨g,0+i*7+q,none⟩=l[i].cells[q]? :=fun q hq=>by
  have hlt:i*7+q<(aM l).length:=by omega
  rw[Nat.zero_add,eT h _ hlt,<-jT l i hi q hq,List.getElem?_eq_getElem hlt]
 exact⟨g,0,rfl,lY h g (by simp[sb,Value.ownBlock]),hc 0 (by omega),hc 1 (by omega),hc 2 (by omega),hc 3 (by omega),hc 4 (by omega),hc 5 (by omega),hc 6 (by omega)⟩
theorem iL{w:World}{e cap:Nat}{a:Option Addr}{l:List ME}(h:dZ w e 7 (.slice a l.length cap) l.length (aM l)):fo w a l:=by
 by_cases hl:l.length=0
 .intro i hi;omega
 .obtain⟨g,cap',cur,hv,_⟩:=gD h (by omega)
  injection hv with h1 _ h3
  subst h1 h3;exact uU rfl h
section
variable {T:List Nat} {w0 w w':World} {l:List ai} {t1 t2 t12:ai}
theorem BD.split(h:BD T w0 w (l++[t12]))(hs:∀f,t12.holds w f->∃f1 f2,t1.holds w f1/\t2.holds w f2/\(∀k∈f1,k∈f)/\(∀k∈f2,k∈f)/\∀k∈f1,k∉f2):BD T w0 w (l++[t1,t2]):=by
 obtain⟨hb,F,h1,h2⟩:=h;have e1:(l++[t12])[l.length]? =some t12:=by simp
 obtain⟨a1,a2⟩:=h1 _ _ e1;obtain⟨f1,f2,b1,b2,s1,s2,dj⟩:=hs _ a1;refine⟨hb,fun i=>if i=l.length then f1 else if i=l.length+1 then f2 else F i,?_,?_⟩
 .intro i t hi
  have hlt:=(List.getElem?_eq_some_iff.1 hi).1;simp only[List.length_append,List.length_cons,List.length_nil]at hlt;by_cases hil:i=l.length
  .subst hil
   simp at hi
   subst hi;simp only[if_true];exact⟨b1,fun k hk=>a2 k (s1 k hk)⟩
  .by_cases hil2:i=l.length+1
   .subst hil2
    simp at hi
    subst hi;simp only[if_neg hil,if_true];exact⟨b2,fun k hk=>a2 k (s2 k hk)⟩
   .simp only[if_neg hil,if_neg hil2]
    exact h1 i t (by rw[List.getElem?_append_left (by omega)]at hi|-;exact hi)
 .intro i j hi hj hij x hx hx2
  dsimp only at hx hx2;simp only[List.length_append,List.length_cons,List.length_nil]at hi hj;have hold:∀m,m<l.length->∀k∈F m,k∉F l.length:=fun m hm k hk=>h2 m l.length (by simp;omega) (by simp) (by omega) k hk;by_cases hil:i=l.length
  .rw[if_pos hil]at hx
   rw[if_neg (by omega)]at hx2;by_cases hj2:j=l.length+1
   .rw[if_pos hj2]at hx2;exact dj x hx hx2
   .rw[if_neg hj2]at hx2;exact hold j (by omega) x hx2 (s1 x hx)
  .rw[if_neg hil]at hx
   by_cases hi2:i=l.length+1
   .rw[if_pos hi2]at hx
    by_cases hjl:j=l.length
    .rw[if_pos hjl]at hx2;exact dj x hx2 hx
    .rw[if_neg hjl,if_neg (by omega)]at hx2;exact hold j (by omega) x hx2 (s2 x hx)
   .rw[if_neg hi2]at hx
    by_cases hjl:j=l.length
    .rw[if_pos hjl]at hx2;exact hold i (by omega) x hx (s1 x hx2)
    .rw[if_neg hjl]at hx2
     by_cases hj2:j=l.length+1
     .rw[if_pos hj2]at hx2;exact hold i (by omega) x hx (s2 x hx2)
     .rw[if_neg hj2]at hx2;exact h2 i j (by simp;omega) (by simp;omega) hij x hx hx2
end
def aQ(g:Nat)(es:List ME):ai where
 holds w fp:=∃v,fp=g::sb v/\Cg w g 277 #[true,v]/\dZ w 47 7 v es.length (aM es)
 keep:=fun⟨v,h1,h2,h3⟩ he=>⟨v,h1,h2.keep (he g (by simp[h1])),nT h3 (fun k hk=>he k (by simp[h1,hk]))⟩
 lt:=fun⟨v,h1,h2,h3⟩ k hk=>by
  subst h1;rcases List.mem_cons.1 hk with rfl|hk
  .exact h2.lt
  .exact lY h3 k hk
section
variable {T:List Nat} {w0 w w':World} {l:List ai} {g:Nat} {es:List ME} {v:Value}
theorem BD.OM(h:BD T w0 w (l++[aQ g es])):∃a cap,es.length<=cap/\cap<=maxLen/\BD T w0 w (l++[Proofs.YtddnnapoaonmjaaGreatDoor.box g 277 #[true,.slice a es.length cap],aS 47 7 (.slice a es.length cap) es.length (aM es)]):=by
 obtain⟨f,⟨v,h1,h2,h3⟩,_⟩:=h.get l.length (t:=aQ g es) (by simp);obtain⟨a,cap,rfl,hc1,hc2⟩:=mP h3;refine⟨a,cap,hc1,hc2,h.split ?_⟩;rintro f ⟨v',e1,e2,e3⟩;have hv:v'= .slice a es.length cap:=by
  unfold Cg at h2 e2;rw[h2]at e2;injection e2 with e2
  injection e2 with e2 _
  simp at e2
  exact e2.symm
 subst hv;refine⟨[g],sb (.slice a es.length cap),⟨rfl,e2⟩,⟨rfl,e3⟩,by simp[e1],fun k hk=>by simp[e1,hk],?_⟩;intro k hk hk2;simp at hk
 subst hk;rcases e3.2 with ⟨he,_⟩|⟨g',cap',cur,he,hg,_⟩
 .rw[he]at hk2;simp[sb,Value.ownBlock]at hk2
 .rw[he]at hk2
  have :k=g':=by simpa[sb,Value.ownBlock]using hk2
  subst this;unfold Cg at e2;rw[e2]at hg;injection hg with hg
  injection hg with _ ht
  exact absurd ht (by decide)
theorem BD.za(h:BD T w0 w (l++[Proofs.YtddnnapoaonmjaaGreatDoor.box g 277 #[true,v],aS 47 7 v es.length (aM es)])):BD T w0 w (l++[aQ g es]):=
 h.merge (fun f1 f2 ⟨a1,a2⟩ ⟨b1,b2⟩=>⟨v,by rw[a1,b1];rfl,a2,b2⟩)
theorem BD.q0(h:BD T w0 w l)(i:Nat)(hi:l[i]? =some (aQ g es)):∃a cap,Cg w g 277 #[true,.slice a es.length cap]/\es.length<=cap/\cap<=maxLen/\dZ w 47 7 (.slice a es.length cap) es.length (aM es):=by
 obtain⟨f,⟨v,h1,h2,h3⟩,_⟩:=h.get i hi;obtain⟨a,cap,rfl,hc1,hc2⟩:=mP h3;exact⟨a,cap,h2,hc1,hc2,h3⟩
theorem BD.c7{b t:Nat}(h:BD T w0 w l)(i:Nat){x0 x1 x2 x3 x4 x5 x6:Value}(hi:l[i]? =some (Proofs.YtddnnapoaonmjaaGreatDoor.box b t #[x0,x1,x2,x3,x4,x5,x6])):w.cell? ⟨b,0,none⟩=some x0/\w.cell? ⟨b,1,none⟩=some x1/\w.cell? ⟨b,2,none⟩=some x2/\w.cell? ⟨b,3,none⟩=some x3/\w.cell? ⟨b,4,none⟩=some x4/\w.cell? ⟨b,5,none⟩=some x5/\w.cell? ⟨b,6,none⟩=some x6/\
  (w.frozen? ⟨b,0,none⟩=false/\w.frozen? ⟨b,1,none⟩=false/\w.frozen? ⟨b,2,none⟩=false/\w.frozen? ⟨b,3,none⟩=false/\w.frozen? ⟨b,4,none⟩=false/\w.frozen? ⟨b,5,none⟩=false/\w.frozen? ⟨b,6,none⟩=false)/\b<w.heap.size/\b<w.heap.size+1/\b<w.heap.size+1+1:=by
 have hb:=h.box i hi;have hl:=hb.lt;exact⟨hb.cell 0,hb.cell 1,hb.cell 2,hb.cell 3,hb.cell 4,hb.cell 5,hb.cell 6,⟨hb.frozen 0,hb.frozen 1,hb.frozen 2,hb.frozen 3,hb.frozen 4,hb.frozen 5,hb.frozen 6⟩,hl,ltq hl,ltq (ltq hl)⟩
end
end
section
def Says(p:Prop)(w:World)(e:Ending)(w':World):Prop:=(∃c:Bool,e= .returned (.bool c)/\(c=true↔p))/\w=w'
theorem pG(g:Nat)(w:World)(hc:w.cell? ⟨g,0,none⟩=some (.bool true)):Calls prog 219 #[g] w fun e w'=>e= .returned (.bool false)/\w=w':=by
 go_enter func219,ntmps219
 go_wp2;all_goals go_ret
 exact⟨rfl,rfl⟩
theorem WT(g:Nat)(w:World)(hc:w.cell? ⟨g,0,none⟩=some (.bool false)):Calls prog 219 #[g] w fun e w'=>e= .returned (.bool true)/\w=w':=by
 go_enter func219,ntmps219
 go_wp2;all_goals go_ret
 exact⟨rfl,rfl⟩
theorem XG(w:World):Calls prog 219 #[.pointer none] w fun e w'=>e= .returned (.bool true)/\w=w':=by
 go_enter func219,ntmps219
 go_wp2;all_goals go_ret
 exact⟨rfl,rfl⟩
theorem ML(g n cap:Nat)(a:Option Addr)(w:World)(hc:w.cell? ⟨g,1,none⟩=some (.slice a n cap)):Calls prog 263 #[g] w fun e w'=>e= .returned (.int .i64 (n:Int))/\w=w':=by
 go_enter func263,ntmps263
 go_wp2;all_goals go_ret
 exact⟨rfl,rfl⟩
theorem OW(g n cap:Nat)(a:Option Addr)(i:Int)(w:World)(hc:w.cell? ⟨g,1,none⟩=some (.slice a n cap)):Calls prog 261 #[g,i] w (Says (0<=i/\i<(n:Int)) w):=by
 go_enter func261,ntmps261
 go_wp2;all_goals go_ret
 all_goals exact⟨⟨_,rfl,by simp;omega⟩,rfl⟩
theorem Bj(e:ME)(w:World):Calls prog 284 #[e.val] w fun en w'=>en= .returned (.agg #[e.sync,e.thread,e.branch,e.flag])/\Touch [] w w':=by
 have z1:w.heap.size<w.heap.size+1:=by omega
 have z2:w.heap.size<w.heap.size+1+1:=by omega
 simp only[bB];go_enter func284,ntmps284
 go_wp2;refine bodyPost_ret (v:= .agg #[e.sync,e.thread,e.branch,e.flag]) (by simp[results,results284,go_sem]) rfl ?_;exact⟨rfl,((Touch.refl [] w).alloc _).alloc _⟩
section
variable (a b c d:Int) (W:World)
theorem idx0:(Instr.index 332 (.agg #[a,b,c,d]) (.int .i64 0)).run prog W= .ok (.int .i64 a) W:=by kernel_rfl
theorem idx1:(Instr.index 332 (.agg #[a,b,c,d]) (.int .i64 1)).run prog W= .ok (.int .i64 b) W:=by kernel_rfl
theorem idx2:(Instr.index 332 (.agg #[a,b,c,d]) (.int .i64 2)).run prog W= .ok (.int .i64 c) W:=by kernel_rfl
theorem idx3:(Instr.index 332 (.agg #[a,b,c,d]) (.int .i64 3)).run prog W= .ok (.int .i64 d) W:=by kernel_rfl
end
attribute [local go_sem] idx0 idx1 idx2 idx3
def ME.nth(e:ME)(j:Nat):Int:=if j=0 then e.sync else if j=1 then e.thread else if j=2 then e.branch else e.flag
theorem MQ(e:ME)(w:World)(he:e.v.In w):Calls prog 262 #[e.val] w (aI e.plain.Ok w):=by
 have HN:=hdq (Bj e);have HC:=hdq (fun W (hW:Touch [] w W)=>jH e.v W (he.aO hW));simp only[bB,eG]at HN HC|-;have z1:w.heap.size<w.heap.size+1:=by omega
 go_enter func262,ntmps262
 go_wp2_with fail
 refine ah ?_;intro w1 hw1;have BB:=hdq ((BD.nil' w).DN hw1);simp only[nAq,cAq]at BB;refine(HN.o w1).mono ?_;rintro en w2 ⟨rfl,ht⟩;have HL2:=hdq (BB.o.touch ht);generalize hb1:w.heap.size=b1 at HL2|-;go_wp2_with fail
 go_loopw [7] (fun x wr=>∃j:Nat,j<=4/\x= .int .i64 (j:Int)/\Hid (∀i,i<j->0<=e.nth i)/\Hid (BD [] w wr [box b1 47 #[e.sync,e.thread,e.branch,e.flag,e.v.kind,e.v.num,.slice e.v.addr e.v.parts.length e.v.cap]])) (fun x _=>4-(intOf x).toNat)
 case atStart=>exact⟨0,by omega,rfl,fun i hi=>by omega,HL2⟩
 case round=>
  obtain⟨j,hj,rfl,HD,HK⟩:=hrel;have hcase:j=0\/j=1\/j=2\/j=3\/j=4:=by omega
  rcases hcase with rfl|rfl|rfl|rfl|rfl
  .have hjj:(0:Int)<4:=by decide
   by_cases hneg:e.sync<0
   .go_wp2
    go_ret
    exact aI.no (fun h=>by have :=h.1;simp only[ME.plain]at this;omega) HK.o.BN
   .go_wp2
    go_roundw
    case rel=>exact⟨0+1,by omega,by go_num,fun i hi=>by
     by_cases h:i<0
     .exact HD.o i h
     .obtain rfl:i=0:=by omega
      simp[ME.nth];omega,HK⟩
    case measure=>simp[intOf]
  .have hjj:(1:Int)<4:=by decide
   by_cases hneg:e.thread<0
   .go_wp2
    go_ret
    exact aI.no (fun h=>by have :=h.2.1;simp only[ME.plain]at this;omega) HK.o.BN
   .go_wp2
    go_roundw
    case rel=>exact⟨1+1,by omega,by go_num,fun i hi=>by
     by_cases h:i<1
     .exact HD.o i h
     .obtain rfl:i=1:=by omega
      simp[ME.nth];omega,HK⟩
    case measure=>simp[intOf]
  .have hjj:(2:Int)<4:=by decide
   by_cases hneg:e.branch<0
   .go_wp2
    go_ret
    exact aI.no (fun h=>by have :=h.2.2.1;simp only[ME.plain]at this;omega) HK.o.BN
   .go_wp2
    go_roundw
    case rel=>exact⟨2+1,by omega,by go_num,fun i hi=>by
     by_cases h:i<2
     .exact HD.o i h
     .obtain rfl:i=2:=by omega
      simp[ME.nth];omega,HK⟩
    case measure=>simp[intOf]
  .have hjj:(3:Int)<4:=by decide
   by_cases hneg:e.flag<0
   .go_wp2
    go_ret
    exact aI.no (fun h=>by have :=h.2.2.2.1;simp only[ME.plain]at this;omega) HK.o.BN
   .go_wp2
    go_roundw
    case rel=>exact⟨3+1,by omega,by go_num,fun i hi=>by
     by_cases h:i<3
     .exact HD.o i h
     .obtain rfl:i=3:=by omega
      simp[ME.nth];omega,HK⟩
    case measure=>simp[intOf]
  .have h0:=HD.o 0 (by omega)
   have h1:=HD.o 1 (by omega);have h2:=HD.o 2 (by omega);have h3:=HD.o 3 (by omega);simp[ME.nth]at h0 h1 h2 h3
   have CW:Hid (0<=e.sync/\0<=e.thread/\0<=e.branch/\0<=e.flag):=⟨h0,h1,h2,h3⟩;obtain⟨x0,x1,x2,x3,x4,x5,x6,_,zx,_,_⟩:=HK.o.c7 0 rfl;have EA:=hdq (MT.JX e.v);by_cases hk:e.v.kind=0
   .have hk':(e.v.kind==0)=true:=by simpa using hk
    have HKK:=hdq hk;go_wp2;all_goals go_ret
    all_goals refine⟨_,rfl,?_,HK.o.BN⟩
    all_goals simp only[PE.Ok,ME.plain]
    all_goals rw[EA.o]
    all_goals have hno:¬(MT.PT.mk e.v.kind e.v.num (e.v.parts.map MT.plain)).Ok:=fun h=>MT.PT.Nu h HKK.o
    all_goals have hnn:=CW.o
    all_goals have e1:(MT.PT.mk e.v.kind e.v.num (e.v.parts.map MT.plain)=MT.PT.mk 0 0 [])↔(e.v.num=0/\e.v.parts.length=0):=by simp[HKK.o]
    all_goals rw[e1]
    all_goals simp only[hno,or_false,hnn,true_and]
    all_goals first |(simp;omega)|simp[*]
   .have hk':(e.v.kind==0)=false:=by simpa using hk
    have HKK:=hdq hk;go_wp2_with fail
    refine(HC.o _ HK.o.BN).mono ?_;rintro en w3 ⟨⟨z,rfl,hz,hzi⟩,ht⟩;have BF:=hdq (HK.o.touch ht);have HZ:=hdq hzi;go_wp2;go_ret
    refine⟨_,rfl,?_,BF.o.BN⟩;simp only[PE.Ok,ME.plain,beq_iff_eq];rw[HZ.o,EA.o];have hnn:=CW.o;constructor
    .intro h
     exact⟨hnn.1,hnn.2.1,hnn.2.2.1,hnn.2.2.2,.inr h⟩
    .rintro⟨_,_,_,_,h|h⟩
     .simp at h;exact absurd h.1 HKK.o
     .exact h
def Ny(x:ME)(w:World)(e:Ending)(w':World):Prop:=∃x':ME,e= .returned x'.val/\x'.plain=x.plain/\x'.v.In w'/\(∀k∈x'.v.blocks,w.heap.size<=k)/\Touch [] w w'
theorem kM(x:ME)(w:World)(he:x.v.In w)(hn:x.v.nodes<=256):Calls prog 252 #[x.val] w (Ny x w):=by
 have HC:=hdq (fun W (hW:Touch [] w W)=>qG x.v W (he.aO hW) hn);simp only[bB,eG]at HC|-;have z1:w.heap.size<w.heap.size+1:=by omega
 have z2:w.heap.size<w.heap.size+1+1:=by omega
 go_enter func252,ntmps252
 go_wp2_with fail
 refine ah ?_;intro w1 hw1;have BB:=hdq ((BD.nil' w).DZ hw1);simp only[nAq,cAq]at BB;refine(HC.o _ BB.o.BN).mono ?_;rintro en w2 ⟨t',rfl,hpl,hin,hnew,ht⟩;have HL2:=hdq (BB.o.gH (vs:=[t']) ht (by simpa using hin) (by simpa using hnew));simp only[nAq,cAq]at HL2;have LW:Hid (∀k∈t'.blocks,w.heap.size<=k):=fun k hk=>Nat.le_trans BB.o.size (hnew k hk);have EA:=hdq hpl;generalize hb2:w.heap.size+1=b2 at HL2|-;generalize hb1:w.heap.size=b1 at HL2|-;obtain⟨x0,x1,x2,x3,x4,x5,x6,⟨f0,f1,f2,f3,f4,f5,f6⟩,zx,_,_⟩:=HL2.o.c7 0 rfl;obtain⟨y0,y1,y2,y3,y4,y5,y6,⟨g0,g1,g2,g3,g4,g5,g6⟩,zy,_,_⟩:=HL2.o.c7 1 rfl;have n1:=HL2.o.ne 0 1 rfl rfl (by decide);have n2:=Ne.symm n1;simp only[eG];go_wp2;have BF:=hdq (((HL2.o.set 0 rfl 4 (.int .i64 t'.kind)).set 0 rfl 5 (.int .i64 t'.num)).set 0 rfl 6 (.slice t'.addr t'.parts.length t'.cap));simp only[sSq,sZq,sAq]at BF;have BH:=hdq (((((((BF.o.set 1 rfl 0 (.int .i64 x.sync)).set 1 rfl 1 (.int .i64 x.thread)).set 1 rfl 2 (.int .i64 x.branch)).set 1 rfl 3 (.int .i64 x.flag)).set 1 rfl 4 (.int .i64 t'.kind)).set 1 rfl 5 (.int .i64 t'.num)).set 1 rfl 6 (.slice t'.addr t'.parts.length t'.cap));simp only[sSq,sZq,sAq]at BH;obtain⟨q0,q1,q2,q3,q4,q5,q6,_⟩:=BH.o.c7 1 rfl;refine bodyPost_ret (v:=(ME.mk x.sync x.thread x.branch x.flag t').val) (by simp[results,results252,go_sem,q0,q1,q2,q3,q4,q5,q6,bB]) rfl ?_;exact⟨_,rfl,by simp only[ME.plain,EA.o],BH.o.fD 2 rfl t' (by simp),LW.o,BH.o.BN⟩
end
theorem Ml{P:Program}{ops:Array Oper}{Q:Exit->Act->World->Prop}{md:Region.Mode}{S:World->Prop}{i:Nat}{oi:Oper}{v:Value}{d:Option Tmp}{fuel:Nat}{listed:Array Bool}{a:Act}{w:World}(hi:ops[i]? =some oi)(hd:oi.dst=d)(hs:Region.noSelect ops=true)(hf:Region.free md ops listed i=true)(hr:(Region.ready md ops listed).contains i=true)(hQ:∀c a w,Q (.panic c) (a.put d v) w->Q (.panic c) a w)(hy:YieldsIf P ops S oi v a)(hS:S w)(h:wpAnyH P md ops Q S fuel (listed.setIfInBounds i true) (a.put d v) w):wpAnyH P md ops Q S (fuel+1) listed a w:=by
 subst hd;exact wpAnyH_take hi hs hf hr hQ hy hS h
theorem PE.eq_iff(x y:ME):x.plain=y.plain↔(x.sync=y.sync/\x.thread=y.thread/\x.branch=y.branch/\x.flag=y.flag)/\x.v.plain=y.v.plain:=by
 obtain⟨a,b,c,d,v⟩:=x;obtain⟨a',b',c',d',v'⟩:=y;simp only[ME.plain,PE.mk.injEq,and_assoc]
end Go.Proofs.YtddnnapoaonmjaaGreatDoor
