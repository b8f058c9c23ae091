/-
  Texts of FirePlays, laid together by program.
-/
import Derived.Test.YtegejdlglonflaaGreatDoorWZ1
import Derived.Sort.QuietIn
import Derived.RangeFuncCalls
namespace Go.Proofs.YtegejdlglonflaaGreatDoor
open Go.RowKit Go.Shelf Go.Proofs.Tryz
set_option maxRecDepth 100000
set_option maxHeartbeats 8000000
set_option linter.unusedVariables false
set_option linter.unusedSimpArgs false
section
open Go.RowKit
theorem jl(z:Value)(k:Nat):(Builtin.zeroCells #[z] k)=(List.replicate k z).toArray:=by
 apply Array.ext
 .simp[Builtin.zeroCells]
 .intro i h1 h2
  simp[Builtin.zeroCells,Nat.mod_one]
theorem nS{P:Program}(w:World)(t tn ty e:TypeId)(i:TypeInfo)(z:Value)(kq kn:IntKind)(ht:P.underlying t=some (.slice e))(htn:P.underlying tn=some (.int kn))(hi:P.info? e=some i)(hz:i.zero=some z)(hsize:i.size=1)(hby:i.bytes=8)(hzs:z.cells=#[z])(h1:z.oneCell'=true)(v:Value)(n:Nat)(xs:List Value)(hown:w.ownsRow 0 e 1 v n xs)(k:Nat)(hk:n+k<=1048576):
  ∃v' w',(Builtin.append_ #[t,tn] ty #[v,.int kq (k:Int)]).run P w= .ok v' w'/\w'.ownsRow 0 e 1 v' (n+k) (xs++List.replicate k z)/\w.grownBy w' v.ownBlock/\
   (v'.ownBlock=v.ownBlock\/v'.ownBlock=some w.heap.size):=by
 have hw:IntKind.i64.wrap (k:Int)=k:=by rw[IntKind.wrap_i64];omega
 have hneg:¬((k:Int)<0):=by omega
 have h48i:¬(281474976710656<(k:Int)*8):=by omega
 have hxl:xs.length=n:=by simpa using hown.1
 have grown:∀(old:Nat),old<n+k->∀(row:Option Nat),
   (w.drew.alloc (.cells (xs.toArray++Builtin.zeroCells z.cells k++Builtin.zeroCells z.cells (grownCap w (n+k) old e-(n+k))) e)).ownsRow 0 e 1
    (.slice (some ⟨w.heap.size,0,none⟩) (n+k) (grownCap w (n+k) old e)) (n+k) (xs++List.replicate k z)/\
   w.grownBy (w.drew.alloc (.cells (xs.toArray++Builtin.zeroCells z.cells k++Builtin.zeroCells z.cells (grownCap w (n+k) old e-(n+k))) e)) row:=by
  intro old ho row;have hge:=grownCap_ge w (n+k) old e;have hcm:grownCap w (n+k) old e<=maxLen:=grownCap_le_maxLen w (n+k) old e (by simp only[maxLen];omega);refine⟨⟨by simp[hxl],.inr ⟨w.heap.size,_,_,rfl,Nat.zero_le _,heap_alloc_new w.drew _,hge,hcm,?_,?_⟩⟩,⟨rfl,rfl,rfl,by simp,fun k hk _=>Below.heap_alloc w.drew _ k hk⟩⟩
  .simp only[hzs,jl,Array.size_append,List.size_toArray,List.length_replicate,hxl]
   omega
  .simp only[hzs,jl,Array.toList_append]
   rw[List.take_left' (by simp[hxl])]
 rcases hown.2 with ⟨rfl,rfl⟩|⟨g,cap,cur,rfl,hbg,hg,hnc,hcm,hcs,htake⟩
 .have hx:xs=[]:=List.eq_nil_of_length_eq_zero hxl
  subst hx;by_cases hm:k=0
  .subst hm
   refine⟨.slice none 0 0,w,?_,World.ownsRow_nil w 0 e 1,World.grownBy.refl w _,.inl rfl⟩;simp[Builtin.append_,run_underlying ht,run_underlying htn,sizeOf,typeInfo,hi,asInt,asIntOf,IntKind.wrap_i64]
  .have hr:=Lib.run_append_nil_zeros (P:=P) w t tn ty e i z kq kn ht htn hi hz k (by omega) (by omega) (by omega) (by rw[hby];omega)
   have hgr:=grown 0 (by omega) (Value.ownBlock (.slice none 0 0));simp only[Nat.zero_add,nAq,Array.empty_append]at hgr|-;exact⟨_,_,hr,hgr.1,hgr.2,.inr rfl⟩
 .by_cases hroom:n+k<=cap
  .have hrep:∀u∈List.replicate k z,u.oneCell'=true:=fun u hu=>by rw[List.eq_of_mem_replicate hu];exact h1
   have hst:=run_storeCells_at P g n e (List.replicate k z) 0 cur w hg (by simp;omega) hrep;simp only[Nat.add_zero]at hst;have hr:(Builtin.append_ #[t,tn] ty #[.slice (some ⟨g,0,none⟩) n cap,.int kq (k:Int)]).run P w= .ok (.slice (some ⟨g,0,none⟩) (n+k) cap) (w.setRow g (cur.toList.take n++List.replicate k z++cur.toList.drop (n+k)).toArray):=by
    by_cases hm:k=0
    .subst hm
     have hself:=setRow_self w g cur e (0,0) hg;simp[Builtin.append_,run_underlying ht,run_underlying htn,sizeOf,typeInfo,hi,asInt,asIntOf,IntKind.wrap_i64,hnc,storeCells]
     exact hself.symm
    .simp only[List.length_replicate]at hst
     simp[Builtin.append_,run_underlying ht,run_underlying htn,sizeOf,typeInfo,zeroValue,hi,hz,asInt,asIntOf,hw,hneg,hby,h48i,hroom,hsize,hm,Addr.add_lit,hzs,jl,hst]
   refine⟨_,_,hr,⟨by simp[hxl],.inr ⟨g,cap,_,rfl,hbg,setRow_heap w g cur _ e _ hg,hroom,hcm,?_,?_⟩⟩,⟨rfl,rfl,rfl,by simp,fun j _ hj=>setRow_other w g j _ (fun e=>hj (by simp[Value.ownBlock,e]))⟩,.inl rfl⟩
   .simp only[List.size_toArray,List.length_append,List.length_take,List.length_drop,Array.length_toList,List.length_replicate]
    omega
   .have ht':cur.toList.take n=xs:=by simpa using htake
    rw[ht'];simp only[Nat.mul_one];rw[List.take_left' (by simp[hxl])]
  .have holds:∀j u,xs[j]? =some u->w.drew.cell? ((⟨g,0,none⟩:Addr).add j)=some u:=hown.cells (g:=g) rfl
   have hr:=Lib.run_append_grow_zeros (P:=P) w t tn ty e i z kq kn ht htn hi hz (some ⟨g,0,none⟩) n cap xs (run_firstCells_some w.drew i.size n _ _ _ xs (by rw[hsize];simpa using hxl) holds) k (by omega) (by omega) (by omega) (by omega) (by rw[hby];omega) (growslice_fits (by omega) (by rw[hby];omega));have hgr:=grown cap (by omega) (Value.ownBlock (.slice (some ⟨g,0,none⟩) n cap));exact⟨_,_,hr,hgr.1,hgr.2,.inr rfl⟩
theorem iG{P:Program}(w:World){ops:Array Oper}{rest:List Oper}{o:Oper}{a:Act}{Q:Exit->Act->World->Prop}(hgd:o.guard=none)(s x:Operand)(t tn:TypeId)(ho:o.op= .call {callee:= .builtin .append,args:=#[s,x],argTypes:=#[t,tn]})(e:TypeId)(i:TypeInfo)(z:Value)(kq kn:IntKind)(ht:P.underlying t=some (.slice e))(htn:P.underlying tn=some (.int kn))(hi:P.info? e=some i)(hz:i.zero=some z)(hsize:i.size=1)(hby:i.bytes=8)(hzs:z.cells=#[z])(h1:z.oneCell'=true)(v:Value)(n:Nat)(xs:List Value)(hs:a.eval s=v)(hown:w.ownsRow 0 e 1 v n xs)(k:Nat)(hx:a.eval x= .int kq (k:Int))(hk:n+k<=1048576)(h:∀aa cap w',w'.ownsRow 0 e 1 (.slice aa (n+k) cap) (n+k) (xs++List.replicate k z)->w.grownBy w' v.ownBlock->((Value.slice aa (n+k) cap).ownBlock=v.ownBlock\/(Value.slice aa (n+k) cap).ownBlock=some w.heap.size)->wpList P ops Q rest (a.put o.dst (.slice aa (n+k) cap)) w'):
  wpList P ops Q (o::rest) a w:=by
 obtain⟨v',w',hr,h2,h3,h4⟩:=nS (P:=P) w t tn o.type e i z kq kn ht htn hi hz hsize hby hzs h1 v n xs hown k hk;obtain⟨aa,cap,rfl,_,_⟩:=aK h2;exact Lib.wpList_append_run w hgd s x t tn ho v _ hs hx _ w' hr (h aa cap w' h2 h3 h4)
end
section
open Go.RowKit
theorem ae2{F:Fence}{n:Nat}{P:Program}(w:World){ops:Array Oper}{rest:List Oper}{o:Oper}{a:Act}{Q:Exit->Act->World->Prop}(hgd:o.guard=none)(s x:Operand)(t tn:TypeId)(ho:o.op= .call {callee:= .builtin .append,args:=#[s,x],argTypes:=#[t,tn]})(vs vx:Value)(hs:a.eval s=vs)(hx:a.eval x=vx)(v':Value)(w':World)(hr:(Builtin.append_ #[t,tn] o.type #[vs,vx]).run P w= .ok v' w')(h:wpListIn F n P ops Q rest (a.put o.dst v') w'):wpListIn F n P ops Q (o::rest) a w:=by
 refine wpListIn_plain hgd fun K hK'=>?_;unfold Oper.wpIn;refine⟨?_,?_⟩
 .simp[Oper.about,ho,resolve,Target.leads,Sem.run_pure]
 .rw[Oper.semAt_plain F _ _ (by rw[ho];intro c hc';cases hc')]
  simp[execOp,ho,resolve,invoke,builtin,hs,hx,hr,Result.andThen]
  exact hK' _ _ h
theorem aeY{F:Fence}{n:Nat}{P:Program}(w:World){ops:Array Oper}{rest:List Oper}{o:Oper}{a:Act}{Q:Exit->Act->World->Prop}(hgd:o.guard=none)(s x:Operand)(t:TypeId)(ho:o.op= .call {callee:= .builtin .append,args:=#[s,x],argTypes:=#[t,t]})(e:TypeId)(i:TypeInfo)(z:Value)(size bytes:Nat)(ht:P.underlying t=some (.slice e))(hi:P.info? e=some i)(hz:i.zero=some z)(hsize:i.size=size)(hby:i.bytes=bytes)(hzs:z.cells.size=size)(hsz:0<size)(v:Value)(k:Nat)(xs:List Value)(hs:a.eval s=v)(hown:w.ownsRow 0 e size v k xs)(ad:Addr)(m c:Nat)(news:List Value)(hx:a.eval x= .slice (some ad) m c)(hl:news.length=m*size)(hnews:∀j u,news[j]? =some u->w.cell? (ad.add j)=some u)(h1:∀u∈news,u.oneCell'=true)(hm:0<m)(h63:k+m<=maxLen)(hbytes:(k+m)*bytes<=140737488355328)(h:∀g cap w',w'.ownsRow 0 e size (.slice (some ⟨g,0,none⟩) (k+m) cap) (k+m) (xs++news)->w.grownBy w' v.ownBlock->(v.ownBlock=some g\/g=w.heap.size)->g<w'.heap.size->wpListIn F n P ops Q rest (a.put o.dst (.slice (some ⟨g,0,none⟩) (k+m) cap)) w'):wpListIn F n P ops Q (o::rest) a w:=by
 obtain⟨g,cap,w',hr,h2,h3,h4,h5⟩:=run_append_lies (P:=P) w t o.type 0 e i z size bytes ht hi hz hsize hby hzs hsz v k xs hown ad m c news hl hnews h1 hm h63 hbytes (Nat.zero_le _) _ rfl;exact ae2 w hgd s x t t ho v _ hs hx _ w' hr (h g cap w' h2 h3 h4 h5)
end
section
open Go.RowKit
theorem lM{P:Program}(w:World)(t ty e:TypeId)(i:TypeInfo)(z:Value)(size bytes:Nat)(ht:P.underlying t=some (.slice e))(hi:P.info? e=some i)(hz:i.zero=some z)(hsize:i.size=size)(hby:i.bytes=bytes)(hzs:z.cells.size=size)(hsz:0<size)(v:Value)(n:Nat)(xs:List Value)(hown:w.ownsRow 0 e size v n xs)(vx:Value)(m:Nat)(news:List Value)(hsrc:w.ownsRow 0 e size vx m news)(h1:∀u∈news,u.oneCell'=true)(h63:n+m<=maxLen)(hbytes:(n+m)*bytes<=140737488355328):
  ∃aa cap w',(Builtin.append_ #[t,t] ty #[v,vx]).run P w= .ok (.slice aa (n+m) cap) w'/\w'.ownsRow 0 e size (.slice aa (n+m) cap) (n+m) (xs++news)/\w.grownBy w' v.ownBlock/\
   ((Value.slice aa (n+m) cap).ownBlock=v.ownBlock\/(Value.slice aa (n+m) cap).ownBlock=some w.heap.size):=by
 rcases hsrc.2 with ⟨rfl,rfl⟩|⟨g,cap,cur,rfl,hbg,hg,hnc,hcm,hcs,htake⟩
 .have hn:news=[]:=List.eq_nil_of_length_eq_zero (by simpa using hsrc.1)
  subst hn;rcases hown.2 with ⟨rfl,rfl⟩|⟨g,cap,cur,rfl,hbg,hg,hnc,hcm,hcs,htake⟩
  .refine⟨none,0,w,?_,by simpa using hown,World.grownBy.refl w _,.inl rfl⟩
   simp[Builtin.append_,run_underlying ht,sizeOf,typeInfo,hi,Builtin.lenOf,Builtin.firstCells]
  .refine⟨some ⟨g,0,none⟩,cap,w,?_,by simpa using hown,World.grownBy.refl w _,.inl rfl⟩
   simp[Builtin.append_,run_underlying ht,sizeOf,typeInfo,hi,Builtin.lenOf,Builtin.firstCells,storeCells,hnc]
 .obtain⟨v',w',hr,h2,h3,_,h5⟩:=run_append_own_at (P:=P) w 0 t ty e i z size bytes ht hi hz hsize hby hzs hsz v n xs hown ⟨g,0,none⟩ m cap news hsrc.1 (hsrc.cells (g:=g) rfl) h1 h63 hbytes (Nat.zero_le _)
  obtain⟨aa,c,rfl,_,_⟩:=aK h2;exact⟨aa,c,w',hr,h2,h3,h5⟩
theorem bW{P:Program}(w:World){ops:Array Oper}{rest:List Oper}{o:Oper}{a:Act}{Q:Exit->Act->World->Prop}(hgd:o.guard=none)(s x:Operand)(t:TypeId)(ho:o.op= .call {callee:= .builtin .append,args:=#[s,x],argTypes:=#[t,t]})(e:TypeId)(i:TypeInfo)(z:Value)(size bytes:Nat)(ht:P.underlying t=some (.slice e))(hi:P.info? e=some i)(hz:i.zero=some z)(hsize:i.size=size)(hby:i.bytes=bytes)(hzs:z.cells.size=size)(hsz:0<size)(v:Value)(n:Nat)(xs:List Value)(hs:a.eval s=v)(hown:w.ownsRow 0 e size v n xs)(vx:Value)(m:Nat)(news:List Value)(hx:a.eval x=vx)(hsrc:w.ownsRow 0 e size vx m news)(h1:∀u∈news,u.oneCell'=true)(h63:n+m<=maxLen)(hbytes:(n+m)*bytes<=140737488355328)(h:∀aa cap w',w'.ownsRow 0 e size (.slice aa (n+m) cap) (n+m) (xs++news)->w.grownBy w' v.ownBlock->((Value.slice aa (n+m) cap).ownBlock=v.ownBlock\/(Value.slice aa (n+m) cap).ownBlock=some w.heap.size)->wpList P ops Q rest (a.put o.dst (.slice aa (n+m) cap)) w'):
  wpList P ops Q (o::rest) a w:=by
 obtain⟨aa,cap,w',hr,h2,h3,h4⟩:=lM (P:=P) w t o.type e i z size bytes ht hi hz hsize hby hzs hsz v n xs hown vx m news hsrc h1 h63 hbytes;exact Lib.wpList_append_run w hgd s x t t ho v _ hs hx _ w' hr (h aa cap w' h2 h3 h4)
theorem aR{P:Program}(w:World){ops:Array Oper}{o:Oper}{a:Act}{K:Act->World->Prop}{Q:Exit->Act->World->Prop}{E:Prop}(hgd:o.guard=none)(s x:Operand)(t:TypeId)(ho:o.op= .call {callee:= .builtin .append,args:=#[s,x],argTypes:=#[t,t]})(e:TypeId)(i:TypeInfo)(z:Value)(size bytes:Nat)(ht:P.underlying t=some (.slice e))(hi:P.info? e=some i)(hz:i.zero=some z)(hsize:i.size=size)(hby:i.bytes=bytes)(hzs:z.cells.size=size)(hsz:0<size)(v:Value)(n:Nat)(xs:List Value)(hs:a.eval s=v)(hown:w.ownsRow 0 e size v n xs)(vx:Value)(m:Nat)(news:List Value)(hx:a.eval x=vx)(hsrc:w.ownsRow 0 e size vx m news)(h1:∀u∈news,u.oneCell'=true)(h63:n+m<=maxLen)(hbytes:(n+m)*bytes<=140737488355328)(h:∀aa cap w',w'.ownsRow 0 e size (.slice aa (n+m) cap) (n+m) (xs++news)->w.grownBy w' v.ownBlock->((Value.slice aa (n+m) cap).ownBlock=v.ownBlock\/(Value.slice aa (n+m) cap).ownBlock=some w.heap.size)->K (a.put o.dst (.slice aa (n+m) cap)) w'):
  if Region.wanted o (yielded ops a.tmps)=true then Oper.wp P o a w K Q else E:=by
 obtain⟨aa,cap,w',hr,h2,h3,h4⟩:=lM (P:=P) w t o.type e i z size bytes ht hi hz hsize hby hzs hsz v n xs hown vx m news hsrc h1 h63 hbytes;rw[if_pos (by simp[Region.wanted,hgd])];unfold Oper.wp execOp;simp only[ho,resolve,invoke,builtin,Sem.run_bind,Sem.run_pure,Result.andThen_ok,List.map_toArray,List.map_cons,List.map_nil,hs,hx,hr];exact h aa cap w' h2 h3 h4
end
section
open Go.RowKit
section
variable {T:List Nat} {w0 w w':World} {l l':List ai}
theorem BD.uz(h:BD T w0 w l)(σ:Nat->Nat)(h1:∀i t,l'[i]? =some t->l[σ i]? =some t)(h2:∀i j,i<l'.length->j<l'.length->σ i=σ j->i=j):BD T w0 w l':=by
 obtain⟨hb,F,g1,g2⟩:=h;refine⟨hb,fun i=>F (σ i),fun i t hi=>g1 _ t (h1 i t hi),fun i j hi hj hij=>?_⟩;have e1:=h1 i _ (List.getElem?_eq_getElem hi);have e2:=h1 j _ (List.getElem?_eq_getElem hj);exact g2 _ _ (List.getElem?_eq_some_iff.1 e1).1 (List.getElem?_eq_some_iff.1 e2).1 (fun e=>hij (h2 i j hi hj e))
theorem BD.aB{a b c:List ai}(h:BD T w0 w (a++b++c)):BD T w0 w (a++c++b):=by
 refine h.uz (fun i=>if i<a.length then i else if i<a.length+c.length then i+b.length else i-c.length) ?_ ?_
 .intro i t hi
  have hl:=(List.getElem?_eq_some_iff.1 hi).1;simp only[List.length_append]at hl;by_cases h1:i<a.length
  .rw[if_pos h1]
   rw[List.append_assoc,List.getElem?_append_left h1]at hi;rw[List.append_assoc,List.getElem?_append_left h1];exact hi
  .rw[if_neg h1]
   rw[List.append_assoc,List.getElem?_append_right (by omega)]at hi;by_cases h2:i<a.length+c.length
   .rw[if_pos h2]
    rw[List.getElem?_append_left (by omega)]at hi;rw[List.append_assoc,List.getElem?_append_right (by omega),List.getElem?_append_right (by omega)];rw[show i+b.length-a.length-b.length=i-a.length from by omega];exact hi
   .rw[if_neg h2]
    rw[List.getElem?_append_right (by omega)]at hi;rw[List.append_assoc,List.getElem?_append_right (by omega),List.getElem?_append_left (by omega)];rw[show i-c.length-a.length=i-a.length-c.length from by omega];exact hi
 .intro i j hi hj
  simp only[List.length_append]at hi hj;repeat' split
  all_goals omega
theorem BD.join{m:List ai}(h:BD T w0 w l)(h':BD [] w w' m):BD T w0 w' (l++m):=by
 have hz:=h.size;obtain⟨hb,F,g1,g2⟩:=h;obtain⟨hb',F',g1',g2'⟩:=h';have hnew:∀j,j<m.length->∀x∈F' j,w.heap.size<=x:=fun j hj x hx=>((g1' j _ (List.getElem?_eq_getElem hj)).2 x hx).elim (fun h=>by simp at h) id;have hold:∀j,j<l.length->∀x∈F j,x<w.heap.size:=fun j hj x hx=>l[j].lt (g1 j l[j] (List.getElem?_eq_getElem hj)).1 x hx;refine⟨hb.trans hb' (by simp),fun j=>if j<l.length then F j else F' (j-l.length),?_,?_⟩
 .intro j u hj
  by_cases hjl:j<l.length
  .rw[List.getElem?_append_left hjl]at hj
   simp only[if_pos hjl];exact⟨u.keep (g1 j u hj).1 (fun k hk=>hb'.block k (u.lt (g1 j u hj).1 k hk) (by simp)),(g1 j u hj).2⟩
  .rw[List.getElem?_append_right (by omega)]at hj
   simp only[if_neg hjl];have hj':=(List.getElem?_eq_some_iff.1 hj).1;exact⟨(g1' _ u hj).1,fun k hk=> .inr (by have :=hnew _ hj' k hk;omega)⟩
 .intro i j hi hj hij x hx hx2
  dsimp only at hx hx2;simp only[List.length_append]at hi hj;by_cases h1:i<l.length
  .rw[if_pos h1]at hx
   by_cases h2:j<l.length
   .rw[if_pos h2]at hx2;exact g2 i j h1 h2 hij x hx hx2
   .rw[if_neg h2]at hx2
    have :=hnew _ (by omega) x hx2;have :=hold i h1 x hx;omega
  .rw[if_neg h1]at hx
   by_cases h2:j<l.length
   .rw[if_pos h2]at hx2
    have :=hnew _ (by omega) x hx;have :=hold j h2 x hx2;omega
   .rw[if_neg h2]at hx2
    exact g2' _ _ (by omega) (by omega) (by omega) x hx hx2
end
end
section
open Go.RowKit
section
variable {T:List Nat} {w0 w w':World} {m r:List ai}
theorem BD.aN(h:BD T w0 w (m++r)):∃T',BD T' w w m/\∀w' m',BD T' w w' m'->BD T w0 w' (m'++r):=by
 have hz:=h.size;obtain⟨hb,F,h1,h2⟩:=h;have hT:∀k,k∈(List.range m.length).flatMap F↔∃i,i<m.length/\k∈F i:=fun k=>by simp
 have hm1:∀i t,m[i]? =some t->t.holds w (F i)/\∀k∈F i,k∈T\/w0.heap.size<=k:=fun i t hi=>by
  have hl:=(List.getElem?_eq_some_iff.1 hi).1;exact h1 i t (by rw[List.getElem?_append_left hl];exact hi)
 have hr1:∀i t,r[i]? =some t->t.holds w (F (i+m.length))/\∀k∈F (i+m.length),k∈T\/w0.heap.size<=k:=fun i t hi=>by
  exact h1 (i+m.length) t (by rw[List.getElem?_append_right (by omega)];rw[show i+m.length-m.length=i from by omega];exact hi)
 have hT0:∀k∈(List.range m.length).flatMap F,k∈T\/w0.heap.size<=k:=fun k hk=>by
  obtain⟨i,hi,hk⟩:=(hT k).1 hk;exact(hm1 i _ (List.getElem?_eq_getElem hi)).2 k hk
 have hout:∀i,i<r.length->∀k∈F (i+m.length),k∉(List.range m.length).flatMap F:=fun i hi k hk hc=>by
  obtain⟨j,hj,hkj⟩:=(hT k).1 hc;exact h2 j (i+m.length) (by simp;omega) (by simp;omega) (by omega) k hkj hk
 refine⟨(List.range m.length).flatMap F,⟨Touch.refl _ _,F,fun i t hi=>⟨(hm1 i t hi).1,fun k hk=> .inl ((hT k).2 ⟨i,(List.getElem?_eq_some_iff.1 hi).1,hk⟩)⟩,fun i j hi hj hij=>h2 i j (by simp;omega) (by simp;omega) hij⟩,?_⟩;rintro w' m' ⟨hb',F',g1,g2⟩;have hnew:∀i,i<m'.length->∀k∈F' i,k∈(List.range m.length).flatMap F\/w.heap.size<=k:=fun i hi k hk=>(g1 i _ (List.getElem?_eq_getElem hi)).2 k hk;have hlt:∀i,i<r.length->∀k∈F (i+m.length),k<w.heap.size:=fun i hi k hk=>r[i].lt (hr1 i _ (List.getElem?_eq_getElem hi)).1 k hk;have hdis:∀i j,i<m'.length->j<r.length->∀k∈F' i,k∉F (j+m.length):=fun i j hi hj k hk hk2=>by
  rcases hnew i hi k hk with h|h
  .exact hout j hj k hk2 h
  .have :=hlt j hj k hk2
   omega
 refine⟨hb.trans hb' hT0,fun i=>if i<m'.length then F' i else F (i-m'.length+m.length),?_,?_⟩
 .intro i t hi
  by_cases hil:i<m'.length
  .rw[List.getElem?_append_left hil]at hi
   simp only[if_pos hil];obtain⟨a,b⟩:=g1 i t hi;exact⟨a,fun k hk=>(b k hk).elim (hT0 k) (fun h=> .inr (by omega))⟩
  .rw[List.getElem?_append_right (by omega)]at hi
   simp only[if_neg hil];have hrl:=(List.getElem?_eq_some_iff.1 hi).1;obtain⟨a,b⟩:=hr1 _ t hi;exact⟨t.keep a (fun k hk=>hb'.block k (hlt _ hrl k hk) (hout _ hrl k hk)),b⟩
 .intro i j hi hj hij x hx hx2
  dsimp only at hx hx2;simp only[List.length_append]at hi hj;by_cases h3:i<m'.length
  .rw[if_pos h3]at hx
   by_cases h4:j<m'.length
   .rw[if_pos h4]at hx2;exact g2 i j h3 h4 hij x hx hx2
   .rw[if_neg h4]at hx2;exact hdis i (j-m'.length) h3 (by omega) x hx hx2
  .rw[if_neg h3]at hx
   by_cases h4:j<m'.length
   .rw[if_pos h4]at hx2;exact hdis j (i-m'.length) h4 (by omega) x hx2 hx
   .rw[if_neg h4]at hx2
    exact h2 _ _ (by simp;omega) (by simp;omega) (by omega) x hx hx2
end
end
section
open Go.RowKit
theorem BD.prm{T:List Nat}{w0 w:World}{l l':List ai}(h:BD T w0 w l)(hp:l.Perm l'):BD T w0 w l':=by
 have key:∀{l l':List ai},l.Perm l'->∀pre,BD T w0 w (pre++l)->BD T w0 w (pre++l'):=by
  intro l l' hp;induction hp with
  |nil=>exact fun pre h=>h
  |cons t _ ih=>intro pre h;simpa using ih (pre++[t]) (by simpa using h)
  |swap t u l=>
   intro pre h;have h1:BD T w0 w (pre++[u]++(t::l)):=by simpa using h
   have h3:BD T w0 w ((pre++[t])++l++[u]):=by simpa using h1.aB
   simpa using h3.aB
  |trans _ _ ih1 ih2=>exact fun pre h=>ih2 pre (ih1 pre h)
 exact key hp [] h
abbrev LG:=List (List ai)
def gat(M:LG)(s:Nat):List ai:=M.getD s []
def aaE:LG->Nat->List ai->LG
 |[],0,g=>[g]
 |[],s+1,g=>[]::aaE [] s g
 |_::M,0,g=>g::M
 |x::M,s+1,g=>x::aaE M s g
theorem abn(g:List ai):aaE [] 0 g=[g]:=rfl
theorem abj(s:Nat)(g:List ai):aaE [] (s+1) g=[]::aaE [] s g:=rfl
theorem aa6(x g:List ai)(M:LG):aaE (x::M) 0 g=g::M:=rfl
theorem aaA(x g:List ai)(M:LG)(s:Nat):aaE (x::M) (s+1) g=x::aaE M s g:=rfl
theorem acd(s:Nat):gat [] s=[]:=by simp[gat]
theorem ab6(x:List ai)(M:LG):gat (x::M) 0=x:=rfl
theorem abf(x:List ai)(M:LG)(s:Nat):gat (x::M) (s+1)=gat M s:=by simp[gat]
theorem aa3:∀(M:LG) (s t:Nat) (g:List ai),s≠t->gat (aaE M s g) t=gat M t
 |[],0,0,_,h=>absurd rfl h
 |[],0,t+1,_,_=>by simp[abn,abf,acd]
 |[],s+1,0,_,_=>by simp[abj,ab6,acd]
 |[],s+1,t+1,g,h=>by rw[abj,abf,aa3 [] s t g (by omega)];simp[acd]
 |_::_,0,0,_,h=>absurd rfl h
 |_::_,0,t+1,_,_=>by simp[aa6,abf]
 |x::M,s+1,0,_,_=>by simp[aaA,ab6]
 |x::M,s+1,t+1,g,h=>by rw[aaA,abf,abf,aa3 M s t g (by omega)]
theorem abb:∀(M:LG) (s t:Nat) (g h:List ai),s≠t->aaE (aaE M s g) t h=aaE (aaE M t h) s g
 |[],0,0,_,_,e=>absurd rfl e
 |[],0,t+1,_,_,_=>by simp[abn,abj,aaA,aa6]
 |[],s+1,0,_,_,_=>by simp[abn,abj,aaA,aa6]
 |[],s+1,t+1,g,h,e=>by rw[abj,aaA,abj,aaA,abb [] s t g h (by omega)]
 |_::_,0,0,_,_,e=>absurd rfl e
 |_::_,0,t+1,_,_,_=>by simp[aaA,aa6]
 |_::_,s+1,0,_,_,_=>by simp[aaA,aa6]
 |x::M,s+1,t+1,g,h,e=>by rw[aaA,aaA,aaA,aaA,abb M s t g h (by omega)]
theorem abB:∀(M:LG) (s:Nat) (g:List ai),(aaE M s g).flatten.Perm (g++(aaE M s []).flatten)
 |[],0,g=>by simp[abn]
 |[],s+1,g=>by simpa[abj]using abB [] s g
 |x::M,0,g=>by simp[aa6]
 |x::M,s+1,g=>by
  simp only[aaA,List.flatten_cons];refine((abB M s g).append_left x).trans ?_;rw[<-List.append_assoc,<-List.append_assoc];exact List.perm_append_comm.append_right _
theorem aa7:∀(M:LG) (s:Nat),M.flatten.Perm (gat M s++(aaE M s []).flatten)
 |[],s=>by
  have :∀s,(aaE [] s []).flatten=[]:=fun s=>by induction s with
   |zero=>rfl
   |succ s ih=>rw[abj,List.flatten_cons,ih];rfl
  simp[acd,this]
 |x::M,0=>by simp[aa6,ab6]
 |x::M,s+1=>by
  simp only[aaA,abf,List.flatten_cons];refine((aa7 M s).append_left x).trans ?_;rw[<-List.append_assoc,<-List.append_assoc];exact List.perm_append_comm.append_right _
def gets(M:LG)(rs:List Nat):List ai:=(rs.map (gat M)).flatten
def puts:LG->List Nat->List (List ai)->LG
 |M,[],_=>M
 |M,r::rs,[]=>puts (aaE M r []) rs []
 |M,r::rs,g::gs=>puts (aaE M r g) rs gs
theorem aa5{M M':LG}{rs:List Nat}(h:∀s∈rs,gat M s=gat M' s):gets M rs=gets M' rs:=by
 unfold gets;rw[List.map_congr_left h]
theorem abk:∀(rs:List Nat) (M:LG) (gs:List (List ai)) (t:Nat),t∉rs->gat (puts M rs gs) t=gat M t
 |[],_,_,_,_=>rfl
 |r::rs,M,[],t,h=>by simp only[List.mem_cons,not_or]at h;rw[puts,abk rs _ _ t h.2,aa3 _ _ _ _ (Ne.symm h.1)]
 |r::rs,M,g::gs,t,h=>by simp only[List.mem_cons,not_or]at h;rw[puts,abk rs _ _ t h.2,aa3 _ _ _ _ (Ne.symm h.1)]
theorem aa9:∀(rs:List Nat) (M:LG) (gs:List (List ai)) (t:Nat) (h:List ai),t∉rs->puts (aaE M t h) rs gs=aaE (puts M rs gs) t h
 |[],_,_,_,_,_=>rfl
 |r::rs,M,[],t,h,e=>by simp only[List.mem_cons,not_or]at e;rw[puts,puts,abb _ _ _ _ _ e.1,aa9 rs _ _ t h e.2]
 |r::rs,M,g::gs,t,h,e=>by simp only[List.mem_cons,not_or]at e;rw[puts,puts,abb _ _ _ _ _ e.1,aa9 rs _ _ t h e.2]
theorem ab2:∀(rs:List Nat) (M:LG) (gs:List (List ai)),gs.length=rs.length->rs.Nodup->(puts M rs gs).flatten.Perm (gs.flatten++(puts M rs []).flatten)
 |[],M,[],_,_=>by simp[puts]
 |r::rs,M,g::gs,hl,hn=>by
  simp only[List.nodup_cons]at hn;rw[puts,puts];refine(ab2 rs _ gs (by simpa using hl) hn.2).trans ?_;rw[aa9 rs M [] r g hn.1,aa9 rs M [] r [] hn.1,List.flatten_cons];refine((abB _ r g).append_left gs.flatten).trans ?_;rw[<-List.append_assoc];exact List.perm_append_comm.append_right _
theorem abq:∀(rs:List Nat) (M:LG),rs.Nodup->M.flatten.Perm (gets M rs++(puts M rs []).flatten)
 |[],M,_=>by simp[puts,gets]
 |r::rs,M,hn=>by
  simp only[List.nodup_cons]at hn;rw[puts];refine(aa7 M r).trans ?_;have h1:=abq rs (aaE M r []) hn.2;rw[aa5 (M':=M) (fun s hs=>aa3 _ _ _ _ (by rintro rfl;exact hn.1 hs))]at h1;refine(h1.append_left (gat M r)).trans ?_;rw[<-List.append_assoc];simp[gets]
inductive aaw where
 |y (rd:List Nat)
 |s (t:Nat)
 |m (t:Nat)
 |c (pan:Bool) (rs rd:List Nat)
def aaw.rd:aaw->List Nat
 | .y rd=>rd
 | .s t=>[t]
 | .m t=>[t]
 | .c _ rs rd=>rs++rd
def aaw.wr:aaw->List Nat
 | .y _=>[]
 | .s t=>[t]
 | .m t=>[t]
 | .c _ rs _=>rs
def Smw(M:LG):Prop:=∃T w0 w,BD T w0 w M.flatten
section
variable (P:Program) (ops:Array Oper) (Q:Exit->Act->LG->Prop)
def YlG(o:Oper)(v:Value)(a:Act)(g:List ai):Prop:=YieldsIf P ops (fun w=>∃T w0 R,BD T w0 w (g++R)) o v a
def ab3(o:Oper)(v:Value)(a:Act)(g g':List ai):Prop:=
 Region.wanted o (yielded ops a.tmps)=true/\∀T w0 w R,BD T w0 w (g++R)->∃w',((execOp a.eval o).run P w= .ok (.value v) w'\/((execOp a.eval o).run P w= .ok .skip w'/\v=undef))/\BD T w0 w' (g'++R)
def MkG(o:Oper)(a:Act)(vf:Nat->Value)(ty:TypeId)(cs:Array Value):Prop:=
 Region.wanted o (yielded ops a.tmps)=true/\∀w,(execOp a.eval o).run P w= .ok (.value (vf w.heap.size)) (w.alloc (.cells cs ty))
def Oper.ends(o:Oper)(a:Act)(w:World)(X:Ending->World->Prop):Prop:=
 match (execOp a.eval o).run P w with
 | .ok (.value v) w'=>X (.returned v) w'
 | .ok .skip w'=>X (.returned undef) w'
 | .ok (.enter f args) w'=>Calls P f args w' X
 | .halt (.panic v) w'=>X (.panicked [{v,recovered:=false}]) w'
 |_=>False
def ab1(o:Oper)(a:Act)(g r:List ai)(n:Nat)(F:Ending->List (List ai)->Prop):Prop:=
 Region.wanted o (yielded ops a.tmps)=true/\∀T w0 w R,BD T w0 w (g++(r++R))->Oper.ends P o a w fun e w'=>∃gs,gs.length=n/\F e gs/\BD T w0 w' (gs.flatten++(r++R))
def Nd(x:Nat×aaw)(K:Act->LG->Prop)(a:Act)(M:LG):Prop:=
 ∃o,ops[x.1]? =some o/\match x.2 with
 | .y rd=>rd.Nodup/\∃v,YlG P ops o v a (gets M rd)/\K (a.put o.dst v) M
 | .s t=>∃v g',ab3 P ops o v a (gat M t) g'/\K (a.put o.dst v) (aaE M t g')
 | .m t=>gat M t=[]/\∃vf ty cs,MkG P ops o a vf ty cs/\∀g,Smw (aaE M t [box g ty cs])->K (a.put o.dst (vf g)) (aaE M t [box g ty cs])
 | .c pan rs rd=>(rs++rd).Nodup/\∃F,ab1 P ops o a (gets M rs) (gets M rd) rs.length F/\∀e gs,F e gs->gs.length=rs.length->Smw (puts M rs gs)->match e with
  | .returned v=>K (a.put o.dst v) (puts M rs gs)
  | .panicked c=>pan=true/\Q (.panic c) a (puts M rs gs)
  | .outgrown=>False
def Der:List (Nat×aaw)->Act->LG->Prop
 |[],a,M=>Q .normal a M
 |x::tr,a,M=>Nd P ops Q x (Der tr) a M
end
section
variable {P:Program} {ops:Array Oper} {Q:Exit->Act->LG->Prop} {o:Oper} {a a':Act} {v:Value} {g g':List ai} {x k:Nat×aaw} {K K':Act->LG->Prop} {M:LG}
structure abh(ops:Array Oper)(o:Oper)(a a':Act):Prop where
 e:execOp a'.eval o=execOp a.eval o
 w:Region.wanted o (yielded ops a'.tmps)=Region.wanted o (yielded ops a.tmps)
theorem abh.symm(h:abh ops o a a'):abh ops o a' a:=⟨h.e.symm,h.w.symm⟩
theorem abe(hs:∀cs b,o.op≠ .select cs b)(a:Act){dst:Option Tmp}(v:Value)(h:∀d,dst=some d->d∉o.looksAt ops):abh ops o a (a.put dst v):=⟨execOp_put o hs a dst v h,wanted_put o a dst v h⟩
theorem YlG.same(s:abh ops o a a')(h:YlG P ops o v a g):YlG P ops o v a' g:=YieldsIf.of_same h s.e s.w
theorem ab3.same(s:abh ops o a a')(h:ab3 P ops o v a g g'):ab3 P ops o v a' g g':=by unfold ab3 at *;rw[s.e,s.w];exact h
theorem MkG.same(s:abh ops o a a'){vf:Nat->Value}{ty:TypeId}{cs:Array Value}(h:MkG P ops o a vf ty cs):MkG P ops o a' vf ty cs:=by unfold MkG at *;rw[s.e,s.w];exact h
theorem ab1.same(s:abh ops o a a'){r:List ai}{n:Nat}{F:Ending->List (List ai)->Prop}(h:ab1 P ops o a g r n F):ab1 P ops o a' g r n F:=by unfold ab1 Oper.ends at *;rw[s.e,s.w];exact h
theorem acz(h:Smw M){rs:List Nat}(hn:rs.Nodup):∃T w0 w,BD T w0 w (gets M rs++(puts M rs []).flatten):=let ⟨T,w0,w,hl⟩:=h;⟨T,w0,w,hl.prm (abq rs M hn)⟩
theorem ab3.smw{t:Nat}(h:ab3 P ops o v a (gat M t) g')(hs:Smw M):Smw (aaE M t g'):=by
 obtain⟨T,w0,w,hl⟩:=hs;obtain⟨w',_,h2⟩:=h.2 T w0 w _ (hl.prm (aa7 M t));exact⟨T,w0,w',h2.prm (abB M t g').symm⟩
theorem MkG.smw{t:Nat}{vf:Nat->Value}{ty:TypeId}{cs:Array Value}(hg:gat M t=[])(hs:Smw M):∃g,Smw (aaE M t [box g ty cs]):=by
 obtain⟨T,w0,w,hl⟩:=hs;have h2:=hl.prm (aa7 M t);rw[hg,List.nil_append]at h2;have h3:=h2.alloc ty cs;exact⟨_,T,w0,_,h3.prm (List.perm_append_comm.trans (abB M t _).symm)⟩
theorem Oper.acO{w:World}{X:Ending->World->Prop}(h:Oper.ends P o a w X):∃e w',X e w':=by
 unfold Oper.ends at h;split at h
 .exact⟨_,_,h⟩
 .exact⟨_,_,h⟩
 .obtain⟨e,w',_,h,_⟩:=h [];exact⟨e,w',h⟩
 .exact⟨_,_,h⟩
 .exact h.elim
theorem acC{T:List Nat}{w0 w:World}{rs rd:List Nat}(hn:(rs++rd).Nodup)(hl:BD T w0 w M.flatten):BD T w0 w (gets M rs++(gets M rd++(puts (puts M rs []) rd []).flatten))/\(∀gs:List (List ai),gs.length=rs.length->∀w',BD T w0 w' (gs.flatten++(gets M rd++(puts (puts M rs []) rd []).flatten))->BD T w0 w' (puts M rs gs).flatten):=by
 rw[List.nodup_append]at hn;have hd:gets (puts M rs []) rd=gets M rd:=aa5 fun s hs=>abk _ _ _ _ fun hc=>hn.2.2 s hc s hs rfl;have h2:=abq rd (puts M rs []) hn.2.1;rw[hd]at h2;exact⟨hl.prm ((abq rs M hn.1).trans (h2.append_left _)),fun gs hg w' hl'=>hl'.prm ((h2.symm.append_left _).trans (ab2 rs M gs hg hn.1).symm)⟩
theorem ab1.smw{rs rd:List Nat}{F:Ending->List (List ai)->Prop}(hn:(rs++rd).Nodup)(h:ab1 P ops o a (gets M rs) (gets M rd) rs.length F)(hs:Smw M):∃e gs,F e gs/\gs.length=rs.length/\Smw (puts M rs gs):=by
 obtain⟨T,w0,w,hl⟩:=hs;obtain⟨h3,h4⟩:=acC hn hl;obtain⟨e,w',gs,h1,h2,h5⟩:=Oper.acO (h.2 T w0 w _ h3);exact⟨e,gs,h2,h1,T,w0,w',h4 gs h1 w' h5⟩
theorem abu(h:Nd P ops Q x K a M)(hs:Smw M)(hk:∀o u M',ops[x.1]? =some o->(∀s,s∉x.2.wr->gat M' s=gat M s)->Smw M'->K (a.put o.dst u) M'->K' (a.put o.dst u) M'):Nd P ops Q x K' a M:=by
 obtain⟨i,f⟩:=x;obtain⟨o,ho,h⟩:=h;refine⟨o,ho,?_⟩;cases f with
 |y rd=>
  obtain⟨hn,v,h1,h2⟩:=h;exact⟨hn,v,h1,hk o v M ho (fun _ _=>rfl) hs h2⟩
 |s t=>
  obtain⟨v,g',h1,h2⟩:=h;exact⟨v,g',h1,hk o v _ ho (fun s hs=>aa3 _ _ _ _ (fun e=>hs (by simp[aaw.wr,e]))) (h1.smw hs) h2⟩
 |m t=>
  obtain⟨hg,vf,ty,cs,h1,h2⟩:=h;exact⟨hg,vf,ty,cs,h1,fun g hsg=>hk o _ _ ho (fun s hs=>aa3 _ _ _ _ (fun e=>hs (by simp[aaw.wr,e]))) hsg (h2 g hsg)⟩
 |c pan rs rd=>
  obtain⟨hn,F,h1,h2⟩:=h;refine⟨hn,F,h1,fun e gs he hl hsg=>?_⟩;have h3:=h2 e gs he hl hsg;cases e with
  |returned v=>exact hk o v _ ho (fun s hs=>abk _ _ _ _ hs) hsg h3
  |panicked c=>exact h3
  |outgrown=>exact h3
theorem ac0(h:Nd P ops Q x K a M)(hs:Smw M)(hp:∀rs rd,x.2≠ .c true rs rd):∃o u M',ops[x.1]? =some o/\(∀s,s∉x.2.wr->gat M' s=gat M s)/\Smw M'/\K (a.put o.dst u) M':=by
 obtain⟨i,f⟩:=x;obtain⟨o,ho,h⟩:=h;cases f with
 |y rd=>
  obtain⟨hn,v,h1,h2⟩:=h;exact⟨o,v,M,ho,fun _ _=>rfl,hs,h2⟩
 |s t=>
  obtain⟨v,g',h1,h2⟩:=h;exact⟨o,v,_,ho,fun s hs=>aa3 _ _ _ _ (fun e=>hs (by simp[aaw.wr,e])),h1.smw hs,h2⟩
 |m t=>
  obtain⟨hg,vf,ty,cs,h1,h2⟩:=h;obtain⟨g,hsg⟩:=MkG.smw (vf:=vf) (ty:=ty) (cs:=cs) hg hs;exact⟨o,_,_,ho,fun s hs=>aa3 _ _ _ _ (fun e=>hs (by simp[aaw.wr,e])),hsg,h2 g hsg⟩
 |c pan rs rd=>
  obtain⟨hn,F,h1,h2⟩:=h;obtain⟨e,gs,he,hl,hsg⟩:=h1.smw hn hs;have h3:=h2 e gs he hl hsg;cases e with
  |returned v=>exact⟨o,v,_,ho,fun s hs=>abk _ _ _ _ hs,hsg,h3⟩
  |panicked c=>exact absurd (by rw[h3.1]) (hp rs rd)
  |outgrown=>exact h3.elim
theorem abJ(hsel:Region.noSelect ops=true){i:Nat}(ho:ops[i]? =some o)(cs:Array SelectCase)(b:Bool):o.op≠ .select cs b:=Region.noSelect_spec hsel i o cs b ho
theorem acA{dx:Option Tmp}{v:Value}{U:LG->LG}(hsel:Region.noSelect ops=true)(h:Nd P ops Q k K (a.put dx v) (U M))(h1:∀o,ops[k.1]? =some o->∀d,dx=some d->d∉o.looksAt ops)(h2:∀o,ops[k.1]? =some o->∀d,dx=some d->o.dst≠some d)(u1:∀s∈k.2.rd,gat (U M) s=gat M s)(u2:∀s g,s∈k.2.wr->U (aaE M s g)=aaE (U M) s g)(u3:∀p rs rd gs,k.2= .c p rs rd->U (puts M rs gs)=puts (U M) rs gs)(u4:∀M',(∀s,s∉k.2.wr->gat M' s=gat M s)->Smw M'->Smw (U M'))(hp:∀rs rd,k.2= .c true rs rd->∀c M',Q (.panic c) (a.put dx v) (U M')->Q (.panic c) a M'):
  Nd P ops Q k (fun a' M'=>K (a'.put dx v) (U M')) a M:=by
 obtain⟨i,f⟩:=k;obtain⟨o,ho,h⟩:=h;have hsm:=(abe (abJ hsel ho) a v (h1 o ho)).symm;have hpc:∀u,(a.put dx v).put o.dst u=(a.put o.dst u).put dx v:=fun u=>Act.put_comm a v u (h2 o ho);refine⟨o,ho,?_⟩;cases f with
 |y rd=>
  obtain⟨hn,v',h3,h4⟩:=h;rw[aa5 (rs:=rd) u1]at h3;exact⟨hn,v',h3.same hsm,by show K _ _;rw[<-hpc];exact h4⟩
 |s t=>
  obtain⟨v',g',h3,h4⟩:=h;rw[u1 t (by simp[aaw.rd])]at h3;exact⟨v',g',h3.same hsm,by show K _ _;rw[<-hpc,u2 t g' (by simp[aaw.wr])];exact h4⟩
 |m t=>
  obtain⟨hg,vf,ty,cs,h3,h4⟩:=h;refine⟨by rw[<-u1 t (by simp[aaw.rd])];exact hg,vf,ty,cs,h3.same hsm,fun g hsg=>?_⟩;show K _ _
  rw[<-hpc,u2 t _ (by simp[aaw.wr])];refine h4 g ?_;rw[<-u2 t _ (by simp[aaw.wr])];exact u4 _ (fun s hs=>aa3 _ _ _ _ (fun e=>hs (by simp[aaw.wr,e]))) hsg
 |c pan rs rd=>
  obtain⟨hn,F,h3,h4⟩:=h;rw[aa5 (rs:=rs) fun s hs=>u1 s (by simp[aaw.rd,hs]),aa5 (rs:=rd) fun s hs=>u1 s (by simp[aaw.rd,hs])]at h3;refine⟨hn,F,h3.same hsm,fun e gs he hl hsg=>?_⟩;have h5:=h4 e gs he hl (by rw[<-u3 pan rs rd gs rfl];exact u4 _ (fun s hs=>abk _ _ _ _ hs) hsg);cases e with
  |returned v'=>show K _ _;rw[<-hpc,u3 pan rs rd gs rfl];exact h5
  |panicked c=>exact⟨h5.1,hp rs rd (by rw[h5.1]) c _ (by rw[u3 pan rs rd gs rfl];exact h5.2)⟩
  |outgrown=>exact h5
theorem acw{dx:Option Tmp}{v:Value}{U:LG->LG}(hsel:Region.noSelect ops=true)(h:Nd P ops Q x (fun a' M'=>Smw (U M')->K (a'.put dx v) (U M')) a M)(h1:∀o,ops[x.1]? =some o->∀d,dx=some d->d∉o.looksAt ops)(h2:∀o,ops[x.1]? =some o->∀d,dx=some d->o.dst≠some d)(u1:∀s∈x.2.rd,gat (U M) s=gat M s)(u2:∀s g,s∈x.2.wr->U (aaE M s g)=aaE (U M) s g)(u3:∀p rs rd gs,x.2= .c p rs rd->U (puts M rs gs)=puts (U M) rs gs)(u4:∀M',(∀s,s∉x.2.wr->gat M' s=gat M s)->Smw (U M')->Smw M')(hp:(∃t,x.2= .m t)\/∃rs rd,x.2= .c false rs rd):Nd P ops Q x K (a.put dx v) (U M):=by
 obtain⟨i,f⟩:=x;obtain⟨o,ho,h⟩:=h;have hsm:=abe (abJ hsel ho) a v (h1 o ho);have hpc:∀u,(a.put dx v).put o.dst u=(a.put o.dst u).put dx v:=fun u=>Act.put_comm a v u (h2 o ho);refine⟨o,ho,?_⟩;rcases hp with ⟨t,ht⟩|⟨rs,rd,ht⟩<;>dsimp only at ht<;>subst ht
 .obtain⟨hg,vf,ty,cs,h3,h4⟩:=h
  refine⟨by rw[u1 t (by simp[aaw.rd])];exact hg,vf,ty,cs,h3.same hsm,fun g hsg=>?_⟩;rw[<-u2 t _ (by simp[aaw.wr])]at hsg|-;rw[hpc];exact h4 g (u4 _ (fun s hs=>aa3 _ _ _ _ (fun e=>hs (by simp[aaw.wr,e]))) hsg) hsg
 .obtain⟨hn,F,h3,h4⟩:=h
  refine⟨hn,F,by rw[aa5 (rs:=rs) fun s hs=>u1 s (by simp[aaw.rd,hs]),aa5 (rs:=rd) fun s hs=>u1 s (by simp[aaw.rd,hs])];exact h3.same hsm,fun e gs he hl hsg=>?_⟩;rw[<-u3 false rs rd gs rfl]at hsg;have h5:=h4 e gs he hl (u4 _ (fun s hs=>abk _ _ _ _ hs) hsg);cases e with
  |returned v'=>show K _ _;rw[hpc,<-u3 false rs rd gs rfl];exact h5 hsg
  |panicked c=>exact absurd h5.1 (by simp)
  |outgrown=>exact h5
end
end
section
open Go.RowKit
def disj(l m:List Nat):Bool:=l.all fun i=> !m.contains i
theorem ab0{l m:List Nat}(h:disj l m=true){i:Nat}(hi:i∈l):i∉m:=by
 have :=List.all_eq_true.1 h i hi;simpa using this
def okp(ops:Array Oper)(x k:Nat×aaw):Bool:=
 (match ops[x.1]?,ops[k.1]? with
 |some ox,some ok=>ox.apart ops ok
 |_,_=>true)&&(disj x.2.wr k.2.rd&&(disj k.2.wr x.2.rd&&(match x.2,k.2 with
 | .y _,_=>true
 | .s _,.c true _ _=>false
 | .s _,_=>true
 | .m _,.y _=>true
 | .m _,.m _=>true
 | .c false _ _,.y _=>true
 | .c false _ _,.m _=>true
 |_,_=>false)))
section
variable {P:Program} {ops:Array Oper} {Q:Exit->Act->LG->Prop} {o:Oper} {a a':Act} {v:Value} {g g':List ai} {x k:Nat×aaw} {K K':Act->LG->Prop} {M:LG}
theorem YlG.unique{v':Value}{T:List Nat}{w0 w:World}{R:List ai}(h:YlG P ops o v a g)(h':YlG P ops o v' a g)(hl:BD T w0 w (g++R)):v=v':=by
 rcases h with ⟨h1,h2⟩|⟨h1,h2⟩<;>rcases h' with ⟨h3,h4⟩|⟨h3,h4⟩
 .have e:=(h2 w ⟨T,w0,R,hl⟩).symm.trans (h4 w ⟨T,w0,R,hl⟩)
  injection e with e
  injection e
 .rw[h1]at h3;cases h3
 .rw[h1]at h3;cases h3
 .rw[h2,h4]
theorem acH(n:Nat):∃w:World,w.heap.size=n:=⟨{(default:World)with heap:=Array.replicate n (.deferred none)},by simp⟩
theorem MkG.unique{vf vf':Nat->Value}{ty ty':TypeId}{cs cs':Array Value}(h:MkG P ops o a vf ty cs)(h':MkG P ops o a vf' ty' cs'):vf=vf'/\ty=ty'/\cs=cs':=by
 have key:∀n,vf n=vf' n/\ty=ty'/\cs=cs':=fun n=>by
  obtain⟨w,rfl⟩:=acH n;have e:=(h.2 w).symm.trans (h'.2 w);injection e with e1 e2
  injection e1 with e1
  have e3:=congrArg (fun W=>W.heap[w.heap.size]?) e2;simp only[heap_alloc_new,Option.some.injEq,Obj.cells.injEq]at e3;exact⟨e1,e3.2.1,e3.1⟩
 exact⟨funext fun n=>(key n).1,(key 0).2⟩
theorem abX(h:okp ops x k=true):(∀ox ok,ops[x.1]? =some ox->ops[k.1]? =some ok->(∀d,ox.dst=some d->d∉ok.looksAt ops)/\(∀d,ox.dst=some d->ok.dst≠some d)/\(∀d,ok.dst=some d->d∉ox.looksAt ops))/\(∀s∈x.2.wr,s∉k.2.rd)/\(∀s∈k.2.wr,s∉x.2.rd):=by
 unfold okp at h;simp only[Bool.and_eq_true]at h;obtain⟨h1,h2,h3,_⟩:=h;exact⟨fun ox ok hx hk=>by rw[hx,hk]at h1;exact Oper.apart_spec h1,fun s hs=>ab0 h2 hs,fun s hs=>ab0 h3 hs⟩
theorem ada(f:aaw):∀s∈f.wr,s∈f.rd:=by cases f<;>simp +contextual [aaw.wr,aaw.rd]
theorem BD.less{T:List Nat}{w0 w:World}{m r:List ai}(h:BD T w0 w (m++r)):BD T w0 w m:=by
 obtain⟨hb,F,h1,h2⟩:=h;exact⟨hb,F,fun i t hi=>h1 i t (by rw[List.getElem?_append_left (List.getElem?_eq_some_iff.1 hi).1];exact hi),fun i j hi hj=>h2 i j (by simp;omega) (by simp;omega)⟩
theorem acL{t:Nat}(hg:gat M t=[])(h:Smw (aaE M t g)):Smw M:=by
 obtain⟨T,w0,w,hl⟩:=h;have h2:BD T w0 w ((aaE M t []).flatten++g):=hl.prm ((abB M t g).trans List.perm_append_comm);refine⟨T,w0,w,BD.prm (BD.less h2) ?_⟩;have :=aa7 M t;rw[hg,List.nil_append]at this;exact this.symm
theorem ab8(hsel:Region.noSelect ops=true)(hok:okp ops x k=true)(hs:Smw M)(h:Nd P ops Q x (Nd P ops Q k K) a M)(hx:(∃t,x.2= .m t)\/∃rs rd,x.2= .c false rs rd):Nd P ops Q k (Nd P ops Q x K) a M:=by
 obtain⟨hap,hxk,hkx⟩:=abX hok;have hxp:∀rs rd,x.2≠ .c true rs rd:=fun rs rd e=>by rcases hx with ⟨t,ht⟩|⟨rs,rd,ht⟩<;>rw[ht]at e<;>simp at e
 have hxo:∃ox,ops[x.1]? =some ox:=let ⟨ox,h,_⟩:=h;⟨ox,h⟩;obtain⟨ox,hox⟩:=hxo;obtain⟨_,u,M1,acV,hM1,hs1,ok,hok1,hk⟩:=ac0 h hs hxp;rw[hox]at acV;injection acV with acV
 subst acV;have hkind:(∃rd,k.2= .y rd)\/∃t,k.2= .m t:=by
  unfold okp at hok;rcases hx with ⟨t,ht⟩|⟨rs,rd,ht⟩<;>rw[ht]at hok<;>cases hk2:k.2 with
  |y rd=>exact .inl ⟨rd,rfl⟩
  |m t=>exact .inr ⟨t,rfl⟩
  |s t=>simp[hk2]at hok
  |c p rs rd=>simp[hk2]at hok
 have hpa:=hap ox ok hox hok1;have hsm:=(abe (abJ hsel hok1) a u hpa.1).symm;refine⟨ok,hok1,?_⟩;rcases hkind with ⟨rd,hkd⟩|⟨t,hkd⟩
 .rw[hkd]at hk hxk|-
  obtain⟨hn,v,hv,_⟩:=hk;have hr:∀M',(∀s,s∉x.2.wr->gat M' s=gat M s)->gets M' rd=gets M rd:=fun M' hM=>aa5 fun s hs=>hM s fun hc=>hxk s hc hs;rw[hr M1 hM1]at hv;have hv:=hv.same hsm;refine⟨hn,v,hv,?_⟩;refine acw (U:=fun M=>M) hsel ?_ (fun o ho=>by rw[hox]at ho;injection ho with ho;subst ho;exact hpa.2.2) (fun o ho=>by rw[hox]at ho;injection ho with ho;subst ho;exact fun d hd e=>hpa.2.1 d e hd) (fun _ _=>rfl) (fun _ _ _=>rfl) (fun _ _ _ _ _=>rfl) (fun _ _ h=>h) hx;refine abu h hs fun o u' M' ho hM hs' hK _=>?_;rw[hox]at ho;injection ho with ho;subst ho
  obtain⟨ok',hok',hK⟩:=hK;rw[hok1]at hok';injection hok' with hok';subst hok'
  rw[hkd]at hK;obtain⟨_,v',hv',hK⟩:=hK;rw[hr M' hM]at hv';have hv':=hv'.same (abe (abJ hsel hok1) a u' hpa.1).symm;obtain⟨T,w0,w,hl⟩:=acz hs hn;rw[hv.unique hv' hl];exact hK
 .rw[hkd]at hk hxk hkx|-
  have htx:t∉x.2.rd:=hkx t (by simp[aaw.wr]);have htw:t∉x.2.wr:=fun hc=>htx (ada _ _ hc);obtain⟨hg,vf,ty,cs,hv,_⟩:=hk;rw[hM1 t htw]at hg;have hv:=hv.same hsm;refine⟨hg,vf,ty,cs,hv,fun g hsg=>?_⟩;refine acw (U:=fun M=>aaE M t [box g ty cs]) hsel ?_ (fun o ho=>by rw[hox]at ho;injection ho with ho;subst ho;exact hpa.2.2) (fun o ho=>by rw[hox]at ho;injection ho with ho;subst ho;exact fun d hd e=>hpa.2.1 d e hd) (fun s hs=>aa3 _ _ _ _ (by rintro rfl;exact htx hs)) (fun s g hs=>abb _ _ _ _ _ (by rintro rfl;exact htw hs)) (fun p rs rd gs e=>(aa9 rs _ _ _ _ (fun hc=>htx (by rw[e];exact List.mem_append_left _ hc))).symm) (fun M' hM hM'=>acL (by rw[hM t htw];exact hg) hM') hx;refine abu h hs fun o u' M' ho hM hs' hK hsU=>?_;rw[hox]at ho;injection ho with ho;subst ho
  obtain⟨ok',hok',hK⟩:=hK;rw[hok1]at hok';injection hok' with hok';subst hok'
  rw[hkd]at hK;obtain⟨_,vf',ty',cs',hv',hK⟩:=hK;have hv':=hv'.same (abe (abJ hsel hok1) a u' hpa.1).symm;obtain⟨rfl,rfl,rfl⟩:=hv.unique hv';exact hK g hsU
theorem ac1(hsel:Region.noSelect ops=true)(hQ:∀c a d v M,Q (.panic c) (a.put d v) M->Q (.panic c) a M)(hok:okp ops x k=true)(hs:Smw M)(h:Nd P ops Q x (Nd P ops Q k K) a M):Nd P ops Q k (Nd P ops Q x K) a M:=by
 obtain⟨hap,hxk,hkx⟩:=abX hok;have h0:=h;obtain⟨i,f⟩:=x;obtain⟨ox,hox,h⟩:=h;cases f with
 |y rd=>
  obtain⟨hn,v,h3,h4⟩:=h;have h5:=acA (U:=fun M=>M) hsel h4 (fun o ho=>(hap ox o hox ho).1) (fun o ho=>(hap ox o hox ho).2.1) (fun _ _=>rfl) (fun _ _ _=>rfl) (fun _ _ _ _ _=>rfl) (fun _ _ h=>h) (fun _ _ _ c M' h=>hQ _ _ _ _ _ h);refine abu h5 hs fun o u M' ho hM _ hK=>⟨ox,hox,hn,v,?_,hK⟩;rw[aa5 (M:=M') (M':=M) (rs:=rd) fun s hs=>hM s fun hc=>hkx s hc hs];exact h3.same (abe (abJ hsel hox) a u (hap ox o hox ho).2.2)
 |s t=>
  obtain⟨v,g',h3,h4⟩:=h;have ht:t∉k.2.rd:=hxk t (by simp[aaw.wr]);have ht':t∉k.2.wr:=fun hc=>ht (ada _ _ hc);have h5:=acA (U:=fun M=>aaE M t g') hsel h4 (fun o ho=>(hap ox o hox ho).1) (fun o ho=>(hap ox o hox ho).2.1)
   (fun s hs=>aa3 _ _ _ _ (fun e=>ht (e▸hs))) (fun s g hs=>abb _ _ _ _ _ (fun e=>ht' (e▸hs))) (fun p rs rd gs e=>(aa9 rs _ _ _ _ (fun hc=>ht (by rw[e];exact List.mem_append_left _ hc))).symm)
   (fun M' hM hM'=>by
    have :=hM t ht';rw[<-this]at h3;exact h3.smw hM')
   (fun rs rd e=>by
    unfold okp at hok;simp[e]at hok)
  refine abu h5 hs fun o u M' ho hM _ hK=>⟨ox,hox,v,g',?_,hK⟩;rw[hM t ht'];exact h3.same (abe (abJ hsel hox) a u (hap ox o hox ho).2.2)
 |m t=>exact ab8 hsel hok hs h0 (.inl ⟨t,rfl⟩)
 |c pan rs rd=>
  cases pan with
  |true=>unfold okp at hok;simp at hok
  |false=>exact ab8 hsel hok hs h0 (.inr ⟨rs,rd,rfl⟩)
end
end
section
open Go.RowKit
def QW(T:List Nat)(w0:World)(Q:Exit->Act->LG->Prop)(e:Exit)(a:Act)(w:World):Prop:=∃M,BD T w0 w M.flatten/\Q e a M
section
variable {P:Program} {ops:Array Oper} {Q:Exit->Act->LG->Prop} {o:Oper} {a a':Act} {v:Value} {x k:Nat×aaw} {K K':Act->LG->Prop} {M:LG} {T:List Nat} {w0 w:World}
theorem abR(hsel:Region.noSelect ops=true)(hQ:∀c a d v M,Q (.panic c) (a.put d v) M->Q (.panic c) a M){post:List (Nat×aaw)}:∀(pre:List (Nat×aaw)) (a:Act) (M:LG),(∀x∈pre,okp ops x k=true)->Smw M->Der P ops Q (pre++k::post) a M->Der P ops Q (k::(pre++post)) a M
 |[],_,_,_,_,h=>h
 |x::pre,a,M,hok,hs,h=>ac1 hsel hQ (hok x (by simp)) hs (abu (x:=x) h hs fun o u M' _ _ hs' hK=>abR hsel hQ pre _ M' (fun y hy=>hok y (by simp[hy])) hs' hK)
theorem abW(h:Nd P ops Q x K a M)(hl:BD T w0 w M.flatten):wpOp P ops (QW T w0 Q) x.1 (fun a' w'=>∃M',BD T w0 w' M'.flatten/\K a' M') a w:=by
 obtain⟨i,f⟩:=x;obtain⟨o,ho,h⟩:=h;cases f with
 |y rd=>
  obtain⟨hn,v,h1,h2⟩:=h;exact YieldsIf.wpOp ho h1 ⟨T,w0,_,hl.prm (abq rd M hn)⟩ ⟨M,hl,h2⟩
 |s t=>
  obtain⟨v,g',⟨hw,h1⟩,h2⟩:=h;obtain⟨w',hr,hl'⟩:=h1 T w0 w _ (hl.prm (aa7 M t));have hk:∃M',BD T w0 w' M'.flatten/\K (a.put o.dst v) M':=⟨_,hl'.prm (abB M t g').symm,h2⟩;unfold wpOp Oper.wp;simp only[ho,hw,if_true];refine .inl ?_;rcases hr with hr|⟨hr,rfl⟩<;>rw[hr]<;>exact hk
 |m t=>
  obtain⟨hg,vf,ty,cs,⟨hw,h1⟩,h2⟩:=h;have h3:=hl.prm (aa7 M t);rw[hg,List.nil_append]at h3;have h4:BD T w0 (w.alloc (.cells cs ty)) (aaE M t [box w.heap.size ty cs]).flatten:=(h3.alloc ty cs).prm (List.perm_append_comm.trans (abB M t _).symm);unfold wpOp Oper.wp;simp only[ho,hw,if_true,h1];exact .inl ⟨_,h4,h2 _ ⟨T,w0,_,h4⟩⟩
 |c pan rs rd=>
  obtain⟨hn,F,⟨hw,h1⟩,h2⟩:=h;obtain⟨hl0,hl4⟩:=acC hn hl;have h3:=h1 T w0 w _ hl0;have key:∀e w',(∃gs,gs.length=rs.length/\F e gs/\BD T w0 w' (gs.flatten++(gets M rd++(puts (puts M rs []) rd []).flatten)))->match e with
    | .returned v=>∃M',BD T w0 w' M'.flatten/\K (a.put o.dst v) M'
    | .panicked c=>QW T w0 Q (.panic c) a w'
    | .outgrown=>False:=by
   rintro e w' ⟨gs,hl1,hF,hl2⟩;have hl3:=hl4 gs hl1 w' hl2;have h4:=h2 e gs hF hl1 ⟨T,w0,w',hl3⟩;cases e with
   |returned v=>exact⟨_,hl3,h4⟩
   |panicked c=>exact⟨_,hl3,h4.2⟩
   |outgrown=>exact h4
  unfold Oper.ends at h3;unfold wpOp Oper.wp;simp only[ho,hw,if_true];refine .inl ?_;split at h3
  .rename_i v w' hr;rw[hr];exact key _ _ h3
  .rename_i w' hr;rw[hr];exact key _ _ h3
  .rename_i f args w' hr
   rw[hr];refine Calls.mono h3 fun e w'' he=>?_;have :=key e w'' he;cases e with
   |returned v=>exact this
   |panicked c=>exact this
   |outgrown=>exact this.elim
  .rename_i v w' hr;rw[hr];exact key _ _ h3
  .exact h3.elim
end
def dps(o:Oper):List Nat:=(o.after.toList.filter (Region.binds .any)).map (·.on)
inductive abT (ops:Array Oper):Nat->Nat->Prop where
 |one {k x:Nat} {o:Oper} (ho:ops[k]? =some o) (hx:x∈(dps o)):abT ops k x
 |more {k d x:Nat} {o:Oper} (ho:ops[k]? =some o) (hd:d∈(dps o)) (hx:abT ops d x):abT ops k x
def ancs:List Oper->List Nat->List Nat
 |[],acc=>acc
 |o::l,acc=>ancs l (acc++[(dps o).foldl (fun m d=>m|||(2 ^ d|||acc.getD d 0)) 0])
theorem abZ(acc:List Nat)(x:Nat):∀(l:List Nat) (m:Nat),(l.foldl (fun m d=>m|||(2 ^ d|||acc.getD d 0)) m).testBit x=true->m.testBit x=true\/∃d∈l,d=x\/(acc.getD d 0).testBit x=true
 |[],m,h=> .inl h
 |d::l,m,h=>by
  rw[List.foldl_cons]at h;rcases abZ acc x l _ h with h|⟨e,he,h⟩
  .rw[Nat.testBit_or,Nat.testBit_or,Nat.testBit_two_pow]at h
   simp only[Bool.or_eq_true,decide_eq_true_eq]at h;rcases h with h|h|h
   .exact .inl h
   .exact .inr ⟨d,by simp,.inl h⟩
   .exact .inr ⟨d,by simp,.inr h⟩
  .exact .inr ⟨e,by simp[he],h⟩
theorem acg(ops:Array Oper):∀(l pre:List Oper) (acc:List Nat),ops.toList=pre++l->acc.length=pre.length->(∀k x,(acc.getD k 0).testBit x=true->abT ops k x)->∀k x,((ancs l acc).getD k 0).testBit x=true->abT ops k x
 |[],_,_,_,_,h=>h
 |o::l,pre,acc,he,hl,h=>by
  refine acg ops l (pre++[o]) _ (by simpa using he) (by simp[hl]) fun k x hk=>?_;rcases Nat.lt_trichotomy k acc.length with h1|h1|h1
  .rw[List.getD_eq_getElem?_getD,List.getElem?_append_left h1,<-List.getD_eq_getElem?_getD]at hk;exact h k x hk
  .subst h1
   have ho:ops[acc.length]? =some o:=by rw[<-Array.getElem?_toList,he,hl];simp
   rw[List.getD_eq_getElem?_getD,List.getElem?_append_right (Nat.le_refl _),Nat.sub_self]at hk;rcases abZ acc x _ _ hk with h2|⟨d,hd,h2|h2⟩
   .simp at h2
   .exact .one ho (h2▸hd)
   .exact .more ho hd (h d x h2)
  .rw[List.getD_eq_getElem?_getD,List.getElem?_eq_none (by simp;omega)]at hk;simp at hk
def abH(ops:Array Oper)(x k:Nat):Bool:=match ops[x]? with
 |some o=>(dps o).contains k
 |none=>true
def abD(ops:Array Oper)(tbl:List Nat):List (Nat×aaw)->Bool
 |[]=>true
 |x::tr=>tr.all (fun k=>x.1 != k.1&&(!abH ops x.1 k.1&&((tbl.getD k.1 0).testBit x.1||okp ops x k)))&&abD ops tbl tr
def chk(ops:Array Oper)(tr:List (Nat×aaw)):Bool:=
 Region.noSelect ops&&((List.range ops.size).all (fun i=>tr.any fun x=>x.1==i)&&(tr.all (fun x=>decide (x.1<ops.size)&& !abH ops x.1 x.1)&&(ops.all (fun o=>(dps o).all fun d=>decide (d<ops.size))&&abD ops (ancs ops.toList []) tr)))
structure Lst(ops:Array Oper)(tr:List (Nat×aaw))(listed:Array Bool):Prop where
 un:∀i,listed.getD i true=false↔∃x∈tr,x.1=i
 pw:tr.Pairwise fun x k=>x.1≠k.1/\abH ops x.1 k.1=false/\(abT ops k.1 x.1\/okp ops x k=true)
 self:∀x∈tr,x.1<ops.size/\abH ops x.1 x.1=false
 inr:∀(i:Nat) o,ops[i]? =some o->∀d∈(dps o),d<ops.size
 dn:∀(i:Nat) o,listed.getD i false=true->ops[i]? =some o->∀d∈(dps o),listed.getD d false=true
 sz:listed.size=ops.size
theorem ach{o:Oper}{d:Nat}:d∈(dps o)↔∃e∈o.after,Region.binds .any e=true/\e.on=d:=by
 unfold dps;simp[and_assoc]
theorem abG{listed:Array Bool}{i:Nat}(h:i<listed.size):listed.getD i true=listed.getD i false:=by simp[Array.getD,h]
section
variable {P:Program} {ops:Array Oper} {Q:Exit->Act->LG->Prop} {a:Act} {M:LG} {T:List Nat} {w0 w:World}
theorem ab4{listed:Array Bool}(hd:∀(i:Nat) o,listed.getD i false=true->ops[i]? =some o->∀d∈(dps o),listed.getD d false=true){k x:Nat}(h:abT ops k x):(∀o,ops[k]? =some o->∀d∈(dps o),listed.getD d false=true)->listed.getD x false=true:=by
 induction h with
 |one ho hx=>exact fun hk=>hk _ ho _ hx
 |more ho hd' _ ih=>exact fun hk=>ih fun o ho'=>hd _ o (hk _ ho _ hd') ho'
theorem acS(hsel:Region.noSelect ops=true)(hQ:∀c a d v M,Q (.panic c) (a.put d v) M->Q (.panic c) a M):∀(fuel:Nat) (tr:List (Nat×aaw)) (listed:Array Bool) (a:Act) (M:LG) (w:World),Lst ops tr listed->tr.length<=fuel->Der P ops Q tr a M->BD T w0 w M.flatten->wpAny P .any ops (QW T w0 Q) fuel listed a w:=by
 intro fuel;induction fuel with
 |zero=>
  intro tr listed a M w hL hf hd hl;have :tr=[]:=List.length_eq_zero_iff.1 (by omega);subst this;refine⟨?_,M,hl,hd⟩;refine List.eq_nil_iff_forall_not_mem.2 fun j hj=>?_;obtain⟨x,hx,_⟩:=(hL.un j).1 (mem_ready.1 hj).1;simp at hx
 |succ fuel ih=>
  intro tr listed a M w hL hf hd hl;refine⟨fun hr=>?_,fun i hi=>?_⟩
  .cases tr with
   |nil=>exact⟨M,hl,hd⟩
   |cons x tr=>
    exfalso
    have hx:x.1∈Region.ready .any ops listed:=by
     refine mem_ready.2 ⟨(hL.un x.1).2 ⟨x,by simp,rfl⟩,ops[x.1]'(hL.self x (by simp)).1,Array.getElem?_eq_getElem _,fun e he hb=>?_⟩;have ho:ops[x.1]? =some (ops[x.1]'(hL.self x (by simp)).1):=Array.getElem?_eq_getElem _;have hmem:e.on∈dps (ops[x.1]'(hL.self x (by simp)).1):=ach.2 ⟨e,he,hb,rfl⟩;have hlt:=hL.inr _ _ ho _ hmem;rw[<-abG (by rw[hL.sz];exact hlt)];cases hq:listed.getD e.on true with
     |true=>rfl
     |false=>
      obtain⟨y,hy,hye⟩:=(hL.un e.on).1 hq;have acU:abH ops x.1 y.1=true:=by unfold abH;rw[ho,hye];simpa using hmem
      rcases List.mem_cons.1 hy with rfl|hy
      .rw[(hL.self y (by simp)).2]at acU;cases acU
      .rw[((List.pairwise_cons.1 hL.pw).1 y hy).2.1]at acU;cases acU
    rw[hr]at hx;cases hx
  .obtain⟨hun,o,ho,hall⟩:=mem_ready.1 hi
   obtain⟨k,hk,hki⟩:=(hL.un i).1 hun;subst hki;obtain⟨pre,post,rfl⟩:=List.append_of_mem hk;have hpw:=hL.pw;rw[List.pairwise_append]at hpw;have hk2:∀o',ops[k.1]? =some o'->∀d∈(dps o'),listed.getD d false=true:=fun o' ho' d hd'=>by
    rw[ho]at ho';injection ho' with ho';subst ho'
    obtain⟨e,he,hb,rfl⟩:=ach.1 hd';exact hall e he hb
   have hok:∀x∈pre,okp ops x k=true:=fun x hx=>by
    rcases(hpw.2.2 x hx k (by simp)).2.2 with h|h
    .have h1:=ab4 hL.dn h hk2
     have h2:=(hL.un x.1).2 ⟨x,by simp[hx],rfl⟩;rw[abG (by rw[hL.sz];exact(hL.self x (by simp[hx])).1),h1]at h2;cases h2
    .exact h
   have h1:=abR hsel hQ pre a M hok ⟨T,w0,w,hl⟩ hd;refine wpOp_mono (fun a' w' ⟨M',hl',hd'⟩=>ih (pre++post) _ a' M' w' ?_ (by simp at hf|-;omega) hd' hl') (abW h1 hl);have hks:=(hL.self k (by simp)).1;refine⟨fun j=>?_,?_,fun x hx=>hL.self x (by simp at hx|-;rcases hx with h|h<;>simp[h]),hL.inr,fun j o' hj ho' d hd'=>?_,by simp[hL.sz]⟩
   .by_cases hjk:j=k.1
    .subst hjk
     refine⟨fun h=>?_,?_⟩
     .rw[abG (by simp[hL.sz,hks])]at h
      simp[hL.sz,hks]at h
     .rintro⟨x,hx,he⟩
      exfalso
      rcases List.mem_append.1 hx with hx|hx
      .exact(hpw.2.2 x hx k (by simp)).1 he
      .exact((List.pairwise_cons.1 hpw.2.1).1 x hx).1 he.symm
    .rw[getD_set_ne true (Ne.symm hjk),hL.un j]
     constructor
     .rintro⟨x,hx,rfl⟩
      refine⟨x,?_,rfl⟩;simp at hx|-
      rcases hx with h|rfl|h
      .exact .inl h
      .exact absurd rfl hjk
      .exact .inr h
     .rintro⟨x,hx,rfl⟩
      exact⟨x,by simp at hx|-;rcases hx with h|h<;>simp[h],rfl⟩
   .rw[List.pairwise_append]
    exact⟨hpw.1,(List.pairwise_cons.1 hpw.2.1).2,fun x hx y hy=>hpw.2.2 x hx y (by simp[hy])⟩
   .by_cases hjk:j=k.1
    .subst hjk;exact getD_set_true (hk2 o' ho' d hd')
    .rw[getD_set_ne false (Ne.symm hjk)]at hj
     exact getD_set_true (hL.dn j o' hj ho' d hd')
theorem abY{tbl:List Nat}(ht:∀k x,(tbl.getD k 0).testBit x=true->abT ops k x):∀{tr:List (Nat×aaw)},abD ops tbl tr=true->tr.Pairwise fun x k=>x.1≠k.1/\abH ops x.1 k.1=false/\(abT ops k.1 x.1\/okp ops x k=true)
 |[],_=>List.Pairwise.nil
 |x::tr,h=>by
  simp only[abD,Bool.and_eq_true,List.all_eq_true,Bool.or_eq_true,Bool.not_eq_true',bne_iff_ne]at h;refine List.pairwise_cons.2 ⟨fun k hk=>?_,abY ht h.2⟩;obtain⟨h1,h2,h3⟩:=h.1 k hk;exact⟨h1,h2,h3.imp (ht _ _) id⟩
theorem acW{tr:List (Nat×aaw)}(h:chk ops tr=true):Region.noSelect ops=true/\Lst ops tr (Array.replicate ops.size false):=by
 unfold chk at h;simp only[Bool.and_eq_true,List.all_eq_true,List.any_eq_true,decide_eq_true_eq,Bool.not_eq_true',beq_iff_eq,List.mem_range]at h;obtain⟨h1,h2,h3,h4,h5⟩:=h;refine⟨h1,fun i=>?_,abY (acg ops ops.toList [] [] rfl rfl (by simp)) h5,h3,fun i o ho d hd=>?_,fun i o hi=>?_,by simp⟩
 .constructor
  .intro hi
   by_cases hlt:i<ops.size
   .exact h2 i hlt
   .simp[Array.getD,hlt]at hi
  .rintro⟨x,hx,rfl⟩
   simp[Array.getD,(h3 x hx).1]
 .have :=Array.all_eq_true_iff_forall_mem.1 h4 o (Array.mem_of_getElem? ho)
  simpa using List.all_eq_true.1 this d hd
 .exfalso
  by_cases hlt:i<ops.size<;>simp[Array.getD,hlt]at hi
theorem acp{tr:List (Nat×aaw)}{id:Nat}(hm:P.follows .mixedOrders=true)(hQ:∀c a d v M,Q (.panic c) (a.put d v) M->Q (.panic c) a M)(hd:Der P ops Q tr a M)(hc:chk ops tr=true)(hl:BD T w0 w M.flatten):(Code.region id ops true).wp P (QW T w0 Q) a w:=by
 obtain⟨h1,h2⟩:=acW hc;refine wp_region_any hm (acS h1 hQ _ tr _ a M _ h2 ?_ hd hl.drew);have hn:tr.Pairwise fun x k=>x.1≠k.1:=h2.pw.imp fun h=>h.1;have hm:∀x∈tr,x.1<ops.size:=fun x hx=>(h2.self x hx).1;have key:∀(n:Nat) (tr:List (Nat×aaw)),tr.Pairwise (fun x k=>x.1≠k.1)->(∀x∈tr,x.1<n)->tr.length<=n:=by
  intro n;induction n with
  |zero=>intro tr _ h;cases tr with
   |nil=>simp
   |cons x tr=>exact absurd (h x (by simp)) (by omega)
  |succ n ih=>
   intro tr hp h;by_cases hx:∃x∈tr,x.1=n
   .obtain⟨x,hx,he⟩:=hx
    obtain⟨pre,post,rfl⟩:=List.append_of_mem hx;rw[List.pairwise_append]at hp;have :=ih (pre++post) (by rw[List.pairwise_append];exact⟨hp.1,(List.pairwise_cons.1 hp.2.1).2,fun x hx y hy=>hp.2.2 x hx y (by simp[hy])⟩) (fun y hy=>by
     have h1:=h y (by simp at hy|-;rcases hy with h|h<;>simp[h]);have h2:y.1≠n:=fun e=>by
      rcases List.mem_append.1 hy with hy|hy
      .exact hp.2.2 y hy x (by simp) (e.trans he.symm)
      .exact(List.pairwise_cons.1 hp.2.1).1 y hy (he.trans e.symm)
     omega)
    simp at this|-
    omega
   .have :=ih tr hp (fun y hy=>by
     have h1:=h y hy;have h2:y.1≠n:=fun e=>hx ⟨y,hy,e⟩;omega)
    omega
 exact key _ _ hn hm
end
end
section
open Go.RowKit
def W(P:Program)(c:Code)(Q:Exit->Act->LG->Prop)(a:Act)(M:LG):Prop:=∀T w0 w,BD T w0 w M.flatten->c.wp P (QW T w0 Q) a w
def acf(K:Act->LG->Prop)(Q:Exit->Act->LG->Prop):Exit->Act->LG->Prop
 | .normal,a,M=>K a M
 |e,a,M=>Q e a M
def acM(id:Nat)(Q:Exit->Act->LG->Prop):Exit->Act->LG->Prop
 | .exit i,a,M=>if i=id then Q .normal a M else Q (.exit i) a M
 |e,a,M=>Q e a M
def BQ(P:Program)(fn:Func)(n:Nat)(R:Ending->LG->Prop):Exit->Act->LG->Prop
 | .normal,a,M| .ret,a,M=>a.defers=[]/\∃v Y,(∀T w0 w,BD T w0 w M.flatten->(results fn a.tmps).run P w= .ok v w/\BD T w0 w Y.flatten)/\Y.length=n/\R (.returned v) Y
 | .panic c,a,M=>a.defers=[]/\∃Y,(∀T w0 w,BD T w0 w M.flatten->BD T w0 w Y.flatten)/\Y.length=n/\R (.panicked c) Y
 |_,_,_=>False
def aai(P:Program)(f:FuncId)(args:Array Value)(X:LG)(R:Ending->LG->Prop):Prop:=∀T w,BD T w w X.flatten->Calls P f args w fun e w'=>∃Y,Y.length=X.length/\R e Y/\BD T w w' Y.flatten
section
variable {P:Program} {Q:Exit->Act->LG->Prop} {a:Act} {M:LG} {x y c:Code} {id:Nat}
theorem W.mono{Q':Exit->Act->LG->Prop}(h:W P c Q a M)(hq:∀e a M,Q e a M->Q' e a M):W P c Q' a M:=fun T w0 w hl=>Code.wp_mono (fun e a w ⟨M,hl,hQ⟩=>⟨M,hl,hq _ _ _ hQ⟩) (h T w0 w hl)
theorem W.seq(h:W P x (acf (W P y Q) Q) a M):W P (.seq x y) Q a M:=fun T w0 w hl=>wp_seq (Code.wp_mono (fun e a w ⟨M,hl,hQ⟩=>by cases e<;>first |exact hQ T w0 w hl|exact⟨M,hl,hQ⟩) (h T w0 w hl))
theorem W.cond{k:Operand}{t:Bool}(h:W P (if t then x else y) Q a M)(hk:a.eval k= .bool t):W P (.cond k x y) Q a M:=fun T w0 w hl=>wp_cond hk (h T w0 w hl)
theorem W.ab7{k:Operand}(h:W P x Q a M)(hk:a.eval k= .bool true:=by rfl):W P (.cond k x y) Q a M:=W.cond (t:=true) h hk
theorem W.ace{k:Operand}(h:W P y Q a M)(hk:a.eval k= .bool false:=by rfl):W P (.cond k x y) Q a M:=W.cond (t:=false) h hk
theorem W.block(h:W P c (acM id Q) a M):W P (.block id c) Q a M:=fun T w0 w hl=>wp_block (Code.wp_mono (fun e a w ⟨M,hl,hQ⟩=>by
 cases e<;>first |exact⟨M,hl,hQ⟩|skip
 rename_i i;unfold acM at hQ;unfold Exit.inBlock;dsimp only at hQ|-;split<;>rename_i h<;>simp only[h,if_true,if_false]at hQ<;>exact⟨M,hl,hQ⟩) (h T w0 w hl))
theorem W.ret(h:Q .ret a M):W P .ret Q a M:=fun T w0 w hl=>wp_ret ⟨M,hl,h⟩
theorem W.skip(h:Q .normal a M):W P .skip Q a M:=fun T w0 w hl=>wp_skip ⟨M,hl,h⟩
theorem W.exit(h:Q (.exit id) a M):W P (.exit id) Q a M:=fun T w0 w hl=>wp_exit ⟨M,hl,h⟩
theorem W.goto{l:Nat}(h:Q (.goto l) a M):W P (.goto l) Q a M:=fun T w0 w hl=>wp_goto ⟨M,hl,h⟩
theorem acI{p:Nat->Prop}(h:∃n,p n):∃n,p n/\∀m,p m->n<=m:=by
 obtain⟨n,hn⟩:=h;induction n using Nat.strongRecOn with
 |_ n ih=>
  by_cases h:∃m,m<n/\p m
  .obtain⟨m,hm,hp⟩:=h;exact ih m hm hp
  .exact⟨n,hn,fun m hm=>by
    rcases Nat.lt_or_ge m n with h1|h1
    .exact absurd ⟨m,h1,hm⟩ h
    .exact h1⟩
open Classical in
theorem acK{Q:Exit->Act->World->Prop}{w:World}(I:Nat->Act->World->Prop)(n:Nat)(h₀:I n a w)(round:∀n a w,I n a w->c.wp P (Exit.then (fun a' w'=>∃m,m<n/\I m a' w') Q) a w):(Code.loop c).wp P Q a w:=by
 have hex:∀a w,∃m,(∃n,I n a w)->I m a w/\∀n,I n a w->m<=n:=fun a w=>by
  by_cases h:∃n,I n a w
  .obtain⟨m,h1,h2⟩:=acI h;exact⟨m,fun _=>⟨h1,h2⟩⟩
  .exact⟨0,fun h'=>absurd h' h⟩
 refine wp_loop (fun a w=>∃n,I n a w) (fun a w=>Classical.choose (hex a w)) ⟨n,h₀⟩ fun a w hI=>?_;obtain⟨h1,h2⟩:=Classical.choose_spec (hex a w) hI;refine Code.wp_mono (fun e a' w' q=>?_) (round _ a w h1);cases e<;>first |exact q|skip
 obtain⟨m,hm,hIm⟩:=q;have :=(Classical.choose_spec (hex a' w') ⟨m,hIm⟩).2 m hIm;exact⟨⟨m,hIm⟩,by show Classical.choose _<Classical.choose _;omega⟩
theorem W.loop(I:Nat->Act->LG->Prop)(n:Nat)(h₀:I n a M)(round:∀n a M,I n a M->W P c (acf (fun a' M'=>∃m,m<n/\I m a' M') Q) a M):W P (.loop c) Q a M:=fun T w0 w hl=>
 acK (fun n a w=>∃M,BD T w0 w M.flatten/\I n a M) n ⟨M,hl,h₀⟩ fun n a w ⟨M,hl,hI⟩=>Code.wp_mono (fun e a w ⟨M,hl,q⟩=>by
  cases e<;>first |exact⟨M,hl,q⟩|skip
  obtain⟨m,hm,hI⟩:=q;exact⟨m,hm,M,hl,hI⟩) (round n a M hI T w0 w hl)
theorem W.know{p:Prop}(hp:∀T w0 w,BD T w0 w M.flatten->p)(h:p->W P c Q a M):W P c Q a M:=fun T w0 w hl=>h (hp T w0 w hl) T w0 w hl
theorem W.turn{M':LG}(h:W P c Q a M')(hM:∀T w0 w,BD T w0 w M.flatten->BD T w0 w M'.flatten):W P c Q a M:=fun T w0 w hl=>h T w0 w (hM T w0 w hl)
theorem aai.enter{f:FuncId}{fn:Func}{args:Array Value}{X:LG}{R:Ending->LG->Prop}(hf:P.funcs[f]? =some fn)(hb:fn.body=some c)(h:W P c (BQ P fn X.length R) {tmps:=args++Array.replicate (fn.ntmps-args.size) undef,defers:=[]} X):aai P f args X R:=fun T w hl=>by
 refine calls_of_wp hf hb (Code.wp_mono (fun e a w' ⟨M,hl,hQ⟩=>?_) (h T w w hl));cases e with
 |normal=>obtain⟨hd,v,Y,h1,h2,h3⟩:=hQ;exact⟨hd,v,(h1 _ _ _ hl).1,Y,h2,h3,(h1 _ _ _ hl).2⟩
 |ret=>obtain⟨hd,v,Y,h1,h2,h3⟩:=hQ;exact⟨hd,v,(h1 _ _ _ hl).1,Y,h2,h3,(h1 _ _ _ hl).2⟩
 |panic c=>obtain⟨hd,Y,h1,h2,h3⟩:=hQ;exact⟨hd,Y,h2,h3,h1 _ _ _ hl⟩
 |exit i=>exact hQ.elim
 |goto l=>exact hQ.elim
 |outgrown=>exact hQ.elim
theorem aai.mono{f:FuncId}{args:Array Value}{X:LG}{R R':Ending->LG->Prop}(h:aai P f args X R)(hR:∀e Y,R e Y->R' e Y):aai P f args X R':=fun T w hl=>(h T w hl).mono fun _ _ ⟨Y,h1,h2,h3⟩=>⟨Y,h1,hR _ _ h2,h3⟩
end
inductive Tr where
 |p
 |d (tr:List (Nat×aaw))
inductive aa4 (n:Nat) (f:aaw):Tr->Tr->Prop where
 |p:aa4 n f .p .p
 |d {tr:List (Nat×aaw)}:aa4 n f (.d ((n,f)::tr)) (.d tr)
def DrN(P:Program)(ops:Array Oper)(Q:Exit->Act->LG->Prop)(n:Nat):Tr->Act->LG->Prop
 | .p,a,M=>∀T w0 w,BD T w0 w M.flatten->wpOps P ops (QW T w0 Q) (List.range' n (ops.size-n)) a w
 | .d tr,a,M=>Der P ops Q tr a M
section
variable {P:Program} {ops:Array Oper} {Q:Exit->Act->LG->Prop} {a a':Act} {M M':LG} {id n m:Nat} {tr:List (Nat×aaw)} {t t':Tr} {f:aaw} {o:Oper} {v:Value}
theorem abo(ht:aa4 n f t t')(hi:ops[n]? =some o)(h:Nd P ops Q (n,f) (DrN P ops Q (n+1) t') a M):DrN P ops Q n t a M:=by
 cases ht with
 |p=>
  intro T w0 w hl;have hlt:n<ops.size:=(Array.getElem?_eq_some_iff.1 hi).1;rw[show ops.size-n=(ops.size-(n+1))+1 from by omega,List.range'_succ,wpOps_cons];exact wpOp_mono (fun a' w' ⟨M',hl',hd'⟩=>hd' T w0 w' hl') (abW h hl)
 |d=>exact h
def RgT(P:Program)(ops:Array Oper)(Q:Exit->Act->LG->Prop)(l:List Nat)(pre:List (Nat×aaw))(a:Act)(M:LG):Prop:=∃fs:List aaw,fs.length=l.length/\Der P ops Q (pre++l.zip fs) a M/\chk ops (pre++l.zip fs)=true
theorem rgk{i:Nat}{l:List Nat}{pre pre':List (Nat×aaw)}{f:aaw}(h:RgT P ops Q l pre' a M)(e:pre++[(i,f)]=pre':=by simp only[nAq,cAq];exact rfl):RgT P ops Q (i::l) pre a M:=by
 obtain⟨fs,h1,h2,h3⟩:=h;subst e;exact⟨f::fs,by simp[h1],by simpa using h2,by simpa using h3⟩
theorem rgz{pre:List (Nat×aaw)}(n:Nat)(h:DrN P ops Q n (.d pre) a M)(hc:chk ops pre=true):RgT P ops Q [] pre a M:=⟨[],rfl,by simpa[DrN]using h,by simpa using hc⟩
theorem W.rgo(l:List Nat)(h:RgT P ops Q l [] a M)(hm:P.follows .mixedOrders=true:=by kernel_rfl)(hQ:∀c a d v M,Q (.panic c) (a.put d v) M->Q (.panic c) a M:=by intro c a d v M h;cases d<;>exact h):W P (.region id ops true) Q a M:=fun T w0 w hl=>by
 obtain⟨fs,h1,h2,h3⟩:=h;exact acp hm hQ h2 h3 hl
theorem W.rgd(h:RgT P ops Q (List.range ops.size) [] a M)(hm:P.follows .mixedOrders=true:=by kernel_rfl)(hQ:∀c a d v M,Q (.panic c) (a.put d v) M->Q (.panic c) a M:=by intro c a d v M h;cases d<;>exact h):W P (.region id ops true) Q a M:=W.rgo _ h hm hQ
theorem W.rgp(h:DrN P ops Q 0 .p a M):W P (.region id ops false) Q a M:=fun T w0 w hl=>by
 have :=h T w0 w hl;rw[Nat.sub_zero,<-List.range_eq_range']at this;exact wp_region this
theorem fnq(h:Q .normal a M)(hz:ops[n]? =none:=by rfl)(ht:t= .p\/t= .d []:=by first |exact Or.inl rfl|exact Or.inr rfl):DrN P ops Q n t a M:=by
 rcases ht with rfl|rfl
 .intro T w0 w hl
  have :ops.size<=n:=by simpa using hz
  rw[show ops.size-n=0 from by omega];exact⟨M,hl,h⟩
 .exact h
theorem fsq{y:Code}{Q:Exit->Act->LG->Prop}(h:W P y Q a M)(hz:ops[n]? =none:=by rfl)(ht:t= .p\/t= .d []:=by first |exact Or.inl rfl|exact Or.inr rfl):DrN P ops (acf (W P y Q) Q) n t a M:=fnq h hz ht
theorem jmq(i:Nat)(h:DrN P ops Q i (.d tr) a M):DrN P ops Q n (.d tr) a M:=h
theorem yq{d:Tmp}{op:Op}{vz:TypeId}{pos:String}{Sm:Array Edge}{gd:Option (Nat×Bool)}(h:DrN P ops Q m t' a' M)(hi:ops[n]? =some (Oper.mk (some d) op vz pos Sm gd):=by rfl)(hw:Region.wanted (Oper.mk (some d) op vz pos Sm gd) (yielded ops a.tmps)=true:=by rfl)(hy:∀w,(execOp a.eval (Oper.mk (some d) op vz pos Sm gd)).run P w= .ok (.value v) w:=by intro w;first |(go_simp;done)|(go_simp;with_reducible rfl))(ht:aa4 n (.y []) t t':=by first |exact aa4.p|exact aa4.d)(ha:a.put (some d) v=a':=by(try simp only[Act.put,sAq,sZq,sSq]);exact rfl)(hm:n+1=m:=by simp only[Nat.reduceAdd];exact rfl):DrN P ops Q n t a M:=
 abo ht hi ⟨_,hi,List.nodup_nil,v,.inl ⟨hw,fun w _=>hy w⟩,by show DrN P ops Q (n+1) t' (a.put (some d) v) M;rw[hm,ha];exact h⟩
theorem uq{d:Tmp}{op:Op}{vz:TypeId}{pos:String}{Sm:Array Edge}{gd:Option (Nat×Bool)}(h:DrN P ops Q m t' a' M)(hi:ops[n]? =some (Oper.mk (some d) op vz pos Sm gd):=by rfl)(hw:Region.wanted (Oper.mk (some d) op vz pos Sm gd) (yielded ops a.tmps)=false:=by rfl)(ht:aa4 n (.y []) t t':=by first |exact aa4.p|exact aa4.d)(ha:a.put (some d) undef=a':=by(try simp only[Act.put,sAq,sZq,sSq]);exact rfl)(hm:n+1=m:=by simp only[Nat.reduceAdd];exact rfl):DrN P ops Q n t a M:=
 abo ht hi ⟨_,hi,List.nodup_nil,undef,.inr ⟨hw,rfl⟩,by show DrN P ops Q (n+1) t' (a.put (some d) undef) M;rw[hm,ha];exact h⟩
def abv(g:List ai)(b k:Nat)(v:Value):Prop:=∀T w0 w R,BD T w0 w (g++R)->w.cell? ⟨b,k,none⟩=some v
theorem abv.box{b k ty:Nat}{cs:Array Value}{r:List ai}(h:cs[k]? =some v):abv (box b ty cs::r) b k v:=fun T w0 w R hl=>(Cg.cell (hl.box 0 rfl) k).trans h
theorem abv.tail{b k:Nat}{t:ai}{r:List ai}(h:abv r b k v):abv (t::r) b k v:=fun T w0 w R hl=>h T w0 w (R++[t]) (hl.prm (by
 rw[List.cons_append,<-List.append_assoc];exact List.perm_append_comm (l₁:=[t])))
inductive LdM (b k:Nat) (v:Value):LG->Nat->Prop where
 |here {g:List ai} {M:LG} (h:abv g b k v):LdM b k v (g::M) 0
 |there {g:List ai} {M:LG} {s:Nat} (h:LdM b k v M s):LdM b k v (g::M) (s+1)
theorem LdM.at{b k s:Nat}(h:LdM b k v M s):abv (gat M s) b k v:=by
 induction h with
 |here h=>exact h
 |there _ ih=>rw[abf];exact ih
theorem lq{d:Tmp}{vz:TypeId}{pos:String}{Sm:Array Edge}{gd:Option (Nat×Bool)}{b k s:Nat}{ty:TypeId}{x:Operand}(h:DrN P ops Q m t' a' M)(hi:ops[n]? =some (Oper.mk (some d) (.load ty x) vz pos Sm gd):=by rfl)(hw:Region.wanted (Oper.mk (some d) (.load ty x) vz pos Sm gd) (yielded ops a.tmps)=true:=by rfl)(hx:a.eval x= .pointer (some ⟨b,k,none⟩):=by rfl)(hl:LdM b k v M s:=by(repeat (first |exact LdM.here (by first |assumption|((repeat (first |exact abv.box (by simp only[List.getElem?_toArray,List.getElem?_cons_zero,List.getElem?_cons_succ];exact rfl)|apply abv.tail));done)|fail)|apply LdM.there));done)(hy:∀w,w.cell? ⟨b,k,none⟩=some v->(execOp a.eval (Oper.mk (some d) (.load ty x) vz pos Sm gd)).run P w= .ok (.value v) w:=by intro w hc;first |(go_simp;done)|fail)(ha:a.put (some d) v=a':=by(try simp only[Act.put,sAq,sZq,sSq]);exact rfl)(hm:n+1=m:=by simp only[Nat.reduceAdd];exact rfl)(ht:aa4 n (.y [s]) t t':=by first |exact aa4.p|exact aa4.d):DrN P ops Q n t a M:=
 abo ht hi ⟨_,hi,by simp,v,.inl ⟨hw,fun w ⟨T,w0,R,hg⟩=>hy w (hl.at T w0 w R (by simpa[gets]using hg))⟩,by show DrN P ops Q (n+1) t' (a.put (some d) v) M;rw[hm,ha];exact h⟩
end
end
section
open Go.RowKit
def abd(g:List ai)(b k z:Nat)(us:List Value):Prop:=us.length=z/\∀T w0 w R,BD T w0 w (g++R)->∀j v,us[j]? =some v->w.cell? ⟨b,k+j,none⟩=some v
theorem abd.box{b ty k z:Nat}{cs:Array Value}{us:List Value}{r:List ai}(h:(cs.toList.drop k).take z=us)(hz:us.length=z):abd (box b ty cs::r) b k z us:=⟨hz,fun T w0 w R hl j v hv=>by
 rw[Cg.cell (hl.box 0 rfl)];rw[<-h,List.getElem?_take]at hv;split at hv
 .rw[List.getElem?_drop]at hv
  simpa using hv
 .cases hv⟩
theorem abd.tail{b k z:Nat}{us:List Value}{t:ai}{r:List ai}(h:abd r b k z us):abd (t::r) b k z us:=⟨h.1,fun T w0 w R hl=>h.2 T w0 w (R++[t]) (hl.prm (by
 rw[List.cons_append,<-List.append_assoc];exact List.perm_append_comm (l₁:=[t])))⟩
inductive abE (b k z:Nat) (us:List Value):LG->Nat->Prop where
 |here {g:List ai} {M:LG} (h:abd g b k z us):abE b k z us (g::M) 0
 |there {g:List ai} {M:LG} {s:Nat} (h:abE b k z us M s):abE b k z us (g::M) (s+1)
theorem abE.at{b k z s:Nat}{us:List Value}{M:LG}(h:abE b k z us M s):abd (gat M s) b k z us:=by
 induction h with
 |here h=>exact h
 |there _ ih=>rw[abf];exact ih
def ack:Array Value->Nat->List Value->Array Value
 |cs,_,[]=>cs
 |cs,k,u::us=>ack (cs.setIfInBounds k u) (k+1) us
theorem acD(cs:Array Value)(k:Nat):ack cs k []=cs:=rfl
theorem acr(cs:Array Value)(k:Nat)(u:Value)(us:List Value):ack cs k (u::us)=ack (cs.setIfInBounds k u) (k+1) us:=rfl
theorem abP{b ty:Nat}{r:List ai}(P:Program)(T:List Nat)(w0:World):∀(us:List Value) (cs:Array Value) (k i:Nat) (w:World),(∀u∈us,u.oneCell'=true)->k+i+us.length<=cs.size->BD T w0 w (box b ty cs::r)->∃w',(storeCells ⟨b,k,none⟩ us i).run P w= .ok () w'/\BD T w0 w' (box b ty (ack cs (k+i) us)::r)
 |[],cs,k,i,w,_,_,hl=>⟨w,rfl,hl⟩
 |u::us,cs,k,i,w,h1,h2,hl=>by
  have hb:=hl.box 0 (b:=b) (t:=ty) (cs:=cs) rfl;have hlt:k+i<cs.size:=by simp at h2;omega
  have hc:w.cell? ⟨b,k+i,none⟩=some cs[k+i]:=(hb.cell (k+i)).trans (by simp[hlt]);obtain⟨w',hw,hl'⟩:=abP P T w0 us (cs.setIfInBounds (k+i) u) k (i+1) (w.setCell ⟨b,k+i,none⟩ u) (fun u hu=>h1 u (by simp[hu])) (by simp at h2|-;omega) (hl.set 0 rfl (k+i) u);refine⟨w',?_,hl'⟩;have hs:(store ((⟨b,k,none⟩:Addr).add i) u).run P w= .ok () (w.setCell ⟨b,k+i,none⟩ u):=by
   rw[Addr.add_lit,run_store P w _ u .plain (h1 u (by simp)),hc];simp[hb.frozen]
  show(storeCells ⟨b,k,none⟩ (u::us) i).run P w=_
  unfold storeCells;rw[Sem.run_bind,hs];exact hw
def StB(g:List ai)(b k:Nat)(us:List Value)(g':List ai):Prop:=∀(P:Program) T w0 w R,BD T w0 w (g++R)->∃w',(storeCells ⟨b,k,none⟩ us).run P w= .ok () w'/\BD T w0 w' (g'++R)
theorem StB.box{b ty k:Nat}{cs cs':Array Value}{us:List Value}{r:List ai}(h1:us.all Value.oneCell'=true)(h2:k+us.length<=cs.size)(e:ack cs k us=cs'):StB (Proofs.YtegejdlglonflaaGreatDoor.box b ty cs::r) b k us (Proofs.YtegejdlglonflaaGreatDoor.box b ty cs'::r):=fun P T w0 w R hl=>by
 have :=abP (b:=b) (ty:=ty) (r:=r++R) P T w0 us cs k 0 w (by simpa using h1) (by simpa using h2) hl;rw[Nat.add_zero,e]at this;exact this
theorem StB.tail{b k:Nat}{us:List Value}{t:ai}{r r':List ai}(h:StB r b k us r'):StB (t::r) b k us (t::r'):=fun P T w0 w R hl=>by
 obtain⟨w',h1,h2⟩:=h P T w0 w (R++[t]) (hl.prm (by rw[List.cons_append,<-List.append_assoc];exact List.perm_append_comm (l₁:=[t])));exact⟨w',h1,h2.prm (by rw[List.cons_append,<-List.append_assoc];exact(List.perm_append_comm (l₁:=[t])).symm)⟩
inductive StM (b k:Nat) (us:List Value) (g':List ai):LG->Nat->Prop where
 |here {g:List ai} {M:LG} (h:StB g b k us g'):StM b k us g' (g::M) 0
 |there {g:List ai} {M:LG} {s:Nat} (h:StM b k us g' M s):StM b k us g' (g::M) (s+1)
theorem StM.at{b k s:Nat}{us:List Value}{g':List ai}{M:LG}(h:StM b k us g' M s):StB (gat M s) b k us g':=by
 induction h with
 |here h=>exact h
 |there _ ih=>rw[abf];exact ih
inductive Len:LG->Nat->Prop where
 |nil:Len [] 0
 |cons {g:List ai} {M:LG} {s:Nat} (h:Len M s):Len (g::M) (s+1)
theorem Len.at{M:LG}{s:Nat}(h:Len M s):gat M s=[]:=by
 induction h with
 |nil=>rfl
 |cons _ ih=>rw[abf];exact ih
inductive AtM:LG->List ai->Nat->Prop where
 |here {g:List ai} {M:LG}:AtM (g::M) g 0
 |there {g x:List ai} {M:LG} {s:Nat} (h:AtM M g s):AtM (x::M) g (s+1)
 |fresh:AtM [] [] 0
theorem AtM.at{M:LG}{g:List ai}{s:Nat}(h:AtM M g s):gat M s=g:=by
 induction h with
 |here=>rfl
 |there _ ih=>rw[abf];exact ih
 |fresh=>rfl
inductive abL (M:LG):LG->List Nat->Prop where
 |nil:abL M [] []
 |cons {g:List ai} {X:LG} {s:Nat} {rs:List Nat} (h:AtM M g s) (h2:abL M X rs):abL M (g::X) (s::rs)
theorem abL.gets{M X:LG}{rs:List Nat}(h:abL M X rs):gets M rs=X.flatten/\rs.length=X.length:=by
 induction h with
 |nil=>exact⟨rfl,rfl⟩
 |cons h _ ih=>
  refine⟨?_,by simp[ih.2]⟩;have :=ih.1;unfold Proofs.YtegejdlglonflaaGreatDoor.gets at this|-;rw[List.map_cons,List.flatten_cons,this,h.at,List.flatten_cons]
section
variable {P:Program} {ops:Array Oper} {Q:Exit->Act->LG->Prop} {a a':Act} {M M':LG} {id n m:Nat} {t t':Tr} {o:Oper} {v:Value}
theorem abS{P:Program}{ty:TypeId}{z:Nat}(h:∀w,(sizeOf ty).run P w= .ok z w):(P.info? ty).map (·.size)=some z:=by
 have :=h default;cases hq:P.info? ty with
 |none=>simp[sizeOf,typeInfo,hq]at this
 |some i=>simpa[sizeOf,typeInfo,hq]using this
def acB(P:Program)(ty:TypeId):Bool:=match P.underlying ty with
 |some (.struct _)=>true
 |some (.array _ _)=>true
 |_=>false
theorem lsq{d:Tmp}{vz:TypeId}{pos:String}{Sm:Array Edge}{gd:Option (Nat×Bool)}{b k s:Nat}{ty:TypeId}{x:Operand}{us:List Value}{z:Nat}(h:DrN P ops Q m t' a' M)(hi:ops[n]? =some (Oper.mk (some d) (.load ty x) vz pos Sm gd):=by rfl)(hw:Region.wanted (Oper.mk (some d) (.load ty x) vz pos Sm gd) (yielded ops a.tmps)=true:=by rfl)(hx:a.eval x= .pointer (some ⟨b,k,none⟩):=by rfl)(hu:acB P ty=true:=by rfl)(hz:∀w,(sizeOf ty).run P w= .ok z w:=by intro w;first |(go_simp;done)|(go_simp;with_reducible rfl))(hl:abE b k z us M s:=by(repeat (first |exact abE.here (by first |assumption|((repeat (first |exact abd.box (by simp only[List.drop_zero,List.drop_succ_cons,List.take_succ_cons,List.take_zero];exact rfl) rfl|apply abd.tail));done)|fail)|apply abE.there));done)(ha:a.put (some d) (.agg us.toArray)=a':=by(try simp only[Act.put,sAq,sZq,sSq]);exact rfl)(hm:n+1=m:=by simp only[Nat.reduceAdd];exact rfl)(ht:aa4 n (.y [s]) t t':=by first |exact aa4.p|exact aa4.d):DrN P ops Q n t a M:=by
 refine abo ht hi ⟨_,hi,by simp,.agg us.toArray,.inl ⟨hw,fun w ⟨T,w0,R,hg⟩=>?_⟩,by show DrN P ops Q (n+1) t' (a.put (some d) (.agg us.toArray)) M;rw[hm,ha];exact h⟩;obtain⟨hzl,hc⟩:=hl.at;have hc:=hc T w0 w R (by simpa[gets]using hg);have hz:=abS hz;subst hzl;have hlc:(loadCells ⟨b,k,none⟩ us.length).run P w= .ok us.toArray w:=run_loadCells_list (P:=P) w ⟨b,k,none⟩ us (fun j v hv=>by rw[Addr.add_lit];exact hc j v hv);unfold execOp;simp only[hx,Instr.loadAt,Instr.sureAddr,Sem.run_bind,Sem.run_pure,Result.andThen_ok];cases hq:P.info? ty with
 |none=>simp[hq]at hz
 |some i=>
  have hs:i.size=us.length:=by simpa[hq]using hz
  have hagg:(isAgg ty).run P w= .ok true w:=by
   unfold acB at hu;unfold isAgg;cases hud:P.underlying ty with
   |none=>simp[hud]at hu
   |some td=>
    rw[Sem.run_bind,run_underlying hud w];rw[hud]at hu;cases td<;>simp_all
  simp[loadVar,Sem.run_bind,hagg,sizeOf,typeInfo,hq,hs,hlc]
theorem sq{vz:TypeId}{pos:String}{Sm:Array Edge}{gd:Option (Nat×Bool)}{b k s:Nat}{ty:TypeId}{p q:Operand}{us:List Value}{z:Nat}{g':List ai}(h:DrN P ops Q m t' a M')(hi:ops[n]? =some (Oper.mk (none) (.store ty p q) vz pos Sm gd):=by rfl)(hw:Region.wanted (Oper.mk (none) (.store ty p q) vz pos Sm gd) (yielded ops a.tmps)=true:=by rfl)(hp:a.eval p= .pointer (some ⟨b,k,none⟩):=by rfl)(hq:(a.eval q).cells.toList=us:=by first |(go_simp;with_reducible rfl)|(go_simp;simp only[Value.cells];with_reducible rfl))(hl:StM b k us g' M s:=by(repeat (first |exact StM.here (by first |assumption|((repeat (first |exact StB.box (by simp[Value.oneCell']) (by simp) (by simp only[acr,acD,sAq,sZq,sSq,Nat.reduceAdd];exact rfl)|apply StB.tail));done)|fail)|apply StM.there));done)(hz:∀w,(sizeOf ty).run P w= .ok z w:=by intro w;first |(go_simp;done)|(go_simp;with_reducible rfl))(hzl:us.length=z:=by rfl)(hM:aaE M s g'=M':=by simp only[aa6,aaA];exact rfl)(hm:n+1=m:=by simp only[Nat.reduceAdd];exact rfl)(ht:aa4 n (.s s) t t':=by first |exact aa4.p|exact aa4.d):DrN P ops Q n t a M:=by
 refine abo ht hi ⟨_,hi,undef,g',⟨hw,fun T w0 w R hg=>?_⟩,by show DrN P ops Q (n+1) t' a (aaE M s g');rw[hm,hM];exact h⟩;obtain⟨w',h1,h2⟩:=hl.at P T w0 w R hg;have hz:=abS hz;subst hzl;refine⟨w',.inr ⟨?_,rfl⟩,h2⟩;unfold execOp;cases hi':P.info? ty with
 |none=>simp[hi']at hz
 |some i=>
  have hs:(a.eval q).cells.size=i.size:=by rw[<-Array.length_toList,hq];simp[hi']at hz;omega
  have hv:(storeVar ty ⟨b,k,none⟩ (a.eval q)).run P w= .ok () w':=by simp[storeVar,sizeOf,typeInfo,hi',hs,hq,h1]
  simp only[hp,Instr.storeAt,Instr.sureAddr,Sem.run_bind,Sem.run_pure,Result.andThen_ok,hv]
theorem mq{d:Tmp}{op:Op}{vz:TypeId}{pos:String}{Sm:Array Edge}{gd:Option (Nat×Bool)}{tt:Nat}{ty:TypeId}{cs:Array Value}{A:Nat->Act}{M':Nat->LG}(h:∀g,DrN P ops Q m t' (A g) (M' g))(hi:ops[n]? =some (Oper.mk (some d) op vz pos Sm gd):=by rfl)(hw:Region.wanted (Oper.mk (some d) op vz pos Sm gd) (yielded ops a.tmps)=true:=by rfl)(hal:∀w,(execOp a.eval (Oper.mk (some d) op vz pos Sm gd)).run P w= .ok (.value (.pointer (some ⟨w.heap.size,0,none⟩))) (w.alloc (.cells cs ty)):=by intro w;first |(go_simp;done)|(go_simp;with_reducible rfl))(hln:Len M tt:=by(repeat (first |exact Len.nil|apply Len.cons));done)(ha:∀g,a.put (some d) (.pointer (some ⟨g,0,none⟩))=A g:=by intro g;(try simp only[Act.put,sAq,sZq,sSq]);exact rfl)(hM:∀g,aaE M tt [box g ty cs]=M' g:=by intro g;simp only[abn,aaA];exact rfl)(hm:n+1=m:=by simp only[Nat.reduceAdd];exact rfl)(ht:aa4 n (.m tt) t t':=by first |exact aa4.p|exact aa4.d):DrN P ops Q n t a M:=
 abo ht hi ⟨_,hi,hln.at,fun g=> .pointer (some ⟨g,0,none⟩),ty,cs,⟨hw,hal⟩,fun g _=>by
  show DrN P ops Q (n+1) t' (a.put (some d) (.pointer (some ⟨g,0,none⟩))) (aaE M tt [box g ty cs])
  rw[hm,ha g,hM g];exact h g⟩
def RetK(e:Ending)(K:Value->Prop):Prop:=∃v,e= .returned v/\K v
theorem cq{d:Tmp}{op:Op}{vz:TypeId}{pos:String}{Sm:Array Edge}{gd:Option (Nat×Bool)}{f:FuncId}{args:Array Value}{X:LG}{R:Ending->LG->Prop}{rs:List Nat}(hc:aai P f args X R)(h:∀e Y,R e Y->RetK e fun v=>DrN P ops Q m t' (a.put (some d) v) (puts M rs Y))(hi:ops[n]? =some (Oper.mk (some d) op vz pos Sm gd):=by rfl)(hw:Region.wanted (Oper.mk (some d) op vz pos Sm gd) (yielded ops a.tmps)=true:=by rfl)(hy:∀w,(execOp a.eval (Oper.mk (some d) op vz pos Sm gd)).run P w= .ok (.enter f args) w:=by intro w;first |(go_simp;done)|(go_simp;with_reducible rfl)|(go_simp;rfl))(hl:abL M X rs:=by repeat (first |exact abL.nil|(apply abL.cons;focus ((repeat (first |with_reducible exact AtM.here|exact AtM.fresh|apply AtM.there));done))))(hn:rs.Nodup:=by decide)(hm:n+1=m:=by simp only[Nat.reduceAdd];exact rfl)(ht:aa4 n (.c false rs []) t t':=by first |exact aa4.p|exact aa4.d):DrN P ops Q n t a M:=by
 obtain⟨h1,h2⟩:=hl.gets;refine abo ht hi ⟨_,hi,by rw[List.append_nil];exact hn,fun e Y=>R e Y,⟨hw,fun T w0 w Rr hg=>?_⟩,fun e Y hR _ _=>?_⟩
 .rw[h1]at hg
  obtain⟨T',ha,hb⟩:=hg.aN;unfold Oper.ends;rw[hy w];exact(hc T' w ha).mono fun e w' ⟨Y,hY,hR,hl'⟩=>⟨Y,by rw[hY,h2],hR,hb _ _ hl'⟩
 .obtain⟨v,rfl,hk⟩:=h e Y hR
  rw[<-hm]at hk;exact hk
def xq{α:Type}(H:α->Prop)(vf:α->Value)(Yf:α->LG)(e:Ending)(Y:LG):Prop:=∃x,H x/\e= .returned (vf x)/\Y=Yf x
theorem cr{d:Tmp}{op:Op}{vz:TypeId}{pos:String}{Sm:Array Edge}{gd:Option (Nat×Bool)}{f:FuncId}{args:Array Value}{X:LG}{α:Type}{H:α->Prop}{vf:α->Value}{Yf:α->LG}{A:α->Act}{M':α->LG}{rs:List Nat}(hc:aai P f args X (xq H vf Yf))(h:∀x,H x->DrN P ops Q m t' (A x) (M' x))(hi:ops[n]? =some (Oper.mk (some d) op vz pos Sm gd):=by rfl)(hw:Region.wanted (Oper.mk (some d) op vz pos Sm gd) (yielded ops a.tmps)=true:=by rfl)(hy:∀w,(execOp a.eval (Oper.mk (some d) op vz pos Sm gd)).run P w= .ok (.enter f args) w:=by intro w;first |(go_simp;done)|(go_simp;with_reducible rfl)|(go_simp;rfl))(hl:abL M X rs:=by repeat (first |exact abL.nil|(apply abL.cons;focus ((repeat (first |with_reducible exact AtM.here|exact AtM.fresh|apply AtM.there));done))))(hn:rs.Nodup:=by decide)(ha:∀x,a.put (some d) (vf x)=A x:=by intro x;(try simp only[Act.put,sAq,sZq,sSq]);exact rfl)(hM:∀x,puts M rs (Yf x)=M' x:=by intro x;(try simp only[puts,abn,aa6,aaA]);exact rfl)(hm:n+1=m:=by simp only[Nat.reduceAdd];exact rfl)(ht:aa4 n (.c false rs []) t t':=by first |exact aa4.p|exact aa4.d):DrN P ops Q n t a M:=
 cq hc (fun e Y ⟨x,hx,he,hY⟩=>⟨vf x,he,by show DrN P ops Q m t' (a.put (some d) (vf x)) (puts M rs Y);rw[ha x,hY,hM x];exact h x hx⟩) hi hw hy hl hn hm ht
theorem nq(h:DrN P ops Q n t a' M')(ha:a=a':=by(try simp only[Act.put,sAq,sZq,sSq]);exact rfl)(hM:M=M':=by(try simp only[puts,abn,aa6,aaA]);exact rfl):DrN P ops Q n t a M:=by subst ha;subst hM;exact h
theorem pq{d:Option Tmp}{op:Op}{vz:TypeId}{pos:String}{Sm:Array Edge}{gd:Option (Nat×Bool)}{f:FuncId}{args:Array Value}{X:LG}{R:Ending->LG->Prop}{rs:List Nat}(hc:aai P f args X R)(h:∀e Y,R e Y->∃c,e= .panicked c/\Q (.panic c) a (puts M rs Y))(hi:ops[n]? =some (Oper.mk d op vz pos Sm gd):=by rfl)(hw:Region.wanted (Oper.mk d op vz pos Sm gd) (yielded ops a.tmps)=true:=by rfl)(hy:∀w,(execOp a.eval (Oper.mk d op vz pos Sm gd)).run P w= .ok (.enter f args) w:=by intro w;first |(go_simp;done)|(go_simp;with_reducible rfl)|(go_simp;rfl))(hl:abL M X rs:=by repeat (first |exact abL.nil|(apply abL.cons;focus ((repeat (first |with_reducible exact AtM.here|exact AtM.fresh|apply AtM.there));done))))(hn:rs.Nodup:=by decide)(ht:aa4 n (.c true rs []) t t':=by first |exact aa4.p|exact aa4.d):DrN P ops Q n t a M:=by
 obtain⟨h1,h2⟩:=hl.gets;refine abo ht hi ⟨_,hi,by rw[List.append_nil];exact hn,fun e Y=>R e Y,⟨hw,fun T w0 w Rr hg=>?_⟩,fun e Y hR _ _=>?_⟩
 .rw[h1]at hg
  obtain⟨T',ha,hb⟩:=hg.aN;unfold Oper.ends;rw[hy w];exact(hc T' w ha).mono fun e w' ⟨Y,hY,hR,hl'⟩=>⟨Y,by rw[hY,h2],hR,hb _ _ hl'⟩
 .obtain⟨c,rfl,hk⟩:=h e Y hR
  exact⟨rfl,hk⟩
theorem acE{T:List Nat}{w0 w:World}(k:Nat)(h:BD T w0 w M.flatten):BD T w0 w (M.take k).flatten:=by
 rw[<-List.take_append_drop k M,List.flatten_append]at h;exact h.less
end
end
end Go.Proofs.YtegejdlglonflaaGreatDoor
