/-
  Texts of FirePlays, laid together by program.
-/
import Derived.Test.YtegejdlglonflaaGreatDoorWZ9
import Derived.Laws.StructEq
namespace Go.Proofs.YtegejdlglonflaaGreatDoor
open Go.RowKit Go.Shelf Go.Proofs.Tryz
set_option maxRecDepth 100000
set_option maxHeartbeats 8000000
set_option linter.unusedVariables false
set_option linter.unusedSimpArgs false
theorem Ml{P:Program}{ops:Array Oper}{Q:Exit->Act->World->Prop}{md:Region.Mode}{S:World->Prop}{i:Nat}{oi:Oper}{v:Value}{d:Option Tmp}{fuel:Nat}{listed:Array Bool}{a:Act}{w:World}(hi:ops[i]? =some oi)(hd:oi.dst=d)(hs:Region.noSelect ops=true)(hf:Region.free md ops listed i=true)(hr:(Region.ready md ops listed).contains i=true)(hQ:∀c a w,Q (.panic c) (a.put d v) w->Q (.panic c) a w)(hy:YieldsIf P ops S oi v a)(hS:S w)(h:wpAnyH P md ops Q S fuel (listed.setIfInBounds i true) (a.put d v) w):wpAnyH P md ops Q S (fuel+1) listed a w:=by
 subst hd;exact wpAnyH_take hi hs hf hr hQ hy hS h
theorem PE.eq_iff(x y:ME):x.plain=y.plain↔(x.sync=y.sync/\x.thread=y.thread/\x.branch=y.branch/\x.flag=y.flag)/\x.v.plain=y.v.plain:=by
 obtain⟨a,b,c,d,v⟩:=x;obtain⟨a',b',c',d',v'⟩:=y;simp only[ME.plain,PE.mk.injEq,and_assoc]
theorem gY(x y:ME)(w:World)(hx:x.v.In w)(hy:y.v.In w)(hnx:x.v.nodes<=1048576)(hny:y.v.nodes<=1048576):Calls prog 24 #[x.val,y.val] w (aI (x.v.nodes<=256/\y.v.nodes<=256/\x.plain=y.plain) w):=by
 by_cases F8:x.sync=y.sync;rotate_left
 .have hne:(x.sync==y.sync)=false:=by simpa using F8
  have HC:=hdq (fun W (hW:Touch [] w W)=>jI x.v y.v W (hx.aO hW) (hy.aO hW) hnx hny);clear hx hy hnx hny;simp only[bB,eG]at HC|-;have z1:w.heap.size<w.heap.size+1:=by omega
  have z2:w.heap.size<w.heap.size+1+1:=by omega
  go_enter func24,ntmps24
  go_wp2;go_ret
  exact aI.no (fun h=>F8 ((PE.eq_iff x y).1 h.2.2).1.1) (((Touch.refl [] w).alloc _).alloc _)
 by_cases EN:x.thread=y.thread;rotate_left
 .have hne:(x.thread==y.thread)=false:=by simpa using EN
  have HC:=hdq (fun W (hW:Touch [] w W)=>jI x.v y.v W (hx.aO hW) (hy.aO hW) hnx hny);clear hx hy hnx hny;simp only[bB,eG]at HC|-;have z1:w.heap.size<w.heap.size+1:=by omega
  have z2:w.heap.size<w.heap.size+1+1:=by omega
  go_enter func24,ntmps24
  go_wp2;go_ret
  exact aI.no (fun h=>EN ((PE.eq_iff x y).1 h.2.2).1.2.1) (((Touch.refl [] w).alloc _).alloc _)
 by_cases EJ:x.branch=y.branch;rotate_left
 .have hne:(x.branch==y.branch)=false:=by simpa using EJ
  have HC:=hdq (fun W (hW:Touch [] w W)=>jI x.v y.v W (hx.aO hW) (hy.aO hW) hnx hny);clear hx hy hnx hny;simp only[bB,eG]at HC|-;have z1:w.heap.size<w.heap.size+1:=by omega
  have z2:w.heap.size<w.heap.size+1+1:=by omega
  go_enter func24,ntmps24
  go_wp2;go_ret
  exact aI.no (fun h=>EJ ((PE.eq_iff x y).1 h.2.2).1.2.2.1) (((Touch.refl [] w).alloc _).alloc _)
 by_cases FZ:x.flag=y.flag;rotate_left
 .have hne:(x.flag==y.flag)=false:=by simpa using FZ
  have HC:=hdq (fun W (hW:Touch [] w W)=>jI x.v y.v W (hx.aO hW) (hy.aO hW) hnx hny);clear hx hy hnx hny;simp only[bB,eG]at HC|-;have z1:w.heap.size<w.heap.size+1:=by omega
  have z2:w.heap.size<w.heap.size+1+1:=by omega
  go_enter func24,ntmps24
  go_wp2;go_ret
  exact aI.no (fun h=>FZ ((PE.eq_iff x y).1 h.2.2).1.2.2.2) (((Touch.refl [] w).alloc _).alloc _)
 have e0:(x.sync==y.sync)=true:=by simpa using F8
 have e1:(x.thread==y.thread)=true:=by simpa using EN
 have e2:(x.branch==y.branch)=true:=by simpa using EJ
 have e3:(x.flag==y.flag)=true:=by simpa using FZ
 have HEQ:Hid (x.sync=y.sync/\x.thread=y.thread/\x.branch=y.branch/\x.flag=y.flag):=⟨F8,EN,EJ,FZ⟩;clear F8 EN EJ FZ;have HC:=hdq (fun W (hW:Touch [] w W)=>jI x.v y.v W (hx.aO hW) (hy.aO hW) hnx hny);clear hx hy hnx hny;simp only[bB,eG]at HC|-;have z1:w.heap.size<w.heap.size+1:=by omega
 have z2:w.heap.size<w.heap.size+1+1:=by omega
 go_enter func24,ntmps24
 go_wp2_with fail
 refine(HC.o _ (((Touch.refl [] w).alloc _).alloc _)).mono ?_;rintro en w2 ⟨cc,rfl,hcc,ht⟩;have HT:=hdq ((((Touch.refl [] w).alloc _).alloc _).trans' ht);have D6:=hdq hcc;clear ht hcc;go_wp2;go_ret
 refine⟨_,rfl,?_,HT.o⟩;rw[D6.o,PE.eq_iff];simp[HEQ.o]
theorem Ww(x:ME)(w:World)(hx:x.v.In w)(hnx:x.v.nodes<=1048576):Calls prog 304 #[x.val] w (aI x.plain.Ok w):=by
 by_cases hz:x.v.kind=0/\x.v.num=0/\x.v.parts.length=0
 .have e0:(x.v.kind==0)=true:=by simpa using hz.1
  have e1:(x.v.num==0)=true:=by simpa using hz.2.1
  have e2:((x.v.parts.length:Int)==0)=true:=by simpa using hz.2.2
  have HZ:=hdq hz;clear hz;have HC:=hdq (fun W (hW:Touch [] w W)=>sN x.v W (hx.aO hW) hnx);have EA:=hdq (MT.JX x.v);clear hx hnx;simp only[bB,eG]at HC|-;have z1:w.heap.size<w.heap.size+1:=by omega
  go_enter func304,ntmps304
  go_wp2;all_goals go_ret
  all_goals refine⟨_,rfl,?_,(Touch.refl [] w).alloc _⟩
  all_goals simp only[PE.Ok,ME.plain]
  all_goals rw[EA.o]
  all_goals have e3:(MT.PT.mk x.v.kind x.v.num (x.v.parts.map MT.plain)=MT.PT.mk 0 0 []):=by have h:=HZ.o;simp at h;simp[h]
  all_goals simp only[e3,true_or,and_true]
  all_goals first |(simp;omega)|simp[*]
 .have HZ:=hdq hz
  have hz1:¬(x.v.kind=0/\x.v.num=0/\(x.v.parts.length:Int)=0):=by omega
  by_cases h0:x.sync<0
  .have HC:=hdq (fun W (hW:Touch [] w W)=>sN x.v W (hx.aO hW) hnx)
   have EA:=hdq (MT.JX x.v);clear hx hnx;simp only[bB,eG]at HC|-;have z1:w.heap.size<w.heap.size+1:=by omega
   go_enter func304,ntmps304
   go_wp2;all_goals go_ret
   all_goals exact aI.no (fun h=>by have :=h.1;simp only[ME.plain]at this;omega) ((Touch.refl [] w).alloc _)
  by_cases h1:x.thread<0
  .have HC:=hdq (fun W (hW:Touch [] w W)=>sN x.v W (hx.aO hW) hnx)
   have EA:=hdq (MT.JX x.v);clear hx hnx;simp only[bB,eG]at HC|-;have z1:w.heap.size<w.heap.size+1:=by omega
   go_enter func304,ntmps304
   go_wp2;all_goals go_ret
   all_goals exact aI.no (fun h=>by have :=h.2.1;simp only[ME.plain]at this;omega) ((Touch.refl [] w).alloc _)
  by_cases h2:x.branch<0
  .have HC:=hdq (fun W (hW:Touch [] w W)=>sN x.v W (hx.aO hW) hnx)
   have EA:=hdq (MT.JX x.v);clear hx hnx;simp only[bB,eG]at HC|-;have z1:w.heap.size<w.heap.size+1:=by omega
   go_enter func304,ntmps304
   go_wp2;all_goals go_ret
   all_goals exact aI.no (fun h=>by have :=h.2.2.1;simp only[ME.plain]at this;omega) ((Touch.refl [] w).alloc _)
  by_cases h3:x.flag<0
  .have HC:=hdq (fun W (hW:Touch [] w W)=>sN x.v W (hx.aO hW) hnx)
   have EA:=hdq (MT.JX x.v);clear hx hnx;simp only[bB,eG]at HC|-;have z1:w.heap.size<w.heap.size+1:=by omega
   go_enter func304,ntmps304
   go_wp2;all_goals go_ret
   all_goals exact aI.no (fun h=>by have :=h.2.2.2.1;simp only[ME.plain]at this;omega) ((Touch.refl [] w).alloc _)
  have CW:Hid (0<=x.sync/\0<=x.thread/\0<=x.branch/\0<=x.flag):=⟨by omega,by omega,by omega,by omega⟩;clear hz hz1;by_cases hk:x.v.kind=0
  .have e0:(x.v.kind==0)=true:=by simpa using hk
   by_cases hn:x.v.num=0
   .have e1:(x.v.num==0)=true:=by simpa using hn
    have e2:((x.v.parts.length:Int)==0)=false:=by
     have :¬(x.v.parts.length:Int)=0:=fun h=>HZ.o ⟨hk,hn,by omega⟩;simpa using this
    clear hk hn;have HC:=hdq (fun W (hW:Touch [] w W)=>sN x.v W (hx.aO hW) hnx);have EA:=hdq (MT.JX x.v);clear hx hnx;simp only[bB,eG]at HC|-;have z1:w.heap.size<w.heap.size+1:=by omega
    go_enter func304,ntmps304
    go_wp2_with fail
    refine(HC.o _ ((Touch.refl [] w).alloc _)).mono ?_;rintro en w2 ⟨cc,rfl,hcc,ht⟩;have HT:=hdq (((Touch.refl [] w).alloc _).trans' ht);have D6:=hdq hcc;clear ht hcc;go_wp2;go_ret
    refine⟨_,rfl,?_,HT.o⟩;rw[D6.o];simp only[PE.Ok,ME.plain];have hnn:=CW.o;have hno:¬x.v.plain=MT.PT.mk 0 0 []:=fun h=>by
     rw[EA.o]at h;simp at h
     exact HZ.o ⟨h.1,h.2.1,by simp[h.2.2]⟩
    simp[hnn,hno]
   .have e1:(x.v.num==0)=false:=by simpa using hn
    clear hk hn;have HC:=hdq (fun W (hW:Touch [] w W)=>sN x.v W (hx.aO hW) hnx);have EA:=hdq (MT.JX x.v);clear hx hnx;simp only[bB,eG]at HC|-;have z1:w.heap.size<w.heap.size+1:=by omega
    go_enter func304,ntmps304
    go_wp2_with fail
    refine(HC.o _ ((Touch.refl [] w).alloc _)).mono ?_;rintro en w2 ⟨cc,rfl,hcc,ht⟩;have HT:=hdq (((Touch.refl [] w).alloc _).trans' ht);have D6:=hdq hcc;clear ht hcc;go_wp2;go_ret
    refine⟨_,rfl,?_,HT.o⟩;rw[D6.o];simp only[PE.Ok,ME.plain];have hnn:=CW.o;have hno:¬x.v.plain=MT.PT.mk 0 0 []:=fun h=>by
     rw[EA.o]at h;simp at h
     exact HZ.o ⟨h.1,h.2.1,by simp[h.2.2]⟩
    simp[hnn,hno]
  .have e0:(x.v.kind==0)=false:=by simpa using hk
   clear hk;have HC:=hdq (fun W (hW:Touch [] w W)=>sN x.v W (hx.aO hW) hnx);have EA:=hdq (MT.JX x.v);clear hx hnx;simp only[bB,eG]at HC|-;have z1:w.heap.size<w.heap.size+1:=by omega
   go_enter func304,ntmps304
   go_wp2_with fail
   refine(HC.o _ ((Touch.refl [] w).alloc _)).mono ?_;rintro en w2 ⟨cc,rfl,hcc,ht⟩;have HT:=hdq (((Touch.refl [] w).alloc _).trans' ht);have D6:=hdq hcc;clear ht hcc;go_wp2;go_ret
   refine⟨_,rfl,?_,HT.o⟩;rw[D6.o];simp only[PE.Ok,ME.plain];have hnn:=CW.o;have hno:¬x.v.plain=MT.PT.mk 0 0 []:=fun h=>by
    rw[EA.o]at h;simp at h
    exact HZ.o ⟨h.1,h.2.1,by simp[h.2.2]⟩
   simp[hnn,hno]
end Go.Proofs.YtegejdlglonflaaGreatDoor
