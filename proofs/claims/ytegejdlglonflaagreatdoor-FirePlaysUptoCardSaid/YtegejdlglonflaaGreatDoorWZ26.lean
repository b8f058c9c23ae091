/-
  Texts of FirePlays, laid together by program.
-/
import Derived.Test.YtegejdlglonflaaGreatDoorWZ23
namespace Go.Proofs.YtegejdlglonflaaGreatDoor
open Go.RowKit Go.Shelf Go.Proofs.Tryz
set_option maxRecDepth 100000
set_option maxHeartbeats 8000000
set_option linter.unusedVariables false
set_option linter.unusedSimpArgs false
structure afc where
 th:Int
 ba:Option Addr
 bc:Nat
 bases:List MB
def afc.cells(y:afc):List Value:=[.int .i64 y.th,.slice y.ba y.bases.length y.bc]
structure afU where
 w:Int
 a:Int
 b:Int
def afU.cells(y:afU):List Value:=[.int .i64 y.w,.int .i64 y.a,.int .i64 y.b]
structure aee where
 ch:Int
 co:Int
 sa:Option Addr
 sc:Nat
 kE:List afc
 aa:Option Addr
 ac:Nat
 acts:List afU
def aee.val(x:aee):Value:= .agg #[x.ch,x.co,.slice x.sa x.kE.length x.sc,.slice x.aa x.acts.length x.ac]
structure aee.Mem(x:aee)(W:World):Prop where
 rs:aG W x.sa 2 x.kE.length (x.kE.flatMap afc.cells)
 rb:∀y∈x.kE,aG W y.ba 7 y.bases.length (y.bases.flatMap MB.cells)/\∀b∈y.bases,b.Mem W
 ra:aG W x.aa 3 x.acts.length (x.acts.flatMap afU.cells)
structure aee.Few(x:aee):Prop where
 ch:0<=x.ch/\x.ch<=4
 co:0<=x.co/\x.co<=4
 sy:x.kE.length<=8
 ac:x.acts.length<=40
theorem aee.Mem.aW{x:aee}{W W':World}(h:x.Mem W)(ht:Touch [] W W'):x.Mem W':=⟨h.rs.aW ht,fun y hy=>⟨(h.rb y hy).1.aW ht,fun b hb=>((h.rb y hy).2 b hb).aW ht⟩,h.ra.aW ht⟩
section
variable {x:aee} {P:World->Prop}
theorem sy_lds(hP:∀W,P W->x.Mem W)(i:Nat)(hi:i<x.kE.length){bb oo:Nat}(ha:x.sa=some ⟨bb,oo,none⟩):abd [aA P] bb (oo+i*2) 2 x.kE[i].cells:=aas (fun W hW j u hu=>by
 obtain⟨b',o',hb',_,hc⟩:=aG.at (f:=afc.cells) (fun _=>rfl) (hP W hW).rs i hi;rw[ha]at hb';injection hb' with hb'
 injection hb' with e1 e2
 subst e1 e2;have hj:j<2:=(List.getElem?_eq_some_iff.1 hu).1;rw[hc j hj];exact hu)
theorem ahR(hP:∀W,P W->x.Mem W)(i:Nat)(hi:i<x.kE.length)(j:Nat)(hj:j<x.kE[i].bases.length){bb oo:Nat}(ha:x.kE[i].ba=some ⟨bb,oo,none⟩):abd [aA P] bb (oo+j*7) 7 x.kE[i].bases[j].cells:=aas (fun W hW k u hu=>by
 obtain⟨b',o',hb',_,hc⟩:=aG.at (f:=MB.cells) (fun _=>rfl) ((hP W hW).rb _ (List.getElem_mem hi)).1 j hj;rw[ha]at hb';injection hb' with hb'
 injection hb' with e1 e2
 subst e1 e2;have hk:k<7:=(List.getElem?_eq_some_iff.1 hu).1;rw[hc k hk];exact hu)
theorem few19(hP:∀W,P W->x.Mem W)(hbig:∀y∈x.kE,∀b∈y.bases,b.v.nodes<=1048576):aai prog 6 #[.agg #[x.ch,x.co,.slice x.sa x.kE.length x.sc,.slice x.aa x.acts.length x.ac]] [[aA P]] (xq (fun b:Bool=>b=true->x.Few) (fun b=> .bool b) fun _=>[[aA P]]):=by
 refine aai.go func6 ntmps6 ?_;by_cases h1:x.ch<0
 .have d1:decide (x.ch<0)=true:=decide_eq_true h1
  refine go1 fun _=>?_;refine W.abg ?_;exact⟨false,fun h=>absurd h (by decide),rfl,rfl⟩
 have d1:decide (x.ch<0)=false:=decide_eq_false h1;by_cases h2:4<x.ch
 .have d2:decide (4<x.ch)=true:=decide_eq_true h2
  refine go1 fun _=>?_;refine W.abg ?_;exact⟨false,fun h=>absurd h (by decide),rfl,rfl⟩
 have d2:decide (4<x.ch)=false:=decide_eq_false h2;by_cases h3:x.co<0
 .have d3:decide (x.co<0)=true:=decide_eq_true h3
  refine go1 fun _=>?_;refine W.abg ?_;exact⟨false,fun h=>absurd h (by decide),rfl,rfl⟩
 have d3:decide (x.co<0)=false:=decide_eq_false h3;by_cases h4:4<x.co
 .have d4:decide (4<x.co)=true:=decide_eq_true h4
  refine go1 fun _=>?_;refine W.abg ?_;exact⟨false,fun h=>absurd h (by decide),rfl,rfl⟩
 have d4:decide (4<x.co)=false:=decide_eq_false h4;by_cases h5:8<x.kE.length
 .have d5:decide ((8:Int)<(x.kE.length:Int))=true:=decide_eq_true (by omega)
  have d6:decide (8<x.kE.length)=true:=decide_eq_true h5;refine go1 fun _=>?_;refine W.abg ?_;exact⟨false,fun h=>absurd h (by decide),rfl,rfl⟩
 have d5:decide ((8:Int)<(x.kE.length:Int))=false:=decide_eq_false (by omega);have d6:decide (8<x.kE.length)=false:=decide_eq_false h5;by_cases h7:40<x.acts.length
 .have d7:decide ((40:Int)<(x.acts.length:Int))=true:=decide_eq_true (by omega)
  have d8:decide (40<x.acts.length)=true:=decide_eq_true h7;refine go1 fun _=>?_;refine W.abg ?_;exact⟨false,fun h=>absurd h (by decide),rfl,rfl⟩
 have d7:decide ((40:Int)<(x.acts.length:Int))=false:=decide_eq_false (by omega);have d8:decide (40<x.acts.length)=false:=decide_eq_false h7;have hfew:x.Few:=⟨⟨by omega,by omega⟩,⟨by omega,by omega⟩,by omega,by omega⟩;refine go1 fun b1=>?_;refine W.aeo [3,4,5,36,37,38,39,40,41,42,43,44,45,46,47,48,49,50,51,52,53,54,55,56,57,58,59,60,61,62,63,64,65,66,67,68,69,70,71,72,73,74,75,76,77,78,79,80,81,82,83,84,85,86] (fun n v M=>∃(i:Nat) (r:LG),v 3= .int .i64 (i:Int)/\i<=x.kE.length/\n=x.kE.length-i/\M=[[aA P],[box b1 25 #[x.ch,x.co,.slice x.sa x.kE.length x.sc,.slice x.aa x.acts.length x.ac]]]++r) x.kE.length ⟨0,[],by kernel_rfl,Nat.zero_le _,rfl,rfl⟩ ?_ (by kernel_rfl);rintro n v M a1 ⟨i,r,hv3,hi,rfl,rfl⟩ ha1;refine W.turn ?_ (fun T w0 w hl=>adN hl);simp only[adS,List.foldl,sAq,sZq,sSq,hv3]at ha1;subst ha1;clear hv3;have k0:(0:Int)<=(i:Int):=by omega
 by_cases hil:i<x.kE.length
 .have e1:decide ((i:Int)<(x.kE.length:Int))=true:=decide_eq_true (by omega)
  have e2:decide (i<x.kE.length)=true:=decide_eq_true hil;have k1:(i:Int)<(x.kE.length:Int):=by omega
  refine W.know (p:=∃bb oo,x.sa=some ⟨bb,oo,none⟩) (fun T w0 w hl=>by obtain⟨b',o',hb',_⟩:=aG.at (f:=afc.cells) (fun _=>rfl) (hP w (hl.still 0 rfl)).rs i hil;exact⟨b',o',hb'⟩) ?_;rintro⟨bb,oo,hba⟩;have hl1:abv [aA P] bb (oo+i*2+1) (.slice x.kE[i].ba x.kE[i].bases.length x.kE[i].bc):=ahr (sy_lds hP i hil hba) 1;by_cases h9:5<x.kE[i].bases.length
  .have f1:decide ((5:Int)<(x.kE[i].bases.length:Int))=true:=decide_eq_true (by omega)
   have f2:decide (5<x.kE[i].bases.length)=true:=decide_eq_true h9;refine go ?_;refine W.abg ?_;exact⟨false,fun h=>absurd h (by decide),rfl,rfl⟩
  have f1:decide ((5:Int)<(x.kE[i].bases.length:Int))=false:=decide_eq_false (by omega);have f2:decide (5<x.kE[i].bases.length)=false:=decide_eq_false h9;refine go ?_;refine W.aeo [4,5,51,52,53,54,55,56,57,58,59,62,63,64,65,66,67,68,69,70,71,72,73,74,75,76,77,78,79,80,81,82,83,84,85,86,60,61] (fun n v M=>∃(j:Nat) (r:LG),v 4= .int .i64 (j:Int)/\j<=x.kE[i].bases.length/\n=x.kE[i].bases.length-j/\M=[[aA P],[box b1 25 #[x.ch,x.co,.slice x.sa x.kE.length x.sc,.slice x.aa x.acts.length x.ac]]]++r) x.kE[i].bases.length ⟨0,[],by kernel_rfl,Nat.zero_le _,rfl,rfl⟩ ?_ (by kernel_rfl);rintro n2 v2 M2 a2 ⟨j,r2,hv4,hj,rfl,rfl⟩ ha2;refine W.turn ?_ (fun T w0 w hl=>adN hl);simp only[adS,List.foldl,sAq,sZq,sSq,hv4]at ha2;subst ha2;clear hv4;have q0:(0:Int)<=(j:Int):=by omega
  have hwi:IntKind.i64.wrap ((i:Int)+1)=(i:Int)+1:=IntWalk.i64_in _ (by omega);have hwj:IntKind.i64.wrap ((j:Int)+1)=(j:Int)+1:=IntWalk.i64_in _ (by omega);by_cases hjl:j<x.kE[i].bases.length
  .have g1:decide ((j:Int)<(x.kE[i].bases.length:Int))=true:=decide_eq_true (by omega)
   have g2:decide (j<x.kE[i].bases.length)=true:=decide_eq_true hjl;have g3:(j:Int)<(x.kE[i].bases.length:Int):=by omega
   refine W.know (p:=∃bb oo,x.kE[i].ba=some ⟨bb,oo,none⟩) (fun T w0 w hl=>by obtain⟨b',o',hb',_⟩:=aG.at (f:=MB.cells) (fun _=>rfl) ((hP w (hl.still 0 rfl)).rb _ (List.getElem_mem hil)).1 j hjl;exact⟨b',o',hb'⟩) ?_;rintro⟨b2,o2,hb2⟩;have hl2:=ahR hP i hil j hjl hb2;have hIn:∀W,P W->x.kE[i].bases[j].v.In W:=fun W hW=>(((hP W hW).rb _ (List.getElem_mem hil)).2 _ (List.getElem_mem hjl)).1;have hBg:=hbig _ (List.getElem_mem hil) _ (List.getElem_mem hjl);obtain⟨c,hc⟩:∃c,x.kE[i].bases[j]=c:=⟨_,rfl⟩;rw[hc]at hl2 hIn hBg;clear hc;obtain⟨sz,hsz⟩:∃sz,min c.v.nodes 257=sz:=⟨_,rfl⟩;have hSz:RdG prog 34 #[.agg #[c.v.kind,c.v.num,.slice c.v.addr c.v.parts.length c.v.cap]] [[aA P]] fun e=>∃y:Unit,True/\e= .returned ((fun _=> .int .i64 (sz:Int)) y):=ado fun T w0 w hl=>by
    have h:=iX c.v w (hIn w (hl.still 0 rfl)) hBg;rw[eG,hsz]at h;exact h
   clear hsz;have hl3:abd [aA P] b2 (o2+j*7) 7 [.int .i64 c.kind,.int .i64 c.n,.int .i64 c.v.kind,.int .i64 c.v.num,.slice c.v.addr c.v.parts.length c.v.cap,.slice c.wa c.wraps.length c.wc,.slice c.na c.aT.length c.nc]:=hl2;by_cases s1:20<sz
   .have t1:decide ((20:Int)<(sz:Int))=true:=decide_eq_true (by omega)
    have t2:decide (20<sz)=true:=decide_eq_true s1;refine go1 fun _=>?_;refine crr hSz fun _ _=>?_;refine go ?_;refine W.abg ?_;exact⟨false,fun h=>absurd h (by decide),rfl,rfl⟩
   have t1:decide ((20:Int)<(sz:Int))=false:=decide_eq_false (by omega);have t2:decide (20<sz)=false:=decide_eq_false s1;by_cases s2:0<c.wraps.length
   .have t3:decide ((0:Int)<(c.wraps.length:Int))=true:=decide_eq_true (by omega)
    have t4:decide (0<c.wraps.length)=true:=decide_eq_true s2;refine go1 fun _=>?_;refine crr hSz fun _ _=>?_;refine go ?_;refine W.abg ?_;exact⟨false,fun h=>absurd h (by decide),rfl,rfl⟩
   have t3:decide ((0:Int)<(c.wraps.length:Int))=false:=decide_eq_false (by omega);have t4:decide (0<c.wraps.length)=false:=decide_eq_false s2;by_cases s3:0<c.aT.length
   .have t5:decide ((0:Int)<(c.aT.length:Int))=true:=decide_eq_true (by omega)
    have t6:decide (0<c.aT.length)=true:=decide_eq_true s3;refine go1 fun _=>?_;refine crr hSz fun _ _=>?_;refine go ?_;refine W.abg ?_;exact⟨false,fun h=>absurd h (by decide),rfl,rfl⟩
   have t5:decide ((0:Int)<(c.aT.length:Int))=false:=decide_eq_false (by omega);have t6:decide (0<c.aT.length)=false:=decide_eq_false s3;refine go1 fun _=>?_;refine crr hSz fun _ _=>?_;refine go ?_;exact⟨x.kE[i].bases.length-(j+1),by omega,by kernel_rfl,j+1,[_],by kernel_rfl,by omega,rfl,rfl⟩
  .have g1:decide ((j:Int)<(x.kE[i].bases.length:Int))=false:=decide_eq_false (by omega)
   have g2:decide (j<x.kE[i].bases.length)=false:=decide_eq_false hjl;refine go ?_;exact⟨x.kE.length-(i+1),by omega,by kernel_rfl,i+1,[],by kernel_rfl,by omega,rfl,rfl⟩
 .have e1:decide ((i:Int)<(x.kE.length:Int))=false:=decide_eq_false (by omega)
  have e2:decide (i<x.kE.length)=false:=decide_eq_false hil;refine go ?_;refine W.abg ?_;exact⟨true,fun _=>hfew,rfl,rfl⟩
end
end Go.Proofs.YtegejdlglonflaaGreatDoor
