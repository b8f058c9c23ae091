/-
  Texts of FirePlays, laid together by program.
-/
import Derived.Test.YtegejdlglonflaaGreatDoorWZ22
namespace Go.Proofs.YtegejdlglonflaaGreatDoor
open Go.RowKit Go.Shelf Go.Proofs.Tryz
set_option maxRecDepth 100000
set_option maxHeartbeats 8000000
set_option linter.unusedVariables false
set_option linter.unusedSimpArgs false
theorem zV{α:Type}(f:α->List Value)(m:Nat)(hf:∀a,(f a).length=m)(l:List α)(k:Nat)(hk:k<l.length)(r:Nat)(hr:r<m):(l.flatMap f)[k*m+r]? =(f l[k])[r]? :=by
 induction l generalizing k with
 |nil=>simp at hk
 |cons a l ih=>
  rw[List.flatMap_cons];cases k with
  |zero=>rw[List.getElem?_append_left (by rw[hf];omega)];simp
  |succ k=>
   rw[List.getElem?_append_right (by rw[hf,Nat.succ_mul];omega),hf,show(k+1)*m+r-m=k*m+r from by rw[Nat.succ_mul];omega];exact ih k (by simpa using hk)
theorem A8{α:Type}(f:α->List Value)(m:Nat)(hf:∀a,(f a).length=m)(l:List α):(l.flatMap f).length=l.length*m:=by
 induction l with
 |nil=>simp
 |cons a l ih=>simp[hf,ih,Nat.succ_mul,Nat.add_comm]
section
variable {T:List Nat} {w0 w:World} {x:WS} {r0:List ai}
theorem BD.dU(h:BD T w0 w (x.ts++r0))(k:Nat)(hk:k<x.sys.length):∃g,x.a3=some ⟨g,0,none⟩/\∀r,r<11->w.cell? ⟨g,k*11+r,none⟩=x.sys[k].cells[r]? :=by
 have hr:=h.aZ 5 (e:=60) (size:=11) (v:= .slice x.a3 x.sys.length x.c3) (n:=x.sys.length) (xs:=aU x.sys) rfl;obtain⟨g,cap',cur,hv,hg,_⟩:=gD hr (by omega);injection hv with h1 _ h3
 have hlen:(aU x.sys).length=x.sys.length*11:=A8 _ 11 (fun _=>rfl) _;refine⟨g,h1,fun r hr'=>?_⟩;have hlt:k*11+r<(aU x.sys).length:=by rw[hlen];omega
 have hc:=eT (g:=g) (cap:=x.c3) (by rw[<-h1];exact hr) (k*11+r) hlt;have hf:=zV bL.cells 11 (fun _=>rfl) x.sys k hk r hr';rw[hc,<-hf];exact(List.getElem?_eq_getElem hlt).symm
theorem BD.nC(h:BD T w0 w (x.ts++r0))(k:Nat)(hk:k<x.sys.length)(g:Nat)(hg:x.a3=some ⟨g,0,none⟩):Calls prog 64 #[x.wb,(k:Int)] w fun e w'=>e= .returned (.pointer (some ⟨g,k*11,none⟩))/\Touch [] w w':=by
 have h2:=vV w x.wb x.ga _ _ _ h.Cb g 0 x.sys.length x.c3 (by rw[hg]) k hk;rw[Nat.zero_add]at h2;exact h2
theorem BD.fE(h:BD T w0 w (x.ts++r0))(k:Int)(hk:¬(0<=k/\k<(x.sys.length:Int))):Calls prog 64 #[x.wb,k] w fun e w'=>e= .panicked (aX 4)/\Touch [] w w':=
 tq w x.wb x.ga _ _ _ h.Cb x.a3 x.sys.length x.c3 rfl k hk
end
def rF(s:Ar):Option (Nat×Nat×Ar)->Int×Int×Ar
 |none=>(0,4,s)
 |some r=>if r.2.1=0 then((r.1:Int),0,r.2.2)else(0,(r.2.1:Int),r.2.2)
def eu(s:Ar)(f:Int)(v0:Nat):Nat×Nat×Ar:=((bE (s.swap f 0 v0).2.1.old (s.swap f 0 v0).2.2).1,(bE (s.swap f 0 v0).2.1.old (s.swap f 0 v0).2.2).2,(s.swap f 0 v0).1)
def fT(s:Ar)(f:Int):Nat×Nat×Ar:=((bE (s.load f).2.1.old (s.load f).2.2).1,(bE (s.load f).2.1.old (s.load f).2.2).2,(s.load f).1)
def fM(s:Ar)(f:Int)(v0:Nat):Nat×Ar:=((s.store f v0).2.2,(s.store f v0).1)
theorem aai.know{P:Program}{f:FuncId}{args:Array Value}{X:LG}{R:Ending->LG->Prop}{p:Prop}(hp:∀T w,BD T w w X.flatten->p)(h:p->aai P f args X R):aai P f args X R:=fun T w hl=>h (hp T w hl) T w hl
theorem acy(x:WS)(n:Nat)(hn:n<x.sys.length)(g:Nat)(hg:x.a3=some ⟨g,0,none⟩):RdG prog 64 #[x.wb,(n:Int)] [x.ts] fun e=>∃y:Unit,True/\e= .returned ((fun _=> .pointer (some ⟨g,n*11,none⟩)) y):=ado fun T w0 w hl=>BD.nC (r0:=[]) (by simpa using hl) n hn g hg
theorem abl(x:WS)(k:Int)(hk:¬(0<=k/\k<(x.sys.length:Int))):RdG prog 64 #[x.wb,k] [x.ts] fun e=>e= .panicked (aX 4):=adh fun T w0 w hl=>BD.fE (r0:=[]) (by simpa using hl) k hk
theorem ac5{x:WS}{r0:List ai}{T:List Nat}{w0 w:World}(hl:BD T w0 w (x.ts++r0)){n:Nat}(hn:n<x.sys.length):∃g,x.a3=some ⟨g,0,none⟩:=by
 obtain⟨g,hg,_⟩:=hl.dU n hn;exact⟨g,hg⟩
theorem acG{x:WS}{n:Nat}(hn:n<x.sys.length){g:Nat}(hg:x.a3=some ⟨g,0,none⟩)(r:Nat)(hr:r<11){v:Value}(hv:x.sys[n].cells[r]? =some v):abv x.ts g (n*11+r) v:=fun T w0 w R hl=>by
 obtain⟨g4,hg4,hc⟩:=BD.dU (r0:=R) hl n hn;rw[hg]at hg4;injection hg4 with hg4
 injection hg4 with hg4
 subst hg4;exact(hc r hr).trans hv
theorem acn{D:FuncId}{caps:Array Value}{X:LG}{R:Int->Int->LG->Prop}(hen:∀args w,(callFunc D args).run prog w= .ok (.enter D args) w)(hd:aai prog D caps X fun e Y=>∃v er,Ends e (.int .i64 v) er (.int .i64 0)/\R v er Y):aai prog 136 #[.func (.func D) #[] caps] X fun e Y=>∃v er,e= .returned (.tuple #[.int .i64 v,.int .i64 er])/\R v er Y:=fun T w hl=>
 (j3 T w w X.flatten D caps (fun v er l'=>∃Y,l'=Y.flatten/\Y.length=X.length/\R v er Y) hl hen (fun T' W hW=>(hd T' W hW).mono fun e w' ⟨Y,hY,⟨v,er,he,hR⟩,hl'⟩=>⟨v,er,Y.flatten,he,⟨Y,rfl,hY,hR⟩,hl'⟩)).mono fun e w' ⟨v,er,l',he,⟨Y,hl1,hY,hR⟩,hl'⟩=>⟨Y,hY,⟨v,er,he,hR⟩,hl1▸hl'⟩
theorem okFq{G:Prop}(h:G:=by
  refine go ?_;refine crr hC fun _ _=>?_;refine go ?_;refine cr hL fun _ _=>?_;refine go ?_;by_cases h0:r.2.1=0
  .simp only[rF,if_pos h0]
   rw[h0];refine cr (abF fun w=>jf w r.1) fun _ _=>?_;refine go ?_;refine W.abg ?_;exact⟨r.1,0,.inl ⟨rfl,rfl⟩,rfl,rfl,rfl⟩
  .simp only[rF,if_neg h0]
   refine pfq (ade fun w=>iN w r.1 r.2.1 (by omega)) ?_;exact⟨0,_,.inr ⟨rfl,rfl⟩,rfl,rfl,rfl⟩):G:=h
theorem okSq{G:Prop}(h:G:=by
  refine go ?_;refine crr hC fun _ _=>?_;refine go ?_;refine cr hL fun _ _=>?_;refine go ?_;refine W.abg ?_;exact⟨⟨_,0,.inl ⟨rfl,rfl⟩,by simp[rE]⟩,rfl⟩):G:=h
theorem adB{G:Prop}(h:G:=by
  refine go ?_;refine prr hC ?_;exact⟨0,4,.inr ⟨rfl,rfl⟩,rfl,rfl,rfl⟩):G:=h
theorem ad1{G:Prop}(h:G:=by
  refine go ?_;refine prr hC ?_;exact⟨⟨0,4,.inr ⟨rfl,rfl⟩,by simp[rE]⟩,rfl⟩):G:=h
def WS.fK(x:WS)(k:Int):Int×Int×Ar:=rF x.s ((at_ x.sys k).map fun y=>eu x.s y.flag 1)
theorem adF(x:WS)(b2 b3:Nat)(k:Int)(hn:x.s.L.length<1000000):aai prog 137 #[b2,b3] [x.ts,[box b2 48 #[x.wb]],[box b3 3 #[k]]] fun e Y=>∃v er,Ends e (.int .i64 v) er (.int .i64 0)/\v=(x.fK k).1/\er=(x.fK k).2.1/\Y=[(x.ar (x.fK k).2.2).ts,[box b2 48 #[x.wb]],[box b3 3 #[k]]]:=by
 have hx:=abx (x:=x);by_cases hk:0<=k/\k<(x.sys.length:Int)
 .obtain⟨n,rfl⟩:=Int.eq_ofNat_of_zero_le hk.1
  have hnk:n<x.sys.length:=by omega
  refine aai.know (p:=∃g,x.a3=some ⟨g,0,none⟩) (fun T w hl=>ac5 (r0:=[_,_]) (by simpa using hl) hnk) ?_;rintro⟨g3,hg3⟩;have hC:=acy x n hnk g3 hg3;have hf:=acG hnk hg3 3 (by omega) (v:= .int .i64 x.sys[n].flag) rfl;have hR:x.fK (n:Int)=rF x.s (some (eu x.s x.sys[n].flag 1)):=by unfold WS.fK;rw[gI hnk];rfl
  obtain⟨r,hr⟩:∃r,eu x.s x.sys[n].flag 1=r:=⟨_,rfl⟩;have hL:aai prog 138 #[x.ga,.int .i64 x.sys[n].flag] [x.ts] (xq (fun _:Unit=>True) (fun _=> .tuple #[(r.1:Int),(r.2.1:Int)]) fun _=>[(x.ar r.2.2).ts]):=by
   subst hr;exact wm fun T w h=>h.Mj 1 (g:=x.ga) (s:=x.s) rfl x.sys[n].flag (eu x.s x.sys[n].flag 1).2.2 (eu x.s x.sys[n].flag 1).1 (eu x.s x.sys[n].flag 1).2.1 (by omega) rfl rfl
  rw[hR,hr];generalize x.sys[n].flag=fl at hL hf;clear hr hR hk hn hg3;refine aai.go func137 ntmps137 ?_;exact okFq
 .have hC:=abl x k hk
  have hR:x.fK k=rF x.s none:=by unfold WS.fK;rw[gM hk];rfl
  rw[hR];clear hR hk;refine aai.go func137 ntmps137 ?_;exact adB
theorem Oq(T:List Nat)(w:World)(x:WS)(k:Int)(h:BD T w w x.ts)(hn:x.s.L.length<1000000):
  Calls prog 48 #[x.wb,k] w fun e w'=>e= .returned (.tuple #[.int .i64 (x.fK k).1,.int .i64 (x.fK k).2.1])/\BD T w w' (x.ar (x.fK k).2.2).ts:=by
 have hg:aai prog 48 #[x.wb,k] [x.ts] (xq (fun _:Unit=>True) (fun _=> .tuple #[.int .i64 (x.fK k).1,.int .i64 (x.fK k).2.1]) fun _=>[(x.ar (x.fK k).2.2).ts]):=by
  have Ep:=mkf;refine aai.go func48 ntmps48 ?_;refine go2 fun b2 b3=>?_;refine cq (acn (enters_of func137 (by kernel_rfl) rfl) (adF x b2 b3 k hn)) ?_;rintro _ _ ⟨_,_,rfl,rfl,rfl,rfl⟩;refine⟨_,rfl,nq ?_⟩;refine go ?_;refine W.abg ?_;exact⟨(),trivial,rfl,rfl⟩
 exact(hg T w (by simpa using h)).mono fun e w' ⟨Y,_,⟨_,_,he,hY⟩,hl⟩=>⟨he,by rw[hY]at hl;simpa using hl⟩
def WS.gL(x:WS)(k:Int):Int×Int×Ar:=rF x.s ((at_ x.sys k).map fun y=>eu x.s y.flag 2)
theorem adW(x:WS)(b2 b3:Nat)(k:Int)(hn:x.s.L.length<1000000):aai prog 235 #[b2,b3] [x.ts,[box b2 48 #[x.wb]],[box b3 3 #[k]]] fun e Y=>∃v er,Ends e (.int .i64 v) er (.int .i64 0)/\v=(x.gL k).1/\er=(x.gL k).2.1/\Y=[(x.ar (x.gL k).2.2).ts,[box b2 48 #[x.wb]],[box b3 3 #[k]]]:=by
 have hx:=abx (x:=x);by_cases hk:0<=k/\k<(x.sys.length:Int)
 .obtain⟨n,rfl⟩:=Int.eq_ofNat_of_zero_le hk.1
  have hnk:n<x.sys.length:=by omega
  refine aai.know (p:=∃g,x.a3=some ⟨g,0,none⟩) (fun T w hl=>ac5 (r0:=[_,_]) (by simpa using hl) hnk) ?_;rintro⟨g3,hg3⟩;have hC:=acy x n hnk g3 hg3;have hf:=acG hnk hg3 3 (by omega) (v:= .int .i64 x.sys[n].flag) rfl;have hR:x.gL (n:Int)=rF x.s (some (eu x.s x.sys[n].flag 2)):=by unfold WS.gL;rw[gI hnk];rfl
  obtain⟨r,hr⟩:∃r,eu x.s x.sys[n].flag 2=r:=⟨_,rfl⟩;have hL:aai prog 236 #[x.ga,.int .i64 x.sys[n].flag] [x.ts] (xq (fun _:Unit=>True) (fun _=> .tuple #[(r.1:Int),(r.2.1:Int)]) fun _=>[(x.ar r.2.2).ts]):=by
   subst hr;exact wm fun T w h=>h.flTake 1 (g:=x.ga) (s:=x.s) rfl x.sys[n].flag (eu x.s x.sys[n].flag 2).2.2 (eu x.s x.sys[n].flag 2).1 (eu x.s x.sys[n].flag 2).2.1 (by omega) rfl rfl
  rw[hR,hr];generalize x.sys[n].flag=fl at hL hf;clear hr hR hk hn hg3;refine aai.go func235 ntmps235 ?_;exact okFq
 .have hC:=abl x k hk
  have hR:x.gL k=rF x.s none:=by unfold WS.gL;rw[gM hk];rfl
  rw[hR];clear hR hk;refine aai.go func235 ntmps235 ?_;exact adB
theorem J3(T:List Nat)(w:World)(x:WS)(k:Int)(h:BD T w w x.ts)(hn:x.s.L.length<1000000):
  Calls prog 144 #[x.wb,k] w fun e w'=>e= .returned (.tuple #[.int .i64 (x.gL k).1,.int .i64 (x.gL k).2.1])/\BD T w w' (x.ar (x.gL k).2.2).ts:=by
 have hg:aai prog 144 #[x.wb,k] [x.ts] (xq (fun _:Unit=>True) (fun _=> .tuple #[.int .i64 (x.gL k).1,.int .i64 (x.gL k).2.1]) fun _=>[(x.ar (x.gL k).2.2).ts]):=by
  have Ep:=mkf;refine aai.go func144 ntmps144 ?_;refine go2 fun b2 b3=>?_;refine cq (acn (enters_of func235 (by kernel_rfl) rfl) (adW x b2 b3 k hn)) ?_;rintro _ _ ⟨_,_,rfl,rfl,rfl,rfl⟩;refine⟨_,rfl,nq ?_⟩;refine go ?_;refine W.abg ?_;exact⟨(),trivial,rfl,rfl⟩
 exact(hg T w (by simpa using h)).mono fun e w' ⟨Y,_,⟨_,_,he,hY⟩,hl⟩=>⟨he,by rw[hY]at hl;simpa using hl⟩
def WS.iH(x:WS)(k:Int):Int×Int×Ar:=rF x.s ((at_ x.sys k).map fun y=>fT x.s y.flag)
theorem adP(x:WS)(b2 b3:Nat)(k:Int)(hn:x.s.L.length<1000000):aai prog 140 #[b2,b3] [x.ts,[box b2 48 #[x.wb]],[box b3 3 #[k]]] fun e Y=>∃v er,Ends e (.int .i64 v) er (.int .i64 0)/\v=(x.iH k).1/\er=(x.iH k).2.1/\Y=[(x.ar (x.iH k).2.2).ts,[box b2 48 #[x.wb]],[box b3 3 #[k]]]:=by
 have hx:=abx (x:=x);by_cases hk:0<=k/\k<(x.sys.length:Int)
 .obtain⟨n,rfl⟩:=Int.eq_ofNat_of_zero_le hk.1
  have hnk:n<x.sys.length:=by omega
  refine aai.know (p:=∃g,x.a3=some ⟨g,0,none⟩) (fun T w hl=>ac5 (r0:=[_,_]) (by simpa using hl) hnk) ?_;rintro⟨g3,hg3⟩;have hC:=acy x n hnk g3 hg3;have hf:=acG hnk hg3 3 (by omega) (v:= .int .i64 x.sys[n].flag) rfl;have hR:x.iH (n:Int)=rF x.s (some (fT x.s x.sys[n].flag)):=by unfold WS.iH;rw[gI hnk];rfl
  obtain⟨r,hr⟩:∃r,fT x.s x.sys[n].flag=r:=⟨_,rfl⟩;have hL:aai prog 121 #[x.ga,.int .i64 x.sys[n].flag] [x.ts] (xq (fun _:Unit=>True) (fun _=> .tuple #[(r.1:Int),(r.2.1:Int)]) fun _=>[(x.ar r.2.2).ts]):=by
   subst hr;exact wm fun T w h=>h.Ih 1 (g:=x.ga) (s:=x.s) rfl x.sys[n].flag (fT x.s x.sys[n].flag).2.2 (fT x.s x.sys[n].flag).1 (fT x.s x.sys[n].flag).2.1 (by omega) rfl rfl
  rw[hR,hr];generalize x.sys[n].flag=fl at hL hf;clear hr hR hk hn hg3;refine aai.go func140 ntmps140 ?_;exact okFq
 .have hC:=abl x k hk
  have hR:x.iH k=rF x.s none:=by unfold WS.iH;rw[gM hk];rfl
  rw[hR];clear hR hk;refine aai.go func140 ntmps140 ?_;exact adB
theorem Look_w(T:List Nat)(w:World)(x:WS)(k:Int)(h:BD T w w x.ts)(hn:x.s.L.length<1000000):
  Calls prog 50 #[x.wb,k] w fun e w'=>e= .returned (.tuple #[.int .i64 (x.iH k).1,.int .i64 (x.iH k).2.1])/\BD T w w' (x.ar (x.iH k).2.2).ts:=by
 have hg:aai prog 50 #[x.wb,k] [x.ts] (xq (fun _:Unit=>True) (fun _=> .tuple #[.int .i64 (x.iH k).1,.int .i64 (x.iH k).2.1]) fun _=>[(x.ar (x.iH k).2.2).ts]):=by
  have Ep:=mkf;refine aai.go func50 ntmps50 ?_;refine go2 fun b2 b3=>?_;refine cq (acn (enters_of func140 (by kernel_rfl) rfl) (adP x b2 b3 k hn)) ?_;rintro _ _ ⟨_,_,rfl,rfl,rfl,rfl⟩;refine⟨_,rfl,nq ?_⟩;refine go ?_;refine W.abg ?_;exact⟨(),trivial,rfl,rfl⟩
 exact(hg T w (by simpa using h)).mono fun e w' ⟨Y,_,⟨_,_,he,hY⟩,hl⟩=>⟨he,by rw[hY]at hl;simpa using hl⟩
def WS.dX(x:WS)(k:Int):Int×Ar:=rE x.s ((at_ x.sys k).map fun y=>fM x.s y.flag 0)
theorem adn(x:WS)(b2 b3:Nat)(k:Int)(hn:x.s.L.length<1000000):aai prog 142 #[b2,b3] [x.ts,[box b2 48 #[x.wb]],[box b3 3 #[k]]] fun e Y=>(∃v Fq,Ends e (.int .i64 v) Fq (.int .i64 0)/\(x.dX k).1=if Fq=0 then v else Fq)/\Y=[(x.ar (x.dX k).2).ts,[box b2 48 #[x.wb]],[box b3 3 #[k]]]:=by
 have hx:=abx (x:=x);by_cases hk:0<=k/\k<(x.sys.length:Int)
 .obtain⟨n,rfl⟩:=Int.eq_ofNat_of_zero_le hk.1
  have hnk:n<x.sys.length:=by omega
  refine aai.know (p:=∃g,x.a3=some ⟨g,0,none⟩) (fun T w hl=>ac5 (r0:=[_,_]) (by simpa using hl) hnk) ?_;rintro⟨g3,hg3⟩;have hC:=acy x n hnk g3 hg3;have hf:=acG hnk hg3 3 (by omega) (v:= .int .i64 x.sys[n].flag) rfl;have hR:x.dX (n:Int)=rE x.s (some (fM x.s x.sys[n].flag 0)):=by unfold WS.dX;rw[gI hnk];rfl
  obtain⟨r,hr⟩:∃r,fM x.s x.sys[n].flag 0=r:=⟨_,rfl⟩;have hL:aai prog 143 #[x.ga,.int .i64 x.sys[n].flag] [x.ts] (xq (fun _:Unit=>True) (fun _=> .int .i64 (r.1:Int)) fun _=>[(x.ar r.2).ts]):=by
   subst hr;exact wm fun T w h=>h.zP 1 (g:=x.ga) (s:=x.s) rfl x.sys[n].flag (fM x.s x.sys[n].flag 0).2 (fM x.s x.sys[n].flag 0).1 (by omega) rfl rfl
  rw[hR,hr];generalize x.sys[n].flag=fl at hL hf;clear hr hR hk hn hg3;refine aai.go func142 ntmps142 ?_;exact okSq
 .have hC:=abl x k hk
  have hR:x.dX k=rE x.s none:=by unfold WS.dX;rw[gM hk];rfl
  rw[hR];clear hR hk;refine aai.go func142 ntmps142 ?_;exact ad1
theorem Ah(T:List Nat)(w:World)(x:WS)(k:Int)(h:BD T w w x.ts)(hn:x.s.L.length<1000000):
  Calls prog 52 #[x.wb,k] w fun e w'=>e= .returned (.int .i64 (x.dX k).1)/\BD T w w' (x.ar (x.dX k).2).ts:=by
 have hg:aai prog 52 #[x.wb,k] [x.ts] (xq (fun _:Unit=>True) (fun _=> .int .i64 (x.dX k).1) fun _=>[(x.ar (x.dX k).2).ts]):=by
  have Ep:=mkf;refine aai.go func52 ntmps52 ?_;refine go2 fun b2 b3=>?_;refine cr (abU (by rfl) (enters_of func142 (by kernel_rfl) rfl) (adn x b2 b3 k hn)) fun _ _=>?_;refine go ?_;refine W.abg ?_;exact⟨(),trivial,rfl,rfl⟩
 exact(hg T w (by simpa using h)).mono fun e w' ⟨Y,_,⟨_,_,he,hY⟩,hl⟩=>⟨he,by rw[hY]at hl;simpa using hl⟩
theorem zu(w:World)(b g:Nat)(v1 v2 v3:Value)(h:Fe w b g v1 v2 v3)(hS:bJ w)(k s:Int)(hs:s=1\/s=2)(R:Ending->World->Prop)(hc:Calls prog 153 #[b,k] w R)(hR:∀e w',R e w'->(∃p,e= .returned (.pointer p))\/∃ch,e= .panicked ch):
  Calls prog 221 #[b,k,s] w R:=by
 have HN:=hdq (dG w b g v1 v2 v3 h);have HO:=hdq (zB w s hS);have HC:=hdq hc;have HR:=hdq hR;have hne:(bM s != 0)=true:=by rcases hs with rfl|rfl<;>rfl
 clear h hS hc hR hs;generalize bM s=os at HO hne;go_enter func221,ntmps221
 go_wp2_with fail
 refine HN.o.mono ?_;rintro e w' ⟨rfl,rfl⟩;go_wp2_with fail
 refine(require_ok _ _).mono ?_;rintro e w' ⟨rfl,rfl⟩;dsimp only;go_wp2_with fail
 refine HO.o.mono ?_;rintro e w' ⟨rfl,rfl⟩;go_wp2_with fail
 refine(require_ok _ _).mono ?_;rintro e w' ⟨rfl,rfl⟩;dsimp only;go_wp2_with fail
 refine HC.o.mono ?_;intro e w' hr;rcases HR.o e w' hr with ⟨p,rfl⟩|⟨ch,rfl⟩
 .have HRR:=hdq hr
  clear hr;dsimp only;go_wp2;exact HRR.o
 .exact⟨rfl,hr⟩
theorem Jw(w:World)(b g:Nat)(v1 v2 v3:Value)(h:Fe w b g v1 v2 v3)(hS:bJ w)(k s:Int)(hs:¬(s=1\/s=2)):
  Calls prog 221 #[b,k,s] w fun e w'=>e= .panicked (aX 2)/\w=w':=by
 have HN:=hdq (dG w b g v1 v2 v3 h);have HO:=hdq (zB w s hS);have h0:bM s=0:=by unfold bM;rw[if_neg (fun h=>hs (.inl h)),if_neg (fun h=>hs (.inr h))]
 rw[h0]at HO;clear h hS hs h0;go_enter func221,ntmps221
 go_wp2_with fail
 refine HN.o.mono ?_;rintro e w' ⟨rfl,rfl⟩;go_wp2_with fail
 refine(require_ok _ _).mono ?_;rintro e w' ⟨rfl,rfl⟩;dsimp only;go_wp2_with fail
 refine HO.o.mono ?_;rintro e w' ⟨rfl,rfl⟩;go_wp2_with fail
 refine(aY _ _).mono ?_;rintro e w' ⟨rfl,rfl⟩;dsimp only;exact⟨rfl,rfl,rfl⟩
section
variable {T:List Nat} {w0 w:World} {x:WS} {r0:List ai}
theorem BD.sj(h:BD T w0 w (x.ts++r0))(hS:bJ w)(s:Int)(hs:s=1\/s=2)(k:Nat)(hk:k<x.BI.length):Calls prog 221 #[x.wb,(k:Int),s] w fun e w'=>e= .returned (.pointer (some ⟨x.BI[k].c,0,none⟩))/\Touch [] w w':=
 zu w x.wb x.ga _ _ _ h.Cb hS k s hs _ (h.Lp k hk) (fun e w' h=> .inl ⟨_,h.1⟩)
theorem BD.nL(h:BD T w0 w (x.ts++r0))(hS:bJ w)(s:Int)(hs:s=1\/s=2)(k:Int)(hk:¬(0<=k/\k<(x.BI.length:Int))):Calls prog 221 #[x.wb,k,s] w fun e w'=>e= .panicked (aX 4)/\Touch [] w w':=
 zu w x.wb x.ga _ _ _ h.Cb hS k s hs _ (h.nK k hk) (fun e w' h=> .inr ⟨_,h.1⟩)
theorem BD.nR(h:BD T w0 w (x.ts++r0))(hS:bJ w)(s:Int)(hs:¬(s=1\/s=2))(k:Int):Calls prog 221 #[x.wb,k,s] w fun e w'=>e= .panicked (aX 2)/\Touch [] w w':=
 (Jw w x.wb x.ga _ _ _ h.Cb hS k s hs).mono fun e w' h=>⟨h.1,h.2▸Touch.refl _ _⟩
end
def WS.oQ(x:WS)(n:Nat)(y:Ce)(P:World->Prop):WS:={x with BI:=x.BI.set n y,P:=P}
theorem yC(l:List Ce)(n:Nat)(hn:n<l.length)(y:Ce)(hy:y.c=l[n].c):bP (l.set n y)=bP l:=by
 unfold bP;rw[List.map_set,hy];apply List.ext_getElem
 .simp
 .intro i h1 h2
  rw[List.getElem_set];split
  .rename_i h;subst h;simp
  .rfl
theorem WS.tV(x:WS)(n:Nat)(hn:n<x.BI.length)(y:Ce)(P:World->Prop)(r:Nat)(hr:r<4)(t:ai)(hy:y.c=x.BI[n].c)(ht:x.BI[n].ts.set r t=y.ts)(r0:List ai):(((x.ts++r0).set (6+(4*n+r)) t).set 2 (aA P))=(x.oQ n y P).ts++r0:=by
 have hl:=nA Ce.ts 4 (fun _=>rfl) x.BI;have hs:=Je Ce.ts 4 (fun _=>rfl) x.BI n hn r hr t y ht;have e1:(x.ts++r0).set (6+(4*n+r)) t=x.head++((x.BI.set n y).flatMap Ce.ts++(x.cos.flatMap Ch.ts++r0)):=by
  unfold WS.ts;rw[List.append_assoc,List.append_assoc,List.set_append_right _ _ (by simp[WS.head]),show 6+(4*n+r)-x.head.length=4*n+r from by simp[WS.head],List.set_append_left _ _ (by rw[hl];omega),hs]
 rw[e1,List.set_append_left _ _ (by simp[WS.head])];unfold WS.ts;rw[List.append_assoc,List.append_assoc];congr 1
 simp only[WS.oQ,WS.head,yC _ _ hn _ hy,List.length_set];rfl
theorem yJ(T:List Nat)(w0 w:World)(l:List ai)(D:FuncId)(caps:Array Value)(R:Int->List ai->Prop)(h:BD T w0 w l)(hen:∀args w,(callFunc D args).run prog w= .ok (.enter D args) w)(hd:∀T' W,BD T' W W l->Calls prog D caps W fun e w'=>∃er l',R er l'/\l5 T' W er l' e w'):
  Calls prog 116 #[.func (.func D) #[] caps] w fun e w'=>∃er l',e= .returned (.int .i64 er)/\R er l'/\BD T w0 w' l':=by
 have HP:=hdq (l7 T w0 w l D caps (fun v Fq l''=>R (if Fq=0 then v else Fq) l'') h hen (fun T' W hW=>(hd T' W hW).mono fun e w' ⟨er,l',hr,⟨v,Fq,he,hv⟩,hL⟩=>⟨v,Fq,l',he,hv▸hr,hL⟩));clear h hd hen;go_enter func116,ntmps116
 go_wp2_with fail
 refine HP.o.mono ?_;rintro e w' ⟨v,Fq,l'',rfl,hr,hL⟩;have HL:=hdq hL;have HR:=hdq hr;clear hL hr HP;by_cases h0:Fq=0
 .have hb:(Fq != 0)=false:=by simp[h0]
  rw[if_pos h0]at HR;clear h0;go_wp2;go_ret
  exact⟨v,l'',rfl,HR.o,HL.o⟩
 .have hb:(Fq != 0)=true:=by simp[h0]
  rw[if_neg h0]at HR;clear h0;go_wp2;go_ret
  exact⟨Fq,l'',rfl,HR.o,HL.o⟩
def lX(x:WS)(k s:Int)(e:ME)(er:Int)(x':WS):Prop:=
 (¬(s=1\/s=2)/\er=2/\x'=x)\/((s=1\/s=2)/\¬(0<=k/\k<(x.BI.length:Int))/\er=4/\x'=x)\/
 ∃(n:Nat) (hn:n<x.BI.length) (kk:Nat) (ys:List ME),k=(n:Int)/\ys.map ME.plain=[e.plain].take kk/\
  ((s=1/\kK x.BI[n].es1.length [e.plain] kk er/\x'=x.oQ n {x.BI[n]with es1:=x.BI[n].es1++ys} (fun W=>x.P W/\∀y∈ys,y.v.In W))\/
  (s=2/\kK x.BI[n].es2.length [e.plain] kk er/\x'=x.oQ n {x.BI[n]with es2:=x.BI[n].es2++ys} (fun W=>x.P W/\∀y∈ys,y.v.In W)))
def pushB(x:WS)(k s:Int)(e:ME)(b4 b5 b6 b7:Nat):List ai:=[box b4 48 #[x.wb],box b5 3 #[k],box b6 182 #[s],box b7 65 #[e.sync,e.thread,e.branch,e.flag,e.v.kind,e.v.num,.slice e.v.addr e.v.parts.length e.v.cap]]
theorem BD.pushB{T:List Nat}{w0 w:World}{x y:WS}{k s:Int}{e:ME}{b4 b5 b6 b7:Nat}(h:BD T w0 w (y.ts++pushB x k s e b4 b5 b6 b7)):(w.cell? ⟨b4,0,none⟩=some (.pointer (some ⟨x.wb,0,none⟩))/\w.cell? ⟨b5,0,none⟩=some (.int .i64 k)/\w.cell? ⟨b6,0,none⟩=some (.int .i64 s))/\(w.cell? ⟨b7,0,none⟩=some (.int .i64 e.sync)/\w.cell? ⟨b7,1,none⟩=some (.int .i64 e.thread)/\w.cell? ⟨b7,2,none⟩=some (.int .i64 e.branch)/\w.cell? ⟨b7,3,none⟩=some (.int .i64 e.flag)/\w.cell? ⟨b7,4,none⟩=some (.int .i64 e.v.kind)/\w.cell? ⟨b7,5,none⟩=some (.int .i64 e.v.num)/\w.cell? ⟨b7,6,none⟩=some (.slice e.v.addr e.v.parts.length e.v.cap))/\b4<w.heap.size/\b5<w.heap.size/\b6<w.heap.size/\b7<w.heap.size:=by
 have h4:=h.box y.ts.length (b:=b4) (t:=48) (cs:=#[.pointer (some ⟨x.wb,0,none⟩)]) (by simp[Proofs.YtegejdlglonflaaGreatDoor.pushB]);have h5:=h.box (y.ts.length+1) (b:=b5) (t:=3) (cs:=#[.int .i64 k]) (by simp[Proofs.YtegejdlglonflaaGreatDoor.pushB]);have h6:=h.box (y.ts.length+2) (b:=b6) (t:=182) (cs:=#[.int .i64 s]) (by simp[Proofs.YtegejdlglonflaaGreatDoor.pushB]);have h7:=h.box (y.ts.length+3) (b:=b7) (t:=65) (cs:=#[.int .i64 e.sync,.int .i64 e.thread,.int .i64 e.branch,.int .i64 e.flag,.int .i64 e.v.kind,.int .i64 e.v.num,.slice e.v.addr e.v.parts.length e.v.cap]) (by simp[Proofs.YtegejdlglonflaaGreatDoor.pushB]);exact⟨⟨h4.cell 0,h5.cell 0,h6.cell 0⟩,⟨h7.cell 0,h7.cell 1,h7.cell 2,h7.cell 3,h7.cell 4,h7.cell 5,h7.cell 6⟩,h4.lt,h5.lt,h6.lt,h7.lt⟩
def LH(T:List Nat)(w:World)(x:WS)(k s:Int)(e:ME)(b4 b5 b6 b7:Nat)(en:Ending)(w':World):Prop:=∃er l' x',lX x k s e er x'/\l'=x'.ts++pushB x k s e b4 b5 b6 b7/\l5 T w er l' en w'
theorem NJ(T:List Nat)(w:World)(x:WS)(b4 b5 b6 b7:Nat)(k s:Int)(e:ME)(h:BD T w w (x.ts++pushB x k s e b4 b5 b6 b7))(hS:∀W,x.P W->bJ W)(hP:∀W,x.P W->e.v.In W)(hq:∀n (hn:n<x.BI.length),x.BI[n].es1.length<=4096/\x.BI[n].es2.length<=4096):
  Calls prog 220 #[b4,b5,b6,b7] w (LH T w x k s e b4 b5 b6 b7):=by
 have BG:=hdq h;have HS:=hdq hS;have HP:=hdq hP;have HQ:=hdq hq;clear h hS hP hq;obtain⟨⟨p0,q0,s0⟩,⟨e0,e1,e2,e3,e4,e5,e6⟩,z4,z5,z6,z7⟩:=BG.o.pushB;by_cases hs:s=1\/s=2
 .by_cases hk:0<=k/\k<(x.BI.length:Int)
  .obtain⟨n,rfl⟩:=Int.eq_ofNat_of_zero_le hk.1
   have hnk:n<x.BI.length:=by omega
   clear hk;rcases hs with rfl|rfl
   .skip
    have HC:=hdq (fun W (hW:Touch [] w W)=>(BG.o.touch hW).sj (HS.o _ ((BG.o.touch hW).still 2 rfl)) 1 (by decide) n hnk);have CV:=hdq (fun W (hW:Touch [] w W)=>(BG.o.touch hW).Hu (s:=1) (6+(4*n+2)) 2 (x.kW _ n hnk 2 (by omega)) rfl (by omega) ((BG.o.touch hW).oM n hnk) rfl e (fun W h=>HP.o W h) (HQ.o n hnk).1);simp only[bB]at CV;generalize hcn:x.BI[n].c=cn at HC CV;have FV:=hdq hcn;clear hcn;have BZ:=hdq (Touch.refl [] w).drew;go_enter func220,ntmps220
    go_wp2_with fail
    refine hrq (S:=fun w'=>(w'.cell? ⟨b4,0,none⟩=some (.pointer (some ⟨x.wb,0,none⟩))/\w'.cell? ⟨b5,0,none⟩=some (.int .i64 (n:Int))/\w'.cell? ⟨b6,0,none⟩=some (.int .i64 1))/\(w'.cell? ⟨b7,0,none⟩=some (.int .i64 e.sync)/\w'.cell? ⟨b7,1,none⟩=some (.int .i64 e.thread)/\w'.cell? ⟨b7,2,none⟩=some (.int .i64 e.branch)/\w'.cell? ⟨b7,3,none⟩=some (.int .i64 e.flag)/\w'.cell? ⟨b7,4,none⟩=some (.int .i64 e.v.kind)/\w'.cell? ⟨b7,5,none⟩=some (.int .i64 e.v.num)/\w'.cell? ⟨b7,6,none⟩=some (.slice e.v.addr e.v.parts.length e.v.cap))) fun hHeld=>?_;refine tkq 0 5 ?_;refine tkq 1 6 ?_;refine tkq 2 7 ?_;refine tkq 4 9 ?_;refine tkq 5 10 ?_;refine rdq 3 rfl fun K hK=>?_;go_simp;refine(HC.o _ BZ.o).mono ?_;rintro en w1 ⟨rfl,ht⟩;have HT1:=hdq (BZ.o.trans' ht);have BB:=hdq (BG.o.touch HT1.o);clear ht p0 q0 s0 e0 e1 e2 e3 e4 e5 e6 z4 z5 z6 z7 hHeld;obtain⟨⟨p0,q0,s0⟩,⟨e0,e1,e2,e3,e4,e5,e6⟩,z4,z5,z6,z7⟩:=BB.o.pushB;go_simp;refine kpq hK.o fun hHeld=>?_;clear hK K;refine rdq 6 rfl fun K hK=>?_;go_simp;refine(CV.o _ HT1.o).mono ?_;rintro en w2 ⟨kk,er,ys,rfl,hR,hp,hL⟩;rw[x.tV n hnk {x.BI[n]with es1:=x.BI[n].es1++ys} (fun W=>x.P W/\∀y∈ys,y.v.In W) 2 (by omega) _ rfl rfl]at hL;have HL2:=hdq hL;have HR2:=hdq hR;have Ht:=hdq hp;clear hL hR hp p0 q0 s0 e0 e1 e2 e3 e4 e5 e6 z4 z5 z6 z7 hHeld BB;obtain⟨⟨p0,q0,s0⟩,⟨e0,e1,e2,e3,e4,e5,e6⟩,z4,z5,z6,z7⟩:=HL2.o.pushB;go_simp;refine kpq hK.o fun hHeld=>?_;clear hK K;refine tkq 7 4 ?_;refine dnq ?_;clear p0 q0 s0 e0 e1 e2 e3 e4 e5 e6 z4 z5 z6 z7 hHeld;go_wp2;go_ret
    exact⟨er,_,_,.inr (.inr ⟨n,hnk,kk,ys,rfl,Ht.o,.inl ⟨rfl,HR2.o,rfl⟩⟩),rfl,⟨er,0,.inl ⟨rfl,rfl⟩,by simp⟩,HL2.o⟩
   .skip
    have HC:=hdq (fun W (hW:Touch [] w W)=>(BG.o.touch hW).sj (HS.o _ ((BG.o.touch hW).still 2 rfl)) 2 (by decide) n hnk);have CV:=hdq (fun W (hW:Touch [] w W)=>(BG.o.touch hW).Hu (s:=2) (6+(4*n+3)) 2 (x.kW _ n hnk 3 (by omega)) rfl (by omega) ((BG.o.touch hW).oM n hnk) rfl e (fun W h=>HP.o W h) (HQ.o n hnk).2);simp only[bB]at CV;generalize hcn:x.BI[n].c=cn at HC CV;have FV:=hdq hcn;clear hcn;have BZ:=hdq (Touch.refl [] w).drew;go_enter func220,ntmps220
    go_wp2_with fail
    refine hrq (S:=fun w'=>(w'.cell? ⟨b4,0,none⟩=some (.pointer (some ⟨x.wb,0,none⟩))/\w'.cell? ⟨b5,0,none⟩=some (.int .i64 (n:Int))/\w'.cell? ⟨b6,0,none⟩=some (.int .i64 2))/\(w'.cell? ⟨b7,0,none⟩=some (.int .i64 e.sync)/\w'.cell? ⟨b7,1,none⟩=some (.int .i64 e.thread)/\w'.cell? ⟨b7,2,none⟩=some (.int .i64 e.branch)/\w'.cell? ⟨b7,3,none⟩=some (.int .i64 e.flag)/\w'.cell? ⟨b7,4,none⟩=some (.int .i64 e.v.kind)/\w'.cell? ⟨b7,5,none⟩=some (.int .i64 e.v.num)/\w'.cell? ⟨b7,6,none⟩=some (.slice e.v.addr e.v.parts.length e.v.cap))) fun hHeld=>?_;refine tkq 0 5 ?_;refine tkq 1 6 ?_;refine tkq 2 7 ?_;refine tkq 4 9 ?_;refine tkq 5 10 ?_;refine rdq 3 rfl fun K hK=>?_;go_simp;refine(HC.o _ BZ.o).mono ?_;rintro en w1 ⟨rfl,ht⟩;have HT1:=hdq (BZ.o.trans' ht);have BB:=hdq (BG.o.touch HT1.o);clear ht p0 q0 s0 e0 e1 e2 e3 e4 e5 e6 z4 z5 z6 z7 hHeld;obtain⟨⟨p0,q0,s0⟩,⟨e0,e1,e2,e3,e4,e5,e6⟩,z4,z5,z6,z7⟩:=BB.o.pushB;go_simp;refine kpq hK.o fun hHeld=>?_;clear hK K;refine rdq 6 rfl fun K hK=>?_;go_simp;refine(CV.o _ HT1.o).mono ?_;rintro en w2 ⟨kk,er,ys,rfl,hR,hp,hL⟩;rw[x.tV n hnk {x.BI[n]with es2:=x.BI[n].es2++ys} (fun W=>x.P W/\∀y∈ys,y.v.In W) 3 (by omega) _ rfl rfl]at hL;have HL2:=hdq hL;have HR2:=hdq hR;have Ht:=hdq hp;clear hL hR hp p0 q0 s0 e0 e1 e2 e3 e4 e5 e6 z4 z5 z6 z7 hHeld BB;obtain⟨⟨p0,q0,s0⟩,⟨e0,e1,e2,e3,e4,e5,e6⟩,z4,z5,z6,z7⟩:=HL2.o.pushB;go_simp;refine kpq hK.o fun hHeld=>?_;clear hK K;refine tkq 7 4 ?_;refine dnq ?_;clear p0 q0 s0 e0 e1 e2 e3 e4 e5 e6 z4 z5 z6 z7 hHeld;go_wp2;go_ret
    exact⟨er,_,_,.inr (.inr ⟨n,hnk,kk,ys,rfl,Ht.o,.inr ⟨rfl,HR2.o,rfl⟩⟩),rfl,⟨er,0,.inl ⟨rfl,rfl⟩,by simp⟩,HL2.o⟩
  .have HC:=hdq (fun W (hW:Touch [] w W)=>(BG.o.touch hW).nL (HS.o _ ((BG.o.touch hW).still 2 rfl)) s hs k hk)
   have HK:Hid (¬(0<=k/\k<(x.BI.length:Int))/\(s=1\/s=2)):=⟨hk,hs⟩;clear hk hs;have BZ:=hdq (Touch.refl [] w).drew;go_enter func220,ntmps220
   go_wp2_with fail
   refine hrq (S:=fun w'=>(w'.cell? ⟨b4,0,none⟩=some (.pointer (some ⟨x.wb,0,none⟩))/\w'.cell? ⟨b5,0,none⟩=some (.int .i64 k)/\w'.cell? ⟨b6,0,none⟩=some (.int .i64 s))/\(w'.cell? ⟨b7,0,none⟩=some (.int .i64 e.sync)/\w'.cell? ⟨b7,1,none⟩=some (.int .i64 e.thread)/\w'.cell? ⟨b7,2,none⟩=some (.int .i64 e.branch)/\w'.cell? ⟨b7,3,none⟩=some (.int .i64 e.flag)/\w'.cell? ⟨b7,4,none⟩=some (.int .i64 e.v.kind)/\w'.cell? ⟨b7,5,none⟩=some (.int .i64 e.v.num)/\w'.cell? ⟨b7,6,none⟩=some (.slice e.v.addr e.v.parts.length e.v.cap))) fun hHeld=>?_;refine tkq 0 5 ?_;refine tkq 1 6 ?_;refine tkq 2 7 ?_;refine tkq 4 9 ?_;refine tkq 5 10 ?_;refine rdq 3 rfl fun K hK=>?_;go_simp;refine(HC.o _ BZ.o).mono ?_;rintro en w1 ⟨rfl,ht⟩;dsimp only;exact⟨rfl,4,_,x,.inr (.inl ⟨HK.o.2,HK.o.1,rfl,rfl⟩),rfl,⟨0,4,.inr ⟨rfl,rfl⟩,rfl⟩,BG.o.touch (BZ.o.trans' ht)⟩
 .have HC:=hdq (fun W (hW:Touch [] w W)=>(BG.o.touch hW).nR (HS.o _ ((BG.o.touch hW).still 2 rfl)) s hs k)
  have HK:Hid (¬(s=1\/s=2)):=hs;clear hs;have BZ:=hdq (Touch.refl [] w).drew;go_enter func220,ntmps220
  go_wp2_with fail
  refine hrq (S:=fun w'=>(w'.cell? ⟨b4,0,none⟩=some (.pointer (some ⟨x.wb,0,none⟩))/\w'.cell? ⟨b5,0,none⟩=some (.int .i64 k)/\w'.cell? ⟨b6,0,none⟩=some (.int .i64 s))/\(w'.cell? ⟨b7,0,none⟩=some (.int .i64 e.sync)/\w'.cell? ⟨b7,1,none⟩=some (.int .i64 e.thread)/\w'.cell? ⟨b7,2,none⟩=some (.int .i64 e.branch)/\w'.cell? ⟨b7,3,none⟩=some (.int .i64 e.flag)/\w'.cell? ⟨b7,4,none⟩=some (.int .i64 e.v.kind)/\w'.cell? ⟨b7,5,none⟩=some (.int .i64 e.v.num)/\w'.cell? ⟨b7,6,none⟩=some (.slice e.v.addr e.v.parts.length e.v.cap))) fun hHeld=>?_;refine tkq 0 5 ?_;refine tkq 1 6 ?_;refine tkq 2 7 ?_;refine tkq 4 9 ?_;refine tkq 5 10 ?_;refine rdq 3 rfl fun K hK=>?_;go_simp;refine(HC.o _ BZ.o).mono ?_;rintro en w1 ⟨rfl,ht⟩;dsimp only;exact⟨rfl,2,_,x,.inl ⟨HK.o,rfl,rfl⟩,rfl,⟨0,2,.inr ⟨rfl,rfl⟩,rfl⟩,BG.o.touch (BZ.o.trans' ht)⟩
theorem KW(T:List Nat)(w:World)(x:WS)(k s:Int)(e:ME)(h:BD T w w x.ts)(hS:∀W,x.P W->bJ W)(hP:∀W,x.P W->e.v.In W)(hq:∀n (hn:n<x.BI.length),x.BI[n].es1.length<=4096/\x.BI[n].es2.length<=4096):
  Calls prog 131 #[x.wb,k,s,e.val] w fun en w'=>∃er x',en= .returned (.int .i64 er)/\lX x k s e er x'/\BD T w w' x'.ts:=by
 have Ep:= @mfq;have BG:=hdq h;clear h;rw[bB];go_enter func131,ntmps131
 go_wp2_with fail
 refine ah ?_;intro w1 hw1;have BB:=hdq (((((BG.o.alloc 48 #[x.wb]).alloc 3 #[k]).alloc 182 #[s]).alloc 65 #[e.sync,e.thread,e.branch,e.flag,e.v.kind,e.v.num,.slice e.v.addr e.v.parts.length e.v.cap]).toW hw1);simp only[World.size_alloc,List.append_assoc,cAq,nAq]at BB;generalize EF:w.heap.size+1+1+1=b7 at BB|-;generalize hb6:w.heap.size+1+1=b6 at BB|-;generalize hb5:w.heap.size+1=b5 at BB|-;generalize hb4:w.heap.size=b4 at BB|-;clear hw1 EF hb6 hb5 hb4 BG;refine(yJ T w w1 _ _ _ (fun er l'=>∃x',lX x k s e er x'/\l'=x'.ts++pushB x k s e b4 b5 b6 b7) BB.o (enters_of func220 (by kernel_rfl) rfl) (fun T' W hW=>?_)).mono ?_
 .refine(NJ T' W x b4 b5 b6 b7 k s e hW hS hP hq).mono ?_
  rintro en w' ⟨er,l',x',hx,rfl,ht⟩;exact⟨er,_,⟨x',hx,rfl⟩,ht⟩
 rintro en w' ⟨er,l',rfl,⟨x',hx,rfl⟩,hL⟩;have HL2:=hdq hL.aF;have HX:=hdq hx;clear hL BB hx;dsimp only;go_wp2;go_ret
 exact⟨er,x',rfl,HX.o,HL2.o⟩
section
theorem jw(p:Option Addr)(w:World):(Instr.build 163 #[(0,.pointer p)]).run prog w= .ok (.agg #[.pointer p]) w:=run_build w 163 _ _ (by kernel_rfl)
theorem qW(p:Option Addr)(w:World):(Instr.build 167 #[(0,.agg #[.pointer p])]).run prog w= .ok (.agg #[.pointer p,True,True,True]) w:=run_build w 167 _ _ (by kernel_rfl)
theorem vD(a b c:Int)(w:World):(Instr.build 256 #[(0,.int .i64 a),(1,.int .i64 b),(2,.int .i64 c)]).run prog w= .ok (.agg #[a,b,c]) w:=run_build w 256 _ _ (by kernel_rfl)
attribute [local go_sem] jw qW vD
def WS.empty(wb ga most:Nat)(P:World->Prop):WS:=⟨wb,ga,Ar.fresh most,P,[],[],[],none,0,none,0,none,0⟩
theorem OU(T:List Nat)(w:World)(P:World->Prop)(most:Nat)(h1:1<=most)(h2:most<=65536)(h:BD T w w [aA P]):
  Calls prog 35 #[(most:Int)] w fun e w'=>∃wb ga,e= .returned (.tuple #[.pointer (some ⟨wb,0,none⟩),()])/\BD T w w' (WS.empty wb ga most P).ts:=by
 have BG:=hdq h;clear h;go_enter func35,ntmps35
 go_wp2_with fail
 refine(BG.o.arNew most h1 h2).mono ?_;rintro e w1 ⟨rfl,hL⟩;have BB:=hdq hL;obtain⟨ga,hg⟩:∃b,w.heap.size=b:=⟨_,rfl⟩;simp only[hg]at BB|-;clear hL hg BG;go_wp2;refine aP ?_;intro w2 hw2;have HL2:=hdq ((((BB.o.DN hw2).gK 193 1).gK 158 1).gK 60 11);simp only[nAq,cAq]at HL2;clear hw2;go_ret2
 exact⟨_,ga,rfl,HL2.o.sel [2,1,0,3,4,5] rfl (by decide)⟩
section
variable {T:List Nat} {w0 w:World} {x:WS} {r0:List ai}
theorem BD.M9(h:BD T w0 w (x.ts++r0)):Calls prog 166 #[x.wb] w fun e w'=>e= .returned (.agg #[(x.BI.length:Int),(x.cos.length:Int),(x.sys.length:Int)])/\Touch [] w w':=by
 have HN:=hdq (fun W (hW:Touch [] w W)=>dG W x.wb x.ga _ _ _ (h.Cb.touch hW));have HW:=hdq (fun W (hW:Touch [] w W)=>h.Cb.touch hW);clear h;have BG:=hdq (BD.nil' w);go_enter func166,ntmps166
 go_wp2_with fail
 refine ah ?_;intro w1 hw1;have BB:=hdq (BG.o.DN hw1);simp only[nAq]at BB;generalize hb2:w.heap.size=b2 at BB|-;have hwb:x.wb<w.heap.size:=(HW.o w (Touch.refl [] w)).lt;have hne:b2≠x.wb:=by omega
 have hne':=Ne.symm hne;clear hw1 hb2;refine(HN.o w1 BB.o.BN).mono ?_;rintro e w' ⟨rfl,rfl⟩;obtain⟨p0,p1,p2,f0,f1,f2,z1,z2,z3⟩:=BB.o.c3 0 rfl;obtain⟨w0',w1',w2',w3'⟩:=HW.o w1 BB.o.BN;have zw:=(HW.o w1 BB.o.BN).lt;go_wp2_with fail
 go_region
 all_goals
  try go_wp2
  refine aP ?_;intro wz hwz;have BF:=hdq (((((BB.o.set 0 rfl 0 (.int .i64 (x.BI.length:Int))).set 0 rfl 1 (.int .i64 (x.cos.length:Int))).set 0 rfl 2 (.int .i64 (x.sys.length:Int))).drew).toW hwz);simp only[sSq,sZq,sAq]at BF;obtain⟨q0,q1,q2,_,_,_,_,_,_⟩:=BF.o.c3 0 rfl;clear p0 p1 p2 f0 f1 f2 w0' w1' w2' w3';refine bodyPost_ret (v:= .agg #[(x.BI.length:Int),(x.cos.length:Int),(x.sys.length:Int)]) (by simp[results,results166,go_sem,q0,q1,q2]) rfl ⟨rfl,BF.o.BN⟩
theorem BD.yV(h:BD T w0 w (x.ts++r0)):Calls prog 66 #[x.wb] w fun e w'=>e= .returned (.tuple #[(x.BI.length:Int),(x.cos.length:Int),(x.sys.length:Int)])/\Touch [] w w':=by
 have HC:=hdq h.M9;clear h;go_enter func66,ntmps66
 go_wp2_with fail
 refine HC.o.mono ?_;rintro e w1 ⟨rfl,ht⟩;have HT:=hdq (ht.alloc (.cells #[(x.BI.length:Int),(x.cos.length:Int),(x.sys.length:Int)] 256));clear ht;go_wp2_with fail
 go_region
 all_goals
  try go_wp2
  refine bodyPost_ret (v:= .tuple #[(x.BI.length:Int),(x.cos.length:Int),(x.sys.length:Int)]) (by simp[results,results66,go_sem]) rfl ⟨rfl,HT.o.drew⟩
theorem BD.aad(h:BD T w0 w (x.ts++r0)):Calls prog 191 #[.agg #[x.ga]] w fun e w'=>e= .returned (.int .i64 (x.s.C.length:Int))/\Touch [] w w':=by
 have HC:=hdq (fun W (hW:Touch [] w W)=>(h.touch hW).arq 1 (g:=x.ga) (s:=x.s) rfl (fun fp hI=>Ob W x.ga fp x.s hI));have HT:=hdq ((Touch.refl [] w).alloc (.cells #[x.ga] 163));clear h;go_enter func191,ntmps191
 go_wp2_with fail
 refine(HC.o _ HT.o).mono ?_;rintro e w' ⟨rfl,rfl⟩;go_wp2;go_ret
 exact⟨rfl,HT.o⟩
theorem BD.Be(h:BD T w0 w (x.ts++r0)):Calls prog 192 #[.agg #[x.ga]] w fun e w'=>e= .returned (.int .u64 (x.s.L.length:Int))/\Touch [] w w':=by
 have HC:=hdq (fun W (hW:Touch [] w W)=>(h.touch hW).arq 1 (g:=x.ga) (s:=x.s) rfl (fun fp hI=>AU W x.ga fp x.s hI));have HT:=hdq ((Touch.refl [] w).alloc (.cells #[x.ga] 163));clear h;go_enter func192,ntmps192
 go_wp2_with fail
 refine(HC.o _ HT.o).mono ?_;rintro e w' ⟨rfl,rfl⟩;go_wp2;go_ret
 exact⟨rfl,HT.o⟩
theorem BD.wQ(h:BD T w0 w (x.ts++r0)):Calls prog 90 #[x.wb] w fun e w'=>e= .returned (.tuple #[(x.s.C.length:Int),.int .u64 (x.s.L.length:Int)])/\Touch [] w w':=by
 have HN:=hdq (dG w x.wb x.ga _ _ _ h.Cb);have HW:=hdq (fun W (hW:Touch [] w W)=>h.Cb.touch hW);have HU:=hdq (fun W (hW:Touch [] w W)=>(h.touch hW).aad);have HA:=hdq (fun W (hW:Touch [] w W)=>(h.touch hW).Be);clear h;have BZ:=hdq (Touch.refl [] w).drew;go_enter func90,ntmps90
 go_wp2_with fail
 refine HN.o.mono ?_;rintro e w' ⟨rfl,rfl⟩;obtain⟨w0',w1',w2',w3'⟩:=HW.o w (Touch.refl [] w);have zw:=(HW.o w (Touch.refl [] w)).lt;go_wp2_with fail
 go_region_held3 (fun w'=>w'.cell? ⟨x.wb,0,none⟩=some (.pointer (some ⟨x.ga,0,none⟩))) (go_keep) (first
  |(go_at_call 191;refine(HU.o _ BZ.o).mono ?_;rintro e w2 ⟨rfl,ht⟩;have BZ:=hdq (BZ.o.trans' ht);clear ht w0' w1' w2' w3' zw;obtain⟨w0',w1',w2',w3'⟩:=HW.o _ BZ.o;have zw:=(HW.o _ BZ.o).lt)
  |(go_at_call 192;refine(HA.o _ BZ.o).mono ?_;rintro e w3 ⟨rfl,ht⟩;have BZ:=hdq (BZ.o.trans' ht);clear ht w0' w1' w2' w3' zw;obtain⟨w0',w1',w2',w3'⟩:=HW.o _ BZ.o;have zw:=(HW.o _ BZ.o).lt))
 all_goals
  rename_i hHeld;clear hHeld w0' w1' w2' w3' zw;go_wp2;go_ret2
  exact⟨rfl,BZ.o⟩
end
end
def WS.jM(x:WS)(n:Nat)(y:Ch)(P:World->Prop):WS:={x with cos:=x.cos.set n y,P:=P}
theorem xg(l:List Ch)(n:Nat)(hn:n<l.length)(y:Ch)(hy:y.c=l[n].c):bK (l.set n y)=bK l:=by
 unfold bK;rw[List.map_set,hy];apply List.ext_getElem
 .simp
 .intro i h1 h2
  rw[List.getElem_set];split
  .rename_i h;subst h;simp
  .rfl
def WS.h0(x:WS):ai:=box x.wb 167 #[x.ga,.slice x.a1 x.BI.length x.c1,.slice x.a2 x.cos.length x.c2,.slice x.a3 x.sys.length x.c3]
def WS.A(x:WS)(n:Nat):List ai:=[aS 193 1 (.slice x.a1 x.BI.length x.c1) x.BI.length (bP x.BI),aS 158 1 (.slice x.a2 x.cos.length x.c2) x.cos.length (bK x.cos),aS 60 11 (.slice x.a3 x.sys.length x.c3) x.sys.length (aU x.sys)]++x.BI.flatMap Ce.ts++(x.cos.take n).flatMap Ch.ts
theorem WS.co_split(x:WS)(n:Nat)(hn:n<x.cos.length)(r0:List ai):x.ts++r0=[x.h0,arena x.ga x.s,aA x.P]++x.A n++x.cos[n].ts++((x.cos.drop (n+1)).flatMap Ch.ts++r0):=by
 have e:x.cos.flatMap Ch.ts=(x.cos.take n).flatMap Ch.ts++(x.cos[n].ts++(x.cos.drop (n+1)).flatMap Ch.ts):=by
  conv=>lhs;rw[<-List.take_append_drop n x.cos,List.drop_eq_getElem_cons hn]
  rw[List.flatMap_append,List.flatMap_cons]
 unfold WS.ts;rw[e];simp[WS.head,WS.h0,WS.A]
theorem WS.zF(x:WS)(n:Nat)(hn:n<x.cos.length)(y:Ch)(P:World->Prop)(hy:y.c=x.cos[n].c)(r0:List ai):[x.h0,arena x.ga x.s,aA P]++x.A n++y.ts++((x.cos.drop (n+1)).flatMap Ch.ts++r0)=(x.jM n y P).ts++r0:=by
 have hn2:n<(x.jM n y P).cos.length:=by simp[WS.jM,hn]
 rw[(x.jM n y P).co_split n hn2 r0];have e1:(x.jM n y P).cos[n]=y:=by simp[WS.jM]
 have e2:((x.jM n y P).cos.drop (n+1))=x.cos.drop (n+1):=by show(x.cos.set n y).drop (n+1)=_;rw[List.drop_set,if_pos (by omega)]
 have e3:((x.jM n y P).cos.take n)=x.cos.take n:=by show(x.cos.set n y).take n=_;rw[List.take_set,List.set_eq_of_length_le (by simp;omega)]
 have e4:bK (x.jM n y P).cos=bK x.cos:=xg _ _ hn _ hy;have e5:(x.jM n y P).cos.length=x.cos.length:=by simp[WS.jM]
 rw[e1,e2];unfold WS.A WS.h0;rw[e3,e4,e5];rfl
section
variable {T:List Nat} {w0 w:World} {x:WS} {r0:List ai}
theorem BD.wWait(h:BD T w0 w (x.ts++r0))(n:Nat)(hn:n<x.cos.length)(e:ME)(hP:∀W,x.P W->e.v.In W)(hes:x.cos[n].es.length<=4096):
  Calls prog 118 #[.pointer (some ⟨x.cos[n].c,0,none⟩),e.val] w fun en w'=>∃(kk:Nat) (err:Int) (ys:List ME),en= .returned (.int .i64 err)/\kK x.cos[n].es.length [e.plain] kk err/\ys.map ME.plain=[e.plain].take kk/\BD T w0 w' ((x.jM n {x.cos[n]with es:=x.cos[n].es++ys} (fun W=>x.P W/\∀y∈ys,y.v.In W)).ts++r0):=by
 rw[x.co_split n hn r0]at h;obtain⟨T',hF,hb⟩:=h.vg;refine(Nq T' w x.cos[n].c x.cos[n].a x.cos[n].f x.cos[n].q x.cos[n].es x.P e hF hP hes).mono ?_;rintro en w' ⟨kk,err,ys,rfl,hR,hp,hL⟩;refine⟨kk,err,ys,rfl,hR,hp,?_⟩;rw[<-x.zF n hn {x.cos[n]with es:=x.cos[n].es++ys} (fun W=>x.P W/\∀y∈ys,y.v.In W) rfl r0];exact hb w' _ _ hL
theorem BD.wNext(h:BD T w0 w (x.ts++r0))(n:Nat)(hn:n<x.cos.length)(hes:x.cos[n].es.length<=4096):
  Calls prog 80 #[.pointer (some ⟨x.cos[n].c,0,none⟩)] w fun en w'=>∃(y:ME) (b:Bool),en= .returned (.tuple #[y.val,b])/\kF x.cos[n].es 0 y b/\BD T w0 w' ((x.jM n {x.cos[n]with es:=if b=true then x.cos[n].es.eraseIdx 0 else x.cos[n].es} x.P).ts++r0):=by
 rw[x.co_split n hn r0]at h;obtain⟨T',hF,hb⟩:=h.vg;refine(Mk T' w x.cos[n].c x.cos[n].a x.cos[n].f x.cos[n].q x.cos[n].es x.P hF hes).mono ?_;rintro en w' ⟨y,b,rfl,hR,hL⟩;refine⟨y,b,rfl,hR,?_⟩;rw[<-x.zF n hn {x.cos[n]with es:=if b=true then x.cos[n].es.eraseIdx 0 else x.cos[n].es} x.P rfl r0];exact hb w' _ _ hL
end
def nu(x:WS)(k:Int)(e:ME)(er:Int)(x':WS):Prop:=
 (¬(0<=k/\k<(x.cos.length:Int))/\er=4/\x'=x)\/
 ∃(n:Nat) (hn:n<x.cos.length) (kk:Nat) (ys:List ME),k=(n:Int)/\ys.map ME.plain=[e.plain].take kk/\kK x.cos[n].es.length [e.plain] kk er/\x'=x.jM n {x.cos[n]with es:=x.cos[n].es++ys} (fun W=>x.P W/\∀y∈ys,y.v.In W)
def lG(x:WS)(k:Int)(e:ME)(b4 b5 b7:Nat):List ai:=[box b4 48 #[x.wb],box b5 3 #[k],box b7 65 #[e.sync,e.thread,e.branch,e.flag,e.v.kind,e.v.num,.slice e.v.addr e.v.parts.length e.v.cap]]
theorem BD.lG{T:List Nat}{w0 w:World}{x y:WS}{k:Int}{e:ME}{b4 b5 b7:Nat}(h:BD T w0 w (y.ts++lG x k e b4 b5 b7)):(w.cell? ⟨b4,0,none⟩=some (.pointer (some ⟨x.wb,0,none⟩))/\w.cell? ⟨b5,0,none⟩=some (.int .i64 k))/\(w.cell? ⟨b7,0,none⟩=some (.int .i64 e.sync)/\w.cell? ⟨b7,1,none⟩=some (.int .i64 e.thread)/\w.cell? ⟨b7,2,none⟩=some (.int .i64 e.branch)/\w.cell? ⟨b7,3,none⟩=some (.int .i64 e.flag)/\w.cell? ⟨b7,4,none⟩=some (.int .i64 e.v.kind)/\w.cell? ⟨b7,5,none⟩=some (.int .i64 e.v.num)/\w.cell? ⟨b7,6,none⟩=some (.slice e.v.addr e.v.parts.length e.v.cap))/\b4<w.heap.size/\b5<w.heap.size/\b7<w.heap.size:=by
 have h4:=h.box y.ts.length (b:=b4) (t:=48) (cs:=#[.pointer (some ⟨x.wb,0,none⟩)]) (by simp[Proofs.YtegejdlglonflaaGreatDoor.lG]);have h5:=h.box (y.ts.length+1) (b:=b5) (t:=3) (cs:=#[.int .i64 k]) (by simp[Proofs.YtegejdlglonflaaGreatDoor.lG]);have h7:=h.box (y.ts.length+2) (b:=b7) (t:=65) (cs:=#[.int .i64 e.sync,.int .i64 e.thread,.int .i64 e.branch,.int .i64 e.flag,.int .i64 e.v.kind,.int .i64 e.v.num,.slice e.v.addr e.v.parts.length e.v.cap]) (by simp[Proofs.YtegejdlglonflaaGreatDoor.lG]);exact⟨⟨h4.cell 0,h5.cell 0⟩,⟨h7.cell 0,h7.cell 1,h7.cell 2,h7.cell 3,h7.cell 4,h7.cell 5,h7.cell 6⟩,h4.lt,h5.lt,h7.lt⟩
def JE(T:List Nat)(w:World)(x:WS)(k:Int)(e:ME)(b4 b5 b7:Nat)(en:Ending)(w':World):Prop:=∃er l' x',nu x k e er x'/\l'=x'.ts++lG x k e b4 b5 b7/\l5 T w er l' en w'
theorem MO(T:List Nat)(w:World)(x:WS)(b4 b5 b7:Nat)(k:Int)(e:ME)(h:BD T w w (x.ts++lG x k e b4 b5 b7))(hP:∀W,x.P W->e.v.In W)(hq:∀n (hn:n<x.cos.length),x.cos[n].es.length<=4096):
  Calls prog 117 #[b4,b5,b7] w (JE T w x k e b4 b5 b7):=by
 have BG:=hdq h;have HP:=hdq hP;have HQ:=hdq hq;clear h hP hq;obtain⟨⟨p0,q0⟩,⟨e0,e1,e2,e3,e4,e5,e6⟩,z4,z5,z7⟩:=BG.o.lG;by_cases hk:0<=k/\k<(x.cos.length:Int)
 .obtain⟨n,rfl⟩:=Int.eq_ofNat_of_zero_le hk.1
  have hnk:n<x.cos.length:=by omega
  clear hk;have HC:=hdq (fun W (hW:Touch [] w W)=>(BG.o.touch hW).r9 n hnk);have CV:=hdq (fun W (hW:Touch [] w W)=>(BG.o.touch hW).wWait n hnk e HP.o (HQ.o n hnk));simp only[bB]at CV;generalize hcn:x.cos[n].c=cn at HC CV;have FV:=hdq hcn;clear hcn;have BZ:=hdq (Touch.refl [] w).drew;go_enter func117,ntmps117
  go_wp2_with fail
  refine hrq (S:=fun w'=>(w'.cell? ⟨b4,0,none⟩=some (.pointer (some ⟨x.wb,0,none⟩))/\w'.cell? ⟨b5,0,none⟩=some (.int .i64 (n:Int)))/\(w'.cell? ⟨b7,0,none⟩=some (.int .i64 e.sync)/\w'.cell? ⟨b7,1,none⟩=some (.int .i64 e.thread)/\w'.cell? ⟨b7,2,none⟩=some (.int .i64 e.branch)/\w'.cell? ⟨b7,3,none⟩=some (.int .i64 e.flag)/\w'.cell? ⟨b7,4,none⟩=some (.int .i64 e.v.kind)/\w'.cell? ⟨b7,5,none⟩=some (.int .i64 e.v.num)/\w'.cell? ⟨b7,6,none⟩=some (.slice e.v.addr e.v.parts.length e.v.cap))) fun hHeld=>?_;refine tkq 0 4 ?_;refine tkq 1 5 ?_;refine tkq 3 7 ?_;refine rdq 2 rfl fun K hK=>?_;go_simp;refine(HC.o _ BZ.o).mono ?_;rintro en w1 ⟨rfl,ht⟩;have HT1:=hdq (BZ.o.trans' ht);have BB:=hdq (BG.o.touch HT1.o);clear ht p0 q0 e0 e1 e2 e3 e4 e5 e6 z4 z5 z7 hHeld;obtain⟨⟨p0,q0⟩,⟨e0,e1,e2,e3,e4,e5,e6⟩,z4,z5,z7⟩:=BB.o.lG;go_simp;refine kpq hK.o fun hHeld=>?_;clear hK K;refine rdq 4 rfl fun K hK=>?_;go_simp;refine(CV.o _ HT1.o).mono ?_;rintro en w2 ⟨kk,er,ys,rfl,hR,hp,hL⟩;have HL2:=hdq hL;have HR2:=hdq hR;have Ht:=hdq hp;clear hL hR hp p0 q0 e0 e1 e2 e3 e4 e5 e6 z4 z5 z7 hHeld BB;obtain⟨⟨p0,q0⟩,⟨e0,e1,e2,e3,e4,e5,e6⟩,z4,z5,z7⟩:=HL2.o.lG;go_simp;refine kpq hK.o fun hHeld=>?_;clear hK K;refine tkq 5 3 ?_;refine dnq ?_;clear p0 q0 e0 e1 e2 e3 e4 e5 e6 z4 z5 z7 hHeld;go_wp2;go_ret
  obtain rfl:=FV.o;exact⟨er,_,_,.inr ⟨n,hnk,kk,ys,rfl,Ht.o,HR2.o,rfl⟩,rfl,⟨er,0,.inl ⟨rfl,rfl⟩,by simp⟩,HL2.o⟩
 .have HC:=hdq (fun W (hW:Touch [] w W)=>(BG.o.touch hW).iP k hk)
  have HK:Hid (¬(0<=k/\k<(x.cos.length:Int))):=hk;clear hk;have BZ:=hdq (Touch.refl [] w).drew;go_enter func117,ntmps117
  go_wp2_with fail
  refine hrq (S:=fun w'=>(w'.cell? ⟨b4,0,none⟩=some (.pointer (some ⟨x.wb,0,none⟩))/\w'.cell? ⟨b5,0,none⟩=some (.int .i64 k))/\(w'.cell? ⟨b7,0,none⟩=some (.int .i64 e.sync)/\w'.cell? ⟨b7,1,none⟩=some (.int .i64 e.thread)/\w'.cell? ⟨b7,2,none⟩=some (.int .i64 e.branch)/\w'.cell? ⟨b7,3,none⟩=some (.int .i64 e.flag)/\w'.cell? ⟨b7,4,none⟩=some (.int .i64 e.v.kind)/\w'.cell? ⟨b7,5,none⟩=some (.int .i64 e.v.num)/\w'.cell? ⟨b7,6,none⟩=some (.slice e.v.addr e.v.parts.length e.v.cap))) fun hHeld=>?_;refine tkq 0 4 ?_;refine tkq 1 5 ?_;refine tkq 3 7 ?_;refine rdq 2 rfl fun K hK=>?_;go_simp;refine(HC.o _ BZ.o).mono ?_;rintro en w1 ⟨rfl,ht⟩;dsimp only;exact⟨rfl,4,_,x,.inl ⟨HK.o,rfl,rfl⟩,rfl,⟨0,4,.inr ⟨rfl,rfl⟩,rfl⟩,BG.o.touch (BZ.o.trans' ht)⟩
theorem ag9(T:List Nat)(w:World)(x:WS)(k:Int)(e:ME)(h:BD T w w x.ts)(hP:∀W,x.P W->e.v.In W)(hq:∀n (hn:n<x.cos.length),x.cos[n].es.length<=4096):
  Calls prog 39 #[x.wb,k,e.val] w fun en w'=>∃er x',en= .returned (.int .i64 er)/\nu x k e er x'/\BD T w w' x'.ts:=by
 have Ep:= @mfq;have BG:=hdq h;clear h;rw[bB];go_enter func39,ntmps39
 go_wp2_with fail
 refine ah ?_;intro w1 hw1;have BB:=hdq ((((BG.o.alloc 48 #[x.wb]).alloc 3 #[k]).alloc 65 #[e.sync,e.thread,e.branch,e.flag,e.v.kind,e.v.num,.slice e.v.addr e.v.parts.length e.v.cap]).toW hw1);simp only[World.size_alloc,List.append_assoc,cAq,nAq]at BB;generalize EF:w.heap.size+1+1=b7 at BB|-;generalize hb5:w.heap.size+1=b5 at BB|-;generalize hb4:w.heap.size=b4 at BB|-;clear hw1 EF hb5 hb4 BG;refine(yJ T w w1 _ _ _ (fun er l'=>∃x',nu x k e er x'/\l'=x'.ts++lG x k e b4 b5 b7) BB.o (enters_of func117 (by kernel_rfl) rfl) (fun T' W hW=>?_)).mono ?_
 .refine(MO T' W x b4 b5 b7 k e hW hP hq).mono ?_
  rintro en w' ⟨er,l',x',hx,rfl,ht⟩;exact⟨er,_,⟨x',hx,rfl⟩,ht⟩
 rintro en w' ⟨er,l',rfl,⟨x',hx,rfl⟩,hL⟩;have HL2:=hdq hL.aF;have HX:=hdq hx;clear hL BB hx;dsimp only;go_wp2;go_ret
 exact⟨er,x',rfl,HX.o,HL2.o⟩
def aL.of(y:ME)(b:Bool):aL:=⟨y.sync,y.thread,y.branch,y.flag,y.v.kind,y.v.num,y.v.addr,y.v.parts.length,y.v.cap,b⟩
def lS(x:WS)(k:Int)(v:aL)(er:Int)(x':WS):Prop:=
 (¬(0<=k/\k<(x.cos.length:Int))/\v=aL.zero/\er=4/\x'=x)\/
 ∃(n:Nat) (hn:n<x.cos.length) (y:ME) (b:Bool),k=(n:Int)/\kF x.cos[n].es 0 y b/\v=aL.of y b/\er=0/\x'=x.jM n {x.cos[n]with es:=if b=true then x.cos[n].es.eraseIdx 0 else x.cos[n].es} x.P
def kG(x:WS)(k:Int)(b3 b4:Nat):List ai:=[box b3 48 #[x.wb],box b4 3 #[k]]
theorem BD.kG{T:List Nat}{w0 w:World}{x y:WS}{k:Int}{b3 b4:Nat}{r:List ai}(h:BD T w0 w (y.ts++(kG x k b3 b4++r))):w.cell? ⟨b3,0,none⟩=some (.pointer (some ⟨x.wb,0,none⟩))/\w.cell? ⟨b4,0,none⟩=some (.int .i64 k)/\b3<w.heap.size/\b4<w.heap.size:=by
 have h4:=h.box y.ts.length (b:=b3) (t:=48) (cs:=#[.pointer (some ⟨x.wb,0,none⟩)]) (by simp[Proofs.YtegejdlglonflaaGreatDoor.kG]);have h5:=h.box (y.ts.length+1) (b:=b4) (t:=3) (cs:=#[.int .i64 k]) (by simp[Proofs.YtegejdlglonflaaGreatDoor.kG]);exact⟨h4.cell 0,h5.cell 0,h4.lt,h5.lt⟩
def AR(T:List Nat)(w:World)(x:WS)(k:Int)(b3 b4:Nat)(en:Ending)(w':World):Prop:=∃(v:aL) (er:Int) (x':WS),lS x k v er x'/\((er=0/\en= .returned v.val)\/(v=aL.zero/\en= .panicked (aX er)))/\BD T w w' (x'.ts++kG x k b3 b4)
theorem ND(T:List Nat)(w:World)(x:WS)(b3 b4:Nat)(k:Int)(h:BD T w w (x.ts++kG x k b3 b4))(hq:∀n (hn:n<x.cos.length),x.cos[n].es.length<=4096):
  Calls prog 79 #[b3,b4] w (AR T w x k b3 b4):=by
 have BG:=hdq h;have HQ:=hdq hq;clear h hq;go_enter func79,ntmps79
 go_upto_region 1 with fail
 refine ay ?_;intro w1 hw1;have BB:=hdq (BG.o.DN hw1);simp only[List.append_assoc]at BB;generalize hbf:w.heap.size=bf at BB|-;clear hw1 hbf BG;obtain⟨p0,q0,z3,z4⟩:=BB.o.kG;by_cases hk:0<=k/\k<(x.cos.length:Int)
 .obtain⟨n,rfl⟩:=Int.eq_ofNat_of_zero_le hk.1
  have hnk:n<x.cos.length:=by omega
  clear hk;have HC:=hdq (BB.o.r9 n hnk);have CV:=hdq (fun W (hW:Touch [] w1 W)=>(BB.o.touch hW).wNext n hnk (HQ.o n hnk));generalize hcn:x.cos[n].c=cn at HC CV;have FV:=hdq hcn;clear hcn;go_wp2_with fail
  refine HC.o.mono ?_;rintro en w2 ⟨rfl,ht⟩;have HT2:=hdq ht;clear ht;go_wp2_with fail
  refine(CV.o _ HT2.o).mono ?_;rintro en w3 ⟨y,b,rfl,hR,hL⟩;obtain rfl:=FV.o;have HR:=hdq hR;have BF:=hdq (BD.aB (a:=[]) (c:=[box bf 169 #[(),(),(),(),(),(),True,false]]) (b:=_++kG x (n:Int) b3 b4) (by rw[List.nil_append,List.append_assoc];exact hL));simp only[nAq,cAq]at BF;clear hL hR BB HC CV FV p0 q0 z3 z4;obtain⟨⟨f0,f1,f2,f3,f4,f5,f6,f7⟩,⟨g0,g1,g2,g3,g4,g5,g6,g7⟩,zf,_,_⟩:=BF.o.dA 0 rfl;have BH:=hdq ((((((((BF.o.set 0 rfl 0 (.int .i64 y.sync)).set 0 rfl 1 (.int .i64 y.thread)).set 0 rfl 2 (.int .i64 y.branch)).set 0 rfl 3 (.int .i64 y.flag)).set 0 rfl 4 (.int .i64 y.v.kind)).set 0 rfl 5 (.int .i64 y.v.num)).set 0 rfl 6 (.slice y.v.addr y.v.parts.length y.v.cap)).set 0 rfl 7 (.bool b));simp only[sZq,sAq,sSq]at BH;simp only[bB];go_upto_region 2 with fail
  refine ay ?_;intro w4 hw4;have Ca:=hdq (BH.o.toW hw4);clear hw4 BH BF f0 f1 f2 f3 f4 f5 f6 f7 g0 g1 g2 g3 g4 g5 g6 g7 zf;obtain⟨⟨f0,f1,f2,f3,f4,f5,f6,f7⟩,⟨g0,g1,g2,g3,g4,g5,g6,g7⟩,zf,_,_⟩:=Ca.o.dA 0 rfl;have Db:=hdq ((((((((Ca.o.set 0 rfl 0 (.int .i64 y.sync)).set 0 rfl 1 (.int .i64 y.thread)).set 0 rfl 2 (.int .i64 y.branch)).set 0 rfl 3 (.int .i64 y.flag)).set 0 rfl 4 (.int .i64 y.v.kind)).set 0 rfl 5 (.int .i64 y.v.num)).set 0 rfl 6 (.slice y.v.addr y.v.parts.length y.v.cap)).set 0 rfl 7 (.bool b));simp only[sZq,sAq,sSq]at Db;go_wp2;refine aP ?_;intro w5 DC;have C8:=hdq (Db.o.toW DC);clear DC Db Ca f0 f1 f2 f3 f4 f5 f6 f7 g0 g1 g2 g3 g4 g5 g6 g7 zf;obtain⟨⟨f0,f1,f2,f3,f4,f5,f6,f7⟩,_,_⟩:=C8.o.dA 0 rfl;refine bodyPost_ret (v:=(aL.of y b).val) (by simp[results,results79,go_sem,f0,f1,f2,f3,f4,f5,f6,f7,aL.val,aL.of]) rfl ?_;exact⟨aL.of y b,0,_,.inr ⟨n,hnk,y,b,rfl,HR.o,rfl,rfl,rfl⟩,.inl ⟨rfl,rfl⟩,BD.aF (BD.aB (a:=[]) (b:=[_]) C8.o)⟩
 .have HC:=hdq (BB.o.iP k hk)
  have HK:Hid (¬(0<=k/\k<(x.cos.length:Int))):=hk;clear hk;go_wp2_with fail
  refine HC.o.mono ?_;rintro en w2 ⟨rfl,ht⟩;dsimp only;have h2:=BB.o.touch ht;rw[<-List.append_assoc]at h2;exact⟨rfl,aL.zero,4,x,.inl ⟨HK.o,rfl,rfl,rfl⟩,.inr ⟨rfl,rfl⟩,h2.aF⟩
def dJ(b:Nat):ai:=box b 65 #[(),(),(),(),(),(),True]
def aL.ent(v:aL):Value:= .agg #[v.sync,v.thread,v.branch,v.flag,v.kind,v.num,.slice v.lA v.lN v.lC]
theorem afX(T:List Nat)(w:World)(x:WS)(k:Int)(h:BD T w w x.ts)(hq:∀n (hn:n<x.cos.length),x.cos[n].es.length<=4096):
  Calls prog 17 #[x.wb,k] w fun en w'=>∃(v:aL) (er:Int) (x':WS),en= .returned (.tuple #[v.ent,v.is,.int .i64 er])/\lS x k v er x'/\BD T w w' x'.ts:=by
 have Ep:= @mfq;have BG:=hdq h;clear h;go_enter func17,ntmps17
 go_wp2_with fail
 refine ah ?_;intro w1 hw1;have BB:=hdq (BG.o.UX hw1);generalize hb4:w.heap.size+1+1=b4 at BB|-;generalize hb3:w.heap.size+1=b3 at BB|-;generalize hb2:w.heap.size=b2 at BB|-;clear hw1 hb4 hb3 hb2 BG;refine(jy T w w1 _ _ _ (fun v er l'=>∃x',lS x k v er x'/\l'=x'.ts++kG x k b2 b3++[dJ b4]) BB.o (enters_of func79 (by kernel_rfl) rfl) (fun T' W hW=>?_)).mono ?_
 .obtain⟨T2,hF,hb⟩:=BD.aN (m:=x.ts++kG x k b2 b3) (r:=[dJ b4]) (by rw[List.append_assoc];exact hW)
  refine(ND T2 W x b2 b3 k hF hq).mono ?_;rintro en w' ⟨v,er,x',hx,he,hL⟩;exact⟨v,er,_,he,⟨x',hx,rfl⟩,hb _ _ hL⟩
 rintro en w2 ⟨v,er,l',rfl,⟨x',hx,rfl⟩,hL⟩;have HX:=hdq hx;have BF:=hdq hL;clear hL hx;unfold aL.val;dsimp only;go_upto_region 2 with fail
 refine ay ?_;intro w3 hw3;have BH:=hdq (BD.aB (a:=[]) (b:=x'.ts++kG x k b2 b3) (c:=[dJ b4,box w2.heap.size 169 #[v.sync,v.thread,v.branch,v.flag,v.kind,v.num,.slice v.lA v.lN v.lC,v.is]]) (by simpa using(BF.o.DN hw3)));simp only[nAq,cAq,dJ]at BH;generalize EF:w2.heap.size=b7 at BH|-;clear hw3 EF BF BB;obtain⟨e0,e1,e2,e3,e4,e5,e6,⟨ef0,ef1,ef2,ef3,ef4,ef5,ef6⟩,ze,_,_⟩:=BH.o.c7 0 rfl;obtain⟨⟨f0,f1,f2,f3,f4,f5,f6,f7⟩,⟨g0,g1,g2,g3,g4,g5,g6,g7⟩,zf,_,_⟩:=BH.o.dA 1 rfl;have hne:=BH.o.ne 0 1 rfl rfl (by decide);have hne':=Ne.symm hne;go_wp2_with fail
 refine hrq (S:=fun w'=>w'.cell? ⟨b7,0,none⟩=some (.int .i64 v.sync)/\w'.cell? ⟨b7,1,none⟩=some (.int .i64 v.thread)/\w'.cell? ⟨b7,2,none⟩=some (.int .i64 v.branch)/\w'.cell? ⟨b7,3,none⟩=some (.int .i64 v.flag)/\w'.cell? ⟨b7,4,none⟩=some (.int .i64 v.kind)/\w'.cell? ⟨b7,5,none⟩=some (.int .i64 v.num)/\w'.cell? ⟨b7,6,none⟩=some (.slice v.lA v.lN v.lC)/\w'.cell? ⟨b7,7,none⟩=some (.bool v.is)) fun hHeld=>?_;refine tkq 0 14 ?_;refine tkq 1 15 ?_;refine tkq 2 16 ?_;refine tkq 3 17 ?_;refine tkq 4 18 ?_;refine opq 5 fun hHeld=>?_;refine tkq 6 5 ?_;refine tkq 7 6 ?_;refine dnq ?_;have Ca:=hdq (((((((BH.o.set 0 rfl 0 (.int .i64 v.sync)).set 0 rfl 1 (.int .i64 v.thread)).set 0 rfl 2 (.int .i64 v.branch)).set 0 rfl 3 (.int .i64 v.flag)).set 0 rfl 4 (.int .i64 v.kind)).set 0 rfl 5 (.int .i64 v.num)).set 0 rfl 6 (.slice v.lA v.lN v.lC)).drew;simp only[sZq,sAq,sSq]at Ca;clear BH f0 f1 f2 f3 f4 f5 f6 f7 g0 g1 g2 g3 g4 g5 g6 g7 zf hHeld e0 e1 e2 e3 e4 e5 e6 ef0 ef1 ef2 ef3 ef4 ef5 ef6 ze hne hne';go_wp2;refine aP ?_;intro w5 DC;have C8:=hdq (Ca.o.toW DC);clear DC Ca;obtain⟨e0,e1,e2,e3,e4,e5,e6,_,ze,_,_⟩:=C8.o.c7 0 rfl;refine bodyPost_ret (v:= .tuple #[v.ent,v.is,.int .i64 er]) (by simp[results,results17,go_sem,e0,e1,e2,e3,e4,e5,e6,aL.ent]) rfl ?_;have hz:BD T w w5 (x'.ts++kG x k b2 b3++[_,_]):=BD.aB (a:=[]) (b:=[_,_]) C8.o;exact⟨v,er,x',rfl,HX.o,(BD.aF (BD.aF hz))⟩
def bD(W:World)(es:List ME):Prop:=∀e∈es,e.v.In W/\e.v.nodes<=256
def WS.fD(x:WS)(W:World):Prop:=(∀c∈x.BI,bD W c.es1/\bD W c.es2)/\∀c∈x.cos,bD W c.es
def WS.knows(x:WS)(Q:World->Prop):WS:={x with P:=fun W=>x.P W/\Q W}
section
variable {T:List Nat} {w0 w w':World} {x:WS} {r0:List ai}
theorem BD.IB(h:BD T w0 w (x.ts++r0))(ht:Touch [] w w')(vs:List MT)(hin:∀t∈vs,t.In w')(hn:∀t∈vs,∀k∈t.blocks,w.heap.size<=k):BD T w0 w' ((x.knows (fun W=>∀t∈vs,t.In W)).ts++r0):=
 (h.gH ht hin hn).settle 2 rfl (fun W f hp hv=>⟨hp,hv.2⟩)
theorem BD.YL(h:BD T w0 w (x.ts++r0))(k:Nat)(hk:k<x.BI.length):Kk w x.BI[k].q1 x.BI[k].es1/\Kk w x.BI[k].q2 x.BI[k].es2:=
 ⟨h.qAt (6+(4*k+2)) (x.kW r0 k hk 2 (by omega)),h.qAt (6+(4*k+3)) (x.kW r0 k hk 3 (by omega))⟩
end
theorem IX:(prog.info? 193).map (fun i=>(i.zero,i.size,i.bytes))=some (some (.pointer none),1,8):=by kernel_rfl
theorem Jo:(prog.info? 158).map (fun i=>(i.zero,i.size,i.bytes))=some (some (.pointer none),1,8):=by kernel_rfl
theorem zI(c:Nat):∀u∈[Value.pointer (some ⟨c,0,none⟩)],u.oneCell'=true:=by simp[Value.oneCell']
def WS.sI(x:WS)(s:Ar)(y:Ce)(a:Option Addr)(c:Nat):WS:={x with s:=s,BI:=x.BI++[y],a1:=a,c1:=c}
def WS.sV(x:WS)(s:Ar)(P:World->Prop)(y:Ch)(a:Option Addr)(c:Nat):WS:={x with s:=s,P:=P,cos:=x.cos++[y],a2:=a,c2:=c}
def WS.oq(x:WS)(s:Ar)(vb v:Value)(n:Nat)(xs:List Value):List ai:=
 [box x.wb 167 #[x.ga,vb,.slice x.a2 x.cos.length x.c2,.slice x.a3 x.sys.length x.c3],arena x.ga s,aA x.P,aS 193 1 v n xs,aS 158 1 (.slice x.a2 x.cos.length x.c2) x.cos.length (bK x.cos),aS 60 11 (.slice x.a3 x.sys.length x.c3) x.sys.length (aU x.sys)]
def WS.oK(x:WS)(s:Ar)(P:World->Prop)(vb v:Value)(n:Nat)(xs:List Value):List ai:=
 [box x.wb 167 #[x.ga,.slice x.a1 x.BI.length x.c1,vb,.slice x.a3 x.sys.length x.c3],arena x.ga s,aA P,aS 193 1 (.slice x.a1 x.BI.length x.c1) x.BI.length (bP x.BI),aS 158 1 v n xs,aS 60 11 (.slice x.a3 x.sys.length x.c3) x.sys.length (aU x.sys)]
theorem WS.KP(x:WS)(s:Ar)(y:Ce)(a:Option Addr)(c:Nat)(r0:List ai):(x.sI s y a c).ts++r0=x.oq s (.slice a (x.BI.length+1) c) (.slice a (x.BI.length+1) c) (x.BI.length+1) (bP x.BI++[.pointer (some ⟨y.c,0,none⟩)])++x.BI.flatMap Ce.ts++y.ts++(x.cos.flatMap Ch.ts++r0):=by
 simp[WS.sI,WS.ts,WS.head,WS.oq,bP,List.flatMap_append]
theorem WS.Ij(x:WS)(s:Ar)(P:World->Prop)(y:Ch)(a:Option Addr)(c:Nat)(r0:List ai):(x.sV s P y a c).ts++r0=x.oK s P (.slice a (x.cos.length+1) c) (.slice a (x.cos.length+1) c) (x.cos.length+1) (bK x.cos++[.pointer (some ⟨y.c,0,none⟩)])++(x.BI.flatMap Ce.ts++x.cos.flatMap Ch.ts)++y.ts++r0:=by
 simp[WS.sV,WS.ts,WS.head,WS.oK,bK,List.flatMap_append]
theorem BD.joinCh{T:List Nat}{w0 w:World}{x:WS}{s:Ar}{y:Ce}{a:Option Addr}{c:Nat}{r0:List ai}(h:BD T w0 w (x.oq s (.slice a (x.BI.length+1) c) (.slice a (x.BI.length+1) c) (x.BI.length+1) (bP x.BI++[.pointer (some ⟨y.c,0,none⟩)])++(x.BI.flatMap Ce.ts++x.cos.flatMap Ch.ts)++r0++y.ts)):BD T w0 w ((x.sI s y a c).ts++r0):=by
 rw[x.KP];exact BD.aB (a:=x.oq s (.slice a (x.BI.length+1) c) (.slice a (x.BI.length+1) c) (x.BI.length+1) (bP x.BI++[.pointer (some ⟨y.c,0,none⟩)])++x.BI.flatMap Ce.ts) (b:=x.cos.flatMap Ch.ts++r0) (c:=y.ts) (by simpa only[List.append_assoc]using h)
theorem BD.joinCo{T:List Nat}{w0 w:World}{x:WS}{s:Ar}{P:World->Prop}{y:Ch}{a:Option Addr}{c:Nat}{r0:List ai}(h:BD T w0 w (x.oK s P (.slice a (x.cos.length+1) c) (.slice a (x.cos.length+1) c) (x.cos.length+1) (bK x.cos++[.pointer (some ⟨y.c,0,none⟩)])++(x.BI.flatMap Ce.ts++x.cos.flatMap Ch.ts)++r0++y.ts)):BD T w0 w ((x.sV s P y a c).ts++r0):=by
 rw[x.Ij];exact BD.aB (a:=x.oK s P (.slice a (x.cos.length+1) c) (.slice a (x.cos.length+1) c) (x.cos.length+1) (bK x.cos++[.pointer (some ⟨y.c,0,none⟩)])++(x.BI.flatMap Ce.ts++x.cos.flatMap Ch.ts)) (b:=r0) (c:=y.ts) h
theorem jg(s:Ar)(n:Nat)(hn:0<n)(h:¬s.C.length+n<=s.most):(s.au (n:Int)).1=s:=by
 unfold Ar.au;rw[if_neg (by omega),if_pos (by omega)]
def jG(x:WS)(v er:Int)(x':WS):Prop:=
 (x.s.C.length+1<=x.s.most/\v=(x.BI.length:Int)/\er=0/\∃c M q1 q2 a cap,x'=x.sI (x.s.au 1).1 ⟨c,(x.s.C.length:Int),M,q1,q2,[],[]⟩ a cap)\/(¬x.s.C.length+1<=x.s.most/\v=0/\er=6/\x'=x)
def jE(x:WS)(v er:Int)(x':WS):Prop:=
 (x.s.C.length+2<=x.s.most/\v=(x.cos.length:Int)/\er=0/\∃c q a cap,x'=x.sV (x.s.au 2).1 x.P ⟨c,(x.s.C.length:Int),(x.s.C.length+1:Int),q,[]⟩ a cap)\/(¬x.s.C.length+2<=x.s.most/\v=0/\er=6/\x'=x)
def wB(x:WS)(b2:Nat):ai:=box b2 48 #[x.wb]
theorem BD.jc{T:List Nat}{w0 w:World}{x:WS}{m:List ai}{b2:Nat}{r:List ai}(h:BD T w0 w (m++(wB x b2::r))):w.cell? ⟨b2,0,none⟩=some (.pointer (some ⟨x.wb,0,none⟩))/\b2<w.heap.size:=by
 have h4:=h.box m.length (b:=b2) (t:=48) (cs:=#[.pointer (some ⟨x.wb,0,none⟩)]) (by simp[wB]);exact⟨h4.cell 0,h4.lt⟩
theorem ad7(x:WS)(m:List ai)(hm:∀T w0 w,BD T w0 w m->∃v1 v2 v3,Fe w x.wb x.ga v1 v2 v3):RdG prog 96 #[x.wb] [m] fun e=>∃y:Unit,True/\e= .returned ((fun _=> .bool false) y):=ado fun T w0 w hl=>by
 obtain⟨v1,v2,v3,h⟩:=hm T w0 w hl;exact(dG w x.wb x.ga v1 v2 v3 h).mono fun e w' ⟨he,hw⟩=>⟨he,hw▸Touch.refl _ _⟩
theorem aci(x:WS)(v1 v2 v3:Value):RdG prog 96 #[x.wb] [[box x.wb 167 #[x.ga,v1,v2,v3]]] fun e=>∃y:Unit,True/\e= .returned ((fun _=> .bool false) y):=ad7 x _ fun T w0 w hl=>by
 have hb:=hl.box 0 (b:=x.wb) rfl;exact⟨v1,v2,v3,hb.cell 0,hb.cell 1,hb.cell 2,hb.cell 3⟩
theorem acj{D:FuncId}{caps:Array Value}{X:LG}{R:Int->Int->LG->Prop}(hen:∀args w,(callFunc D args).run prog w= .ok (.enter D args) w)(hd:aai prog D caps X fun e Y=>∃v er,Ends e (.int .i64 v) er (.int .i64 0)/\R v er Y):aai prog 104 #[.func (.func D) #[] caps] X fun e Y=>∃v er,e= .returned (.tuple #[.int .i64 v,.int .i64 er])/\R v er Y:=fun T w hl=>
 (lH T w w X.flatten D caps (fun v er l'=>∃Y,l'=Y.flatten/\Y.length=X.length/\R v er Y) hl hen (fun T' W hW=>(hd T' W hW).mono fun e w' ⟨Y,hY,⟨v,er,he,hR⟩,hl'⟩=>⟨v,er,Y.flatten,he,⟨Y,rfl,hY,hR⟩,hl'⟩)).mono fun e w' ⟨v,er,l',he,⟨Y,hl1,hY,hR⟩,hl'⟩=>⟨Y,hY,⟨v,er,he,hR⟩,hl1▸hl'⟩
theorem aeb{T:List Nat}{w0 w:World}{g:Nat}{s:Ar}{q c:Nat}{f o:Int}(h:BD T w0 w ([arena g s]++[aQ q [],bS [],Proofs.YtegejdlglonflaaGreatDoor.box c 269 #[f,o,q]])):BD T w0 w (arena g s::Ch.ts ⟨c,f,o,q,[]⟩):=by
 exact h.sel [0,3,1] (l':=[arena g s,Proofs.YtegejdlglonflaaGreatDoor.box c 269 #[f,o,q],aQ q []]) rfl (by decide)
theorem aec(x:WS)(b2:Nat)(hS:∀W,x.P W->bJ W)(hn:x.BI.length<=1000000):aai prog 123 #[b2] [x.ts,[box b2 48 #[x.wb]]] fun e Y=>∃v er x',jG x v er x'/\Ends e (.int .i64 v) er (.int .i64 0)/\Y=[x'.ts,[box b2 48 #[x.wb]]]:=by
 by_cases hok:x.s.C.length+1<=x.s.most
 .have hN:aai prog 125 #[x.ga] [[arena x.ga x.s],[aA x.P]] (xq (fun _:Nat×Nat×Nat×Nat=>True) (fun y=> .tuple #[.pointer (some ⟨y.1,0,none⟩),()]) fun y=>[arena x.ga (x.s.au 1).1::gB y.1 (x.s.C.length:Int) y.2.1 y.2.2.1 y.2.2.2 [] [],[aA x.P]]):=fun T w hl=>(BD.chNew (l:=[_,_]) hl 0 rfl (fun W hW=>hS W (hW.still 1 rfl)) hok).mono fun e w' ⟨c,M,q1,q2,he,hl'⟩=>⟨[arena x.ga (x.s.au 1).1::gB c (x.s.C.length:Int) M q1 q2 [] [],[aA x.P]],rfl,⟨(c,M,q1,q2),trivial,he,rfl⟩,by simpa using BD.aB (a:=[arena x.ga (x.s.au 1).1]) (b:=[aA x.P]) (c:=gB c (x.s.C.length:Int) M q1 q2 [] []) hl'⟩
  have hRes:=fun y:Option Addr=>abF fun w=>lI w y;have hI:adJ prog 164 193 1 8:=adz IX;have hn1:x.BI.length+1<=4000000:=by omega
  have hwr:IntKind.i64.wrap (x.BI.length:Int)=(x.BI.length:Int):=IntWalk.i64_in _ (by omega);have hC:=aci x (.slice x.a1 x.BI.length x.c1) (.slice x.a2 x.cos.length x.c2) (.slice x.a3 x.sys.length x.c3);refine aai.go func123 ntmps123 ?_;refine W.turn (M':=[[box x.wb 167 #[x.ga,.slice x.a1 x.BI.length x.c1,.slice x.a2 x.cos.length x.c2,.slice x.a3 x.sys.length x.c3]],[arena x.ga x.s],[aA x.P],[aS 193 1 (.slice x.a1 x.BI.length x.c1) x.BI.length (bP x.BI)],[aS 158 1 (.slice x.a2 x.cos.length x.c2) x.cos.length (bK x.cos),aS 60 11 (.slice x.a3 x.sys.length x.c3) x.sys.length (aU x.sys)]++(x.BI.flatMap Ce.ts++x.cos.flatMap Ch.ts),[box b2 48 #[x.wb]]]) ?_ (fun T w0 w hl=>by simpa[WS.ts,WS.head]using hl);refine go ?_;refine crr hC fun _ _=>?_;refine go ?_;refine cr (abF fun w=>require_ok w 1) fun _ _=>?_;refine go ?_;refine W.rgd ?_;repeat (refine' rgk ?_;rotate_left)
  refine rgz 0 ?_ ?_;refine go ?_;refine cr hN fun y _=>?_;refine go ?_;refine cr (hRes _) fun _ _=>?_;refine go ?_;refine mbq (hal:=by intro w;go_simp;exact⟨rfl,rfl⟩) fun b5=>?_;refine apq (news:=[.pointer (some ⟨y.1,0,none⟩)]) (m:=1) hI rfl (zI _) hn1 (by decide) (hnm:=rfl) fun aa cap=>?_;refine go ?_;refine W.ady [(x.sI (x.s.au 1).1 ⟨y.1,(x.s.C.length:Int),y.2.1,y.2.2.1,y.2.2.2,[],[]⟩ aa cap).ts,[box b2 48 #[x.wb]]] (fun T w0 w hl=>BD.less (m:=(x.sI (x.s.au 1).1 ⟨y.1,(x.s.C.length:Int),y.2.1,y.2.2.1,y.2.2.2,[],[]⟩ aa cap).ts++[box b2 48 #[x.wb]]) (r:=[box b5 193 #[.pointer (some ⟨y.1,0,none⟩)]]) (by
   have h2:=BD.aB (a:=[_,_]) (b:=gB y.1 (x.s.C.length:Int) y.2.1 y.2.2.1 y.2.2.2 [] []) (c:=_) (by simpa using hl);rw[List.append_assoc];exact BD.joinCh (r0:=[box b2 48 #[x.wb],box b5 193 #[.pointer (some ⟨y.1,0,none⟩)]]) (by simpa[WS.oq,Ce.ts]using h2))) ?_
  exact⟨_,0,_,.inl ⟨hok,rfl,rfl,y.1,y.2.1,y.2.2.1,y.2.2.2,aa,cap,rfl⟩,.inl ⟨rfl,rfl⟩,rfl⟩
  kernel_rfl
 .have hN:aai prog 125 #[x.ga] [[arena x.ga x.s]] (xq (fun _:Unit=>True) (fun _=> .tuple #[.pointer none,(6:Int)]) fun _=>[[arena x.ga x.s]]):=fun T w hl=>(BD.xA (l:=[_]) hl 0 rfl hok).mono fun e w' ⟨he,hl'⟩=>⟨_,rfl,⟨(),trivial,he,rfl⟩,by rw[show(x.s.au 1).1=x.s from jg x.s 1 (by omega) hok]at hl';exact hl'⟩
  have hB:=fun w=>kg w none 6 (by decide);have hC:=aci x (.slice x.a1 x.BI.length x.c1) (.slice x.a2 x.cos.length x.c2) (.slice x.a3 x.sys.length x.c3);refine aai.go func123 ntmps123 ?_;refine W.turn (M':=[[box x.wb 167 #[x.ga,.slice x.a1 x.BI.length x.c1,.slice x.a2 x.cos.length x.c2,.slice x.a3 x.sys.length x.c3]],[arena x.ga x.s],[aA x.P],[aS 193 1 (.slice x.a1 x.BI.length x.c1) x.BI.length (bP x.BI)],[aS 158 1 (.slice x.a2 x.cos.length x.c2) x.cos.length (bK x.cos),aS 60 11 (.slice x.a3 x.sys.length x.c3) x.sys.length (aU x.sys)]++(x.BI.flatMap Ce.ts++x.cos.flatMap Ch.ts),[box b2 48 #[x.wb]]]) ?_ (fun T w0 w hl=>by simpa[WS.ts,WS.head]using hl);refine go ?_;refine crr hC fun _ _=>?_;refine go ?_;refine cr (abF fun w=>require_ok w 1) fun _ _=>?_;refine go ?_;refine W.rgd ?_;repeat (refine' rgk ?_;rotate_left)
  refine rgz 0 ?_ ?_;refine go ?_;refine cr hN fun _ _=>?_;refine go ?_;refine pfy (rs:=[]) (ade hB) [x.ts,[box b2 48 #[x.wb]]] (fun T w0 w hl=>by simpa[WS.ts,WS.head,wB,puts]using hl) ?_;exact⟨0,6,x,.inr ⟨hok,rfl,rfl,rfl⟩,.inr ⟨rfl,rfl⟩,rfl⟩
  kernel_rfl
theorem IA(T:List Nat)(w:World)(x:WS)(h:BD T w w x.ts)(hS:∀W,x.P W->bJ W)(hn:x.BI.length<=1000000):
  Calls prog 42 #[x.wb] w fun e w'=>∃(v er:Int) (x':WS),e= .returned (.tuple #[.int .i64 v,.int .i64 er])/\jG x v er x'/\BD T w w' x'.ts:=by
 have hg:aai prog 42 #[x.wb] [x.ts] (xq (fun y:Int×Int×WS=>jG x y.1 y.2.1 y.2.2) (fun y=> .tuple #[.int .i64 y.1,.int .i64 y.2.1]) fun y=>[y.2.2.ts]):=by
  have Ep:=mkf;refine aai.go func42 ntmps42 ?_;refine go1 fun b2=>?_;refine cq (acj (enters_of func123 (by kernel_rfl) rfl) (R:=fun v er Y=>∃x',jG x v er x'/\Y=[x'.ts,[box b2 48 #[x.wb]]]) ((aec x b2 hS hn).mono fun e Y ⟨v,er,x',hm,he,hY⟩=>⟨v,er,he,x',hm,hY⟩)) ?_;rintro _ _ ⟨v,er,rfl,x',hm,rfl⟩;refine⟨_,rfl,nq ?_⟩;refine go ?_;refine W.abg ?_;exact⟨(v,er,x'),hm,rfl,rfl⟩
 exact(hg T w (by simpa using h)).mono fun e w' ⟨Y,_,⟨x',hm,he,hY⟩,hl⟩=>⟨_,_,_,he,hm,by rw[hY]at hl;simpa using hl⟩
theorem aea(x:WS)(b2:Nat)(hn:x.cos.length<=1000000):aai prog 105 #[b2] [x.ts,[box b2 48 #[x.wb]]] fun e Y=>∃v er x',jE x v er x'/\Ends e (.int .i64 v) er (.int .i64 0)/\Y=[x'.ts,[box b2 48 #[x.wb]]]:=by
 by_cases hok:x.s.C.length+2<=x.s.most
 .have hN:aai prog 108 #[x.ga] [[arena x.ga x.s]] (xq (fun _:Nat×Nat=>True) (fun y=> .tuple #[.pointer (some ⟨y.2,0,none⟩),()]) fun y=>[arena x.ga (x.s.au 2).1::Ch.ts ⟨y.2,(x.s.C.length:Int),(x.s.C.length+1:Int),y.1,[]⟩]):=fun T w hl=>(BD.cNew (l:=[_]) hl 0 rfl hok).mono fun e w' ⟨q,c,he,hl'⟩=>⟨[arena x.ga (x.s.au 2).1::Ch.ts ⟨c,(x.s.C.length:Int),(x.s.C.length+1:Int),q,[]⟩],rfl,⟨(q,c),trivial,he,rfl⟩,by simpa using aeb hl'⟩
  have hRes:=fun y:Option Addr=>abF fun w=>lm w y;have hI:adJ prog 165 158 1 8:=adz Jo;have hn1:x.cos.length+1<=4000000:=by omega
  have hwr:IntKind.i64.wrap (x.cos.length:Int)=(x.cos.length:Int):=IntWalk.i64_in _ (by omega);have hC:=aci x (.slice x.a1 x.BI.length x.c1) (.slice x.a2 x.cos.length x.c2) (.slice x.a3 x.sys.length x.c3);refine aai.go func105 ntmps105 ?_;refine W.turn (M':=[[box x.wb 167 #[x.ga,.slice x.a1 x.BI.length x.c1,.slice x.a2 x.cos.length x.c2,.slice x.a3 x.sys.length x.c3]],[arena x.ga x.s],[aA x.P,aS 193 1 (.slice x.a1 x.BI.length x.c1) x.BI.length (bP x.BI)],[aS 158 1 (.slice x.a2 x.cos.length x.c2) x.cos.length (bK x.cos)],aS 60 11 (.slice x.a3 x.sys.length x.c3) x.sys.length (aU x.sys)::(x.BI.flatMap Ce.ts++x.cos.flatMap Ch.ts),[box b2 48 #[x.wb]]]) ?_ (fun T w0 w hl=>by simpa[WS.ts,WS.head]using hl);refine go ?_;refine crr hC fun _ _=>?_;refine go ?_;refine cr (abF fun w=>require_ok w 1) fun _ _=>?_;refine go ?_;refine W.rgd ?_;repeat (refine' rgk ?_;rotate_left)
  refine rgz 0 ?_ ?_;refine go ?_;refine cr hN fun y _=>?_;refine go ?_;refine cr (hRes _) fun _ _=>?_;refine go ?_;refine mbq (hal:=by intro w;go_simp;exact⟨rfl,rfl⟩) fun b5=>?_;refine apq (news:=[.pointer (some ⟨y.2,0,none⟩)]) (m:=1) hI rfl (zI _) hn1 (by decide) (hnm:=rfl) fun aa cap=>?_;refine go ?_;refine W.ady [(x.sV (x.s.au 2).1 x.P ⟨y.2,(x.s.C.length:Int),(x.s.C.length+1:Int),y.1,[]⟩ aa cap).ts,[box b2 48 #[x.wb]]] (fun T w0 w hl=>BD.less (m:=(x.sV (x.s.au 2).1 x.P ⟨y.2,(x.s.C.length:Int),(x.s.C.length+1:Int),y.1,[]⟩ aa cap).ts++[box b2 48 #[x.wb]]) (r:=[box b5 158 #[.pointer (some ⟨y.2,0,none⟩)]]) (by
   have h2:=BD.aB (a:=[_,_]) (b:=Ch.ts ⟨y.2,(x.s.C.length:Int),(x.s.C.length+1:Int),y.1,[]⟩) (c:=_) (by simpa using hl);rw[List.append_assoc];exact BD.joinCo (r0:=[box b2 48 #[x.wb],box b5 158 #[.pointer (some ⟨y.2,0,none⟩)]]) (by simpa[WS.oK,Ch.ts]using h2))) ?_
  exact⟨_,0,_,.inl ⟨hok,rfl,rfl,y.2,y.1,aa,cap,rfl⟩,.inl ⟨rfl,rfl⟩,rfl⟩
  kernel_rfl
 .have hN:aai prog 108 #[x.ga] [[arena x.ga x.s]] (xq (fun _:Unit=>True) (fun _=> .tuple #[.pointer none,(6:Int)]) fun _=>[[arena x.ga x.s]]):=fun T w hl=>(BD.Au (l:=[_]) hl 0 rfl hok).mono fun e w' ⟨he,hl'⟩=>⟨_,rfl,⟨(),trivial,he,rfl⟩,by rw[show(x.s.au 2).1=x.s from jg x.s 2 (by omega) hok]at hl';exact hl'⟩
  have hB:=fun w=>ku w none 6 (by decide);have hC:=aci x (.slice x.a1 x.BI.length x.c1) (.slice x.a2 x.cos.length x.c2) (.slice x.a3 x.sys.length x.c3);refine aai.go func105 ntmps105 ?_;refine W.turn (M':=[[box x.wb 167 #[x.ga,.slice x.a1 x.BI.length x.c1,.slice x.a2 x.cos.length x.c2,.slice x.a3 x.sys.length x.c3]],[arena x.ga x.s],[aA x.P,aS 193 1 (.slice x.a1 x.BI.length x.c1) x.BI.length (bP x.BI)],[aS 158 1 (.slice x.a2 x.cos.length x.c2) x.cos.length (bK x.cos)],aS 60 11 (.slice x.a3 x.sys.length x.c3) x.sys.length (aU x.sys)::(x.BI.flatMap Ce.ts++x.cos.flatMap Ch.ts),[box b2 48 #[x.wb]]]) ?_ (fun T w0 w hl=>by simpa[WS.ts,WS.head]using hl);refine go ?_;refine crr hC fun _ _=>?_;refine go ?_;refine cr (abF fun w=>require_ok w 1) fun _ _=>?_;refine go ?_;refine W.rgd ?_;repeat (refine' rgk ?_;rotate_left)
  refine rgz 0 ?_ ?_;refine go ?_;refine cr hN fun _ _=>?_;refine go ?_;refine pfy (rs:=[]) (ade hB) [x.ts,[box b2 48 #[x.wb]]] (fun T w0 w hl=>by simpa[WS.ts,WS.head,wB,puts]using hl) ?_;exact⟨0,6,x,.inr ⟨hok,rfl,rfl,rfl⟩,.inr ⟨rfl,rfl⟩,rfl⟩
  kernel_rfl
theorem Lc(T:List Nat)(w:World)(x:WS)(h:BD T w w x.ts)(hn:x.cos.length<=1000000):
  Calls prog 36 #[x.wb] w fun e w'=>∃(v er:Int) (x':WS),e= .returned (.tuple #[.int .i64 v,.int .i64 er])/\jE x v er x'/\BD T w w' x'.ts:=by
 have hg:aai prog 36 #[x.wb] [x.ts] (xq (fun y:Int×Int×WS=>jE x y.1 y.2.1 y.2.2) (fun y=> .tuple #[.int .i64 y.1,.int .i64 y.2.1]) fun y=>[y.2.2.ts]):=by
  have Ep:=mkf;refine aai.go func36 ntmps36 ?_;refine go1 fun b2=>?_;refine cq (acj (enters_of func105 (by kernel_rfl) rfl) (R:=fun v er Y=>∃x',jE x v er x'/\Y=[x'.ts,[box b2 48 #[x.wb]]]) ((aea x b2 hn).mono fun e Y ⟨v,er,x',hm,he,hY⟩=>⟨v,er,he,x',hm,hY⟩)) ?_;rintro _ _ ⟨v,er,rfl,x',hm,rfl⟩;refine⟨_,rfl,nq ?_⟩;refine go ?_;refine W.abg ?_;exact⟨(v,er,x'),hm,rfl,rfl⟩
 exact(hg T w (by simpa using h)).mono fun e w' ⟨Y,_,⟨x',hm,he,hY⟩,hl⟩=>⟨_,_,_,he,hm,by rw[hY]at hl;simpa using hl⟩
theorem uZ(l:List bL)(n j:Nat)(hn:n<l.length)(hj:j<11)(u:Value)(v':bL)(h:l[n].cells.set j u=v'.cells):(aU l).set (n*11+j) u=aU (l.set n v'):=by
 induction l generalizing n with
 |nil=>simp at hn
 |cons a l ih=>
  unfold aU at ih|-;rw[List.flatMap_cons];have hl:a.cells.length=11:=rfl;cases n with
  |zero=>
   rw[List.set_append_left _ _ (by rw[hl];omega)];simp only[sZq,List.flatMap_cons];rw[<-h];simp
  |succ n=>
   rw[List.set_append_right _ _ (by rw[hl];omega),hl,show(n+1)*11+j-11=n*11+j from by omega];simp only[sSq,List.flatMap_cons];rw[ih n (by simpa using hn) (by simpa using h)]
def WS.eP(x:WS)(n:Nat)(v:bL):WS:={x with sys:=x.sys.set n v}
section
variable {T:List Nat} {w0 w:World} {x:WS} {r0:List ai}
theorem BD.wK(h:BD T w0 w (x.ts++r0))(n:Nat)(hn:n<x.sys.length)(g:Nat)(hg:x.a3=some ⟨g,0,none⟩)(j:Nat)(hj:j<11)(u:Value)(v':bL)(hv:x.sys[n].cells.set j u=v'.cells):
  BD T w0 (w.setCell ⟨g,n*11+j,none⟩ u) ((x.eP n v').ts++r0):=by
 have h1:=h.pI 5 (e:=60) (size:=11) (g:=g) (n:=x.sys.length) (cap:=x.c3) (xs:=aU x.sys) (by rw[<-hg];rfl) (n*11+j) u;rw[uZ _ _ _ hn hj u v' hv,<-hg]at h1;rw[show(x.eP n v').ts++r0=(x.ts++r0).set 5 (aS 60 11 (.slice x.a3 x.sys.length x.c3) x.sys.length (aU (x.sys.set n v'))) from by simp[WS.eP,WS.ts,WS.head]];exact h1
theorem BD.om(h:BD T w0 w (x.ts++r0))(g:Nat)(hg:x.a3=some ⟨g,0,none⟩)(j:Nat):w.frozen? ⟨g,j,none⟩=false:=by
 have hr:=h.aZ 5 (e:=60) (size:=11) (v:= .slice x.a3 x.sys.length x.c3) (n:=x.sys.length) (xs:=aU x.sys) rfl;rw[hg]at hr;exact ji hr j
theorem BD.jA(h:BD T w0 w (x.ts++r0))(n:Nat)(hn:n<x.sys.length)(g:Nat)(hg:x.a3=some ⟨g,0,none⟩)(r:Nat)(hr:r<11):w.cell? ⟨g,n*11+r,none⟩=x.sys[n].cells[r]? :=by
 obtain⟨g4,hg4,hc⟩:=h.dU n hn;rw[hg]at hg4;injection hg4 with hg4
 injection hg4 with hg4
 subst hg4;exact hc r hr
end
def wG(x:WS)(k er:Int)(x':WS):Prop:=
 (¬(0<=k/\k<(x.sys.length:Int))/\er=4/\x'=x)\/∃(n:Nat) (hn:n<x.sys.length),k=(n:Int)/\er=0/\x'=x.eP n {x.sys[n]with parked:=false}
theorem aha(T:List Nat)(w:World)(x:WS)(k:Int)(h:BD T w w x.ts)(hlen:x.sys.length<=1000000):
  Calls prog 165 #[x.wb,k] w fun e w'=>∃(er:Int) (x':WS),e= .returned (.int .i64 er)/\wG x k er x'/\BD T w w' x'.ts:=by
 have BG:Hid (BD T w w (x.ts++[])):=by rw[List.append_nil];exact h
 clear h;have HN:=hdq (dG w x.wb x.ga _ _ _ BG.o.Cb);obtain⟨w0',w1',w2',w3'⟩:=BG.o.Cb;have zw:=BG.o.Cb.lt;go_enter func165,ntmps165
 go_wp2_with fail
 refine HN.o.mono ?_;rintro e w' ⟨rfl,rfl⟩;clear HN;by_cases hk:0<=k/\k<(x.sys.length:Int)
 .obtain⟨n,rfl⟩:=Int.eq_ofNat_of_zero_le hk.1
  have hnk:n<x.sys.length:=by omega
  clear hk;obtain⟨g3,hg3,hx⟩:=BG.o.dU n hnk;clear hx;have f4:w.cell? ⟨g3,n*11+4,none⟩=some (.bool x.sys[n].parked):=BG.o.jA n hnk g3 hg3 4 (by omega);have z4:=BG.o.om g3 hg3 (n*11+4);have zg:g3<w.heap.size:=World.block_lt_of_cell? _ _ f4;have BB:=hdq (BG.o.wK n hnk g3 hg3 4 (by omega) (.bool false) {x.sys[n]with parked:=false} rfl);have HE:Hid (wG x (n:Int) 0 (x.eP n {x.sys[n]with parked:=false})):= .inr ⟨n,hnk,rfl,rfl,rfl⟩;generalize x.eP n {x.sys[n]with parked:=false}=x' at BB HE;generalize x.sys[n].parked=pk at f4;rw[hg3]at w3';have h1:¬((n:Int)<0):=by omega
  have h2:¬((x.sys.length:Int)<=(n:Int)):=by omega
  go_wp2;go_ret
  rw[List.append_nil]at BB;exact⟨0,x',rfl,HE.o,BB.o⟩
 .have HE:Hid (wG x k 4 x):= .inl ⟨hk,rfl,rfl⟩
  have BB:Hid (BD T w w x.ts):=by have h:=BG.o;rw[List.append_nil]at h;exact h
  generalize x.sys.length=m at w3' hk hlen;generalize x.a3=aa at w3';by_cases h1:k<0
  .go_wp2
   go_ret
   exact⟨4,x,rfl,HE.o,BB.o⟩
  .have h2:(m:Int)<=k:=by omega
   go_wp2;go_ret
   exact⟨4,x,rfl,HE.o,BB.o⟩
def kB(b:Nat)(k:Int):ai:=box b 3 #[k]
theorem BD.kBAt{T:List Nat}{w0 w:World}{m:List ai}{t:ai}{b:Nat}{k:Int}{r:List ai}(h:BD T w0 w (m++(t::kB b k::r))):w.cell? ⟨b,0,none⟩=some (.int .i64 k)/\b<w.heap.size:=by
 have h4:=h.box (m.length+1) (b:=b) (t:=3) (cs:=#[.int .i64 k]) (by simp[kB]);exact⟨h4.cell 0,h4.lt⟩
def jk(x:WS)(k:Int)(v:Bool)(er:Int)(x':WS):Prop:=
 (¬(0<=k/\k<(x.sys.length:Int))/\v=false/\er=4/\x'=x)\/∃(n:Nat) (hn:n<x.sys.length) (r:Nat×Nat×Ar),k=(n:Int)/\r=fT x.s x.sys[n].flag/\
  ((r.2.1≠0/\v=false/\er=(r.2.1:Int)/\x'=x.ar r.2.2)\/(r.2.1=0/\v=((r.1:Int) != 2)/\er=0/\x'=(x.ar r.2.2).eP n {x.sys[n]with parked:=((r.1:Int) != 2)}))
def Ji(T:List Nat)(w:World)(x:WS)(k:Int)(b2 b3:Nat)(en:Ending)(w':World):Prop:=∃(v:Bool) (er:Int) (x':WS),jk x k v er x'/\Ends en (.bool v) er (.bool false)/\BD T w w' (x'.ts++[wB x b2,kB b3 k])
theorem NT(T:List Nat)(w:World)(x:WS)(b2 b3:Nat)(k:Int)(h:BD T w w (x.ts++[wB x b2,kB b3 k]))(hn:x.s.L.length<1000000):
  Calls prog 119 #[b2,b3] w (Ji T w x k b2 b3):=by
 have BG:=hdq h;have HN:=hdq hn;clear h hn;obtain⟨p0,zp⟩:=BG.o.jc;obtain⟨q0,zq⟩:=BG.o.kBAt;by_cases hk:0<=k/\k<(x.sys.length:Int)
 .obtain⟨n,rfl⟩:=Int.eq_ofNat_of_zero_le hk.1
  have hnk:n<x.sys.length:=by omega
  clear hk;obtain⟨g3,hg3,hx⟩:=BG.o.dU n hnk;clear hx;have HC:=hdq (BG.o.nC n hnk g3 hg3);have HG:=hdq hg3;clear hg3;obtain⟨fl,hfl⟩:∃fl,x.sys[n].flag=fl:=⟨_,rfl⟩;have HFL:=hdq hfl;obtain⟨r,hr⟩:∃r,fT x.s fl=r:=⟨_,rfl⟩;have HR:=hdq hr;clear hfl hr;go_enter func119,ntmps119
  go_wp2_with fail
  refine HC.o.mono ?_;rintro e w1 ⟨rfl,ht⟩;have BB:=hdq (BG.o.touch ht);clear ht p0 zp q0 zq HC BG;obtain⟨p0,zp⟩:=BB.o.jc;obtain⟨w0',w1',w2',w3'⟩:=BB.o.Cb;have zw:=BB.o.Cb.lt;have f3:w1.cell? ⟨g3,n*11+3,none⟩=some (.int .i64 fl):=HFL.o▸BB.o.jA n hnk g3 HG.o 3 (by omega);have zg:g3<w1.heap.size:=World.block_lt_of_cell? _ _ f3;have CV:Hid (∀W,Touch [] w1 W->Calls prog 121 #[x.ga,.int .i64 fl] W fun e w'=>e= .returned (.tuple #[(r.1:Int),(r.2.1:Int)])/\BD T w w' ((x.ar r.2.2).ts++[wB x b2,kB b3 (n:Int)])):=fun W hW=>by
   have hCH:=(BB.o.touch hW).Ih 1 (g:=x.ga) (s:=x.s) rfl fl r.2.2 r.1 r.2.1 (by have :=HN.o;omega) (by rw[<-HR.o];rfl) (by rw[<-HR.o];rfl);simp only[WS.iy]at hCH;exact hCH
  have BZ:=hdq (Touch.refl [] w1).drew;clear w1' w2' w3';go_wp2_with fail
  refine hrq (S:=fun w'=>w'.cell? ⟨b2,0,none⟩=some (.pointer (some ⟨x.wb,0,none⟩))/\w'.cell? ⟨x.wb,0,none⟩=some (.pointer (some ⟨x.ga,0,none⟩))/\w'.cell? ⟨g3,n*11+3,none⟩=some (.int .i64 fl)) fun hHeld=>?_;refine tkq 0 8 ?_;refine tkq 1 9 ?_;refine tkq 2 10 ?_;refine tkq 3 11 ?_;refine tkq 4 12 ?_;refine tkq 5 13 ?_;refine tkq 6 14 ?_;refine tkq 7 15 ?_;refine tkq 8 16 ?_;refine rdq 9 rfl fun K hK=>?_;go_simp;refine(CV.o _ BZ.o).mono ?_;rintro en w2 ⟨rfl,hL⟩;have HL2:=hdq hL;clear hL BZ CV p0 zp w0' zw f3 zg hHeld BB;obtain⟨p0,zp⟩:=HL2.o.jc;have w0':w2.cell? ⟨x.wb,0,none⟩=some (.pointer (some ⟨x.ga,0,none⟩)):=HL2.o.Cb.1;have zw:x.wb<w2.heap.size:=HL2.o.Cb.lt;have f3:w2.cell? ⟨g3,n*11+3,none⟩=some (.int .i64 fl):=HFL.o▸HL2.o.jA n hnk g3 HG.o 3 (by omega);have zg:g3<w2.heap.size:=World.block_lt_of_cell? _ _ f3;have f4:w2.cell? ⟨g3,n*11+4,none⟩=some (.bool x.sys[n].parked):=HL2.o.jA n hnk g3 HG.o 4 (by omega);have z4:=HL2.o.om g3 HG.o (n*11+4);go_simp;refine kpq hK.o fun hHeld=>?_;clear hK K;refine tkq 10 18 ?_;refine tkq 11 19 ?_;refine rdq 12 rfl fun K hK=>?_;go_simp;by_cases h0:r.2.1=0
  .rw[h0]
   refine(jf _ _).mono ?_;rintro en w3 ⟨rfl,rfl⟩;clear hHeld;go_simp;refine kpq hK.o fun hHeld=>?_;clear hK K;refine tkq 13 4 ?_;refine dnq ?_;clear hHeld;have BF:=hdq (HL2.o.wK n hnk g3 HG.o 4 (by omega) (.bool ((r.1:Int) != 2)) {x.sys[n]with parked:=((r.1:Int) != 2)} rfl);have HE:Hid (jk x (n:Int) ((r.1:Int) != 2) 0 ((x.ar r.2.2).eP n {x.sys[n]with parked:=((r.1:Int) != 2)})):= .inr ⟨n,hnk,r,rfl,by rw[HFL.o,HR.o],.inr ⟨h0,rfl,rfl,rfl⟩⟩;generalize (x.ar r.2.2).eP n {x.sys[n]with parked:=((r.1:Int) != 2)}=x' at BF HE;generalize x.sys[n].parked=pk at f4;clear h0 HR HFL HL2;go_wp2;go_ret
   exact⟨_,0,x',HE.o,.inl ⟨rfl,rfl⟩,BF.o⟩
  .refine(iN _ _ _ (by omega)).mono ?_
   rintro e w3 ⟨rfl,rfl⟩;dsimp only;exact⟨rfl,false,(r.2.1:Int),_,.inr ⟨n,hnk,r,rfl,by rw[HFL.o,HR.o],.inl ⟨h0,rfl,rfl,rfl⟩⟩,.inr ⟨rfl,rfl⟩,HL2.o⟩
 .have E9:=hdq (BG.o.fE k hk)
  have HE:Hid (jk x k false 4 x):= .inl ⟨hk,rfl,rfl,rfl⟩;clear hk;go_enter func119,ntmps119
  go_wp2_with fail
  refine E9.o.mono ?_;rintro e w1 ⟨rfl,ht⟩;dsimp only;exact⟨rfl,false,4,x,HE.o,.inr ⟨rfl,rfl⟩,BG.o.touch ht⟩
theorem Jz(T:List Nat)(w:World)(x:WS)(k:Int)(h:BD T w w x.ts)(hn:x.s.L.length<1000000):
  Calls prog 40 #[x.wb,k] w fun e w'=>∃(v:Bool) (er:Int) (x':WS),e= .returned (.tuple #[.bool v,.int .i64 er])/\jk x k v er x'/\BD T w w' x'.ts:=by
 have Ep:= @mfq;have BG:=hdq h;clear h;go_enter func40,ntmps40
 go_wp2_with fail
 refine ah ?_;intro w1 hw1;have BB:=hdq (BG.o.DZ hw1);generalize hb3:w.heap.size+1=b3 at BB|-;generalize hb2:w.heap.size=b2 at BB|-;clear hw1 hb3 hb2 BG;refine(iK T w w1 _ _ _ (fun v er l'=>∃x',jk x k v er x'/\l'=x'.ts++[wB x b2,kB b3 k]) BB.o (enters_of func119 (by kernel_rfl) rfl) (fun T' W hW=>?_)).mono ?_
 .refine(NT T' W x b2 b3 k hW hn).mono ?_
  rintro e w' ⟨v,er,x',hx,he,hL⟩;exact⟨v,er,_,he,⟨x',hx,rfl⟩,hL⟩
 rintro e w' ⟨v,er,l',rfl,⟨x',hx,rfl⟩,hL⟩;have HL2:=hdq hL.aF;have HX:=hdq hx;clear hL BB hx;dsimp only;go_wp2;go_ret2
 exact⟨v,er,x',rfl,HX.o,HL2.o⟩
end Go.Proofs.YtegejdlglonflaaGreatDoor
