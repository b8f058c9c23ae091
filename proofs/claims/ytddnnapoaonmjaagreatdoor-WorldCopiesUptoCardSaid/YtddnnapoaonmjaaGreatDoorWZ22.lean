/-
  Texts of WorldCopies, laid together by program.
-/
import Derived.Test.YtddnnapoaonmjaaGreatDoorWZ17
import Derived.Test.YtddnnapoaonmjaaGreatDoorWZ18
namespace Go.Proofs.YtddnnapoaonmjaaGreatDoor
open Go.RowKit Go.Shelf Go.Proofs.Tryz
set_option maxRecDepth 100000
set_option maxHeartbeats 8000000
set_option linter.unusedVariables false
set_option linter.unusedSimpArgs false
theorem zV{α:Type}(f:α->List Value)(m:Nat)(hf:∀a,(f a).length=m)(l:List α)(k:Nat)(hk:k<l.length)(r:Nat)(hr:r<m):(l.flatMap f)[k*m+r]? =(f l[k])[r]? :=by
 induction l generalizing k with
 |nil=>simp at hk
 |cons a l ih=>
  rw[List.flatMap_cons];cases k with
  |zero=>rw[List.getElem?_append_left (by rw[hf];omega)];simp
  |succ k=>
   rw[List.getElem?_append_right (by rw[hf,Nat.succ_mul];omega),hf,show(k+1)*m+r-m=k*m+r from by rw[Nat.succ_mul];omega];exact ih k (by simpa using hk)
theorem A8{α:Type}(f:α->List Value)(m:Nat)(hf:∀a,(f a).length=m)(l:List α):(l.flatMap f).length=l.length*m:=by
 induction l with
 |nil=>simp
 |cons a l ih=>simp[hf,ih,Nat.succ_mul,Nat.add_comm]
section
variable {T:List Nat} {w0 w:World} {x:WS} {r0:List ai}
theorem BD.dU(h:BD T w0 w (x.ts++r0))(k:Nat)(hk:k<x.sys.length):∃g,x.a3=some ⟨g,0,none⟩/\∀r,r<11->w.cell? ⟨g,k*11+r,none⟩=x.sys[k].cells[r]? :=by
 have hr:=h.aZ 5 (e:=61) (size:=11) (v:= .slice x.a3 x.sys.length x.c3) (n:=x.sys.length) (xs:=aU x.sys) rfl;obtain⟨g,cap',cur,hv,hg,_⟩:=gD hr (by omega);injection hv with h1 _ h3
 have hlen:(aU x.sys).length=x.sys.length*11:=A8 _ 11 (fun _=>rfl) _;refine⟨g,h1,fun r hr'=>?_⟩;have hlt:k*11+r<(aU x.sys).length:=by rw[hlen];omega
 have hc:=eT (g:=g) (cap:=x.c3) (by rw[<-h1];exact hr) (k*11+r) hlt;have hf:=zV bL.cells 11 (fun _=>rfl) x.sys k hk r hr';rw[hc,<-hf];exact(List.getElem?_eq_getElem hlt).symm
theorem BD.nC(h:BD T w0 w (x.ts++r0))(k:Nat)(hk:k<x.sys.length)(g:Nat)(hg:x.a3=some ⟨g,0,none⟩):Calls prog 66 #[x.wb,(k:Int)] w fun e w'=>e= .returned (.pointer (some ⟨g,k*11,none⟩))/\Touch [] w w':=by
 have h2:=vV w x.wb x.ga _ _ _ h.Cb g 0 x.sys.length x.c3 (by rw[hg]) k hk;rw[Nat.zero_add]at h2;exact h2
theorem BD.fE(h:BD T w0 w (x.ts++r0))(k:Int)(hk:¬(0<=k/\k<(x.sys.length:Int))):Calls prog 66 #[x.wb,k] w fun e w'=>e= .panicked (aX 4)/\Touch [] w w':=
 tq w x.wb x.ga _ _ _ h.Cb x.a3 x.sys.length x.c3 rfl k hk
end
def rF(s:Ar):Option (Nat×Nat×Ar)->Int×Int×Ar
 |none=>(0,4,s)
 |some r=>if r.2.1=0 then((r.1:Int),0,r.2.2)else(0,(r.2.1:Int),r.2.2)
def eu(s:Ar)(f:Int)(v0:Nat):Nat×Nat×Ar:=((bE (s.swap f 0 v0).2.1.old (s.swap f 0 v0).2.2).1,(bE (s.swap f 0 v0).2.1.old (s.swap f 0 v0).2.2).2,(s.swap f 0 v0).1)
def fT(s:Ar)(f:Int):Nat×Nat×Ar:=((bE (s.load f).2.1.old (s.load f).2.2).1,(bE (s.load f).2.1.old (s.load f).2.2).2,(s.load f).1)
def fM(s:Ar)(f:Int)(v0:Nat):Nat×Ar:=((s.store f v0).2.2,(s.store f v0).1)
theorem aai.know{P:Program}{f:FuncId}{args:Array Value}{X:LG}{R:Ending->LG->Prop}{p:Prop}(hp:∀T w,BD T w w X.flatten->p)(h:p->aai P f args X R):aai P f args X R:=fun T w hl=>h (hp T w hl) T w hl
theorem acy(x:WS)(n:Nat)(hn:n<x.sys.length)(g:Nat)(hg:x.a3=some ⟨g,0,none⟩):RdG prog 66 #[x.wb,(n:Int)] [x.ts] fun e=>∃y:Unit,True/\e= .returned ((fun _=> .pointer (some ⟨g,n*11,none⟩)) y):=ado fun T w0 w hl=>BD.nC (r0:=[]) (by simpa using hl) n hn g hg
theorem abl(x:WS)(k:Int)(hk:¬(0<=k/\k<(x.sys.length:Int))):RdG prog 66 #[x.wb,k] [x.ts] fun e=>e= .panicked (aX 4):=adh fun T w0 w hl=>BD.fE (r0:=[]) (by simpa using hl) k hk
theorem ac5{x:WS}{r0:List ai}{T:List Nat}{w0 w:World}(hl:BD T w0 w (x.ts++r0)){n:Nat}(hn:n<x.sys.length):∃g,x.a3=some ⟨g,0,none⟩:=by
 obtain⟨g,hg,_⟩:=hl.dU n hn;exact⟨g,hg⟩
theorem acG{x:WS}{n:Nat}(hn:n<x.sys.length){g:Nat}(hg:x.a3=some ⟨g,0,none⟩)(r:Nat)(hr:r<11){v:Value}(hv:x.sys[n].cells[r]? =some v):abv x.ts g (n*11+r) v:=fun T w0 w R hl=>by
 obtain⟨g4,hg4,hc⟩:=BD.dU (r0:=R) hl n hn;rw[hg]at hg4;injection hg4 with hg4
 injection hg4 with hg4
 subst hg4;exact(hc r hr).trans hv
theorem acn{D:FuncId}{caps:Array Value}{X:LG}{R:Int->Int->LG->Prop}(hen:∀args w,(callFunc D args).run prog w= .ok (.enter D args) w)(hd:aai prog D caps X fun e Y=>∃v er,Ends e (.int .i64 v) er (.int .i64 0)/\R v er Y):aai prog 119 #[.func (.func D) #[] caps] X fun e Y=>∃v er,e= .returned (.tuple #[.int .i64 v,.int .i64 er])/\R v er Y:=fun T w hl=>
 (j3 T w w X.flatten D caps (fun v er l'=>∃Y,l'=Y.flatten/\Y.length=X.length/\R v er Y) hl hen (fun T' W hW=>(hd T' W hW).mono fun e w' ⟨Y,hY,⟨v,er,he,hR⟩,hl'⟩=>⟨v,er,Y.flatten,he,⟨Y,rfl,hY,hR⟩,hl'⟩)).mono fun e w' ⟨v,er,l',he,⟨Y,hl1,hY,hR⟩,hl'⟩=>⟨Y,hY,⟨v,er,he,hR⟩,hl1▸hl'⟩
theorem okFq{G:Prop}(h:G:=by
  refine go ?_;refine crr hC fun _ _=>?_;refine go ?_;refine cr hL fun _ _=>?_;refine go ?_;by_cases h0:r.2.1=0
  .simp only[rF,if_pos h0]
   rw[h0];refine cr (abF fun w=>jf w r.1) fun _ _=>?_;refine go ?_;refine W.abg ?_;exact⟨r.1,0,.inl ⟨rfl,rfl⟩,rfl,rfl,rfl⟩
  .simp only[rF,if_neg h0]
   refine pfq (ade fun w=>iN w r.1 r.2.1 (by omega)) ?_;exact⟨0,_,.inr ⟨rfl,rfl⟩,rfl,rfl,rfl⟩):G:=h
theorem okSq{G:Prop}(h:G:=by
  refine go ?_;refine crr hC fun _ _=>?_;refine go ?_;refine cr hL fun _ _=>?_;refine go ?_;refine W.abg ?_;exact⟨⟨_,0,.inl ⟨rfl,rfl⟩,by simp[rE]⟩,rfl⟩):G:=h
theorem adB{G:Prop}(h:G:=by
  refine go ?_;refine prr hC ?_;exact⟨0,4,.inr ⟨rfl,rfl⟩,rfl,rfl,rfl⟩):G:=h
theorem ad1{G:Prop}(h:G:=by
  refine go ?_;refine prr hC ?_;exact⟨⟨0,4,.inr ⟨rfl,rfl⟩,by simp[rE]⟩,rfl⟩):G:=h
def WS.fK(x:WS)(k:Int):Int×Int×Ar:=rF x.s ((at_ x.sys k).map fun y=>eu x.s y.flag 1)
theorem adF(x:WS)(b2 b3:Nat)(k:Int)(hn:x.s.L.length<1000000):aai prog 120 #[b2,b3] [x.ts,[box b2 25 #[x.wb]],[box b3 3 #[k]]] fun e Y=>∃v er,Ends e (.int .i64 v) er (.int .i64 0)/\v=(x.fK k).1/\er=(x.fK k).2.1/\Y=[(x.ar (x.fK k).2.2).ts,[box b2 25 #[x.wb]],[box b3 3 #[k]]]:=by
 have hx:=abx (x:=x);by_cases hk:0<=k/\k<(x.sys.length:Int)
 .obtain⟨n,rfl⟩:=Int.eq_ofNat_of_zero_le hk.1
  have hnk:n<x.sys.length:=by omega
  refine aai.know (p:=∃g,x.a3=some ⟨g,0,none⟩) (fun T w hl=>ac5 (r0:=[_,_]) (by simpa using hl) hnk) ?_;rintro⟨g3,hg3⟩;have hC:=acy x n hnk g3 hg3;have hf:=acG hnk hg3 3 (by omega) (v:= .int .i64 x.sys[n].flag) rfl;have hR:x.fK (n:Int)=rF x.s (some (eu x.s x.sys[n].flag 1)):=by unfold WS.fK;rw[gI hnk];rfl
  obtain⟨r,hr⟩:∃r,eu x.s x.sys[n].flag 1=r:=⟨_,rfl⟩;have hL:aai prog 122 #[x.ga,.int .i64 x.sys[n].flag] [x.ts] (xq (fun _:Unit=>True) (fun _=> .tuple #[(r.1:Int),(r.2.1:Int)]) fun _=>[(x.ar r.2.2).ts]):=by
   subst hr;exact wm fun T w h=>h.Mj 1 (g:=x.ga) (s:=x.s) rfl x.sys[n].flag (eu x.s x.sys[n].flag 1).2.2 (eu x.s x.sys[n].flag 1).1 (eu x.s x.sys[n].flag 1).2.1 (by omega) rfl rfl
  rw[hR,hr];generalize x.sys[n].flag=fl at hL hf;refine aai.go func120 ntmps120 ?_;exact okFq
 .have hC:=abl x k hk
  have hR:x.fK k=rF x.s none:=by unfold WS.fK;rw[gM hk];rfl
  rw[hR];refine aai.go func120 ntmps120 ?_;exact adB
theorem Oq(T:List Nat)(w:World)(x:WS)(k:Int)(h:BD T w w x.ts)(hn:x.s.L.length<1000000):
  Calls prog 35 #[x.wb,k] w fun e w'=>e= .returned (.tuple #[.int .i64 (x.fK k).1,.int .i64 (x.fK k).2.1])/\BD T w w' (x.ar (x.fK k).2.2).ts:=by
 have hg:aai prog 35 #[x.wb,k] [x.ts] (xq (fun _:Unit=>True) (fun _=> .tuple #[.int .i64 (x.fK k).1,.int .i64 (x.fK k).2.1]) fun _=>[(x.ar (x.fK k).2.2).ts]):=by
  have Ep:=mkf;refine aai.go func35 ntmps35 ?_;refine go2 fun b2 b3=>?_;refine cq (acn (enters_of func120 (by kernel_rfl) rfl) (adF x b2 b3 k hn)) ?_;rintro _ _ ⟨_,_,rfl,rfl,rfl,rfl⟩;refine⟨_,rfl,nq ?_⟩;refine go ?_;refine W.abg ?_;exact⟨(),trivial,rfl,rfl⟩
 exact(hg T w (by simpa using h)).mono fun e w' ⟨Y,_,⟨_,_,he,hY⟩,hl⟩=>⟨he,by rw[hY]at hl;simpa using hl⟩
def WS.gL(x:WS)(k:Int):Int×Int×Ar:=rF x.s ((at_ x.sys k).map fun y=>eu x.s y.flag 2)
theorem adW(x:WS)(b2 b3:Nat)(k:Int)(hn:x.s.L.length<1000000):aai prog 125 #[b2,b3] [x.ts,[box b2 25 #[x.wb]],[box b3 3 #[k]]] fun e Y=>∃v er,Ends e (.int .i64 v) er (.int .i64 0)/\v=(x.gL k).1/\er=(x.gL k).2.1/\Y=[(x.ar (x.gL k).2.2).ts,[box b2 25 #[x.wb]],[box b3 3 #[k]]]:=by
 have hx:=abx (x:=x);by_cases hk:0<=k/\k<(x.sys.length:Int)
 .obtain⟨n,rfl⟩:=Int.eq_ofNat_of_zero_le hk.1
  have hnk:n<x.sys.length:=by omega
  refine aai.know (p:=∃g,x.a3=some ⟨g,0,none⟩) (fun T w hl=>ac5 (r0:=[_,_]) (by simpa using hl) hnk) ?_;rintro⟨g3,hg3⟩;have hC:=acy x n hnk g3 hg3;have hf:=acG hnk hg3 3 (by omega) (v:= .int .i64 x.sys[n].flag) rfl;have hR:x.gL (n:Int)=rF x.s (some (eu x.s x.sys[n].flag 2)):=by unfold WS.gL;rw[gI hnk];rfl
  obtain⟨r,hr⟩:∃r,eu x.s x.sys[n].flag 2=r:=⟨_,rfl⟩;have hL:aai prog 126 #[x.ga,.int .i64 x.sys[n].flag] [x.ts] (xq (fun _:Unit=>True) (fun _=> .tuple #[(r.1:Int),(r.2.1:Int)]) fun _=>[(x.ar r.2.2).ts]):=by
   subst hr;exact wm fun T w h=>h.flTake 1 (g:=x.ga) (s:=x.s) rfl x.sys[n].flag (eu x.s x.sys[n].flag 2).2.2 (eu x.s x.sys[n].flag 2).1 (eu x.s x.sys[n].flag 2).2.1 (by omega) rfl rfl
  rw[hR,hr];generalize x.sys[n].flag=fl at hL hf;refine aai.go func125 ntmps125 ?_;exact okFq
 .have hC:=abl x k hk
  have hR:x.gL k=rF x.s none:=by unfold WS.gL;rw[gM hk];rfl
  rw[hR];refine aai.go func125 ntmps125 ?_;exact adB
theorem J3(T:List Nat)(w:World)(x:WS)(k:Int)(h:BD T w w x.ts)(hn:x.s.L.length<1000000):
  Calls prog 37 #[x.wb,k] w fun e w'=>e= .returned (.tuple #[.int .i64 (x.gL k).1,.int .i64 (x.gL k).2.1])/\BD T w w' (x.ar (x.gL k).2.2).ts:=by
 have hg:aai prog 37 #[x.wb,k] [x.ts] (xq (fun _:Unit=>True) (fun _=> .tuple #[.int .i64 (x.gL k).1,.int .i64 (x.gL k).2.1]) fun _=>[(x.ar (x.gL k).2.2).ts]):=by
  have Ep:=mkf;refine aai.go func37 ntmps37 ?_;refine go2 fun b2 b3=>?_;refine cq (acn (enters_of func125 (by kernel_rfl) rfl) (adW x b2 b3 k hn)) ?_;rintro _ _ ⟨_,_,rfl,rfl,rfl,rfl⟩;refine⟨_,rfl,nq ?_⟩;refine go ?_;refine W.abg ?_;exact⟨(),trivial,rfl,rfl⟩
 exact(hg T w (by simpa using h)).mono fun e w' ⟨Y,_,⟨_,_,he,hY⟩,hl⟩=>⟨he,by rw[hY]at hl;simpa using hl⟩
def WS.iH(x:WS)(k:Int):Int×Int×Ar:=rF x.s ((at_ x.sys k).map fun y=>fT x.s y.flag)
theorem adP(x:WS)(b2 b3:Nat)(k:Int)(hn:x.s.L.length<1000000):aai prog 129 #[b2,b3] [x.ts,[box b2 25 #[x.wb]],[box b3 3 #[k]]] fun e Y=>∃v er,Ends e (.int .i64 v) er (.int .i64 0)/\v=(x.iH k).1/\er=(x.iH k).2.1/\Y=[(x.ar (x.iH k).2.2).ts,[box b2 25 #[x.wb]],[box b3 3 #[k]]]:=by
 have hx:=abx (x:=x);by_cases hk:0<=k/\k<(x.sys.length:Int)
 .obtain⟨n,rfl⟩:=Int.eq_ofNat_of_zero_le hk.1
  have hnk:n<x.sys.length:=by omega
  refine aai.know (p:=∃g,x.a3=some ⟨g,0,none⟩) (fun T w hl=>ac5 (r0:=[_,_]) (by simpa using hl) hnk) ?_;rintro⟨g3,hg3⟩;have hC:=acy x n hnk g3 hg3;have hf:=acG hnk hg3 3 (by omega) (v:= .int .i64 x.sys[n].flag) rfl;have hR:x.iH (n:Int)=rF x.s (some (fT x.s x.sys[n].flag)):=by unfold WS.iH;rw[gI hnk];rfl
  obtain⟨r,hr⟩:∃r,fT x.s x.sys[n].flag=r:=⟨_,rfl⟩;have hL:aai prog 130 #[x.ga,.int .i64 x.sys[n].flag] [x.ts] (xq (fun _:Unit=>True) (fun _=> .tuple #[(r.1:Int),(r.2.1:Int)]) fun _=>[(x.ar r.2.2).ts]):=by
   subst hr;exact wm fun T w h=>h.Ih 1 (g:=x.ga) (s:=x.s) rfl x.sys[n].flag (fT x.s x.sys[n].flag).2.2 (fT x.s x.sys[n].flag).1 (fT x.s x.sys[n].flag).2.1 (by omega) rfl rfl
  rw[hR,hr];generalize x.sys[n].flag=fl at hL hf;refine aai.go func129 ntmps129 ?_;exact okFq
 .have hC:=abl x k hk
  have hR:x.iH k=rF x.s none:=by unfold WS.iH;rw[gM hk];rfl
  rw[hR];refine aai.go func129 ntmps129 ?_;exact adB
theorem Look_w(T:List Nat)(w:World)(x:WS)(k:Int)(h:BD T w w x.ts)(hn:x.s.L.length<1000000):
  Calls prog 39 #[x.wb,k] w fun e w'=>e= .returned (.tuple #[.int .i64 (x.iH k).1,.int .i64 (x.iH k).2.1])/\BD T w w' (x.ar (x.iH k).2.2).ts:=by
 have hg:aai prog 39 #[x.wb,k] [x.ts] (xq (fun _:Unit=>True) (fun _=> .tuple #[.int .i64 (x.iH k).1,.int .i64 (x.iH k).2.1]) fun _=>[(x.ar (x.iH k).2.2).ts]):=by
  have Ep:=mkf;refine aai.go func39 ntmps39 ?_;refine go2 fun b2 b3=>?_;refine cq (acn (enters_of func129 (by kernel_rfl) rfl) (adP x b2 b3 k hn)) ?_;rintro _ _ ⟨_,_,rfl,rfl,rfl,rfl⟩;refine⟨_,rfl,nq ?_⟩;refine go ?_;refine W.abg ?_;exact⟨(),trivial,rfl,rfl⟩
 exact(hg T w (by simpa using h)).mono fun e w' ⟨Y,_,⟨_,_,he,hY⟩,hl⟩=>⟨he,by rw[hY]at hl;simpa using hl⟩
def WS.dX(x:WS)(k:Int):Int×Ar:=rE x.s ((at_ x.sys k).map fun y=>fM x.s y.flag 0)
theorem adn(x:WS)(b2 b3:Nat)(k:Int)(hn:x.s.L.length<1000000):aai prog 123 #[b2,b3] [x.ts,[box b2 25 #[x.wb]],[box b3 3 #[k]]] fun e Y=>(∃v Fq,Ends e (.int .i64 v) Fq (.int .i64 0)/\(x.dX k).1=if Fq=0 then v else Fq)/\Y=[(x.ar (x.dX k).2).ts,[box b2 25 #[x.wb]],[box b3 3 #[k]]]:=by
 have hx:=abx (x:=x);by_cases hk:0<=k/\k<(x.sys.length:Int)
 .obtain⟨n,rfl⟩:=Int.eq_ofNat_of_zero_le hk.1
  have hnk:n<x.sys.length:=by omega
  refine aai.know (p:=∃g,x.a3=some ⟨g,0,none⟩) (fun T w hl=>ac5 (r0:=[_,_]) (by simpa using hl) hnk) ?_;rintro⟨g3,hg3⟩;have hC:=acy x n hnk g3 hg3;have hf:=acG hnk hg3 3 (by omega) (v:= .int .i64 x.sys[n].flag) rfl;have hR:x.dX (n:Int)=rE x.s (some (fM x.s x.sys[n].flag 0)):=by unfold WS.dX;rw[gI hnk];rfl
  obtain⟨r,hr⟩:∃r,fM x.s x.sys[n].flag 0=r:=⟨_,rfl⟩;have hL:aai prog 124 #[x.ga,.int .i64 x.sys[n].flag] [x.ts] (xq (fun _:Unit=>True) (fun _=> .int .i64 (r.1:Int)) fun _=>[(x.ar r.2).ts]):=by
   subst hr;exact wm fun T w h=>h.zP 1 (g:=x.ga) (s:=x.s) rfl x.sys[n].flag (fM x.s x.sys[n].flag 0).2 (fM x.s x.sys[n].flag 0).1 (by omega) rfl rfl
  rw[hR,hr];generalize x.sys[n].flag=fl at hL hf;refine aai.go func123 ntmps123 ?_;exact okSq
 .have hC:=abl x k hk
  have hR:x.dX k=rE x.s none:=by unfold WS.dX;rw[gM hk];rfl
  rw[hR];refine aai.go func123 ntmps123 ?_;exact ad1
theorem Ah(T:List Nat)(w:World)(x:WS)(k:Int)(h:BD T w w x.ts)(hn:x.s.L.length<1000000):
  Calls prog 36 #[x.wb,k] w fun e w'=>e= .returned (.int .i64 (x.dX k).1)/\BD T w w' (x.ar (x.dX k).2).ts:=by
 have hg:aai prog 36 #[x.wb,k] [x.ts] (xq (fun _:Unit=>True) (fun _=> .int .i64 (x.dX k).1) fun _=>[(x.ar (x.dX k).2).ts]):=by
  have Ep:=mkf;refine aai.go func36 ntmps36 ?_;refine go2 fun b2 b3=>?_;refine cr (abU (by rfl) (enters_of func123 (by kernel_rfl) rfl) (adn x b2 b3 k hn)) fun _ _=>?_;refine go ?_;refine W.abg ?_;exact⟨(),trivial,rfl,rfl⟩
 exact(hg T w (by simpa using h)).mono fun e w' ⟨Y,_,⟨_,_,he,hY⟩,hl⟩=>⟨he,by rw[hY]at hl;simpa using hl⟩
def WS.fG(x:WS)(k:Int):Int×Ar:=rE x.s ((at_ x.sys k).map fun y=>fM x.s y.flag 2)
theorem ads(x:WS)(b2 b3:Nat)(k:Int)(hn:x.s.L.length<1000000):aai prog 127 #[b2,b3] [x.ts,[box b2 25 #[x.wb]],[box b3 3 #[k]]] fun e Y=>(∃v Fq,Ends e (.int .i64 v) Fq (.int .i64 0)/\(x.fG k).1=if Fq=0 then v else Fq)/\Y=[(x.ar (x.fG k).2).ts,[box b2 25 #[x.wb]],[box b3 3 #[k]]]:=by
 have hx:=abx (x:=x);by_cases hk:0<=k/\k<(x.sys.length:Int)
 .obtain⟨n,rfl⟩:=Int.eq_ofNat_of_zero_le hk.1
  have hnk:n<x.sys.length:=by omega
  refine aai.know (p:=∃g,x.a3=some ⟨g,0,none⟩) (fun T w hl=>ac5 (r0:=[_,_]) (by simpa using hl) hnk) ?_;rintro⟨g3,hg3⟩;have hC:=acy x n hnk g3 hg3;have hf:=acG hnk hg3 3 (by omega) (v:= .int .i64 x.sys[n].flag) rfl;have hR:x.fG (n:Int)=rE x.s (some (fM x.s x.sys[n].flag 2)):=by unfold WS.fG;rw[gI hnk];rfl
  obtain⟨r,hr⟩:∃r,fM x.s x.sys[n].flag 2=r:=⟨_,rfl⟩;have hL:aai prog 128 #[x.ga,.int .i64 x.sys[n].flag] [x.ts] (xq (fun _:Unit=>True) (fun _=> .int .i64 (r.1:Int)) fun _=>[(x.ar r.2).ts]):=by
   subst hr;exact wm fun T w h=>h.H9 1 (g:=x.ga) (s:=x.s) rfl x.sys[n].flag (fM x.s x.sys[n].flag 2).2 (fM x.s x.sys[n].flag 2).1 (by omega) rfl rfl
  rw[hR,hr];generalize x.sys[n].flag=fl at hL hf;refine aai.go func127 ntmps127 ?_;exact okSq
 .have hC:=abl x k hk
  have hR:x.fG k=rE x.s none:=by unfold WS.fG;rw[gM hk];rfl
  rw[hR];refine aai.go func127 ntmps127 ?_;exact ad1
theorem KI(T:List Nat)(w:World)(x:WS)(k:Int)(h:BD T w w x.ts)(hn:x.s.L.length<1000000):
  Calls prog 38 #[x.wb,k] w fun e w'=>e= .returned (.int .i64 (x.fG k).1)/\BD T w w' (x.ar (x.fG k).2).ts:=by
 have hg:aai prog 38 #[x.wb,k] [x.ts] (xq (fun _:Unit=>True) (fun _=> .int .i64 (x.fG k).1) fun _=>[(x.ar (x.fG k).2).ts]):=by
  have Ep:=mkf;refine aai.go func38 ntmps38 ?_;refine go2 fun b2 b3=>?_;refine cr (abU (by rfl) (enters_of func127 (by kernel_rfl) rfl) (ads x b2 b3 k hn)) fun _ _=>?_;refine go ?_;refine W.abg ?_;exact⟨(),trivial,rfl,rfl⟩
 exact(hg T w (by simpa using h)).mono fun e w' ⟨Y,_,⟨_,_,he,hY⟩,hl⟩=>⟨he,by rw[hY]at hl;simpa using hl⟩
theorem zu(w:World)(b g:Nat)(v1 v2 v3:Value)(h:Fe w b g v1 v2 v3)(hS:bJ w)(k s:Int)(hs:s=1\/s=2)(R:Ending->World->Prop)(hc:Calls prog 72 #[b,k] w R)(hR:∀e w',R e w'->(∃p,e= .returned (.pointer p))\/∃ch,e= .panicked ch):
  Calls prog 100 #[b,k,s] w R:=by
 have HN:=hdq (dG w b g v1 v2 v3 h);have HO:=hdq (zB w s hS);have HC:=hdq hc;have HR:=hdq hR;have hne:(bM s != 0)=true:=by rcases hs with rfl|rfl<;>rfl
 generalize bM s=os at HO hne;go_enter func100,ntmps100
 go_wp2_with fail
 refine HN.o.mono ?_;rintro e w' ⟨rfl,rfl⟩;go_wp2_with fail
 refine(require_ok _ _).mono ?_;rintro e w' ⟨rfl,rfl⟩;dsimp only;go_wp2_with fail
 refine HO.o.mono ?_;rintro e w' ⟨rfl,rfl⟩;go_wp2_with fail
 refine(require_ok _ _).mono ?_;rintro e w' ⟨rfl,rfl⟩;dsimp only;go_wp2_with fail
 refine HC.o.mono ?_;intro e w' hr;rcases HR.o e w' hr with ⟨p,rfl⟩|⟨ch,rfl⟩
 .have HRR:=hdq hr
  dsimp only;go_wp2;exact HRR.o
 .exact⟨rfl,hr⟩
theorem Jw(w:World)(b g:Nat)(v1 v2 v3:Value)(h:Fe w b g v1 v2 v3)(hS:bJ w)(k s:Int)(hs:¬(s=1\/s=2)):
  Calls prog 100 #[b,k,s] w fun e w'=>e= .panicked (aX 2)/\w=w':=by
 have HN:=hdq (dG w b g v1 v2 v3 h);have HO:=hdq (zB w s hS);have h0:bM s=0:=by unfold bM;rw[if_neg (fun h=>hs (.inl h)),if_neg (fun h=>hs (.inr h))]
 rw[h0]at HO;go_enter func100,ntmps100
 go_wp2_with fail
 refine HN.o.mono ?_;rintro e w' ⟨rfl,rfl⟩;go_wp2_with fail
 refine(require_ok _ _).mono ?_;rintro e w' ⟨rfl,rfl⟩;dsimp only;go_wp2_with fail
 refine HO.o.mono ?_;rintro e w' ⟨rfl,rfl⟩;go_wp2_with fail
 refine(aY _ _).mono ?_;rintro e w' ⟨rfl,rfl⟩;dsimp only;exact⟨rfl,rfl,rfl⟩
section
variable {T:List Nat} {w0 w:World} {x:WS} {r0:List ai}
theorem BD.sj(h:BD T w0 w (x.ts++r0))(hS:bJ w)(s:Int)(hs:s=1\/s=2)(k:Nat)(hk:k<x.BI.length):Calls prog 100 #[x.wb,(k:Int),s] w fun e w'=>e= .returned (.pointer (some ⟨x.BI[k].c,0,none⟩))/\Touch [] w w':=
 zu w x.wb x.ga _ _ _ h.Cb hS k s hs _ (h.Lp k hk) (fun e w' h=> .inl ⟨_,h.1⟩)
theorem BD.nL(h:BD T w0 w (x.ts++r0))(hS:bJ w)(s:Int)(hs:s=1\/s=2)(k:Int)(hk:¬(0<=k/\k<(x.BI.length:Int))):Calls prog 100 #[x.wb,k,s] w fun e w'=>e= .panicked (aX 4)/\Touch [] w w':=
 zu w x.wb x.ga _ _ _ h.Cb hS k s hs _ (h.nK k hk) (fun e w' h=> .inr ⟨_,h.1⟩)
theorem BD.nR(h:BD T w0 w (x.ts++r0))(hS:bJ w)(s:Int)(hs:¬(s=1\/s=2))(k:Int):Calls prog 100 #[x.wb,k,s] w fun e w'=>e= .panicked (aX 2)/\Touch [] w w':=
 (Jw w x.wb x.ga _ _ _ h.Cb hS k s hs).mono fun e w' h=>⟨h.1,h.2▸Touch.refl _ _⟩
end
def WS.oQ(x:WS)(n:Nat)(y:Ce)(P:World->Prop):WS:={x with BI:=x.BI.set n y,P:=P}
theorem yC(l:List Ce)(n:Nat)(hn:n<l.length)(y:Ce)(hy:y.c=l[n].c):bP (l.set n y)=bP l:=by
 unfold bP;rw[List.map_set,hy];apply List.ext_getElem
 .simp
 .intro i h1 h2
  rw[List.getElem_set];split
  .rename_i h;subst h;simp
  .rfl
theorem WS.tV(x:WS)(n:Nat)(hn:n<x.BI.length)(y:Ce)(P:World->Prop)(r:Nat)(hr:r<4)(t:ai)(hy:y.c=x.BI[n].c)(ht:x.BI[n].ts.set r t=y.ts)(r0:List ai):(((x.ts++r0).set (6+(4*n+r)) t).set 2 (aA P))=(x.oQ n y P).ts++r0:=by
 have hl:=nA Ce.ts 4 (fun _=>rfl) x.BI;have hs:=Je Ce.ts 4 (fun _=>rfl) x.BI n hn r hr t y ht;have e1:(x.ts++r0).set (6+(4*n+r)) t=x.head++((x.BI.set n y).flatMap Ce.ts++(x.cos.flatMap Ch.ts++r0)):=by
  unfold WS.ts;rw[List.append_assoc,List.append_assoc,List.set_append_right _ _ (by simp[WS.head]),show 6+(4*n+r)-x.head.length=4*n+r from by simp[WS.head],List.set_append_left _ _ (by rw[hl];omega),hs]
 rw[e1,List.set_append_left _ _ (by simp[WS.head])];unfold WS.ts;rw[List.append_assoc,List.append_assoc];congr 1
 simp only[WS.oQ,WS.head,yC _ _ hn _ hy,List.length_set];rfl
theorem yJ(T:List Nat)(w0 w:World)(l:List ai)(D:FuncId)(caps:Array Value)(R:Int->List ai->Prop)(h:BD T w0 w l)(hen:∀args w,(callFunc D args).run prog w= .ok (.enter D args) w)(hd:∀T' W,BD T' W W l->Calls prog D caps W fun e w'=>∃er l',R er l'/\l5 T' W er l' e w'):
  Calls prog 95 #[.func (.func D) #[] caps] w fun e w'=>∃er l',e= .returned (.int .i64 er)/\R er l'/\BD T w0 w' l':=by
 have HP:=hdq (l7 T w0 w l D caps (fun v Fq l''=>R (if Fq=0 then v else Fq) l'') h hen (fun T' W hW=>(hd T' W hW).mono fun e w' ⟨er,l',hr,⟨v,Fq,he,hv⟩,hL⟩=>⟨v,Fq,l',he,hv▸hr,hL⟩));go_enter func95,ntmps95
 go_wp2_with fail
 refine HP.o.mono ?_;rintro e w' ⟨v,Fq,l'',rfl,hr,hL⟩;have HL:=hdq hL;have HR:=hdq hr;by_cases h0:Fq=0
 .have hb:(Fq != 0)=false:=by simp[h0]
  rw[if_pos h0]at HR;go_wp2;go_ret
  exact⟨v,l'',rfl,HR.o,HL.o⟩
 .have hb:(Fq != 0)=true:=by simp[h0]
  rw[if_neg h0]at HR;go_wp2;go_ret
  exact⟨Fq,l'',rfl,HR.o,HL.o⟩
def lX(x:WS)(k s:Int)(e:ME)(er:Int)(x':WS):Prop:=
 (¬(s=1\/s=2)/\er=2/\x'=x)\/((s=1\/s=2)/\¬(0<=k/\k<(x.BI.length:Int))/\er=4/\x'=x)\/
 ∃(n:Nat) (hn:n<x.BI.length) (kk:Nat) (ys:List ME),k=(n:Int)/\ys.map ME.plain=[e.plain].take kk/\
  ((s=1/\kK x.BI[n].es1.length [e.plain] kk er/\x'=x.oQ n {x.BI[n]with es1:=x.BI[n].es1++ys} (fun W=>x.P W/\∀y∈ys,y.v.In W))\/
  (s=2/\kK x.BI[n].es2.length [e.plain] kk er/\x'=x.oQ n {x.BI[n]with es2:=x.BI[n].es2++ys} (fun W=>x.P W/\∀y∈ys,y.v.In W)))
def pushB(x:WS)(k s:Int)(e:ME)(b4 b5 b6 b7:Nat):List ai:=[box b4 25 #[x.wb],box b5 3 #[k],box b6 41 #[s],box b7 47 #[e.sync,e.thread,e.branch,e.flag,e.v.kind,e.v.num,.slice e.v.addr e.v.parts.length e.v.cap]]
theorem BD.pushB{T:List Nat}{w0 w:World}{x y:WS}{k s:Int}{e:ME}{b4 b5 b6 b7:Nat}(h:BD T w0 w (y.ts++pushB x k s e b4 b5 b6 b7)):(w.cell? ⟨b4,0,none⟩=some (.pointer (some ⟨x.wb,0,none⟩))/\w.cell? ⟨b5,0,none⟩=some (.int .i64 k)/\w.cell? ⟨b6,0,none⟩=some (.int .i64 s))/\(w.cell? ⟨b7,0,none⟩=some (.int .i64 e.sync)/\w.cell? ⟨b7,1,none⟩=some (.int .i64 e.thread)/\w.cell? ⟨b7,2,none⟩=some (.int .i64 e.branch)/\w.cell? ⟨b7,3,none⟩=some (.int .i64 e.flag)/\w.cell? ⟨b7,4,none⟩=some (.int .i64 e.v.kind)/\w.cell? ⟨b7,5,none⟩=some (.int .i64 e.v.num)/\w.cell? ⟨b7,6,none⟩=some (.slice e.v.addr e.v.parts.length e.v.cap))/\b4<w.heap.size/\b5<w.heap.size/\b6<w.heap.size/\b7<w.heap.size:=by
 have h4:=h.box y.ts.length (b:=b4) (t:=25) (cs:=#[.pointer (some ⟨x.wb,0,none⟩)]) (by simp[Proofs.YtddnnapoaonmjaaGreatDoor.pushB]);have h5:=h.box (y.ts.length+1) (b:=b5) (t:=3) (cs:=#[.int .i64 k]) (by simp[Proofs.YtddnnapoaonmjaaGreatDoor.pushB]);have h6:=h.box (y.ts.length+2) (b:=b6) (t:=41) (cs:=#[.int .i64 s]) (by simp[Proofs.YtddnnapoaonmjaaGreatDoor.pushB]);have h7:=h.box (y.ts.length+3) (b:=b7) (t:=47) (cs:=#[.int .i64 e.sync,.int .i64 e.thread,.int .i64 e.branch,.int .i64 e.flag,.int .i64 e.v.kind,.int .i64 e.v.num,.slice e.v.addr e.v.parts.length e.v.cap]) (by simp[Proofs.YtddnnapoaonmjaaGreatDoor.pushB]);exact⟨⟨h4.cell 0,h5.cell 0,h6.cell 0⟩,⟨h7.cell 0,h7.cell 1,h7.cell 2,h7.cell 3,h7.cell 4,h7.cell 5,h7.cell 6⟩,h4.lt,h5.lt,h6.lt,h7.lt⟩
def LH(T:List Nat)(w:World)(x:WS)(k s:Int)(e:ME)(b4 b5 b6 b7:Nat)(en:Ending)(w':World):Prop:=∃er l' x',lX x k s e er x'/\l'=x'.ts++pushB x k s e b4 b5 b6 b7/\l5 T w er l' en w'
theorem NJ(T:List Nat)(w:World)(x:WS)(b4 b5 b6 b7:Nat)(k s:Int)(e:ME)(h:BD T w w (x.ts++pushB x k s e b4 b5 b6 b7))(hS:∀W,x.P W->bJ W)(hP:∀W,x.P W->e.v.In W)(hq:∀n (hn:n<x.BI.length),x.BI[n].es1.length<=4096/\x.BI[n].es2.length<=4096):
  Calls prog 104 #[b4,b5,b6,b7] w (LH T w x k s e b4 b5 b6 b7):=by
 have BG:=hdq h;have HS:=hdq hS;have HP:=hdq hP;have HQ:=hdq hq;obtain⟨⟨p0,q0,s0⟩,⟨e0,e1,e2,e3,e4,e5,e6⟩,z4,z5,z6,z7⟩:=BG.o.pushB;by_cases hs:s=1\/s=2
 .by_cases hk:0<=k/\k<(x.BI.length:Int)
  .obtain⟨n,rfl⟩:=Int.eq_ofNat_of_zero_le hk.1
   have hnk:n<x.BI.length:=by omega
   rcases hs with rfl|rfl
   .skip
    have HC:=hdq (fun W (hW:Touch [] w W)=>(BG.o.touch hW).sj (HS.o _ ((BG.o.touch hW).still 2 rfl)) 1 (by decide) n hnk);have CV:=hdq (fun W (hW:Touch [] w W)=>(BG.o.touch hW).Hu (s:=1) (6+(4*n+2)) 2 (x.kW _ n hnk 2 (by omega)) rfl (by omega) ((BG.o.touch hW).oM n hnk) rfl e (fun W h=>HP.o W h) (HQ.o n hnk).1);simp only[bB]at CV;generalize hcn:x.BI[n].c=cn at HC CV;have FV:=hdq hcn;have BZ:=hdq (Touch.refl [] w).drew;go_enter func104,ntmps104
    go_wp2_with fail
    refine hrq (S:=fun w'=>(w'.cell? ⟨b4,0,none⟩=some (.pointer (some ⟨x.wb,0,none⟩))/\w'.cell? ⟨b5,0,none⟩=some (.int .i64 (n:Int))/\w'.cell? ⟨b6,0,none⟩=some (.int .i64 1))/\(w'.cell? ⟨b7,0,none⟩=some (.int .i64 e.sync)/\w'.cell? ⟨b7,1,none⟩=some (.int .i64 e.thread)/\w'.cell? ⟨b7,2,none⟩=some (.int .i64 e.branch)/\w'.cell? ⟨b7,3,none⟩=some (.int .i64 e.flag)/\w'.cell? ⟨b7,4,none⟩=some (.int .i64 e.v.kind)/\w'.cell? ⟨b7,5,none⟩=some (.int .i64 e.v.num)/\w'.cell? ⟨b7,6,none⟩=some (.slice e.v.addr e.v.parts.length e.v.cap))) fun hHeld=>?_;refine tkq 0 5 ?_;refine tkq 1 6 ?_;refine tkq 2 7 ?_;refine tkq 4 9 ?_;refine tkq 5 10 ?_;refine rdq 3 rfl fun K hK=>?_;go_simp;refine(HC.o _ BZ.o).mono ?_;rintro en w1 ⟨rfl,ht⟩;have HT1:=hdq (BZ.o.trans' ht);have BB:=hdq (BG.o.touch HT1.o);obtain⟨⟨p0,q0,s0⟩,⟨e0,e1,e2,e3,e4,e5,e6⟩,z4,z5,z6,z7⟩:=BB.o.pushB;go_simp;refine kpq hK.o fun hHeld=>?_;refine rdq 6 rfl fun K hK=>?_;go_simp;refine(CV.o _ HT1.o).mono ?_;rintro en w2 ⟨kk,er,ys,rfl,hR,hp,hL⟩;rw[x.tV n hnk {x.BI[n]with es1:=x.BI[n].es1++ys} (fun W=>x.P W/\∀y∈ys,y.v.In W) 2 (by omega) _ rfl rfl]at hL;have HL2:=hdq hL;have HR2:=hdq hR;have Ht:=hdq hp;obtain⟨⟨p0,q0,s0⟩,⟨e0,e1,e2,e3,e4,e5,e6⟩,z4,z5,z6,z7⟩:=HL2.o.pushB;go_simp;refine kpq hK.o fun hHeld=>?_;refine tkq 7 4 ?_;refine dnq ?_;go_wp2;go_ret
    exact⟨er,_,_,.inr (.inr ⟨n,hnk,kk,ys,rfl,Ht.o,.inl ⟨rfl,HR2.o,rfl⟩⟩),rfl,⟨er,0,.inl ⟨rfl,rfl⟩,by simp⟩,HL2.o⟩
   .skip
    have HC:=hdq (fun W (hW:Touch [] w W)=>(BG.o.touch hW).sj (HS.o _ ((BG.o.touch hW).still 2 rfl)) 2 (by decide) n hnk);have CV:=hdq (fun W (hW:Touch [] w W)=>(BG.o.touch hW).Hu (s:=2) (6+(4*n+3)) 2 (x.kW _ n hnk 3 (by omega)) rfl (by omega) ((BG.o.touch hW).oM n hnk) rfl e (fun W h=>HP.o W h) (HQ.o n hnk).2);simp only[bB]at CV;generalize hcn:x.BI[n].c=cn at HC CV;have FV:=hdq hcn;have BZ:=hdq (Touch.refl [] w).drew;go_enter func104,ntmps104
    go_wp2_with fail
    refine hrq (S:=fun w'=>(w'.cell? ⟨b4,0,none⟩=some (.pointer (some ⟨x.wb,0,none⟩))/\w'.cell? ⟨b5,0,none⟩=some (.int .i64 (n:Int))/\w'.cell? ⟨b6,0,none⟩=some (.int .i64 2))/\(w'.cell? ⟨b7,0,none⟩=some (.int .i64 e.sync)/\w'.cell? ⟨b7,1,none⟩=some (.int .i64 e.thread)/\w'.cell? ⟨b7,2,none⟩=some (.int .i64 e.branch)/\w'.cell? ⟨b7,3,none⟩=some (.int .i64 e.flag)/\w'.cell? ⟨b7,4,none⟩=some (.int .i64 e.v.kind)/\w'.cell? ⟨b7,5,none⟩=some (.int .i64 e.v.num)/\w'.cell? ⟨b7,6,none⟩=some (.slice e.v.addr e.v.parts.length e.v.cap))) fun hHeld=>?_;refine tkq 0 5 ?_;refine tkq 1 6 ?_;refine tkq 2 7 ?_;refine tkq 4 9 ?_;refine tkq 5 10 ?_;refine rdq 3 rfl fun K hK=>?_;go_simp;refine(HC.o _ BZ.o).mono ?_;rintro en w1 ⟨rfl,ht⟩;have HT1:=hdq (BZ.o.trans' ht);have BB:=hdq (BG.o.touch HT1.o);obtain⟨⟨p0,q0,s0⟩,⟨e0,e1,e2,e3,e4,e5,e6⟩,z4,z5,z6,z7⟩:=BB.o.pushB;go_simp;refine kpq hK.o fun hHeld=>?_;refine rdq 6 rfl fun K hK=>?_;go_simp;refine(CV.o _ HT1.o).mono ?_;rintro en w2 ⟨kk,er,ys,rfl,hR,hp,hL⟩;rw[x.tV n hnk {x.BI[n]with es2:=x.BI[n].es2++ys} (fun W=>x.P W/\∀y∈ys,y.v.In W) 3 (by omega) _ rfl rfl]at hL;have HL2:=hdq hL;have HR2:=hdq hR;have Ht:=hdq hp;obtain⟨⟨p0,q0,s0⟩,⟨e0,e1,e2,e3,e4,e5,e6⟩,z4,z5,z6,z7⟩:=HL2.o.pushB;go_simp;refine kpq hK.o fun hHeld=>?_;refine tkq 7 4 ?_;refine dnq ?_;go_wp2;go_ret
    exact⟨er,_,_,.inr (.inr ⟨n,hnk,kk,ys,rfl,Ht.o,.inr ⟨rfl,HR2.o,rfl⟩⟩),rfl,⟨er,0,.inl ⟨rfl,rfl⟩,by simp⟩,HL2.o⟩
  .have HC:=hdq (fun W (hW:Touch [] w W)=>(BG.o.touch hW).nL (HS.o _ ((BG.o.touch hW).still 2 rfl)) s hs k hk)
   have HK:Hid (¬(0<=k/\k<(x.BI.length:Int))/\(s=1\/s=2)):=⟨hk,hs⟩;have BZ:=hdq (Touch.refl [] w).drew;go_enter func104,ntmps104
   go_wp2_with fail
   refine hrq (S:=fun w'=>(w'.cell? ⟨b4,0,none⟩=some (.pointer (some ⟨x.wb,0,none⟩))/\w'.cell? ⟨b5,0,none⟩=some (.int .i64 k)/\w'.cell? ⟨b6,0,none⟩=some (.int .i64 s))/\(w'.cell? ⟨b7,0,none⟩=some (.int .i64 e.sync)/\w'.cell? ⟨b7,1,none⟩=some (.int .i64 e.thread)/\w'.cell? ⟨b7,2,none⟩=some (.int .i64 e.branch)/\w'.cell? ⟨b7,3,none⟩=some (.int .i64 e.flag)/\w'.cell? ⟨b7,4,none⟩=some (.int .i64 e.v.kind)/\w'.cell? ⟨b7,5,none⟩=some (.int .i64 e.v.num)/\w'.cell? ⟨b7,6,none⟩=some (.slice e.v.addr e.v.parts.length e.v.cap))) fun hHeld=>?_;refine tkq 0 5 ?_;refine tkq 1 6 ?_;refine tkq 2 7 ?_;refine tkq 4 9 ?_;refine tkq 5 10 ?_;refine rdq 3 rfl fun K hK=>?_;go_simp;refine(HC.o _ BZ.o).mono ?_;rintro en w1 ⟨rfl,ht⟩;dsimp only;exact⟨rfl,4,_,x,.inr (.inl ⟨HK.o.2,HK.o.1,rfl,rfl⟩),rfl,⟨0,4,.inr ⟨rfl,rfl⟩,rfl⟩,BG.o.touch (BZ.o.trans' ht)⟩
 .have HC:=hdq (fun W (hW:Touch [] w W)=>(BG.o.touch hW).nR (HS.o _ ((BG.o.touch hW).still 2 rfl)) s hs k)
  have HK:Hid (¬(s=1\/s=2)):=hs;have BZ:=hdq (Touch.refl [] w).drew;go_enter func104,ntmps104
  go_wp2_with fail
  refine hrq (S:=fun w'=>(w'.cell? ⟨b4,0,none⟩=some (.pointer (some ⟨x.wb,0,none⟩))/\w'.cell? ⟨b5,0,none⟩=some (.int .i64 k)/\w'.cell? ⟨b6,0,none⟩=some (.int .i64 s))/\(w'.cell? ⟨b7,0,none⟩=some (.int .i64 e.sync)/\w'.cell? ⟨b7,1,none⟩=some (.int .i64 e.thread)/\w'.cell? ⟨b7,2,none⟩=some (.int .i64 e.branch)/\w'.cell? ⟨b7,3,none⟩=some (.int .i64 e.flag)/\w'.cell? ⟨b7,4,none⟩=some (.int .i64 e.v.kind)/\w'.cell? ⟨b7,5,none⟩=some (.int .i64 e.v.num)/\w'.cell? ⟨b7,6,none⟩=some (.slice e.v.addr e.v.parts.length e.v.cap))) fun hHeld=>?_;refine tkq 0 5 ?_;refine tkq 1 6 ?_;refine tkq 2 7 ?_;refine tkq 4 9 ?_;refine tkq 5 10 ?_;refine rdq 3 rfl fun K hK=>?_;go_simp;refine(HC.o _ BZ.o).mono ?_;rintro en w1 ⟨rfl,ht⟩;dsimp only;exact⟨rfl,2,_,x,.inl ⟨HK.o,rfl,rfl⟩,rfl,⟨0,2,.inr ⟨rfl,rfl⟩,rfl⟩,BG.o.touch (BZ.o.trans' ht)⟩
theorem KW(T:List Nat)(w:World)(x:WS)(k s:Int)(e:ME)(h:BD T w w x.ts)(hS:∀W,x.P W->bJ W)(hP:∀W,x.P W->e.v.In W)(hq:∀n (hn:n<x.BI.length),x.BI[n].es1.length<=4096/\x.BI[n].es2.length<=4096):
  Calls prog 28 #[x.wb,k,s,e.val] w fun en w'=>∃er x',en= .returned (.int .i64 er)/\lX x k s e er x'/\BD T w w' x'.ts:=by
 have Ep:= @mfq;have BG:=hdq h;rw[bB];go_enter func28,ntmps28
 go_wp2_with fail
 refine ah ?_;intro w1 hw1;have BB:=hdq (((((BG.o.alloc 25 #[x.wb]).alloc 3 #[k]).alloc 41 #[s]).alloc 47 #[e.sync,e.thread,e.branch,e.flag,e.v.kind,e.v.num,.slice e.v.addr e.v.parts.length e.v.cap]).toW hw1);simp only[World.size_alloc,List.append_assoc,cAq,nAq]at BB;generalize EF:w.heap.size+1+1+1=b7 at BB|-;generalize hb6:w.heap.size+1+1=b6 at BB|-;generalize hb5:w.heap.size+1=b5 at BB|-;generalize hb4:w.heap.size=b4 at BB|-;refine(yJ T w w1 _ _ _ (fun er l'=>∃x',lX x k s e er x'/\l'=x'.ts++pushB x k s e b4 b5 b6 b7) BB.o (enters_of func104 (by kernel_rfl) rfl) (fun T' W hW=>?_)).mono ?_
 .refine(NJ T' W x b4 b5 b6 b7 k s e hW hS hP hq).mono ?_
  rintro en w' ⟨er,l',x',hx,rfl,ht⟩;exact⟨er,_,⟨x',hx,rfl⟩,ht⟩
 rintro en w' ⟨er,l',rfl,⟨x',hx,rfl⟩,hL⟩;have HL2:=hdq hL.aF;have HX:=hdq hx;dsimp only;go_wp2;go_ret
 exact⟨er,x',rfl,HX.o,HL2.o⟩
section
theorem jw(p:Option Addr)(w:World):(Instr.build 82 #[(0,.pointer p)]).run prog w= .ok (.agg #[.pointer p]) w:=run_build w 82 _ _ (by kernel_rfl)
theorem qW(p:Option Addr)(w:World):(Instr.build 86 #[(0,.agg #[.pointer p])]).run prog w= .ok (.agg #[.pointer p,True,True,True]) w:=run_build w 86 _ _ (by kernel_rfl)
theorem vD(a b c:Int)(w:World):(Instr.build 129 #[(0,.int .i64 a),(1,.int .i64 b),(2,.int .i64 c)]).run prog w= .ok (.agg #[a,b,c]) w:=run_build w 129 _ _ (by kernel_rfl)
attribute [local go_sem] jw qW vD
def WS.empty(wb ga most:Nat)(P:World->Prop):WS:=⟨wb,ga,Ar.fresh most,P,[],[],[],none,0,none,0,none,0⟩
theorem OU(T:List Nat)(w:World)(P:World->Prop)(most:Nat)(h1:1<=most)(h2:most<=65536)(h:BD T w w [aA P]):
  Calls prog 8 #[(most:Int)] w fun e w'=>∃wb ga,e= .returned (.tuple #[.pointer (some ⟨wb,0,none⟩),()])/\BD T w w' (WS.empty wb ga most P).ts:=by
 have BG:=hdq h;go_enter func8,ntmps8
 go_wp2_with fail
 refine(BG.o.arNew most h1 h2).mono ?_;rintro e w1 ⟨rfl,hL⟩;have BB:=hdq hL;obtain⟨ga,hg⟩:∃b,w.heap.size=b:=⟨_,rfl⟩;simp only[hg]at BB|-;go_wp2;refine aP ?_;intro w2 hw2;have HL2:=hdq ((((BB.o.DN hw2).gK 118 1).gK 122 1).gK 61 11);simp only[nAq,cAq]at HL2;go_ret2
 exact⟨_,ga,rfl,HL2.o.sel [2,1,0,3,4,5] rfl (by decide)⟩
section
variable {T:List Nat} {w0 w:World} {x:WS} {r0:List ai}
theorem BD.M9(h:BD T w0 w (x.ts++r0)):Calls prog 59 #[x.wb] w fun e w'=>e= .returned (.agg #[(x.BI.length:Int),(x.cos.length:Int),(x.sys.length:Int)])/\Touch [] w w':=by
 have HN:=hdq (fun W (hW:Touch [] w W)=>dG W x.wb x.ga _ _ _ (h.Cb.touch hW));have HW:=hdq (fun W (hW:Touch [] w W)=>h.Cb.touch hW);have BG:=hdq (BD.nil' w);go_enter func59,ntmps59
 go_wp2_with fail
 refine ah ?_;intro w1 hw1;have BB:=hdq (BG.o.DN hw1);simp only[nAq]at BB;generalize hb2:w.heap.size=b2 at BB|-;have hwb:x.wb<w.heap.size:=(HW.o w (Touch.refl [] w)).lt;have hne:b2≠x.wb:=by omega
 have hne':=Ne.symm hne;refine(HN.o w1 BB.o.BN).mono ?_;rintro e w' ⟨rfl,rfl⟩;obtain⟨p0,p1,p2,f0,f1,f2,z1,z2,z3⟩:=BB.o.c3 0 rfl;obtain⟨w0',w1',w2',w3'⟩:=HW.o w1 BB.o.BN;have zw:=(HW.o w1 BB.o.BN).lt;go_wp2_with fail
 go_region
 all_goals
  try go_wp2
  refine aP ?_;intro wz hwz;have BF:=hdq (((((BB.o.set 0 rfl 0 (.int .i64 (x.BI.length:Int))).set 0 rfl 1 (.int .i64 (x.cos.length:Int))).set 0 rfl 2 (.int .i64 (x.sys.length:Int))).drew).toW hwz);simp only[sSq,sZq,sAq]at BF;obtain⟨q0,q1,q2,_,_,_,_,_,_⟩:=BF.o.c3 0 rfl;refine bodyPost_ret (v:= .agg #[(x.BI.length:Int),(x.cos.length:Int),(x.sys.length:Int)]) (by simp[results,results59,go_sem,q0,q1,q2]) rfl ⟨rfl,BF.o.BN⟩
theorem BD.yV(h:BD T w0 w (x.ts++r0)):Calls prog 13 #[x.wb] w fun e w'=>e= .returned (.tuple #[(x.BI.length:Int),(x.cos.length:Int),(x.sys.length:Int)])/\Touch [] w w':=by
 have HC:=hdq h.M9;go_enter func13,ntmps13
 go_wp2_with fail
 refine HC.o.mono ?_;rintro e w1 ⟨rfl,ht⟩;have HT:=hdq (ht.alloc (.cells #[(x.BI.length:Int),(x.cos.length:Int),(x.sys.length:Int)] 129));go_wp2_with fail
 go_region
 all_goals
  try go_wp2
  refine bodyPost_ret (v:= .tuple #[(x.BI.length:Int),(x.cos.length:Int),(x.sys.length:Int)]) (by simp[results,results13,go_sem]) rfl ⟨rfl,HT.o.drew⟩
theorem BD.aad(h:BD T w0 w (x.ts++r0)):Calls prog 57 #[.agg #[x.ga]] w fun e w'=>e= .returned (.int .i64 (x.s.C.length:Int))/\Touch [] w w':=by
 have HC:=hdq (fun W (hW:Touch [] w W)=>(h.touch hW).arq 1 (g:=x.ga) (s:=x.s) rfl (fun fp hI=>Ob W x.ga fp x.s hI));have HT:=hdq ((Touch.refl [] w).alloc (.cells #[x.ga] 82));go_enter func57,ntmps57
 go_wp2_with fail
 refine(HC.o _ HT.o).mono ?_;rintro e w' ⟨rfl,rfl⟩;go_wp2;go_ret
 exact⟨rfl,HT.o⟩
theorem BD.Be(h:BD T w0 w (x.ts++r0)):Calls prog 58 #[.agg #[x.ga]] w fun e w'=>e= .returned (.int .u64 (x.s.L.length:Int))/\Touch [] w w':=by
 have HC:=hdq (fun W (hW:Touch [] w W)=>(h.touch hW).arq 1 (g:=x.ga) (s:=x.s) rfl (fun fp hI=>AU W x.ga fp x.s hI));have HT:=hdq ((Touch.refl [] w).alloc (.cells #[x.ga] 82));go_enter func58,ntmps58
 go_wp2_with fail
 refine(HC.o _ HT.o).mono ?_;rintro e w' ⟨rfl,rfl⟩;go_wp2;go_ret
 exact⟨rfl,HT.o⟩
theorem BD.wQ(h:BD T w0 w (x.ts++r0)):Calls prog 12 #[x.wb] w fun e w'=>e= .returned (.tuple #[(x.s.C.length:Int),.int .u64 (x.s.L.length:Int)])/\Touch [] w w':=by
 have HN:=hdq (dG w x.wb x.ga _ _ _ h.Cb);have HW:=hdq (fun W (hW:Touch [] w W)=>h.Cb.touch hW);have HU:=hdq (fun W (hW:Touch [] w W)=>(h.touch hW).aad);have HA:=hdq (fun W (hW:Touch [] w W)=>(h.touch hW).Be);have BZ:=hdq (Touch.refl [] w).drew;go_enter func12,ntmps12
 go_wp2_with fail
 refine HN.o.mono ?_;rintro e w' ⟨rfl,rfl⟩;obtain⟨w0',w1',w2',w3'⟩:=HW.o w (Touch.refl [] w);have zw:=(HW.o w (Touch.refl [] w)).lt;go_wp2_with fail
 go_region_held3 (fun w'=>w'.cell? ⟨x.wb,0,none⟩=some (.pointer (some ⟨x.ga,0,none⟩))) (go_keep) (first
  |(go_at_call 57;refine(HU.o _ BZ.o).mono ?_;rintro e w2 ⟨rfl,ht⟩;have BZ:=hdq (BZ.o.trans' ht);obtain⟨w0',w1',w2',w3'⟩:=HW.o _ BZ.o;have zw:=(HW.o _ BZ.o).lt)
  |(go_at_call 58;refine(HA.o _ BZ.o).mono ?_;rintro e w3 ⟨rfl,ht⟩;have BZ:=hdq (BZ.o.trans' ht);obtain⟨w0',w1',w2',w3'⟩:=HW.o _ BZ.o;have zw:=(HW.o _ BZ.o).lt))
 all_goals
  rename_i hHeld;go_wp2;go_ret2
  exact⟨rfl,BZ.o⟩
end
end
def WS.jM(x:WS)(n:Nat)(y:Ch)(P:World->Prop):WS:={x with cos:=x.cos.set n y,P:=P}
theorem xg(l:List Ch)(n:Nat)(hn:n<l.length)(y:Ch)(hy:y.c=l[n].c):bK (l.set n y)=bK l:=by
 unfold bK;rw[List.map_set,hy];apply List.ext_getElem
 .simp
 .intro i h1 h2
  rw[List.getElem_set];split
  .rename_i h;subst h;simp
  .rfl
def WS.h0(x:WS):ai:=box x.wb 86 #[x.ga,.slice x.a1 x.BI.length x.c1,.slice x.a2 x.cos.length x.c2,.slice x.a3 x.sys.length x.c3]
def WS.A(x:WS)(n:Nat):List ai:=[aS 118 1 (.slice x.a1 x.BI.length x.c1) x.BI.length (bP x.BI),aS 122 1 (.slice x.a2 x.cos.length x.c2) x.cos.length (bK x.cos),aS 61 11 (.slice x.a3 x.sys.length x.c3) x.sys.length (aU x.sys)]++x.BI.flatMap Ce.ts++(x.cos.take n).flatMap Ch.ts
theorem WS.co_split(x:WS)(n:Nat)(hn:n<x.cos.length)(r0:List ai):x.ts++r0=[x.h0,arena x.ga x.s,aA x.P]++x.A n++x.cos[n].ts++((x.cos.drop (n+1)).flatMap Ch.ts++r0):=by
 have e:x.cos.flatMap Ch.ts=(x.cos.take n).flatMap Ch.ts++(x.cos[n].ts++(x.cos.drop (n+1)).flatMap Ch.ts):=by
  conv=>lhs;rw[<-List.take_append_drop n x.cos,List.drop_eq_getElem_cons hn]
  rw[List.flatMap_append,List.flatMap_cons]
 unfold WS.ts;rw[e];simp[WS.head,WS.h0,WS.A]
theorem WS.zF(x:WS)(n:Nat)(hn:n<x.cos.length)(y:Ch)(P:World->Prop)(hy:y.c=x.cos[n].c)(r0:List ai):[x.h0,arena x.ga x.s,aA P]++x.A n++y.ts++((x.cos.drop (n+1)).flatMap Ch.ts++r0)=(x.jM n y P).ts++r0:=by
 have hn2:n<(x.jM n y P).cos.length:=by simp[WS.jM,hn]
 rw[(x.jM n y P).co_split n hn2 r0];have e1:(x.jM n y P).cos[n]=y:=by simp[WS.jM]
 have e2:((x.jM n y P).cos.drop (n+1))=x.cos.drop (n+1):=by show(x.cos.set n y).drop (n+1)=_;rw[List.drop_set,if_pos (by omega)]
 have e3:((x.jM n y P).cos.take n)=x.cos.take n:=by show(x.cos.set n y).take n=_;rw[List.take_set,List.set_eq_of_length_le (by simp;omega)]
 have e4:bK (x.jM n y P).cos=bK x.cos:=xg _ _ hn _ hy;have e5:(x.jM n y P).cos.length=x.cos.length:=by simp[WS.jM]
 rw[e1,e2];unfold WS.A WS.h0;rw[e3,e4,e5];rfl
section
variable {T:List Nat} {w0 w:World} {x:WS} {r0:List ai}
theorem BD.wWait(h:BD T w0 w (x.ts++r0))(n:Nat)(hn:n<x.cos.length)(e:ME)(hP:∀W,x.P W->e.v.In W)(hes:x.cos[n].es.length<=4096):
  Calls prog 116 #[.pointer (some ⟨x.cos[n].c,0,none⟩),e.val] w fun en w'=>∃(kk:Nat) (err:Int) (ys:List ME),en= .returned (.int .i64 err)/\kK x.cos[n].es.length [e.plain] kk err/\ys.map ME.plain=[e.plain].take kk/\BD T w0 w' ((x.jM n {x.cos[n]with es:=x.cos[n].es++ys} (fun W=>x.P W/\∀y∈ys,y.v.In W)).ts++r0):=by
 rw[x.co_split n hn r0]at h;obtain⟨T',hF,hb⟩:=h.vg;refine(Nq T' w x.cos[n].c x.cos[n].a x.cos[n].f x.cos[n].q x.cos[n].es x.P e hF hP hes).mono ?_;rintro en w' ⟨kk,err,ys,rfl,hR,hp,hL⟩;refine⟨kk,err,ys,rfl,hR,hp,?_⟩;rw[<-x.zF n hn {x.cos[n]with es:=x.cos[n].es++ys} (fun W=>x.P W/\∀y∈ys,y.v.In W) rfl r0];exact hb w' _ _ hL
theorem BD.wNext(h:BD T w0 w (x.ts++r0))(n:Nat)(hn:n<x.cos.length)(hes:x.cos[n].es.length<=4096):
  Calls prog 118 #[.pointer (some ⟨x.cos[n].c,0,none⟩)] w fun en w'=>∃(y:ME) (b:Bool),en= .returned (.tuple #[y.val,b])/\kF x.cos[n].es 0 y b/\BD T w0 w' ((x.jM n {x.cos[n]with es:=if b=true then x.cos[n].es.eraseIdx 0 else x.cos[n].es} x.P).ts++r0):=by
 rw[x.co_split n hn r0]at h;obtain⟨T',hF,hb⟩:=h.vg;refine(Mk T' w x.cos[n].c x.cos[n].a x.cos[n].f x.cos[n].q x.cos[n].es x.P hF hes).mono ?_;rintro en w' ⟨y,b,rfl,hR,hL⟩;refine⟨y,b,rfl,hR,?_⟩;rw[<-x.zF n hn {x.cos[n]with es:=if b=true then x.cos[n].es.eraseIdx 0 else x.cos[n].es} x.P rfl r0];exact hb w' _ _ hL
end
def nu(x:WS)(k:Int)(e:ME)(er:Int)(x':WS):Prop:=
 (¬(0<=k/\k<(x.cos.length:Int))/\er=4/\x'=x)\/
 ∃(n:Nat) (hn:n<x.cos.length) (kk:Nat) (ys:List ME),k=(n:Int)/\ys.map ME.plain=[e.plain].take kk/\kK x.cos[n].es.length [e.plain] kk er/\x'=x.jM n {x.cos[n]with es:=x.cos[n].es++ys} (fun W=>x.P W/\∀y∈ys,y.v.In W)
def lG(x:WS)(k:Int)(e:ME)(b4 b5 b7:Nat):List ai:=[box b4 25 #[x.wb],box b5 3 #[k],box b7 47 #[e.sync,e.thread,e.branch,e.flag,e.v.kind,e.v.num,.slice e.v.addr e.v.parts.length e.v.cap]]
theorem BD.lG{T:List Nat}{w0 w:World}{x y:WS}{k:Int}{e:ME}{b4 b5 b7:Nat}(h:BD T w0 w (y.ts++lG x k e b4 b5 b7)):(w.cell? ⟨b4,0,none⟩=some (.pointer (some ⟨x.wb,0,none⟩))/\w.cell? ⟨b5,0,none⟩=some (.int .i64 k))/\(w.cell? ⟨b7,0,none⟩=some (.int .i64 e.sync)/\w.cell? ⟨b7,1,none⟩=some (.int .i64 e.thread)/\w.cell? ⟨b7,2,none⟩=some (.int .i64 e.branch)/\w.cell? ⟨b7,3,none⟩=some (.int .i64 e.flag)/\w.cell? ⟨b7,4,none⟩=some (.int .i64 e.v.kind)/\w.cell? ⟨b7,5,none⟩=some (.int .i64 e.v.num)/\w.cell? ⟨b7,6,none⟩=some (.slice e.v.addr e.v.parts.length e.v.cap))/\b4<w.heap.size/\b5<w.heap.size/\b7<w.heap.size:=by
 have h4:=h.box y.ts.length (b:=b4) (t:=25) (cs:=#[.pointer (some ⟨x.wb,0,none⟩)]) (by simp[Proofs.YtddnnapoaonmjaaGreatDoor.lG]);have h5:=h.box (y.ts.length+1) (b:=b5) (t:=3) (cs:=#[.int .i64 k]) (by simp[Proofs.YtddnnapoaonmjaaGreatDoor.lG]);have h7:=h.box (y.ts.length+2) (b:=b7) (t:=47) (cs:=#[.int .i64 e.sync,.int .i64 e.thread,.int .i64 e.branch,.int .i64 e.flag,.int .i64 e.v.kind,.int .i64 e.v.num,.slice e.v.addr e.v.parts.length e.v.cap]) (by simp[Proofs.YtddnnapoaonmjaaGreatDoor.lG]);exact⟨⟨h4.cell 0,h5.cell 0⟩,⟨h7.cell 0,h7.cell 1,h7.cell 2,h7.cell 3,h7.cell 4,h7.cell 5,h7.cell 6⟩,h4.lt,h5.lt,h7.lt⟩
def JE(T:List Nat)(w:World)(x:WS)(k:Int)(e:ME)(b4 b5 b7:Nat)(en:Ending)(w':World):Prop:=∃er l' x',nu x k e er x'/\l'=x'.ts++lG x k e b4 b5 b7/\l5 T w er l' en w'
theorem MO(T:List Nat)(w:World)(x:WS)(b4 b5 b7:Nat)(k:Int)(e:ME)(h:BD T w w (x.ts++lG x k e b4 b5 b7))(hP:∀W,x.P W->e.v.In W)(hq:∀n (hn:n<x.cos.length),x.cos[n].es.length<=4096):
  Calls prog 115 #[b4,b5,b7] w (JE T w x k e b4 b5 b7):=by
 have BG:=hdq h;have HP:=hdq hP;have HQ:=hdq hq;obtain⟨⟨p0,q0⟩,⟨e0,e1,e2,e3,e4,e5,e6⟩,z4,z5,z7⟩:=BG.o.lG;by_cases hk:0<=k/\k<(x.cos.length:Int)
 .obtain⟨n,rfl⟩:=Int.eq_ofNat_of_zero_le hk.1
  have hnk:n<x.cos.length:=by omega
  have HC:=hdq (fun W (hW:Touch [] w W)=>(BG.o.touch hW).r9 n hnk);have CV:=hdq (fun W (hW:Touch [] w W)=>(BG.o.touch hW).wWait n hnk e HP.o (HQ.o n hnk));simp only[bB]at CV;generalize hcn:x.cos[n].c=cn at HC CV;have FV:=hdq hcn;have BZ:=hdq (Touch.refl [] w).drew;go_enter func115,ntmps115
  go_wp2_with fail
  refine hrq (S:=fun w'=>(w'.cell? ⟨b4,0,none⟩=some (.pointer (some ⟨x.wb,0,none⟩))/\w'.cell? ⟨b5,0,none⟩=some (.int .i64 (n:Int)))/\(w'.cell? ⟨b7,0,none⟩=some (.int .i64 e.sync)/\w'.cell? ⟨b7,1,none⟩=some (.int .i64 e.thread)/\w'.cell? ⟨b7,2,none⟩=some (.int .i64 e.branch)/\w'.cell? ⟨b7,3,none⟩=some (.int .i64 e.flag)/\w'.cell? ⟨b7,4,none⟩=some (.int .i64 e.v.kind)/\w'.cell? ⟨b7,5,none⟩=some (.int .i64 e.v.num)/\w'.cell? ⟨b7,6,none⟩=some (.slice e.v.addr e.v.parts.length e.v.cap))) fun hHeld=>?_;refine tkq 0 4 ?_;refine tkq 1 5 ?_;refine tkq 3 7 ?_;refine rdq 2 rfl fun K hK=>?_;go_simp;refine(HC.o _ BZ.o).mono ?_;rintro en w1 ⟨rfl,ht⟩;have HT1:=hdq (BZ.o.trans' ht);have BB:=hdq (BG.o.touch HT1.o);obtain⟨⟨p0,q0⟩,⟨e0,e1,e2,e3,e4,e5,e6⟩,z4,z5,z7⟩:=BB.o.lG;go_simp;refine kpq hK.o fun hHeld=>?_;refine rdq 4 rfl fun K hK=>?_;go_simp;refine(CV.o _ HT1.o).mono ?_;rintro en w2 ⟨kk,er,ys,rfl,hR,hp,hL⟩;have HL2:=hdq hL;have HR2:=hdq hR;have Ht:=hdq hp;obtain⟨⟨p0,q0⟩,⟨e0,e1,e2,e3,e4,e5,e6⟩,z4,z5,z7⟩:=HL2.o.lG;go_simp;refine kpq hK.o fun hHeld=>?_;refine tkq 5 3 ?_;refine dnq ?_;go_wp2;go_ret
  obtain rfl:=FV.o;exact⟨er,_,_,.inr ⟨n,hnk,kk,ys,rfl,Ht.o,HR2.o,rfl⟩,rfl,⟨er,0,.inl ⟨rfl,rfl⟩,by simp⟩,HL2.o⟩
 .have HC:=hdq (fun W (hW:Touch [] w W)=>(BG.o.touch hW).iP k hk)
  have HK:Hid (¬(0<=k/\k<(x.cos.length:Int))):=hk;have BZ:=hdq (Touch.refl [] w).drew;go_enter func115,ntmps115
  go_wp2_with fail
  refine hrq (S:=fun w'=>(w'.cell? ⟨b4,0,none⟩=some (.pointer (some ⟨x.wb,0,none⟩))/\w'.cell? ⟨b5,0,none⟩=some (.int .i64 k))/\(w'.cell? ⟨b7,0,none⟩=some (.int .i64 e.sync)/\w'.cell? ⟨b7,1,none⟩=some (.int .i64 e.thread)/\w'.cell? ⟨b7,2,none⟩=some (.int .i64 e.branch)/\w'.cell? ⟨b7,3,none⟩=some (.int .i64 e.flag)/\w'.cell? ⟨b7,4,none⟩=some (.int .i64 e.v.kind)/\w'.cell? ⟨b7,5,none⟩=some (.int .i64 e.v.num)/\w'.cell? ⟨b7,6,none⟩=some (.slice e.v.addr e.v.parts.length e.v.cap))) fun hHeld=>?_;refine tkq 0 4 ?_;refine tkq 1 5 ?_;refine tkq 3 7 ?_;refine rdq 2 rfl fun K hK=>?_;go_simp;refine(HC.o _ BZ.o).mono ?_;rintro en w1 ⟨rfl,ht⟩;dsimp only;exact⟨rfl,4,_,x,.inl ⟨HK.o,rfl,rfl⟩,rfl,⟨0,4,.inr ⟨rfl,rfl⟩,rfl⟩,BG.o.touch (BZ.o.trans' ht)⟩
theorem Wait_w(T:List Nat)(w:World)(x:WS)(k:Int)(e:ME)(h:BD T w w x.ts)(hP:∀W,x.P W->e.v.In W)(hq:∀n (hn:n<x.cos.length),x.cos[n].es.length<=4096):
  Calls prog 33 #[x.wb,k,e.val] w fun en w'=>∃er x',en= .returned (.int .i64 er)/\nu x k e er x'/\BD T w w' x'.ts:=by
 have Ep:= @mfq;have BG:=hdq h;rw[bB];go_enter func33,ntmps33
 go_wp2_with fail
 refine ah ?_;intro w1 hw1;have BB:=hdq ((((BG.o.alloc 25 #[x.wb]).alloc 3 #[k]).alloc 47 #[e.sync,e.thread,e.branch,e.flag,e.v.kind,e.v.num,.slice e.v.addr e.v.parts.length e.v.cap]).toW hw1);simp only[World.size_alloc,List.append_assoc,cAq,nAq]at BB;generalize EF:w.heap.size+1+1=b7 at BB|-;generalize hb5:w.heap.size+1=b5 at BB|-;generalize hb4:w.heap.size=b4 at BB|-;refine(yJ T w w1 _ _ _ (fun er l'=>∃x',nu x k e er x'/\l'=x'.ts++lG x k e b4 b5 b7) BB.o (enters_of func115 (by kernel_rfl) rfl) (fun T' W hW=>?_)).mono ?_
 .refine(MO T' W x b4 b5 b7 k e hW hP hq).mono ?_
  rintro en w' ⟨er,l',x',hx,rfl,ht⟩;exact⟨er,_,⟨x',hx,rfl⟩,ht⟩
 rintro en w' ⟨er,l',rfl,⟨x',hx,rfl⟩,hL⟩;have HL2:=hdq hL.aF;have HX:=hdq hx;dsimp only;go_wp2;go_ret
 exact⟨er,x',rfl,HX.o,HL2.o⟩
def aL.of(y:ME)(b:Bool):aL:=⟨y.sync,y.thread,y.branch,y.flag,y.v.kind,y.v.num,y.v.addr,y.v.parts.length,y.v.cap,b⟩
def lS(x:WS)(k:Int)(v:aL)(er:Int)(x':WS):Prop:=
 (¬(0<=k/\k<(x.cos.length:Int))/\v=aL.zero/\er=4/\x'=x)\/
 ∃(n:Nat) (hn:n<x.cos.length) (y:ME) (b:Bool),k=(n:Int)/\kF x.cos[n].es 0 y b/\v=aL.of y b/\er=0/\x'=x.jM n {x.cos[n]with es:=if b=true then x.cos[n].es.eraseIdx 0 else x.cos[n].es} x.P
def kG(x:WS)(k:Int)(b3 b4:Nat):List ai:=[box b3 25 #[x.wb],box b4 3 #[k]]
theorem BD.kG{T:List Nat}{w0 w:World}{x y:WS}{k:Int}{b3 b4:Nat}{r:List ai}(h:BD T w0 w (y.ts++(kG x k b3 b4++r))):w.cell? ⟨b3,0,none⟩=some (.pointer (some ⟨x.wb,0,none⟩))/\w.cell? ⟨b4,0,none⟩=some (.int .i64 k)/\b3<w.heap.size/\b4<w.heap.size:=by
 have h4:=h.box y.ts.length (b:=b3) (t:=25) (cs:=#[.pointer (some ⟨x.wb,0,none⟩)]) (by simp[Proofs.YtddnnapoaonmjaaGreatDoor.kG]);have h5:=h.box (y.ts.length+1) (b:=b4) (t:=3) (cs:=#[.int .i64 k]) (by simp[Proofs.YtddnnapoaonmjaaGreatDoor.kG]);exact⟨h4.cell 0,h5.cell 0,h4.lt,h5.lt⟩
def AR(T:List Nat)(w:World)(x:WS)(k:Int)(b3 b4:Nat)(en:Ending)(w':World):Prop:=∃(v:aL) (er:Int) (x':WS),lS x k v er x'/\((er=0/\en= .returned v.val)\/(v=aL.zero/\en= .panicked (aX er)))/\BD T w w' (x'.ts++kG x k b3 b4)
theorem ND(T:List Nat)(w:World)(x:WS)(b3 b4:Nat)(k:Int)(h:BD T w w (x.ts++kG x k b3 b4))(hq:∀n (hn:n<x.cos.length),x.cos[n].es.length<=4096):
  Calls prog 117 #[b3,b4] w (AR T w x k b3 b4):=by
 have BG:=hdq h;have HQ:=hdq hq;go_enter func117,ntmps117
 go_upto_region 1 with fail
 refine ay ?_;intro w1 hw1;have BB:=hdq (BG.o.DN hw1);simp only[List.append_assoc]at BB;generalize hbf:w.heap.size=bf at BB|-;obtain⟨p0,q0,z3,z4⟩:=BB.o.kG;by_cases hk:0<=k/\k<(x.cos.length:Int)
 .obtain⟨n,rfl⟩:=Int.eq_ofNat_of_zero_le hk.1
  have hnk:n<x.cos.length:=by omega
  have HC:=hdq (BB.o.r9 n hnk);have CV:=hdq (fun W (hW:Touch [] w1 W)=>(BB.o.touch hW).wNext n hnk (HQ.o n hnk));generalize hcn:x.cos[n].c=cn at HC CV;have FV:=hdq hcn;go_wp2_with fail
  refine HC.o.mono ?_;rintro en w2 ⟨rfl,ht⟩;have HT2:=hdq ht;go_wp2_with fail
  refine(CV.o _ HT2.o).mono ?_;rintro en w3 ⟨y,b,rfl,hR,hL⟩;obtain rfl:=FV.o;have HR:=hdq hR;have BF:=hdq (BD.aB (a:=[]) (c:=[box bf 168 #[(),(),(),(),(),(),True,false]]) (b:=_++kG x (n:Int) b3 b4) (by rw[List.nil_append,List.append_assoc];exact hL));simp only[nAq,cAq]at BF;obtain⟨⟨f0,f1,f2,f3,f4,f5,f6,f7⟩,⟨g0,g1,g2,g3,g4,g5,g6,g7⟩,zf,_,_⟩:=BF.o.dA 0 rfl;have BH:=hdq ((((((((BF.o.set 0 rfl 0 (.int .i64 y.sync)).set 0 rfl 1 (.int .i64 y.thread)).set 0 rfl 2 (.int .i64 y.branch)).set 0 rfl 3 (.int .i64 y.flag)).set 0 rfl 4 (.int .i64 y.v.kind)).set 0 rfl 5 (.int .i64 y.v.num)).set 0 rfl 6 (.slice y.v.addr y.v.parts.length y.v.cap)).set 0 rfl 7 (.bool b));simp only[sZq,sAq,sSq]at BH;simp only[bB];go_upto_region 2 with fail
  refine ay ?_;intro w4 hw4;have Ca:=hdq (BH.o.toW hw4);obtain⟨⟨f0,f1,f2,f3,f4,f5,f6,f7⟩,⟨g0,g1,g2,g3,g4,g5,g6,g7⟩,zf,_,_⟩:=Ca.o.dA 0 rfl;have Db:=hdq ((((((((Ca.o.set 0 rfl 0 (.int .i64 y.sync)).set 0 rfl 1 (.int .i64 y.thread)).set 0 rfl 2 (.int .i64 y.branch)).set 0 rfl 3 (.int .i64 y.flag)).set 0 rfl 4 (.int .i64 y.v.kind)).set 0 rfl 5 (.int .i64 y.v.num)).set 0 rfl 6 (.slice y.v.addr y.v.parts.length y.v.cap)).set 0 rfl 7 (.bool b));simp only[sZq,sAq,sSq]at Db;go_wp2;refine aP ?_;intro w5 DC;have C8:=hdq (Db.o.toW DC);obtain⟨⟨f0,f1,f2,f3,f4,f5,f6,f7⟩,_,_⟩:=C8.o.dA 0 rfl;refine bodyPost_ret (v:=(aL.of y b).val) (by simp[results,results117,go_sem,f0,f1,f2,f3,f4,f5,f6,f7,aL.val,aL.of]) rfl ?_;exact⟨aL.of y b,0,_,.inr ⟨n,hnk,y,b,rfl,HR.o,rfl,rfl,rfl⟩,.inl ⟨rfl,rfl⟩,BD.aF (BD.aB (a:=[]) (b:=[_]) C8.o)⟩
 .have HC:=hdq (BB.o.iP k hk)
  have HK:Hid (¬(0<=k/\k<(x.cos.length:Int))):=hk;go_wp2_with fail
  refine HC.o.mono ?_;rintro en w2 ⟨rfl,ht⟩;dsimp only;have h2:=BB.o.touch ht;rw[<-List.append_assoc]at h2;exact⟨rfl,aL.zero,4,x,.inl ⟨HK.o,rfl,rfl,rfl⟩,.inr ⟨rfl,rfl⟩,h2.aF⟩
def dJ(b:Nat):ai:=box b 47 #[(),(),(),(),(),(),True]
def aL.ent(v:aL):Value:= .agg #[v.sync,v.thread,v.branch,v.flag,v.kind,v.num,.slice v.lA v.lN v.lC]
theorem Next_w(T:List Nat)(w:World)(x:WS)(k:Int)(h:BD T w w x.ts)(hq:∀n (hn:n<x.cos.length),x.cos[n].es.length<=4096):
  Calls prog 34 #[x.wb,k] w fun en w'=>∃(v:aL) (er:Int) (x':WS),en= .returned (.tuple #[v.ent,v.is,.int .i64 er])/\lS x k v er x'/\BD T w w' x'.ts:=by
 have Ep:= @mfq;have BG:=hdq h;go_enter func34,ntmps34
 go_wp2_with fail
 refine ah ?_;intro w1 hw1;have BB:=hdq (BG.o.UX hw1);generalize hb4:w.heap.size+1+1=b4 at BB|-;generalize hb3:w.heap.size+1=b3 at BB|-;generalize hb2:w.heap.size=b2 at BB|-;refine(jy T w w1 _ _ _ (fun v er l'=>∃x',lS x k v er x'/\l'=x'.ts++kG x k b2 b3++[dJ b4]) BB.o (enters_of func117 (by kernel_rfl) rfl) (fun T' W hW=>?_)).mono ?_
 .obtain⟨T2,hF,hb⟩:=BD.aN (m:=x.ts++kG x k b2 b3) (r:=[dJ b4]) (by rw[List.append_assoc];exact hW)
  refine(ND T2 W x b2 b3 k hF hq).mono ?_;rintro en w' ⟨v,er,x',hx,he,hL⟩;exact⟨v,er,_,he,⟨x',hx,rfl⟩,hb _ _ hL⟩
 rintro en w2 ⟨v,er,l',rfl,⟨x',hx,rfl⟩,hL⟩;have HX:=hdq hx;have BF:=hdq hL;unfold aL.val;dsimp only;go_upto_region 2 with fail
 refine ay ?_;intro w3 hw3;have BH:=hdq (BD.aB (a:=[]) (b:=x'.ts++kG x k b2 b3) (c:=[dJ b4,box w2.heap.size 168 #[v.sync,v.thread,v.branch,v.flag,v.kind,v.num,.slice v.lA v.lN v.lC,v.is]]) (by simpa using(BF.o.DN hw3)));simp only[nAq,cAq,dJ]at BH;generalize EF:w2.heap.size=b7 at BH|-;obtain⟨e0,e1,e2,e3,e4,e5,e6,⟨ef0,ef1,ef2,ef3,ef4,ef5,ef6⟩,ze,_,_⟩:=BH.o.c7 0 rfl;obtain⟨⟨f0,f1,f2,f3,f4,f5,f6,f7⟩,⟨g0,g1,g2,g3,g4,g5,g6,g7⟩,zf,_,_⟩:=BH.o.dA 1 rfl;have hne:=BH.o.ne 0 1 rfl rfl (by decide);have hne':=Ne.symm hne;go_wp2_with fail
 refine hrq (S:=fun w'=>w'.cell? ⟨b7,0,none⟩=some (.int .i64 v.sync)/\w'.cell? ⟨b7,1,none⟩=some (.int .i64 v.thread)/\w'.cell? ⟨b7,2,none⟩=some (.int .i64 v.branch)/\w'.cell? ⟨b7,3,none⟩=some (.int .i64 v.flag)/\w'.cell? ⟨b7,4,none⟩=some (.int .i64 v.kind)/\w'.cell? ⟨b7,5,none⟩=some (.int .i64 v.num)/\w'.cell? ⟨b7,6,none⟩=some (.slice v.lA v.lN v.lC)/\w'.cell? ⟨b7,7,none⟩=some (.bool v.is)) fun hHeld=>?_;refine tkq 0 14 ?_;refine tkq 1 15 ?_;refine tkq 2 16 ?_;refine tkq 3 17 ?_;refine tkq 4 18 ?_;refine opq 5 fun hHeld=>?_;refine tkq 6 5 ?_;refine tkq 7 6 ?_;refine dnq ?_;have Ca:=hdq (((((((BH.o.set 0 rfl 0 (.int .i64 v.sync)).set 0 rfl 1 (.int .i64 v.thread)).set 0 rfl 2 (.int .i64 v.branch)).set 0 rfl 3 (.int .i64 v.flag)).set 0 rfl 4 (.int .i64 v.kind)).set 0 rfl 5 (.int .i64 v.num)).set 0 rfl 6 (.slice v.lA v.lN v.lC)).drew;simp only[sZq,sAq,sSq]at Ca;go_wp2;refine aP ?_;intro w5 DC;have C8:=hdq (Ca.o.toW DC);obtain⟨e0,e1,e2,e3,e4,e5,e6,_,ze,_,_⟩:=C8.o.c7 0 rfl;refine bodyPost_ret (v:= .tuple #[v.ent,v.is,.int .i64 er]) (by simp[results,results34,go_sem,e0,e1,e2,e3,e4,e5,e6,aL.ent]) rfl ?_;have hz:BD T w w5 (x'.ts++kG x k b2 b3++[_,_]):=BD.aB (a:=[]) (b:=[_,_]) C8.o;exact⟨v,er,x',rfl,HX.o,(BD.aF (BD.aF hz))⟩
theorem WS.uV(x:WS)(n:Nat)(hn:n<x.BI.length)(y:Ce)(r:Nat)(hr:r<4)(t:ai)(hy:y.c=x.BI[n].c)(ht:x.BI[n].ts.set r t=y.ts)(r0:List ai):(x.ts++r0).set (6+(4*n+r)) t=(x.oQ n y x.P).ts++r0:=by
 rw[<-x.tV n hn y x.P r hr t hy ht r0];have h2:((x.ts++r0).set (6+(4*n+r)) t)[2]? =some (aA x.P):=by
  rw[List.getElem?_set_ne (by omega)];rfl
 have hl:=(List.getElem?_eq_some_iff.1 h2).1;have he:=(List.getElem?_eq_some_iff.1 h2).2;rw[<-he];exact(List.set_getElem_self hl).symm
def jN(x:WS)(k s i:Int)(v:aL)(er:Int)(x':WS):Prop:=
 (¬(s=1\/s=2)/\v=aL.zero/\er=2/\x'=x)\/((s=1\/s=2)/\¬(0<=k/\k<(x.BI.length:Int))/\v=aL.zero/\er=4/\x'=x)\/
 ∃(n:Nat) (hn:n<x.BI.length) (y:ME) (b:Bool),k=(n:Int)/\er=0/\v=aL.of y b/\
  ((s=1/\kF x.BI[n].es1 i y b/\x'=x.oQ n {x.BI[n]with es1:=if b=true then x.BI[n].es1.eraseIdx i.toNat else x.BI[n].es1} x.P)\/
  (s=2/\kF x.BI[n].es2 i y b/\x'=x.oQ n {x.BI[n]with es2:=if b=true then x.BI[n].es2.eraseIdx i.toNat else x.BI[n].es2} x.P))
def bV(x:WS)(k s i:Int)(b4 b5 b6 b7:Nat):List ai:=[box b4 25 #[x.wb],box b5 3 #[k],box b6 41 #[s],box b7 3 #[i]]
theorem BD.bV{T:List Nat}{w0 w:World}{x y:WS}{k s i:Int}{b4 b5 b6 b7:Nat}{r:List ai}(h:BD T w0 w (y.ts++(bV x k s i b4 b5 b6 b7++r))):(w.cell? ⟨b4,0,none⟩=some (.pointer (some ⟨x.wb,0,none⟩))/\w.cell? ⟨b5,0,none⟩=some (.int .i64 k)/\w.cell? ⟨b6,0,none⟩=some (.int .i64 s)/\w.cell? ⟨b7,0,none⟩=some (.int .i64 i))/\b4<w.heap.size/\b5<w.heap.size/\b6<w.heap.size/\b7<w.heap.size:=by
 have h4:=h.box y.ts.length (b:=b4) (t:=25) (cs:=#[.pointer (some ⟨x.wb,0,none⟩)]) (by simp[Proofs.YtddnnapoaonmjaaGreatDoor.bV]);have h5:=h.box (y.ts.length+1) (b:=b5) (t:=3) (cs:=#[.int .i64 k]) (by simp[Proofs.YtddnnapoaonmjaaGreatDoor.bV]);have h6:=h.box (y.ts.length+2) (b:=b6) (t:=41) (cs:=#[.int .i64 s]) (by simp[Proofs.YtddnnapoaonmjaaGreatDoor.bV]);have h7:=h.box (y.ts.length+3) (b:=b7) (t:=3) (cs:=#[.int .i64 i]) (by simp[Proofs.YtddnnapoaonmjaaGreatDoor.bV]);exact⟨⟨h4.cell 0,h5.cell 0,h6.cell 0,h7.cell 0⟩,h4.lt,h5.lt,h6.lt,h7.lt⟩
theorem BD.uI{T:List Nat}{w0 w:World}{x y:WS}{k s i:Int}{b4 b5 b6 b7 bf t:Nat}{cs:Array Value}(h:BD T w0 w (Proofs.YtddnnapoaonmjaaGreatDoor.box bf t cs::(y.ts++Proofs.YtddnnapoaonmjaaGreatDoor.bV x k s i b4 b5 b6 b7))):bf≠b4/\bf≠b5/\bf≠b6/\bf≠b7:=by
 refine⟨h.ne 0 (y.ts.length+1) (b':=b4) (t':=25) (cs':=#[.pointer (some ⟨x.wb,0,none⟩)]) rfl (by simp[Proofs.YtddnnapoaonmjaaGreatDoor.bV]) (by omega),h.ne 0 (y.ts.length+2) (b':=b5) (t':=3) (cs':=#[.int .i64 k]) rfl (by simp[Proofs.YtddnnapoaonmjaaGreatDoor.bV]) (by omega),h.ne 0 (y.ts.length+3) (b':=b6) (t':=41) (cs':=#[.int .i64 s]) rfl (by simp[Proofs.YtddnnapoaonmjaaGreatDoor.bV]) (by omega),h.ne 0 (y.ts.length+4) (b':=b7) (t':=3) (cs':=#[.int .i64 i]) rfl (by simp[Proofs.YtddnnapoaonmjaaGreatDoor.bV]) (by omega)⟩
def jm(b:Nat):ai:=box b 168 #[(),(),(),(),(),(),True,false]
def Ai(T:List Nat)(w:World)(x:WS)(k s i:Int)(b4 b5 b6 b7:Nat)(en:Ending)(w':World):Prop:=∃(v:aL) (er:Int) (x':WS),jN x k s i v er x'/\((er=0/\en= .returned v.val)\/(v=aL.zero/\en= .panicked (aX er)))/\BD T w w' (x'.ts++bV x k s i b4 b5 b6 b7)
theorem Mx(T:List Nat)(w:World)(x:WS)(b4 b5 b6 b7:Nat)(k s i:Int)(h:BD T w w (x.ts++bV x k s i b4 b5 b6 b7))(hS:∀W,x.P W->bJ W)(hq:∀n (hn:n<x.BI.length),x.BI[n].es1.length<=4096/\x.BI[n].es2.length<=4096):
  Calls prog 102 #[b4,b5,b6,b7] w (Ai T w x k s i b4 b5 b6 b7):=by
 have BG:=hdq h;have HS:=hdq hS;have HQ:=hdq hq;go_enter func102,ntmps102
 go_upto_region 1 with fail
 refine ay ?_;intro w1 hw1;have BB:Hid (BD T w w1 (x.ts++(bV x k s i b4 b5 b6 b7++[jm w.heap.size]))):=by
  have h1:=BG.o.DN hw1;rw[List.append_assoc]at h1;exact h1
 generalize hbf:w.heap.size=bf at BB|-;obtain⟨⟨p0,q0,s0,i0⟩,z4,z5,z6,z7⟩:=BB.o.bV;by_cases hs:s=1\/s=2
 .by_cases hk:0<=k/\k<(x.BI.length:Int)
  .obtain⟨n,rfl⟩:=Int.eq_ofNat_of_zero_le hk.1
   have hnk:n<x.BI.length:=by omega
   rcases hs with rfl|rfl
   .skip
    have HC:=hdq (fun W (hW:Touch [] w1 W)=>(BB.o.touch hW).sj (HS.o _ ((BB.o.touch hW).still 2 rfl)) 1 (by decide) n hnk);have CV:=hdq (fun W (hW:Touch [] w1 W)=>(BB.o.touch hW).La (s:=1) (6+(4*n+2)) (x.kW _ n hnk 2 (by omega)) ((BB.o.touch hW).oM n hnk) rfl (HQ.o n hnk).1 i);generalize hcn:x.BI[n].c=cn at HC CV;have FV:=hdq hcn;have BZ:=hdq (Touch.refl [] w1).drew;go_wp2_with fail
    refine hrq (S:=fun w'=>w'.cell? ⟨b4,0,none⟩=some (.pointer (some ⟨x.wb,0,none⟩))/\w'.cell? ⟨b5,0,none⟩=some (.int .i64 (n:Int))/\w'.cell? ⟨b6,0,none⟩=some (.int .i64 1)/\w'.cell? ⟨b7,0,none⟩=some (.int .i64 i)) fun hHeld=>?_;refine tkq 0 6 ?_;refine tkq 1 7 ?_;refine tkq 2 8 ?_;refine tkq 4 10 ?_;refine tkq 5 11 ?_;refine rdq 3 rfl fun K hK=>?_;go_simp;refine(HC.o _ BZ.o).mono ?_;rintro en w2 ⟨rfl,ht⟩;have HT1:=hdq (BZ.o.trans' ht);have HL2:=hdq (BB.o.touch HT1.o);obtain⟨⟨p0,q0,s0,i0⟩,z4,z5,z6,z7⟩:=HL2.o.bV;go_simp;refine kpq hK.o fun hHeld=>?_;refine rdq 6 rfl fun K hK=>?_;go_simp;refine(CV.o _ HT1.o).mono ?_;rintro en w3 ⟨y,b,rfl,hR,hL⟩;obtain rfl:=FV.o;rw[x.uV n hnk {x.BI[n]with es1:=if b=true then x.BI[n].es1.eraseIdx i.toNat else x.BI[n].es1} 2 (by omega) _ rfl rfl]at hL;have HR:=hdq hR;obtain⟨⟨p0,q0,s0,i0⟩,z4,z5,z6,z7⟩:=hL.bV;have BF:=hdq (BD.aB (a:=[]) (c:=[jm bf]) (b:=_++bV x (n:Int) 1 i b4 b5 b6 b7) (by rw[List.nil_append,List.append_assoc];exact hL));simp only[nAq,cAq,jm]at BF;obtain⟨⟨f0,f1,f2,f3,f4,f5,f6,f7⟩,⟨g0,g1,g2,g3,g4,g5,g6,g7⟩,zf,_,_⟩:=BF.o.dA 0 rfl;obtain⟨n4,n5,n6,n7⟩:=BF.o.uI;simp only[bB];go_simp;refine kpq hK.o fun hHeld=>?_;refine tkq 7 5 ?_;refine tkq 8 13 ?_;refine tkq 9 14 ?_;refine tkq 10 15 ?_;refine opq 11 fun hHeld=>?_;refine tkq 12 16 ?_;refine opq 13 fun hHeld=>?_;refine dnq ?_;have BH:=hdq ((((((((BF.o.set 0 rfl 0 (.int .i64 y.sync)).set 0 rfl 1 (.int .i64 y.thread)).set 0 rfl 2 (.int .i64 y.branch)).set 0 rfl 3 (.int .i64 y.flag)).set 0 rfl 4 (.int .i64 y.v.kind)).set 0 rfl 5 (.int .i64 y.v.num)).set 0 rfl 6 (.slice y.v.addr y.v.parts.length y.v.cap)).set 0 rfl 7 (.bool b));simp only[sZq,sAq,sSq]at BH;refine ax (Q:=Exit.then _ _) ?_;intro w4 hw4;have Ca:=hdq (BH.o.toW (by with_reducible exact hw4));obtain⟨⟨f0,f1,f2,f3,f4,f5,f6,f7⟩,⟨g0,g1,g2,g3,g4,g5,g6,g7⟩,zf,_,_⟩:=Ca.o.dA 0 rfl;have Db:=hdq ((((((((Ca.o.set 0 rfl 0 (.int .i64 y.sync)).set 0 rfl 1 (.int .i64 y.thread)).set 0 rfl 2 (.int .i64 y.branch)).set 0 rfl 3 (.int .i64 y.flag)).set 0 rfl 4 (.int .i64 y.v.kind)).set 0 rfl 5 (.int .i64 y.v.num)).set 0 rfl 6 (.slice y.v.addr y.v.parts.length y.v.cap)).set 0 rfl 7 (.bool b));simp only[sZq,sAq,sSq]at Db;go_wp2;refine aP ?_;intro w5 DC;have C8:=hdq (Db.o.toW DC);obtain⟨⟨f0,f1,f2,f3,f4,f5,f6,f7⟩,_,_⟩:=C8.o.dA 0 rfl;refine bodyPost_ret (v:=(aL.of y b).val) (by simp[results,results102,go_sem,f0,f1,f2,f3,f4,f5,f6,f7,aL.val,aL.of]) rfl ?_;exact⟨aL.of y b,0,_,.inr (.inr ⟨n,hnk,y,b,rfl,rfl,rfl,.inl ⟨rfl,HR.o,rfl⟩⟩),.inl ⟨rfl,rfl⟩,BD.aF (BD.aB (a:=[]) (b:=[_]) C8.o)⟩
   .skip
    have HC:=hdq (fun W (hW:Touch [] w1 W)=>(BB.o.touch hW).sj (HS.o _ ((BB.o.touch hW).still 2 rfl)) 2 (by decide) n hnk);have CV:=hdq (fun W (hW:Touch [] w1 W)=>(BB.o.touch hW).La (s:=2) (6+(4*n+3)) (x.kW _ n hnk 3 (by omega)) ((BB.o.touch hW).oM n hnk) rfl (HQ.o n hnk).2 i);generalize hcn:x.BI[n].c=cn at HC CV;have FV:=hdq hcn;have BZ:=hdq (Touch.refl [] w1).drew;go_wp2_with fail
    refine hrq (S:=fun w'=>w'.cell? ⟨b4,0,none⟩=some (.pointer (some ⟨x.wb,0,none⟩))/\w'.cell? ⟨b5,0,none⟩=some (.int .i64 (n:Int))/\w'.cell? ⟨b6,0,none⟩=some (.int .i64 2)/\w'.cell? ⟨b7,0,none⟩=some (.int .i64 i)) fun hHeld=>?_;refine tkq 0 6 ?_;refine tkq 1 7 ?_;refine tkq 2 8 ?_;refine tkq 4 10 ?_;refine tkq 5 11 ?_;refine rdq 3 rfl fun K hK=>?_;go_simp;refine(HC.o _ BZ.o).mono ?_;rintro en w2 ⟨rfl,ht⟩;have HT1:=hdq (BZ.o.trans' ht);have HL2:=hdq (BB.o.touch HT1.o);obtain⟨⟨p0,q0,s0,i0⟩,z4,z5,z6,z7⟩:=HL2.o.bV;go_simp;refine kpq hK.o fun hHeld=>?_;refine rdq 6 rfl fun K hK=>?_;go_simp;refine(CV.o _ HT1.o).mono ?_;rintro en w3 ⟨y,b,rfl,hR,hL⟩;obtain rfl:=FV.o;rw[x.uV n hnk {x.BI[n]with es2:=if b=true then x.BI[n].es2.eraseIdx i.toNat else x.BI[n].es2} 3 (by omega) _ rfl rfl]at hL;have HR:=hdq hR;obtain⟨⟨p0,q0,s0,i0⟩,z4,z5,z6,z7⟩:=hL.bV;have BF:=hdq (BD.aB (a:=[]) (c:=[jm bf]) (b:=_++bV x (n:Int) 2 i b4 b5 b6 b7) (by rw[List.nil_append,List.append_assoc];exact hL));simp only[nAq,cAq,jm]at BF;obtain⟨⟨f0,f1,f2,f3,f4,f5,f6,f7⟩,⟨g0,g1,g2,g3,g4,g5,g6,g7⟩,zf,_,_⟩:=BF.o.dA 0 rfl;obtain⟨n4,n5,n6,n7⟩:=BF.o.uI;simp only[bB];go_simp;refine kpq hK.o fun hHeld=>?_;refine tkq 7 5 ?_;refine tkq 8 13 ?_;refine tkq 9 14 ?_;refine tkq 10 15 ?_;refine opq 11 fun hHeld=>?_;refine tkq 12 16 ?_;refine opq 13 fun hHeld=>?_;refine dnq ?_;have BH:=hdq ((((((((BF.o.set 0 rfl 0 (.int .i64 y.sync)).set 0 rfl 1 (.int .i64 y.thread)).set 0 rfl 2 (.int .i64 y.branch)).set 0 rfl 3 (.int .i64 y.flag)).set 0 rfl 4 (.int .i64 y.v.kind)).set 0 rfl 5 (.int .i64 y.v.num)).set 0 rfl 6 (.slice y.v.addr y.v.parts.length y.v.cap)).set 0 rfl 7 (.bool b));simp only[sZq,sAq,sSq]at BH;refine ax (Q:=Exit.then _ _) ?_;intro w4 hw4;have Ca:=hdq (BH.o.toW (by with_reducible exact hw4));obtain⟨⟨f0,f1,f2,f3,f4,f5,f6,f7⟩,⟨g0,g1,g2,g3,g4,g5,g6,g7⟩,zf,_,_⟩:=Ca.o.dA 0 rfl;have Db:=hdq ((((((((Ca.o.set 0 rfl 0 (.int .i64 y.sync)).set 0 rfl 1 (.int .i64 y.thread)).set 0 rfl 2 (.int .i64 y.branch)).set 0 rfl 3 (.int .i64 y.flag)).set 0 rfl 4 (.int .i64 y.v.kind)).set 0 rfl 5 (.int .i64 y.v.num)).set 0 rfl 6 (.slice y.v.addr y.v.parts.length y.v.cap)).set 0 rfl 7 (.bool b));simp only[sZq,sAq,sSq]at Db;go_wp2;refine aP ?_;intro w5 DC;have C8:=hdq (Db.o.toW DC);obtain⟨⟨f0,f1,f2,f3,f4,f5,f6,f7⟩,_,_⟩:=C8.o.dA 0 rfl;refine bodyPost_ret (v:=(aL.of y b).val) (by simp[results,results102,go_sem,f0,f1,f2,f3,f4,f5,f6,f7,aL.val,aL.of]) rfl ?_;exact⟨aL.of y b,0,_,.inr (.inr ⟨n,hnk,y,b,rfl,rfl,rfl,.inr ⟨rfl,HR.o,rfl⟩⟩),.inl ⟨rfl,rfl⟩,BD.aF (BD.aB (a:=[]) (b:=[_]) C8.o)⟩
  .have HC:=hdq (fun W (hW:Touch [] w1 W)=>(BB.o.touch hW).nL (HS.o _ ((BB.o.touch hW).still 2 rfl)) s hs k hk)
   have HK:Hid (¬(0<=k/\k<(x.BI.length:Int))/\(s=1\/s=2)):=⟨hk,hs⟩;have BZ:=hdq (Touch.refl [] w1).drew;go_wp2_with fail
   refine hrq (S:=fun w'=>w'.cell? ⟨b4,0,none⟩=some (.pointer (some ⟨x.wb,0,none⟩))/\w'.cell? ⟨b5,0,none⟩=some (.int .i64 k)/\w'.cell? ⟨b6,0,none⟩=some (.int .i64 s)/\w'.cell? ⟨b7,0,none⟩=some (.int .i64 i)) fun hHeld=>?_;refine tkq 0 6 ?_;refine tkq 1 7 ?_;refine tkq 2 8 ?_;refine tkq 4 10 ?_;refine tkq 5 11 ?_;refine rdq 3 rfl fun K hK=>?_;go_simp;refine(HC.o _ BZ.o).mono ?_;rintro en w2 ⟨rfl,ht⟩;dsimp only;have h2:=BB.o.touch (BZ.o.trans' ht);rw[<-List.append_assoc]at h2;exact⟨rfl,aL.zero,4,x,.inr (.inl ⟨HK.o.2,HK.o.1,rfl,rfl,rfl⟩),.inr ⟨rfl,rfl⟩,h2.aF⟩
 .have HC:=hdq (fun W (hW:Touch [] w1 W)=>(BB.o.touch hW).nR (HS.o _ ((BB.o.touch hW).still 2 rfl)) s hs k)
  have HK:Hid (¬(s=1\/s=2)):=hs;have BZ:=hdq (Touch.refl [] w1).drew;go_wp2_with fail
  refine hrq (S:=fun w'=>w'.cell? ⟨b4,0,none⟩=some (.pointer (some ⟨x.wb,0,none⟩))/\w'.cell? ⟨b5,0,none⟩=some (.int .i64 k)/\w'.cell? ⟨b6,0,none⟩=some (.int .i64 s)/\w'.cell? ⟨b7,0,none⟩=some (.int .i64 i)) fun hHeld=>?_;refine tkq 0 6 ?_;refine tkq 1 7 ?_;refine tkq 2 8 ?_;refine tkq 4 10 ?_;refine tkq 5 11 ?_;refine rdq 3 rfl fun K hK=>?_;go_simp;refine(HC.o _ BZ.o).mono ?_;rintro en w2 ⟨rfl,ht⟩;dsimp only;have h2:=BB.o.touch (BZ.o.trans' ht);rw[<-List.append_assoc]at h2;exact⟨rfl,aL.zero,2,x,.inl ⟨HK.o,rfl,rfl,rfl⟩,.inr ⟨rfl,rfl⟩,h2.aF⟩
theorem Drop_w(T:List Nat)(w:World)(x:WS)(k s i:Int)(h:BD T w w x.ts)(hS:∀W,x.P W->bJ W)(hq:∀n (hn:n<x.BI.length),x.BI[n].es1.length<=4096/\x.BI[n].es2.length<=4096):
  Calls prog 27 #[x.wb,k,s,i] w fun en w'=>∃(v:aL) (er:Int) (x':WS),en= .returned (.tuple #[v.ent,v.is,.int .i64 er])/\jN x k s i v er x'/\BD T w w' x'.ts:=by
 have Ep:= @mfq;have BG:=hdq h;go_enter func27,ntmps27
 go_wp2_with fail
 refine ah ?_;intro w1 hw1;have BB:=hdq ((((((BG.o.alloc 25 #[x.wb]).alloc 3 #[k]).alloc 41 #[s]).alloc 3 #[i]).alloc 47 #[(),(),(),(),(),(),True]).toW hw1);simp only[World.size_alloc,List.append_assoc,cAq,nAq]at BB;generalize Kj:w.heap.size+1+1+1+1=b8 at BB|-;generalize EF:w.heap.size+1+1+1=b7 at BB|-;generalize hb6:w.heap.size+1+1=b6 at BB|-;generalize hb5:w.heap.size+1=b5 at BB|-;generalize hb4:w.heap.size=b4 at BB|-;refine(jy T w w1 _ _ _ (fun v er l'=>∃x',jN x k s i v er x'/\l'=x'.ts++bV x k s i b4 b5 b6 b7++[dJ b8]) BB.o (enters_of func102 (by kernel_rfl) rfl) (fun T' W hW=>?_)).mono ?_
 .obtain⟨T2,hF,hb⟩:=BD.aN (m:=x.ts++bV x k s i b4 b5 b6 b7) (r:=[dJ b8]) (by rw[List.append_assoc];exact hW)
  refine(Mx T2 W x b4 b5 b6 b7 k s i hF hS hq).mono ?_;rintro en w' ⟨v,er,x',hx,he,hL⟩;exact⟨v,er,_,he,⟨x',hx,rfl⟩,hb _ _ hL⟩
 rintro en w2 ⟨v,er,l',rfl,⟨x',hx,rfl⟩,hL⟩;have HX:=hdq hx;have BF:=hdq hL;unfold aL.val;dsimp only;go_upto_region 2 with fail
 refine ay ?_;intro w3 hw3;have BH:=hdq (BD.aB (a:=[]) (b:=x'.ts++bV x k s i b4 b5 b6 b7) (c:=[dJ b8,box w2.heap.size 168 #[v.sync,v.thread,v.branch,v.flag,v.kind,v.num,.slice v.lA v.lN v.lC,v.is]]) (by simpa using(BF.o.DN hw3)));simp only[nAq,cAq,dJ]at BH;generalize FK:w2.heap.size=b9 at BH|-;obtain⟨e0,e1,e2,e3,e4,e5,e6,⟨ef0,ef1,ef2,ef3,ef4,ef5,ef6⟩,ze,_,_⟩:=BH.o.c7 0 rfl;obtain⟨⟨f0,f1,f2,f3,f4,f5,f6,f7⟩,⟨g0,g1,g2,g3,g4,g5,g6,g7⟩,zf,_,_⟩:=BH.o.dA 1 rfl;have hne:=BH.o.ne 0 1 rfl rfl (by decide);have hne':=Ne.symm hne;go_wp2_with fail
 refine hrq (S:=fun w'=>w'.cell? ⟨b9,0,none⟩=some (.int .i64 v.sync)/\w'.cell? ⟨b9,1,none⟩=some (.int .i64 v.thread)/\w'.cell? ⟨b9,2,none⟩=some (.int .i64 v.branch)/\w'.cell? ⟨b9,3,none⟩=some (.int .i64 v.flag)/\w'.cell? ⟨b9,4,none⟩=some (.int .i64 v.kind)/\w'.cell? ⟨b9,5,none⟩=some (.int .i64 v.num)/\w'.cell? ⟨b9,6,none⟩=some (.slice v.lA v.lN v.lC)/\w'.cell? ⟨b9,7,none⟩=some (.bool v.is)) fun hHeld=>?_;refine tkq 0 18 ?_;refine tkq 1 19 ?_;refine tkq 2 20 ?_;refine tkq 3 21 ?_;refine tkq 4 22 ?_;refine opq 5 fun hHeld=>?_;refine tkq 6 9 ?_;refine tkq 7 10 ?_;refine dnq ?_;have Ca:=hdq (((((((BH.o.set 0 rfl 0 (.int .i64 v.sync)).set 0 rfl 1 (.int .i64 v.thread)).set 0 rfl 2 (.int .i64 v.branch)).set 0 rfl 3 (.int .i64 v.flag)).set 0 rfl 4 (.int .i64 v.kind)).set 0 rfl 5 (.int .i64 v.num)).set 0 rfl 6 (.slice v.lA v.lN v.lC)).drew;simp only[sZq,sAq,sSq]at Ca;go_wp2;refine aP ?_;intro w5 DC;have C8:=hdq (Ca.o.toW DC);obtain⟨e0,e1,e2,e3,e4,e5,e6,_,ze,_,_⟩:=C8.o.c7 0 rfl;refine bodyPost_ret (v:= .tuple #[v.ent,v.is,.int .i64 er]) (by simp[results,results27,go_sem,e0,e1,e2,e3,e4,e5,e6,aL.ent]) rfl ?_;have hz:BD T w w5 (x'.ts++bV x k s i b4 b5 b6 b7++[_,_]):=BD.aB (a:=[]) (b:=[_,_]) C8.o;exact⟨v,er,x',rfl,HX.o,(BD.aF (BD.aF hz))⟩
end Go.Proofs.YtddnnapoaonmjaaGreatDoor
