/-
  Texts of FirePlays, laid together by program.
-/
import Derived.Test.YtegejdlglonflaaGreatDoorWZ10
import Derived.WalkSmall
namespace Go.Proofs.YtegejdlglonflaaGreatDoor
open Go.RowKit Go.Shelf Go.Proofs.Tryz
set_option maxRecDepth 100000
set_option maxHeartbeats 8000000
set_option linter.unusedVariables false
set_option linter.unusedSimpArgs false
theorem adx:aai prog 68 #[] [] (xq (fun _:Unit=>True) (fun _=> .agg #[.nilFunc,.func (.func 167) #[] #[],.func (.func 168) #[] #[],.func (.func 169) #[] #[],.func (.func 170) #[] #[],.func (.func 171) #[] #[],.func (.func 172) #[] #[],.nilFunc]) fun _=>[]):=by
 refine aai.go func68 ntmps68 ?_;refine go1 fun _=>?_;refine W.abg ?_;exact⟨(),trivial,rfl,rfl⟩
theorem adA(f:Nat)(e:ME)(at_ c:Int)(hb:(at_==0)=false):aai prog 67 #[f] [[zo f e at_ c]] (xq (fun _:Unit=>True) (fun _=> .bool false) fun _=>[[zo f e at_ c]]):=by
 refine aai.go func67 ntmps67 ?_;refine go ?_;refine W.abg ?_;exact⟨(),trivial,rfl,rfl⟩
theorem abQ{m:List ai}{wb:Nat}(hA:aai prog 165 #[wb,.int .i64 (-1)] [m] (xq (fun _:Unit=>True) (fun _=> .int .i64 4) fun _=>[m])):aai prog 65 #[wb] [m] (xq (fun _:Unit=>True) (fun _=> .bool false) fun _=>[m]):=by
 refine aai.go func65 ntmps65 ?_;refine go ?_;refine cr hA fun _ _=>?_;refine go ?_;refine W.abg ?_;exact⟨(),trivial,rfl,rfl⟩
theorem afx(f:Nat)(e:ME)(at_ c:Int)(hb:(at_==0)=false):aai prog 13 #[f] [[zo f e at_ c]] (xq (fun _:Unit=>True) (fun _=> .int .i64 at_) fun _=>[[zo f e at_ c]]):=by
 refine aai.go func13 ntmps13 ?_;refine go ?_;refine cr (adA f e at_ c hb) fun _ _=>?_;refine go ?_;refine W.abg ?_;exact⟨(),trivial,rfl,rfl⟩
theorem ad5(w:World)(p q r s:Addr):CallsD prog 69 #[.pointer (some p),.pointer (some q),.pointer (some r),.pointer (some s)] .returning w fun e u' w'=>e= .returned (.tuple #[])/\u'= .returning/\w=w':=by
 refine callsD_of_wpS func69 rfl fun c₀ cs hu=>?_;apply wpS_seq
 apply wpS_region
 simp[wpOpsS,go_sem,recoverD,hu,ntmps69,Exit.thenS]
 apply wpS_seq
 apply wpS_region
 have hq:∀w,(binOp .neq 20 .nilIface .nilIface).run prog w= .ok (.bool false) w:=fun w=>by kernel_rfl
 simp[wpOpsS,go_sem,Exit.thenS,hq]
 refine wpS_cond (t:=false) (by simp[Act.eval,Array.replicate]) ?_;simp only[Bool.false_eq_true,if_false];refine wpS_of_wp (wp_skip ?_);cases c₀
 simp_all [bodyPostS,results,results69]
theorem ae9{α:Type}{H:α->Prop}{m:List ai}{m1:α->List ai}{k1 k2 k3 k4 a1 c1:α->Int}{e1:α->ME}{f wb:Nat}{e:ME}{c:Int}(hA:aai prog 165 #[wb,.int .i64 (-1)] [m] (xq (fun _:Unit=>True) (fun _=> .int .i64 4) fun _=>[m]))(hS:aai prog 167 #[f,wb] [[zo f e 1 c],m] (xq H (fun x=>mvV (k1 x) (k2 x) (k3 x) (k4 x)) fun x=>[[zo f (e1 x) (a1 x) (c1 x)],m1 x])):
  aai prog 14 #[f,wb] [[zo f e 1 c],m] (xq H (fun x=> .tuple #[mvV (k1 x) (k2 x) (k3 x) (k4 x),()]) fun x=>[[zo f (e1 x) (a1 x) (c1 x)],m1 x]):=by
 have Ep:=mkF;have hen:∀args w,(callFunc 167 args).run prog w= .ok (.enter 167 args) w:=enters_of func167 (by kernel_rfl) rfl;have hix:∀w,(Instr.index 148 (.agg #[.nilFunc,.func (.func 167) #[] #[],.func (.func 168) #[] #[],.func (.func 169) #[] #[],.func (.func 170) #[] #[],.func (.func 171) #[] #[],.func (.func 172) #[] #[],.nilFunc]) (.int .i64 1)).run prog w= .ok (.func (.func 167) #[] #[]) w:=fun w=>by kernel_rfl
 have hq2:∀w,(binOp .eql 147 (.func (.func 167) #[] #[]) .nilFunc).run prog w= .ok (.bool false) w:=fun w=>by kernel_rfl
 refine aai.goD func14 ntmps14 ?_;refine go3 fun b2 b4 b5=>?_;refine cr (adA f e 1 c rfl) fun _ _=>?_;refine go ?_;refine cr (abQ hA) fun _ _=>?_;refine go ?_;refine W.rgd ?_;repeat (refine' rgk ?_;rotate_left)
 refine rgz 0 ?_ ?_;refine go ?_;refine cr adx fun _ _=>?_;refine go1 fun b7=>?_;refine dfq ?_;refine go ?_;refine cr hS fun x hx=>?_;refine go ?_;refine W.afZ (.inr ⟨.func 69,#[.pointer (some ⟨b7,0,none⟩),.pointer (some ⟨b2,0,none⟩),.pointer (some ⟨b4,0,none⟩),.pointer (some ⟨b5,0,none⟩)],69,#[.pointer (some ⟨b7,0,none⟩),.pointer (some ⟨b2,0,none⟩),.pointer (some ⟨b4,0,none⟩),.pointer (some ⟨b5,0,none⟩)],rfl,fun w=>by kernel_rfl,fun w=>ad5 w _ _ _ _⟩) ?_;exact⟨x,hx,rfl,rfl⟩
 kernel_rfl
theorem aeV{α:Type}{H:α->Prop}{m:List ai}{m1:α->List ai}{k1 k2 k3 k4 a1 c1:α->Int}{e1:α->ME}{f wb:Nat}{e:ME}{c:Int}(hA:aai prog 165 #[wb,.int .i64 (-1)] [m] (xq (fun _:Unit=>True) (fun _=> .int .i64 4) fun _=>[m]))(hS:aai prog 168 #[f,wb] [[zo f e 2 c],m] (xq H (fun x=>mvV (k1 x) (k2 x) (k3 x) (k4 x)) fun x=>[[zo f (e1 x) (a1 x) (c1 x)],m1 x])):
  aai prog 14 #[f,wb] [[zo f e 2 c],m] (xq H (fun x=> .tuple #[mvV (k1 x) (k2 x) (k3 x) (k4 x),()]) fun x=>[[zo f (e1 x) (a1 x) (c1 x)],m1 x]):=by
 have Ep:=mkF;have hen:∀args w,(callFunc 168 args).run prog w= .ok (.enter 168 args) w:=enters_of func168 (by kernel_rfl) rfl;have hix:∀w,(Instr.index 148 (.agg #[.nilFunc,.func (.func 167) #[] #[],.func (.func 168) #[] #[],.func (.func 169) #[] #[],.func (.func 170) #[] #[],.func (.func 171) #[] #[],.func (.func 172) #[] #[],.nilFunc]) (.int .i64 2)).run prog w= .ok (.func (.func 168) #[] #[]) w:=fun w=>by kernel_rfl
 have hq2:∀w,(binOp .eql 147 (.func (.func 168) #[] #[]) .nilFunc).run prog w= .ok (.bool false) w:=fun w=>by kernel_rfl
 refine aai.goD func14 ntmps14 ?_;refine go3 fun b2 b4 b5=>?_;refine cr (adA f e 2 c rfl) fun _ _=>?_;refine go ?_;refine cr (abQ hA) fun _ _=>?_;refine go ?_;refine W.rgd ?_;repeat (refine' rgk ?_;rotate_left)
 refine rgz 0 ?_ ?_;refine go ?_;refine cr adx fun _ _=>?_;refine go1 fun b7=>?_;refine dfq ?_;refine go ?_;refine cr hS fun x hx=>?_;refine go ?_;refine W.afZ (.inr ⟨.func 69,#[.pointer (some ⟨b7,0,none⟩),.pointer (some ⟨b2,0,none⟩),.pointer (some ⟨b4,0,none⟩),.pointer (some ⟨b5,0,none⟩)],69,#[.pointer (some ⟨b7,0,none⟩),.pointer (some ⟨b2,0,none⟩),.pointer (some ⟨b4,0,none⟩),.pointer (some ⟨b5,0,none⟩)],rfl,fun w=>by kernel_rfl,fun w=>ad5 w _ _ _ _⟩) ?_;exact⟨x,hx,rfl,rfl⟩
 kernel_rfl
theorem aew{α:Type}{H:α->Prop}{m:List ai}{m1:α->List ai}{k1 k2 k3 k4 a1 c1:α->Int}{e1:α->ME}{f wb:Nat}{e:ME}{c:Int}(hA:aai prog 165 #[wb,.int .i64 (-1)] [m] (xq (fun _:Unit=>True) (fun _=> .int .i64 4) fun _=>[m]))(hS:aai prog 169 #[f,wb] [[zo f e 3 c],m] (xq H (fun x=>mvV (k1 x) (k2 x) (k3 x) (k4 x)) fun x=>[[zo f (e1 x) (a1 x) (c1 x)],m1 x])):
  aai prog 14 #[f,wb] [[zo f e 3 c],m] (xq H (fun x=> .tuple #[mvV (k1 x) (k2 x) (k3 x) (k4 x),()]) fun x=>[[zo f (e1 x) (a1 x) (c1 x)],m1 x]):=by
 have Ep:=mkF;have hen:∀args w,(callFunc 169 args).run prog w= .ok (.enter 169 args) w:=enters_of func169 (by kernel_rfl) rfl;have hix:∀w,(Instr.index 148 (.agg #[.nilFunc,.func (.func 167) #[] #[],.func (.func 168) #[] #[],.func (.func 169) #[] #[],.func (.func 170) #[] #[],.func (.func 171) #[] #[],.func (.func 172) #[] #[],.nilFunc]) (.int .i64 3)).run prog w= .ok (.func (.func 169) #[] #[]) w:=fun w=>by kernel_rfl
 have hq2:∀w,(binOp .eql 147 (.func (.func 169) #[] #[]) .nilFunc).run prog w= .ok (.bool false) w:=fun w=>by kernel_rfl
 refine aai.goD func14 ntmps14 ?_;refine go3 fun b2 b4 b5=>?_;refine cr (adA f e 3 c rfl) fun _ _=>?_;refine go ?_;refine cr (abQ hA) fun _ _=>?_;refine go ?_;refine W.rgd ?_;repeat (refine' rgk ?_;rotate_left)
 refine rgz 0 ?_ ?_;refine go ?_;refine cr adx fun _ _=>?_;refine go1 fun b7=>?_;refine dfq ?_;refine go ?_;refine cr hS fun x hx=>?_;refine go ?_;refine W.afZ (.inr ⟨.func 69,#[.pointer (some ⟨b7,0,none⟩),.pointer (some ⟨b2,0,none⟩),.pointer (some ⟨b4,0,none⟩),.pointer (some ⟨b5,0,none⟩)],69,#[.pointer (some ⟨b7,0,none⟩),.pointer (some ⟨b2,0,none⟩),.pointer (some ⟨b4,0,none⟩),.pointer (some ⟨b5,0,none⟩)],rfl,fun w=>by kernel_rfl,fun w=>ad5 w _ _ _ _⟩) ?_;exact⟨x,hx,rfl,rfl⟩
 kernel_rfl
theorem aez{α:Type}{H:α->Prop}{m:List ai}{m1:α->List ai}{k1 k2 k3 k4 a1 c1:α->Int}{e1:α->ME}{f wb:Nat}{e:ME}{c:Int}(hA:aai prog 165 #[wb,.int .i64 (-1)] [m] (xq (fun _:Unit=>True) (fun _=> .int .i64 4) fun _=>[m]))(hS:aai prog 170 #[f,wb] [[zo f e 4 c],m] (xq H (fun x=>mvV (k1 x) (k2 x) (k3 x) (k4 x)) fun x=>[[zo f (e1 x) (a1 x) (c1 x)],m1 x])):
  aai prog 14 #[f,wb] [[zo f e 4 c],m] (xq H (fun x=> .tuple #[mvV (k1 x) (k2 x) (k3 x) (k4 x),()]) fun x=>[[zo f (e1 x) (a1 x) (c1 x)],m1 x]):=by
 have Ep:=mkF;have hen:∀args w,(callFunc 170 args).run prog w= .ok (.enter 170 args) w:=enters_of func170 (by kernel_rfl) rfl;have hix:∀w,(Instr.index 148 (.agg #[.nilFunc,.func (.func 167) #[] #[],.func (.func 168) #[] #[],.func (.func 169) #[] #[],.func (.func 170) #[] #[],.func (.func 171) #[] #[],.func (.func 172) #[] #[],.nilFunc]) (.int .i64 4)).run prog w= .ok (.func (.func 170) #[] #[]) w:=fun w=>by kernel_rfl
 have hq2:∀w,(binOp .eql 147 (.func (.func 170) #[] #[]) .nilFunc).run prog w= .ok (.bool false) w:=fun w=>by kernel_rfl
 refine aai.goD func14 ntmps14 ?_;refine go3 fun b2 b4 b5=>?_;refine cr (adA f e 4 c rfl) fun _ _=>?_;refine go ?_;refine cr (abQ hA) fun _ _=>?_;refine go ?_;refine W.rgd ?_;repeat (refine' rgk ?_;rotate_left)
 refine rgz 0 ?_ ?_;refine go ?_;refine cr adx fun _ _=>?_;refine go1 fun b7=>?_;refine dfq ?_;refine go ?_;refine cr hS fun x hx=>?_;refine go ?_;refine W.afZ (.inr ⟨.func 69,#[.pointer (some ⟨b7,0,none⟩),.pointer (some ⟨b2,0,none⟩),.pointer (some ⟨b4,0,none⟩),.pointer (some ⟨b5,0,none⟩)],69,#[.pointer (some ⟨b7,0,none⟩),.pointer (some ⟨b2,0,none⟩),.pointer (some ⟨b4,0,none⟩),.pointer (some ⟨b5,0,none⟩)],rfl,fun w=>by kernel_rfl,fun w=>ad5 w _ _ _ _⟩) ?_;exact⟨x,hx,rfl,rfl⟩
 kernel_rfl
theorem ae7{α:Type}{H:α->Prop}{m:List ai}{m1:α->List ai}{k1 k2 k3 k4 a1 c1:α->Int}{e1:α->ME}{f wb:Nat}{e:ME}{c:Int}(hA:aai prog 165 #[wb,.int .i64 (-1)] [m] (xq (fun _:Unit=>True) (fun _=> .int .i64 4) fun _=>[m]))(hS:aai prog 171 #[f,wb] [[zo f e 5 c],m] (xq H (fun x=>mvV (k1 x) (k2 x) (k3 x) (k4 x)) fun x=>[[zo f (e1 x) (a1 x) (c1 x)],m1 x])):
  aai prog 14 #[f,wb] [[zo f e 5 c],m] (xq H (fun x=> .tuple #[mvV (k1 x) (k2 x) (k3 x) (k4 x),()]) fun x=>[[zo f (e1 x) (a1 x) (c1 x)],m1 x]):=by
 have Ep:=mkF;have hen:∀args w,(callFunc 171 args).run prog w= .ok (.enter 171 args) w:=enters_of func171 (by kernel_rfl) rfl;have hix:∀w,(Instr.index 148 (.agg #[.nilFunc,.func (.func 167) #[] #[],.func (.func 168) #[] #[],.func (.func 169) #[] #[],.func (.func 170) #[] #[],.func (.func 171) #[] #[],.func (.func 172) #[] #[],.nilFunc]) (.int .i64 5)).run prog w= .ok (.func (.func 171) #[] #[]) w:=fun w=>by kernel_rfl
 have hq2:∀w,(binOp .eql 147 (.func (.func 171) #[] #[]) .nilFunc).run prog w= .ok (.bool false) w:=fun w=>by kernel_rfl
 refine aai.goD func14 ntmps14 ?_;refine go3 fun b2 b4 b5=>?_;refine cr (adA f e 5 c rfl) fun _ _=>?_;refine go ?_;refine cr (abQ hA) fun _ _=>?_;refine go ?_;refine W.rgd ?_;repeat (refine' rgk ?_;rotate_left)
 refine rgz 0 ?_ ?_;refine go ?_;refine cr adx fun _ _=>?_;refine go1 fun b7=>?_;refine dfq ?_;refine go ?_;refine cr hS fun x hx=>?_;refine go ?_;refine W.afZ (.inr ⟨.func 69,#[.pointer (some ⟨b7,0,none⟩),.pointer (some ⟨b2,0,none⟩),.pointer (some ⟨b4,0,none⟩),.pointer (some ⟨b5,0,none⟩)],69,#[.pointer (some ⟨b7,0,none⟩),.pointer (some ⟨b2,0,none⟩),.pointer (some ⟨b4,0,none⟩),.pointer (some ⟨b5,0,none⟩)],rfl,fun w=>by kernel_rfl,fun w=>ad5 w _ _ _ _⟩) ?_;exact⟨x,hx,rfl,rfl⟩
 kernel_rfl
theorem ae6{α:Type}{H:α->Prop}{m:List ai}{m1:α->List ai}{k1 k2 k3 k4 a1 c1:α->Int}{e1:α->ME}{f wb:Nat}{e:ME}{c:Int}(hA:aai prog 165 #[wb,.int .i64 (-1)] [m] (xq (fun _:Unit=>True) (fun _=> .int .i64 4) fun _=>[m]))(hS:aai prog 172 #[f,wb] [[zo f e 6 c],m] (xq H (fun x=>mvV (k1 x) (k2 x) (k3 x) (k4 x)) fun x=>[[zo f (e1 x) (a1 x) (c1 x)],m1 x])):
  aai prog 14 #[f,wb] [[zo f e 6 c],m] (xq H (fun x=> .tuple #[mvV (k1 x) (k2 x) (k3 x) (k4 x),()]) fun x=>[[zo f (e1 x) (a1 x) (c1 x)],m1 x]):=by
 have Ep:=mkF;have hen:∀args w,(callFunc 172 args).run prog w= .ok (.enter 172 args) w:=enters_of func172 (by kernel_rfl) rfl;have hix:∀w,(Instr.index 148 (.agg #[.nilFunc,.func (.func 167) #[] #[],.func (.func 168) #[] #[],.func (.func 169) #[] #[],.func (.func 170) #[] #[],.func (.func 171) #[] #[],.func (.func 172) #[] #[],.nilFunc]) (.int .i64 6)).run prog w= .ok (.func (.func 172) #[] #[]) w:=fun w=>by kernel_rfl
 have hq2:∀w,(binOp .eql 147 (.func (.func 172) #[] #[]) .nilFunc).run prog w= .ok (.bool false) w:=fun w=>by kernel_rfl
 refine aai.goD func14 ntmps14 ?_;refine go3 fun b2 b4 b5=>?_;refine cr (adA f e 6 c rfl) fun _ _=>?_;refine go ?_;refine cr (abQ hA) fun _ _=>?_;refine go ?_;refine W.rgd ?_;repeat (refine' rgk ?_;rotate_left)
 refine rgz 0 ?_ ?_;refine go ?_;refine cr adx fun _ _=>?_;refine go1 fun b7=>?_;refine dfq ?_;refine go ?_;refine cr hS fun x hx=>?_;refine go ?_;refine W.afZ (.inr ⟨.func 69,#[.pointer (some ⟨b7,0,none⟩),.pointer (some ⟨b2,0,none⟩),.pointer (some ⟨b4,0,none⟩),.pointer (some ⟨b5,0,none⟩)],69,#[.pointer (some ⟨b7,0,none⟩),.pointer (some ⟨b2,0,none⟩),.pointer (some ⟨b4,0,none⟩),.pointer (some ⟨b5,0,none⟩)],rfl,fun w=>by kernel_rfl,fun w=>ad5 w _ _ _ _⟩) ?_;exact⟨x,hx,rfl,rfl⟩
 kernel_rfl
end Go.Proofs.YtegejdlglonflaaGreatDoor
