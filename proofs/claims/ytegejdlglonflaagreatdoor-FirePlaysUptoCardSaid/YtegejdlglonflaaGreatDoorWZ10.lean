/-
  Texts of FirePlays, laid together by program.
-/
import Derived.Test.YtegejdlglonflaaGreatDoorWZ9
namespace Go.Proofs.YtegejdlglonflaaGreatDoor
open Go.RowKit Go.Shelf Go.Proofs.Tryz
set_option maxRecDepth 100000
set_option maxHeartbeats 8000000
set_option linter.unusedVariables false
set_option linter.unusedSimpArgs false
theorem W.twice{P:Program}{c:Code}{Q:Exit->Act->LG->Prop}{a:Act}{M:LG}(h:W P c (acf (W P c (acf (fun _ _=>False) Q)) Q) a M):W P (.loop c) Q a M:=by
 refine W.loop (fun n a' M'=>(n=1/\a'=a/\M'=M)\/(n=0/\W P c (acf (fun _ _=>False) Q) a' M')) 1 (.inl ⟨rfl,rfl,rfl⟩) ?_;rintro n a' M' (⟨rfl,rfl,rfl⟩|⟨rfl,h2⟩)
 .exact h.mono fun e a2 M2 q=>by
   cases e<;>first |exact q|exact⟨0,by omega,.inr ⟨rfl,q⟩⟩
 .exact h2.mono fun e a2 M2 q=>by
   cases e<;>first |exact q|exact q.elim
theorem bqn{P:Program}{fn:Func}{k:Nat}{R:Ending->LG->Prop}{a:Act}{M Y:LG}(h:R (.returned (.tuple #[])) Y)(hd:a.defers=[]:=by rfl)(hr:fn.results=#[]:=by rfl)(hY:M.take k=Y:=by rfl)(hk:Y.length=k:=by rfl):BQ P fn k R .normal a M:=
 ⟨hd,_,Y,fun T w0 w hl=>⟨results_none hr _ _ _,hY▸acE k hl⟩,hk,h⟩
theorem ad8(b:Nat):aai prog 248 #[.slice (some ⟨b,0,none⟩) 1 1] [[box b 67 #[()]]] (xq (fun _:Unit=>True) (fun _=> .tuple #[]) fun _=>[[box b 67 #[()]]]):=by
 refine aai.go func248 ntmps248 ?_;refine go ?_;refine W.twice ?_;refine go ?_;exact bqn ⟨(),trivial,rfl,rfl⟩
theorem agn{α:Type}{H:α->Prop}{v:α->Bool}{g1 g2 g3 g4:List ai}{y1 y2 y3 y4:α->List ai}{D:FuncId}{caps:Array Value}(hen:∀args w,(callFunc D args).run prog w= .ok (.enter D args) w)(hd:aai prog D caps [g1,g2,g3,g4] (xq H (fun x=> .tuple #[.bool (v x),()]) fun x=>[y1 x,y2 x,y3 x,y4 x])):
  aai prog 246 #[.func (.func D) #[] caps] [g1,g2,g3,g4] (xq H (fun x=> .bool (v x)) fun x=>[y1 x,y2 x,y3 x,y4 x]):=by
 refine aai.go func246 ntmps246 ?_;refine go ?_;refine cr hd fun x hx=>?_;refine go ?_;refine mbq (hal:=by intro w;go_simp;exact⟨rfl,rfl⟩) fun b=>?_;refine cr (ad8 b) fun _ _=>?_;refine go ?_;refine W.abg ?_;exact⟨x,hx,rfl,rfl⟩
theorem afn{α:Type}{H:α->Prop}{v:α->Int}{g1 g2 g3 g4:List ai}{y1 y2 y3 y4:α->List ai}{D:FuncId}{caps:Array Value}(hen:∀args w,(callFunc D args).run prog w= .ok (.enter D args) w)(hd:aai prog D caps [g1,g2,g3,g4] (xq H (fun x=> .tuple #[.int .i64 (v x),()]) fun x=>[y1 x,y2 x,y3 x,y4 x])):
  aai prog 251 #[.func (.func D) #[] caps] [g1,g2,g3,g4] (xq H (fun x=> .int .i64 (v x)) fun x=>[y1 x,y2 x,y3 x,y4 x]):=by
 refine aai.go func251 ntmps251 ?_;refine go ?_;refine cr hd fun x hx=>?_;refine go ?_;refine mbq (hal:=by intro w;go_simp;exact⟨rfl,rfl⟩) fun b=>?_;refine cr (ad8 b) fun _ _=>?_;refine go ?_;refine W.abg ?_;exact⟨x,hx,rfl,rfl⟩
theorem agc{α:Type}{H:α->Prop}{v:α->ME}{g1 g2 g3 g4 g5:List ai}{y1 y2 y3 y4 y5:α->List ai}{D:FuncId}{caps:Array Value}(hen:∀args w,(callFunc D args).run prog w= .ok (.enter D args) w)(hd:aai prog D caps [g1,g2,g3,g4,g5] (xq H (fun x=> .tuple #[.agg #[.int .i64 (v x).sync,.int .i64 (v x).thread,.int .i64 (v x).branch,.int .i64 (v x).flag,.int .i64 (v x).v.kind,.int .i64 (v x).v.num,.slice (v x).v.addr (v x).v.parts.length (v x).v.cap],()]) fun x=>[y1 x,y2 x,y3 x,y4 x,y5 x])):
  aai prog 249 #[.func (.func D) #[] caps] [g1,g2,g3,g4,g5] (xq H (fun x=> .agg #[.int .i64 (v x).sync,.int .i64 (v x).thread,.int .i64 (v x).branch,.int .i64 (v x).flag,.int .i64 (v x).v.kind,.int .i64 (v x).v.num,.slice (v x).v.addr (v x).v.parts.length (v x).v.cap]) fun x=>[y1 x,y2 x,y3 x,y4 x,y5 x]):=by
 refine aai.go func249 ntmps249 ?_;refine go1 fun _=>?_;refine cr hd fun x hx=>?_;refine go1 fun _=>?_;refine mbq (hal:=by intro w;go_simp;exact⟨rfl,rfl⟩) fun b=>?_;refine cr (ad8 b) fun _ _=>?_;refine go ?_;refine W.abg ?_;exact⟨x,hx,rfl,rfl⟩
abbrev zo(f:Nat)(e:ME)(at_ c:Int):ai:=box f 97 #[e.sync,e.thread,e.branch,e.flag,e.v.kind,e.v.num,.slice e.v.addr e.v.parts.length e.v.cap,at_,c]
abbrev mvV(k s p c:Int):Value:= .agg #[k,s,p,c]
theorem mkF(fn:Fn)(first cap:Array Value)(w:World):(Instr.makeFunc fn first cap).run prog w= .ok (.func fn first cap) w:=rfl
abbrev wbB(b wb:Nat):List ai:=[box b 48 #[wb]]
abbrev fbB(b f:Nat):List ai:=[box b 66 #[f]]
theorem agh{α:Type}{H:α->Prop}{m:List ai}{m1:α->List ai}{f wb:Nat}{e:ME}{at_ c:Int}{v:Bool}{b2 b3:Nat}(hC:aai prog 18 #[wb,c] [m] (xq H (fun _=> .tuple #[v,()]) fun x=>[m1 x])):
  aai prog 247 #[b3,b2] [wbB b3 wb,fbB b2 f,[zo f e at_ c],m] (xq H (fun _=> .tuple #[v,()]) fun x=>[wbB b3 wb,fbB b2 f,[zo f e at_ c],m1 x]):=by
 refine aai.go func247 ntmps247 ?_;refine go ?_;refine W.rgd ?_;repeat (refine' rgk ?_;rotate_left)
 refine rgz 0 ?_ ?_;refine go ?_;refine cr hC fun x hx=>?_;refine go ?_;refine W.abg ?_;exact⟨x,hx,rfl,rfl⟩
 kernel_rfl
theorem aff{α:Type}{H:α->Prop}{m:List ai}{m1:α->List ai}{f wb:Nat}{e:ME}{at_ c:Int}{v:Int}{b2 b3:Nat}(hC:aai prog 144 #[wb,e.sync] [m] (xq H (fun _=> .tuple #[v,()]) fun x=>[m1 x])):
  aai prog 252 #[b3,b2] [wbB b3 wb,fbB b2 f,[zo f e at_ c],m] (xq H (fun _=> .tuple #[v,()]) fun x=>[wbB b3 wb,fbB b2 f,[zo f e at_ c],m1 x]):=by
 refine aai.go func252 ntmps252 ?_;refine go ?_;refine W.rgd ?_;repeat (refine' rgk ?_;rotate_left)
 refine rgz 0 ?_ ?_;refine go ?_;refine cr hC fun x hx=>?_;refine go ?_;refine W.abg ?_;exact⟨x,hx,rfl,rfl⟩
 kernel_rfl
theorem agu{α:Type}{H:α->Prop}{m:List ai}{m1:α->List ai}{f wb:Nat}{e:ME}{at_ c:Int}{v:Bool}(hC:aai prog 18 #[wb,c] [m] (xq H (fun _=> .tuple #[v,()]) fun x=>[m1 x])):
  aai prog 167 #[f,wb] [[zo f e at_ c],m] (xq H (fun _=>mvV (if v then 2 else 1) 0 0 0) fun x=>[[zo f e (if v then 2 else at_) c],m1 x]):=by
 have Ep:=mkF;refine aai.go func167 ntmps167 ?_;refine go3 fun b2 b3 b4=>?_;refine cr (agn (enters_of func247 (by kernel_rfl) rfl) (agh (f:=f) (e:=e) (at_:=at_) (c:=c) (b2:=b2) (b3:=b3) hC)) fun x hx=>?_;cases v
 .refine go ?_
  refine W.abg ?_;exact⟨x,hx,rfl,rfl⟩
 .refine go ?_
  refine W.abg ?_;exact⟨x,hx,rfl,rfl⟩
theorem agb{α:Type}{H:α->Prop}{m:List ai}{m1:α->List ai}{f wb:Nat}{e:ME}{at_ c:Int}(hC:aai prog 55 #[wb,c] [m] (xq H (fun _=> .int .i64 0) fun x=>[m1 x])):
  aai prog 168 #[f,wb] [[zo f e at_ c],m] (xq H (fun _=>mvV 4 0 0 c) fun x=>[[zo f e 3 c],m1 x]):=by
 refine aai.go func168 ntmps168 ?_;refine go1 fun _=>?_;refine cr hC fun x hx=>?_;refine go ?_;refine mbq (hal:=by intro w;go_simp;exact⟨rfl,rfl⟩) fun b=>?_;refine cr (ad8 b) fun _ _=>?_;refine go ?_;refine W.abg ?_;exact⟨x,hx,rfl,rfl⟩
theorem agL{α:Type}{H:α->Prop}{m:List ai}{m1:α->List ai}{f wb:Nat}{e:ME}{at_ c:Int}(hC:aai prog 165 #[wb,e.sync] [m] (xq H (fun _=> .int .i64 0) fun x=>[m1 x])):
  aai prog 171 #[f,wb] [[zo f e at_ c],m] (xq H (fun _=>mvV 2 0 0 0) fun x=>[[zo f ME.zero 3 c],m1 x]):=by
 refine aai.go func171 ntmps171 ?_;refine go1 fun _=>?_;refine cr hC fun x hx=>?_;refine go ?_;refine mbq (hal:=by intro w;go_simp;exact⟨rfl,rfl⟩) fun b=>?_;refine cr (ad8 b) fun _ _=>?_;refine go ?_;refine W.abg ?_;exact⟨x,hx,rfl,rfl⟩
theorem agO{α:Type}{H:α->Prop}{m:List ai}{m1:α->List ai}{f wb:Nat}{e:ME}{at_ c:Int}(hC:aai prog 254 #[wb,c] [m] (xq H (fun _=> .int .i64 0) fun x=>[m1 x])):
  aai prog 172 #[f,wb] [[zo f e at_ c],m] (xq H (fun _=>mvV 2 0 0 0) fun x=>[[zo f e 7 c],m1 x]):=by
 refine aai.go func172 ntmps172 ?_;refine go1 fun _=>?_;refine cr hC fun x hx=>?_;refine go ?_;refine mbq (hal:=by intro w;go_simp;exact⟨rfl,rfl⟩) fun b=>?_;refine cr (ad8 b) fun _ _=>?_;refine go ?_;refine W.abg ?_;exact⟨x,hx,rfl,rfl⟩
theorem af5{α:Type}{H:α->Prop}{m:List ai}{m1:α->List ai}{f wb:Nat}{e:ME}{at_ c:Int}{y:α->ME}{v:Bool}{b2 b3 b5:Nat}(hC:aai prog 17 #[wb,c] [m] (xq H (fun x=> .tuple #[.agg #[.int .i64 (y x).sync,.int .i64 (y x).thread,.int .i64 (y x).branch,.int .i64 (y x).flag,.int .i64 (y x).v.kind,.int .i64 (y x).v.num,.slice (y x).v.addr (y x).v.parts.length (y x).v.cap],v,()]) fun x=>[m1 x])):
  aai prog 250 #[b3,b2,b5] [wbB b3 wb,fbB b2 f,[zo f e at_ c],[box b5 4 #[false]],m] (xq H (fun x=> .tuple #[.agg #[.int .i64 (y x).sync,.int .i64 (y x).thread,.int .i64 (y x).branch,.int .i64 (y x).flag,.int .i64 (y x).v.kind,.int .i64 (y x).v.num,.slice (y x).v.addr (y x).v.parts.length (y x).v.cap],()]) fun x=>[wbB b3 wb,fbB b2 f,[zo f e at_ c],[box b5 4 #[v]],m1 x]):=by
 refine aai.go func250 ntmps250 ?_;refine go1 fun _=>?_;refine W.rgd ?_;repeat (refine' rgk ?_;rotate_left)
 refine rgz 0 ?_ ?_;refine go ?_;refine cr hC fun x hx=>?_;refine go ?_;refine W.abg ?_;exact⟨x,hx,rfl,rfl⟩
 kernel_rfl
theorem afp{α:Type}{H:α->Prop}{m:List ai}{m1:α->List ai}{f wb:Nat}{e:ME}{at_ c:Int}{y:α->ME}{v:Bool}(hC:aai prog 17 #[wb,c] [m] (xq H (fun x=> .tuple #[.agg #[.int .i64 (y x).sync,.int .i64 (y x).thread,.int .i64 (y x).branch,.int .i64 (y x).flag,.int .i64 (y x).v.kind,.int .i64 (y x).v.num,.slice (y x).v.addr (y x).v.parts.length (y x).v.cap],v,()]) fun x=>[m1 x])):
  aai prog 169 #[f,wb] [[zo f e at_ c],m] (xq H (fun _=>mvV 2 0 0 0) fun x=>[[zo f (if v then y x else e) (if v then 4 else 6) c],m1 x]):=by
 have Ep:=mkF;refine aai.go func169 ntmps169 ?_;refine go4 fun b2 b3 b4 b5=>?_;refine cr (agc (enters_of func250 (by kernel_rfl) rfl) (af5 (f:=f) (e:=e) (at_:=at_) (b2:=b2) (b3:=b3) (b5:=b5) hC)) fun x hx=>?_;refine go1 fun _=>?_;cases v
 .refine go ?_
  refine W.abg ?_;exact⟨x,hx,rfl,rfl⟩
 .refine go ?_
  refine W.rgd ?_;repeat (refine' rgk ?_;rotate_left)
  refine rgz 0 ?_ ?_;refine go ?_;refine W.abg ?_;exact⟨x,hx,rfl,rfl⟩
  kernel_rfl
theorem ah1{α:Type}{H:α->Prop}{m:List ai}{m1:α->List ai}{f wb:Nat}{e:ME}{at_ c:Int}(hC:aai prog 144 #[wb,e.sync] [m] (xq H (fun _=> .tuple #[(1:Int),()]) fun x=>[m1 x])):
  aai prog 170 #[f,wb] [[zo f e at_ c],m] (xq H (fun _=>mvV 1 0 0 0) fun x=>[[zo f e at_ c],m1 x]):=by
 have Ep:=mkF;refine aai.go func170 ntmps170 ?_;refine go3 fun b2 b3 b4=>?_;refine cr (afn (enters_of func252 (by kernel_rfl) rfl) (aff (f:=f) (e:=e) (at_:=at_) (c:=c) (b2:=b2) (b3:=b3) hC)) fun x hx=>?_;refine go ?_;refine W.abg ?_;exact⟨x,hx,rfl,rfl⟩
theorem af0{α:Type}{H:α->Prop}{m:List ai}{m1:α->List ai}{f wb:Nat}{e:ME}{at_ c:Int}(hC:aai prog 144 #[wb,e.sync] [m] (xq H (fun _=> .tuple #[(2:Int),()]) fun x=>[m1 x])):
  aai prog 170 #[f,wb] [[zo f e at_ c],m] (xq H (fun _=>mvV 2 0 0 0) fun x=>[[zo f ME.zero 3 c],m1 x]):=by
 have Ep:=mkF;refine aai.go func170 ntmps170 ?_;refine go3 fun b2 b3 b4=>?_;refine cr (afn (enters_of func252 (by kernel_rfl) rfl) (aff (f:=f) (e:=e) (at_:=at_) (c:=c) (b2:=b2) (b3:=b3) hC)) fun x hx=>?_;refine go ?_;refine W.rgd ?_;repeat (refine' rgk ?_;rotate_left)
 refine rgz 0 ?_ ?_;refine go ?_;refine W.abg ?_;exact⟨x,hx,rfl,rfl⟩
 kernel_rfl
theorem agH:aai prog 253 #[] [] (xq (fun _:Unit=>True) (fun _=> .agg #[(1:Int),(),True]) fun _=>[]):=by
 refine aai.go func253 ntmps253 ?_;refine go1 fun _=>?_;refine W.abg ?_;exact⟨(),trivial,rfl,rfl⟩
theorem af6{α:Type}{H:α->Prop}{m:List ai}{m1:α->List ai}{f wb:Nat}{e:ME}{at_ c:Int}(hC:aai prog 144 #[wb,e.sync] [m] (xq H (fun _=> .tuple #[(),()]) fun x=>[m1 x])){β:Type}{H2:α->β->Prop}{m2:α->β->List ai}(hM:∀x,H x->aai prog 145 #[wb,e.sync,e.branch,.agg #[(1:Int),(),True],.int .i64 (-1)] [m1 x] (xq (H2 x) (fun _=> .int .i64 0) fun z=>[m2 x z])):
  aai prog 170 #[f,wb] [[zo f e at_ c],m] (xq (fun p:α×β=>H p.1/\H2 p.1 p.2) (fun _=>mvV 3 e.sync (-1) 0) fun p=>[[zo f e 5 c],m2 p.1 p.2]):=by
 have Ep:=mkF;refine aai.go func170 ntmps170 ?_;refine go3 fun b2 b3 b4=>?_;refine cr (afn (enters_of func252 (by kernel_rfl) rfl) (aff (f:=f) (e:=e) (at_:=at_) (c:=c) (b2:=b2) (b3:=b3) hC)) fun x hx=>?_;refine go ?_;refine W.rgd ?_;repeat (refine' rgk ?_;rotate_left)
 refine rgz 0 ?_ ?_;refine go ?_;refine cr agH fun _ _=>?_;refine go ?_;refine cr (hM x hx) fun z hz=>?_;refine go ?_;refine mbq (hal:=by intro w;go_simp;exact⟨rfl,rfl⟩) fun b=>?_;refine cr (ad8 b) fun _ _=>?_;refine go ?_;refine W.abg ?_;exact⟨(x,z),⟨hx,hz⟩,rfl,rfl⟩
 kernel_rfl
end Go.Proofs.YtegejdlglonflaaGreatDoor
