/-
  Texts of WorldCopies, laid together by program.
-/
import Derived.Test.YtddnnapoaonmjaaGreatDoorWZ26
namespace Go.Proofs.YtddnnapoaonmjaaGreatDoor
open Go.RowKit Go.Shelf Go.Proofs.Tryz
set_option maxRecDepth 100000
set_option maxHeartbeats 8000000
set_option linter.unusedVariables false
set_option linter.unusedSimpArgs false
theorem zX(wb:Nat)(v:RV)(x:BO)(m:List ai)(R:RV->Int->Int->Int->Int->List ai->Prop)(hw:x.what=15)(Da:Does 163 #[v.val,x.a] m fun e m1=>∃(o:RV) (got:Int) (no:Int),e= .returned (.tuple #[o.val,got,no])/\Does 35 #[wb,x.a] m1 fun e' m2=>∃(k:Int) (er:Int),e'= .returned (.tuple #[k,er])/\R o got no k er m2):
  Does 63 #[wb,v.val,x.vl] m (Al R):=by
 refine Pm ?_;simp only[RV.val,BO.vl,bB]at Da|-;rw[hw];clear hw;refine aai.go func63 ntmps63 ?_;exact acQ
theorem vN(wb:Nat)(v:RV)(x:BO)(m:List ai)(R:RV->Int->Int->List ai->Prop)(hw:x.what=16)(Da:Does 164 #[v.val,x.a] m fun e m1=>∃(o:RV) (no:Int),e= .returned (.tuple #[o.val,no])/\Does 36 #[wb,x.a] m1 fun e' m2=>∃(er:Int),e'= .returned (.int .i64 er)/\R o no er m2):
  Does 63 #[wb,v.val,x.vl] m (tJ R):=by
 refine Pm ?_;simp only[RV.val,BO.vl,bB]at Da|-;rw[hw];clear hw;refine aai.go func63 ntmps63 ?_;exact acu
theorem Kq(wb:Nat)(v:RV)(x:BO)(m:List ai)(R:RV->Int->Int->Int->Int->List ai->Prop)(hw:x.what=17)(Da:Does 165 #[v.val,x.a] m fun e m1=>∃(o:RV) (got:Int) (no:Int),e= .returned (.tuple #[o.val,got,no])/\Does 37 #[wb,x.a] m1 fun e' m2=>∃(k:Int) (er:Int),e'= .returned (.tuple #[k,er])/\R o got no k er m2):
  Does 63 #[wb,v.val,x.vl] m (Al R):=by
 refine Pm ?_;simp only[RV.val,BO.vl,bB]at Da|-;rw[hw];clear hw;refine aai.go func63 ntmps63 ?_;exact acQ
theorem yH(wb:Nat)(v:RV)(x:BO)(m:List ai)(R:RV->Int->Int->List ai->Prop)(hw:x.what=18)(Da:Does 166 #[v.val,x.a] m fun e m1=>∃(o:RV) (no:Int),e= .returned (.tuple #[o.val,no])/\Does 38 #[wb,x.a] m1 fun e' m2=>∃(er:Int),e'= .returned (.int .i64 er)/\R o no er m2):
  Does 63 #[wb,v.val,x.vl] m (tJ R):=by
 refine Pm ?_;simp only[RV.val,BO.vl,bB]at Da|-;rw[hw];clear hw;refine aai.go func63 ntmps63 ?_;exact acu
theorem Iq(wb:Nat)(v:RV)(x:BO)(m:List ai)(R:RV->Int->Int->Int->Int->List ai->Prop)(hw:x.what=19)(Da:Does 167 #[v.val,x.a] m fun e m1=>∃(o:RV) (got:Int) (no:Int),e= .returned (.tuple #[o.val,got,no])/\Does 39 #[wb,x.a] m1 fun e' m2=>∃(k:Int) (er:Int),e'= .returned (.tuple #[k,er])/\R o got no k er m2):
  Does 63 #[wb,v.val,x.vl] m (Al R):=by
 refine Pm ?_;simp only[RV.val,BO.vl,bB]at Da|-;rw[hw];clear hw;refine aai.go func63 ntmps63 ?_;exact acQ
theorem yL(wb:Nat)(v:RV)(x:BO)(m:List ai)(R:RV->Int->Int->List ai->Prop)(hw:x.what=20)(Da:Does 168 #[v.val,x.a,x.b,.agg #[x.v.kind,x.v.num,.slice x.v.addr x.v.parts.length x.v.cap],x.c] m fun e m1=>∃(o:RV) (no:Int),e= .returned (.tuple #[o.val,no])/\Does 40 #[wb,x.a,x.b,.agg #[x.v.kind,x.v.num,.slice x.v.addr x.v.parts.length x.v.cap],x.c] m1 fun e' m2=>∃(er:Int),e'= .returned (.int .i64 er)/\R o no er m2):
  Does 63 #[wb,v.val,x.vl] m (tJ R):=by
 refine Pm ?_;simp only[RV.val,BO.vl,bB]at Da|-;rw[hw];clear hw;refine aai.go func63 ntmps63 ?_;exact acu
theorem KF(wb:Nat)(v:RV)(x:BO)(m:List ai)(R:RV->Bool->Int->Bool->Int->List ai->Prop)(hw:x.what=21)(Da:Does 169 #[v.val,x.a] m fun e m1=>∃(o:RV) (got:Bool) (no:Int),e= .returned (.tuple #[o.val,got,no])/\Does 41 #[wb,x.a] m1 fun e' m2=>∃(k:Bool) (er:Int),e'= .returned (.tuple #[k,er])/\R o got no k er m2):
  Does 63 #[wb,v.val,x.vl] m (M4 R):=by
 refine Pm ?_;simp only[RV.val,BO.vl,bB]at Da|-;rw[hw];clear hw;refine aai.go func63 ntmps63 ?_;exact adb
theorem J5(wb:Nat)(v:RV)(x:BO)(m:List ai)(R:RV->Int->Int->List ai->Prop)(hw:x.what=22)(Da:Does 170 #[v.val,x.a] m fun e m1=>∃(o:RV) (no:Int),e= .returned (.tuple #[o.val,no])/\Does 42 #[wb,x.a] m1 fun e' m2=>∃(er:Int),e'= .returned (.int .i64 er)/\R o no er m2):
  Does 63 #[wb,v.val,x.vl] m (tJ R):=by
 refine Pm ?_;simp only[RV.val,BO.vl,bB]at Da|-;rw[hw];clear hw;refine aai.go func63 ntmps63 ?_;exact acu
theorem AQ(wb:Nat)(v:RV)(x:BO)(m:List ai)(R:ME->Int->ME->Int->List ai->Prop)(hw:x.what=23)(Da:Does 171 #[v.val,x.a,x.b] m fun e m1=>∃(a:ME) (no:Int),e= .returned (.tuple #[a.val,no])/\Does 43 #[wb,x.a,x.b] m1 fun e' m2=>∃(b:ME) (er:Int),e'= .returned (.tuple #[b.val,er])/\(∃(i:Nat) (P:World->Prop),m2[i]? =some (aA P)/\∀W,P W->(a.v.In W/\a.v.nodes<=1048576)/\(b.v.In W/\b.v.nodes<=1048576))/\R a no b er m2):
  Does 63 #[wb,v.val,x.vl] m (ArmN v R):=by
 refine Pm ?_;simp only[RV.val,BO.vl,bB]at Da|-;rw[hw];clear hw;refine aai.go func63 ntmps63 ?_;exact armN
theorem tN(wb:Nat)(v:RV)(x:BO)(m:List ai)(R:RV->Bool->Int->Bool->Int->List ai->Prop)(hw:x.what=9)(Da:Does 157 #[v.val,x.a] m fun e m1=>∃(o:RV) (got:Bool) (no:Int),e= .returned (.tuple #[o.val,got,no])/\Does 29 #[wb,x.a] m1 fun e' m2=>∃(k:Bool) (er:Int),e'= .returned (.tuple #[k,er])/\R o got no k er m2):
  Does 62 #[wb,v.val,x.vl] m (M4 R):=by
 refine Pm ?_;simp only[RV.val,BO.vl,bB]at Da|-;rw[hw];refine aai.go func62 ntmps62 ?_;exact adb
theorem qK(wb:Nat)(v:RV)(x:BO)(m:List ai)(R:RV->Int->Int->List ai->Prop)(hw:x.what=10)(Da:Does 158 #[v.val,x.a] m fun e m1=>∃(o:RV) (no:Int),e= .returned (.tuple #[o.val,no])/\Does 30 #[wb,x.a] m1 fun e' m2=>∃(er:Int),e'= .returned (.int .i64 er)/\R o no er m2):
  Does 62 #[wb,v.val,x.vl] m (tJ R):=by
 refine Pm ?_;simp only[RV.val,BO.vl,bB]at Da|-;rw[hw];refine aai.go func62 ntmps62 ?_;exact acu
theorem AP(wb:Nat)(v:RV)(x:BO)(m:List ai)(R:RV->Bool->Int->Bool->Int->List ai->Prop)(hw:x.what=11)(Da:Does 159 #[v.val,x.a] m fun e m1=>∃(o:RV) (got:Bool) (no:Int),e= .returned (.tuple #[o.val,got,no])/\Does 31 #[wb,x.a] m1 fun e' m2=>∃(k:Bool) (er:Int),e'= .returned (.tuple #[k,er])/\R o got no k er m2):
  Does 62 #[wb,v.val,x.vl] m (M4 R):=by
 refine Pm ?_;simp only[RV.val,BO.vl,bB]at Da|-;rw[hw];refine aai.go func62 ntmps62 ?_;exact adb
theorem JL(wb:Nat)(v:RV)(x:BO)(m:List ai)(R:RV->Int->Int->List ai->Prop)(hw:x.what=12)(Da:Does 160 #[v.val,x.a] m fun e m1=>∃(o:RV) (no:Int),e= .returned (.tuple #[o.val,no])/\Does 32 #[wb,x.a] m1 fun e' m2=>∃(er:Int),e'= .returned (.int .i64 er)/\R o no er m2):
  Does 62 #[wb,v.val,x.vl] m (tJ R):=by
 refine Pm ?_;simp only[RV.val,BO.vl,bB]at Da|-;rw[hw];refine aai.go func62 ntmps62 ?_;exact acu
theorem Lb(wb:Nat)(v:RV)(x:BO)(m:List ai)(R:RV->Int->Int->List ai->Prop)(hw:x.what=13)(Da:Does 161 #[v.val,x.a,x.e.val] m fun e m1=>∃(o:RV) (no:Int),e= .returned (.tuple #[o.val,no])/\Does 33 #[wb,x.a,x.e.val] m1 fun e' m2=>∃(er:Int),e'= .returned (.int .i64 er)/\R o no er m2):
  Does 62 #[wb,v.val,x.vl] m (tJ R):=by
 refine Pm ?_;simp only[RV.val,BO.vl,bB]at Da|-;rw[hw];refine aai.go func62 ntmps62 ?_;exact acu
theorem JI(wb:Nat)(v:RV)(x:BO)(m:List ai)(R:RV->ME->Bool->Int->ME->Bool->Int->List ai->Prop)(hw:x.what=14)(Da:Does 162 #[v.val,x.a] m fun e m1=>∃(o:RV) (a:ME) (got:Bool) (no:Int),e= .returned (.tuple #[o.val,a.val,got,no])/\Does 34 #[wb,x.a] m1 fun e' m2=>∃(b:ME) (k:Bool) (er:Int),e'= .returned (.tuple #[b.val,k,er])/\(∃(i:Nat) (P:World->Prop),m2[i]? =some (aA P)/\∀W,P W->(a.v.In W/\a.v.nodes<=1048576)/\(b.v.In W/\b.v.nodes<=1048576))/\R o a got no b k er m2):
  Does 62 #[wb,v.val,x.vl] m (ArmC R):=by
 refine Pm ?_;simp only[RV.val,BO.vl,bB]at Da|-;rw[hw];refine aai.go func62 ntmps62 ?_;exact armC
end Go.Proofs.YtddnnapoaonmjaaGreatDoor
