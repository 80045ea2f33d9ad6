/- A part of the proof that ModelWrong holds: its theorems stand as they are typed. -/
import Derived.Test.YtafmoofknjncpaaGreatDoorRows
import GoSem.ClaimGoes
import Derived.Test.YtafmoofknjncpaaGreatDoorZm
set_option linter.all false
set_option maxRecDepth 100000
set_option maxHeartbeats 8000000
namespace Go.Proofs.YtafmoofknjncpaaGreatDoor
open Go.Proofs.Tryz Go
set_option maxRecDepth 100000
theorem Ail:prog.funcs.any Func.goes=false:=by kernel_rfl
theorem An1 {P:Program} (h:P.funcs.any Func.goes=false) (f:FuncId):P.goes f=false:=by
 have h1:∀(g:Nat) (fn:Func),P.funcs[g]? =some fn->fn.goes=false:=fun g fn ar=>by
  have:=Array.any_eq_false.1 h g (Zbx.1 ar).1;rw[(Zbx.1 ar).2]at this;simpa using this
 unfold Program.goes;rw[h,Bool.and_false,Zcm,List.any_eq_false];intro g _;cases ar:P.funcs[g]? with
 | none=>simp
 | some fn=>simp[h1 g fn ar]
theorem Ad6 {P:Program} (h:P.funcs.any Func.goes=false) (n:String):P.goesFrom n=false:=by
 unfold Program.goesFrom;cases P.funcNamed n with
 | none=>rfl
 | some f=>simp[An1 h]
theorem Ai1 {P:Program} {c:OpenClaim} (h:P.funcs.any Func.goes=false) (b0:c.start=.entering):false=c.goesBy P:=by
 unfold OpenClaim.goesBy Program.goesAt;rw[b0,Ad6 h];rfl
theorem Akv:false=Rows.modelWrongRow.goesBy prog:=Ai1 Ail rfl
end Go.Proofs.YtafmoofknjncpaaGreatDoor
