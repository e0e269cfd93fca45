/- A part of a proof: an abstract machine for the given program, and what it says of it. No condition. -/
import Derived.Test.YtccahnafehfjlaaGreatPartD
open Go Go.E
namespace Go.Proofs.YtccahnafehfjlaaGreat
noncomputable def tab1 : CallF := addTab 17 [.v towns] (.int .i64 0, [.v towns]) (fun _ _ => none)
theorem tab1_ok : CallOK Cf tab1 := addTab_ok none_ok (evalF_ok (code_ok prim_collect) 60) check_towns
set_option maxRecDepth 1000000 in
theorem awake_true : evalT Cf tab1 60 8 [] = some (.bool true, []) := by kernel_rfl
/-- What is known: the examples hold. -/
noncomputable def tab2 : CallF := addTab 8 [] (.bool true, []) (fun _ _ => none)
theorem tab2_eq : tab2 8 [] = some (.bool true, []) := by kernel_rfl
theorem tab2_ok : CallOK Cf tab2 := addTab_ok none_ok (evalT_ok (code_ok prim_collect) tab1_ok 60) awake_true
end Go.Proofs.YtccahnafehfjlaaGreat
