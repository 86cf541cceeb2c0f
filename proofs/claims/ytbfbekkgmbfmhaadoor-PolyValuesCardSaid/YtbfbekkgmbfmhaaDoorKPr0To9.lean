import Derived.Test.YtbfbekkgmbfmhaaDoorProg
import Derived.Below
import Derived.Deep.Draws
import Derived.Deep.AppendLies
import Derived.Maps.AppendAt
import Derived.OwnWalk
import Derived.Laws.BytesArg
import Derived.Laws.MakeOwn
import Derived.Laws.OwnMore
import Derived.Deep.OwnRows
import Derived.Tactics
import Derived.Lib.ConvBytes
import Derived.Laws.Slices
import Derived.WalkKit
import Derived.KernelRfl
import Derived.RowKit3
import Derived.Deep.LoopGhost
import Derived.Deep.QuietTactic
import Derived.BigQuiet
import Derived.WideLaws
import Derived.Deep.DeepCutAuto
import Derived.Deep.CutBlock
import Derived.Deep.RegionHeld3
import Derived.Laws.Rows
import Derived.Lib.AppendStr
import Derived.ArgAppend
import Derived.Laws.IdiomCopy
import Derived.OrdersHeld
import Derived.Laws.BitsLemmas
import Derived.RowKit
import Derived.Test.YtbfbekkgmbfmhaaDoorKWWords
import Derived.Test.YtbfbekkgmbfmhaaDoorKWLast
import Derived.Test.YtbfbekkgmbfmhaaDoorKWTab
import Derived.Test.YtbfbekkgmbfmhaaDoorKWFourTo4
import Derived.Test.YtbfbekkgmbfmhaaDoorKWArrTo5
import Derived.Test.YtbfbekkgmbfmhaaDoorKWNTo6
import Derived.Test.YtbfbekkgmbfmhaaDoorKWRepsOneTo7
import Derived.Test.YtbfbekkgmbfmhaaDoorKWMore
section
namespace Go.Proofs.YtbfbekkgmbfmhaaDoor.Pr
open Go.RowKit Go.Proofs.YtbfbekkgmbfmhaaDoorW.PrintWords Go.Proofs.YtbfbekkgmbfmhaaDoorW.PrintLast Go.Proofs.YtbfbekkgmbfmhaaDoorW.PrintMore
attribute [local go_sem] max2_int min2_int max_two min_two max_three min_three max_four min_four   -- for this text's walks alone
set_option linter.unusedVariables false
set_option linter.unusedSimpArgs false



def errW : Option Int → Value
  | none => .nilIface
  | some c => .iface 0 (.int .i64 c)
theorem errW_none : errW none = .nilIface := rfl
theorem errW_some (c : Int) : errW (some c) = .iface 0 (.int .i64 c) := rfl

theorem info5 : (Tryd.prog.info? 5).map (fun i => (i.zero, i.size, i.bytes)) = some (some (.int .u8 0), 1, 1) := by kernel_rfl
-- the values' own types

end Go.Proofs.YtbfbekkgmbfmhaaDoor.Pr
end
section
namespace Go.Proofs.YtbfbekkgmbfmhaaDoor.Pr
open Go.RowKit Go.Proofs.YtbfbekkgmbfmhaaDoorW.PrintWords Go.Proofs.YtbfbekkgmbfmhaaDoorW.PrintLast Go.Proofs.YtbfbekkgmbfmhaaDoorW.PrintMore
attribute [local go_sem] max2_int min2_int max_two min_two max_three min_three max_four min_four   -- for this text's walks alone
set_option linter.unusedVariables false
set_option linter.unusedSimpArgs false

/-! ### gf_Add: function 31 -/
def gf_Add.f (a0 : Int) (a1 : Int) : Option (Int) := some (Go.bits .xor .u8 a0 a1)
set_option maxHeartbeats 8000000 in
set_option maxRecDepth 100000 in
theorem gf_Add.calls (a0 : Int) (a1 : Int) (r : Int) (w : World) (h : gf_Add.f a0 a1 = some r) :
    Calls Tryd.prog 31 #[.int .u8 a0, .int .u8 a1] w fun e w' => e = .returned (.int .u8 r) ∧ Drawn0 w w' := by
  have H : (some (Go.bits .xor .u8 a0 a1)) = some r := h
  clear h
  obtain rfl := Option.some.inj H
  go_enter Tryd.func31, Tryd.ntmps31
  go_wp2
  go_ret
  exact ⟨by first | rfl | (simp; done) | (simp [*]; done), by repeat (first | exact Drawn0.refl _ | apply Drawn0.step)⟩

end Go.Proofs.YtbfbekkgmbfmhaaDoor.Pr
end
section
namespace Go.Proofs.YtbfbekkgmbfmhaaDoor.Pr
open Go.RowKit Go.Proofs.YtbfbekkgmbfmhaaDoorW.PrintWords Go.Proofs.YtbfbekkgmbfmhaaDoorW.PrintLast Go.Proofs.YtbfbekkgmbfmhaaDoorW.PrintMore
attribute [local go_sem] max2_int min2_int max_two min_two max_three min_three max_four min_four   -- for this text's walks alone
set_option linter.unusedVariables false
set_option linter.unusedSimpArgs false

/-! ### gf_double: function 57 -/
def gf_double.f (a0 : Int) : Option (Int) := if a0 ≥ 128 then (some (Go.bits .xor .u8 ((a0 * 2) % 256) 27)) else (some ((a0 * 2) % 256))
set_option maxHeartbeats 8000000 in
set_option maxRecDepth 100000 in
theorem gf_double.calls (a0 : Int) (r : Int) (w : World) (h : gf_double.f a0 = some r) :
    Calls Tryd.prog 57 #[.int .u8 a0] w fun e w' => e = .returned (.int .u8 r) ∧ Drawn0 w w' := by
  have H : (if a0 ≥ 128 then (some (Go.bits .xor .u8 ((a0 * 2) % 256) 27)) else (some ((a0 * 2) % 256))) = some r := h
  clear h
  by_cases c2 : a0 ≥ 128
  · rw [if_pos c2] at H
    have c2b0 : decide (128 ≤ a0) = true := decide_eq_true c2
    clear c2
    obtain rfl := Option.some.inj H
    go_enter Tryd.func57, Tryd.ntmps57
    go_wp2
    go_ret
    exact ⟨by first | rfl | (simp; done) | (simp [*]; done), by repeat (first | exact Drawn0.refl _ | apply Drawn0.step)⟩
  · rw [if_neg c2] at H
    have c2b0 : decide (128 ≤ a0) = false := decide_eq_false c2
    clear c2
    obtain rfl := Option.some.inj H
    go_enter Tryd.func57, Tryd.ntmps57
    go_wp2
    go_ret
    exact ⟨by first | rfl | (simp; done) | (simp [*]; done), by repeat (first | exact Drawn0.refl _ | apply Drawn0.step)⟩

end Go.Proofs.YtbfbekkgmbfmhaaDoor.Pr
end
