import Derived.Test.YtbfbekkgmbfmhaaDoorKUPolyMul
import Derived.Test.YtbfbekkgmbfmhaaDoorKPrPolyAt
import Derived.Test.YtbfbekkgmbfmhaaDoorKPrPolyThrough
import Derived.Test.YtbfbekkgmbfmhaaDoorKPrLockboxref08At29
import Derived.Test.YtbfbekkgmbfmhaaDoorKPrLockboxlaw08Awake
import Derived.Test.YtbfbekkgmbfmhaaDoorKPrLockboxlaw08Few
namespace Go.Proofs.YtbfbekkgmbfmhaaDoor.U
open Go.RowKit Go.Proofs.YtbfbekkgmbfmhaaDoor.Pr Go.Proofs.YtbfbekkgmbfmhaaDoorW.PrintWords Go.Proofs.YtbfbekkgmbfmhaaDoorW.PrintLast Go.Proofs.YtbfbekkgmbfmhaaDoorW.PrintMore
set_option linter.unusedVariables false
set_option linter.unusedSimpArgs false
theorem unlike_f (l : List UInt8) (h : l.length < 1000000) : poly_unlike.f (bs l) = some (decide l.Nodup) := by
  unfold poly_unlike.f
  rw [if_pos (by rw [bs_size]; exact h)]
def pointsB (p v : List UInt8) : Bool := decide (p.length = v.length) && decide (p.length ≤ 255) && decide p.Nodup
theorem points_f (p v : List UInt8) (h : p.length < 1000000) : poly_points.f (bs p) (bs v) = some (pointsB p v) := by
  simp only [poly_points.f, bs_size, unlike_f p h, Option.bind_some]
  unfold pointsB
  by_cases c1 : p.length = v.length
  · rw [if_pos (by omega), decide_eq_true c1]
    by_cases c2 : p.length ≤ 255
    · rw [if_pos (by omega), decide_eq_true c2]; simp
    · rw [if_neg (by omega), decide_eq_false c2]; simp
  · rw [if_neg (by omega), decide_eq_false c1]; simp
theorem nodup_ne {xs : List UInt8} (hn : xs.Nodup) {i j : Nat} (hi : i < xs.length) (hj : j < xs.length) (h : i ≠ j) : xs.getD i 0 ≠ xs.getD j 0 := by
  have e1 : xs.getD i 0 = xs[i] := by simp [hi]
  have e2 : xs.getD j 0 = xs[j] := by simp [hj]
  rw [e1, e2]
  intro e
  rcases Nat.lt_or_gt_of_ne h with c | c
  · exact List.pairwise_iff_getElem.1 hn i j hi hj c e
  · exact List.pairwise_iff_getElem.1 hn j i hj hi c e.symm
end Go.Proofs.YtbfbekkgmbfmhaaDoor.U
