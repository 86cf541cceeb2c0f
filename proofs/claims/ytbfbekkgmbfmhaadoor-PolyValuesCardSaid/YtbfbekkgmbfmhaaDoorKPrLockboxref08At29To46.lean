import Derived.Test.YtbfbekkgmbfmhaaDoorKPr0To9
import Derived.Test.YtbfbekkgmbfmhaaDoorKPrLockboxref07Dot
import Derived.Test.YtbfbekkgmbfmhaaDoorKPrLockboxref08Points
import Derived.Test.YtbfbekkgmbfmhaaDoorKPrLockboxref08Weights
import Derived.Test.YtbfbekkgmbfmhaaDoorKUPolyMul
import Derived.Test.YtbfbekkgmbfmhaaDoorKPrPolyAt
import Derived.Test.YtbfbekkgmbfmhaaDoorKPrPolyThrough
import Derived.Test.YtbfbekkgmbfmhaaDoorKPrLockboxlaw08Awake
import Derived.Test.YtbfbekkgmbfmhaaDoorKPrLockboxlaw08Few
section
namespace Go.Proofs.YtbfbekkgmbfmhaaDoor.Pr
open Go.RowKit Go.Proofs.YtbfbekkgmbfmhaaDoorW.PrintWords Go.Proofs.YtbfbekkgmbfmhaaDoorW.PrintLast Go.Proofs.YtbfbekkgmbfmhaaDoorW.PrintMore
attribute [local go_sem] max2_int min2_int max_two min_two max_three min_three max_four min_four   -- for this text's walks alone
set_option linter.unusedVariables false
set_option linter.unusedSimpArgs false

/-! ### lockboxref08_At: function 29 -/
def lockboxref08_At.f (k : Nat) (a0 : ByteArray) (a1 : ByteArray) (a2 : Int) : Option (Int × Int) := (lockboxref08_Points.f k a0 a1).bind fun t185 => (if t185 = true then ((lockboxref08_Weights.f k a0 a2).bind fun bt186 => ((lockboxref07_Dot.f k bt186.1 a1).bind fun bt188 => (some (bt188.1, bt188.2)))) else (some (0, 1)))
theorem lockboxref08_At.mono : ∀ a0 a1 a2 k, LeO (lockboxref08_At.f k a0 a1 a2) (lockboxref08_At.f (k + 1) a0 a1 a2) := by
  intro a0 a1 a2 k
  unfold lockboxref08_At.f
  repeat' first
      | (with_reducible exact lockboxref07_Dot.mono _ _ _)
      | (with_reducible exact lockboxref08_Points.mono _ _ _)
      | (with_reducible exact lockboxref08_Weights.mono _ _ _)
      | (with_reducible exact LeO.refl _)
      | (with_reducible exact LeO.none _)
      | (with_reducible refine LeO.ite ?_ ?_)
      | (with_reducible refine LeO.bind ?_ (fun _ => ?_))
      | exact lockboxref07_Dot.mono _ _ _
      | exact lockboxref08_Points.mono _ _ _
      | exact lockboxref08_Weights.mono _ _ _
      | exact LeO.none _
      | refine LeO.ite ?_ ?_
      | refine LeO.bind ?_ (fun _ => ?_)
set_option maxHeartbeats 8000000 in
set_option maxRecDepth 100000 in
theorem lockboxref08_At.calls (k : Nat) (a0 : ByteArray) (a1 : ByteArray) (a2 : Int) (r1 : Int) (r2 : Int) (w : World) (h : lockboxref08_At.f k a0 a1 a2 = some (r1, r2)) :
    Calls Tryd.prog 29 #[.string a0, .string a1, .int .u8 a2] w fun e w' => e = .returned (.tuple #[.int .u8 r1, .int .i64 r2]) ∧ Below w.heap.size w w' := by
  have HB := Aside0.mk (Below.refl w.heap.size w)
  have H : ((lockboxref08_Points.f k a0 a1).bind fun t185 => (if t185 = true then ((lockboxref08_Weights.f k a0 a2).bind fun bt186 => ((lockboxref07_Dot.f k bt186.1 a1).bind fun bt188 => (some (bt188.1, bt188.2)))) else (some (0, 1)))) = some (r1, r2) := h
  clear h
  replace H := Option.bind_eq_some_iff.mp H
  obtain ⟨t185, A40, H⟩ := H
  replace H : (if t185 = true then ((lockboxref08_Weights.f k a0 a2).bind fun bt186 => ((lockboxref07_Dot.f k bt186.1 a1).bind fun bt188 => (some (bt188.1, bt188.2)))) else (some (0, 1))) = some (r1, r2) := H
  have A4 := Aside0.mk A40
  clear A40
  by_cases c5 : t185 = true
  · subst c5
    have H1 : ((lockboxref08_Weights.f k a0 a2).bind fun bt186 => ((lockboxref07_Dot.f k bt186.1 a1).bind fun bt188 => (some (bt188.1, bt188.2)))) = some (r1, r2) := by rw [if_pos rfl] at H; exact H
    clear H
    have H := H1
    clear H1
    replace H := Option.bind_eq_some_iff.mp H
    obtain ⟨⟨t186, t187⟩, A60, H⟩ := H
    replace H : ((lockboxref07_Dot.f k t186 a1).bind fun bt188 => (some (bt188.1, bt188.2))) = some (r1, r2) := H
    have A6 := Aside0.mk A60
    clear A60
    replace H := Option.bind_eq_some_iff.mp H
    obtain ⟨⟨t188, t189⟩, A70, H⟩ := H
    replace H : (some (t188, t189)) = some (r1, r2) := H
    have A7 := Aside0.mk A70
    clear A70
    simp only [Option.some.injEq, Prod.mk.injEq] at H
    obtain ⟨rfl, rfl⟩ := H
    go_enter Tryd.func29, Tryd.ntmps29
    go_wp2_with (first | ((with_reducible refine gate_callee (f := 28) rfl ?_); refine goesL_ (some 12) rfl rfl Tryd.func28 (by kernel_rfl) rfl #[.string a0, .string a1] rfl (by (try simp only [List.map_toArray, List.map_cons, List.map_nil]); first | done | rfl | (simp only [List.length_drop, List.length_take]; rfl)) ?_; (with_reducible refine (lockboxref08_Points.calls k a0 a1 true _ A4.out).mono ?_); rintro e w' ⟨rfl, ⟨nd, rfl⟩⟩; refine ⟨_, rfl, ?_⟩) | ((with_reducible refine gate_callee (f := 35) rfl ?_); refine goesL_ (some 17) rfl rfl Tryd.func35 (by kernel_rfl) rfl #[.string a0, .int .u8 a2] rfl (by (try simp only [List.map_toArray, List.map_cons, List.map_nil]); first | done | rfl | (simp only [List.length_drop, List.length_take]; rfl)) ?_; (with_reducible refine (lockboxref08_Weights.calls k a0 a2 t186 t187 _ A6.out).mono ?_); rintro e w8 ⟨rfl, hb⟩; refine ⟨_, rfl, ?_⟩; have n0_ := Aside0.mk (below_step (by repeat (first | (with_reducible first | exact HB.out | apply below_alloc | apply pw_below_drewN | apply below_drew1) | exact HB.out)) hb); clear HB; have HB := n0_; clear n0_; (try clear hb); (try clear hb2); (try clear hk); (try clear hi)) | ((with_reducible refine gate_callee (f := 34) rfl ?_); refine goesL_ (some 22) rfl rfl Tryd.func34 (by kernel_rfl) rfl #[.string t186, .string a1] rfl (by (try simp only [List.map_toArray, List.map_cons, List.map_nil]); first | done | rfl | (simp only [List.length_drop, List.length_take]; rfl)) ?_; (with_reducible refine (lockboxref07_Dot.calls k t186 a1 t188 t189 _ A7.out).mono ?_); rintro e w' ⟨rfl, ⟨nd, rfl⟩⟩; refine ⟨_, rfl, ?_⟩))
    go_ret2
    exact ⟨by first | rfl | (simp [errW_none, errW_some] <;> rfl) | (simp [*, errW_none, errW_some] <;> rfl), by repeat (first | (with_reducible first | exact HB.out | apply below_alloc | apply pw_below_drewN | apply below_drew1) | exact HB.out)⟩
  · replace c5 := Bool.eq_false_iff.mpr c5
    subst c5
    have H1 : (some (0, 1)) = some (r1, r2) := by rw [if_neg (show ¬ (false = true) by decide)] at H; exact H
    clear H
    have H := H1
    clear H1
    simp only [Option.some.injEq, Prod.mk.injEq] at H
    obtain ⟨rfl, rfl⟩ := H
    go_enter Tryd.func29, Tryd.ntmps29
    go_wp2_with (first | ((with_reducible refine gate_callee (f := 28) rfl ?_); refine goesL_ (some 12) rfl rfl Tryd.func28 (by kernel_rfl) rfl #[.string a0, .string a1] rfl (by (try simp only [List.map_toArray, List.map_cons, List.map_nil]); first | done | rfl | (simp only [List.length_drop, List.length_take]; rfl)) ?_; (with_reducible refine (lockboxref08_Points.calls k a0 a1 false _ A4.out).mono ?_); rintro e w' ⟨rfl, ⟨nd, rfl⟩⟩; refine ⟨_, rfl, ?_⟩))
    go_ret2
    exact ⟨by first | rfl | (simp [errW_none, errW_some] <;> rfl) | (simp [*, errW_none, errW_some] <;> rfl), by repeat (first | (with_reducible first | exact HB.out | apply below_alloc | apply pw_below_drewN | apply below_drew1) | exact HB.out)⟩

end Go.Proofs.YtbfbekkgmbfmhaaDoor.Pr
end
section
namespace Go.Proofs.YtbfbekkgmbfmhaaDoor.U
open Go.RowKit Go.Proofs.YtbfbekkgmbfmhaaDoor.Pr Go.Proofs.YtbfbekkgmbfmhaaDoorW.PrintWords Go.Proofs.YtbfbekkgmbfmhaaDoorW.PrintLast Go.Proofs.YtbfbekkgmbfmhaaDoorW.PrintMore
set_option linter.unusedVariables false
set_option linter.unusedSimpArgs false
theorem unlike_f (l : List UInt8) (h : l.length < 1000000) : poly_unlike.f (bs l) = some (decide l.Nodup) := by
  unfold poly_unlike.f
  rw [if_pos (by rw [bs_size]; exact h)]
def pointsB (p v : List UInt8) : Bool := decide (p.length = v.length) && decide (p.length ≤ 255) && decide p.Nodup
theorem points_f (p v : List UInt8) (h : p.length < 1000000) : poly_points.f (bs p) (bs v) = some (pointsB p v) := by
  simp only [poly_points.f, bs_size, unlike_f p h, Option.bind_some]
  unfold pointsB
  by_cases c1 : p.length = v.length
  · rw [if_pos (by omega), decide_eq_true c1]
    by_cases c2 : p.length ≤ 255
    · rw [if_pos (by omega), decide_eq_true c2]; simp
    · rw [if_neg (by omega), decide_eq_false c2]; simp
  · rw [if_neg (by omega), decide_eq_false c1]; simp
theorem nodup_ne {xs : List UInt8} (hn : xs.Nodup) {i j : Nat} (hi : i < xs.length) (hj : j < xs.length) (h : i ≠ j) : xs.getD i 0 ≠ xs.getD j 0 := by
  have e1 : xs.getD i 0 = xs[i] := by simp [hi]
  have e2 : xs.getD j 0 = xs[j] := by simp [hj]
  rw [e1, e2]
  intro e
  rcases Nat.lt_or_gt_of_ne h with c | c
  · exact List.pairwise_iff_getElem.1 hn i j hi hj c e
  · exact List.pairwise_iff_getElem.1 hn j i hj hi c e.symm
end Go.Proofs.YtbfbekkgmbfmhaaDoor.U
end
