import Derived.Test.YtbfbekkgmbfmhaaDoorKUPolyMul
import Derived.Test.YtbfbekkgmbfmhaaDoorKPrPolyAt
import Derived.Test.YtbfbekkgmbfmhaaDoorKPrPolyThrough
import Derived.Test.YtbfbekkgmbfmhaaDoorKPrLockboxref08At29
import Derived.Test.YtbfbekkgmbfmhaaDoorKPrLockboxlaw08Awake
import Derived.Test.YtbfbekkgmbfmhaaDoorKPrLockboxlaw08Few
namespace Go.Proofs.YtbfbekkgmbfmhaaDoor.U
open Go.RowKit Go.Proofs.YtbfbekkgmbfmhaaDoor.Pr Go.Proofs.YtbfbekkgmbfmhaaDoorW.PrintWords Go.Proofs.YtbfbekkgmbfmhaaDoorW.PrintLast Go.Proofs.YtbfbekkgmbfmhaaDoorW.PrintMore
set_option linter.unusedVariables false
set_option linter.unusedSimpArgs false
theorem unlike_f (l : List UInt8) (h : l.length < 1000000) : poly_unlike.f (bs l) = some (decide l.Nodup) := by
  unfold poly_unlike.f
  rw [if_pos (by rw [bs_size]; exact h)]
theorem nodup_take (l : List UInt8) (i : Nat) (hi : i < l.length) : (l.take (i + 1)).Nodup ↔ ((l.take i).Nodup ∧ l[i] ∉ l.take i) := by
  rw [List.take_succ_eq_append_getElem hi, List.nodup_append]
  constructor
  · intro h
    exact ⟨h.1, fun hm => h.2.2 _ hm _ (by simp) rfl⟩
  · intro h
    refine ⟨h.1, by simp, ?_⟩
    intro a ha b hb e
    simp only [List.mem_singleton] at hb
    subst hb; subst e
    exact h.2 ha
theorem ref_unlike_ev (l : List UInt8) (h : l.length < 1000000) : Evt (fun k => lockboxref08_Unlike.f k (bs l)) (decide l.Nodup) := by
  have hb : ∀ i (hi : i < l.length), bt (bs l) (i : Int) = uz l[i] := fun i hi => by rw [bt_uz _ _ (by rw [bs_size]; exact hi)]
  have outer : ∀ (m i : Nat), i + m = l.length → (l.take i).Nodup → Evt (fun k => lockboxref08_Unlike.l0 k (bs l) (i : Int)) (decide l.Nodup) := by
    intro m
    induction m with
    | zero =>
      intro i hi hn
      rw [List.take_of_length_le (by omega)] at hn
      rw [decide_eq_true hn]
      refine Evt.succ (Evt.of fun k => ?_)
      simp only [lockboxref08_Unlike.l0, bs_size]
      rw [if_neg (by omega)]
    | succ m ih =>
      intro i hi hn
      have hi' : i < l.length := by omega
      have hwi : ∀ _ : Unit, wrap64 ((i : Int) + 1) = ((i + 1 : Nat) : Int) := fun _ => w_add1 (by omega)
      have inner : ∀ (q j : Nat), j + q = i → (∀ t, t < j → l.getD t 0 ≠ l[i]) → Evt (fun k => lockboxref08_Unlike.l1 k (bs l) (i : Int) (j : Int)) (decide l.Nodup) := by
        intro q
        induction q with
        | zero =>
          intro j hj hne
          obtain rfl : j = i := by omega
          have hn2 : (l.take (j + 1)).Nodup := by
            rw [nodup_take l j hi']
            refine ⟨hn, fun hm => ?_⟩
            obtain ⟨t, ht, e⟩ := List.getElem_of_mem hm
            rw [List.length_take] at ht
            rw [List.getElem_take] at e
            exact hne t (by omega) (by rw [← e]; simp [show t < l.length by omega])
          refine Evt.succ (Evt.congr (ih (j + 1) (by omega) hn2) fun k => ?_)
          simp only [lockboxref08_Unlike.l1]
          rw [if_neg (by omega), hwi ()]
        | succ q ihq =>
          intro j hj hne
          have hj' : j < l.length := by omega
          have hwj : ∀ _ : Unit, wrap64 ((j : Int) + 1) = ((j + 1 : Nat) : Int) := fun _ => w_add1 (by omega)
          by_cases e : l[j] = l[i]
          · have hnn : ¬ l.Nodup := by
              intro hd
              have := List.pairwise_iff_getElem.1 hd j i hj' hi' (by omega)
              exact this e
            rw [decide_eq_false hnn]
            refine Evt.succ (Evt.of fun k => ?_)
            simp only [lockboxref08_Unlike.l1, bs_size]
            rw [if_pos (by omega), if_pos (by omega), if_pos (by omega), if_pos (by omega), if_pos (by omega), hb j hj', hb i hi', if_pos (by rw [e])]
          · refine Evt.succ (Evt.congr (ihq (j + 1) (by omega) (fun t ht => ?_)) fun k => ?_)
            · by_cases c : t < j
              · exact hne t c
              · obtain rfl : t = j := by omega
                intro e2; apply e; rw [← e2]; simp [hj']
            · simp only [lockboxref08_Unlike.l1, bs_size]
              rw [if_pos (by omega), if_pos (by omega), if_pos (by omega), if_pos (by omega), if_pos (by omega), hb j hj', hb i hi', if_neg (fun h => e (uz_inj.1 h)), hwj ()]
      refine Evt.succ (Evt.congr (inner i 0 (by omega) (fun t ht => by omega)) fun k => ?_)
      simp only [lockboxref08_Unlike.l0, bs_size]
      rw [if_pos (by omega)]
      rfl
  exact outer l.length 0 (by omega) (by rw [List.take_zero]; exact List.nodup_nil)
def pointsB (p v : List UInt8) : Bool := decide (p.length = v.length) && decide (p.length ≤ 255) && decide p.Nodup
theorem points_f (p v : List UInt8) (h : p.length < 1000000) : poly_points.f (bs p) (bs v) = some (pointsB p v) := by
  simp only [poly_points.f, bs_size, unlike_f p h, Option.bind_some]
  unfold pointsB
  by_cases c1 : p.length = v.length
  · rw [if_pos (by omega), decide_eq_true c1]
    by_cases c2 : p.length ≤ 255
    · rw [if_pos (by omega), decide_eq_true c2]; simp
    · rw [if_neg (by omega), decide_eq_false c2]; simp
  · rw [if_neg (by omega), decide_eq_false c1]; simp
theorem nodup_ne {xs : List UInt8} (hn : xs.Nodup) {i j : Nat} (hi : i < xs.length) (hj : j < xs.length) (h : i ≠ j) : xs.getD i 0 ≠ xs.getD j 0 := by
  have e1 : xs.getD i 0 = xs[i] := by simp [hi]
  have e2 : xs.getD j 0 = xs[j] := by simp [hj]
  rw [e1, e2]
  intro e
  rcases Nat.lt_or_gt_of_ne h with c | c
  · exact List.pairwise_iff_getElem.1 hn i j hi hj c e
  · exact List.pairwise_iff_getElem.1 hn j i hj hi c e.symm
end Go.Proofs.YtbfbekkgmbfmhaaDoor.U
