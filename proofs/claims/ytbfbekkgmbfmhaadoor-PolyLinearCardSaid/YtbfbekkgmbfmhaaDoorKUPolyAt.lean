import Derived.Test.YtbfbekkgmbfmhaaDoorKUPolyMul
import Derived.Test.YtbfbekkgmbfmhaaDoorKPrPolyAt
import Derived.Test.YtbfbekkgmbfmhaaDoorKPrPolyThrough
import Derived.Test.YtbfbekkgmbfmhaaDoorKPrLockboxref08At29
import Derived.Test.YtbfbekkgmbfmhaaDoorKPrLockboxlaw08Awake
import Derived.Test.YtbfbekkgmbfmhaaDoorKPrLockboxlaw08Few
namespace Go.Proofs.YtbfbekkgmbfmhaaDoor.U
open Go.RowKit Go.Proofs.YtbfbekkgmbfmhaaDoor.Pr Go.Proofs.YtbfbekkgmbfmhaaDoorW.PrintWords Go.Proofs.YtbfbekkgmbfmhaaDoorW.PrintLast Go.Proofs.YtbfbekkgmbfmhaaDoorW.PrintMore
set_option linter.unusedVariables false
set_option linter.unusedSimpArgs false
theorem unlike_f (l : List UInt8) (h : l.length < 1000000) : poly_unlike.f (bs l) = some (decide l.Nodup) := by
  unfold poly_unlike.f
  rw [if_pos (by rw [bs_size]; exact h)]
theorem nodup_take (l : List UInt8) (i : Nat) (hi : i < l.length) : (l.take (i + 1)).Nodup ↔ ((l.take i).Nodup ∧ l[i] ∉ l.take i) := by
  rw [List.take_succ_eq_append_getElem hi, List.nodup_append]
  constructor
  · intro h
    exact ⟨h.1, fun hm => h.2.2 _ hm _ (by simp) rfl⟩
  · intro h
    refine ⟨h.1, by simp, ?_⟩
    intro a ha b hb e
    simp only [List.mem_singleton] at hb
    subst hb; subst e
    exact h.2 ha
theorem ref_unlike_ev (l : List UInt8) (h : l.length < 1000000) : Evt (fun k => lockboxref08_Unlike.f k (bs l)) (decide l.Nodup) := by
  have hb : ∀ i (hi : i < l.length), bt (bs l) (i : Int) = uz l[i] := fun i hi => by rw [bt_uz _ _ (by rw [bs_size]; exact hi)]
  have outer : ∀ (m i : Nat), i + m = l.length → (l.take i).Nodup → Evt (fun k => lockboxref08_Unlike.l0 k (bs l) (i : Int)) (decide l.Nodup) := by
    intro m
    induction m with
    | zero =>
      intro i hi hn
      rw [List.take_of_length_le (by omega)] at hn
      rw [decide_eq_true hn]
      refine Evt.succ (Evt.of fun k => ?_)
      simp only [lockboxref08_Unlike.l0, bs_size]
      rw [if_neg (by omega)]
    | succ m ih =>
      intro i hi hn
      have hi' : i < l.length := by omega
      have hwi : ∀ _ : Unit, wrap64 ((i : Int) + 1) = ((i + 1 : Nat) : Int) := fun _ => w_add1 (by omega)
      have inner : ∀ (q j : Nat), j + q = i → (∀ t, t < j → l.getD t 0 ≠ l[i]) → Evt (fun k => lockboxref08_Unlike.l1 k (bs l) (i : Int) (j : Int)) (decide l.Nodup) := by
        intro q
        induction q with
        | zero =>
          intro j hj hne
          obtain rfl : j = i := by omega
          have hn2 : (l.take (j + 1)).Nodup := by
            rw [nodup_take l j hi']
            refine ⟨hn, fun hm => ?_⟩
            obtain ⟨t, ht, e⟩ := List.getElem_of_mem hm
            rw [List.length_take] at ht
            rw [List.getElem_take] at e
            exact hne t (by omega) (by rw [← e]; simp [show t < l.length by omega])
          refine Evt.succ (Evt.congr (ih (j + 1) (by omega) hn2) fun k => ?_)
          simp only [lockboxref08_Unlike.l1]
          rw [if_neg (by omega), hwi ()]
        | succ q ihq =>
          intro j hj hne
          have hj' : j < l.length := by omega
          have hwj : ∀ _ : Unit, wrap64 ((j : Int) + 1) = ((j + 1 : Nat) : Int) := fun _ => w_add1 (by omega)
          by_cases e : l[j] = l[i]
          · have hnn : ¬ l.Nodup := by
              intro hd
              have := List.pairwise_iff_getElem.1 hd j i hj' hi' (by omega)
              exact this e
            rw [decide_eq_false hnn]
            refine Evt.succ (Evt.of fun k => ?_)
            simp only [lockboxref08_Unlike.l1, bs_size]
            rw [if_pos (by omega), if_pos (by omega), if_pos (by omega), if_pos (by omega), if_pos (by omega), hb j hj', hb i hi', if_pos (by rw [e])]
          · refine Evt.succ (Evt.congr (ihq (j + 1) (by omega) (fun t ht => ?_)) fun k => ?_)
            · by_cases c : t < j
              · exact hne t c
              · obtain rfl : t = j := by omega
                intro e2; apply e; rw [← e2]; simp [hj']
            · simp only [lockboxref08_Unlike.l1, bs_size]
              rw [if_pos (by omega), if_pos (by omega), if_pos (by omega), if_pos (by omega), if_pos (by omega), hb j hj', hb i hi', if_neg (fun h => e (uz_inj.1 h)), hwj ()]
      refine Evt.succ (Evt.congr (inner i 0 (by omega) (fun t ht => by omega)) fun k => ?_)
      simp only [lockboxref08_Unlike.l0, bs_size]
      rw [if_pos (by omega)]
      rfl
  exact outer l.length 0 (by omega) (by rw [List.take_zero]; exact List.nodup_nil)
def pointsB (p v : List UInt8) : Bool := decide (p.length = v.length) && decide (p.length ≤ 255) && decide p.Nodup
theorem points_f (p v : List UInt8) (h : p.length < 1000000) : poly_points.f (bs p) (bs v) = some (pointsB p v) := by
  simp only [poly_points.f, bs_size, unlike_f p h, Option.bind_some]
  unfold pointsB
  by_cases c1 : p.length = v.length
  · rw [if_pos (by omega), decide_eq_true c1]
    by_cases c2 : p.length ≤ 255
    · rw [if_pos (by omega), decide_eq_true c2]; simp
    · rw [if_neg (by omega), decide_eq_false c2]; simp
  · rw [if_neg (by omega), decide_eq_false c1]; simp
/-! ### weights -/
/-- The product of x less the first k places but the i-th. -/
def wup (xs : List UInt8) (i : Nat) (x : UInt8) : Nat → UInt8
  | 0 => 1
  | k + 1 => if k = i then wup xs i x k else gmul (wup xs i x k) (x ^^^ xs.getD k 0)
def wgt (xs : List UInt8) (i : Nat) (x : UInt8) : UInt8 := gmul (wup xs i x xs.length) (ginv (wup xs i (xs.getD i 0) xs.length))
def weights (xs : List UInt8) (x : UInt8) : List UInt8 := (List.range xs.length).map fun i => wgt xs i x
theorem weights_length (xs : List UInt8) (x : UInt8) : (weights xs x).length = xs.length := by simp [weights]
theorem nodup_ne {xs : List UInt8} (hn : xs.Nodup) {i j : Nat} (hi : i < xs.length) (hj : j < xs.length) (h : i ≠ j) : xs.getD i 0 ≠ xs.getD j 0 := by
  have e1 : xs.getD i 0 = xs[i] := by simp [hi]
  have e2 : xs.getD j 0 = xs[j] := by simp [hj]
  rw [e1, e2]
  intro e
  rcases Nat.lt_or_gt_of_ne h with c | c
  · exact List.pairwise_iff_getElem.1 hn i j hi hj c e
  · exact List.pairwise_iff_getElem.1 hn j i hj hi c e.symm
theorem wdown_ne {xs : List UInt8} (hn : xs.Nodup) {i : Nat} (hi : i < xs.length) : ∀ k, k ≤ xs.length → wup xs i (xs.getD i 0) k ≠ 0
  | 0, _ => by unfold wup; decide
  | k + 1, hk => by
    unfold wup
    by_cases c : k = i
    · rw [if_pos c]; exact wdown_ne hn hi k (by omega)
    · rw [if_neg c]
      exact gmul_ne (wdown_ne hn hi k (by omega)) (xor_ne (nodup_ne hn hi (by omega) (fun e => c e.symm)))
theorem weight_ev (xs : List UInt8) (x : UInt8) (i : Nat) (hi : i < xs.length) (hn : xs.Nodup) (hs : xs.length < 100000) : Evt (fun k => poly_weight.f k (bs xs) (i : Int) (uz x)) (uz (wgt xs i x)) := by
  have hb : ∀ i (hi : i < xs.length), bt (bs xs) (i : Int) = uz (xs.getD i 0) := fun i hi => by rw [bt_uz _ _ (by rw [bs_size]; exact hi)]; simp [bs, hi]
  have loop : ∀ (m k0 : Nat), k0 + m = xs.length → Evt (fun k => poly_weight.l0 k (bs xs) (i : Int) (uz x) (uz (wup xs i x k0)) (uz (wup xs i (xs.getD i 0) k0)) (xs.length : Int) (k0 : Int)) (uz (wgt xs i x)) := by
    intro m
    induction m with
    | zero =>
      intro k0 hk
      obtain rfl : k0 = xs.length := by omega
      refine Evt.succ (Evt.congr (Evt.bind (gf_div_ev _ _ (wdown_ne hn hi _ (Nat.le_refl _))) (g := fun k t => some t.1) (Evt.of fun k => rfl)) fun k => ?_)
      simp only [poly_weight.l0]
      rw [if_neg (by omega)]
    | succ m ih =>
      intro k0 hk
      have hk' : k0 < xs.length := by omega
      have hw : ∀ _ : Unit, wrap64 ((k0 : Int) + 1) = ((k0 + 1 : Nat) : Int) := fun _ => w_add1 (by omega)
      have hr := ih (k0 + 1) (by omega)
      rw [wup, wup] at hr
      by_cases c : k0 = i
      · rw [if_pos c, if_pos c] at hr
        refine Evt.succ (Evt.congr hr fun k => ?_)
        simp only [poly_weight.l0]
        rw [if_pos (by omega), if_pos (by omega), hw ()]
      · rw [if_neg c, if_neg c] at hr
        have h2 : Evt (fun k => (gf_Mul.f k (uz (wup xs i (xs.getD i 0) k0)) (uz (xs.getD i 0 ^^^ xs.getD k0 0))).bind fun t2 => poly_weight.l0 k (bs xs) (i : Int) (uz x) (uz (gmul (wup xs i x k0) (x ^^^ xs.getD k0 0))) t2 (xs.length : Int) ((k0 + 1 : Nat) : Int)) _ := Evt.bind (gf_mul_ev _ _) hr
        have h1 : Evt (fun k => (gf_Mul.f k (uz (wup xs i x k0)) (uz (x ^^^ xs.getD k0 0))).bind fun t1 => (gf_Mul.f k (uz (wup xs i (xs.getD i 0) k0)) (uz (xs.getD i 0 ^^^ xs.getD k0 0))).bind fun t2 => poly_weight.l0 k (bs xs) (i : Int) (uz x) t1 t2 (xs.length : Int) ((k0 + 1 : Nat) : Int)) _ := Evt.bind (gf_mul_ev _ _) h2
        refine Evt.succ (Evt.congr h1 fun k => ?_)
        simp only [poly_weight.l0, bs_size]
        rw [if_pos (by omega), if_neg (by omega), if_pos (by omega), if_pos (by omega), hb k0 hk', hb i hi, uz_xor, uz_xor]
        simp only [if_pos (show (0 : Int) ≤ (i : Int) by omega), if_pos (show (i : Int) < (xs.length : Int) by omega), hw ()]
  refine Evt.congr (loop xs.length 0 (by omega)) fun k => ?_
  simp only [poly_weight.f, bs_size]
  rfl
theorem weights_ev (xs : List UInt8) (x : UInt8) (hs : xs.length < 100000) : Evt (fun k => poly_Weights.f k (bs xs) (uz x)) (if xs.Nodup then (bs (weights xs x), 0) else (bs [], 1)) := by
  by_cases hn : xs.Nodup
  · rw [if_pos hn]
    have hwl := weights_length xs x
    have loop : ∀ (m i : Nat), i + m = xs.length → Evt (fun k => poly_Weights.l0 k (bs xs) (uz x) (ints8 ((weights xs x).take i)) (xs.length : Int) (i : Int)) (bs (weights xs x), 0) := by
      intro m
      induction m with
      | zero =>
        intro i hi
        refine Evt.succ (Evt.of fun k => ?_)
        simp only [poly_Weights.l0]
        rw [if_neg (by omega), List.take_of_length_le (by omega), strOfNums_ints8]
      | succ m ih =>
        intro i hi
        have hi' : i < (weights xs x).length := by omega
        have hw : ∀ _ : Unit, wrap64 ((i : Int) + 1) = ((i + 1 : Nat) : Int) := fun _ => w_add1 (by omega)
        have hr := ih (i + 1) (by omega)
        have hg : (weights xs x)[i] = wgt xs i x := by simp [weights]
        rw [List.take_succ_eq_append_getElem hi', ints8_snoc, hg] at hr
        have h1 : Evt (fun k => (poly_weight.f k (bs xs) (i : Int) (uz x)).bind fun t => poly_Weights.l0 k (bs xs) (uz x) (ints8 ((weights xs x).take i) ++ [t]) (xs.length : Int) ((i + 1 : Nat) : Int)) _ := Evt.bind (weight_ev xs x i (by omega) hn hs) hr
        refine Evt.succ (Evt.congr h1 fun k => ?_)
        simp only [poly_Weights.l0]
        rw [if_pos (by omega)]
        simp only [if_pos (show (ints8 ((weights xs x).take i)).length < 140737488355328 by rw [ints8_length, List.length_take]; omega), hw ()]
    refine Evt.congr (loop xs.length 0 (by omega)) fun k => ?_
    simp only [poly_Weights.f, unlike_f xs (by omega), Option.bind_some, decide_eq_true hn, if_true, bs_size]
    rfl
  · rw [if_neg hn]
    refine Evt.of fun k => ?_
    simp only [poly_Weights.f, unlike_f xs (by omega), Option.bind_some, decide_eq_false hn, Bool.false_eq_true, if_false]
end Go.Proofs.YtbfbekkgmbfmhaaDoor.U
