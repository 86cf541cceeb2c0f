import Derived.Test.YtbfbekkgmbfmhaaDoorKUPolyEv
namespace Go.Proofs.YtbfbekkgmbfmhaaDoor.U
open Go.RowKit Go.Proofs.YtbfbekkgmbfmhaaDoor.Pr Go.Proofs.YtbfbekkgmbfmhaaDoorW.PrintWords Go.Proofs.YtbfbekkgmbfmhaaDoorW.PrintLast Go.Proofs.YtbfbekkgmbfmhaaDoorW.PrintMore
set_option linter.unusedVariables false
set_option linter.unusedSimpArgs false
/-- The first i rows of the product, at place n. -/
def conv (a b : List UInt8) : Nat → Nat → UInt8
  | 0, _ => 0
  | i + 1, n => conv a b i n ^^^ gmul (a.getD i 0) (if i ≤ n then b.getD (n - i) 0 else 0)
/-- .. and so much of the next row. -/
def convK (a b : List UInt8) (i k n : Nat) : UInt8 := conv a b i n ^^^ (if i ≤ n ∧ n < i + k then gmul (a.getD i 0) (b.getD (n - i) 0) else 0)
def prow (a b : List UInt8) (i k : Nat) : List UInt8 := (List.range (a.length + b.length)).map (convK a b i k)
def pmulT (a b : List UInt8) : List UInt8 := ptrim (prow a b a.length 0)
theorem convK_zero (a b : List UInt8) (i n : Nat) : convK a b i 0 n = conv a b i n := by
  unfold convK
  rw [if_neg (by omega), UInt8.xor_zero]
theorem convK_full (a b : List UInt8) (i n : Nat) : convK a b i b.length n = conv a b (i + 1) n := by
  unfold convK
  rw [conv]
  congr 1
  by_cases h : i ≤ n
  · by_cases h2 : n < i + b.length
    · rw [if_pos ⟨h, h2⟩, if_pos h]
    · rw [if_neg (by omega), if_pos h]
      have : b.getD (n - i) 0 = 0 := by simp [List.getElem?_eq_none (show b.length ≤ n - i by omega)]
      rw [this, gmul_zero]
  · rw [if_neg (by omega), if_neg h, gmul_zero]
theorem prow_next (a b : List UInt8) (i : Nat) : prow a b i b.length = prow a b (i + 1) 0 := by
  unfold prow
  congr 1
  funext n
  rw [convK_full, convK_zero]
theorem prow_length (a b : List UInt8) (i k : Nat) : (prow a b i k).length = a.length + b.length := by simp [prow]
theorem prow_get (a b : List UInt8) (i k n : Nat) (h : n < a.length + b.length) : (prow a b i k)[n]? = some (convK a b i k n) := by simp [prow, h]
theorem prow_set (a b : List UInt8) (i k : Nat) (hi : i < a.length) (hk : k < b.length) : (prow a b i k).set (i + k) (convK a b i k (i + k) ^^^ gmul (a.getD i 0) (b.getD k 0)) = prow a b i (k + 1) := by
  apply List.ext_getElem?
  intro n
  rw [List.getElem?_set]
  by_cases hn : n < a.length + b.length
  · by_cases e : i + k = n
    · subst e
      rw [if_pos rfl, if_pos (by rw [prow_length]; exact hn), prow_get _ _ _ _ _ hn]
      unfold convK
      rw [if_neg (by omega), if_pos (by omega), UInt8.xor_zero, show i + k - i = k from by omega]
    · rw [if_neg e, prow_get _ _ _ _ _ hn, prow_get _ _ _ _ _ hn]
      unfold convK
      congr 2
      by_cases c : i ≤ n ∧ n < i + k
      · rw [if_pos c, if_pos (by omega)]
      · rw [if_neg c, if_neg (by omega)]
  · rw [List.getElem?_eq_none (by rw [prow_length]; omega), List.getElem?_eq_none (by rw [prow_length]; omega)]
    split
    · rw [if_neg (by rw [prow_length]; omega)]
    · rfl
theorem rd_ints8 (l : List UInt8) (n : Nat) (h : n < l.length) : rd (ints8 l) (n : Int) = uz l[n] := by
  unfold rd ints8
  simp [h]
theorem mul_ev (a b : List UInt8) (ha : a.length < 100000) (hb : b.length < 100000) : Evt (fun k => poly_Mul.f k (bs a) (bs b)) (bs (pmulT a b)) := by
  have hN : ∀ _ : Unit, wrap64 ((a.length : Int) + (b.length : Int)) = ((a.length + b.length : Nat) : Int) := fun _ => w_add (by omega)
  have ht := ptrim_ev (prow a b a.length 0) (by rw [prow_length]; omega)
  have outer : ∀ (m i : Nat), i + m = a.length → Evt (fun k => poly_Mul.l0 k (bs a) (bs b) (ints8 (prow a b i 0)) (a.length : Int) (i : Int)) (bs (pmulT a b)) := by
    intro m
    induction m with
    | zero =>
      intro i hi
      obtain rfl : i = a.length := by omega
      refine Evt.succ (Evt.congr (Evt.bind ht Evt.const) fun k => ?_)
      simp only [poly_Mul.l0]
      rw [if_neg (by omega), strOfNums_ints8]
    | succ m ih =>
      intro i hi
      have hi' : i < a.length := by omega
      have hba : bt (bs a) (i : Int) = uz (a.getD i 0) := by rw [bt_uz _ _ (by rw [bs_size]; exact hi')]; simp [bs, hi']
      have hwi : ∀ _ : Unit, wrap64 ((i : Int) + 1) = ((i + 1 : Nat) : Int) := fun _ => w_add1 (by omega)
      have inner : ∀ (q j : Nat), j + q = b.length → Evt (fun k => poly_Mul.l1 k (bs a) (bs b) (ints8 (prow a b i j)) (i : Int) (a.length : Int) (i : Int) (b.length : Int) (j : Int)) (bs (pmulT a b)) := by
        intro q
        induction q with
        | zero =>
          intro j hj
          obtain rfl : j = b.length := by omega
          have hr := ih (i + 1) (by omega)
          rw [← prow_next] at hr
          refine Evt.succ (Evt.congr hr fun k => ?_)
          simp only [poly_Mul.l1]
          rw [if_neg (by omega), hwi ()]
        | succ q ihq =>
          intro j hj
          have hj' : j < b.length := by omega
          have hbb : bt (bs b) (j : Int) = uz (b.getD j 0) := by rw [bt_uz _ _ (by rw [bs_size]; exact hj')]; simp [bs, hj']
          have hwj : ∀ _ : Unit, wrap64 ((j : Int) + 1) = ((j + 1 : Nat) : Int) := fun _ => w_add1 (by omega)
          have hwij : ∀ _ : Unit, wrap64 ((i : Int) + (j : Int)) = ((i + j : Nat) : Int) := fun _ => w_add (by omega)
          have hn : i + j < (prow a b i j).length := by rw [prow_length]; omega
          have hrd : rd (ints8 (prow a b i j)) ((i + j : Nat) : Int) = uz (convK a b i j (i + j)) := by
            rw [rd_ints8 _ _ hn]
            congr 1
            have := prow_get a b i j (i + j) (by omega)
            rw [List.getElem?_eq_getElem hn] at this
            exact Option.some.inj this
          have hr := ihq (j + 1) (by omega)
          rw [← prow_set a b i j hi' hj'] at hr
          have hset : ints8 ((prow a b i j).set (i + j) (convK a b i j (i + j) ^^^ gmul (a.getD i 0) (b.getD j 0))) = (ints8 (prow a b i j)).set (i + j) (uz (convK a b i j (i + j) ^^^ gmul (a.getD i 0) (b.getD j 0))) := by
            unfold ints8; rw [List.map_set]
          rw [hset, ← uz_xor] at hr
          have h1 : Evt (fun k => (gf_Mul.f k (uz (a.getD i 0)) (uz (b.getD j 0))).bind fun t => poly_Mul.l1 k (bs a) (bs b) ((ints8 (prow a b i j)).set (i + j) (Go.bits .xor .u8 (uz (convK a b i j (i + j))) t)) (i : Int) (a.length : Int) (i : Int) (b.length : Int) ((j + 1 : Nat) : Int)) _ := Evt.bind (gf_mul_ev _ _) hr
          refine Evt.succ (Evt.congr h1 fun k => ?_)
          simp only [poly_Mul.l1, bs_size]
          rw [if_pos (by omega), hwij (), if_pos (by omega), if_pos (by rw [ints8_length]; omega), if_pos (by omega), if_pos (by omega), if_pos (by omega), if_pos (by omega), hba, hbb, hrd, hwj (), Int.toNat_natCast]
      refine Evt.succ (Evt.congr (inner b.length 0 (by omega)) fun k => ?_)
      simp only [poly_Mul.l0, bs_size]
      rw [if_pos (by omega)]
      rfl
  have h0 : ints8 (prow a b 0 0) = List.replicate (a.length + b.length) 0 := by
    unfold ints8 prow
    rw [List.map_map]
    rw [show ((fun c : UInt8 => (c.toNat : Int)) ∘ convK a b 0 0) = fun _ => (0 : Int) from by funext n; simp [convK_zero, conv]]
    rw [List.map_const', List.length_range]
  have := outer a.length 0 (by omega)
  rw [h0] at this
  refine Evt.congr this fun k => ?_
  simp only [poly_Mul.f, bs_size]
  rw [hN (), if_pos (by omega), Int.toNat_natCast, if_pos (by omega)]
  rfl
/-! ### the value of a product -/
theorem pval_ext : ∀ (l m : List UInt8), l.length = m.length → (∀ i, l.getD i 0 = m.getD i 0) → l = m := by
  intro l m h he
  apply List.ext_getElem h
  intro i h1 h2
  have := he i
  simpa [h1, h2] using this
theorem pval_shift (i : Nat) (l : List UInt8) (x : UInt8) : pval (List.replicate i 0 ++ l) x = gmul (gpow x i) (pval l x) := by
  induction i with
  | zero => simp [gpow, one_gmul]
  | succ i ih =>
    rw [List.replicate_succ, List.cons_append, pval, ih, UInt8.zero_xor, gpow, ← gmul_assoc, gmul_comm x]
theorem psmul_get (c : UInt8) (l : List UInt8) (i : Nat) : (psmul c l).getD i 0 = gmul c (l.getD i 0) := by
  unfold psmul
  by_cases h : i < l.length
  · simp [h]
  · simp [List.getElem?_eq_none (show l.length ≤ i by omega), gmul_zero]
theorem shift_get (i : Nat) (l : List UInt8) (n : Nat) : (List.replicate i 0 ++ l).getD n 0 = if i ≤ n then l.getD (n - i) 0 else 0 := by
  by_cases h : i ≤ n
  · rw [if_pos h]; simp [List.getElem?_append_right, h]
  · rw [if_neg h]
    have : n < i := by omega
    simp [List.getElem?_append_left, this]
theorem prow_val (a b : List UInt8) (x : UInt8) : ∀ i, i ≤ a.length → pval (prow a b i 0) x = gmul (pval (a.take i) x) (pval b x) := by
  have hz : ∀ n : Nat, pval (List.replicate n 0) x = 0 := by
    intro n
    have := pval_shift n [] x
    rw [List.append_nil] at this
    rw [this, pval, gmul_zero]
  intro i
  induction i with
  | zero =>
    intro _
    have : prow a b 0 0 = List.replicate (a.length + b.length) 0 := by
      unfold prow
      rw [show convK a b 0 0 = fun _ => (0 : UInt8) from by funext n; rw [convK_zero]; rfl, List.map_const', List.length_range]
    rw [this, hz, List.take_zero, pval, zero_gmul]
  | succ i ih =>
    intro hi
    have hi' : i < a.length := by omega
    have e : prow a b (i + 1) 0 = padd (prow a b i 0) (List.replicate i 0 ++ psmul (a.getD i 0) b) := by
      apply pval_ext
      · rw [prow_length, padd_length, prow_length, List.length_append, List.length_replicate, psmul_length]; omega
      · intro n
        rw [padd_get, shift_get, psmul_get]
        by_cases hn : n < a.length + b.length
        · have g1 := prow_get a b (i + 1) 0 n hn
          have g2 := prow_get a b i 0 n hn
          rw [List.getD_eq_getElem?_getD, g1, List.getD_eq_getElem?_getD, g2]
          simp only [Option.getD_some, convK_zero, conv]
          by_cases c : i ≤ n
          · rw [if_pos c, if_pos c]
          · rw [if_neg c, if_neg c, gmul_zero]
        · rw [List.getD_eq_getElem?_getD, List.getElem?_eq_none (by rw [prow_length]; omega), List.getD_eq_getElem?_getD, List.getElem?_eq_none (by rw [prow_length]; omega)]
          simp only [Option.getD_none, UInt8.zero_xor]
          rw [if_pos (by omega)]
          have : b.getD (n - i) 0 = 0 := by simp [List.getElem?_eq_none (show b.length ≤ n - i by omega)]
          rw [this, gmul_zero]
    rw [e, pval_padd, ih (by omega), pval_shift, pval_psmul, List.take_succ_eq_append_getElem hi', pval_snoc, List.length_take, Nat.min_eq_left (by omega), gmul_xor, ← gmul_assoc]
    simp [hi']
theorem pmulT_val (a b : List UInt8) (x : UInt8) : pval (pmulT a b) x = gmul (pval a x) (pval b x) := by
  unfold pmulT
  rw [pval_ptrim, prow_val a b x a.length (Nat.le_refl _), List.take_length]
theorem paddT_val (a b : List UInt8) (x : UInt8) : pval (paddT a b) x = pval a x ^^^ pval b x := by
  unfold paddT
  rw [pval_ptrim, pval_padd]
theorem pmulT_length (a b : List UInt8) (hb : b ≠ []) : (pmulT a b).length ≤ a.length + b.length - 1 := by
  have hlb : 0 < b.length := List.length_pos_iff.2 hb
  obtain ⟨N, hN⟩ : ∃ N, a.length + b.length = N + 1 := ⟨a.length + b.length - 1, by omega⟩
  have e : prow a b a.length 0 = (List.range N).map (convK a b a.length 0) ++ [convK a b a.length 0 N] := by
    unfold prow; rw [hN, List.range_succ, List.map_append]; rfl
  have hz : ∀ i, i ≤ a.length → conv a b i N = 0 := by
    intro i
    induction i with
    | zero => intro _; rfl
    | succ i ih =>
      intro hi
      rw [conv, ih (by omega), UInt8.zero_xor, if_pos (by omega)]
      have : b.getD (N - i) 0 = 0 := by simp [List.getElem?_eq_none (show b.length ≤ N - i by omega)]
      rw [this, gmul_zero]
  unfold pmulT
  rw [e, convK_zero, hz _ (Nat.le_refl _), ptrim_snoc, if_pos rfl]
  have := ptrim_length ((List.range N).map (convK a b a.length 0))
  simp at this
  omega
theorem paddT_length (a b : List UInt8) : (paddT a b).length ≤ max a.length b.length := by
  have := ptrim_length (padd a b)
  rw [padd_length] at this
  exact this
end Go.Proofs.YtbfbekkgmbfmhaaDoor.U
