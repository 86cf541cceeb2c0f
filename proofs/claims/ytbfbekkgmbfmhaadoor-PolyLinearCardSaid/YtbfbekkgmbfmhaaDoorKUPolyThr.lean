import Derived.Test.YtbfbekkgmbfmhaaDoorKUPolyAt
namespace Go.Proofs.YtbfbekkgmbfmhaaDoor.U
open Go.RowKit Go.Proofs.YtbfbekkgmbfmhaaDoor.Pr Go.Proofs.YtbfbekkgmbfmhaaDoorW.PrintWords Go.Proofs.YtbfbekkgmbfmhaaDoorW.PrintLast Go.Proofs.YtbfbekkgmbfmhaaDoorW.PrintMore
set_option linter.unusedVariables false
set_option linter.unusedSimpArgs false
theorem pointsB_iff {p v : List UInt8} : pointsB p v = true ↔ p.length = v.length ∧ p.length ≤ 255 ∧ p.Nodup := by
  unfold pointsB
  simp [Bool.and_eq_true, and_assoc]
/-- Point by point. -/
def thr : List UInt8 → List UInt8 → List UInt8 → List UInt8 → List UInt8
  | x :: xs, v :: vs, out, zero => thr xs vs (paddT out (pmulT zero [gmul (v ^^^ pval out x) (ginv (pval zero x))])) (pmulT zero [x, 1])
  | _, _, out, _ => out
theorem strOfNums_two (a b : UInt8) : strOfNums [uz a, uz b] = bs [a, b] := strOfNums_ints8 [a, b]
theorem strOfNums_one' (a : UInt8) : strOfNums [uz a] = bs [a] := strOfNums_ints8 [a]
/-- What holds ahead of a point. -/
structure ThrOk (ps vs : List UInt8) (i : Nat) (out zero : List UInt8) : Prop where
  len : out.length ≤ i
  zlen : zero.length ≤ i + 1
  trim : ptrim out = out
  val : ∀ j, j < i → pval out (ps.getD j 0) = vs.getD j 0
  zval : ∀ j, j < i → pval zero (ps.getD j 0) = 0
  zne : ∀ x, (∀ j, j < i → ps.getD j 0 ≠ x) → pval zero x ≠ 0
theorem thrOk_zero (ps vs : List UInt8) : ThrOk ps vs 0 [] [1] :=
  ⟨by simp, by simp, rfl, fun j hj => by omega, fun j hj => by omega, fun x _ => by simp [pval, gmul_zero]⟩
theorem thrOk_succ {ps vs : List UInt8} {i : Nat} {out zero : List UInt8} (h : ThrOk ps vs i out zero) (hn : ps.Nodup) (hi : i < ps.length) :
    pval zero (ps.getD i 0) ≠ 0 ∧ ThrOk ps vs (i + 1) (paddT out (pmulT zero [gmul (vs.getD i 0 ^^^ pval out (ps.getD i 0)) (ginv (pval zero (ps.getD i 0)))])) (pmulT zero [ps.getD i 0, 1]) := by
  have hz : pval zero (ps.getD i 0) ≠ 0 := h.zne _ (fun j hj => nodup_ne hn (by omega) hi (by omega))
  refine ⟨hz, ⟨?_, ?_, ptrim_idem _, ?_, ?_, ?_⟩⟩
  · have a := paddT_length out (pmulT zero [gmul (vs.getD i 0 ^^^ pval out (ps.getD i 0)) (ginv (pval zero (ps.getD i 0)))])
    have b := pmulT_length zero [gmul (vs.getD i 0 ^^^ pval out (ps.getD i 0)) (ginv (pval zero (ps.getD i 0)))] (by simp)
    have c := h.len
    have d := h.zlen
    simp only [List.length_cons, List.length_nil] at b
    omega
  · have b := pmulT_length zero [ps.getD i 0, 1] (by simp)
    have d := h.zlen
    simp only [List.length_cons, List.length_nil] at b
    omega
  · intro j hj
    rw [paddT_val, pmulT_val]
    have e : ∀ c y : UInt8, pval [c] y = c := fun c y => by simp [pval, gmul_zero]
    rw [e]
    by_cases c : j < i
    · rw [h.val j c, h.zval j c, zero_gmul, UInt8.xor_zero]
    · obtain rfl : j = i := by omega
      rw [gmul_left_comm, gmul_ginv _ hz, gmul_one, UInt8.xor_comm (vs.getD j 0), ← UInt8.xor_assoc, UInt8.xor_self, UInt8.zero_xor]
  · intro j hj
    rw [pmulT_val]
    by_cases c : j < i
    · rw [h.zval j c, zero_gmul]
    · obtain rfl : j = i := by omega
      have : pval [ps.getD j 0, 1] (ps.getD j 0) = 0 := by simp [pval, gmul_zero, gmul_one]
      rw [this, gmul_zero]
  · intro x hx
    rw [pmulT_val]
    apply gmul_ne
    · exact h.zne x (fun j hj => hx j (by omega))
    · have : pval [ps.getD i 0, 1] x = ps.getD i 0 ^^^ x := by simp [pval, gmul_zero, gmul_one]
      rw [this]
      exact xor_ne (hx i (by omega))
def through (ps vs : List UInt8) : List UInt8 := thr ps vs [] [1]
theorem through_ok (ps vs : List UInt8) (hl : ps.length = vs.length) (hn : ps.Nodup) (hs : ps.length ≤ 255) :
    (∃ zero, ThrOk ps vs ps.length (through ps vs) zero) ∧ Evt (fun k => poly_Through.f k (bs ps) (bs vs)) (bs (through ps vs), 0) := by
  have hb : ∀ (l : List UInt8) i (hi : i < l.length), bt (bs l) (i : Int) = uz (l.getD i 0) := fun l i hi => by rw [bt_uz _ _ (by rw [bs_size]; exact hi)]; simp [bs, hi]
  have loop : ∀ (m i : Nat) (out zero : List UInt8), i + m = ps.length → ThrOk ps vs i out zero → (∃ z, ThrOk ps vs ps.length (thr (ps.drop i) (vs.drop i) out zero) z) ∧ Evt (fun k => poly_Through.l0 k (bs ps) (bs vs) (bs out) (bs zero) (ps.length : Int) (i : Int)) (bs (thr (ps.drop i) (vs.drop i) out zero), 0) := by
    intro m
    induction m with
    | zero =>
      intro i out zero hi hok
      obtain rfl : i = ps.length := by omega
      rw [List.drop_of_length_le (Nat.le_refl _)]
      refine ⟨⟨zero, hok⟩, Evt.succ (Evt.of fun k => ?_)⟩
      simp only [poly_Through.l0]
      rw [if_neg (by omega)]
      rfl
    | succ m ih =>
      intro i out zero hi hok
      have hi' : i < ps.length := by omega
      have hiv : i < vs.length := by omega
      obtain ⟨hz, hok2⟩ := thrOk_succ hok hn hi'
      obtain ⟨h1, h2⟩ := ih (i + 1) _ _ (by omega) hok2
      have e1 : ps.drop i = ps.getD i 0 :: ps.drop (i + 1) := by rw [List.drop_eq_getElem_cons hi']; simp [hi']
      have e2 : vs.drop i = vs.getD i 0 :: vs.drop (i + 1) := by rw [List.drop_eq_getElem_cons hiv]; simp [hiv]
      rw [e1, e2, thr]
      refine ⟨h1, ?_⟩
      have hw : ∀ _ : Unit, wrap64 ((i : Int) + 1) = ((i + 1 : Nat) : Int) := fun _ => w_add1 (by omega)
      have a := hok.len
      have b := hok.zlen
      obtain ⟨c, hc⟩ : ∃ c, c = gmul (vs.getD i 0 ^^^ pval out (ps.getD i 0)) (ginv (pval zero (ps.getD i 0))) := ⟨_, rfl⟩
      have l1 := pmulT_length zero [c] (by simp)
      simp only [List.length_cons, List.length_nil] at l1
      rw [← hc] at h2 ⊢
      have g6 : Evt (fun k => (poly_Mul.f k (bs zero) (bs [ps.getD i 0, 1])).bind fun t => poly_Through.l0 k (bs ps) (bs vs) (bs (paddT out (pmulT zero [c]))) t (ps.length : Int) ((i + 1 : Nat) : Int)) _ := Evt.bind (mul_ev zero [ps.getD i 0, 1] (by omega) (by simp)) h2
      have g5 : Evt (fun k => (poly_Add.f k (bs out) (bs (pmulT zero [c]))).bind fun t1 => (poly_Mul.f k (bs zero) (bs [ps.getD i 0, 1])).bind fun t => poly_Through.l0 k (bs ps) (bs vs) t1 t (ps.length : Int) ((i + 1 : Nat) : Int)) _ := Evt.bind (add_ev out (pmulT zero [c]) (by omega) (by omega)) g6
      have hsc : Evt (fun k => poly_Scale.f k (bs zero) (uz c)) (bs (pmulT zero [c])) := by
        refine Evt.congr (Evt.bind (mul_ev zero [c] (by omega) (by simp)) Evt.const) fun k => ?_
        simp only [poly_Scale.f, strOfNums_one']
      have g4 : Evt (fun k => (poly_Scale.f k (bs zero) (uz c)).bind fun t0 => (poly_Add.f k (bs out) t0).bind fun t1 => (poly_Mul.f k (bs zero) (bs [ps.getD i 0, 1])).bind fun t => poly_Through.l0 k (bs ps) (bs vs) t1 t (ps.length : Int) ((i + 1 : Nat) : Int)) _ := Evt.bind hsc g5
      have hdv := gf_div_ev (vs.getD i 0 ^^^ pval out (ps.getD i 0)) (pval zero (ps.getD i 0)) hz
      rw [← hc] at hdv
      have g3 : Evt (fun k => (gf_Div.f k (uz (vs.getD i 0 ^^^ pval out (ps.getD i 0))) (uz (pval zero (ps.getD i 0)))).bind fun d => (poly_Scale.f k (bs zero) d.1).bind fun t0 => (poly_Add.f k (bs out) t0).bind fun t1 => (poly_Mul.f k (bs zero) (bs [ps.getD i 0, 1])).bind fun t => poly_Through.l0 k (bs ps) (bs vs) t1 t (ps.length : Int) ((i + 1 : Nat) : Int)) _ := Evt.bind hdv g4
      have g2 : Evt (fun k => (poly_Value.f k (bs zero) (uz (ps.getD i 0))).bind fun u => (gf_Div.f k (uz (vs.getD i 0 ^^^ pval out (ps.getD i 0))) u).bind fun d => (poly_Scale.f k (bs zero) d.1).bind fun t0 => (poly_Add.f k (bs out) t0).bind fun t1 => (poly_Mul.f k (bs zero) (bs [ps.getD i 0, 1])).bind fun t => poly_Through.l0 k (bs ps) (bs vs) t1 t (ps.length : Int) ((i + 1 : Nat) : Int)) _ := Evt.bind (value_ev zero _ (by omega)) g3
      rw [← uz_xor] at g2
      have g1 : Evt (fun k => (poly_Value.f k (bs out) (uz (ps.getD i 0))).bind fun s => (poly_Value.f k (bs zero) (uz (ps.getD i 0))).bind fun u => (gf_Div.f k (Go.bits .xor .u8 (uz (vs.getD i 0)) s) u).bind fun d => (poly_Scale.f k (bs zero) d.1).bind fun t0 => (poly_Add.f k (bs out) t0).bind fun t1 => (poly_Mul.f k (bs zero) (bs [ps.getD i 0, 1])).bind fun t => poly_Through.l0 k (bs ps) (bs vs) t1 t (ps.length : Int) ((i + 1 : Nat) : Int)) _ := Evt.bind (value_ev out _ (by omega)) g2
      refine Evt.succ (Evt.congr g1 fun k => ?_)
      simp only [poly_Through.l0, bs_size]
      rw [if_pos (by omega), if_pos (by omega), if_pos (by omega), if_pos (by omega), hb ps i hi', hb vs i hiv, hw (), show (1 : Int) = uz 1 from rfl, strOfNums_two]
  obtain ⟨h1, h2⟩ := loop ps.length 0 [] [1] (by omega) (thrOk_zero ps vs)
  refine ⟨h1, Evt.congr h2 fun k => ?_⟩
  simp only [poly_Through.f, points_f ps vs (by omega), Option.bind_some, bs_size]
  rw [if_pos (pointsB_iff.2 ⟨hl, hs, hn⟩)]
  rfl
/-! ### what the weights say is a polynomial -/
theorem wup_poly (xs : List UInt8) (i : Nat) : ∀ k, IsPoly (if i < k then k else k + 1) (fun x => wup xs i x k)
  | 0 => by rw [if_neg (by omega)]; exact IsPoly.const 1 (by omega)
  | k + 1 => by
    have ih := wup_poly xs i k
    by_cases c : k = i
    · rw [if_pos (by omega)]
      rw [if_neg (by omega)] at ih
      obtain ⟨p, h1, h2⟩ := ih
      exact ⟨p, h1, fun x => by rw [← h2]; show wup xs i x (k + 1) = _; rw [wup, if_pos c]⟩
    · obtain ⟨p, h1, h2⟩ := ih.lin (xs.getD k 0)
      refine ⟨p, ?_, fun x => ?_⟩
      · by_cases d : i < k
        · rw [if_pos d] at h1; rw [if_pos (by omega)]; exact h1
        · rw [if_neg d] at h1; rw [if_neg (by omega)]; exact h1
      · rw [← h2]; show wup xs i x (k + 1) = _; rw [wup, if_neg c, gmul_comm]
theorem wgt_poly (xs : List UInt8) (i : Nat) (hi : i < xs.length) : IsPoly xs.length (wgt xs i) := by
  have h := wup_poly xs i xs.length
  rw [if_pos hi] at h
  obtain ⟨p, h1, h2⟩ := h.smul (ginv (wup xs i (xs.getD i 0) xs.length))
  exact ⟨p, h1, fun x => by rw [← h2]; unfold wgt; rw [gmul_comm]⟩
theorem wup_zero (xs : List UInt8) (i j : Nat) (h : j ≠ i) : ∀ k, j < k → wup xs i (xs.getD j 0) k = 0
  | 0, hk => by omega
  | k + 1, hk => by
    rw [wup]
    by_cases c : k = i
    · rw [if_pos c]; exact wup_zero xs i j h k (by omega)
    · rw [if_neg c]
      by_cases d : j = k
      · subst d; rw [UInt8.xor_self, gmul_zero]
      · rw [wup_zero xs i j h k (by omega), zero_gmul]
theorem wgt_self {xs : List UInt8} (hn : xs.Nodup) {i : Nat} (hi : i < xs.length) : wgt xs i (xs.getD i 0) = 1 := by
  unfold wgt
  exact gmul_ginv _ (wdown_ne hn hi _ (Nat.le_refl _))
theorem wgt_other (xs : List UInt8) {i j : Nat} (hj : j < xs.length) (h : j ≠ i) : wgt xs i (xs.getD j 0) = 0 := by
  unfold wgt
  rw [wup_zero xs i j h _ hj, zero_gmul]
/-- The first n products. -/
def wsum (xs vs : List UInt8) (x : UInt8) : Nat → UInt8
  | 0 => 0
  | n + 1 => wsum xs vs x n ^^^ gmul (wgt xs n x) (vs.getD n 0)
theorem gdot_snoc : ∀ (l m : List UInt8) (a b : UInt8), l.length = m.length → gdot (l ++ [a]) (m ++ [b]) = gdot l m ^^^ gmul a b
  | [], [], a, b, _ => by simp [gdot]
  | x :: l, y :: m, a, b, h => by
    simp only [List.cons_append, gdot, gdot_snoc l m a b (by simpa using h), UInt8.xor_assoc]
  | [], _ :: _, _, _, h => by simp at h
  | _ :: _, [], _, _, h => by simp at h
theorem gdot_wsum (xs vs : List UInt8) (x : UInt8) (h : xs.length = vs.length) : gdot (weights xs x) vs = wsum xs vs x xs.length := by
  have key : ∀ n, n ≤ xs.length → gdot ((List.range n).map fun i => wgt xs i x) (vs.take n) = wsum xs vs x n := by
    intro n
    induction n with
    | zero => intro _; simp [gdot, wsum]
    | succ n ih =>
      intro hn
      have hv : n < vs.length := by omega
      rw [List.range_succ, List.map_append, List.take_succ_eq_append_getElem hv, List.map_cons, List.map_nil, gdot_snoc _ _ _ _ (by simp; omega), ih (by omega), wsum]
      simp [hv]
  have := key xs.length (Nat.le_refl _)
  rw [List.take_of_length_le (by omega)] at this
  exact this
theorem wsum_poly (xs vs : List UInt8) : ∀ n, n ≤ xs.length → IsPoly xs.length (fun x => wsum xs vs x n)
  | 0, _ => IsPoly.zero _
  | n + 1, h => by
    obtain ⟨p, h1, h2⟩ := (wsum_poly xs vs n (by omega)).add ((wgt_poly xs n (by omega)).smul (vs.getD n 0))
    exact ⟨p, h1, fun x => by rw [← h2]; show wsum xs vs x (n + 1) = _; rw [wsum, gmul_comm]⟩
theorem wsum_at {xs vs : List UInt8} (hn : xs.Nodup) {j : Nat} (hj : j < xs.length) : ∀ n, n ≤ xs.length → wsum xs vs (xs.getD j 0) n = if j < n then vs.getD j 0 else 0
  | 0, _ => by rw [if_neg (by omega)]; rfl
  | n + 1, h => by
    rw [wsum, wsum_at hn hj n (by omega)]
    by_cases c : j = n
    · subst c
      rw [if_neg (by omega), if_pos (by omega), wgt_self hn hj, one_gmul, UInt8.zero_xor]
    · rw [wgt_other xs hj c, zero_gmul, UInt8.xor_zero]
      by_cases d : j < n
      · rw [if_pos d, if_pos (by omega)]
      · rw [if_neg d, if_neg (by omega)]
theorem mem_getD {xs : List UInt8} {r : UInt8} (h : r ∈ xs) : ∃ j, j < xs.length ∧ r = xs.getD j 0 := by
  obtain ⟨j, hj, e⟩ := List.getElem_of_mem h
  exact ⟨j, hj, by rw [← e]; simp [hj]⟩
/-- The value at any byte of a polynomial through points is what the weights say. -/
theorem weights_say {xs vs p : List UInt8} (hn : xs.Nodup) (hl : xs.length = vs.length) (hp : p.length ≤ xs.length) (h : ∀ j, j < xs.length → pval p (xs.getD j 0) = vs.getD j 0) (x : UInt8) : pval p x = gdot (weights xs x) vs := by
  rw [gdot_wsum xs vs x hl]
  refine IsPoly.unique ((IsPoly.of_val p).mono hp) (wsum_poly xs vs xs.length (Nat.le_refl _)) hn (Nat.le_refl _) (fun r hr => ?_) x
  obtain ⟨j, hj, rfl⟩ := mem_getD hr
  rw [wsum_at hn hj _ (Nat.le_refl _), if_pos hj, h j hj]

theorem few08_ev (most : Int) (a b : ByteArray) : Evt (fun k => lockboxlaw08_few.f k most [a, b]) (decide ((a.size : Int) ≤ most) && decide ((b.size : Int) ≤ most)) := by
  refine Evt.succ (Evt.succ (Evt.succ (Evt.of fun k => ?_)))
  simp only [lockboxlaw08_few.f, lockboxlaw08_few.l0, List.length_cons, List.length_nil]
  rw [if_pos (by decide), if_pos (by decide), show rdOf ByteArray.empty [a, b] 0 = a from rfl]
  by_cases c1 : (a.size : Int) > most
  · rw [if_pos c1, decide_eq_false (by omega)]; rfl
  · rw [if_neg c1, decide_eq_true (by omega), Bool.true_and, show wrap64 (0 + 1) = 1 from by unfold wrap64; decide, if_pos (by decide), if_pos (by decide), show rdOf ByteArray.empty [a, b] 1 = b from rfl]
    by_cases c2 : (b.size : Int) > most
    · rw [if_pos c2, decide_eq_false (by omega)]
    · rw [if_neg c2, decide_eq_true (by omega), show wrap64 (1 + 1) = 2 from by unfold wrap64; decide, if_neg (by decide)]
theorem awake08_ev : Evt (fun k => lockboxlaw08_awake.f k) true := by
  obtain ⟨_, h⟩ := through_ok [1, 2] [3, 0] rfl (by decide) (by decide)
  have e : through [1, 2] [3, 0] = [2, 1] := by decide +kernel
  rw [e] at h
  have v1 := value_ev [1, 1] 2 (by decide)
  have v2 := value_ev [2, 1] 1 (by decide)
  have v3 := value_ev [2, 1] 2 (by decide)
  rw [show pval [1, 1] 2 = 3 from by decide +kernel] at v1
  rw [show pval [2, 1] 1 = 3 from by decide +kernel] at v2
  rw [show pval [2, 1] 2 = 0 from by decide +kernel] at v3
  refine Evt.bind h ?_
  simp only [if_true]
  refine Evt.bind v1 (Evt.congr ?_ fun k => if_pos rfl)
  refine Evt.bind v2 (Evt.congr ?_ fun k => if_pos rfl)
  refine Evt.bind v3 (Evt.congr ?_ fun k => if_pos rfl)
  exact Evt.of fun k => rfl
end Go.Proofs.YtbfbekkgmbfmhaaDoor.U
