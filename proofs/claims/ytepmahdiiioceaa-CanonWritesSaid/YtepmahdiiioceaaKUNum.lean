namespace Go.Proofs.Ytepmahdiiioceaa.U

/-- How many bytes a number has. -/
def numLen (n : Nat) : Nat := if h : n = 0 then 0 else numLen (n / 256) + 1
termination_by n
decreasing_by omega
/-- The lowest k bytes of a number, the highest first. -/
def digs : Nat → Nat → List UInt8
  | 0, _ => []
  | k + 1, n => UInt8.ofNat (n / 256 ^ k) :: digs k n
def numB (n : Nat) : List UInt8 := UInt8.ofNat (numLen n) :: digs (numLen n) n

theorem numLen_zero : numLen 0 = 0 := by unfold numLen; simp
theorem numLen_pos {n : Nat} (h : n ≠ 0) : numLen n = numLen (n / 256) + 1 := by rw [numLen]; simp [h]
theorem digs_length (k n : Nat) : (digs k n).length = k := by
  induction k with
  | zero => rfl
  | succ k ih => simp [digs, ih]
theorem numB_length (n : Nat) : (numB n).length = numLen n + 1 := by simp [numB, digs_length]

theorem lt_pow_numLen (n : Nat) : n < 256 ^ numLen n := by
  induction n using Nat.strongRecOn with
  | _ n ih =>
    by_cases h : n = 0
    · subst h; simp [numLen_zero]
    · rw [numLen_pos h]
      have h1 := ih (n / 256) (by omega)
      have h2 : n / 256 < 256 ^ numLen (n / 256) := h1
      rw [Nat.pow_succ]
      omega
theorem pow_numLen_le {n : Nat} (h : n ≠ 0) : 256 ^ (numLen n - 1) ≤ n := by
  induction n using Nat.strongRecOn with
  | _ n ih =>
    rw [numLen_pos h]
    simp only [Nat.add_sub_cancel]
    by_cases h0 : n / 256 = 0
    · rw [h0, numLen_zero]; simp; omega
    · have h1 := ih (n / 256) (by omega) h0
      have h2 : numLen (n / 256) = (numLen (n / 256) - 1) + 1 := by rw [numLen_pos h0]; rfl
      rw [h2, Nat.pow_succ]
      omega
/-- The first count at which nothing is left is the length. -/
theorem numLen_least {n k : Nat} (h : k < numLen n) : 0 < n / 256 ^ k := by
  have hn : n ≠ 0 := by intro e; subst e; simp [numLen_zero] at h
  have h1 := pow_numLen_le hn
  have h2 : 256 ^ k ≤ 256 ^ (numLen n - 1) := Nat.pow_le_pow_right (by decide) (by omega)
  exact Nat.div_pos (Nat.le_trans h2 h1) (Nat.pow_pos (by decide))
theorem numLen_done (n : Nat) : n / 256 ^ numLen n = 0 := Nat.div_eq_of_lt (lt_pow_numLen n)
theorem numLen_le {n k : Nat} (h : n < 256 ^ k) : numLen n ≤ k := by
  rcases Nat.lt_or_ge k (numLen n) with h1 | h1
  · have h2 := numLen_least h1
    rw [Nat.div_eq_of_lt h] at h2
    omega
  · exact h1
theorem digs_drop (k n : Nat) (j : Nat) (h : j ≤ k) : digs k n = (digs k n).take (k - j) ++ digs j n := by
  induction k with
  | zero => have : j = 0 := by omega
            subst this; rfl
  | succ k ih =>
    by_cases hj : j = k + 1
    · subst hj; simp
    · have h1 := ih (by omega)
      rw [show k + 1 - j = (k - j) + 1 from by omega]
      simp only [digs, List.take_succ_cons, List.cons_append]
      rw [← h1]

theorem take_digs {K j : Nat} (m : Nat) (h : j + 1 ≤ K) : (digs K m).take (K - j) = (digs K m).take (K - (j + 1)) ++ [UInt8.ofNat (m / 256 ^ j)] := by
  have h2 : (digs K m).length = K := digs_length K m
  obtain ⟨P, hP, hl⟩ : ∃ P, digs K m = P ++ (UInt8.ofNat (m / 256 ^ j) :: digs j m) ∧ P.length = K - (j + 1) :=
    ⟨_, digs_drop K m (j + 1) h, by rw [List.length_take, h2]; omega⟩
  rw [hP, show K - j = P.length + 1 from by omega, ← hl, List.take_append, List.take_of_length_le (by omega), show P.length + 1 - P.length = 1 from by omega]
  simp

/-- What bytes are as a number. -/
def val (l : List UInt8) : Nat := l.foldl (fun a c => 256 * a + c.toNat) 0
theorem foldl_val (l : List UInt8) (a : Nat) : l.foldl (fun a c => 256 * a + c.toNat) a = a * 256 ^ l.length + val l := by
  induction l generalizing a with
  | nil => simp [val]
  | cons c l ih =>
    simp only [List.foldl_cons, val, List.length_cons]
    rw [ih, ih (256 * 0 + c.toNat), Nat.pow_succ]
    simp only [Nat.mul_zero, Nat.zero_add, Nat.add_mul]
    rw [Nat.mul_comm 256 a, Nat.mul_assoc, Nat.mul_comm 256 (256 ^ l.length)]
    omega
theorem val_nil : val [] = 0 := rfl
theorem val_cons (c : UInt8) (l : List UInt8) : val (c :: l) = c.toNat * 256 ^ l.length + val l := by
  simp only [val, List.foldl_cons]
  rw [foldl_val]; simp [val]
theorem val_lt (l : List UInt8) : val l < 256 ^ l.length := by
  induction l with
  | nil => simp [val]
  | cons c l ih =>
    rw [val_cons, List.length_cons, Nat.pow_succ]
    have := c.toNat_lt
    have h2 : c.toNat * 256 ^ l.length ≤ 255 * 256 ^ l.length := Nat.mul_le_mul_right _ (by omega)
    omega
/-- Bytes whose first one is not 0 are those of what they are as a number. -/
theorem digs_val (l : List UInt8) : digs l.length (val l) = l := by
  induction l with
  | nil => rfl
  | cons c l ih =>
    simp only [List.length_cons, digs]
    have hv := val_lt l
    have hpos : 0 < 256 ^ l.length := Nat.pow_pos (by decide)
    have h1 : val (c :: l) / 256 ^ l.length = c.toNat := by
      rw [val_cons, Nat.add_comm, Nat.add_mul_div_right _ _ hpos, Nat.div_eq_of_lt hv]; simp
    rw [h1]
    have h2 : digs l.length (val (c :: l)) = digs l.length (val l) := by
      have key : ∀ k m q, k ≤ l.length → digs k (q * 256 ^ l.length + m) = digs k m := by
        intro k m q hk
        induction k with
        | zero => rfl
        | succ k ihk =>
          rw [digs, digs, ihk (by omega)]
          congr 1
          have : q * 256 ^ l.length + m = m + (q * 256 ^ (l.length - k)) * 256 ^ k := by
            rw [Nat.mul_assoc, ← Nat.pow_add, show l.length - k + k = l.length from by omega]; omega
          rw [this, Nat.add_mul_div_right _ _ (Nat.pow_pos (by decide))]
          apply UInt8.toNat_inj.1
          simp only [UInt8.toNat_ofNat']
          have : 256 ^ (l.length - k) = 256 * 256 ^ (l.length - k - 1) := by
            rw [Nat.mul_comm, ← Nat.pow_succ]; congr 1; omega
          rw [this]
          rw [show q * (256 * 256 ^ (l.length - k - 1)) = 256 * (q * 256 ^ (l.length - k - 1)) from by rw [Nat.mul_left_comm]]
          omega
      rw [val_cons]; exact key _ _ _ (Nat.le_refl _)
    rw [h2, ih]
    simp
theorem numLen_val (c : UInt8) (l : List UInt8) (hc : c ≠ 0) : numLen (val (c :: l)) = l.length + 1 := by
  have hc' : 1 ≤ c.toNat := by
    rcases Nat.eq_zero_or_pos c.toNat with h | h
    · exact absurd (UInt8.toNat_inj.1 h) hc
    · exact h
  have h1 := val_lt (c :: l)
  have h2 := numLen_le h1
  rw [List.length_cons] at h2
  rcases Nat.lt_or_ge (numLen (val (c :: l))) (l.length + 1) with h3 | h3
  · have h4 : val (c :: l) < 256 ^ l.length := Nat.lt_of_lt_of_le (lt_pow_numLen _) (Nat.pow_le_pow_right (by decide) (by omega))
    rw [val_cons] at h4
    have h5 : 1 * 256 ^ l.length ≤ c.toNat * 256 ^ l.length := Nat.mul_le_mul_right _ hc'
    omega
  · omega
end Go.Proofs.Ytepmahdiiioceaa.U
