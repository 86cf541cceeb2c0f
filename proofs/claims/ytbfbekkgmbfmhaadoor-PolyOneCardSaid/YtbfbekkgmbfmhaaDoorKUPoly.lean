import Derived.Test.YtbfbekkgmbfmhaaDoorKUGf
namespace Go.Proofs.YtbfbekkgmbfmhaaDoor.U
set_option linter.unusedSimpArgs false
set_option linter.unusedVariables false
theorem xor4 (a b c d : UInt8) : (a ^^^ b) ^^^ (c ^^^ d) = (a ^^^ c) ^^^ (b ^^^ d) := xor_perm a b c d
/-- The value, by Horner. -/
def pval : List UInt8 → UInt8 → UInt8
  | [], _ => 0
  | a :: l, x => a ^^^ gmul x (pval l x)
/-- Pointwise sum, as_ long as_ the longer one. -/
def padd : List UInt8 → List UInt8 → List UInt8
  | [], m => m
  | l, [] => l
  | a :: l, b :: m => (a ^^^ b) :: padd l m
theorem padd_nil (l : List UInt8) : padd l [] = l := by cases l <;> rfl
theorem padd_length : ∀ l m : List UInt8, (padd l m).length = max l.length m.length
  | [], m => by simp [padd]
  | a :: l, [] => by simp [padd]
  | a :: l, b :: m => by simp only [padd, List.length_cons, padd_length l m]; omega
theorem pval_padd : ∀ (l m : List UInt8) (x : UInt8), pval (padd l m) x = pval l x ^^^ pval m x
  | [], m, x => by simp [padd, pval]
  | a :: l, [], x => by simp [padd, pval]
  | a :: l, b :: m, x => by
    simp only [padd, pval]
    rw [pval_padd l m x, xor_gmul, xor4]
def psmul (c : UInt8) (l : List UInt8) : List UInt8 := l.map (gmul c)
theorem psmul_length (c : UInt8) (l : List UInt8) : (psmul c l).length = l.length := List.length_map _
theorem pval_psmul (c : UInt8) (l : List UInt8) (x : UInt8) : pval (psmul c l) x = gmul c (pval l x) := by
  induction l with
  | nil => simp [psmul, pval, gmul_zero]
  | cons a l ih =>
    simp only [psmul, List.map_cons, pval] at ih ⊢
    rw [ih, xor_gmul, gmul_left_comm]
/-- A function that is a polynomial's value, of at most n bytes. -/
def IsPoly (n : Nat) (f : UInt8 → UInt8) : Prop := ∃ p : List UInt8, p.length ≤ n ∧ ∀ x, f x = pval p x
theorem IsPoly.mono {n m : Nat} {f : UInt8 → UInt8} (h : IsPoly n f) (hm : n ≤ m) : IsPoly m f := by
  obtain ⟨p, h1, h2⟩ := h; exact ⟨p, by omega, h2⟩
theorem IsPoly.add {n : Nat} {f g : UInt8 → UInt8} (hf : IsPoly n f) (hg : IsPoly n g) : IsPoly n (fun x => f x ^^^ g x) := by
  obtain ⟨p, h1, h2⟩ := hf
  obtain ⟨q, h3, h4⟩ := hg
  exact ⟨padd p q, by rw [padd_length]; omega, fun x => by show f x ^^^ g x = _; rw [pval_padd, h2, h4]⟩
theorem IsPoly.zero (n : Nat) : IsPoly n (fun _ => 0) := ⟨[], Nat.zero_le _, fun _ => rfl⟩
theorem IsPoly.const (c : UInt8) {n : Nat} (h : 1 ≤ n) : IsPoly n (fun _ => c) := ⟨[c], h, fun x => by simp [pval, gmul_zero]⟩
theorem IsPoly.of_val (p : List UInt8) : IsPoly p.length (pval p) := ⟨p, Nat.le_refl _, fun _ => rfl⟩

/-- Divided by x - r. -/
def quot : List UInt8 → UInt8 → List UInt8
  | [], _ => []
  | [_], _ => []
  | _ :: b :: l, r => pval (b :: l) r :: quot (b :: l) r
theorem quot_length : ∀ (p : List UInt8) (r : UInt8), (quot p r).length = p.length - 1
  | [], _ => rfl
  | [_], _ => rfl
  | _ :: b :: l, r => by
    have := quot_length (b :: l) r
    simp only [quot, List.length_cons] at this ⊢
    omega
theorem quot_val : ∀ (p : List UInt8) (r x : UInt8), pval p x ^^^ pval p r = gmul (x ^^^ r) (pval (quot p r) x)
  | [], r, x => by simp [pval, quot, gmul_zero]
  | [a], r, x => by simp [pval, quot, gmul_zero]
  | a :: b :: l, r, x => by
    have ih := quot_val (b :: l) r x
    have e1 : pval (a :: b :: l) x ^^^ pval (a :: b :: l) r = gmul x (pval (b :: l) x) ^^^ gmul r (pval (b :: l) r) := by
      show (a ^^^ gmul x (pval (b :: l) x)) ^^^ (a ^^^ gmul r (pval (b :: l) r)) = _
      rw [xor4, UInt8.xor_self, UInt8.zero_xor]
    have e2 : pval (quot (a :: b :: l) r) x = pval (b :: l) r ^^^ gmul x (pval (quot (b :: l) r) x) := rfl
    rw [e1, e2, xor_gmul, gmul_left_comm, ← ih, xor_gmul, gmul_xor]
    -- x L ^ r R = (x R ^ r R) ^ (x L ^ x R)
    rw [UInt8.xor_assoc, UInt8.xor_comm (gmul r _), UInt8.xor_assoc, ← UInt8.xor_assoc (gmul x _) (gmul x _), UInt8.xor_comm (gmul x (pval (b :: l) r))]
    simp only [UInt8.xor_assoc]
    congr 1
    rw [← UInt8.xor_assoc, UInt8.xor_self, UInt8.zero_xor]
theorem roots_zero : ∀ (rs p : List UInt8), rs.Nodup → p.length ≤ rs.length → (∀ r ∈ rs, pval p r = 0) → ∀ x, pval p x = 0
  | [], p, _, hl, _, x => by
    obtain rfl : p = [] := List.eq_nil_of_length_eq_zero (by simpa using hl)
    rfl
  | r :: rs, p, hn, hl, h, x => by
    rw [List.nodup_cons] at hn
    have h0 := h r (by simp)
    have hq : ∀ y, pval p y = gmul (y ^^^ r) (pval (quot p r) y) := fun y => by
      have := quot_val p r y
      rwa [h0, UInt8.xor_zero] at this
    rw [hq, roots_zero rs (quot p r) hn.2 (by rw [quot_length]; simp at hl; omega) (fun s hs => ?_) x, gmul_zero]
    have h1 := h s (by simp [hs])
    rw [hq] at h1
    apply Classical.byContradiction
    intro hne
    exact gmul_ne (xor_ne (fun e => hn.1 (by rw [← e]; exact hs))) hne h1
/-- There is just one. -/
theorem IsPoly.unique {n : Nat} {f g : UInt8 → UInt8} (hf : IsPoly n f) (hg : IsPoly n g) {rs : List UInt8} (hn : rs.Nodup) (hl : n ≤ rs.length) (h : ∀ r ∈ rs, f r = g r) : ∀ x, f x = g x := by
  obtain ⟨p, h1, h2⟩ := hf.add hg
  intro x
  have := roots_zero rs p hn (by omega) (fun r hr => by rw [← h2]; show f r ^^^ g r = 0; rw [h r hr, UInt8.xor_self]) x
  rw [← h2] at this
  exact xor_eq_zero.1 (show f x ^^^ g x = 0 from this)
/-- Trimmed: no byte 0 at the end. -/
def ptrim : List UInt8 → List UInt8
  | [] => []
  | a :: l => if ptrim l = [] ∧ a = 0 then [] else a :: ptrim l
theorem ptrim_length : ∀ l : List UInt8, (ptrim l).length ≤ l.length
  | [] => Nat.le_refl _
  | a :: l => by
    have := ptrim_length l
    unfold ptrim
    split
    · simp
    · simp; exact this
theorem pval_ptrim : ∀ (l : List UInt8) (x : UInt8), pval (ptrim l) x = pval l x
  | [], _ => rfl
  | a :: l, x => by
    have ih := pval_ptrim l x
    unfold ptrim
    split
    · rename_i h
      rw [h.1] at ih
      simp only [pval] at ih ⊢
      rw [← ih, h.2, gmul_zero, UInt8.xor_self]
    · simp only [pval, ih]
theorem ptrim_snoc : ∀ (l : List UInt8) (c : UInt8), ptrim (l ++ [c]) = if c = 0 then ptrim l else l ++ [c]
  | [], c => by
    by_cases h : c = 0 <;> simp [ptrim, h]
  | a :: l, c => by
    have ih := ptrim_snoc l c
    by_cases h : c = 0
    · rw [if_pos h] at ih ⊢
      simp only [List.cons_append, ptrim, ih]
    · rw [if_neg h] at ih ⊢
      simp only [List.cons_append, ptrim, ih]
      simp
theorem ptrim_idem (l : List UInt8) : ptrim (ptrim l) = ptrim l := by
  induction l with
  | nil => rfl
  | cons a l ih =>
    by_cases h : ptrim l = [] ∧ a = 0
    · have e : ptrim (a :: l) = [] := by rw [ptrim, if_pos h]
      rw [e]; rfl
    · have e : ptrim (a :: l) = a :: ptrim l := by rw [ptrim, if_neg h]
      rw [e, ptrim, ih, if_neg h]
/-- All zero. -/
theorem ptrim_zero : ∀ l : List UInt8, (∀ r, pval l r = 0) → l.length ≤ 256 → ptrim l = [] := by
  have key : ∀ (n : Nat) (l : List UInt8), l.length = n → ∀ rs : List UInt8, rs.Nodup → n ≤ rs.length → (∀ r ∈ rs, pval l r = 0) → ptrim l = [] := by
    intro n
    induction n with
    | zero =>
      intro l hl _ _ _ _
      rw [List.eq_nil_of_length_eq_zero hl]; rfl
    | succ n ih =>
      intro l hl rs hn hr h
      rcases rs with _ | ⟨r, rs⟩
      · simp at hr
      · rw [List.nodup_cons] at hn
        have h0 := h r (by simp)
        have hz : ∀ s ∈ rs, pval (quot l r) s = 0 := fun s hs => by
          have h1 := h s (by simp [hs])
          have h2 := quot_val l r s
          rw [h0, h1, UInt8.xor_self] at h2
          apply Classical.byContradiction
          intro hne
          exact gmul_ne (xor_ne (fun e => hn.1 (by rw [← e]; exact hs))) hne h2.symm
        have hq := ih (quot l r) (by rw [quot_length, hl]; rfl) rs hn.2 (by simp at hr; omega) hz
        -- all the quotient's bytes are 0: so are l's
        have hall : ∀ (l : List UInt8), pval l r = 0 → ptrim (quot l r) = [] → ptrim l = [] := by
          intro l
          induction l with
          | nil => intro _ _; rfl
          | cons a l ihl =>
            intro h0 hq
            rcases l with _ | ⟨b, l⟩
            · have : a = 0 := by simpa [pval, gmul_zero] using h0
              simp [ptrim, this]
            · unfold quot at hq
              have hq2 : ptrim (quot (b :: l) r) = [] ∧ pval (b :: l) r = 0 := by
                unfold ptrim at hq
                split at hq
                · assumption
                · cases hq
              have h1 := ihl hq2.2 hq2.1
              have ha : a = 0 := by
                have : pval (a :: b :: l) r = a ^^^ gmul r (pval (b :: l) r) := rfl
                rw [this, hq2.2, gmul_zero, UInt8.xor_zero] at h0
                exact h0
              unfold ptrim
              rw [if_pos ⟨h1, ha⟩]
        exact hall l h0 hq
  intro l h hl
  exact key l.length l rfl ((List.range 256).map UInt8.ofNat) (by decide +kernel) (by simpa using hl) (fun r _ => h r)
/-- Trimmed and of one value everywhere: one. -/
theorem ptrim_unique : ∀ (l m : List UInt8), ptrim (padd l m) = [] → ptrim l = ptrim m
  | [], m, h => by simpa [padd, ptrim] using h.symm
  | a :: l, [], h => by rw [padd_nil] at h; rw [h]; rfl
  | a :: l, b :: m, h => by
    simp only [padd, ptrim] at h
    split at h
    · rename_i hh
      have ih := ptrim_unique l m hh.1
      have : a = b := xor_eq_zero.1 hh.2
      simp only [ptrim, ih, this]
    · cases h
theorem poly_one {l m : List UInt8} {rs : List UInt8} (hn : rs.Nodup) (hl : l.length ≤ rs.length) (hm : m.length ≤ rs.length) (hs : rs.length ≤ 256) (h : ∀ r ∈ rs, pval l r = pval m r) : ptrim l = ptrim m := by
  apply ptrim_unique
  refine ptrim_zero _ (fun r => ?_) (by rw [padd_length]; omega)
  rw [pval_padd, IsPoly.unique ((IsPoly.of_val l).mono hl) ((IsPoly.of_val m).mono hm) hn (Nat.le_refl _) h r, UInt8.xor_self]
end Go.Proofs.YtbfbekkgmbfmhaaDoor.U
