import Derived.Test.YtbfbekkgmbfmhaaDoorRows
namespace Go.Proofs.YtbfbekkgmbfmhaaDoor.U
set_option linter.unusedSimpArgs false
def gdbl (a : UInt8) : UInt8 := if 128 ≤ a.toNat then (a <<< 1) ^^^ 27 else a <<< 1
def gmulF : Nat → UInt8 → UInt8 → UInt8 → UInt8
  | 0, _, _, p => p
  | n + 1, a, b, p => gmulF n (gdbl a) (b >>> 1) (if b &&& 1 = 1 then p ^^^ a else p)
/-- The product. -/
def gmul (a b : UInt8) : UInt8 := gmulF 8 a b 0
def gpow (a : UInt8) : Nat → UInt8
  | 0 => 1
  | n + 1 => gmul (gpow a n) a
theorem xor_perm (a b c d : UInt8) : (a ^^^ b) ^^^ (c ^^^ d) = (a ^^^ c) ^^^ (b ^^^ d) := by
  rw [UInt8.xor_assoc, UInt8.xor_assoc, ← UInt8.xor_assoc b, UInt8.xor_comm b c, UInt8.xor_assoc c b]
theorem msb_xor (a b : UInt8) : (128 ≤ (a ^^^ b).toNat) ↔ ¬ ((128 ≤ a.toNat) ↔ (128 ≤ b.toNat)) := by
  have key : ∀ x : Nat, x < 256 → ((128 ≤ x) ↔ x.testBit 7 = true) := by decide +kernel
  rw [key _ a.toNat_lt, key _ b.toNat_lt, key _ (a ^^^ b).toNat_lt]
  rw [UInt8.toNat_xor, Nat.testBit_xor]
  cases a.toNat.testBit 7 <;> cases b.toNat.testBit 7 <;> decide
theorem gdbl_xor (a b : UInt8) : gdbl (a ^^^ b) = gdbl a ^^^ gdbl b := by
  have h := msb_xor a b
  unfold gdbl
  rw [UInt8.shiftLeft_xor]
  by_cases ha : 128 ≤ a.toNat
  · by_cases hb : 128 ≤ b.toNat
    · rw [if_neg (by rw [h]; simp [ha, hb]), if_pos ha, if_pos hb, xor_perm, UInt8.xor_self, UInt8.xor_zero]
    · rw [if_pos (by rw [h]; simp [ha, hb]), if_pos ha, if_neg hb, UInt8.xor_assoc, UInt8.xor_assoc, UInt8.xor_comm _ 27]
  · by_cases hb : 128 ≤ b.toNat
    · rw [if_pos (by rw [h]; simp [ha, hb]), if_neg ha, if_pos hb, UInt8.xor_assoc]
    · rw [if_neg (by rw [h]; simp [ha, hb]), if_neg ha, if_neg hb]
theorem gdbl_zero : gdbl 0 = 0 := rfl
theorem gmulF_xor : ∀ (n : Nat) (a a' b p p' : UInt8), gmulF n (a ^^^ a') b (p ^^^ p') = gmulF n a b p ^^^ gmulF n a' b p'
  | 0, _, _, _, _, _ => rfl
  | n + 1, a, a', b, p, p' => by
    unfold gmulF
    rw [gdbl_xor]
    by_cases h : b &&& 1 = 1
    · simp only [if_pos h]
      rw [xor_perm, gmulF_xor n]
    · simp only [if_neg h]
      rw [gmulF_xor n]
theorem gmul_xor (a a' b : UInt8) : gmul (a ^^^ a') b = gmul a b ^^^ gmul a' b := by
  unfold gmul
  have := gmulF_xor 8 a a' b 0 0
  rwa [UInt8.xor_self] at this
theorem gmulF_dbl : ∀ (n : Nat) (a b p : UInt8), gmulF n (gdbl a) b (gdbl p) = gdbl (gmulF n a b p)
  | 0, _, _, _ => rfl
  | n + 1, a, b, p => by
    unfold gmulF
    by_cases h : b &&& 1 = 1
    · simp only [if_pos h]
      rw [← gdbl_xor, gmulF_dbl n]
    · simp only [if_neg h]
      rw [gmulF_dbl n]
theorem gmul_dbl (a b : UInt8) : gmul (gdbl a) b = gdbl (gmul a b) := by
  unfold gmul
  have := gmulF_dbl 8 a b 0
  rwa [gdbl_zero] at this
theorem gmulF_right : ∀ (n : Nat) (a b c p : UInt8), gmul (gmulF n a b p) c = gmulF n (gmul a c) b (gmul p c)
  | 0, _, _, _, _ => rfl
  | n + 1, a, b, c, p => by
    unfold gmulF
    rw [gmulF_right n, gmul_dbl]
    by_cases h : b &&& 1 = 1
    · simp only [if_pos h]
      rw [gmul_xor]
    · simp only [if_neg h]
theorem gmulF_zero : ∀ (n : Nat) (b : UInt8), gmulF n 0 b 0 = 0
  | 0, _ => rfl
  | n + 1, b => by
    unfold gmulF
    rw [gdbl_zero]
    by_cases h : b &&& 1 = 1
    · simp only [if_pos h, UInt8.xor_self]; exact gmulF_zero n _
    · simp only [if_neg h]; exact gmulF_zero n _
theorem zero_gmul (b : UInt8) : gmul 0 b = 0 := gmulF_zero 8 b
theorem gmul_right (a b c : UInt8) : gmul (gmul a b) c = gmul (gmul a c) b := by
  have := gmulF_right 8 a b c 0
  rw [zero_gmul] at this
  exact this
theorem all_u8 {P : UInt8 → Prop} (h : ∀ n : Nat, n < 256 → P (UInt8.ofNat n)) (a : UInt8) : P a := by
  have := h a.toNat a.toNat_lt
  rwa [UInt8.ofNat_toNat] at this
theorem one_gmul (b : UInt8) : gmul 1 b = b := all_u8 (P := fun b => gmul 1 b = b) (by decide +kernel) b
theorem gmul_comm (a b : UInt8) : gmul a b = gmul b a := by
  have := gmul_right 1 a b
  rwa [one_gmul, one_gmul] at this
theorem gmul_assoc (a b c : UInt8) : gmul (gmul a b) c = gmul a (gmul b c) := by
  rw [gmul_comm a (gmul b c), gmul_comm a b, gmul_right b a c]
theorem gmul_left_comm (a b c : UInt8) : gmul a (gmul b c) = gmul b (gmul a c) := by
  rw [← gmul_assoc, gmul_comm a b, gmul_assoc]
theorem gmul_one (a : UInt8) : gmul a 1 = a := by rw [gmul_comm, one_gmul]
theorem gmul_zero (a : UInt8) : gmul a 0 = 0 := by rw [gmul_comm, zero_gmul]
theorem xor_gmul (a b b' : UInt8) : gmul a (b ^^^ b') = gmul a b ^^^ gmul a b' := by
  rw [gmul_comm, gmul_xor, gmul_comm b, gmul_comm b']
/-- The inverse, by squares: the 254th power. -/
def graise : Nat → UInt8 → Nat → UInt8 → UInt8
  | 0, _, _, p => p
  | k + 1, a, n, p => if n = 0 then p else graise k (gmul a a) (n / 2) (if n % 2 = 1 then gmul p a else p)
def ginv (a : UInt8) : UInt8 := graise 9 a 254 1
theorem gmul_ginv (a : UInt8) (h : a ≠ 0) : gmul a (ginv a) = 1 := by
  revert h
  exact all_u8 (P := fun a => a ≠ 0 → gmul a (ginv a) = 1) (by decide +kernel) a
theorem gmul_cancel {a b c : UInt8} (h : c ≠ 0) (e : gmul a c = gmul b c) : a = b := by
  have := congrArg (fun x => gmul x (ginv c)) e
  simp only [gmul_assoc, gmul_ginv c h, gmul_one] at this
  exact this
theorem gmul_ne {a b : UInt8} (ha : a ≠ 0) (hb : b ≠ 0) : gmul a b ≠ 0 := by
  intro e
  apply ha
  apply gmul_cancel hb
  rw [e, zero_gmul]
theorem xor_eq_zero {a b : UInt8} : a ^^^ b = 0 ↔ a = b := by
  constructor
  · intro h
    have := congrArg (fun x => x ^^^ b) h
    simpa [UInt8.xor_assoc] using this
  · intro h; subst h; exact UInt8.xor_self
theorem xor_ne {a b : UInt8} (h : a ≠ b) : a ^^^ b ≠ 0 := fun e => h (xor_eq_zero.1 e)

end Go.Proofs.YtbfbekkgmbfmhaaDoor.U
