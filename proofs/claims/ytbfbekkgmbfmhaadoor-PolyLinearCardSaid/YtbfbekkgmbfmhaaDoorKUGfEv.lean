import Derived.Test.YtbfbekkgmbfmhaaDoorKUGf
import Derived.Test.YtbfbekkgmbfmhaaDoorKUEv
import Derived.Test.YtbfbekkgmbfmhaaDoorKPrGfInvTo11
import Derived.Test.YtbfbekkgmbfmhaaDoorKPrGfDot
import Derived.Test.YtbfbekkgmbfmhaaDoorKPrLockboxref07Inv
import Derived.Test.YtbfbekkgmbfmhaaDoorKPrLockboxref07Dot
import Derived.Test.YtbfbekkgmbfmhaaDoorKPrPolyAdd
namespace Go.Proofs.YtbfbekkgmbfmhaaDoor.U
open Go.RowKit Go.Proofs.YtbfbekkgmbfmhaaDoor.Pr Go.Proofs.YtbfbekkgmbfmhaaDoorW.PrintWords Go.Proofs.YtbfbekkgmbfmhaaDoorW.PrintLast Go.Proofs.YtbfbekkgmbfmhaaDoorW.PrintMore
set_option linter.unusedVariables false
set_option linter.unusedSimpArgs false
/-- A byte as_ a number. -/
abbrev uz (a : UInt8) : Int := (a.toNat : Int)
theorem uz_inj {a b : UInt8} : uz a = uz b ↔ a = b := by
  unfold uz
  constructor
  · intro h; apply UInt8.toNat_inj.1; omega
  · intro h; rw [h]
theorem uz_xor (a b : UInt8) : Go.bits .xor .u8 (uz a) (uz b) = uz (a ^^^ b) := u8_xor_int a b
theorem gdouble_f (a : UInt8) : gf_double.f (uz a) = some (uz (gdbl a)) := all_u8 (P := fun a => gf_double.f (uz a) = some (uz (gdbl a))) (by decide +kernel) a
theorem half_u8 (b : UInt8) : uz b / (2 : Int) = uz (b >>> 1) := all_u8 (P := fun b => uz b / (2 : Int) = uz (b >>> 1)) (by decide +kernel) b
theorem bit_u8 (b : UInt8) : (Go.bits .and .u8 (uz b) 1 = 1) ↔ b &&& 1 = 1 := all_u8 (P := fun b => (Go.bits .and .u8 (uz b) 1 = 1) ↔ b &&& 1 = 1) (by decide +kernel) b
theorem half_lt (b : UInt8) (n : Nat) (h : b.toNat < 2 ^ (n + 1)) : (b >>> 1).toNat < 2 ^ n := by
  have : uz b / (2 : Int) = uz (b >>> 1) := half_u8 b
  unfold uz at this
  rw [Nat.pow_succ] at h
  omega
theorem gmulF_done : ∀ (n : Nat) (a p : UInt8), gmulF n a 0 p = p
  | 0, _, _ => rfl
  | n + 1, a, p => by
    unfold gmulF
    rw [if_neg (by decide), show (0 : UInt8) >>> 1 = 0 from rfl]
    exact gmulF_done n _ _
theorem gmul_l_ev : ∀ (n : Nat) (a b p : UInt8), b.toNat < 2 ^ n → Evt (fun k => gf_Mul.l0 k (uz a) (uz b) (uz p)) (uz (gmulF n a b p)) := by
  intro n
  induction n with
  | zero =>
    intro a b p hb
    obtain rfl : b = 0 := by apply UInt8.toNat_inj.1; simp at hb; simpa using hb
    refine Evt.succ (Evt.of fun k => ?_)
    simp only [gf_Mul.l0]
    rw [if_pos (show uz 0 = 0 from rfl)]
    rfl
  | succ n ih =>
    intro a b p hb
    by_cases h0 : b = 0
    · subst h0
      rw [gmulF_done]
      refine Evt.succ (Evt.of fun k => ?_)
      simp only [gf_Mul.l0]
      rw [if_pos (show uz 0 = 0 from rfl)]
    · have hz : ¬ uz b = 0 := fun e => h0 (uz_inj.1 e)
      unfold gmulF
      have hr := ih (gdbl a) (b >>> 1) (if b &&& 1 = 1 then p ^^^ a else p) (half_lt b n hb)
      by_cases h1 : b &&& 1 = 1
      · rw [if_pos h1] at hr ⊢
        refine Evt.succ (Evt.congr hr fun k => ?_)
        simp only [gf_Mul.l0]
        rw [if_neg hz, if_pos ((bit_u8 b).2 h1), gdouble_f, half_u8, uz_xor]
        rfl
      · rw [if_neg h1] at hr ⊢
        refine Evt.succ (Evt.congr hr fun k => ?_)
        simp only [gf_Mul.l0]
        rw [if_neg hz, if_neg (fun e => h1 ((bit_u8 b).1 e)), gdouble_f, half_u8]
        rfl
theorem gf_mul_ev (a b : UInt8) : Evt (fun k => gf_Mul.f k (uz a) (uz b)) (uz (gmul a b)) := gmul_l_ev 8 a b 0 b.toNat_lt
theorem tmod_nat (n : Nat) : Int.tmod (n : Int) 2 = ((n % 2 : Nat) : Int) := by rw [Int.tmod_eq_emod_of_nonneg (by omega)]; rfl
theorem half_wrap (n : Nat) (h : n < 1000000) : wrap64 (Int.tdiv (n : Int) 2) = ((n / 2 : Nat) : Int) := by
  rw [Int.tdiv_eq_ediv_of_nonneg (by omega), wrap64_nat (by omega) (by omega)]; rfl
theorem graise_done : ∀ (m : Nat) (a p : UInt8), graise m a 0 p = p
  | 0, _, _ => rfl
  | m + 1, _, _ => by unfold graise; rw [if_pos rfl]
theorem graise_ev : ∀ (m n : Nat) (a p : UInt8), n < 2 ^ m → n < 1000000 → Evt (fun k => gf_raise.l0 k (uz a) (n : Int) (uz p)) (uz (graise m a n p)) := by
  intro m
  induction m with
  | zero =>
    intro n a p hn _
    obtain rfl : n = 0 := by simp at hn; exact hn
    refine Evt.succ (Evt.of fun k => ?_)
    simp only [gf_raise.l0]
    rw [if_neg (by omega)]
    rfl
  | succ m ih =>
    intro n a p hn hs
    by_cases h0 : n = 0
    · subst h0
      rw [graise_done]
      refine Evt.succ (Evt.of fun k => ?_)
      simp only [gf_raise.l0]
      rw [if_neg (by omega)]
    · have hn2 : n / 2 < 2 ^ m := by rw [Nat.pow_succ] at hn; omega
      have hs2 : n / 2 < 1000000 := by omega
      have hpos : (n : Int) > 0 := by omega
      have hw : ∀ _ : Unit, wrap64 (Int.tdiv (n : Int) 2) = ((n / 2 : Nat) : Int) := fun _ => half_wrap n hs
      have hm : ∀ _ : Unit, Int.tmod (n : Int) 2 = ((n % 2 : Nat) : Int) := fun _ => tmod_nat n
      unfold graise
      rw [if_neg h0]
      by_cases h1 : n % 2 = 1
      · rw [if_pos h1]
        refine Evt.succ (Evt.congr (Evt.bind (gf_mul_ev p a) (g := fun k t => (gf_Mul.f k (uz a) (uz a)).bind fun t2 => gf_raise.l0 k t2 ((n / 2 : Nat) : Int) t) (Evt.bind (gf_mul_ev a a) (g := fun k t2 => gf_raise.l0 k t2 ((n / 2 : Nat) : Int) (uz (gmul p a))) (ih (n / 2) (gmul a a) (gmul p a) hn2 hs2))) fun k => ?_)
        simp only [gf_raise.l0]
        rw [if_pos hpos, hm (), if_pos (by omega), hw ()]
      · rw [if_neg h1]
        refine Evt.succ (Evt.congr (Evt.bind (gf_mul_ev a a) (g := fun k t2 => gf_raise.l0 k t2 ((n / 2 : Nat) : Int) (uz p)) (ih (n / 2) (gmul a a) p hn2 hs2)) fun k => ?_)
        simp only [gf_raise.l0]
        rw [if_pos hpos, hm (), if_neg (by omega), hw ()]
theorem gf_inv_ev (a : UInt8) : Evt (fun k => gf_Inv.f k (uz a)) (if a = 0 then (0, 1) else (uz (ginv a), 0)) := by
  by_cases h : a = 0
  · subst h
    refine Evt.of fun k => ?_
    simp only [gf_Inv.f]
    rw [if_pos (show uz 0 = 0 from rfl)]; rfl
  · rw [if_neg h]
    refine Evt.congr (Evt.bind (graise_ev 9 254 a 1 (by decide) (by decide)) (g := fun k t => some (t, (0 : Int))) (Evt.of fun k => rfl)) fun k => ?_
    simp only [gf_Inv.f]
    rw [if_neg (show ¬ uz a = 0 from fun e => h (uz_inj.1 (show uz a = uz 0 from e)))]
    rfl
theorem gf_div_ev (a b : UInt8) (h : b ≠ 0) : Evt (fun k => gf_Div.f k (uz a) (uz b)) (uz (gmul a (ginv b)), 0) := by
  have := gf_inv_ev b
  rw [if_neg h] at this
  exact Evt.bind this (Evt.bind (gf_mul_ev a (ginv b)) Evt.const)
/-- The sum of products. -/
def gdot : List UInt8 → List UInt8 → UInt8
  | a :: l, b :: m => gmul a b ^^^ gdot l m
  | _, _ => 0
theorem bt_uz (s : ByteArray) (i : Nat) (h : i < s.size) : bt s (i : Int) = uz s.data.toList[i] := by
  obtain ⟨c, h1, h2⟩ := bt_eq s i h
  have h3 : s.data.toList.drop i = s.data.toList[i] :: s.data.toList.drop (i + 1) := List.drop_eq_getElem_cons (show i < s.data.toList.length from h)
  rw [h3] at h1
  rw [h2, (List.cons.inj h1).1]
theorem drop_bt (s : ByteArray) (i : Nat) (h : i < s.size) : s.data.toList.drop i = s.data.toList[i] :: s.data.toList.drop (i + 1) := List.drop_eq_getElem_cons (show i < s.data.toList.length from h)
/-! ### the document's -/
theorem shr_nat (p i : Nat) (hi : i ≤ 64) : shr .i64 (p : Int) (i : Int) = ((p / 2 ^ i : Nat) : Int) := by
  unfold shr
  rw [Int.toNat_natCast, show IntKind.i64.bits = 64 from rfl, Nat.min_eq_left hi]
  rw [Int.natCast_ediv, Int.natCast_pow]; rfl
theorem shl_nat (p i : Nat) (hi : i ≤ 64) (h : p * 2 ^ i < 9223372036854775808) : shl .i64 (p : Int) (i : Int) = ((p * 2 ^ i : Nat) : Int) := by
  unfold shl
  rw [Int.toNat_natCast, show IntKind.i64.bits = 64 from rfl, Nat.min_eq_left hi]
  rw [show ((p : Int) * 2 ^ i) = ((p * 2 ^ i : Nat) : Int) from by rw [Int.natCast_mul, Int.natCast_pow]; rfl]
  exact (i64_w _).trans (wrap64_nat (by omega) (by omega))
theorem i64_xor_nat (a b : Nat) (ha : a < 9223372036854775808) (hb : b < 9223372036854775808) : Go.bits .xor .i64 (a : Int) (b : Int) = ((a ^^^ b : Nat) : Int) := by
  have hx : a ^^^ b < 2 ^ 63 := Nat.xor_lt_two_pow (by omega) (by omega)
  show IntKind.i64.wrap ((BitVec.ofInt 64 (a : Int) ^^^ BitVec.ofInt 64 (b : Int)).toNat : Int) = _
  rw [BitVec.toNat_xor, ofInt_i64 a ha, ofInt_i64 b hb, IntKind.wrap_i64]
  omega
theorem u64_nat (n : Nat) (h : n < 1000000) : IntKind.u64.wrap (n : Int) = (n : Int) := by
  show (n : Int) % 18446744073709551616 = _
  omega
theorem xor_lt16 {a b : Nat} (ha : a < 65536) (hb : b < 65536) : a ^^^ b < 65536 := Nat.xor_lt_two_pow (n := 16) ha hb
theorem ref_red_ev : ∀ (n p : Nat), n ≤ 7 → p < 65536 → Evt (fun k => lockboxref07_Mul.l1 k (p : Int) ((n : Int) + 7)) ((redN n p % 256 : Nat) : Int) := by
  intro n
  induction n with
  | zero =>
    intro p _ hp
    refine Evt.succ (Evt.of fun k => ?_)
    simp only [lockboxref07_Mul.l1]
    rw [if_neg (by omega)]
    rfl
  | succ n ih =>
    intro p hn hp
    have e0 : (((n + 1 : Nat) : Int) + 7) = ((n + 8 : Nat) : Int) := by omega
    rw [e0]
    have hpw : 283 * 2 ^ n < 65536 := by
      have : 2 ^ n ≤ 2 ^ 6 := Nat.pow_le_pow_right (by decide) (by omega)
      omega
    unfold redN
    have ht : p.testBit (n + 8) = true ↔ p / 2 ^ (n + 8) % 2 = 1 := by
      rw [Nat.testBit_eq_decide_div_mod_eq]; simp
    by_cases hb : p.testBit (n + 8) = true
    · rw [if_pos hb]
      refine Evt.succ (Evt.congr (ih (p ^^^ (283 * 2 ^ n)) (by omega) (xor_lt16 hp hpw)) fun k => ?_)
      simp only [lockboxref07_Mul.l1]
      rw [if_pos (by omega), u64_nat (n + 8) (by omega), if_pos (by omega), shr_nat p (n + 8) (by omega), tmod_nat, if_pos (by rw [ht.1 hb]; rfl)]
      rw [show (((n + 8 : Nat) : Int) - 8) = (n : Int) from by omega, w_nat (by omega), u64_nat n (by omega), if_pos (by omega)]
      rw [show (283 : Int) = ((283 : Nat) : Int) from rfl, shl_nat 283 n (by omega) (by omega), i64_xor_nat _ _ (by omega) (by omega)]
      rw [wrap64_nat (by omega) (by omega), show ((n + 8 : Nat) : Int) - 1 = (n : Int) + 7 from by omega]
    · rw [if_neg hb]
      refine Evt.succ (Evt.congr (ih p (by omega) hp) fun k => ?_)
      simp only [lockboxref07_Mul.l1]
      rw [if_pos (by omega), u64_nat (n + 8) (by omega), if_pos (by omega), shr_nat p (n + 8) (by omega), tmod_nat, if_neg (by
        intro e
        apply hb
        rw [ht]
        omega)]
      rw [wrap64_nat (by omega) (by omega), show ((n + 8 : Nat) : Int) - 1 = (n : Int) + 7 from by omega]
theorem ref_cl_ev (a b : Nat) (ha : a < 256) (hb : b < 256) : ∀ (m i p : Nat), i + m = 8 → p < 65536 → Evt (fun k => lockboxref07_Mul.l0 k (a : Int) (b : Int) (p : Int) (i : Int)) ((redN 7 (clN m (a * 2 ^ i) (b / 2 ^ i) p) % 256 : Nat) : Int) := by
  intro m
  induction m with
  | zero =>
    intro i p hi hp
    refine Evt.succ (Evt.congr (ref_red_ev 7 p (by omega) hp) fun k => ?_)
    simp only [lockboxref07_Mul.l0]
    rw [if_neg (by omega)]
    rfl
  | succ m ih =>
    intro i p hi hp
    have hw : ∀ _ : Unit, wrap64 ((i : Int) + 1) = ((i + 1 : Nat) : Int) := fun _ => w_add1 (by omega)
    have hpw : a * 2 ^ i < 65536 := by
      have : 2 ^ i ≤ 2 ^ 7 := Nat.pow_le_pow_right (by decide) (by omega)
      have := Nat.mul_le_mul (show a ≤ 255 by omega) this
      omega
    have e1 : 2 * (a * 2 ^ i) = a * 2 ^ (i + 1) := by rw [Nat.pow_succ, Nat.mul_comm 2, Nat.mul_assoc]
    have e2 : b / 2 ^ i / 2 = b / 2 ^ (i + 1) := by rw [Nat.pow_succ, Nat.div_div_eq_div_mul]
    unfold clN
    rw [e1, e2]
    by_cases hbit : b / 2 ^ i % 2 = 1
    · rw [if_pos hbit]
      refine Evt.succ (Evt.congr (ih (i + 1) (p ^^^ (a * 2 ^ i)) (by omega) (xor_lt16 hp hpw)) fun k => ?_)
      simp only [lockboxref07_Mul.l0]
      rw [if_pos (by omega), u64_nat i (by omega), if_pos (by omega), w_nat (a := b) (by omega), w_nat (a := a) (by omega), shr_nat b i (by omega), tmod_nat, if_pos (by omega), shl_nat a i (by omega) (by omega), i64_xor_nat _ _ (by omega) (by omega), hw ()]
    · rw [if_neg hbit]
      refine Evt.succ (Evt.congr (ih (i + 1) p (by omega) hp) fun k => ?_)
      simp only [lockboxref07_Mul.l0]
      rw [if_pos (by omega), u64_nat i (by omega), if_pos (by omega), w_nat (a := b) (by omega), shr_nat b i (by omega), tmod_nat, if_neg (by omega), hw ()]
theorem ref_mul_ev (a b : UInt8) : Evt (fun k => lockboxref07_Mul.f k (uz a) (uz b)) (uz (gmul a b)) := by
  have := ref_cl_ev a.toNat b.toNat a.toNat_lt b.toNat_lt 8 0 0 (by omega) (by omega)
  rw [Nat.pow_zero, Nat.mul_one, Nat.div_one] at this
  have e := refMul_eq a b
  unfold refMul at e
  rw [e] at this
  exact this
theorem ref_dot_ev (a b : ByteArray) (ha : a.size < 1000000) : Evt (fun k => lockboxref07_Dot.f k a b) (if a.size = b.size then (uz (gdot a.data.toList b.data.toList), 0) else (0, 1)) := by
  by_cases hl : a.size = b.size
  · rw [if_pos hl]
    have loop : ∀ (m i : Nat) (s : UInt8), i + m = a.size → Evt (fun k => lockboxref07_Dot.l0 k a b (uz s) (i : Int)) (uz (s ^^^ gdot (a.data.toList.drop i) (b.data.toList.drop i)), 0) := by
      intro m
      induction m with
      | zero =>
        intro i s hi
        refine Evt.succ (Evt.of fun k => ?_)
        simp only [lockboxref07_Dot.l0]
        rw [if_neg (by omega), List.drop_of_length_le (by rw [size_list]; omega)]
        simp [gdot]
      | succ m ih =>
        intro i s hi
        have hlt : (i : Int) < (a.size : Int) := by omega
        have hlt2 : (i : Int) < (b.size : Int) := by omega
        rw [drop_bt a i (by omega), drop_bt b i (by omega), gdot, ← UInt8.xor_assoc]
        have hw : ∀ _ : Unit, wrap64 ((i : Int) + 1) = ((i + 1 : Nat) : Int) := fun _ => w_add1 (by omega)
        refine Evt.succ (Evt.congr (Evt.bind (ref_mul_ev (a.data.toList[i]'(show i < a.size by omega)) (b.data.toList[i]'(show i < b.size by omega))) (g := fun k t => lockboxref07_Dot.l0 k a b (Go.bits .xor .u8 (uz s) t) ((i + 1 : Nat) : Int)) (by simp only [uz_xor]; exact ih (i + 1) _ (by omega))) fun k => ?_)
        simp only [lockboxref07_Dot.l0]
        rw [if_pos hlt, if_pos (Int.natCast_nonneg i), if_pos hlt2, hw (), bt_uz a i (by omega), bt_uz b i (by omega)]
    have := loop a.size 0 0 (by omega)
    simp only [List.drop_zero, UInt8.zero_xor] at this
    refine Evt.congr this fun k => ?_
    simp only [lockboxref07_Dot.f]
    rw [if_pos (by omega)]
    rfl
  · rw [if_neg hl]
    refine Evt.of fun k => ?_
    simp only [lockboxref07_Dot.f]
    rw [if_neg (by omega)]
end Go.Proofs.YtbfbekkgmbfmhaaDoor.U
