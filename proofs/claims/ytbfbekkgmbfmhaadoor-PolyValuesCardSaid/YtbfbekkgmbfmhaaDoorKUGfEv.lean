import Derived.Test.YtbfbekkgmbfmhaaDoorKUGf
import Derived.Test.YtbfbekkgmbfmhaaDoorKUPolyTo27
import Derived.Test.YtbfbekkgmbfmhaaDoorKPrGfInvTo12
import Derived.Test.YtbfbekkgmbfmhaaDoorKPrGfDot
import Derived.Test.YtbfbekkgmbfmhaaDoorKPrLockboxref07Inv
import Derived.Test.YtbfbekkgmbfmhaaDoorKPrLockboxref07Dot
import Derived.Test.YtbfbekkgmbfmhaaDoorKPrPolyAdd
namespace Go.Proofs.YtbfbekkgmbfmhaaDoor.U
open Go.RowKit Go.Proofs.YtbfbekkgmbfmhaaDoor.Pr Go.Proofs.YtbfbekkgmbfmhaaDoorW.PrintWords Go.Proofs.YtbfbekkgmbfmhaaDoorW.PrintLast Go.Proofs.YtbfbekkgmbfmhaaDoorW.PrintMore
set_option linter.unusedVariables false
set_option linter.unusedSimpArgs false
/-- A byte as_ a number. -/
abbrev uz (a : UInt8) : Int := (a.toNat : Int)
theorem uz_inj {a b : UInt8} : uz a = uz b ↔ a = b := by
  unfold uz
  constructor
  · intro h; apply UInt8.toNat_inj.1; omega
  · intro h; rw [h]
theorem uz_xor (a b : UInt8) : Go.bits .xor .u8 (uz a) (uz b) = uz (a ^^^ b) := u8_xor_int a b
theorem gdouble_f (a : UInt8) : gf_double.f (uz a) = some (uz (gdbl a)) := all_u8 (P := fun a => gf_double.f (uz a) = some (uz (gdbl a))) (by decide +kernel) a
theorem half_u8 (b : UInt8) : uz b / (2 : Int) = uz (b >>> 1) := all_u8 (P := fun b => uz b / (2 : Int) = uz (b >>> 1)) (by decide +kernel) b
theorem bit_u8 (b : UInt8) : (Go.bits .and .u8 (uz b) 1 = 1) ↔ b &&& 1 = 1 := all_u8 (P := fun b => (Go.bits .and .u8 (uz b) 1 = 1) ↔ b &&& 1 = 1) (by decide +kernel) b
theorem half_lt (b : UInt8) (n : Nat) (h : b.toNat < 2 ^ (n + 1)) : (b >>> 1).toNat < 2 ^ n := by
  have : uz b / (2 : Int) = uz (b >>> 1) := half_u8 b
  unfold uz at this
  rw [Nat.pow_succ] at h
  omega
theorem gmulF_done : ∀ (n : Nat) (a p : UInt8), gmulF n a 0 p = p
  | 0, _, _ => rfl
  | n + 1, a, p => by
    unfold gmulF
    rw [if_neg (by decide), show (0 : UInt8) >>> 1 = 0 from rfl]
    exact gmulF_done n _ _
theorem gmul_l_ev : ∀ (n : Nat) (a b p : UInt8), b.toNat < 2 ^ n → Evt (fun k => gf_Mul.l0 k (uz a) (uz b) (uz p)) (uz (gmulF n a b p)) := by
  intro n
  induction n with
  | zero =>
    intro a b p hb
    obtain rfl : b = 0 := by apply UInt8.toNat_inj.1; simp at hb; simpa using hb
    refine Evt.succ (Evt.of fun k => ?_)
    simp only [gf_Mul.l0]
    rw [if_pos (show uz 0 = 0 from rfl)]
    rfl
  | succ n ih =>
    intro a b p hb
    by_cases h0 : b = 0
    · subst h0
      rw [gmulF_done]
      refine Evt.succ (Evt.of fun k => ?_)
      simp only [gf_Mul.l0]
      rw [if_pos (show uz 0 = 0 from rfl)]
    · have hz : ¬ uz b = 0 := fun e => h0 (uz_inj.1 e)
      unfold gmulF
      have hr := ih (gdbl a) (b >>> 1) (if b &&& 1 = 1 then p ^^^ a else p) (half_lt b n hb)
      by_cases h1 : b &&& 1 = 1
      · rw [if_pos h1] at hr ⊢
        refine Evt.succ (Evt.congr hr fun k => ?_)
        simp only [gf_Mul.l0]
        rw [if_neg hz, if_pos ((bit_u8 b).2 h1), gdouble_f, half_u8, uz_xor]
        rfl
      · rw [if_neg h1] at hr ⊢
        refine Evt.succ (Evt.congr hr fun k => ?_)
        simp only [gf_Mul.l0]
        rw [if_neg hz, if_neg (fun e => h1 ((bit_u8 b).1 e)), gdouble_f, half_u8]
        rfl
theorem gf_mul_ev (a b : UInt8) : Evt (fun k => gf_Mul.f k (uz a) (uz b)) (uz (gmul a b)) := gmul_l_ev 8 a b 0 b.toNat_lt
theorem tmod_nat (n : Nat) : Int.tmod (n : Int) 2 = ((n % 2 : Nat) : Int) := by rw [Int.tmod_eq_emod_of_nonneg (by omega)]; rfl
theorem half_wrap (n : Nat) (h : n < 1000000) : wrap64 (Int.tdiv (n : Int) 2) = ((n / 2 : Nat) : Int) := by
  rw [Int.tdiv_eq_ediv_of_nonneg (by omega), wrap64_nat (by omega) (by omega)]; rfl
theorem graise_done : ∀ (m : Nat) (a p : UInt8), graise m a 0 p = p
  | 0, _, _ => rfl
  | m + 1, _, _ => by unfold graise; rw [if_pos rfl]
theorem graise_ev : ∀ (m n : Nat) (a p : UInt8), n < 2 ^ m → n < 1000000 → Evt (fun k => gf_raise.l0 k (uz a) (n : Int) (uz p)) (uz (graise m a n p)) := by
  intro m
  induction m with
  | zero =>
    intro n a p hn _
    obtain rfl : n = 0 := by simp at hn; exact hn
    refine Evt.succ (Evt.of fun k => ?_)
    simp only [gf_raise.l0]
    rw [if_neg (by omega)]
    rfl
  | succ m ih =>
    intro n a p hn hs
    by_cases h0 : n = 0
    · subst h0
      rw [graise_done]
      refine Evt.succ (Evt.of fun k => ?_)
      simp only [gf_raise.l0]
      rw [if_neg (by omega)]
    · have hn2 : n / 2 < 2 ^ m := by rw [Nat.pow_succ] at hn; omega
      have hs2 : n / 2 < 1000000 := by omega
      have hpos : (n : Int) > 0 := by omega
      have hw : ∀ _ : Unit, wrap64 (Int.tdiv (n : Int) 2) = ((n / 2 : Nat) : Int) := fun _ => half_wrap n hs
      have hm : ∀ _ : Unit, Int.tmod (n : Int) 2 = ((n % 2 : Nat) : Int) := fun _ => tmod_nat n
      unfold graise
      rw [if_neg h0]
      by_cases h1 : n % 2 = 1
      · rw [if_pos h1]
        refine Evt.succ (Evt.congr (Evt.bind (gf_mul_ev p a) (g := fun k t => (gf_Mul.f k (uz a) (uz a)).bind fun t2 => gf_raise.l0 k t2 ((n / 2 : Nat) : Int) t) (Evt.bind (gf_mul_ev a a) (g := fun k t2 => gf_raise.l0 k t2 ((n / 2 : Nat) : Int) (uz (gmul p a))) (ih (n / 2) (gmul a a) (gmul p a) hn2 hs2))) fun k => ?_)
        simp only [gf_raise.l0]
        rw [if_pos hpos, hm (), if_pos (by omega), hw ()]
      · rw [if_neg h1]
        refine Evt.succ (Evt.congr (Evt.bind (gf_mul_ev a a) (g := fun k t2 => gf_raise.l0 k t2 ((n / 2 : Nat) : Int) (uz p)) (ih (n / 2) (gmul a a) p hn2 hs2)) fun k => ?_)
        simp only [gf_raise.l0]
        rw [if_pos hpos, hm (), if_neg (by omega), hw ()]
theorem gf_inv_ev (a : UInt8) : Evt (fun k => gf_Inv.f k (uz a)) (if a = 0 then (0, 1) else (uz (ginv a), 0)) := by
  by_cases h : a = 0
  · subst h
    refine Evt.of fun k => ?_
    simp only [gf_Inv.f]
    rw [if_pos (show uz 0 = 0 from rfl)]; rfl
  · rw [if_neg h]
    refine Evt.congr (Evt.bind (graise_ev 9 254 a 1 (by decide) (by decide)) (g := fun k t => some (t, (0 : Int))) (Evt.of fun k => rfl)) fun k => ?_
    simp only [gf_Inv.f]
    rw [if_neg (show ¬ uz a = 0 from fun e => h (uz_inj.1 (show uz a = uz 0 from e)))]
    rfl
theorem gf_div_ev (a b : UInt8) (h : b ≠ 0) : Evt (fun k => gf_Div.f k (uz a) (uz b)) (uz (gmul a (ginv b)), 0) := by
  have := gf_inv_ev b
  rw [if_neg h] at this
  exact Evt.bind this (Evt.bind (gf_mul_ev a (ginv b)) Evt.const)
theorem bt_uz (s : ByteArray) (i : Nat) (h : i < s.size) : bt s (i : Int) = uz s.data.toList[i] := by
  obtain ⟨c, h1, h2⟩ := bt_eq s i h
  have h3 : s.data.toList.drop i = s.data.toList[i] :: s.data.toList.drop (i + 1) := List.drop_eq_getElem_cons (show i < s.data.toList.length from h)
  rw [h3] at h1
  rw [h2, (List.cons.inj h1).1]
end Go.Proofs.YtbfbekkgmbfmhaaDoor.U
