import Derived.Test.YtbfbekkgmbfmhaaDoorKUPoly
import Derived.Test.YtbfbekkgmbfmhaaDoorKUGfEv
import Derived.Test.YtbfbekkgmbfmhaaDoorKPrGfAddTo19
import Derived.Test.YtbfbekkgmbfmhaaDoorKPrPolyAdd
import Derived.Test.YtbfbekkgmbfmhaaDoorKPrPolyPointsTo18
import Derived.Test.YtbfbekkgmbfmhaaDoorKPrLockboxref08Value
import Derived.Test.YtbfbekkgmbfmhaaDoorKPrLockboxref08Add
import Derived.Test.YtbfbekkgmbfmhaaDoorKPrLockboxref08Mul
namespace Go.Proofs.YtbfbekkgmbfmhaaDoor.U
open Go.RowKit Go.Proofs.YtbfbekkgmbfmhaaDoor.Pr Go.Proofs.YtbfbekkgmbfmhaaDoorW.PrintWords Go.Proofs.YtbfbekkgmbfmhaaDoorW.PrintLast Go.Proofs.YtbfbekkgmbfmhaaDoorW.PrintMore
set_option linter.unusedVariables false
set_option linter.unusedSimpArgs false
/-- A text of bytes. -/
abbrev bs (l : List UInt8) : ByteArray := ⟨l.toArray⟩
theorem bs_self (s : ByteArray) : bs s.data.toList = s := by apply ByteArray.ext; simp
theorem bs_list (l : List UInt8) : (bs l).data.toList = l := by simp
theorem bs_size (l : List UInt8) : (bs l).size = l.length := by show l.toArray.size = _; simp
theorem snoc_cases (l : List UInt8) : l = [] ∨ ∃ m c, l = m ++ [c] := by
  rcases List.eq_nil_or_concat l with h | ⟨m, c, h⟩
  · exact .inl h
  · exact .inr ⟨m, c, by simpa using h⟩
theorem bs_take (l : List UInt8) (n : Nat) : (bs l).extract 0 n = bs (l.take n) := by
  rw [extract_eq]; simp
theorem trim_ev : ∀ (n : Nat) (l : List UInt8), l.length = n → n < 1000000 → Evt (fun k => strings_trimRightByte.l0 k (bs l) 0) (bs (ptrim l)) := by
  intro n
  induction n with
  | zero =>
    intro l hl _
    obtain rfl := List.eq_nil_of_length_eq_zero hl
    refine Evt.succ (Evt.of fun k => ?_)
    simp only [strings_trimRightByte.l0, bs_size]
    rw [if_neg (by decide)]
    rfl
  | succ n ih =>
    intro l hl hs
    rcases snoc_cases l with rfl | ⟨m, c, rfl⟩
    · cases hl
    · have hm : m.length = n := by simpa using hl
      have hw : ∀ _ : Unit, wrap64 (((m ++ [c]).length : Int) - 1) = (m.length : Int) := fun _ => by
        rw [List.length_append, wrap64_nat (by simp) (by simp; omega)]; simp
      have hb : bt (bs (m ++ [c])) (m.length : Int) = uz c := by
        rw [bt_uz _ _ (by rw [bs_size]; simp)]
        simp [bs]
      have hlen : (m ++ [c]).length = m.length + 1 := by simp
      rw [ptrim_snoc]
      by_cases h0 : c = 0
      · rw [if_pos h0]
        refine Evt.succ (Evt.congr (ih m hm (by omega)) fun k => ?_)
        simp only [strings_trimRightByte.l0, bs_size]
        rw [hw (), if_pos (by omega), if_pos (by omega), if_pos (by omega), hb, if_pos (by rw [h0]; rfl), if_pos (by omega), Int.toNat_natCast, bs_take, List.take_left]
      · rw [if_neg h0]
        refine Evt.succ (Evt.of fun k => ?_)
        simp only [strings_trimRightByte.l0, bs_size]
        rw [hw (), if_pos (by omega), if_pos (by omega), if_pos (by omega), hb, if_neg (show ¬ uz c = 0 from fun e => h0 (uz_inj.1 (show uz c = uz 0 from e)))]
theorem ptrim_ev (l : List UInt8) (h : l.length < 1000000) : Evt (fun k => poly_Trim.f k (bs l)) (bs (ptrim l)) := by
  refine Evt.bind ?_ Evt.const
  by_cases h0 : l = []
  · subst h0
    refine Evt.of fun k => ?_
    simp only [strings_TrimRight.f, if_true]
    rw [if_pos (show (bs []).size = 0 from rfl)]
    rfl
  · refine Evt.congr (trim_ev l.length l rfl h) fun k => ?_
    simp only [strings_TrimRight.f, if_true]
    rw [if_neg (by rw [bs_size]; intro e; exact h0 (List.eq_nil_of_length_eq_zero e))]
    rfl
theorem pval_snoc (l : List UInt8) (c x : UInt8) : pval (l ++ [c]) x = pval l x ^^^ gmul (gpow x l.length) c := by
  induction l with
  | nil => simp [pval, gpow, gmul_zero, one_gmul]
  | cons a l ih =>
    have e : gmul (gpow x (l.length + 1)) c = gmul x (gmul (gpow x l.length) c) := by
      show gmul (gmul (gpow x l.length) x) c = _
      rw [gmul_comm (gpow x l.length) x, gmul_assoc]
    simp only [List.cons_append, pval, ih, List.length_cons, e, xor_gmul, UInt8.xor_assoc]
theorem value_ev (l : List UInt8) (x : UInt8) (h : l.length < 1000000) : Evt (fun k => poly_Value.f k (bs l) (uz x)) (uz (pval l x)) := by
  have loop : ∀ (n : Nat) (v : UInt8), n ≤ l.length → Evt (fun k => poly_Value.l k (bs l) (uz x) n (uz v)) (uz (pval (l.take n) x ^^^ gmul (gpow x n) v)) := by
    intro n
    induction n with
    | zero =>
      intro v _
      refine Evt.of fun k => ?_
      simp [poly_Value.l, pval, gpow, one_gmul]
    | succ n ih =>
      intro v hn
      have hn' : n < l.length := by omega
      have hb : bt (bs l) (n : Int) = uz l[n] := by rw [bt_uz _ _ (by rw [bs_size]; omega)]
      have e : pval (l.take (n + 1)) x ^^^ gmul (gpow x (n + 1)) v = pval (l.take n) x ^^^ gmul (gpow x n) (gmul v x ^^^ l[n]) := by
        have e2 : gmul (gpow x (n + 1)) v = gmul (gpow x n) (gmul v x) := by
          show gmul (gmul (gpow x n) x) v = _
          rw [gmul_assoc, gmul_comm x v]
        rw [List.take_succ_eq_append_getElem hn', pval_snoc, List.length_take, Nat.min_eq_left (by omega), xor_gmul, e2, UInt8.xor_assoc, UInt8.xor_comm (gmul (gpow x n) l[n])]
      rw [e]
      refine Evt.congr (Evt.bind (gf_mul_ev v x) (g := fun k t => poly_Value.l k (bs l) (uz x) n (Go.bits .xor .u8 t (uz l[n]))) ?_) fun k => ?_
      · simp only [uz_xor]
        exact ih _ (by omega)
      · rw [poly_Value.l, hb]
  have := loop l.length 0 (Nat.le_refl _)
  rw [List.take_length, gmul_zero, UInt8.xor_zero] at this
  refine Evt.congr this fun k => ?_
  simp only [poly_Value.f, bs_size]
  rw [if_pos h]
  rfl
theorem ref_value_ev (l : List UInt8) (x : UInt8) (h : l.length < 1000000) : Evt (fun k => lockboxref08_Value.f k (bs l) (uz x)) (uz (pval l x)) := by
  have loop : ∀ (m i : Nat) (v p : UInt8), i + m = l.length → Evt (fun k => lockboxref08_Value.l0 k (bs l) (uz x) (uz v) (uz p) (i : Int)) (uz (v ^^^ gmul p (pval (l.drop i) x))) := by
    intro m
    induction m with
    | zero =>
      intro i v p hi
      refine Evt.succ (Evt.of fun k => ?_)
      simp only [lockboxref08_Value.l0, bs_size]
      rw [if_neg (by omega), List.drop_of_length_le (by omega)]
      simp [pval, gmul_zero]
    | succ m ih =>
      intro i v p hi
      have hi' : i < l.length := by omega
      have hb : bt (bs l) (i : Int) = uz l[i] := by rw [bt_uz _ _ (by rw [bs_size]; omega)]
      have hw : ∀ _ : Unit, wrap64 ((i : Int) + 1) = ((i + 1 : Nat) : Int) := fun _ => w_add1 (by omega)
      have e : v ^^^ gmul p (pval (l.drop i) x) = (v ^^^ gmul l[i] p) ^^^ gmul (gmul p x) (pval (l.drop (i + 1)) x) := by
        rw [List.drop_eq_getElem_cons hi', pval, xor_gmul, gmul_comm p l[i], gmul_assoc, UInt8.xor_assoc]
      rw [e]
      have h3 := ih (i + 1) (v ^^^ gmul l[i] p) (gmul p x) (by omega)
      rw [← uz_xor] at h3
      have h2 : Evt (fun k => (lockboxref07_Mul.f k (uz p) (uz x)).bind fun u => lockboxref08_Value.l0 k (bs l) (uz x) (Go.bits .xor .u8 (uz v) (uz (gmul l[i] p))) u ((i + 1 : Nat) : Int)) _ := Evt.bind (ref_mul_ev p x) h3
      have h1 : Evt (fun k => (lockboxref07_Mul.f k (uz l[i]) (uz p)).bind fun t => (lockboxref07_Mul.f k (uz p) (uz x)).bind fun u => lockboxref08_Value.l0 k (bs l) (uz x) (Go.bits .xor .u8 (uz v) t) u ((i + 1 : Nat) : Int)) _ := Evt.bind (ref_mul_ev l[i] p) h2
      refine Evt.succ (Evt.congr h1 fun k => ?_)
      simp only [lockboxref08_Value.l0, bs_size]
      rw [if_pos (by omega), if_pos (by omega), hb, hw ()]
  have := loop l.length 0 0 1 (by omega)
  rw [List.drop_zero, UInt8.zero_xor, one_gmul] at this
  exact this

/-! ### sums -/
def paddT (l m : List UInt8) : List UInt8 := ptrim (padd l m)
theorem padd_comm : ∀ l m : List UInt8, padd l m = padd m l
  | [], m => by simp [padd, padd_nil]
  | a :: l, [] => rfl
  | a :: l, b :: m => by simp only [padd, UInt8.xor_comm a b, padd_comm l m]
theorem xorOnto_padd : ∀ l m : List UInt8, m.length ≤ l.length → xorOnto l m = padd l m
  | [], m, h => by
    obtain rfl := List.eq_nil_of_length_eq_zero (by simpa using h)
    rfl
  | a :: l, [], _ => rfl
  | a :: l, b :: m, h => by simp only [xorOnto, padd, xorOnto_padd l m (by simpa using h)]
theorem add_ev (l m : List UInt8) (hl : l.length < 1000000) (hm : m.length < 1000000) : Evt (fun k => poly_Add.f k (bs l) (bs m)) (bs (paddT l m)) := by
  have hx : ∀ a b : List UInt8, b.length ≤ a.length → poly_Add.x (bs a) (bs b) = bs (padd a b) := fun a b h => by
    unfold poly_Add.x; rw [bs_list, bs_list, xorOnto_padd _ _ h]
  have ht := ptrim_ev (padd l m) (by rw [padd_length]; omega)
  refine Evt.congr ht fun k => ?_
  simp only [poly_Add.f, bs_size]
  rw [if_pos ⟨hl, hm⟩]
  by_cases c : (l.length : Int) < (m.length : Int)
  · rw [if_pos c, hx m l (by omega), padd_comm]
  · rw [if_neg c, hx l m (by omega)]
theorem padd_get : ∀ (l m : List UInt8) (i : Nat), (padd l m).getD i 0 = l.getD i 0 ^^^ m.getD i 0
  | [], m, i => by simp [padd]
  | a :: l, [], i => by simp [padd]
  | a :: l, b :: m, 0 => by simp [padd]
  | a :: l, b :: m, i + 1 => by
    have := padd_get l m i
    simpa [padd] using this
theorem ints8_snoc (l : List UInt8) (c : UInt8) : ints8 (l ++ [c]) = ints8 l ++ [uz c] := by simp [ints8]
end Go.Proofs.YtbfbekkgmbfmhaaDoor.U
