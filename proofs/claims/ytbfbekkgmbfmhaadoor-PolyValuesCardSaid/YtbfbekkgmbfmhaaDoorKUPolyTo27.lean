import Derived.Test.YtbfbekkgmbfmhaaDoorKUGf
import Derived.Test.YtbfbekkgmbfmhaaDoorKPr0To9
section
namespace Go.Proofs.YtbfbekkgmbfmhaaDoor.U
set_option linter.unusedSimpArgs false
set_option linter.unusedVariables false
theorem xor4 (a b c d : UInt8) : (a ^^^ b) ^^^ (c ^^^ d) = (a ^^^ c) ^^^ (b ^^^ d) := xor_perm a b c d
/-- The value, by Horner. -/
def pval : List UInt8 → UInt8 → UInt8
  | [], _ => 0
  | a :: l, x => a ^^^ gmul x (pval l x)
/-- Pointwise sum, as_ long as_ the longer one. -/
def padd : List UInt8 → List UInt8 → List UInt8
  | [], m => m
  | l, [] => l
  | a :: l, b :: m => (a ^^^ b) :: padd l m
theorem padd_nil (l : List UInt8) : padd l [] = l := by cases l <;> rfl
theorem padd_length : ∀ l m : List UInt8, (padd l m).length = max l.length m.length
  | [], m => by simp [padd]
  | a :: l, [] => by simp [padd]
  | a :: l, b :: m => by simp only [padd, List.length_cons, padd_length l m]; omega
theorem pval_padd : ∀ (l m : List UInt8) (x : UInt8), pval (padd l m) x = pval l x ^^^ pval m x
  | [], m, x => by simp [padd, pval]
  | a :: l, [], x => by simp [padd, pval]
  | a :: l, b :: m, x => by
    simp only [padd, pval]
    rw [pval_padd l m x, xor_gmul, xor4]
def psmul (c : UInt8) (l : List UInt8) : List UInt8 := l.map (gmul c)
theorem psmul_length (c : UInt8) (l : List UInt8) : (psmul c l).length = l.length := List.length_map _
theorem pval_psmul (c : UInt8) (l : List UInt8) (x : UInt8) : pval (psmul c l) x = gmul c (pval l x) := by
  induction l with
  | nil => simp [psmul, pval, gmul_zero]
  | cons a l ih =>
    simp only [psmul, List.map_cons, pval] at ih ⊢
    rw [ih, xor_gmul, gmul_left_comm]
/-- A function that is a polynomial's value, of at most n bytes. -/
def IsPoly (n : Nat) (f : UInt8 → UInt8) : Prop := ∃ p : List UInt8, p.length ≤ n ∧ ∀ x, f x = pval p x
theorem IsPoly.mono {n m : Nat} {f : UInt8 → UInt8} (h : IsPoly n f) (hm : n ≤ m) : IsPoly m f := by
  obtain ⟨p, h1, h2⟩ := h; exact ⟨p, by omega, h2⟩
theorem IsPoly.add {n : Nat} {f g : UInt8 → UInt8} (hf : IsPoly n f) (hg : IsPoly n g) : IsPoly n (fun x => f x ^^^ g x) := by
  obtain ⟨p, h1, h2⟩ := hf
  obtain ⟨q, h3, h4⟩ := hg
  exact ⟨padd p q, by rw [padd_length]; omega, fun x => by show f x ^^^ g x = _; rw [pval_padd, h2, h4]⟩
theorem IsPoly.zero (n : Nat) : IsPoly n (fun _ => 0) := ⟨[], Nat.zero_le _, fun _ => rfl⟩
theorem IsPoly.const (c : UInt8) {n : Nat} (h : 1 ≤ n) : IsPoly n (fun _ => c) := ⟨[c], h, fun x => by simp [pval, gmul_zero]⟩
/-- Trimmed: no byte 0 at the end. -/
def ptrim : List UInt8 → List UInt8
  | [] => []
  | a :: l => if ptrim l = [] ∧ a = 0 then [] else a :: ptrim l
theorem ptrim_length : ∀ l : List UInt8, (ptrim l).length ≤ l.length
  | [] => Nat.le_refl _
  | a :: l => by
    have := ptrim_length l
    unfold ptrim
    split
    · simp
    · simp; exact this
theorem pval_ptrim : ∀ (l : List UInt8) (x : UInt8), pval (ptrim l) x = pval l x
  | [], _ => rfl
  | a :: l, x => by
    have ih := pval_ptrim l x
    unfold ptrim
    split
    · rename_i h
      rw [h.1] at ih
      simp only [pval] at ih ⊢
      rw [← ih, h.2, gmul_zero, UInt8.xor_self]
    · simp only [pval, ih]
theorem ptrim_snoc : ∀ (l : List UInt8) (c : UInt8), ptrim (l ++ [c]) = if c = 0 then ptrim l else l ++ [c]
  | [], c => by
    by_cases h : c = 0 <;> simp [ptrim, h]
  | a :: l, c => by
    have ih := ptrim_snoc l c
    by_cases h : c = 0
    · rw [if_pos h] at ih ⊢
      simp only [List.cons_append, ptrim, ih]
    · rw [if_neg h] at ih ⊢
      simp only [List.cons_append, ptrim, ih]
      simp
theorem ptrim_idem (l : List UInt8) : ptrim (ptrim l) = ptrim l := by
  induction l with
  | nil => rfl
  | cons a l ih =>
    by_cases h : ptrim l = [] ∧ a = 0
    · have e : ptrim (a :: l) = [] := by rw [ptrim, if_pos h]
      rw [e]; rfl
    · have e : ptrim (a :: l) = a :: ptrim l := by rw [ptrim, if_neg h]
      rw [e, ptrim, ih, if_neg h]
theorem ptrim_padd_self (l : List UInt8) : ptrim (padd l l) = [] := by
  induction l with
  | nil => rfl
  | cons a l ih => simp [padd, ptrim, ih]
end Go.Proofs.YtbfbekkgmbfmhaaDoor.U
end
section
namespace Go.Proofs.YtbfbekkgmbfmhaaDoor.U
open Go.RowKit Go.Proofs.YtbfbekkgmbfmhaaDoorW.PrintWords Go.Proofs.YtbfbekkgmbfmhaaDoorW.PrintLast Go.Proofs.YtbfbekkgmbfmhaaDoorW.PrintMore

def Evt {α : Type} (f : Nat → Option α) (r : α) : Prop := ∃ K, ∀ k, K ≤ k → f k = some r
theorem Evt.const {α : Type} {r : α} : Evt (fun _ => some r) r := ⟨0, fun _ _ => rfl⟩
theorem Evt.of {α : Type} {f : Nat → Option α} {r : α} (h : ∀ k, f k = some r) : Evt f r := ⟨0, fun k _ => h k⟩
theorem Evt.bind {α β : Type} {f : Nat → Option α} {a : α} {g : Nat → α → Option β} {r : β} (h : Evt f a) (h2 : Evt (fun k => g k a) r) : Evt (fun k => (f k).bind (g k)) r := by
  obtain ⟨K, hK⟩ := h
  obtain ⟨L, hL⟩ := h2
  refine ⟨max K L, fun k hk => ?_⟩
  simp only
  rw [hK k (by omega)]
  exact hL k (by omega)
theorem Evt.succ {α : Type} {f : Nat → Option α} {r : α} (h : Evt (fun k => f (k + 1)) r) : Evt f r := by
  obtain ⟨K, hK⟩ := h
  refine ⟨K + 1, fun k hk => ?_⟩
  obtain ⟨j, rfl⟩ : ∃ j, k = j + 1 := ⟨k - 1, by omega⟩
  exact hK j (by omega)
theorem Evt.congr {α : Type} {f g : Nat → Option α} {r : α} (h : Evt g r) (e : ∀ k, f k = g k) : Evt f r := by
  obtain ⟨K, hK⟩ := h
  exact ⟨K, fun k hk => (e k).trans (hK k hk)⟩
theorem Evt.get {α : Type} {f : Nat → Option α} {r : α} (h : Evt f r) : ∃ k, f k = some r := by
  obtain ⟨K, hK⟩ := h
  exact ⟨K, hK K (Nat.le_refl _)⟩
theorem Evt.mono {α : Type} {f : Nat → Option α} {r : α} (hm : ∀ k, LeO (f k) (f (k + 1))) {k : Nat} (h : f k = some r) : Evt f r := ⟨k, fun _ hj => at_rounds hm hj h⟩

theorem wrap64_nat {n : Int} (h0 : 0 ≤ n) (h1 : n < 9223372036854775808) : wrap64 n = n := by unfold wrap64; omega
theorem w_add1 {a : Nat} (h : a < 9223372036854775807) : wrap64 ((a : Int) + 1) = ((a + 1 : Nat) : Int) := by rw [wrap64_nat (by omega) (by omega)]; rfl
theorem w_add {a b : Nat} (h : a + b < 9223372036854775808) : wrap64 ((a : Int) + (b : Int)) = ((a + b : Nat) : Int) := by rw [wrap64_nat (by omega) (by omega)]; rfl
theorem bt_eq (s : ByteArray) (p : Nat) (h : p < s.size) : ∃ c : UInt8, s.data.toList.drop p = c :: s.data.toList.drop (p + 1) ∧ bt s (p : Int) = (c.toNat : Int) := by
  have hl : p < s.data.toList.length := h
  refine ⟨s.data.toList[p], List.drop_eq_getElem_cons hl, ?_⟩
  unfold bt
  rw [dif_pos (by simpa using h)]
  rfl
theorem extract_eq (s : ByteArray) (a b : Nat) : s.extract a b = ⟨((s.data.toList.drop a).take (b - a)).toArray⟩ := by
  have h : (s.extract a b).data = ((s.data.toList.drop a).take (b - a)).toArray := by
    rw [ByteArray.data_extract]
    apply Array.toList_inj.1
    rw [Array.toList_extract]
  cases hs : s.extract a b with
  | mk d => rw [hs] at h; simp only at h; rw [h]
end Go.Proofs.YtbfbekkgmbfmhaaDoor.U
end
