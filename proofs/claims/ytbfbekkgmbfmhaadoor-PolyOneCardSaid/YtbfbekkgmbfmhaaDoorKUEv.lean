import Derived.Test.YtbfbekkgmbfmhaaDoorKWMoreTo8
namespace Go.Proofs.YtbfbekkgmbfmhaaDoor.U
open Go.RowKit Go.Proofs.YtbfbekkgmbfmhaaDoorW.PrintWords Go.Proofs.YtbfbekkgmbfmhaaDoorW.PrintLast Go.Proofs.YtbfbekkgmbfmhaaDoorW.PrintMore

def Evt {α : Type} (f : Nat → Option α) (r : α) : Prop := ∃ K, ∀ k, K ≤ k → f k = some r
theorem Evt.const {α : Type} {r : α} : Evt (fun _ => some r) r := ⟨0, fun _ _ => rfl⟩
theorem Evt.of {α : Type} {f : Nat → Option α} {r : α} (h : ∀ k, f k = some r) : Evt f r := ⟨0, fun k _ => h k⟩
theorem Evt.bind {α β : Type} {f : Nat → Option α} {a : α} {g : Nat → α → Option β} {r : β} (h : Evt f a) (h2 : Evt (fun k => g k a) r) : Evt (fun k => (f k).bind (g k)) r := by
  obtain ⟨K, hK⟩ := h
  obtain ⟨L, hL⟩ := h2
  refine ⟨max K L, fun k hk => ?_⟩
  simp only
  rw [hK k (by omega)]
  exact hL k (by omega)
theorem Evt.succ {α : Type} {f : Nat → Option α} {r : α} (h : Evt (fun k => f (k + 1)) r) : Evt f r := by
  obtain ⟨K, hK⟩ := h
  refine ⟨K + 1, fun k hk => ?_⟩
  obtain ⟨j, rfl⟩ : ∃ j, k = j + 1 := ⟨k - 1, by omega⟩
  exact hK j (by omega)
theorem Evt.congr {α : Type} {f g : Nat → Option α} {r : α} (h : Evt g r) (e : ∀ k, f k = g k) : Evt f r := by
  obtain ⟨K, hK⟩ := h
  exact ⟨K, fun k hk => (e k).trans (hK k hk)⟩
theorem Evt.get {α : Type} {f : Nat → Option α} {r : α} (h : Evt f r) : ∃ k, f k = some r := by
  obtain ⟨K, hK⟩ := h
  exact ⟨K, hK K (Nat.le_refl _)⟩
theorem Evt.mono {α : Type} {f : Nat → Option α} {r : α} (hm : ∀ k, LeO (f k) (f (k + 1))) {k : Nat} (h : f k = some r) : Evt f r := ⟨k, fun _ hj => at_rounds hm hj h⟩

theorem wrap64_nat {n : Int} (h0 : 0 ≤ n) (h1 : n < 9223372036854775808) : wrap64 n = n := by unfold wrap64; omega
theorem w_add1 {a : Nat} (h : a < 9223372036854775807) : wrap64 ((a : Int) + 1) = ((a + 1 : Nat) : Int) := by rw [wrap64_nat (by omega) (by omega)]; rfl
theorem w_add {a b : Nat} (h : a + b < 9223372036854775808) : wrap64 ((a : Int) + (b : Int)) = ((a + b : Nat) : Int) := by rw [wrap64_nat (by omega) (by omega)]; rfl
theorem bt_eq (s : ByteArray) (p : Nat) (h : p < s.size) : ∃ c : UInt8, s.data.toList.drop p = c :: s.data.toList.drop (p + 1) ∧ bt s (p : Int) = (c.toNat : Int) := by
  have hl : p < s.data.toList.length := h
  refine ⟨s.data.toList[p], List.drop_eq_getElem_cons hl, ?_⟩
  unfold bt
  rw [dif_pos (by simpa using h)]
  rfl
theorem extract_eq (s : ByteArray) (a b : Nat) : s.extract a b = ⟨((s.data.toList.drop a).take (b - a)).toArray⟩ := by
  have h : (s.extract a b).data = ((s.data.toList.drop a).take (b - a)).toArray := by
    rw [ByteArray.data_extract]
    apply Array.toList_inj.1
    rw [Array.toList_extract]
  cases hs : s.extract a b with
  | mk d => rw [hs] at h; simp only at h; rw [h]
end Go.Proofs.YtbfbekkgmbfmhaaDoor.U
