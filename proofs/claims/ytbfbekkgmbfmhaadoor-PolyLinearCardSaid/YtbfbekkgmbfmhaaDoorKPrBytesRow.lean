import Derived.Test.YtbfbekkgmbfmhaaDoorKWMoreTo8
import Derived.Lib.ConvBytes
import Derived.Laws.BytesArg
namespace Go.Proofs.YtbfbekkgmbfmhaaDoor.Pr
open Go.RowKit Go.Proofs.YtbfbekkgmbfmhaaDoorW.PrintWords Go.Proofs.YtbfbekkgmbfmhaaDoorW.PrintLast Go.Proofs.YtbfbekkgmbfmhaaDoorW.PrintMore
attribute [local go_sem] max2_int min2_int max_two min_two max_three min_three max_four min_four   -- for this text's walks alone
set_option linter.unusedVariables false
set_option linter.unusedSimpArgs false

/-! ### bytes_Row: function 0 -/
/-- A row of bytes that a string was turned into: n bytes, room for cap. Such a row bears a mark behind its cells. -/
def BRow (w : World) (g cap : Nat) (xs : List Int) : Prop := ∃ cur : Array Value, w.heap[g]? = some (.cells cur 5 (cap, cap + 1)) ∧ xs.length ≤ cap ∧ cur.size = cap ∧ cur.toList.take xs.length = xs.map (Value.int .u8)
def bytesInts (s : ByteArray) : List Int := s.data.toList.map fun c => (c.toNat : Int)
theorem bytesInts_length (s : ByteArray) : (bytesInts s).length = s.size := by unfold bytesInts; rw [List.length_map]; rfl
theorem BRow.cell {w : World} {g cap : Nat} {xs : List Int} (h : BRow w g cap xs) (i : Nat) (hi : i < xs.length) : w.cell? ⟨g, i, none⟩ = some (.int .u8 (xs.getD i 0)) := by
  obtain ⟨cur, h1, h2, h3, h4⟩ := h
  rw [cell_of_row w g i cur 5 (cap, cap + 1) h1]
  have hc : i < cur.toList.length := by simp; omega
  have e : (cur.toList.take xs.length)[i]? = some cur.toList[i] := by rw [List.getElem?_take_of_lt hi]; exact List.getElem?_eq_getElem hc
  rw [h4, List.getElem?_map, List.getElem?_eq_getElem hi] at e
  rw [← Array.getElem?_toList, List.getElem?_eq_getElem hc, ← e]
  simp [hi]
theorem BRow.free {w : World} {g cap : Nat} {xs : List Int} (h : BRow w g cap xs) (i : Nat) (hi : i < xs.length) : w.frozen? ⟨g, i, none⟩ = false := by
  obtain ⟨cur, h1, h2, h3, h4⟩ := h
  simp only [World.frozen?, h1]
  have : ¬ cap ≤ i := by omega
  simp [this]
theorem BRow.put {w : World} {g cap : Nat} {xs : List Int} (h : BRow w g cap xs) (i : Nat) (hi : i < xs.length) (x : Int) : BRow (w.setCell ⟨g, i, none⟩ (.int .u8 x)) g cap (xs.set i x) := by
  obtain ⟨cur, h1, h2, h3, h4⟩ := h
  refine ⟨cur.setIfInBounds i (.int .u8 x), ?_, by rw [List.length_set]; exact h2, by rw [Array.size_setIfInBounds]; exact h3, ?_⟩
  · have hg := (Array.getElem?_eq_some_iff.1 h1).1
    simp only [World.setCell, Array.getElem?_modify]
    simp [h1]
  · rw [List.length_set, Array.toList_setIfInBounds, List.map_set, ← h4, List.take_set]
theorem BRow.drew {w : World} {g cap : Nat} {xs : List Int} (h : BRow w g cap xs) : BRow w.drew g cap xs := h
theorem BRow.below {w w1 : World} {g cap : Nat} {xs : List Int} (h : BRow w g cap xs) (hb : Below w.heap.size w w1) : BRow w1 g cap xs := by
  obtain ⟨cur, h1, h2⟩ := h
  exact ⟨cur, (hb.block g (Array.getElem?_eq_some_iff.1 h1).1).trans h1, h2⟩
theorem BRow.alloc {w : World} {g cap : Nat} {xs : List Int} (h : BRow w g cap xs) (o : Obj) : BRow (w.alloc o) g cap xs := h.below ((Below.refl _ _).alloc (Nat.le_refl _) _)
theorem BRow.string {w : World} {g cap : Nat} {xs : List Int} (h : BRow w g cap xs) : (Go.convert 28 9 (.slice (some ⟨g, 0, none⟩) xs.length cap)).run Tryd.prog w = .ok (.string (strOfNums xs)) w :=
  run_convert_bytes_arg w 28 5 Tryd.underlying28 Tryd.underlying5 g 0 xs.length cap xs rfl (fun i hi => (by rw [Nat.zero_add]; exact h.cell i hi)) 9 Tryd.underlying9
theorem bytes_row (w : World) (s : ByteArray) : ∃ (cap : Nat) (w1 : World), (Go.convert 9 28 (.string s)).run Tryd.prog w = .ok (.slice (some ⟨w.heap.size, 0, none⟩) (bytesInts s).length cap) w1 ∧ BRow w1 w.heap.size cap (bytesInts s) ∧ Below w.heap.size w w1 ∧ w1.heap.size = w.heap.size + 1 ∧ (s.size ≤ maxLen → cap ≤ maxLen) := by
  have hs : (Go.Lib.bytesCells w 5 s).size = grownCap w s.size 0 5 := by
    have := grownCap_ge w s.size 0 5
    have hz : s.data.size = s.size := rfl
    simp [Go.Lib.bytesCells]
    omega
  refine ⟨grownCap w s.size 0 5, Go.Lib.bytesWorld w 5 s, ?_, ⟨Go.Lib.bytesCells w 5 s, ?_, ?_, hs, ?_⟩, ?_, Go.Lib.bytesWorld_size w 5 s, fun h => grownCap_le_maxLen w s.size 0 5 h⟩
  · rw [bytesInts_length]
    exact Go.Lib.run_convert_string_bytes w 9 28 5 s Tryd.underlying9 Tryd.underlying28 Tryd.underlying5
  · rw [Go.Lib.bytesWorld_at_new, hs]
  · rw [bytesInts_length]; exact grownCap_ge w s.size 0 5
  · rw [bytesInts_length]
    have hz : s.size = (s.data.toList.map fun b => Value.int .u8 b.toNat).length := by rw [List.length_map]; rfl
    simp only [Go.Lib.bytesCells, Array.toList_append, Array.toList_map]
    rw [hz, List.take_left]
    unfold bytesInts
    rw [List.map_map]
    rfl
  · refine ⟨?_, ?_, ?_, by rw [Go.Lib.bytesWorld_size]; omega, fun k hk => Go.Lib.bytesWorld_at_old w 5 s k hk⟩
    · unfold Go.Lib.bytesWorld World.freeze; split <;> rfl
    · unfold Go.Lib.bytesWorld World.freeze; split <;> rfl
    · unfold Go.Lib.bytesWorld World.freeze; split <;> rfl

end Go.Proofs.YtbfbekkgmbfmhaaDoor.Pr
