import Derived.Test.YtbfbekkgmbfmhaaDoorKWMoreTo8
namespace Go.Proofs.YtbfbekkgmbfmhaaDoor.Pr
open Go.RowKit Go.Proofs.YtbfbekkgmbfmhaaDoorW.PrintWords Go.Proofs.YtbfbekkgmbfmhaaDoorW.PrintLast Go.Proofs.YtbfbekkgmbfmhaaDoorW.PrintMore
attribute [local go_sem] max2_int min2_int max_two min_two max_three min_three max_four min_four   -- for this text's walks alone
set_option linter.unusedVariables false
set_option linter.unusedSimpArgs false

/-! ### poly_unlike: function 58 -/
def seenRow (l : List UInt8) : Array Value := ((List.range 256).map fun c => Value.bool (decide (UInt8.ofNat c ∈ l))).toArray
theorem seenRow_nil : seenRow [] = Array.replicate 256 (Value.bool false) := by
  unfold seenRow
  apply Array.toList_inj.1
  rw [Array.toList_replicate]
  simp only [List.not_mem_nil, decide_false]
  rw [List.map_const', List.length_range]
theorem seenRow_get (l : List UInt8) (c : UInt8) : (seenRow l)[c.toNat]? = some (.bool (decide (c ∈ l))) := by
  have h := c.toNat_lt
  unfold seenRow
  rw [List.getElem?_toArray, List.getElem?_map, List.getElem?_range (by omega)]
  simp
theorem seenRow_put (l : List UInt8) (c : UInt8) : (seenRow l).setIfInBounds c.toNat (.bool true) = seenRow (l ++ [c]) := by
  have h := c.toNat_lt
  apply Array.ext_getElem?
  intro i
  rw [Array.getElem?_setIfInBounds]
  unfold seenRow
  by_cases hi : i < 256
  · rw [List.getElem?_toArray, List.getElem?_toArray, List.getElem?_map, List.getElem?_map, List.getElem?_range hi]
    by_cases e : c.toNat = i
    · subst e
      rw [if_pos rfl, if_pos (by simp; omega)]
      simp
    · rw [if_neg e]
      have : UInt8.ofNat i ≠ c := by
        intro e2; apply e; rw [← e2]; simp; omega
      simp [this]
  · rw [List.getElem?_toArray, List.getElem?_toArray, List.getElem?_map, List.getElem?_map, List.getElem?_eq_none (by simp; omega)]
    rw [if_neg (by omega)]
    rfl
def poly_unlike.f (a0 : ByteArray) : Option Bool := if a0.size < 1000000 then some (decide a0.data.toList.Nodup) else none
set_option maxHeartbeats 4000000 in
set_option maxRecDepth 100000 in
theorem poly_unlike.calls (a0 : ByteArray) (r : Bool) (w : World) (h : poly_unlike.f a0 = some r) :
    Calls Tryd.prog 58 #[.string a0] w fun e w' => e = .returned (.bool r) ∧ Below w.heap.size w w' := by
  unfold poly_unlike.f at h
  by_cases hs : a0.size < 1000000
  case neg => rw [if_neg hs] at h; cases h
  rw [if_pos hs] at h
  have hr := Option.some.inj h
  have HR := Aside0.mk hr
  clear h hr
  go_enter Tryd.func58, Tryd.ntmps58
  go_upto_region 2 with fail
  have hz : Tryd.zeroCells101 = seenRow (a0.data.toList.take 0) := by rw [List.take_zero, seenRow_nil]; kernel_rfl
  have HX := Aside0.mk (heap_alloc_new w (.cells Tryd.zeroCells101 101))
  have HB := Aside0.mk (below_alloc (Below.refl w.heap.size w) (.cells Tryd.zeroCells101 101))
  rw [hz] at HX HB ⊢
  clear hz
  generalize w.alloc (.cells (seenRow (a0.data.toList.take 0)) 101) = w1 at HX HB ⊢
  obtain ⟨g, hg⟩ : ∃ g, g = w.heap.size := ⟨_, rfl⟩
  rw [← hg] at HX ⊢
  have HG := Aside0.mk hg
  clear hg
  go_wp2
  go_loopw [4, 7] (fun _ v7 wr => ∃ n : Nat, n ≤ a0.size ∧ v7 = .int .i64 n ∧ Aside0 ((a0.data.toList.take n).Nodup) ∧ Aside0 (wr.heap[g]? = some (.cells (seenRow (a0.data.toList.take n)) 101 (0, 0))) ∧ Aside0 (Below w.heap.size w wr)) (fun _ v7 _ => a0.size - (intOf v7).toNat)
  case atStart => exact ⟨0, Nat.zero_le _, rfl, ⟨by rw [List.take_zero]; exact List.nodup_nil⟩, HX, HB⟩
  case round =>
    obtain ⟨n, hn, rfl, HNn, HXn, HBn⟩ := hrel
    by_cases hlt : n < a0.size
    · have hlti : (n : Int) < (a0.size : Int) := by omega
      have hc := (blk_cell HXn.out (a0[n].toNat)).trans (seenRow_get _ a0[n])
      have hf := blk_frozen HXn.out (a0[n].toNat)
      have hb : (a0[n].toNat : Int) < 256 := by have := a0[n].toNat_lt; omega
      have hb2 : a0[n].toNat < 256 := by have := a0[n].toNat_lt; omega
      have htk : a0.data.toList.take (n + 1) = a0.data.toList.take n ++ [a0[n]] := by rw [List.take_succ_eq_append_getElem (show n < a0.data.toList.length from hlt)]; rfl
      have HT := Aside0.mk htk
      clear htk
      by_cases hin : a0[n] ∈ a0.data.toList.take n
      · have hd : decide (a0[n] ∈ a0.data.toList.take n) = true := decide_eq_true hin
        rw [hd] at hc
        have hr : r = false := by
          rw [← HR.out]
          apply decide_eq_false
          intro hnd
          have h1 : (a0.data.toList.take (n + 1)).Nodup := hnd.sublist (List.take_sublist _ _)
          rw [HT.out, List.nodup_append] at h1
          exact h1.2.2 _ hin _ (by simp) rfl
        subst hr
        clear hin hd
        go_wp2
        go_ret
        exact ⟨rfl, HBn.out⟩
      · have hd : decide (a0[n] ∈ a0.data.toList.take n) = false := decide_eq_false hin
        rw [hd] at hc
        have HIN := Aside0.mk hin
        clear hin hd
        go_wp2
        go_roundw
        case rel =>
          refine ⟨n + 1, by omega, by go_num, ⟨?_⟩, ⟨?_⟩, ⟨HBn.out.setCell (p := ⟨g, a0[n].toNat, none⟩) (by rw [HG.out]; exact Nat.le_refl _) _⟩⟩
          · rw [HT.out, List.nodup_append]
            refine ⟨HNn.out, by simp, ?_⟩
            intro a ha b hb e
            simp only [List.mem_singleton] at hb
            subst hb; subst e
            exact HIN.out ha
          · rw [HT.out]
            exact blk_put HXn.out _ _ (seenRow_put _ _)
        case measure => simp [intOf]; omega
    · have hge : ¬ (n : Int) < (a0.size : Int) := by omega
      have hr : r = true := by
        rw [← HR.out]
        apply decide_eq_true
        have := HNn.out
        rwa [List.take_of_length_le (show a0.data.toList.length ≤ n by show a0.size ≤ n; omega)] at this
      subst hr
      go_wp2
      go_ret
      exact ⟨rfl, HBn.out⟩

end Go.Proofs.YtbfbekkgmbfmhaaDoor.Pr
