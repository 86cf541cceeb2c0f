import Derived.Test.YtepmahdiiioceaaKPr0
import Derived.WalkSpells
namespace Go.Proofs.Ytepmahdiiioceaa.Pr
open Go.RowKit Go.Proofs.YtepmahdiiioceaaW.PrintWords Go.Proofs.YtepmahdiiioceaaW.PrintLast Go.Proofs.YtepmahdiiioceaaW.PrintMore
attribute [local go_sem] max2_int min2_int max_two min_two max_three min_three max_four min_four   -- for this text's walks alone
set_option linter.unusedVariables false
set_option linter.unusedSimpArgs false

/-! ### canon_List: function 19 -/
def canon_List.f (l0 : List S25) : Option (Int × Int × ByteArray × (List (S25))) := if l0.length < 1000000 then some (3, 0, (⟨#[]⟩ : ByteArray), l0) else none

set_option maxHeartbeats 2000000 in
set_option maxRecDepth 100000 in
theorem canon_clone_calls (P0_ : Nat → Prop) (A0 : Option Addr) (c0 : Nat) (l0 : List S25) (w : World) (hs0 : Kd.V k25 25 w w.heap.size P0_ (.slice A0 l0.length c0) l0) (hl : l0.length < 1000000) :
    Calls Try.prog 45 #[.slice A0 l0.length c0] w fun e w' => ∃ v : Value, e = .returned v ∧ Kd.V k25 25 w' w.heap.size (fun k_ => (P0_ k_ ∨ w.heap.size ≤ k_)) v l0 ∧ Below w.heap.size w w' := by
  have hV := Aside0.mk hs0
  have hR := Aside0.mk (Kd.V_reads' hs0)
  clear hs0
  cases A0 with
  | none =>
    have h0 : l0 = [] := by
      rcases l0 with _ | ⟨x, l⟩
      · rfl
      · obtain ⟨_, _, hc⟩ := hR.out
        obtain ⟨ad, he, _⟩ := hc.2.2 (by simp)
        cases he
    subst h0
    have hq : ∀ (W : World), (binOp .eql 23 (.slice none 0 c0) (.slice none 0 0)).run Try.prog W = .ok (.bool true) W := fun W => Lib.run_eql_slice_nil W _ _ none _ _ _ _ Try.underlying23
    clear hR hV
    simp only [List.length_nil]
    go_enter Try.func45, Try.ntmps45
    go_wp2
    go_ret
    exact ⟨_, rfl, Kd.V_nil _ _ _ _ _, Below.refl _ _⟩
  | some ad =>
    have hq : ∀ (W : World), (binOp .eql 23 (.slice (some ad) l0.length c0) (.slice none 0 0)).run Try.prog W = .ok (.bool false) W := fun W => Lib.run_eql_slice_nil W _ _ (some ad) _ _ _ _ Try.underlying23
    have hown : (w.alloc (.cells #[] 25)).ownsRow w.heap.size 25 4 (.slice (some ⟨w.heap.size, 0, none⟩) 0 0) 0 [] :=
      ⟨by simp, .inr ⟨w.heap.size, 0, #[], rfl, Nat.le_refl _, by simpa using heap_alloc_new w _, by omega, by unfold maxLen; omega, rfl, rfl⟩⟩
    have hN : Kd.N k25 25 (w.alloc (.cells #[] 25)) w.heap.size (fun k_ => (P0_ k_ ∧ k_ < w.heap.size) ∨ w.heap.size ≤ k_) (.slice (some ⟨w.heap.size, 0, none⟩) 0 0) [] :=
      Kd.R_N ⟨fun k hk => by simp [Value.ownBlock] at hk; omega, [], hown, Reps.none _ _⟩
    have HN := Aside0.mk hN
    have HF := Aside0.mk (Kd.F_alloc (Kd.V_F (Kd.V_bound hV.out)) (.cells #[] 25))
    have HOk := Aside0.mk (show ∀ k, (P0_ k ∧ k < w.heap.size) → ((P0_ k ∧ k < w.heap.size) ∨ w.heap.size ≤ k) ∧ some k ≠ (Value.slice (some ⟨w.heap.size, 0, none⟩) 0 0).ownBlock from fun k hk => ⟨.inl hk, fun e => by have := hk.2; simp [Value.ownBlock] at e; omega⟩)
    have HFr := Aside0.mk (show ∀ k, (w.alloc (.cells #[] 25)).heap.size ≤ k → ((P0_ k ∧ k < w.heap.size) ∨ w.heap.size ≤ k) from fun k hk => .inr (by simp at hk; omega))
    clear hown hN
    go_enter Try.func45, Try.ntmps45
    go_wp2_with (at_builtin; refine Kd.N_append_rows k25 (w0 := w) w.heap.size rfl _ _ 23 25 _ 56 rfl Try.underlying23 info25 rfl (by decide) (by decide) _ [] l0 (some ad) l0.length c0 _ (fun k_ => P0_ k_ ∧ k_ < w.heap.size) rfl rfl HN.out HF.out HOk.out HFr.out (below_alloc (Below.refl _ _) _) (by simp) (by simp; omega) ?_; intro v1 w1 hN1 hb1 hg1 hat1)
    have HN1 := Aside0.mk hN1
    have HB1 := Aside0.mk hb1
    clear hN1 hb1 hg1 hat1
    go_wp2
    go_ret
    exact ⟨_, rfl, Kd.V_mono (Kd.N_V (ok := fun k_ => (P0_ k_ ∧ k_ < w.heap.size) ∨ w.heap.size ≤ k_) (by simpa using HN1.out)) (fun k hk => Or.imp_left (fun h => h.1) hk), HB1.out⟩

set_option maxHeartbeats 2000000 in
set_option maxRecDepth 100000 in
theorem canon_List.calls (P0_ : Nat → Prop) (A0 : Option Addr) (c0 : Nat) (l0 : List (S25)) (r1 : Int) (r2 : Int) (r3 : ByteArray) (r4 : List (S25)) (w : World) (hs0 : Kd.V k25 25 w w.heap.size (fun k_ => P0_ k_) (.slice A0 l0.length c0) l0) (h : canon_List.f l0 = some (r1, r2, r3, r4)) :
    Calls Try.prog 19 #[.slice A0 l0.length c0] w fun e w' => ∃ v3_ : Value, e = .returned (.agg #[.int .i64 r1, .int .i64 r2, .string r3, v3_]) ∧ Kd.V k25 25 w' w.heap.size (fun k_ => (P0_ k_ ∨ w.heap.size ≤ k_)) v3_ r4 ∧ Below w.heap.size w w' := by
  have hu25 := Try.underlying25
  unfold canon_List.f at h
  by_cases hl : l0.length < 1000000
  · rw [if_pos hl] at h
    simp only [Option.some.injEq, Prod.mk.injEq] at h
    obtain ⟨rfl, rfl, rfl, rfl⟩ := h
    have HB := Aside0.mk (below_alloc (Below.refl w.heap.size w) (.cells #[.int .i64 0, .int .i64 0, .string ⟨#[]⟩, .slice none 0 0] 25))
    have HX := Aside0.mk (heap_alloc_new w (.cells #[.int .i64 0, .int .i64 0, .string ⟨#[]⟩, .slice none 0 0] 25))
    have HV := Aside0.mk (Kd.V_alloc (Kd.V_bound hs0) (.cells #[.int .i64 0, .int .i64 0, .string ⟨#[]⟩, .slice none 0 0] 25))
    clear hs0
    go_enter Try.func19, Try.ntmps19
    go_wp2_with fail
    refine (canon_clone_calls (fun k_ => P0_ k_ ∧ k_ < w.heap.size) A0 c0 l0 _ HV.out hl).mono ?_
    rintro e w1 ⟨v, rfl, hv, hb⟩
    have HX1 := Aside0.mk (blk_below HX.out hb)
    have HB1 := Aside0.mk (below_step HB.out hb)
    have hz : (w.alloc (.cells #[.int .i64 0, .int .i64 0, .string ⟨#[]⟩, .slice none 0 0] 25)).heap.size = w.heap.size + 1 := by simp
    have HV1 := Aside0.mk (Kd.V_mono (ok' := fun k_ => (P0_ k_ ∨ w.heap.size ≤ k_) ∧ k_ ≠ w.heap.size) hv (fun k hk => by
      rcases hk with h | h
      · exact ⟨.inl h.1, Nat.ne_of_lt h.2⟩
      · rw [hz] at h; exact ⟨.inr (by omega), by omega⟩))
    have HZ := Aside0.mk hz
    clear hv hb hz
    have hf0 := blk_frozen HX1.out 0
    have hf1 := blk_frozen HX1.out 1
    have hf2 := blk_frozen HX1.out 2
    have hf3 := blk_frozen HX1.out 3
    have hc0 : w1.cell? ⟨w.heap.size, 0, none⟩ = some (.int .i64 0) := (blk_cell HX1.out 0).trans rfl
    have hc1 : w1.cell? ⟨w.heap.size, 1, none⟩ = some (.int .i64 0) := (blk_cell HX1.out 1).trans rfl
    have hc2 : w1.cell? ⟨w.heap.size, 2, none⟩ = some (.string ⟨#[]⟩) := (blk_cell HX1.out 2).trans rfl
    have hc3 : w1.cell? ⟨w.heap.size, 3, none⟩ = some (.slice none 0 0) := (blk_cell HX1.out 3).trans rfl
    obtain ⟨Av, cv, rfl⟩ := Kd.V_slice HV1.out
    go_wp2
    have HXf := blk_put (cs := #[.int .i64 3, .int .i64 0, .string ⟨#[]⟩, .slice none 0 0]) (blk_put (cs := #[.int .i64 3, .int .i64 0, .string ⟨#[]⟩, .slice none 0 0]) (blk_put (cs := #[.int .i64 3, .int .i64 0, .string ⟨#[]⟩, .slice none 0 0]) (blk_put (cs := #[.int .i64 0, .int .i64 0, .string ⟨#[]⟩, .slice none 0 0]) HX1.out 0 (.int .i64 3) rfl) 1 (.int .i64 0) rfl) 2 (.string ⟨#[]⟩) rfl) 3 (.slice Av l0.length cv) rfl
    refine bodyPost_ret (results_cell_row rfl _ _ w.heap.size 25 #[.int .i64 3, .int .i64 0, .string (⟨#[]⟩ : ByteArray), .slice Av l0.length cv] (0, 0) _ rfl HXf Try.underlying25 rfl (by kernel_rfl)) rfl ?_
    refine ⟨_, rfl, ?_, ?_⟩
    · exact Kd.V_mono (Kd.V_far (p := ⟨w.heap.size, 3, none⟩) (Kd.V_far (p := ⟨w.heap.size, 2, none⟩) (Kd.V_far (p := ⟨w.heap.size, 1, none⟩) (Kd.V_far (p := ⟨w.heap.size, 0, none⟩) HV1.out (fun _ hk => hk.2) _) (fun _ hk => hk.2) _) (fun _ hk => hk.2) _) (fun _ hk => hk.2) _) (fun _ hk => hk.1)
    · exact ((((HB1.out.setCell (p := ⟨w.heap.size, 0, none⟩) (Nat.le_refl _) _).setCell (p := ⟨w.heap.size, 1, none⟩) (Nat.le_refl _) _).setCell (p := ⟨w.heap.size, 2, none⟩) (Nat.le_refl _) _).setCell (p := ⟨w.heap.size, 3, none⟩) (Nat.le_refl _) _)
  · rw [if_neg hl] at h
    cases h

end Go.Proofs.Ytepmahdiiioceaa.Pr
