import Derived.Test.YtepmahdiiioceaaKPr0
import Derived.RegionTactic
import Derived.Test.YtepmahdiiioceaaKPrCanonReaderFail
import Derived.Test.YtepmahdiiioceaaKPrCanonReaderItem
namespace Go.Proofs.Ytepmahdiiioceaa.Pr
open Go.RowKit Go.Proofs.YtepmahdiiioceaaW.PrintWords Go.Proofs.YtepmahdiiioceaaW.PrintLast Go.Proofs.YtepmahdiiioceaaW.PrintMore
attribute [local go_sem] max2_int min2_int max_two min_two max_three min_three max_four min_four   -- for this text's walks alone
set_option linter.unusedVariables false
set_option linter.unusedSimpArgs false

/-! ### canon_Front: function 13 -/
def canon_Front.f (k : Nat) (a0 : ByteArray) : Option (Int × Int × ByteArray × (List S25) × ByteArray × Int) :=
  (canon_reader_item.f k a0 0 0 0).bind fun t => if t.2.2.2.2.2.2 = 0 then (if 0 ≤ t.2.2.2.2.2.1 then (if t.2.2.2.2.2.1 ≤ (a0.size : Int) then some (t.1, t.2.1, t.2.2.1, t.2.2.2.1, a0.extract t.2.2.2.2.2.1.toNat a0.size, 0) else none) else none) else some (0, 0, (⟨#[]⟩ : ByteArray), [], (⟨#[]⟩ : ByteArray), t.2.2.2.2.2.2)
theorem canon_Front.mono : ∀ a0 k, LeO (canon_Front.f k a0) (canon_Front.f (k + 1) a0) := by
  intro a0 k
  unfold canon_Front.f
  exact LeO.bind (canon_reader_item.mono _ _ _ _ _) (fun _ => LeO.refl _)

set_option maxHeartbeats 4000000 in
set_option maxRecDepth 100000 in
theorem canon_Front.calls (k : Nat) (a0 : ByteArray) (r1 : Int) (r2 : Int) (r3 : ByteArray) (r4 : List (S25)) (r5 : ByteArray) (r6 : Int) (w : World) (h : canon_Front.f k a0 = some (r1, r2, r3, r4, r5, r6)) :
    Calls Try.prog 13 #[.string a0] w fun e w' => ∃ v3_ : Value, e = .returned (.tuple #[.agg #[.int .i64 r1, .int .i64 r2, .string r3, v3_], .string r5, .int .i64 r6]) ∧ Kd.R k25 25 w' w.heap.size (fun _ => True) v3_ r4 ∧ Below w.heap.size w w' := by
  have hu25 := Try.underlying25
  have hu77 := Try.underlying77
  unfold canon_Front.f at h
  obtain ⟨⟨q1, q2, q3, q4, q5, q6, q7⟩, hq, h⟩ := Option.bind_eq_some_iff.1 h
  simp only at h
  have HQ := Aside0.mk hq
  have H := Aside0.mk h
  clear hq h
  have HX := Aside0.mk (heap_alloc_new w (.cells #[.int .i64 0, .int .i64 0, .string ⟨#[]⟩, .slice none 0 0] 25))
  have HB := Aside0.mk (below_alloc (Below.refl w.heap.size w) (.cells #[.int .i64 0, .int .i64 0, .string ⟨#[]⟩, .slice none 0 0] 25))
  have hI := IsS77.new w (w.alloc (.cells #[.int .i64 0, .int .i64 0, .string ⟨#[]⟩, .slice none 0 0] 25)) a0 0 0 HB.out
  have hsz : (w.alloc (.cells #[.int .i64 0, .int .i64 0, .string ⟨#[]⟩, .slice none 0 0] 25)).heap.size = w.heap.size + 1 := by simp
  rw [hsz] at hI
  have HI := Aside0.mk hI
  have HB2 := Aside0.mk (HB.out.alloc (by rw [hsz]; omega) (.cells #[.string a0, .int .i64 0, .int .i64 0] 77))
  have HX2 := Aside0.mk (blk_alloc HX.out (.cells #[.string a0, .int .i64 0, .int .i64 0] 77))
  clear hI hsz
  go_enter Try.func13, Try.ntmps13
  go_wp2_with fail
  refine (canon_reader_item.calls k (w.heap.size + 1) a0 0 0 0 q1 q2 q3 q4 q5 q6 q7 w _ HI.out HB2.out HQ.out).mono ?_
  rintro e w1 ⟨v3, rfl, hR, hS, hB, hK⟩
  have hsz2 : ((w.alloc (.cells #[.int .i64 0, .int .i64 0, .string ⟨#[]⟩, .slice none 0 0] 25)).alloc (.cells #[.string a0, .int .i64 0, .int .i64 0] 77)).heap.size = w.heap.size + 2 := by simp
  have HX3 := Aside0.mk ((hK.2 w.heap.size (by rw [hsz2]; omega) (by omega) (by simp)).trans HX2.out)
  have HB3 := Aside0.mk hB
  have HS := Aside0.mk hS
  have hgb : w1.heap[w.heap.size + 1]? = some (.cells #[.string q5, .int .i64 q6, .int .i64 q7] 77 (0, 0)) := hS.1
  have HG := Aside0.mk hgb
  have HR := Aside0.mk (Kd.R_mono (ok' := fun k_ => w.heap.size + 2 ≤ k_) (Kd.R_bound hR) (fun k_ hk => by have := hk.2.1; rw [hsz2] at this; exact this))
  have HZ := Aside0.mk hsz2
  clear hK hB hS hR hsz2 hgb
  have hf0 := blk_frozen HX3.out 0
  have hf1 := blk_frozen HX3.out 1
  have hf2 := blk_frozen HX3.out 2
  have hf3 := blk_frozen HX3.out 3
  have hc0 : w1.cell? ⟨w.heap.size, 0, none⟩ = some (.int .i64 0) := (blk_cell HX3.out 0).trans rfl
  have hc1 : w1.cell? ⟨w.heap.size, 1, none⟩ = some (.int .i64 0) := (blk_cell HX3.out 1).trans rfl
  have hc2 : w1.cell? ⟨w.heap.size, 2, none⟩ = some (.string ⟨#[]⟩) := (blk_cell HX3.out 2).trans rfl
  have hc3 : w1.cell? ⟨w.heap.size, 3, none⟩ = some (.slice none 0 0) := (blk_cell HX3.out 3).trans rfl
  have hg1 : w1.cell? ⟨w.heap.size + 1, 1, none⟩ = some (.int .i64 q6) := (blk_cell HG.out 1).trans rfl
  have hg2 : w1.cell? ⟨w.heap.size + 1, 2, none⟩ = some (.int .i64 q7) := (blk_cell HG.out 2).trans rfl
  obtain ⟨Av, cv, rfl⟩ := Kd.R_slice HR.out
  have HX4 := Aside0.mk (blk_put (cs := #[.int .i64 q1, .int .i64 q2, .string q3, .slice none 0 0]) (blk_put (cs := #[.int .i64 q1, .int .i64 q2, .string ⟨#[]⟩, .slice none 0 0]) (blk_put (cs := #[.int .i64 q1, .int .i64 0, .string ⟨#[]⟩, .slice none 0 0]) (blk_put (cs := #[.int .i64 0, .int .i64 0, .string ⟨#[]⟩, .slice none 0 0]) HX3.out 0 (.int .i64 q1) rfl) 1 (.int .i64 q2) rfl) 2 (.string q3) rfl) 3 (.slice Av q4.length cv) rfl)
  have HG4 := Aside0.mk (blk_far (p := ⟨w.heap.size, 3, none⟩) (blk_far (p := ⟨w.heap.size, 2, none⟩) (blk_far (p := ⟨w.heap.size, 1, none⟩) (blk_far (p := ⟨w.heap.size, 0, none⟩) HG.out (by simp) (.int .i64 q1)) (by simp) (.int .i64 q2)) (by simp) (.string q3)) (by simp) (.slice Av q4.length cv))
  have HB4 := Aside0.mk ((((HB3.out.setCell (p := ⟨w.heap.size, 0, none⟩) (Nat.le_refl _) (.int .i64 q1)).setCell (p := ⟨w.heap.size, 1, none⟩) (Nat.le_refl _) (.int .i64 q2)).setCell (p := ⟨w.heap.size, 2, none⟩) (Nat.le_refl _) (.string q3)).setCell (p := ⟨w.heap.size, 3, none⟩) (Nat.le_refl _) (.slice Av q4.length cv))
  have HR4 := Aside0.mk (Kd.R_far (p := ⟨w.heap.size, 3, none⟩) (Kd.R_far (p := ⟨w.heap.size, 2, none⟩) (Kd.R_far (p := ⟨w.heap.size, 1, none⟩) (Kd.R_far (p := ⟨w.heap.size, 0, none⟩) HR.out (fun k_ hk => by simp; omega) (.int .i64 q1)) (fun k_ hk => by simp; omega) (.int .i64 q2)) (fun k_ hk => by simp; omega) (.string q3)) (fun k_ hk => by simp; omega) (.slice Av q4.length cv))
  rw [HZ.out] at HR4
  by_cases h7 : q7 = 0
  · subst h7
    have h := H.out
    rw [if_pos rfl] at h
    by_cases h5 : 0 ≤ q6
    · rw [if_pos h5] at h
      by_cases h6 : q6 ≤ (a0.size : Int)
      · rw [if_pos h6] at h
        simp only [Option.some.injEq, Prod.mk.injEq] at h
        obtain ⟨rfl, rfl, rfl, rfl, rfl, rfl⟩ := h
        go_wp2_with fail
        clear hf0 hf1 hf2 hf3 hc0 hc1 hc2 hc3 hg1 hg2
        generalize (((w1.setCell ⟨w.heap.size, 0, none⟩ (.int .i64 q1)).setCell ⟨w.heap.size, 1, none⟩ (.int .i64 q2)).setCell ⟨w.heap.size, 2, none⟩ (.string q3)).setCell ⟨w.heap.size, 3, none⟩ (.slice Av q4.length cv) = w4 at HX4 HG4 HB4 HR4 ⊢
        have hf0 := blk_frozen HX4.out 0
        have hf1 := blk_frozen HX4.out 1
        have hf2 := blk_frozen HX4.out 2
        have hf3 := blk_frozen HX4.out 3
        have hc0 : w4.cell? ⟨w.heap.size, 0, none⟩ = some (.int .i64 q1) := (blk_cell HX4.out 0).trans rfl
        have hc1 : w4.cell? ⟨w.heap.size, 1, none⟩ = some (.int .i64 q2) := (blk_cell HX4.out 1).trans rfl
        have hc2 : w4.cell? ⟨w.heap.size, 2, none⟩ = some (.string q3) := (blk_cell HX4.out 2).trans rfl
        have hc3 : w4.cell? ⟨w.heap.size, 3, none⟩ = some (.slice Av q4.length cv) := (blk_cell HX4.out 3).trans rfl
        have hg1 : w4.cell? ⟨w.heap.size + 1, 1, none⟩ = some (.int .i64 q6) := (blk_cell HG4.out 1).trans rfl
        go_region
        all_goals go_wp2
        have HX5 := blk_put (cs := #[.int .i64 q1, .int .i64 q2, .string q3, .slice Av q4.length cv]) (blk_put (cs := #[.int .i64 q1, .int .i64 q2, .string q3, .slice Av q4.length cv]) (blk_put (cs := #[.int .i64 q1, .int .i64 q2, .string q3, .slice Av q4.length cv]) (blk_put (cs := #[.int .i64 q1, .int .i64 q2, .string q3, .slice Av q4.length cv]) HX4.out 0 (.int .i64 q1) rfl) 1 (.int .i64 q2) rfl) 2 (.string q3) rfl) 3 (.slice Av q4.length cv) rfl
        refine bodyPost_ret (results_list (rs := [.cell 2 25, .tmp 3, .tmp 4]) rfl (by simp) (.cell w.heap.size 25 #[.int .i64 q1, .int .i64 q2, .string q3, .slice Av q4.length cv] (0, 0) _ rfl HX5 Try.underlying25 rfl (by kernel_rfl) (.tmp (.tmp .nil)))) rfl ?_
        refine ⟨.slice Av q4.length cv, rfl, ?_, ?_⟩
        · exact Kd.R_drew (Kd.R_lower (Kd.R_mono (Kd.R_far (p := ⟨w.heap.size, 3, none⟩) (Kd.R_far (p := ⟨w.heap.size, 2, none⟩) (Kd.R_far (p := ⟨w.heap.size, 1, none⟩) (Kd.R_far (p := ⟨w.heap.size, 0, none⟩) HR4.out (fun k_ hk => by simp; omega) _) (fun k_ hk => by simp; omega) _) (fun k_ hk => by simp; omega) _) (fun k_ hk => by simp; omega) _) (fun _ _ => trivial)) (by omega))
        · exact below_drew ((((HB4.out.setCell (p := ⟨w.heap.size, 0, none⟩) (Nat.le_refl _) _).setCell (p := ⟨w.heap.size, 1, none⟩) (Nat.le_refl _) _).setCell (p := ⟨w.heap.size, 2, none⟩) (Nat.le_refl _) _).setCell (p := ⟨w.heap.size, 3, none⟩) (Nat.le_refl _) _)
      · rw [if_neg h6] at h; cases h
    · rw [if_neg h5] at h; cases h
  · have h := H.out
    rw [if_neg h7] at h
    simp only [Option.some.injEq, Prod.mk.injEq] at h
    obtain ⟨rfl, rfl, rfl, rfl, rfl, rfl⟩ := h
    have h7' : (q7 != 0) = true := bne_iff_ne.2 h7
    clear h7
    go_wp2_with fail
    clear hf0 hf1 hf2 hf3 hc0 hc1 hc2 hc3 hg1 hg2
    generalize (((w1.setCell ⟨w.heap.size, 0, none⟩ (.int .i64 q1)).setCell ⟨w.heap.size, 1, none⟩ (.int .i64 q2)).setCell ⟨w.heap.size, 2, none⟩ (.string q3)).setCell ⟨w.heap.size, 3, none⟩ (.slice Av q4.length cv) = w4 at HX4 HG4 HB4 HR4 ⊢
    have hf0 := blk_frozen HX4.out 0
    have hf1 := blk_frozen HX4.out 1
    have hf2 := blk_frozen HX4.out 2
    have hf3 := blk_frozen HX4.out 3
    have hc0 : w4.cell? ⟨w.heap.size, 0, none⟩ = some (.int .i64 q1) := (blk_cell HX4.out 0).trans rfl
    have hc1 : w4.cell? ⟨w.heap.size, 1, none⟩ = some (.int .i64 q2) := (blk_cell HX4.out 1).trans rfl
    have hc2 : w4.cell? ⟨w.heap.size, 2, none⟩ = some (.string q3) := (blk_cell HX4.out 2).trans rfl
    have hc3 : w4.cell? ⟨w.heap.size, 3, none⟩ = some (.slice Av q4.length cv) := (blk_cell HX4.out 3).trans rfl
    have hg2 : w4.cell? ⟨w.heap.size + 1, 2, none⟩ = some (.int .i64 q7) := (blk_cell HG4.out 2).trans rfl
    go_region
    all_goals go_wp2
    have HX5 := blk_put (cs := #[.int .i64 0, .int .i64 0, .string (⟨#[]⟩ : ByteArray), .slice Av q4.length cv]) (blk_put (cs := #[.int .i64 0, .int .i64 0, .string q3, .slice Av q4.length cv]) (blk_put (cs := #[.int .i64 0, .int .i64 q2, .string q3, .slice Av q4.length cv]) (blk_put (cs := #[.int .i64 q1, .int .i64 q2, .string q3, .slice Av q4.length cv]) HX4.out 0 (.int .i64 0) rfl) 1 (.int .i64 0) rfl) 2 (.string (⟨#[]⟩ : ByteArray)) rfl) 3 (.slice none 0 0) rfl
    refine bodyPost_ret (results_list (rs := [.cell 2 25, .tmp 3, .tmp 4]) rfl (by simp) (.cell w.heap.size 25 #[.int .i64 0, .int .i64 0, .string (⟨#[]⟩ : ByteArray), .slice none 0 0] (0, 0) _ rfl HX5 Try.underlying25 rfl (by kernel_rfl) (.tmp (.tmp .nil)))) rfl ?_
    refine ⟨.slice none 0 0, rfl, ?_, ?_⟩
    · exact Kd.R_nil _ _ _ _ _
    · exact below_drew ((((HB4.out.setCell (p := ⟨w.heap.size, 0, none⟩) (Nat.le_refl _) _).setCell (p := ⟨w.heap.size, 1, none⟩) (Nat.le_refl _) _).setCell (p := ⟨w.heap.size, 2, none⟩) (Nat.le_refl _) _).setCell (p := ⟨w.heap.size, 3, none⟩) (Nat.le_refl _) _)

end Go.Proofs.Ytepmahdiiioceaa.Pr
