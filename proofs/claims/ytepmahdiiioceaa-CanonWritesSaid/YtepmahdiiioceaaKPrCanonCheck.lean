import Derived.Test.YtepmahdiiioceaaKPr0
namespace Go.Proofs.Ytepmahdiiioceaa.Pr
open Go.RowKit Go.Proofs.YtepmahdiiioceaaW.PrintWords Go.Proofs.YtepmahdiiioceaaW.PrintLast Go.Proofs.YtepmahdiiioceaaW.PrintMore
attribute [local go_sem] max2_int min2_int max_two min_two max_three min_three max_four min_four   -- for this text's walks alone
set_option linter.unusedVariables false
set_option linter.unusedSimpArgs false

/-! ### canon_Check: function 15 -/

def canon_chk : Nat → S25 → Bool
  | 0, x => if x.f0 = 1 then decide (0 ≤ x.f1) && decide (x.f1 ≤ 72057594037927935) && decide (x.f2.size = 0) && decide (x.f3.length = 0)
      else if x.f0 = 2 then decide (x.f1 = 0) && decide (x.f2.size ≤ 65536) && decide (x.f3.length = 0) else false
  | d + 1, x => if x.f0 = 1 then decide (0 ≤ x.f1) && decide (x.f1 ≤ 72057594037927935) && decide (x.f2.size = 0) && decide (x.f3.length = 0)
      else if x.f0 = 2 then decide (x.f1 = 0) && decide (x.f2.size ≤ 65536) && decide (x.f3.length = 0)
      else if x.f0 = 3 then decide (x.f3.length ≤ 1024) && decide (x.f2.size = 0) && decide (x.f1 = 0) && x.f3.all (canon_chk d) else false

def WithinAt (d : Nat) : Prop := ∀ (x0 x1 : Int) (x2 : ByteArray) (A : Option Addr) (c : Nat) (l : List S25) (w : World), Kd.C k25 w A l.length l → l.length ≤ c →
    Calls Try.prog 43 #[.agg #[.int .i64 x0, .int .i64 x1, .string x2, .slice A l.length c], .int .i64 (6 - (d : Int))] w fun e w' => e = .returned (.bool (canon_chk d ⟨x0, x1, x2, l⟩)) ∧ Below w.heap.size w w'

set_option maxHeartbeats 800000 in
theorem within_clo (d : Nat) (hd : d < 6) (IH : WithinAt d) (x0 x1 : Int) (x2 : ByteArray) (A : Option Addr) (c : Nat) (l : List S25) (w : World) (B : Nat) (hr : Kd.C k25 w A l.length l) (hc : l.length ≤ c)
    (hB : w.heap[B]? = some (.cells #[.int .i64 (6 - ((d + 1 : Nat) : Int))] 3 (0, 0))) :
    Calls Try.prog 66 #[.agg #[.int .i64 x0, .int .i64 x1, .string x2, .slice A l.length c], .pointer (some ⟨B, 0, none⟩)] w fun e w' => e = .returned (.bool (!(canon_chk d ⟨x0, x1, x2, l⟩))) ∧ Below w.heap.size w w' := by
  have hu25 := Try.underlying25
  have hblt := blk_lt hB
  have hc0 : ∀ o, (w.alloc o).cell? ⟨B, 0, none⟩ = some (.int .i64 (6 - ((d + 1 : Nat) : Int))) := fun o => by
    rw [World.cell?_alloc_past _ _ _ hblt]; exact (blk_cell hB 0).trans rfl
  go_enter Try.func66, Try.ntmps66
  go_wp2_with fail
  rw [show (6 - ((d : Int) + 1) + 1) = 6 - (d : Int) from by omega]
  refine (IH x0 x1 x2 A c l _ (Kd.C_below hr (below_alloc (Below.refl _ _) _)) hc).mono ?_
  rintro e w' ⟨rfl, hb⟩
  go_wp2
  go_ret
  exact ⟨by simp, below_step (below_alloc (Below.refl _ _) _) hb⟩

set_option maxHeartbeats 800000 in
theorem within_idx_at (d : Nat) (A : Option Addr) (c : Nat) (l : List S25) (w : World) (B : Nat) (hr : Kd.C k25 w A l.length l) (hc : l.length ≤ c)
    (hB : l ≠ [] → w.heap[B]? = some (.cells #[.int .i64 (6 - ((d + 1 : Nat) : Int))] 3 (0, 0))) (IH : l ≠ [] → d < 6 ∧ WithinAt d) :
    Calls Try.prog 71 #[.slice A l.length c, .func (.func 66) #[] #[.pointer (some ⟨B, 0, none⟩)]] w fun e w' => ∃ r : Int, e = .returned (.int .i64 r) ∧ decide (0 ≤ r) = !(l.all (canon_chk d)) ∧ Below w.heap.size w w' := by
  have hu25 := Try.underlying25
  have hlen : l.length ≤ 9223372036854775807 := hr.2.1
  have HB0 := Aside0.mk hB
  have HR := Aside0.mk hr
  have HI := Aside0.mk IH
  clear hB hr IH
  go_enter Try.func71, Try.ntmps71
  go_wp2
  go_loopw [5, 8] (fun v5 v8 wr => ∃ k : Nat, k ≤ l.length ∧ v8 = .int .i64 k ∧ Aside0 ((l.take k).all (canon_chk d) = true) ∧ Aside0 (Below w.heap.size w wr)) (fun _ v8 _ => l.length - (intOf v8).toNat)
  case atStart => exact ⟨0, Nat.zero_le _, rfl, ⟨by simp⟩, ⟨Below.refl _ _⟩⟩
  case round =>
    obtain ⟨k, hk, rfl, HT, HB⟩ := hrel
    by_cases hlt : k < l.length
    · obtain ⟨ad, A3, c3, rfl, e0, e1, e2, e3, hl3, hr3⟩ := at_T25 (Kd.C_below HR.out HB.out) k (by omega) (by omega)
      simp only [Int.toNat_natCast] at e0 e1 e2 e3
      have HY := Aside0.mk (show rd_T25 l k = l[k] by simp [rd_T25, hlt])
      generalize rd_T25 l ↑k = y at *
      obtain ⟨y0, y1, y2, y3⟩ := y
      have HR3 := Aside0.mk hr3
      clear hr3
      have hne : l ≠ [] := by intro h; subst h; simp at hlt
      obtain ⟨hd, hi⟩ := HI.out hne
      have HW := Aside0.mk hi
      clear hi
      have hBr : wr.heap[B]? = some (.cells #[.int .i64 (6 - ((d + 1 : Nat) : Int))] 3 (0, 0)) := blk_below (HB0.out hne) HB.out
      clear hne
      have HBr := Aside0.mk hBr
      clear hBr
      cases hchk : canon_chk d ⟨y0, y1, y2, y3⟩
      all_goals
        have HC := Aside0.mk hchk
        clear hchk
        go_wp2_with fail
        refine (within_clo d hd HW.out y0 y1 y2 A3 c3 y3 _ B HR3.out hl3 HBr.out).mono ?_
        rintro e w1 ⟨rfl, hb⟩
        rw [HC.out]
        have HB1 := Aside0.mk (below_step HB.out hb)
        clear hb
        go_wp2
      · go_ret
        refine ⟨(k : Int), rfl, ?_, HB1.out⟩
        have hall : l.all (canon_chk d) = false := by
          rw [List.all_eq_false]
          exact ⟨l[k], List.getElem_mem hlt, by rw [← HY.out, HC.out]; simp⟩
        rw [hall]; simp
      · go_roundw
        case rel =>
          refine ⟨k + 1, by omega, by go_num, ⟨?_⟩, HB1⟩
          rw [List.take_succ_eq_append_getElem hlt, List.all_append, HT.out]
          simp [← HY.out, HC.out]
        case measure => simp [intOf]; omega
    · have hkl : k = l.length := by omega
      subst hkl
      go_wp2
      go_ret
      refine ⟨-1, rfl, ?_, HB.out⟩
      have := HT.out
      rw [List.take_length] at this
      rw [this]; rfl

set_option maxHeartbeats 800000 in
theorem within_con_at (d : Nat) (A : Option Addr) (c : Nat) (l : List S25) (w : World) (B : Nat) (hr : Kd.C k25 w A l.length l) (hc : l.length ≤ c)
    (hB : l ≠ [] → w.heap[B]? = some (.cells #[.int .i64 (6 - ((d + 1 : Nat) : Int))] 3 (0, 0))) (IH : l ≠ [] → d < 6 ∧ WithinAt d) :
    Calls Try.prog 65 #[.slice A l.length c, .func (.func 66) #[] #[.pointer (some ⟨B, 0, none⟩)]] w fun e w' => e = .returned (.bool (!(l.all (canon_chk d)))) ∧ Below w.heap.size w w' := by
  have HB0 := Aside0.mk hB
  have HR := Aside0.mk hr
  have HI := Aside0.mk IH
  clear hB hr IH
  go_enter Try.func65, Try.ntmps65
  go_wp2_with fail
  refine (within_idx_at d A c l _ B HR.out hc HB0.out HI.out).mono ?_
  rintro e w' ⟨r, rfl, hr, hb⟩
  have HR2 := Aside0.mk hr
  have HB2 := Aside0.mk hb
  clear hr hb
  go_wp2
  go_ret
  exact ⟨by rw [← HR2.out]; rfl, HB2.out⟩

theorem str_empty {x : ByteArray} (h : x.size = 0) : x.toList.isEmpty = true := by
  rw [ByteArray.toList_eq, List.isEmpty_iff]; apply List.eq_nil_of_length_eq_zero; simpa using h
theorem str_nonempty {x : ByteArray} (h : ¬ x.size = 0) : x.toList.isEmpty = false := by
  rw [ByteArray.toList_eq, List.isEmpty_eq_false_iff]; intro e; exact h (by simpa using congrArg List.length e)

set_option maxHeartbeats 1600000 in
set_option maxRecDepth 100000 in
theorem within_num (d : Nat) (hd : d ≤ 6) (x1 : Int) (x2 : ByteArray) (A : Option Addr) (c : Nat) (l : List S25) (w : World) (hr : Kd.C k25 w A l.length l) (hc : l.length ≤ c) :
    Calls Try.prog 43 #[.agg #[.int .i64 1, .int .i64 x1, .string x2, .slice A l.length c], .int .i64 (6 - (d : Int))] w fun e w' => e = .returned (.bool (canon_chk d ⟨1, x1, x2, l⟩)) ∧ Below w.heap.size w w' := by
  have hu25 := Try.underlying25
  have hchk : canon_chk d ⟨1, x1, x2, l⟩ = (decide (0 ≤ x1) && decide (x1 ≤ 72057594037927935) && decide (x2.size = 0) && decide (l.length = 0)) := by cases d <;> simp [canon_chk]
  have HC := Aside0.mk hchk
  have HR := Aside0.mk hr
  have HB := Aside0.mk (below_alloc (below_alloc (Below.refl w.heap.size w) (.cells #[.int .i64 1, .int .i64 x1, .string x2, .slice A l.length c] 25)) (.cells #[.int .i64 (6 - (d : Int))] 3))
  clear hr hchk
  by_cases h0 : 0 ≤ x1
  · have b0 : decide (0 ≤ x1) = true := decide_eq_true h0
    by_cases h1 : x1 ≤ 72057594037927935
    · have b1 : decide (x1 ≤ 72057594037927935) = true := decide_eq_true h1
      by_cases h2 : x2.size = 0
      · by_cases h3 : l.length = 0
        · have b2 := str_empty h2
          obtain rfl : l = [] := List.eq_nil_of_length_eq_zero h3
          go_enter Try.func43, Try.ntmps43
          go_wp2
          go_ret
          exact ⟨by rw [HC.out, decide_eq_true h0, decide_eq_true h1, decide_eq_true h2, decide_eq_true h3]; rfl, HB.out⟩
        · have b2 := str_empty h2
          have b3 : ((l.length : Int) == 0) = false := beq_eq_false_iff_ne.2 (by omega)
          go_enter Try.func43, Try.ntmps43
          go_wp2
          go_ret
          exact ⟨by rw [HC.out, decide_eq_true h0, decide_eq_true h1, decide_eq_true h2, decide_eq_false h3]; rfl, HB.out⟩
      · have b2 := str_nonempty h2
        go_enter Try.func43, Try.ntmps43
        go_wp2
        go_ret
        exact ⟨by rw [HC.out, decide_eq_true h0, decide_eq_true h1, decide_eq_false h2]; rfl, HB.out⟩
    · have b1 : decide (x1 ≤ 72057594037927935) = false := decide_eq_false h1
      go_enter Try.func43, Try.ntmps43
      go_wp2
      go_ret
      exact ⟨by rw [HC.out, decide_eq_true h0, decide_eq_false (p := x1 ≤ 72057594037927935) (by omega)]; rfl, HB.out⟩
  · have b0 : decide (0 ≤ x1) = false := decide_eq_false h0
    go_enter Try.func43, Try.ntmps43
    go_wp2
    go_ret
    exact ⟨by rw [HC.out, decide_eq_false (p := 0 ≤ x1) (by omega)]; rfl, HB.out⟩

set_option maxHeartbeats 1600000 in
set_option maxRecDepth 100000 in
theorem within_text (d : Nat) (hd : d ≤ 6) (x1 : Int) (x2 : ByteArray) (A : Option Addr) (c : Nat) (l : List S25) (w : World) (hr : Kd.C k25 w A l.length l) (hc : l.length ≤ c) :
    Calls Try.prog 43 #[.agg #[.int .i64 2, .int .i64 x1, .string x2, .slice A l.length c], .int .i64 (6 - (d : Int))] w fun e w' => e = .returned (.bool (canon_chk d ⟨2, x1, x2, l⟩)) ∧ Below w.heap.size w w' := by
  have hu25 := Try.underlying25
  have hmf : ∀ (fn : Fn) (first cap : Array Value) (w : World), (Instr.makeFunc fn first cap).run Try.prog w = .ok (.func fn first cap) w := fun _ _ _ _ => rfl
  have hchk : canon_chk d ⟨2, x1, x2, l⟩ = (decide (x1 = 0) && decide (x2.size ≤ 65536) && decide (l.length = 0)) := by cases d <;> simp [canon_chk]
  have HC := Aside0.mk hchk
  have HR := Aside0.mk hr
  have hb0 := below_alloc (below_alloc (Below.refl w.heap.size w) (.cells #[.int .i64 2, .int .i64 x1, .string x2, .slice A l.length c] 25)) (.cells #[.int .i64 (6 - (d : Int))] 3)
  have HB := Aside0.mk hb0
  clear hr hchk hb0
  by_cases h0 : x1 = 0
  · subst h0
    by_cases h1 : x2.size ≤ 65536
    · have b1 : decide (65536 < (x2.size : Int)) = false := decide_eq_false (by omega)
      by_cases h2 : l.length = 0
      · obtain rfl : l = [] := List.eq_nil_of_length_eq_zero h2
        go_enter Try.func43, Try.ntmps43
        go_wp2_with fail
        refine (within_con_at d A c [] _ _ (Kd.C_below HR.out (below_alloc (below_alloc (Below.refl _ _) _) _)) (by simp) (fun h => absurd rfl h) (fun h => absurd rfl h)).mono ?_
        rintro e w' ⟨rfl, hb⟩
        have HB2 := Aside0.mk (below_step HB.out hb)
        clear hb
        go_wp2
        go_ret
        exact ⟨by rw [HC.out, decide_eq_true h1]; rfl, HB2.out⟩
      · have b2 : decide (0 < (l.length : Int)) = true := decide_eq_true (by omega)
        go_enter Try.func43, Try.ntmps43
        go_wp2
        go_ret
        exact ⟨by rw [HC.out, decide_eq_true h1, decide_eq_false h2]; rfl, HB.out⟩
    · have b1 : decide (65536 < (x2.size : Int)) = true := decide_eq_true (by omega)
      go_enter Try.func43, Try.ntmps43
      go_wp2
      go_ret
      exact ⟨by rw [HC.out, decide_eq_false h1]; rfl, HB.out⟩
  · have b0 : (x1 != 0) = true := bne_iff_ne.2 h0
    go_enter Try.func43, Try.ntmps43
    go_wp2
    go_ret
    exact ⟨by rw [HC.out, decide_eq_false h0]; rfl, HB.out⟩

set_option maxHeartbeats 1600000 in
set_option maxRecDepth 100000 in
theorem within_list0 (x1 : Int) (x2 : ByteArray) (A : Option Addr) (c : Nat) (l : List S25) (w : World) (hr : Kd.C k25 w A l.length l) (hc : l.length ≤ c) :
    Calls Try.prog 43 #[.agg #[.int .i64 3, .int .i64 x1, .string x2, .slice A l.length c], .int .i64 6] w fun e w' => e = .returned (.bool false) ∧ Below w.heap.size w w' := by
  have hu25 := Try.underlying25
  have HB := Aside0.mk (below_alloc (below_alloc (Below.refl w.heap.size w) (.cells #[.int .i64 3, .int .i64 x1, .string x2, .slice A l.length c] 25)) (.cells #[.int .i64 6] 3))
  clear hr
  by_cases h0 : 1024 < l.length
  · have b0 : decide (1024 < (l.length : Int)) = true := decide_eq_true (by omega)
    go_enter Try.func43, Try.ntmps43
    go_wp2
    go_ret
    exact ⟨rfl, HB.out⟩
  · have b0 : decide (1024 < (l.length : Int)) = false := decide_eq_false (by omega)
    go_enter Try.func43, Try.ntmps43
    go_wp2
    go_ret
    exact ⟨rfl, HB.out⟩

set_option maxHeartbeats 1600000 in
set_option maxRecDepth 100000 in
theorem within_list (d : Nat) (hd : d < 6) (IH : WithinAt d) (x1 : Int) (x2 : ByteArray) (A : Option Addr) (c : Nat) (l : List S25) (w : World) (hr : Kd.C k25 w A l.length l) (hc : l.length ≤ c) :
    Calls Try.prog 43 #[.agg #[.int .i64 3, .int .i64 x1, .string x2, .slice A l.length c], .int .i64 (6 - ((d + 1 : Nat) : Int))] w fun e w' => e = .returned (.bool (canon_chk (d + 1) ⟨3, x1, x2, l⟩)) ∧ Below w.heap.size w w' := by
  have hu25 := Try.underlying25
  have hmf : ∀ (fn : Fn) (first cap : Array Value) (w : World), (Instr.makeFunc fn first cap).run Try.prog w = .ok (.func fn first cap) w := fun _ _ _ _ => rfl
  have hchk : canon_chk (d + 1) ⟨3, x1, x2, l⟩ = (decide (l.length ≤ 1024) && decide (x2.size = 0) && decide (x1 = 0) && l.all (canon_chk d)) := by simp [canon_chk]
  have HC := Aside0.mk hchk
  have HR := Aside0.mk hr
  have HI := Aside0.mk IH
  have hb0 := below_alloc (below_alloc (Below.refl w.heap.size w) (.cells #[.int .i64 3, .int .i64 x1, .string x2, .slice A l.length c] 25)) (.cells #[.int .i64 (6 - ((d + 1 : Nat) : Int))] 3)
  have HB := Aside0.mk hb0
  clear hr hchk hb0 IH
  have bd : decide ((6 : Int) ≤ 6 - ((d + 1 : Nat) : Int)) = false := decide_eq_false (by omega)
  by_cases h0 : l.length ≤ 1024
  · have b0 : decide (1024 < (l.length : Int)) = false := decide_eq_false (by omega)
    by_cases h1 : x2.size = 0
    · have b1 := str_empty h1
      have b1' : decide (65536 < (x2.size : Int)) = false := decide_eq_false (by omega)
      by_cases h2 : x1 = 0
      · subst h2
        go_enter Try.func43, Try.ntmps43
        go_wp2_with fail
        refine (within_con_at d A c l _ _ (Kd.C_below HR.out (below_alloc (below_alloc (Below.refl _ _) _) _)) hc (fun _ => by simpa using heap_alloc_new (w.alloc (.cells #[.int .i64 3, .int .i64 0, .string x2, .slice A l.length c] 25)) (.cells #[.int .i64 (6 - ((d : Int) + 1))] 3)) (fun _ => ⟨hd, HI.out⟩)).mono ?_
        rintro e w' ⟨rfl, hb⟩
        have HB2 := Aside0.mk (below_step HB.out hb)
        clear hb
        go_wp2
        go_ret
        exact ⟨by rw [HC.out, decide_eq_true h0, decide_eq_true h1]; simp, HB2.out⟩
      · have b2 : (x1 != 0) = true := bne_iff_ne.2 h2
        go_enter Try.func43, Try.ntmps43
        go_wp2
        go_ret
        exact ⟨by rw [HC.out, decide_eq_true h0, decide_eq_true h1, decide_eq_false h2]; rfl, HB.out⟩
    · have b1 := str_nonempty h1
      go_enter Try.func43, Try.ntmps43
      go_wp2
      go_ret
      exact ⟨by rw [HC.out, decide_eq_true h0, decide_eq_false h1]; rfl, HB.out⟩
  · have b0 : decide (1024 < (l.length : Int)) = true := decide_eq_true (by omega)
    go_enter Try.func43, Try.ntmps43
    go_wp2
    go_ret
    exact ⟨by rw [HC.out, decide_eq_false h0]; rfl, HB.out⟩

set_option maxHeartbeats 1600000 in
set_option maxRecDepth 100000 in
theorem within_other (d : Nat) (hd : d ≤ 6) (x0 x1 : Int) (h1 : x0 ≠ 1) (h2 : x0 ≠ 2) (h3 : x0 ≠ 3) (x2 : ByteArray) (A : Option Addr) (c : Nat) (l : List S25) (w : World) :
    Calls Try.prog 43 #[.agg #[.int .i64 x0, .int .i64 x1, .string x2, .slice A l.length c], .int .i64 (6 - (d : Int))] w fun e w' => e = .returned (.bool (canon_chk d ⟨x0, x1, x2, l⟩)) ∧ Below w.heap.size w w' := by
  have hu25 := Try.underlying25
  have hchk : canon_chk d ⟨x0, x1, x2, l⟩ = false := by cases d <;> simp [canon_chk, h1, h2, h3]
  have HC := Aside0.mk hchk
  have HB := Aside0.mk (below_alloc (below_alloc (Below.refl w.heap.size w) (.cells #[.int .i64 x0, .int .i64 x1, .string x2, .slice A l.length c] 25)) (.cells #[.int .i64 (6 - (d : Int))] 3))
  have b1 : (x0 == 1) = false := beq_eq_false_iff_ne.2 h1
  have b2 : (x0 == 2) = false := beq_eq_false_iff_ne.2 h2
  have b3 : (x0 == 3) = false := beq_eq_false_iff_ne.2 h3
  clear hchk h1 h2 h3
  go_enter Try.func43, Try.ntmps43
  go_wp2
  go_ret
  exact ⟨by rw [HC.out]; rfl, HB.out⟩

theorem within_at : ∀ d, d ≤ 6 → WithinAt d := by
  intro d
  induction d with
  | zero =>
    intro hd x0 x1 x2 A c l w hr hc
    by_cases h1 : x0 = 1
    · subst h1; exact within_num 0 hd x1 x2 A c l w hr hc
    by_cases h2 : x0 = 2
    · subst h2; exact within_text 0 hd x1 x2 A c l w hr hc
    by_cases h3 : x0 = 3
    · subst h3; exact within_list0 x1 x2 A c l w hr hc
    exact within_other 0 hd x0 x1 h1 h2 h3 x2 A c l w
  | succ d ih =>
    intro hd x0 x1 x2 A c l w hr hc
    by_cases h1 : x0 = 1
    · subst h1; exact within_num (d + 1) hd x1 x2 A c l w hr hc
    by_cases h2 : x0 = 2
    · subst h2; exact within_text (d + 1) hd x1 x2 A c l w hr hc
    by_cases h3 : x0 = 3
    · subst h3; exact within_list d (by omega) (ih (by omega)) x1 x2 A c l w hr hc
    exact within_other (d + 1) hd x0 x1 h1 h2 h3 x2 A c l w

def canon_Check.f (a0_0 a0_1 : Int) (a0_2 : ByteArray) (l0_3 : List S25) : Option Bool := some (canon_chk 6 ⟨a0_0, a0_1, a0_2, l0_3⟩)

set_option maxHeartbeats 800000 in
theorem canon_Check.calls (a0_0 : Int) (a0_1 : Int) (a0_2 : ByteArray) (A0_3 : Option Addr) (c0_3 : Nat) (l0_3 : List S25) (r : Bool) (w : World) (hr0_3 : Kd.C k25 w A0_3 l0_3.length l0_3) (hc0_3 : l0_3.length ≤ c0_3) (h : canon_Check.f a0_0 a0_1 a0_2 l0_3 = some r) :
    Calls Try.prog 15 #[.agg #[.int .i64 a0_0, .int .i64 a0_1, .string a0_2, .slice A0_3 l0_3.length c0_3]] w fun e w' => e = .returned (.bool r) ∧ Below w.heap.size w w' := by
  obtain rfl : canon_chk 6 ⟨a0_0, a0_1, a0_2, l0_3⟩ = r := Option.some.inj h
  clear h
  have hu25 := Try.underlying25
  have HR := Aside0.mk hr0_3
  clear hr0_3
  go_enter Try.func15, Try.ntmps15
  go_wp2_with fail
  refine (within_at 6 (Nat.le_refl _) a0_0 a0_1 a0_2 A0_3 c0_3 l0_3 _ (Kd.C_below HR.out (below_alloc (Below.refl _ _) _)) hc0_3).mono ?_
  rintro e w' ⟨rfl, hb⟩
  have HB2 := Aside0.mk (below_step (below_alloc (Below.refl w.heap.size w) _) hb)
  clear hb
  go_wp2
  go_ret
  exact ⟨rfl, HB2.out⟩

end Go.Proofs.Ytepmahdiiioceaa.Pr
