import Derived.Test.YtepmahdiiioceaaKPr0
import Derived.Test.YtepmahdiiioceaaKPrCanonCheck
import Derived.Test.YtepmahdiiioceaaKPrCanonNumber
import Derived.Test.YtepmahdiiioceaaKPrStringsBuilder
import Derived.Test.YtepmahdiiioceaaKPrStringsBuilderByte
import Derived.Test.YtepmahdiiioceaaKPrStringsBuilderStr
namespace Go.Proofs.Ytepmahdiiioceaa.Pr
open Go.RowKit Go.Proofs.YtepmahdiiioceaaW.PrintWords Go.Proofs.YtepmahdiiioceaaW.PrintLast Go.Proofs.YtepmahdiiioceaaW.PrintMore
attribute [local go_sem] max2_int min2_int max_two min_two max_three min_three max_four min_four   -- for this text's walks alone
set_option linter.unusedVariables false
set_option linter.unusedSimpArgs false

/-! ### canon_write: function 0 -/
open Go.Proofs.Ytepmahdiiioceaa.U
/-- The bytes of an item, as far as d lists may stand in each other. -/
def canon_wr : Nat → S25 → List UInt8
  | 0, x => if x.f0 = 1 then numB x.f1.toNat else if x.f0 = 2 then 8 :: (numB x.f2.size ++ x.f2.data.toList) else []
  | d + 1, x => if x.f0 = 1 then numB x.f1.toNat else if x.f0 = 2 then 8 :: (numB x.f2.size ++ x.f2.data.toList) else if x.f0 = 3 then 9 :: (numB x.f3.length ++ x.f3.flatMap (canon_wr d)) else []

/-- What a write leaves: all, or more than may be. -/
structure WrOk (bs bs' : List Int) (t : List UInt8) : Prop where
  le : bs'.length ≤ 200000
  small : bs.length + t.length ≤ 65536 → bs' = bs ++ ints t
  big : 65536 < bs.length + t.length → 65536 < bs'.length
theorem WrOk.nil {bs : List Int} (h : bs.length ≤ 200000) : WrOk bs bs [] := ⟨h, fun _ => by simp [ints], fun h => by simpa using h⟩
theorem WrOk.trans {a b c : List Int} {s t : List UInt8} (h : WrOk a b s) (k : WrOk b c t) : WrOk a c (s ++ t) := by
  refine ⟨k.le, fun hs => ?_, fun hb => ?_⟩
  · rw [List.length_append] at hs
    have e1 := h.small (by omega)
    subst e1
    have e2 := k.small (by rw [List.length_append, ints_length]; omega)
    rw [e2, ints_append, List.append_assoc]
  · rw [List.length_append] at hb
    rcases Nat.lt_or_ge 65536 (a.length + s.length) with h1 | h1
    · exact k.big (by have := h.big h1; omega)
    · have e1 := h.small h1
      subst e1
      exact k.big (by rw [List.length_append, ints_length]; omega)
theorem WrOk.all {a : List Int} {t : List UInt8} (h : a.length + t.length ≤ 200000) : WrOk a (a ++ ints t) t :=
  ⟨by rw [List.length_append, ints_length]; exact h, fun _ => rfl, fun hb => by rw [List.length_append, ints_length]; exact hb⟩
theorem WrOk.long {a : List Int} {t : List UInt8} (h : a.length ≤ 200000) (h1 : 65536 < a.length) : WrOk a a t :=
  ⟨h, fun hs => by omega, fun _ => h1⟩
/-- What stands behind a write. -/
def WrPost (W0 : World) (b : Nat) (bs : List Int) (t : List UInt8) (w : World) (e : Ending) (w' : World) : Prop :=
  e = .returned (.tuple #[]) ∧ ∃ bs', Bld W0.heap.size b bs' w' ∧ BldKept W0.heap.size b w w' ∧ WrOk bs bs' t

set_option maxHeartbeats 2000000 in
set_option maxRecDepth 100000 in
theorem canon_write_long (W0 : World) (b : Nat) (bs : List Int) (x0 x1 : Int) (x2 : ByteArray) (A : Option Addr) (c n : Nat) (t : List UInt8) (w : World) (hW : Below W0.heap.size W0 w)
    (hb : Bld W0.heap.size b bs w) (hl : bs.length ≤ 200000) (hlong : 65536 < bs.length) :
    Calls Try.prog 40 #[.pointer (some ⟨b, 0, none⟩), .agg #[.int .i64 x0, .int .i64 x1, .string x2, .slice A n c]] w (WrPost W0 b bs t w) := by
  have hu25 := Try.underlying25
  have HB := Aside0.mk hb
  have HW := Aside0.mk hW
  clear hb hW
  have hd : decide (65536 < (bs.length : Int)) = true := decide_eq_true (by omega)
  go_enter Try.func40, Try.ntmps40
  go_wp2_with fail
  refine (bld_len W0.heap.size b bs _ (HB.out.alloc _)).mono ?_
  rintro e w1 ⟨rfl, rfl⟩
  go_wp2
  go_end0
  exact ⟨rfl, bs, HB.out.alloc _, (BldKept.refl _ _ _).alloc HW.out.size _, WrOk.long hl hlong⟩

set_option maxHeartbeats 2000000 in
set_option maxRecDepth 100000 in
theorem canon_write_num (W0 : World) (b : Nat) (bs : List Int) (m : Nat) (hm : m < 72057594037927936) (x2 : ByteArray) (A : Option Addr) (c n : Nat) (w : World) (hW : Below W0.heap.size W0 w)
    (hb : Bld W0.heap.size b bs w) (hl : bs.length ≤ 65536) :
    Calls Try.prog 40 #[.pointer (some ⟨b, 0, none⟩), .agg #[.int .i64 1, .int .i64 (m : Int), .string x2, .slice A n c]] w (WrPost W0 b bs (numB m) w) := by
  have hu25 := Try.underlying25
  have HB := Aside0.mk hb
  have HW := Aside0.mk hW
  clear hb hW
  have hd : decide (65536 < (bs.length : Int)) = false := decide_eq_false (by omega)
  have hL : numLen m ≤ 7 := numLen_le (by simpa using hm)
  go_enter Try.func40, Try.ntmps40
  go_wp2_with fail
  refine (bld_len W0.heap.size b bs _ (HB.out.alloc _)).mono ?_
  rintro e w1 ⟨rfl, rfl⟩
  go_wp2_with fail
  refine (canon_number_calls W0.heap.size b bs m _ (HB.out.alloc _) hm (by omega) (by simp; exact Nat.le_succ_of_le HW.out.size)).mono ?_
  rintro e w2 ⟨rfl, hB2, hK2⟩
  have HB2 := Aside0.mk hB2
  have HK2 := Aside0.mk (((BldKept.refl _ b w).alloc HW.out.size _).trans hK2)
  clear hB2 hK2
  go_wp2
  go_end0
  exact ⟨rfl, _, HB2.out, HK2.out, WrOk.all (by rw [numB_length]; omega)⟩

set_option maxHeartbeats 2000000 in
set_option maxRecDepth 100000 in
theorem canon_write_text (W0 : World) (b : Nat) (bs : List Int) (x1 : Int) (x2 : ByteArray) (hs : x2.size ≤ 65536) (A : Option Addr) (c n : Nat) (w : World) (hW : Below W0.heap.size W0 w)
    (hb : Bld W0.heap.size b bs w) (hl : bs.length ≤ 65536) :
    Calls Try.prog 40 #[.pointer (some ⟨b, 0, none⟩), .agg #[.int .i64 2, .int .i64 x1, .string x2, .slice A n c]] w (WrPost W0 b bs (8 :: (numB x2.size ++ x2.data.toList)) w) := by
  have hu25 := Try.underlying25
  have HB := Aside0.mk hb
  have HW := Aside0.mk hW
  clear hb hW
  have hd : decide (65536 < (bs.length : Int)) = false := decide_eq_false (by omega)
  have hL : numLen x2.size ≤ 3 := numLen_le (by omega)
  go_enter Try.func40, Try.ntmps40
  go_wp2_with fail
  refine (bld_len W0.heap.size b bs _ (HB.out.alloc _)).mono ?_
  rintro e w1 ⟨rfl, rfl⟩
  go_wp2_with fail
  refine (bld_byte W0.heap.size b bs 8 _ (HB.out.alloc _) (by omega) (by simp; exact Nat.le_succ_of_le HW.out.size)).mono ?_
  rintro e w2 ⟨rfl, hB2, hK2⟩
  have HX := Aside0.mk (heap_alloc_new w (.cells #[.int .i64 2, .int .i64 x1, .string x2, .slice A n c] 25))
  have hgb : w.heap.size ≠ b := Nat.ne_of_gt HB.out.lt
  have HX2 := Aside0.mk (hK2.blk HX.out hgb (by decide))
  have HB2 := Aside0.mk hB2
  have HK2 := Aside0.mk (((BldKept.refl _ b w).alloc HW.out.size (.cells #[.int .i64 2, .int .i64 x1, .string x2, .slice A n c] 25)).trans hK2)
  have hBw2 : W0.heap.size ≤ w2.heap.size := Nat.le_trans HW.out.size HK2.out.size
  clear hB2 hK2 hgb
  have hc2 : w2.cell? ⟨w.heap.size, 2, none⟩ = some (.string x2) := (blk_cell HX2.out 2).trans rfl
  go_wp2_with fail
  refine (canon_number_calls W0.heap.size b _ x2.size _ HB2.out (by omega) (by simp; omega) hBw2).mono ?_
  rintro e w3 ⟨rfl, hB3, hK3⟩
  have hgb : w.heap.size ≠ b := Nat.ne_of_gt HB.out.lt
  have HX3 := Aside0.mk (hK3.blk HX2.out hgb (by decide))
  have HB3 := Aside0.mk hB3
  have HK3 := Aside0.mk (HK2.out.trans hK3)
  have hBw3 : W0.heap.size ≤ w3.heap.size := Nat.le_trans hBw2 hK3.size
  clear hB3 hK3 hgb hc2
  have hc3 : w3.cell? ⟨w.heap.size, 2, none⟩ = some (.string x2) := (blk_cell HX3.out 2).trans rfl
  go_wp2_with fail
  refine (bld_str W0.heap.size b _ x2 _ HB3.out (by simp [ints_length, numB_length]; omega) hBw3).mono ?_
  rintro e w4 ⟨rfl, hB4, hK4⟩
  have HB4 := Aside0.mk hB4
  have HK4 := Aside0.mk (HK3.out.trans hK4)
  clear hB4 hK4 hc3
  go_wp2
  go_end0
  refine ⟨rfl, _, ?_, HK4.out, WrOk.all (by simp [numB_length]; omega)⟩
  have := HB4.out
  simpa [ints, bytesOf, List.append_assoc] using this

def WriteAt (d : Nat) : Prop := ∀ (W0 : World) (b : Nat) (bs : List Int) (x0 x1 : Int) (x2 : ByteArray) (A : Option Addr) (c : Nat) (l : List S25) (w : World), Kd.C k25 W0 A l.length l → l.length ≤ c → canon_chk d ⟨x0, x1, x2, l⟩ = true →
    Below W0.heap.size W0 w → Bld W0.heap.size b bs w → bs.length ≤ 200000 →
    Calls Try.prog 40 #[.pointer (some ⟨b, 0, none⟩), .agg #[.int .i64 x0, .int .i64 x1, .string x2, .slice A l.length c]] w (WrPost W0 b bs (canon_wr d ⟨x0, x1, x2, l⟩) w)

set_option maxHeartbeats 4000000 in
set_option maxRecDepth 100000 in
theorem canon_write_list (d : Nat) (IH : WriteAt d) (W0 : World) (b : Nat) (bs : List Int) (x1 : Int) (x2 : ByteArray) (A : Option Addr) (c : Nat) (l : List S25) (w : World)
    (hC : Kd.C k25 W0 A l.length l) (hc : l.length ≤ c) (hn : l.length ≤ 1024) (hall : ∀ y ∈ l, canon_chk d y = true) (hW : Below W0.heap.size W0 w)
    (hb : Bld W0.heap.size b bs w) (hl : bs.length ≤ 65536) :
    Calls Try.prog 40 #[.pointer (some ⟨b, 0, none⟩), .agg #[.int .i64 3, .int .i64 x1, .string x2, .slice A l.length c]] w (WrPost W0 b bs (9 :: (numB l.length ++ l.flatMap (canon_wr d))) w) := by
  have hu25 := Try.underlying25
  have HB := Aside0.mk hb
  have HW := Aside0.mk hW
  have HC := Aside0.mk hC
  have HI := Aside0.mk IH
  have HA := Aside0.mk hall
  clear hb hW hC IH hall
  have hd : decide (65536 < (bs.length : Int)) = false := decide_eq_false (by omega)
  have hL : numLen l.length ≤ 2 := numLen_le (by omega)
  go_enter Try.func40, Try.ntmps40
  go_wp2_with fail
  refine (bld_len W0.heap.size b bs _ (HB.out.alloc _)).mono ?_
  rintro e w1 ⟨rfl, rfl⟩
  go_wp2_with fail
  refine (bld_byte W0.heap.size b bs 9 _ (HB.out.alloc _) (by omega) (by simp; exact Nat.le_succ_of_le HW.out.size)).mono ?_
  rintro e w2 ⟨rfl, hB2, hK2⟩
  have HX := Aside0.mk (heap_alloc_new w (.cells #[.int .i64 3, .int .i64 x1, .string x2, .slice A l.length c] 25))
  have hgb : w.heap.size ≠ b := Nat.ne_of_gt HB.out.lt
  have HX2 := Aside0.mk (hK2.blk HX.out hgb (by decide))
  have HB2 := Aside0.mk hB2
  have HK2 := Aside0.mk (((BldKept.refl _ b w).alloc HW.out.size (.cells #[.int .i64 3, .int .i64 x1, .string x2, .slice A l.length c] 25)).trans hK2)
  have hBw2 : W0.heap.size ≤ w2.heap.size := Nat.le_trans HW.out.size HK2.out.size
  clear hB2 hK2 hgb
  have hc2 : w2.cell? ⟨w.heap.size, 3, none⟩ = some (.slice A l.length c) := (blk_cell HX2.out 3).trans rfl
  go_wp2_with fail
  refine (canon_number_calls W0.heap.size b _ l.length _ HB2.out (by omega) (by simp; omega) hBw2).mono ?_
  rintro e w3 ⟨rfl, hB3, hK3⟩
  have hgb : w.heap.size ≠ b := Nat.ne_of_gt HB.out.lt
  have HX3 := Aside0.mk (hK3.blk HX2.out hgb (by decide))
  have HB3 := Aside0.mk hB3
  have HK3 := Aside0.mk (HK2.out.trans hK3)
  clear hB3 hK3 hgb hc2 hBw2
  have hc3 : w3.cell? ⟨w.heap.size, 3, none⟩ = some (.slice A l.length c) := (blk_cell HX3.out 3).trans rfl
  have HS3 := Aside0.mk (show WrOk bs ((bs ++ [9]) ++ ints (numB l.length)) (9 :: (numB l.length ++ (l.take 0).flatMap (canon_wr d))) from by
    have := WrOk.all (a := bs) (t := 9 :: numB l.length) (by simp [numB_length]; omega)
    simpa [ints, List.append_assoc] using this)
  go_wp2
  go_loopw [5, 42] (fun v5 v42 wr => ∃ (k : Nat) (bs' : List Int), k ≤ l.length ∧ v42 = .int .i64 k ∧ Aside0 (Bld W0.heap.size b bs' wr) ∧ Aside0 (BldKept W0.heap.size b w wr) ∧ Aside0 (WrOk bs bs' (9 :: (numB l.length ++ (l.take k).flatMap (canon_wr d))))) (fun _ v42 _ => l.length - (intOf v42).toNat)
  case atStart => exact ⟨0, _, Nat.zero_le _, rfl, HB3, HK3, HS3⟩
  case round =>
    clear HS3 HK3 HB3 hc3 HX3 HX2 HX HB2 HK2
    obtain ⟨k, bs', hk, rfl, HB4, HK4, HS4⟩ := hrel
    by_cases hlt : k < l.length
    · obtain ⟨ad, A3, c3, rfl, e0, e1, e2, e3, hl3, hr3⟩ := at_T25 HC.out k (by omega) (by omega)
      simp only [Int.toNat_natCast] at e0 e1 e2 e3
      have HY := Aside0.mk (show rd_T25 l k = l[k] by simp [rd_T25, hlt])
      generalize rd_T25 l ↑k = y at *
      obtain ⟨y0, y1, y2, y3⟩ := y
      have HR3 := Aside0.mk hr3
      have hbw := Below.trans HW.out HK4.out.below
      have f0 := pw_cell_below hbw e0
      have f1 := pw_cell_below hbw e1
      have f2 := pw_cell_below hbw e2
      have f3 := pw_cell_below hbw e3
      have HBW := Aside0.mk hbw
      clear hr3 e0 e1 e2 e3 hbw
      have hyc : canon_chk d ⟨y0, y1, y2, y3⟩ = true := by rw [HY.out]; exact HA.out _ (List.getElem_mem hlt)
      have HQ := Aside0.mk hyc
      clear hyc
      go_wp2_with fail
      refine (HI.out W0 b bs' y0 y1 y2 A3 c3 y3 _ HR3.out hl3 HQ.out (HBW.out.alloc HBW.out.size _) (HB4.out.alloc _) HS4.out.le).mono ?_
      rintro e w5 ⟨rfl, bs2, hB5, hK5, hS5⟩
      have HB5 := Aside0.mk hB5
      have HK5 := Aside0.mk ((HK4.out.alloc HW.out.size _).trans hK5)
      have HS5 := Aside0.mk (HS4.out.trans hS5)
      clear hB5 hK5 hS5 f0 f1 f2 f3
      go_wp2
      go_roundw
      case rel =>
        refine ⟨k + 1, bs2, by omega, by go_num, HB5, HK5, ⟨?_⟩⟩
        rw [List.take_succ_eq_append_getElem hlt, List.flatMap_append]
        have := HS5.out
        rw [HY.out] at this
        simpa [List.append_assoc] using this
      case measure => simp [intOf]; omega
    · have hkl : k = l.length := by omega
      subst hkl
      go_wp2
      go_end0
      refine ⟨rfl, bs', HB4.out, HK4.out, ?_⟩
      have := HS4.out
      rw [List.take_length] at this
      exact this

theorem canon_chk_num {d : Nat} {x1 : Int} {x2 : ByteArray} {l : List S25} (h : canon_chk d ⟨1, x1, x2, l⟩ = true) : 0 ≤ x1 ∧ x1 ≤ 72057594037927935 ∧ x2.size = 0 ∧ l = [] := by
  have h2 : (decide (0 ≤ x1) && decide (x1 ≤ 72057594037927935) && decide (x2.size = 0) && decide (l.length = 0)) = true := by cases d <;> simpa [canon_chk] using h
  simp only [Bool.and_eq_true, decide_eq_true_eq] at h2
  exact ⟨h2.1.1.1, h2.1.1.2, h2.1.2, List.eq_nil_of_length_eq_zero h2.2⟩
theorem canon_chk_text {d : Nat} {x1 : Int} {x2 : ByteArray} {l : List S25} (h : canon_chk d ⟨2, x1, x2, l⟩ = true) : x1 = 0 ∧ x2.size ≤ 65536 ∧ l = [] := by
  have h2 : (decide (x1 = 0) && decide (x2.size ≤ 65536) && decide (l.length = 0)) = true := by cases d <;> simpa [canon_chk] using h
  simp only [Bool.and_eq_true, decide_eq_true_eq] at h2
  exact ⟨h2.1.1, h2.1.2, List.eq_nil_of_length_eq_zero h2.2⟩
theorem canon_chk_kind {d : Nat} {x0 x1 : Int} {x2 : ByteArray} {l : List S25} (h : canon_chk d ⟨x0, x1, x2, l⟩ = true) : x0 = 1 ∨ x0 = 2 ∨ x0 = 3 := by
  by_cases h1 : x0 = 1
  · exact .inl h1
  by_cases h2 : x0 = 2
  · exact .inr (.inl h2)
  by_cases h3 : x0 = 3
  · exact .inr (.inr h3)
  exfalso
  cases d <;> simp [canon_chk, h1, h2, h3] at h
theorem canon_chk_list {d : Nat} {x1 : Int} {x2 : ByteArray} {l : List S25} (h : canon_chk d ⟨3, x1, x2, l⟩ = true) : ∃ e, d = e + 1 ∧ l.length ≤ 1024 ∧ x2.size = 0 ∧ x1 = 0 ∧ ∀ y ∈ l, canon_chk e y = true := by
  cases d with
  | zero => simp [canon_chk] at h
  | succ e =>
    have h2 : (decide (l.length ≤ 1024) && decide (x2.size = 0) && decide (x1 = 0) && l.all (canon_chk e)) = true := by simpa [canon_chk] using h
    simp only [Bool.and_eq_true, decide_eq_true_eq, List.all_eq_true] at h2
    exact ⟨e, rfl, h2.1.1.1, h2.1.1.2, h2.1.2, h2.2⟩

theorem canon_write_at : ∀ d, WriteAt d := by
  intro d
  induction d with
  | zero =>
    intro W0 b bs x0 x1 x2 A c l w hC hc hchk hW hb hl
    rcases Nat.lt_or_ge 65536 bs.length with hlong | hshort
    · exact canon_write_long W0 b bs x0 x1 x2 A c l.length _ w hW hb hl hlong
    · rcases canon_chk_kind hchk with rfl | rfl | rfl
      · obtain ⟨h0, h1, h2, rfl⟩ := canon_chk_num hchk
        obtain ⟨m, rfl⟩ := Int.eq_ofNat_of_zero_le h0
        have := canon_write_num W0 b bs m (by omega) x2 A c 0 w hW hb hshort
        simpa [canon_wr] using this
      · obtain ⟨rfl, h1, rfl⟩ := canon_chk_text hchk
        have := canon_write_text W0 b bs 0 x2 h1 A c 0 w hW hb hshort
        simpa [canon_wr] using this
      · obtain ⟨e, he, _⟩ := canon_chk_list hchk
        omega
  | succ d ih =>
    intro W0 b bs x0 x1 x2 A c l w hC hc hchk hW hb hl
    rcases Nat.lt_or_ge 65536 bs.length with hlong | hshort
    · exact canon_write_long W0 b bs x0 x1 x2 A c l.length _ w hW hb hl hlong
    · rcases canon_chk_kind hchk with rfl | rfl | rfl
      · obtain ⟨h0, h1, h2, rfl⟩ := canon_chk_num hchk
        obtain ⟨m, rfl⟩ := Int.eq_ofNat_of_zero_le h0
        have := canon_write_num W0 b bs m (by omega) x2 A c 0 w hW hb hshort
        simpa [canon_wr] using this
      · obtain ⟨rfl, h1, rfl⟩ := canon_chk_text hchk
        have := canon_write_text W0 b bs 0 x2 h1 A c 0 w hW hb hshort
        simpa [canon_wr] using this
      · obtain ⟨e, he, h1, h2, rfl, h4⟩ := canon_chk_list hchk
        obtain rfl : d = e := by omega
        have := canon_write_list d ih W0 b bs 0 x2 A c l w hC hc h1 h4 hW hb hshort
        simpa [canon_wr] using this

end Go.Proofs.Ytepmahdiiioceaa.Pr
