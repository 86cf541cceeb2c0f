import Derived.Test.YtepmahdiiioceaaKPr0
import Derived.Test.YtepmahdiiioceaaKPrCanonCheck
import Derived.Test.YtepmahdiiioceaaKPrCanonNumber
import Derived.Test.YtepmahdiiioceaaKPrCanonWrite
import Derived.Test.YtepmahdiiioceaaKPrStringsBuilder
import Derived.Test.YtepmahdiiioceaaKPrStringsBuilderString
namespace Go.Proofs.Ytepmahdiiioceaa.Pr
open Go.RowKit Go.Proofs.YtepmahdiiioceaaW.PrintWords Go.Proofs.YtepmahdiiioceaaW.PrintLast Go.Proofs.YtepmahdiiioceaaW.PrintMore
attribute [local go_sem] max2_int min2_int max_two min_two max_three min_three max_four min_four   -- for this text's walks alone
set_option linter.unusedVariables false
set_option linter.unusedSimpArgs false

/-! ### canon_Encode: function 14 -/
open Go.Proofs.Ytepmahdiiioceaa.U
def canon_Encode.f (a0_0 : Int) (a0_1 : Int) (a0_2 : ByteArray) (l0_3 : List S25) : Option (ByteArray × Int) :=
  if canon_chk 6 ⟨a0_0, a0_1, a0_2, l0_3⟩ = true then (if (canon_wr 6 ⟨a0_0, a0_1, a0_2, l0_3⟩).length ≤ 65536 then some (⟨(canon_wr 6 ⟨a0_0, a0_1, a0_2, l0_3⟩).toArray⟩, 0) else some (⟨#[]⟩, 2)) else some (⟨#[]⟩, 1)
theorem canon_wr_ne (d : Nat) (x0 x1 : Int) (x2 : ByteArray) (l : List S25) (h : canon_chk d ⟨x0, x1, x2, l⟩ = true) : canon_wr d ⟨x0, x1, x2, l⟩ ≠ [] := by
  rcases canon_chk_kind h with rfl | rfl | rfl
  · cases d <;> simp [canon_wr, numB]
  · cases d <;> simp [canon_wr]
  · obtain ⟨e, rfl, _⟩ := canon_chk_list h
    simp [canon_wr]

set_option maxHeartbeats 2000000 in
set_option maxRecDepth 100000 in
theorem canon_Encode.calls (a0_0 : Int) (a0_1 : Int) (a0_2 : ByteArray) (A0_3 : Option Addr) (c0_3 : Nat) (l0_3 : List S25) (r1 : ByteArray) (r2 : Int) (w : World) (hr0_3 : Kd.C k25 w A0_3 l0_3.length l0_3) (hc0_3 : l0_3.length ≤ c0_3) (h : canon_Encode.f a0_0 a0_1 a0_2 l0_3 = some (r1, r2)) :
    Calls Try.prog 14 #[.agg #[.int .i64 a0_0, .int .i64 a0_1, .string a0_2, .slice A0_3 l0_3.length c0_3]] w fun e w' => e = .returned (.tuple #[.string r1, .int .i64 r2]) ∧ Below w.heap.size w w' := by
  have hu25 := Try.underlying25
  have HR := Aside0.mk hr0_3
  have HF := Aside0.mk h
  clear hr0_3 h
  have HB0 := Aside0.mk (below_alloc (Below.refl w.heap.size w) (.cells #[.int .i64 a0_0, .int .i64 a0_1, .string a0_2, .slice A0_3 l0_3.length c0_3] 25))
  have HX0 := Aside0.mk (heap_alloc_new w (.cells #[.int .i64 a0_0, .int .i64 a0_1, .string a0_2, .slice A0_3 l0_3.length c0_3] 25))
  go_enter Try.func14, Try.ntmps14
  go_wp2_with fail
  refine (canon_Check.calls a0_0 a0_1 a0_2 A0_3 c0_3 l0_3 _ _ (Kd.C_below HR.out HB0.out) hc0_3 rfl).mono ?_
  rintro e w1 ⟨rfl, hb1⟩
  have HB1 := Aside0.mk (below_step HB0.out hb1)
  have HX1 := Aside0.mk (blk_below HX0.out hb1)
  clear hb1
  have hc0 : w1.cell? ⟨w.heap.size, 0, none⟩ = some (.int .i64 a0_0) := (blk_cell HX1.out 0).trans rfl
  have hc1 : w1.cell? ⟨w.heap.size, 1, none⟩ = some (.int .i64 a0_1) := (blk_cell HX1.out 1).trans rfl
  have hc2 : w1.cell? ⟨w.heap.size, 2, none⟩ = some (.string a0_2) := (blk_cell HX1.out 2).trans rfl
  have hc3 : w1.cell? ⟨w.heap.size, 3, none⟩ = some (.slice A0_3 l0_3.length c0_3) := (blk_cell HX1.out 3).trans rfl
  have hlt1 : w.heap.size < w1.heap.size := blk_lt HX1.out
  cases hchk : canon_chk 6 ⟨a0_0, a0_1, a0_2, l0_3⟩
  · have HC := Aside0.mk hchk
    clear hchk
    go_wp2
    go_ret2
    have hf := HF.out
    simp only [canon_Encode.f, HC.out] at hf
    simp at hf
    obtain ⟨rfl, rfl⟩ := hf
    exact ⟨rfl, HB1.out⟩
  · have HC := Aside0.mk hchk
    clear hchk
    go_wp2_with fail
    have HN := Aside0.mk (Bld.new w.heap.size w1 (Nat.le_of_lt hlt1))
    refine (canon_write_at 6 w w1.heap.size [] a0_0 a0_1 a0_2 A0_3 c0_3 l0_3 _ HR.out hc0_3 HC.out (HB1.out.alloc (Nat.le_of_lt hlt1) _) HN.out (by simp)).mono ?_
    rintro e w2 ⟨rfl, bs, hB2, hK2, hS2⟩
    have HB2 := Aside0.mk hB2
    have HK2 := Aside0.mk ((HB1.out.alloc (Nat.le_of_lt hlt1) _).trans hK2.below)
    have HS2 := Aside0.mk hS2
    clear hB2 hK2 hS2
    go_wp2_with fail
    refine (bld_len w.heap.size w1.heap.size bs _ HB2.out).mono ?_
    rintro e w3 ⟨rfl, rfl⟩
    by_cases hlen : (canon_wr 6 ⟨a0_0, a0_1, a0_2, l0_3⟩).length ≤ 65536
    · have hbs : bs = ints (canon_wr 6 ⟨a0_0, a0_1, a0_2, l0_3⟩) := by simpa using HS2.out.small (by simpa using hlen)
      subst hbs
      have hd : decide (65536 < ((ints (canon_wr 6 ⟨a0_0, a0_1, a0_2, l0_3⟩)).length : Int)) = false := decide_eq_false (by rw [ints_length]; omega)
      have HL := Aside0.mk hlen
      clear hlen
      go_wp2_with fail
      refine (bld_string w.heap.size w1.heap.size ⟨(canon_wr 6 ⟨a0_0, a0_1, a0_2, l0_3⟩).toArray⟩ _ (by have := HB2.out; simpa [bytesOf, ints] using this) (by
        have := canon_wr_ne 6 _ _ _ _ HC.out
        intro e; apply this; apply List.eq_nil_of_length_eq_zero; exact e)).mono ?_
      rintro e w4 ⟨rfl, hb4⟩
      have HB4 := Aside0.mk (HK2.out.trans hb4)
      clear hb4 hd
      go_wp2
      go_ret2
      have hf := HF.out
      simp only [canon_Encode.f, HC.out, HL.out, if_true] at hf
      simp at hf
      obtain ⟨rfl, rfl⟩ := hf
      exact ⟨rfl, HB4.out⟩
    · have hbig := HS2.out.big (by simp; omega)
      have hd : decide (65536 < (bs.length : Int)) = true := decide_eq_true (by omega)
      have HL := Aside0.mk hlen
      clear hlen
      go_wp2
      go_ret2
      have hf := HF.out
      simp only [canon_Encode.f, HC.out, HL.out, if_true, if_false] at hf
      simp at hf
      obtain ⟨rfl, rfl⟩ := hf
      exact ⟨rfl, HK2.out⟩

end Go.Proofs.Ytepmahdiiioceaa.Pr
