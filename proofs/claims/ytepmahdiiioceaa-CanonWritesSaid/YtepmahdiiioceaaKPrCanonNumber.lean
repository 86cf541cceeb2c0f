import Derived.Test.YtepmahdiiioceaaKPr0
import Derived.Test.YtepmahdiiioceaaKUNum
import Derived.Test.YtepmahdiiioceaaKPrStringsBuilder
import Derived.Test.YtepmahdiiioceaaKPrStringsBuilderByte
namespace Go.Proofs.Ytepmahdiiioceaa.Pr
open Go.RowKit Go.Proofs.YtepmahdiiioceaaW.PrintWords Go.Proofs.YtepmahdiiioceaaW.PrintLast Go.Proofs.YtepmahdiiioceaaW.PrintMore
attribute [local go_sem] max2_int min2_int max_two min_two max_three min_three max_four min_four   -- for this text's walks alone
set_option linter.unusedVariables false
set_option linter.unusedSimpArgs false

/-! ### canon_number: function 0 -/
open Go.Proofs.Ytepmahdiiioceaa.U
/-- Bytes as the walk has them. -/
def ints (l : List UInt8) : List Int := l.map fun c => (c.toNat : Int)
theorem ints_append (a b : List UInt8) : ints (a ++ b) = ints a ++ ints b := by simp [ints]
theorem ints_length (a : List UInt8) : (ints a).length = a.length := by simp [ints]
theorem shr_div (m k : Nat) : ((m : Int) / 2 ^ (8 * k)) = ((m / 256 ^ k : Nat) : Int) := by
  rw [Int.natCast_ediv, Int.natCast_pow, show ((256 : Nat) : Int) = 2 ^ 8 from rfl, Int.pow_mul]
theorem byte_of (m k : Nat) : ((m : Int) / 2 ^ (8 * k)) % 256 = ((UInt8.ofNat (m / 256 ^ k)).toNat : Int) := by
  rw [shr_div]; simp

set_option maxHeartbeats 2000000 in
set_option maxRecDepth 100000 in
theorem canon_number_calls (B b : Nat) (bs : List Int) (m : Nat) (w : World) (h : Bld B b bs w) (hm : m < 72057594037927936) (hlen : bs.length + 8 ≤ 140737488355328) (hBw : B ≤ w.heap.size) :
    Calls Try.prog 62 #[.pointer (some ⟨b, 0, none⟩), .int .i64 (m : Int)] w fun e w' => e = .returned (.tuple #[]) ∧ Bld B b (bs ++ ints (numB m)) w' ∧ BldKept B b w w' := by
  have hL : numLen m ≤ 7 := numLen_le (by simpa using hm)
  have HB := Aside0.mk h
  clear h
  go_enter Try.func62, Try.ntmps62
  go_wp2
  go_loopw [4] (fun v4 wr => ∃ k : Nat, k ≤ numLen m ∧ v4 = .int .i64 k ∧ w = wr) (fun v4 _ => 8 - (intOf v4).toNat)
  case atStart => exact ⟨0, Nat.zero_le _, by first | rfl | trivial, by first | rfl | trivial⟩
  case round =>
    obtain ⟨k, hk, rfl, rfl⟩ := hrel
    by_cases hlt : k < numLen m
    · have hpos := numLen_least hlt
      have hd : decide (0 < (m : Int) / 2 ^ (8 * k)) = true := decide_eq_true (by rw [shr_div]; omega)
      clear hpos
      go_wp2
      go_roundw
      case rel => exact ⟨k + 1, by omega, by go_num, by first | rfl | trivial⟩
      case measure => simp [intOf]; omega
    · obtain rfl : k = numLen m := by omega
      have hd : decide (0 < (m : Int) / 2 ^ (8 * numLen m)) = false := decide_eq_false (by rw [shr_div, numLen_done]; omega)
      clear hlt
      go_wp2_with fail
      refine (bld_byte B b bs _ _ HB.out (by omega) hBw).mono ?_
      rintro e w1 ⟨rfl, hB1, hK1⟩
      have HB1 := Aside0.mk hB1
      have HK1 := Aside0.mk hK1
      have hBw1 : B ≤ w1.heap.size := Nat.le_trans hBw hK1.size
      clear hB1 hK1 hd
      go_wp2
      go_loopw [4] (fun v4 wr => ∃ k : Nat, k ≤ numLen m ∧ v4 = .int .i64 k ∧ Aside0 (Bld B b (bs ++ ints (UInt8.ofNat (numLen m) :: (digs (numLen m) m).take (numLen m - k))) wr) ∧ Aside0 (BldKept B b w wr)) (fun v4 _ => (intOf v4).toNat)
      case atStart =>
        refine ⟨numLen m, Nat.le_refl _, rfl, ⟨?_⟩, HK1⟩
        have e1 : ints (UInt8.ofNat (numLen m) :: (digs (numLen m) m).take (numLen m - numLen m)) = [((numLen m : Nat) : Int)] := by
          rw [Nat.sub_self, List.take_zero]
          simp only [ints, List.map_cons, List.map_nil]
          congr 1
          simp; omega
        rw [e1]
        have := HB1.out
        first | exact this | simpa using this
      case round =>
        clear HB1 HK1
        obtain ⟨k, hk, rfl, HB1, HK1⟩ := hrel
        have hBw2 : B ≤ wr.heap.size := Nat.le_trans hBw HK1.out.size
        by_cases hlt : 0 < k
        · obtain ⟨j, rfl⟩ : ∃ j, k = j + 1 := ⟨k - 1, by omega⟩
          have hd : decide (0 < ((j + 1 : Nat) : Int)) = true := decide_eq_true (by omega)
          clear hlt
          go_wp2_with fail
          rw [byte_of]
          refine (bld_byte B b _ _ _ HB1.out (by simp only [List.length_append, ints_length, List.length_cons, List.length_take]; omega) hBw2).mono ?_
          rintro e w2 ⟨rfl, hB2, hK2⟩
          have HB2 := Aside0.mk hB2
          have HK2 := Aside0.mk (HK1.out.trans hK2)
          clear hB2 hK2 HB1 HK1 hd
          go_wp2
          go_roundw
          case rel =>
            refine ⟨j, by omega, by first | rfl | go_num, ⟨?_⟩, HK2⟩
            rw [take_digs m hk, ← List.cons_append, ints_append, ← List.append_assoc]
            exact HB2.out
          case measure => simp [intOf]
        · obtain rfl : k = 0 := by omega
          go_wp2
          go_end0
          refine ⟨rfl, ?_, HK1.out⟩
          have := HB1.out
          rw [Nat.sub_zero, List.take_of_length_le (Nat.le_of_eq (digs_length _ _))] at this
          exact this

end Go.Proofs.Ytepmahdiiioceaa.Pr
