import Derived.Test.YtbfbekkgmbfmhaaDoorKPr0To9
import Derived.RegionTactic
import Derived.BigRegion
import Derived.Deep.CutRange
import Derived.Test.YtbfbekkgmbfmhaaDoorKPrBytesRow
import Derived.Test.YtbfbekkgmbfmhaaDoorKPrStringsTrimRightTo15
namespace Go.Proofs.YtbfbekkgmbfmhaaDoor.Pr
open Go.RowKit Go.Proofs.YtbfbekkgmbfmhaaDoorW.PrintWords Go.Proofs.YtbfbekkgmbfmhaaDoorW.PrintLast Go.Proofs.YtbfbekkgmbfmhaaDoorW.PrintMore
attribute [local go_sem] max2_int min2_int max_two min_two max_three min_three max_four min_four   -- for this text's walks alone
set_option linter.unusedVariables false
set_option linter.unusedSimpArgs false

/-! ### poly_Add: function 22 -/
/-- The bytes of one text, exclusive or those of another one that is no longer. -/
def xorOnto : List UInt8 → List UInt8 → List UInt8
  | [], _ => []
  | l, [] => l
  | a :: l, b :: m => (a ^^^ b) :: xorOnto l m
theorem xorOnto_nil (l : List UInt8) : xorOnto l [] = l := by cases l <;> rfl
theorem xorOnto_length : ∀ a b : List UInt8, (xorOnto a b).length = a.length
  | [], _ => rfl
  | _ :: _, [] => rfl
  | _ :: a, _ :: b => by simp [xorOnto, xorOnto_length a b]
theorem xorOnto_snoc : ∀ (a b : List UInt8) (i : Nat) (hb : i < b.length) (ha : i < a.length), xorOnto a (b.take (i + 1)) = (xorOnto a (b.take i)).set i ((xorOnto a (b.take i)).getD i 0 ^^^ b[i])
  | [], _, _, _, ha => by simp at ha
  | _ :: _, [], _, hb, _ => by simp at hb
  | x :: a, y :: b, 0, _, _ => by simp [xorOnto, xorOnto_nil]
  | x :: a, y :: b, i + 1, hb, ha => by
    have := xorOnto_snoc a b i (by simpa using hb) (by simpa using ha)
    simp [xorOnto, this]
def poly_Add.x (a b : ByteArray) : ByteArray := ⟨(xorOnto a.data.toList b.data.toList).toArray⟩
def poly_Add.f (k : Nat) (a0 a1 : ByteArray) : Option ByteArray := if a0.size < 1000000 ∧ a1.size < 1000000 then (if (a0.size : Int) < (a1.size : Int) then poly_Trim.f k (poly_Add.x a1 a0) else poly_Trim.f k (poly_Add.x a0 a1)) else none
theorem poly_Add.mono : ∀ a0 a1 k, LeO (poly_Add.f k a0 a1) (poly_Add.f (k + 1) a0 a1) := by
  intro a0 a1 k
  unfold poly_Add.f
  exact LeO.ite (LeO.ite (poly_Trim.mono _ _) (poly_Trim.mono _ _)) (LeO.refl _)
theorem u8_xor_int (a b : UInt8) : Go.bits .xor .u8 (a.toNat : Int) (b.toNat : Int) = (((a ^^^ b).toNat : Nat) : Int) := by
  have ha := a.toNat_lt
  have hb := b.toNat_lt
  show IntKind.u8.wrap ((BitVec.ofInt 8 (a.toNat : Int) ^^^ BitVec.ofInt 8 (b.toNat : Int)).toNat : Int) = _
  have h1 : BitVec.ofInt 8 (a.toNat : Int) = a.toBitVec := by apply BitVec.eq_of_toNat_eq; simp
  have h2 : BitVec.ofInt 8 (b.toNat : Int) = b.toBitVec := by apply BitVec.eq_of_toNat_eq; simp
  rw [h1, h2]
  have h3 : (a.toBitVec ^^^ b.toBitVec).toNat = (a ^^^ b).toNat := rfl
  rw [h3]
  have := (a ^^^ b).toNat_lt
  show (((a ^^^ b).toNat : Int)) % 256 = _
  omega
def ints8 (l : List UInt8) : List Int := l.map fun c => (c.toNat : Int)
theorem ints8_length (l : List UInt8) : (ints8 l).length = l.length := List.length_map _
theorem strOfNums_ints8 (l : List UInt8) : strOfNums (ints8 l) = ⟨l.toArray⟩ := by
  unfold strOfNums ints8
  apply ByteArray.ext
  apply Array.toList_inj.1
  simp [List.map_map, Function.comp_def]
theorem add_step (A B : ByteArray) (n : Nat) (h : n < B.size) (hA : n < A.size) : ints8 (xorOnto A.data.toList (B.data.toList.take (n + 1))) = (ints8 (xorOnto A.data.toList (B.data.toList.take n))).set n (Go.bits .xor .u8 ((ints8 (xorOnto A.data.toList (B.data.toList.take n))).getD n 0) ((B[n].toNat : Nat) : Int)) := by
  have hl : n < (xorOnto A.data.toList (B.data.toList.take n)).length := by rw [xorOnto_length]; exact hA
  have e : (ints8 (xorOnto A.data.toList (B.data.toList.take n))).getD n 0 = (((xorOnto A.data.toList (B.data.toList.take n)).getD n 0).toNat : Int) := by
    unfold ints8
    simp [hl]
  rw [e, u8_xor_int, xorOnto_snoc A.data.toList B.data.toList n h hA]
  unfold ints8
  rw [List.map_set]
  rfl
set_option maxHeartbeats 4000000 in
set_option maxRecDepth 100000 in
theorem poly_Add.calls (k : Nat) (a0 a1 r : ByteArray) (w : World) (h : poly_Add.f k a0 a1 = some r) :
    Calls Tryd.prog 22 #[.string a0, .string a1] w fun e w' => e = .returned (.string r) ∧ Below w.heap.size w w' := by
  obtain ⟨A, B, hAm, hle, hr, hc1, hc2⟩ : ∃ A B : ByteArray, A.size < 1000000 ∧ B.size ≤ A.size ∧ poly_Trim.f k (poly_Add.x A B) = some r ∧ (a0.size < a1.size → A = a1 ∧ B = a0) ∧ (¬ a0.size < a1.size → A = a0 ∧ B = a1) := by
    unfold poly_Add.f at h
    by_cases cs : a0.size < 1000000 ∧ a1.size < 1000000
    case neg => rw [if_neg cs] at h; cases h
    rw [if_pos cs] at h
    by_cases c : a0.size < a1.size
    · rw [if_pos (by omega)] at h
      exact ⟨a1, a0, cs.2, by omega, h, fun _ => ⟨rfl, rfl⟩, fun c' => absurd c c'⟩
    · rw [if_neg (by omega)] at h
      exact ⟨a0, a1, cs.1, by omega, h, fun c' => absurd c' c, fun _ => ⟨rfl, rfl⟩⟩
  have HR := Aside0.mk hr
  have HC1 := Aside0.mk hc1
  have HC2 := Aside0.mk hc2
  clear hr hc1 hc2 h
  obtain ⟨cap, w1, hcv, hrow, hbel, hsz, _⟩ := bytes_row w A
  rw [bytesInts_length] at hcv
  have HCV := Aside0.mk hcv
  have HROW := Aside0.mk (show BRow w1 w.heap.size cap (ints8 (xorOnto A.data.toList (B.data.toList.take 0))) by rw [List.take_zero, xorOnto_nil]; exact hrow)
  have HBEL := Aside0.mk hbel
  clear hcv hrow hbel hsz
  go_enter Tryd.func22, Tryd.ntmps22
  go_upto_if 11 with fail
  go_cut [0, 1] from 7 to 13 (fun v0 v1 w' => v0 = .string A ∧ v1 = .string B ∧ w' = w)
  case first =>
    by_cases c : a0.size < a1.size
    · have ci : (a0.size : Int) < (a1.size : Int) := by omega
      obtain ⟨e1, e2⟩ := HC1.out c
      clear c
      go_wp2
      go_meet
      case rel => exact ⟨by rw [e1], by rw [e2], rfl⟩
    · have ci : ¬ (a0.size : Int) < (a1.size : Int) := by omega
      obtain ⟨e1, e2⟩ := HC2.out c
      clear c
      go_wp2
      go_meet
      case rel => exact ⟨by rw [e1], by rw [e2], rfl⟩
  case rest =>
    obtain ⟨rfl, rfl, rfl⟩ := hcut
    have hcv := HCV.out
    clear HC1 HC2
    obtain ⟨g, hg⟩ : ∃ g, g = wc.heap.size := ⟨_, rfl⟩
    rw [← hg] at hcv HROW
    have HG := Aside0.mk hg
    clear hg
    go_wp2
    clear hcv HCV
    go_loopw [6, 18] (fun _ v18 wr => ∃ n : Nat, n ≤ B.size ∧ v18 = .int .i64 n ∧ Aside0 (BRow wr g cap (ints8 (xorOnto A.data.toList (B.data.toList.take n)))) ∧ Aside0 (Below wc.heap.size wc wr)) (fun _ v18 _ => B.size - (intOf v18).toNat)
    case atStart => exact ⟨0, Nat.zero_le _, rfl, HROW, HBEL⟩
    case round =>
      obtain ⟨n, hn, rfl, HRn, HBn⟩ := hrel
      by_cases hlt : n < B.size
      · have hlti : (n : Int) < (B.size : Int) := by omega
        have hltA : (n : Int) < (A.size : Int) := by omega
        have hltA' : n < A.size := by omega
        have hX : (ints8 (xorOnto A.data.toList (B.data.toList.take n))).length = A.size := by rw [ints8_length, xorOnto_length]; rfl
        have hc := HRn.out.cell n (by rw [hX]; omega)
        have hf := HRn.out.free n (by rw [hX]; omega)
        have HX := Aside0.mk hX
        clear hX hlt
        have hst := add_step A B n (by omega) (by omega)
        obtain ⟨x, hx⟩ : ∃ x, x = (ints8 (xorOnto A.data.toList (B.data.toList.take n))).getD n 0 := ⟨_, rfl⟩
        rw [← hx] at hc hst
        have HST := Aside0.mk hst
        clear hx hst
        go_upto_region 7 with fail
        go_region
        all_goals (
          go_wp2
          go_roundw
          case rel => exact ⟨n + 1, by omega, by go_num, ⟨by rw [HST.out]; exact (HRn.out.put n (by rw [HX.out]; omega) _).drew⟩, ⟨below_drew1 (HBn.out.setCell (p := ⟨g, n, none⟩) (by rw [HG.out]; exact Nat.le_refl _) _)⟩⟩
          case measure => simp [intOf]; omega)
      · have hX : (ints8 (xorOnto A.data.toList (B.data.toList.take n))).length = A.size := by rw [ints8_length, xorOnto_length]; rfl
        have hcv := HRn.out.string
        rw [hX, strOfNums_ints8, List.take_of_length_le (show B.data.toList.length ≤ n by show B.size ≤ n; omega)] at hcv
        have hcv2 : (Go.convert 28 9 (.slice (some ⟨g, 0, none⟩) A.size cap)).run Tryd.prog wr = .ok (.string (poly_Add.x A B)) wr := hcv
        clear hX hcv
        have hge : ¬ (n : Int) < (B.size : Int) := by omega
        go_wp2_with fail
        refine (poly_Trim.calls k (poly_Add.x A B) r _ HR.out).mono ?_
        rintro e w' ⟨rfl, nd, rfl⟩
        go_wp2
        go_ret
        exact ⟨rfl, pw_below_drewN HBn.out _⟩

end Go.Proofs.YtbfbekkgmbfmhaaDoor.Pr
