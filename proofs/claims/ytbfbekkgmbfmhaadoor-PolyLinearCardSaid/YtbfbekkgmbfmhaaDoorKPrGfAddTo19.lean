import Derived.Test.YtbfbekkgmbfmhaaDoorKWMoreTo8
import Derived.Deep.QuietTactic
import Derived.BigQuiet
import Derived.Deep.CutRange
import Derived.Test.YtbfbekkgmbfmhaaDoorKPrGfMul
section
namespace Go.Proofs.YtbfbekkgmbfmhaaDoor.Pr
open Go.RowKit Go.Proofs.YtbfbekkgmbfmhaaDoorW.PrintWords Go.Proofs.YtbfbekkgmbfmhaaDoorW.PrintLast Go.Proofs.YtbfbekkgmbfmhaaDoorW.PrintMore
attribute [local go_sem] max2_int min2_int max_two min_two max_three min_three max_four min_four   -- for this text's walks alone
set_option linter.unusedVariables false
set_option linter.unusedSimpArgs false

/-! ### gf_Add: function 31 -/
def gf_Add.f (a0 : Int) (a1 : Int) : Option (Int) := some (Go.bits .xor .u8 a0 a1)
set_option maxHeartbeats 8000000 in
set_option maxRecDepth 100000 in
theorem gf_Add.calls (a0 : Int) (a1 : Int) (r : Int) (w : World) (h : gf_Add.f a0 a1 = some r) :
    Calls Tryd.prog 31 #[.int .u8 a0, .int .u8 a1] w fun e w' => e = .returned (.int .u8 r) ∧ Drawn0 w w' := by
  have H : (some (Go.bits .xor .u8 a0 a1)) = some r := h
  clear h
  obtain rfl := Option.some.inj H
  go_enter Tryd.func31, Tryd.ntmps31
  go_wp2
  go_ret
  exact ⟨by first | rfl | (simp; done) | (simp [*]; done), by repeat (first | exact Drawn0.refl _ | apply Drawn0.step)⟩

end Go.Proofs.YtbfbekkgmbfmhaaDoor.Pr
end
section
namespace Go.Proofs.YtbfbekkgmbfmhaaDoor.Pr
open Go.RowKit Go.Proofs.YtbfbekkgmbfmhaaDoorW.PrintWords Go.Proofs.YtbfbekkgmbfmhaaDoorW.PrintLast Go.Proofs.YtbfbekkgmbfmhaaDoorW.PrintMore
attribute [local go_sem] max2_int min2_int max_two min_two max_three min_three max_four min_four   -- for this text's walks alone
set_option linter.unusedVariables false
set_option linter.unusedSimpArgs false

/-! ### poly_Value: function 20 -/
def poly_Value.l (k : Nat) (a0 : ByteArray) (a1 : Int) : Nat → Int → Option Int
  | 0, v => some v
  | n + 1, v => (gf_Mul.f k v a1).bind fun t => poly_Value.l k a0 a1 n (Go.bits .xor .u8 t (bt a0 (n : Int)))
def poly_Value.f (k : Nat) (a0 : ByteArray) (a1 : Int) : Option Int := if a0.size < 1000000 then poly_Value.l k a0 a1 a0.size 0 else none
theorem poly_Value.mono_l (k : Nat) (a0 : ByteArray) (a1 : Int) : ∀ n v, LeO (poly_Value.l k a0 a1 n v) (poly_Value.l (k + 1) a0 a1 n v)
  | 0, _ => LeO.refl _
  | n + 1, v => LeO.bind (gf_Mul.mono _ _ _) (fun _ => poly_Value.mono_l k a0 a1 n _)
theorem poly_Value.mono : ∀ a0 a1 k, LeO (poly_Value.f k a0 a1) (poly_Value.f (k + 1) a0 a1) := by
  intro a0 a1 k
  unfold poly_Value.f
  exact LeO.ite (poly_Value.mono_l _ _ _ _ _) (LeO.refl _)
set_option maxHeartbeats 2000000 in
set_option maxRecDepth 100000 in
theorem poly_Value.calls (k : Nat) (a0 : ByteArray) (a1 r : Int) (w : World) (h : poly_Value.f k a0 a1 = some r) :
    Calls Tryd.prog 20 #[.string a0, .int .u8 a1] w fun e w' => e = .returned (.int .u8 r) ∧ Drawn0 w w' := by
  unfold poly_Value.f at h
  by_cases hs : a0.size < 1000000
  case neg => rw [if_neg hs] at h; cases h
  rw [if_pos hs] at h
  have H0 := Aside0.mk (show poly_Value.l k a0 a1 (a0.size - 0) 0 = some r from h)
  clear h
  go_enter Tryd.func20, Tryd.ntmps20
  go_wp2
  go_loopw [5, 6, 9] (fun v5 _ v9 wr => ∃ (n : Nat) (v : Int), n ≤ a0.size ∧ v5 = .int .u8 v ∧ v9 = .int .i64 n ∧ Aside0 (poly_Value.l k a0 a1 (a0.size - n) v = some r) ∧ Drawn0 w wr) (fun _ _ v9 _ => a0.size - (intOf v9).toNat)
  case atStart => exact ⟨0, 0, Nat.zero_le _, rfl, rfl, H0, Drawn0.refl _⟩
  case round =>
    obtain ⟨n, v, hn, rfl, rfl, HL, ⟨m1, rfl⟩⟩ := hrel
    by_cases hlt : n < a0.size
    · have hlti : (n : Int) < (a0.size : Int) := by omega
      obtain ⟨m, hm⟩ : ∃ m, a0.size - n = m + 1 := ⟨a0.size - n - 1, by omega⟩
      have hL := HL.out
      rw [hm, poly_Value.l] at hL
      obtain ⟨t, ht, hL⟩ := Option.bind_eq_some_iff.1 hL
      have HT := Aside0.mk ht
      have HL2 := Aside0.mk hL
      clear hL ht HL
      have hml : m < a0.size := by omega
      go_upto_region 5 with fail
      obtain ⟨z, hz⟩ : ∃ z : Int, z = (a0.size : Int) - 1 := ⟨_, rfl⟩
      have hw1 : IntKind.i64.wrap ((a0.size : Int) - 1) = z := by rw [hz]; exact IntWalk.i64_in _ (by omega)
      have hw2 : IntKind.i64.wrap (z - (n : Int)) = (m : Int) := by
        have e : z - (n : Int) = (m : Int) := by omega
        rw [e]; exact IntWalk.i64_in _ (by omega)
      have hml : m < a0.size := by omega
      have hx : ((a0[m].toNat : Nat) : Int) = bt a0 (m : Int) := bt_at a0 (m : Int) hml
      have p8 : (0 ≤ (m : Int)) = True := eq_true (by omega)
      have q8 : ((m : Int) < (a0.size : Int)) = True := eq_true (by omega)
      have HM := Aside0.mk hm
      clear hm hz
      go_quiet (first | (go_at_call 32; (with_reducible refine (gf_Mul.calls k v a1 t _ HT.out).mono ?_); rintro e w' ⟨rfl, ⟨nd, rfl⟩⟩; (try first | exact ⟨rfl, _, World.drewN_drewN _ _ _⟩ | exact ⟨rfl, _, Eq.trans (World.drewN_drewN _ _ _) (congrArg (World.drewN _) (Nat.add_assoc _ _ _))⟩)) | (go_at_call 31; (with_reducible refine (gf_Add.calls t (bt a0 (m : Int)) _ _ rfl).mono ?_); rintro e w' ⟨rfl, ⟨nd, rfl⟩⟩; (try first | exact ⟨rfl, _, World.drewN_drewN _ _ _⟩ | exact ⟨rfl, _, Eq.trans (World.drewN_drewN _ _ _) (congrArg (World.drewN _) (Nat.add_assoc _ _ _))⟩)))
      clear hw1 hw2 hx p8 q8
      go_wp2
      go_roundw
      case rel => exact ⟨n + 1, _, by omega, rfl, by go_num, ⟨by rw [show a0.size - (n + 1) = m from by have := HM.out; omega]; exact HL2.out⟩, by repeat (first | exact Drawn0.refl _ | apply Drawn0.step)⟩
      case measure => simp [intOf]; omega
    · have hge : ¬ (n : Int) < (a0.size : Int) := by omega
      have hL := HL.out
      rw [show a0.size - n = 0 from by omega, poly_Value.l] at hL
      obtain rfl := Option.some.inj hL
      go_wp2
      go_ret
      exact ⟨rfl, _, rfl⟩

end Go.Proofs.YtbfbekkgmbfmhaaDoor.Pr
end
