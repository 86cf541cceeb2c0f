import Derived.Test.YtbfbekkgmbfmhaaDoorKPr0To9
import Derived.Test.YtbfbekkgmbfmhaaDoorKPrGfMul
import Derived.Test.YtbfbekkgmbfmhaaDoorKPrLockboxlaw08Awake
import Derived.Test.YtbfbekkgmbfmhaaDoorKPrLockboxlaw08Few
import Derived.Test.YtbfbekkgmbfmhaaDoorKPrPolyAdd
import Derived.Test.YtbfbekkgmbfmhaaDoorKPrPolyMul
import Derived.Test.YtbfbekkgmbfmhaaDoorKPrPolyValue
namespace Go.Proofs.YtbfbekkgmbfmhaaDoor.Pr
open Go.RowKit Go.Proofs.YtbfbekkgmbfmhaaDoorW.PrintWords Go.Proofs.YtbfbekkgmbfmhaaDoorW.PrintLast Go.Proofs.YtbfbekkgmbfmhaaDoorW.PrintMore
attribute [local go_sem] max2_int min2_int max_two min_two max_three min_three max_four min_four   -- for this text's walks alone
set_option linter.unusedVariables false
set_option linter.unusedSimpArgs false

/-! ### lockboxlaw08_PolyValues: function 6 -/
def lockboxlaw08_PolyValues.f (k : Nat) (a0 : ByteArray) (a1 : ByteArray) (a2 : Int) : Option (Bool) := (lockboxlaw08_few.f k 100 (([a0, a1] : List ByteArray))).bind fun t279 => (if t279 = true then ((lockboxlaw08_awake.f k).bind fun t281 => (if t281 = true then ((poly_Add.f k a0 a1).bind fun t282 => ((poly_Value.f k t282 a2).bind fun t283 => ((poly_Value.f k a0 a2).bind fun t284 => ((poly_Value.f k a1 a2).bind fun t285 => ((gf_Add.f t284 t285).bind fun t286 => (if t283 = t286 then ((poly_Mul.f k a0 a1).bind fun t287 => ((poly_Value.f k t287 a2).bind fun t288 => ((poly_Value.f k a0 a2).bind fun t289 => ((poly_Value.f k a1 a2).bind fun t290 => ((gf_Mul.f k t289 t290).bind fun t291 => (if t288 = t291 then ((poly_Add.f k a0 a0).bind fun t292 => (some (t292.toList == ([] : List UInt8)))) else (some false))))))) else (some false))))))) else (some false))) else ((lockboxlaw08_awake.f k).bind fun t280 => (some t280)))
theorem lockboxlaw08_PolyValues.mono : ∀ a0 a1 a2 k, LeO (lockboxlaw08_PolyValues.f k a0 a1 a2) (lockboxlaw08_PolyValues.f (k + 1) a0 a1 a2) := by
  intro a0 a1 a2 k
  unfold lockboxlaw08_PolyValues.f
  repeat' first
      | (with_reducible exact gf_Mul.mono _ _ _)
      | (with_reducible exact lockboxlaw08_awake.mono _)
      | (with_reducible exact lockboxlaw08_few.mono _ _ _)
      | (with_reducible exact poly_Add.mono _ _ _)
      | (with_reducible exact poly_Mul.mono _ _ _)
      | (with_reducible exact poly_Value.mono _ _ _)
      | (with_reducible exact LeO.refl _)
      | (with_reducible exact LeO.none _)
      | (with_reducible refine LeO.ite ?_ ?_)
      | (with_reducible refine LeO.bind ?_ (fun _ => ?_))
      | exact gf_Mul.mono _ _ _
      | exact lockboxlaw08_awake.mono _
      | exact lockboxlaw08_few.mono _ _ _
      | exact poly_Add.mono _ _ _
      | exact poly_Mul.mono _ _ _
      | exact poly_Value.mono _ _ _
      | exact LeO.none _
      | refine LeO.ite ?_ ?_
      | refine LeO.bind ?_ (fun _ => ?_)
set_option maxHeartbeats 8000000 in
set_option maxRecDepth 100000 in
theorem lockboxlaw08_PolyValues.calls (k : Nat) (a0 : ByteArray) (a1 : ByteArray) (a2 : Int) (r : Bool) (w : World) (h : lockboxlaw08_PolyValues.f k a0 a1 a2 = some r) :
    Calls Tryd.prog 6 #[.string a0, .string a1, .int .u8 a2] w fun e w' => e = .returned (.bool r) ∧ Below w.heap.size w w' := by
  have HB := Aside0.mk (Below.refl w.heap.size w)
  have H : ((lockboxlaw08_few.f k 100 (([a0, a1] : List ByteArray))).bind fun t279 => (if t279 = true then ((lockboxlaw08_awake.f k).bind fun t281 => (if t281 = true then ((poly_Add.f k a0 a1).bind fun t282 => ((poly_Value.f k t282 a2).bind fun t283 => ((poly_Value.f k a0 a2).bind fun t284 => ((poly_Value.f k a1 a2).bind fun t285 => ((gf_Add.f t284 t285).bind fun t286 => (if t283 = t286 then ((poly_Mul.f k a0 a1).bind fun t287 => ((poly_Value.f k t287 a2).bind fun t288 => ((poly_Value.f k a0 a2).bind fun t289 => ((poly_Value.f k a1 a2).bind fun t290 => ((gf_Mul.f k t289 t290).bind fun t291 => (if t288 = t291 then ((poly_Add.f k a0 a0).bind fun t292 => (some (t292.toList == ([] : List UInt8)))) else (some false))))))) else (some false))))))) else (some false))) else ((lockboxlaw08_awake.f k).bind fun t280 => (some t280)))) = some r := h
  clear h
  obtain ⟨y276, hy276⟩ : ∃ y_ : List ByteArray, y_ = (([a0, a1] : List ByteArray)) := ⟨_, rfl⟩
  replace H : ((lockboxlaw08_few.f k 100 y276).bind fun t279 => (if t279 = true then ((lockboxlaw08_awake.f k).bind fun t281 => (if t281 = true then ((poly_Add.f k a0 a1).bind fun t282 => ((poly_Value.f k t282 a2).bind fun t283 => ((poly_Value.f k a0 a2).bind fun t284 => ((poly_Value.f k a1 a2).bind fun t285 => ((gf_Add.f t284 t285).bind fun t286 => (if t283 = t286 then ((poly_Mul.f k a0 a1).bind fun t287 => ((poly_Value.f k t287 a2).bind fun t288 => ((poly_Value.f k a0 a2).bind fun t289 => ((poly_Value.f k a1 a2).bind fun t290 => ((gf_Mul.f k t289 t290).bind fun t291 => (if t288 = t291 then ((poly_Add.f k a0 a0).bind fun t292 => (some (t292.toList == ([] : List UInt8)))) else (some false))))))) else (some false))))))) else (some false))) else ((lockboxlaw08_awake.f k).bind fun t280 => (some t280)))) = some r := by first | (rw [hy276]; with_reducible exact H) | (have H2_ := (Option.bind_some _ _).symm.trans H; rw [hy276]; with_reducible exact H2_) | (have H2_ := (Option.bind_some _ _).symm.trans H; with_reducible exact H2_) | with_reducible exact H | (rw [hy276]; exact H) | exact H
  have Ny276 := Aside0.mk hy276
  clear hy276
  replace H := Option.bind_eq_some_iff.mp H
  obtain ⟨t279, A40, H⟩ := H
  replace H : (if t279 = true then ((lockboxlaw08_awake.f k).bind fun t281 => (if t281 = true then ((poly_Add.f k a0 a1).bind fun t282 => ((poly_Value.f k t282 a2).bind fun t283 => ((poly_Value.f k a0 a2).bind fun t284 => ((poly_Value.f k a1 a2).bind fun t285 => ((gf_Add.f t284 t285).bind fun t286 => (if t283 = t286 then ((poly_Mul.f k a0 a1).bind fun t287 => ((poly_Value.f k t287 a2).bind fun t288 => ((poly_Value.f k a0 a2).bind fun t289 => ((poly_Value.f k a1 a2).bind fun t290 => ((gf_Mul.f k t289 t290).bind fun t291 => (if t288 = t291 then ((poly_Add.f k a0 a0).bind fun t292 => (some (t292.toList == ([] : List UInt8)))) else (some false))))))) else (some false))))))) else (some false))) else ((lockboxlaw08_awake.f k).bind fun t280 => (some t280))) = some r := H
  have A4 := Aside0.mk A40
  clear A40
  by_cases c5 : t279 = true
  · subst c5
    have H1 : ((lockboxlaw08_awake.f k).bind fun t281 => (if t281 = true then ((poly_Add.f k a0 a1).bind fun t282 => ((poly_Value.f k t282 a2).bind fun t283 => ((poly_Value.f k a0 a2).bind fun t284 => ((poly_Value.f k a1 a2).bind fun t285 => ((gf_Add.f t284 t285).bind fun t286 => (if t283 = t286 then ((poly_Mul.f k a0 a1).bind fun t287 => ((poly_Value.f k t287 a2).bind fun t288 => ((poly_Value.f k a0 a2).bind fun t289 => ((poly_Value.f k a1 a2).bind fun t290 => ((gf_Mul.f k t289 t290).bind fun t291 => (if t288 = t291 then ((poly_Add.f k a0 a0).bind fun t292 => (some (t292.toList == ([] : List UInt8)))) else (some false))))))) else (some false))))))) else (some false))) = some r := by rw [if_pos rfl] at H; exact H
    clear H
    have H := H1
    clear H1
    replace H := Option.bind_eq_some_iff.mp H
    obtain ⟨t281, A60, H⟩ := H
    replace H : (if t281 = true then ((poly_Add.f k a0 a1).bind fun t282 => ((poly_Value.f k t282 a2).bind fun t283 => ((poly_Value.f k a0 a2).bind fun t284 => ((poly_Value.f k a1 a2).bind fun t285 => ((gf_Add.f t284 t285).bind fun t286 => (if t283 = t286 then ((poly_Mul.f k a0 a1).bind fun t287 => ((poly_Value.f k t287 a2).bind fun t288 => ((poly_Value.f k a0 a2).bind fun t289 => ((poly_Value.f k a1 a2).bind fun t290 => ((gf_Mul.f k t289 t290).bind fun t291 => (if t288 = t291 then ((poly_Add.f k a0 a0).bind fun t292 => (some (t292.toList == ([] : List UInt8)))) else (some false))))))) else (some false))))))) else (some false)) = some r := H
    have A6 := Aside0.mk A60
    clear A60
    by_cases c7 : t281 = true
    · subst c7
      have H1 : ((poly_Add.f k a0 a1).bind fun t282 => ((poly_Value.f k t282 a2).bind fun t283 => ((poly_Value.f k a0 a2).bind fun t284 => ((poly_Value.f k a1 a2).bind fun t285 => ((gf_Add.f t284 t285).bind fun t286 => (if t283 = t286 then ((poly_Mul.f k a0 a1).bind fun t287 => ((poly_Value.f k t287 a2).bind fun t288 => ((poly_Value.f k a0 a2).bind fun t289 => ((poly_Value.f k a1 a2).bind fun t290 => ((gf_Mul.f k t289 t290).bind fun t291 => (if t288 = t291 then ((poly_Add.f k a0 a0).bind fun t292 => (some (t292.toList == ([] : List UInt8)))) else (some false))))))) else (some false))))))) = some r := by rw [if_pos rfl] at H; exact H
      clear H
      have H := H1
      clear H1
      replace H := Option.bind_eq_some_iff.mp H
      obtain ⟨t282, A80, H⟩ := H
      replace H : ((poly_Value.f k t282 a2).bind fun t283 => ((poly_Value.f k a0 a2).bind fun t284 => ((poly_Value.f k a1 a2).bind fun t285 => ((gf_Add.f t284 t285).bind fun t286 => (if t283 = t286 then ((poly_Mul.f k a0 a1).bind fun t287 => ((poly_Value.f k t287 a2).bind fun t288 => ((poly_Value.f k a0 a2).bind fun t289 => ((poly_Value.f k a1 a2).bind fun t290 => ((gf_Mul.f k t289 t290).bind fun t291 => (if t288 = t291 then ((poly_Add.f k a0 a0).bind fun t292 => (some (t292.toList == ([] : List UInt8)))) else (some false))))))) else (some false)))))) = some r := H
      have A8 := Aside0.mk A80
      clear A80
      replace H := Option.bind_eq_some_iff.mp H
      obtain ⟨t283, A90, H⟩ := H
      replace H : ((poly_Value.f k a0 a2).bind fun t284 => ((poly_Value.f k a1 a2).bind fun t285 => ((gf_Add.f t284 t285).bind fun t286 => (if t283 = t286 then ((poly_Mul.f k a0 a1).bind fun t287 => ((poly_Value.f k t287 a2).bind fun t288 => ((poly_Value.f k a0 a2).bind fun t289 => ((poly_Value.f k a1 a2).bind fun t290 => ((gf_Mul.f k t289 t290).bind fun t291 => (if t288 = t291 then ((poly_Add.f k a0 a0).bind fun t292 => (some (t292.toList == ([] : List UInt8)))) else (some false))))))) else (some false))))) = some r := H
      have A9 := Aside0.mk A90
      clear A90
      replace H := Option.bind_eq_some_iff.mp H
      obtain ⟨t284, A100, H⟩ := H
      replace H : ((poly_Value.f k a1 a2).bind fun t285 => ((gf_Add.f t284 t285).bind fun t286 => (if t283 = t286 then ((poly_Mul.f k a0 a1).bind fun t287 => ((poly_Value.f k t287 a2).bind fun t288 => ((poly_Value.f k a0 a2).bind fun t289 => ((poly_Value.f k a1 a2).bind fun t290 => ((gf_Mul.f k t289 t290).bind fun t291 => (if t288 = t291 then ((poly_Add.f k a0 a0).bind fun t292 => (some (t292.toList == ([] : List UInt8)))) else (some false))))))) else (some false)))) = some r := H
      have A10 := Aside0.mk A100
      clear A100
      replace H := Option.bind_eq_some_iff.mp H
      obtain ⟨t285, A110, H⟩ := H
      replace H : ((gf_Add.f t284 t285).bind fun t286 => (if t283 = t286 then ((poly_Mul.f k a0 a1).bind fun t287 => ((poly_Value.f k t287 a2).bind fun t288 => ((poly_Value.f k a0 a2).bind fun t289 => ((poly_Value.f k a1 a2).bind fun t290 => ((gf_Mul.f k t289 t290).bind fun t291 => (if t288 = t291 then ((poly_Add.f k a0 a0).bind fun t292 => (some (t292.toList == ([] : List UInt8)))) else (some false))))))) else (some false))) = some r := H
      have A11 := Aside0.mk A110
      clear A110
      replace H := Option.bind_eq_some_iff.mp H
      obtain ⟨t286, A120, H⟩ := H
      replace H : (if t283 = t286 then ((poly_Mul.f k a0 a1).bind fun t287 => ((poly_Value.f k t287 a2).bind fun t288 => ((poly_Value.f k a0 a2).bind fun t289 => ((poly_Value.f k a1 a2).bind fun t290 => ((gf_Mul.f k t289 t290).bind fun t291 => (if t288 = t291 then ((poly_Add.f k a0 a0).bind fun t292 => (some (t292.toList == ([] : List UInt8)))) else (some false))))))) else (some false)) = some r := H
      have A12 := Aside0.mk A120
      clear A120
      by_cases c13 : t283 = t286
      · rw [if_pos c13] at H
        have c13b0 : (t283 == t286) = true := beq_iff_eq.mpr c13
        have c13b1 : (t283 != t286) = false := bne_eq_false_iff_eq.mpr c13
        clear c13
        replace H := Option.bind_eq_some_iff.mp H
        obtain ⟨t287, A140, H⟩ := H
        replace H : ((poly_Value.f k t287 a2).bind fun t288 => ((poly_Value.f k a0 a2).bind fun t289 => ((poly_Value.f k a1 a2).bind fun t290 => ((gf_Mul.f k t289 t290).bind fun t291 => (if t288 = t291 then ((poly_Add.f k a0 a0).bind fun t292 => (some (t292.toList == ([] : List UInt8)))) else (some false)))))) = some r := H
        have A14 := Aside0.mk A140
        clear A140
        replace H := Option.bind_eq_some_iff.mp H
        obtain ⟨t288, A150, H⟩ := H
        replace H : ((poly_Value.f k a0 a2).bind fun t289 => ((poly_Value.f k a1 a2).bind fun t290 => ((gf_Mul.f k t289 t290).bind fun t291 => (if t288 = t291 then ((poly_Add.f k a0 a0).bind fun t292 => (some (t292.toList == ([] : List UInt8)))) else (some false))))) = some r := H
        have A15 := Aside0.mk A150
        clear A150
        replace H := Option.bind_eq_some_iff.mp H
        obtain ⟨t289, A160, H⟩ := H
        replace H : ((poly_Value.f k a1 a2).bind fun t290 => ((gf_Mul.f k t289 t290).bind fun t291 => (if t288 = t291 then ((poly_Add.f k a0 a0).bind fun t292 => (some (t292.toList == ([] : List UInt8)))) else (some false)))) = some r := H
        have A16 := Aside0.mk A160
        clear A160
        have ea_ := Option.some.inj (A10.out.symm.trans A16.out)
        subst ea_
        replace H := Option.bind_eq_some_iff.mp H
        obtain ⟨t290, A170, H⟩ := H
        replace H : ((gf_Mul.f k t284 t290).bind fun t291 => (if t288 = t291 then ((poly_Add.f k a0 a0).bind fun t292 => (some (t292.toList == ([] : List UInt8)))) else (some false))) = some r := H
        have A17 := Aside0.mk A170
        clear A170
        have ea_ := Option.some.inj (A11.out.symm.trans A17.out)
        subst ea_
        replace H := Option.bind_eq_some_iff.mp H
        obtain ⟨t291, A180, H⟩ := H
        replace H : (if t288 = t291 then ((poly_Add.f k a0 a0).bind fun t292 => (some (t292.toList == ([] : List UInt8)))) else (some false)) = some r := H
        have A18 := Aside0.mk A180
        clear A180
        by_cases c19 : t288 = t291
        · rw [if_pos c19] at H
          have c19b0 : (t288 == t291) = true := beq_iff_eq.mpr c19
          have c19b1 : (t288 != t291) = false := bne_eq_false_iff_eq.mpr c19
          clear c19
          replace H := Option.bind_eq_some_iff.mp H
          obtain ⟨t292, A200, H⟩ := H
          replace H : (some (t292.toList == ([] : List UInt8))) = some r := H
          have A20 := Aside0.mk A200
          clear A200
          obtain rfl := Option.some.inj H
          go_enter Tryd.func6, Tryd.ntmps6
          go_wp2_with (first | ((with_reducible refine gate_dst (N := 9) rfl ?_); refine Kd.R_lit Kd.string _ 9 ?hg (N := 9) ?hd (xs := ([a0, a1] : List ByteArray)) (inner := [.string a0, .string a1]) (ok := fun _ => True) (okp := fun _ => True) ?hr ?hp (fun _ hk => hk) trivial (Below.refl _ _) (Nat.le_refl _) (by simp) ?_; (case hd => rfl); (case hg => rfl); (case hr => first | (go_simp; done) | (go_simp; rfl)); (case hp => exact (Reps.one (show Kd.M Kd.string _ _ _ a0 [.string a0] from rfl) (Reps.one (show Kd.M Kd.string _ _ _ a1 [.string a1] from rfl) (Reps.none _ _)))); intro v277 w21 ho22 hb hg_ hnew_; clear hg_ hnew_; (first | rw [← Ny276.out] at ho22 | (simp only [Int.reduceToNat] at ho22; rw [← Ny276.out] at ho22)); have n0_ := Aside0.mk (Kd.R_lower ho22 (below_size (by repeat (first | (with_reducible first | exact HB.out | apply below_alloc | apply pw_below_drewN | apply below_drew1) | exact HB.out)))); have n1_ := Aside0.mk (below_step (by repeat (first | (with_reducible first | exact HB.out | apply below_alloc | apply pw_below_drewN | apply below_drew1) | exact HB.out)) hb); clear HB; have HO278 := n0_; have HB := n1_; clear n0_ n1_; clear hb ho22; obtain ⟨Ao23, co23, eo23⟩ := Kd.R_slice HO278.out; subst eo23) | ((with_reducible refine gate_callee (f := 16) rfl ?_); refine goesL_ (some 10) rfl rfl Tryd.func16 (by kernel_rfl) rfl #[.int .i64 100, .slice Ao23 y276.length co23] rfl (by (try simp only [List.map_toArray, List.map_cons, List.map_nil]); first | done | rfl | (simp only [List.length_drop, List.length_take]; rfl)) ?_; (with_reducible refine (lockboxlaw08_few.calls k 100 _ _ y276 true _ ?side1 ?side2 A4.out).mono ?_); (case side1 => repeat (first | exact (Kd.R_reads' HO278.out).2.2 | (with_reducible refine Kd.C_alloc ?_ _) | (with_reducible refine Kd.C_drewN ?_ _) | (with_reducible refine Kd.C_drew ?_))); (case side2 => exact (Kd.R_reads' HO278.out).2.1); rintro e w' ⟨rfl, ⟨nd, rfl⟩⟩; refine ⟨_, rfl, ?_⟩) | ((with_reducible refine gate_callee (f := 17) rfl ?_); refine goesL_ (some 13) rfl rfl Tryd.func17 (by kernel_rfl) rfl #[] rfl (by (try simp only [List.map_toArray, List.map_cons, List.map_nil]); first | done | rfl | (simp only [List.length_drop, List.length_take]; rfl)) ?_; (with_reducible refine (lockboxlaw08_awake.calls k  true _ A6.out).mono ?_); rintro e w24 ⟨rfl, hb⟩; refine ⟨_, rfl, ?_⟩; have n0_ := Aside0.mk (Kd.R_below (by (with_reducible repeat (first | apply Kd.R_alloc | apply Kd.R_drewN | apply Kd.R_drew)); exact HO278.out) hb); have n1_ := Aside0.mk (below_step (by repeat (first | (with_reducible first | exact HB.out | apply below_alloc | apply pw_below_drewN | apply below_drew1) | exact HB.out)) hb); clear HO278; clear HB; have HO278 := n0_; have HB := n1_; clear n0_ n1_; (try clear hb); (try clear hb2); (try clear hk); (try clear hi)) | (go_at_call 22; (with_reducible refine (poly_Add.calls k a0 a1 t282 _ A8.out).mono ?_); rintro e w25 ⟨rfl, hb⟩; have n0_ := Aside0.mk (Kd.R_below (by (with_reducible repeat (first | apply Kd.R_alloc | apply Kd.R_drewN | apply Kd.R_drew)); exact HO278.out) hb); have n1_ := Aside0.mk (below_step (by repeat (first | (with_reducible first | exact HB.out | apply below_alloc | apply pw_below_drewN | apply below_drew1) | exact HB.out)) hb); clear HO278; clear HB; have HO278 := n0_; have HB := n1_; clear n0_ n1_; (try clear hb); (try clear hb2); (try clear hk); (try clear hi)) | (go_at_call 20; (with_reducible refine (poly_Value.calls k t282 a2 t283 _ A9.out).mono ?_); rintro e w' ⟨rfl, ⟨nd, rfl⟩⟩) | (go_at_call 20; (with_reducible refine (poly_Value.calls k a0 a2 t284 _ A10.out).mono ?_); rintro e w' ⟨rfl, ⟨nd, rfl⟩⟩) | (go_at_call 20; (with_reducible refine (poly_Value.calls k a1 a2 t285 _ A11.out).mono ?_); rintro e w' ⟨rfl, ⟨nd, rfl⟩⟩) | (go_at_call 31; (with_reducible refine (gf_Add.calls t284 t285 t286 _ A12.out).mono ?_); rintro e w' ⟨rfl, ⟨nd, rfl⟩⟩) | (go_at_call 24; (with_reducible refine (poly_Mul.calls k a0 a1 t287 _ A14.out).mono ?_); rintro e w26 ⟨rfl, hb⟩; have n0_ := Aside0.mk (Kd.R_below (by (with_reducible repeat (first | apply Kd.R_alloc | apply Kd.R_drewN | apply Kd.R_drew)); exact HO278.out) hb); have n1_ := Aside0.mk (below_step (by repeat (first | (with_reducible first | exact HB.out | apply below_alloc | apply pw_below_drewN | apply below_drew1) | exact HB.out)) hb); clear HO278; clear HB; have HO278 := n0_; have HB := n1_; clear n0_ n1_; (try clear hb); (try clear hb2); (try clear hk); (try clear hi)) | (go_at_call 20; (with_reducible refine (poly_Value.calls k t287 a2 t288 _ A15.out).mono ?_); rintro e w' ⟨rfl, ⟨nd, rfl⟩⟩) | (go_at_call 20; (with_reducible refine (poly_Value.calls k a0 a2 t284 _ A16.out).mono ?_); rintro e w' ⟨rfl, ⟨nd, rfl⟩⟩) | (go_at_call 20; (with_reducible refine (poly_Value.calls k a1 a2 t285 _ A17.out).mono ?_); rintro e w' ⟨rfl, ⟨nd, rfl⟩⟩) | (go_at_call 32; (with_reducible refine (gf_Mul.calls k t284 t285 t291 _ A18.out).mono ?_); rintro e w' ⟨rfl, ⟨nd, rfl⟩⟩) | (go_at_call 22; (with_reducible refine (poly_Add.calls k a0 a0 t292 _ A20.out).mono ?_); rintro e w27 ⟨rfl, hb⟩; have n0_ := Aside0.mk (Kd.R_below (by (with_reducible repeat (first | apply Kd.R_alloc | apply Kd.R_drewN | apply Kd.R_drew)); exact HO278.out) hb); have n1_ := Aside0.mk (below_step (by repeat (first | (with_reducible first | exact HB.out | apply below_alloc | apply pw_below_drewN | apply below_drew1) | exact HB.out)) hb); clear HO278; clear HB; have HO278 := n0_; have HB := n1_; clear n0_ n1_; (try clear hb); (try clear hb2); (try clear hk); (try clear hi)))
          go_ret
          exact ⟨by first | rfl | (simp [errW_none, errW_some] <;> rfl) | (simp [*, errW_none, errW_some] <;> rfl), by repeat (first | (with_reducible first | exact HB.out | apply below_alloc | apply pw_below_drewN | apply below_drew1) | exact HB.out)⟩
        · rw [if_neg c19] at H
          have c19b0 : (t288 == t291) = false := beq_eq_false_iff_ne.mpr c19
          have c19b1 : (t288 != t291) = true := bne_iff_ne.mpr c19
          obtain rfl := Option.some.inj H
          go_enter Tryd.func6, Tryd.ntmps6
          go_wp2_with (first | ((with_reducible refine gate_dst (N := 9) rfl ?_); refine Kd.R_lit Kd.string _ 9 ?hg (N := 9) ?hd (xs := ([a0, a1] : List ByteArray)) (inner := [.string a0, .string a1]) (ok := fun _ => True) (okp := fun _ => True) ?hr ?hp (fun _ hk => hk) trivial (Below.refl _ _) (Nat.le_refl _) (by simp) ?_; (case hd => rfl); (case hg => rfl); (case hr => first | (go_simp; done) | (go_simp; rfl)); (case hp => exact (Reps.one (show Kd.M Kd.string _ _ _ a0 [.string a0] from rfl) (Reps.one (show Kd.M Kd.string _ _ _ a1 [.string a1] from rfl) (Reps.none _ _)))); intro v277 w28 ho29 hb hg_ hnew_; clear hg_ hnew_; (first | rw [← Ny276.out] at ho29 | (simp only [Int.reduceToNat] at ho29; rw [← Ny276.out] at ho29)); have n0_ := Aside0.mk (Kd.R_lower ho29 (below_size (by repeat (first | (with_reducible first | exact HB.out | apply below_alloc | apply pw_below_drewN | apply below_drew1) | exact HB.out)))); have n1_ := Aside0.mk (below_step (by repeat (first | (with_reducible first | exact HB.out | apply below_alloc | apply pw_below_drewN | apply below_drew1) | exact HB.out)) hb); clear HB; have HO278 := n0_; have HB := n1_; clear n0_ n1_; clear hb ho29; obtain ⟨Ao30, co30, eo30⟩ := Kd.R_slice HO278.out; subst eo30) | ((with_reducible refine gate_callee (f := 16) rfl ?_); refine goesL_ (some 10) rfl rfl Tryd.func16 (by kernel_rfl) rfl #[.int .i64 100, .slice Ao30 y276.length co30] rfl (by (try simp only [List.map_toArray, List.map_cons, List.map_nil]); first | done | rfl | (simp only [List.length_drop, List.length_take]; rfl)) ?_; (with_reducible refine (lockboxlaw08_few.calls k 100 _ _ y276 true _ ?side1 ?side2 A4.out).mono ?_); (case side1 => repeat (first | exact (Kd.R_reads' HO278.out).2.2 | (with_reducible refine Kd.C_alloc ?_ _) | (with_reducible refine Kd.C_drewN ?_ _) | (with_reducible refine Kd.C_drew ?_))); (case side2 => exact (Kd.R_reads' HO278.out).2.1); rintro e w' ⟨rfl, ⟨nd, rfl⟩⟩; refine ⟨_, rfl, ?_⟩) | ((with_reducible refine gate_callee (f := 17) rfl ?_); refine goesL_ (some 13) rfl rfl Tryd.func17 (by kernel_rfl) rfl #[] rfl (by (try simp only [List.map_toArray, List.map_cons, List.map_nil]); first | done | rfl | (simp only [List.length_drop, List.length_take]; rfl)) ?_; (with_reducible refine (lockboxlaw08_awake.calls k  true _ A6.out).mono ?_); rintro e w31 ⟨rfl, hb⟩; refine ⟨_, rfl, ?_⟩; have n0_ := Aside0.mk (Kd.R_below (by (with_reducible repeat (first | apply Kd.R_alloc | apply Kd.R_drewN | apply Kd.R_drew)); exact HO278.out) hb); have n1_ := Aside0.mk (below_step (by repeat (first | (with_reducible first | exact HB.out | apply below_alloc | apply pw_below_drewN | apply below_drew1) | exact HB.out)) hb); clear HO278; clear HB; have HO278 := n0_; have HB := n1_; clear n0_ n1_; (try clear hb); (try clear hb2); (try clear hk); (try clear hi)) | (go_at_call 22; (with_reducible refine (poly_Add.calls k a0 a1 t282 _ A8.out).mono ?_); rintro e w32 ⟨rfl, hb⟩; have n0_ := Aside0.mk (Kd.R_below (by (with_reducible repeat (first | apply Kd.R_alloc | apply Kd.R_drewN | apply Kd.R_drew)); exact HO278.out) hb); have n1_ := Aside0.mk (below_step (by repeat (first | (with_reducible first | exact HB.out | apply below_alloc | apply pw_below_drewN | apply below_drew1) | exact HB.out)) hb); clear HO278; clear HB; have HO278 := n0_; have HB := n1_; clear n0_ n1_; (try clear hb); (try clear hb2); (try clear hk); (try clear hi)) | (go_at_call 20; (with_reducible refine (poly_Value.calls k t282 a2 t283 _ A9.out).mono ?_); rintro e w' ⟨rfl, ⟨nd, rfl⟩⟩) | (go_at_call 20; (with_reducible refine (poly_Value.calls k a0 a2 t284 _ A10.out).mono ?_); rintro e w' ⟨rfl, ⟨nd, rfl⟩⟩) | (go_at_call 20; (with_reducible refine (poly_Value.calls k a1 a2 t285 _ A11.out).mono ?_); rintro e w' ⟨rfl, ⟨nd, rfl⟩⟩) | (go_at_call 31; (with_reducible refine (gf_Add.calls t284 t285 t286 _ A12.out).mono ?_); rintro e w' ⟨rfl, ⟨nd, rfl⟩⟩) | (go_at_call 24; (with_reducible refine (poly_Mul.calls k a0 a1 t287 _ A14.out).mono ?_); rintro e w33 ⟨rfl, hb⟩; have n0_ := Aside0.mk (Kd.R_below (by (with_reducible repeat (first | apply Kd.R_alloc | apply Kd.R_drewN | apply Kd.R_drew)); exact HO278.out) hb); have n1_ := Aside0.mk (below_step (by repeat (first | (with_reducible first | exact HB.out | apply below_alloc | apply pw_below_drewN | apply below_drew1) | exact HB.out)) hb); clear HO278; clear HB; have HO278 := n0_; have HB := n1_; clear n0_ n1_; (try clear hb); (try clear hb2); (try clear hk); (try clear hi)) | (go_at_call 20; (with_reducible refine (poly_Value.calls k t287 a2 t288 _ A15.out).mono ?_); rintro e w' ⟨rfl, ⟨nd, rfl⟩⟩) | (go_at_call 20; (with_reducible refine (poly_Value.calls k a0 a2 t284 _ A16.out).mono ?_); rintro e w' ⟨rfl, ⟨nd, rfl⟩⟩) | (go_at_call 20; (with_reducible refine (poly_Value.calls k a1 a2 t285 _ A17.out).mono ?_); rintro e w' ⟨rfl, ⟨nd, rfl⟩⟩) | (go_at_call 32; (with_reducible refine (gf_Mul.calls k t284 t285 t291 _ A18.out).mono ?_); rintro e w' ⟨rfl, ⟨nd, rfl⟩⟩))
          go_ret
          exact ⟨by first | rfl | (simp [errW_none, errW_some] <;> rfl) | (simp [*, errW_none, errW_some] <;> rfl), by repeat (first | (with_reducible first | exact HB.out | apply below_alloc | apply pw_below_drewN | apply below_drew1) | exact HB.out)⟩
      · rw [if_neg c13] at H
        have c13b0 : (t283 == t286) = false := beq_eq_false_iff_ne.mpr c13
        have c13b1 : (t283 != t286) = true := bne_iff_ne.mpr c13
        obtain rfl := Option.some.inj H
        go_enter Tryd.func6, Tryd.ntmps6
        go_wp2_with (first | ((with_reducible refine gate_dst (N := 9) rfl ?_); refine Kd.R_lit Kd.string _ 9 ?hg (N := 9) ?hd (xs := ([a0, a1] : List ByteArray)) (inner := [.string a0, .string a1]) (ok := fun _ => True) (okp := fun _ => True) ?hr ?hp (fun _ hk => hk) trivial (Below.refl _ _) (Nat.le_refl _) (by simp) ?_; (case hd => rfl); (case hg => rfl); (case hr => first | (go_simp; done) | (go_simp; rfl)); (case hp => exact (Reps.one (show Kd.M Kd.string _ _ _ a0 [.string a0] from rfl) (Reps.one (show Kd.M Kd.string _ _ _ a1 [.string a1] from rfl) (Reps.none _ _)))); intro v277 w34 ho35 hb hg_ hnew_; clear hg_ hnew_; (first | rw [← Ny276.out] at ho35 | (simp only [Int.reduceToNat] at ho35; rw [← Ny276.out] at ho35)); have n0_ := Aside0.mk (Kd.R_lower ho35 (below_size (by repeat (first | (with_reducible first | exact HB.out | apply below_alloc | apply pw_below_drewN | apply below_drew1) | exact HB.out)))); have n1_ := Aside0.mk (below_step (by repeat (first | (with_reducible first | exact HB.out | apply below_alloc | apply pw_below_drewN | apply below_drew1) | exact HB.out)) hb); clear HB; have HO278 := n0_; have HB := n1_; clear n0_ n1_; clear hb ho35; obtain ⟨Ao36, co36, eo36⟩ := Kd.R_slice HO278.out; subst eo36) | ((with_reducible refine gate_callee (f := 16) rfl ?_); refine goesL_ (some 10) rfl rfl Tryd.func16 (by kernel_rfl) rfl #[.int .i64 100, .slice Ao36 y276.length co36] rfl (by (try simp only [List.map_toArray, List.map_cons, List.map_nil]); first | done | rfl | (simp only [List.length_drop, List.length_take]; rfl)) ?_; (with_reducible refine (lockboxlaw08_few.calls k 100 _ _ y276 true _ ?side1 ?side2 A4.out).mono ?_); (case side1 => repeat (first | exact (Kd.R_reads' HO278.out).2.2 | (with_reducible refine Kd.C_alloc ?_ _) | (with_reducible refine Kd.C_drewN ?_ _) | (with_reducible refine Kd.C_drew ?_))); (case side2 => exact (Kd.R_reads' HO278.out).2.1); rintro e w' ⟨rfl, ⟨nd, rfl⟩⟩; refine ⟨_, rfl, ?_⟩) | ((with_reducible refine gate_callee (f := 17) rfl ?_); refine goesL_ (some 13) rfl rfl Tryd.func17 (by kernel_rfl) rfl #[] rfl (by (try simp only [List.map_toArray, List.map_cons, List.map_nil]); first | done | rfl | (simp only [List.length_drop, List.length_take]; rfl)) ?_; (with_reducible refine (lockboxlaw08_awake.calls k  true _ A6.out).mono ?_); rintro e w37 ⟨rfl, hb⟩; refine ⟨_, rfl, ?_⟩; have n0_ := Aside0.mk (Kd.R_below (by (with_reducible repeat (first | apply Kd.R_alloc | apply Kd.R_drewN | apply Kd.R_drew)); exact HO278.out) hb); have n1_ := Aside0.mk (below_step (by repeat (first | (with_reducible first | exact HB.out | apply below_alloc | apply pw_below_drewN | apply below_drew1) | exact HB.out)) hb); clear HO278; clear HB; have HO278 := n0_; have HB := n1_; clear n0_ n1_; (try clear hb); (try clear hb2); (try clear hk); (try clear hi)) | (go_at_call 22; (with_reducible refine (poly_Add.calls k a0 a1 t282 _ A8.out).mono ?_); rintro e w38 ⟨rfl, hb⟩; have n0_ := Aside0.mk (Kd.R_below (by (with_reducible repeat (first | apply Kd.R_alloc | apply Kd.R_drewN | apply Kd.R_drew)); exact HO278.out) hb); have n1_ := Aside0.mk (below_step (by repeat (first | (with_reducible first | exact HB.out | apply below_alloc | apply pw_below_drewN | apply below_drew1) | exact HB.out)) hb); clear HO278; clear HB; have HO278 := n0_; have HB := n1_; clear n0_ n1_; (try clear hb); (try clear hb2); (try clear hk); (try clear hi)) | (go_at_call 20; (with_reducible refine (poly_Value.calls k t282 a2 t283 _ A9.out).mono ?_); rintro e w' ⟨rfl, ⟨nd, rfl⟩⟩) | (go_at_call 20; (with_reducible refine (poly_Value.calls k a0 a2 t284 _ A10.out).mono ?_); rintro e w' ⟨rfl, ⟨nd, rfl⟩⟩) | (go_at_call 20; (with_reducible refine (poly_Value.calls k a1 a2 t285 _ A11.out).mono ?_); rintro e w' ⟨rfl, ⟨nd, rfl⟩⟩) | (go_at_call 31; (with_reducible refine (gf_Add.calls t284 t285 t286 _ A12.out).mono ?_); rintro e w' ⟨rfl, ⟨nd, rfl⟩⟩))
        go_ret
        exact ⟨by first | rfl | (simp [errW_none, errW_some] <;> rfl) | (simp [*, errW_none, errW_some] <;> rfl), by repeat (first | (with_reducible first | exact HB.out | apply below_alloc | apply pw_below_drewN | apply below_drew1) | exact HB.out)⟩
    · replace c7 := Bool.eq_false_iff.mpr c7
      subst c7
      have H1 : (some false) = some r := by rw [if_neg (show ¬ (false = true) by decide)] at H; exact H
      clear H
      have H := H1
      clear H1
      obtain rfl := Option.some.inj H
      go_enter Tryd.func6, Tryd.ntmps6
      go_wp2_with (first | ((with_reducible refine gate_dst (N := 9) rfl ?_); refine Kd.R_lit Kd.string _ 9 ?hg (N := 9) ?hd (xs := ([a0, a1] : List ByteArray)) (inner := [.string a0, .string a1]) (ok := fun _ => True) (okp := fun _ => True) ?hr ?hp (fun _ hk => hk) trivial (Below.refl _ _) (Nat.le_refl _) (by simp) ?_; (case hd => rfl); (case hg => rfl); (case hr => first | (go_simp; done) | (go_simp; rfl)); (case hp => exact (Reps.one (show Kd.M Kd.string _ _ _ a0 [.string a0] from rfl) (Reps.one (show Kd.M Kd.string _ _ _ a1 [.string a1] from rfl) (Reps.none _ _)))); intro v277 w39 ho40 hb hg_ hnew_; clear hg_ hnew_; (first | rw [← Ny276.out] at ho40 | (simp only [Int.reduceToNat] at ho40; rw [← Ny276.out] at ho40)); have n0_ := Aside0.mk (Kd.R_lower ho40 (below_size (by repeat (first | (with_reducible first | exact HB.out | apply below_alloc | apply pw_below_drewN | apply below_drew1) | exact HB.out)))); have n1_ := Aside0.mk (below_step (by repeat (first | (with_reducible first | exact HB.out | apply below_alloc | apply pw_below_drewN | apply below_drew1) | exact HB.out)) hb); clear HB; have HO278 := n0_; have HB := n1_; clear n0_ n1_; clear hb ho40; obtain ⟨Ao41, co41, eo41⟩ := Kd.R_slice HO278.out; subst eo41) | ((with_reducible refine gate_callee (f := 16) rfl ?_); refine goesL_ (some 10) rfl rfl Tryd.func16 (by kernel_rfl) rfl #[.int .i64 100, .slice Ao41 y276.length co41] rfl (by (try simp only [List.map_toArray, List.map_cons, List.map_nil]); first | done | rfl | (simp only [List.length_drop, List.length_take]; rfl)) ?_; (with_reducible refine (lockboxlaw08_few.calls k 100 _ _ y276 true _ ?side1 ?side2 A4.out).mono ?_); (case side1 => repeat (first | exact (Kd.R_reads' HO278.out).2.2 | (with_reducible refine Kd.C_alloc ?_ _) | (with_reducible refine Kd.C_drewN ?_ _) | (with_reducible refine Kd.C_drew ?_))); (case side2 => exact (Kd.R_reads' HO278.out).2.1); rintro e w' ⟨rfl, ⟨nd, rfl⟩⟩; refine ⟨_, rfl, ?_⟩) | ((with_reducible refine gate_callee (f := 17) rfl ?_); refine goesL_ (some 13) rfl rfl Tryd.func17 (by kernel_rfl) rfl #[] rfl (by (try simp only [List.map_toArray, List.map_cons, List.map_nil]); first | done | rfl | (simp only [List.length_drop, List.length_take]; rfl)) ?_; (with_reducible refine (lockboxlaw08_awake.calls k  false _ A6.out).mono ?_); rintro e w42 ⟨rfl, hb⟩; refine ⟨_, rfl, ?_⟩; have n0_ := Aside0.mk (Kd.R_below (by (with_reducible repeat (first | apply Kd.R_alloc | apply Kd.R_drewN | apply Kd.R_drew)); exact HO278.out) hb); have n1_ := Aside0.mk (below_step (by repeat (first | (with_reducible first | exact HB.out | apply below_alloc | apply pw_below_drewN | apply below_drew1) | exact HB.out)) hb); clear HO278; clear HB; have HO278 := n0_; have HB := n1_; clear n0_ n1_; (try clear hb); (try clear hb2); (try clear hk); (try clear hi)))
      go_ret
      exact ⟨by first | rfl | (simp [errW_none, errW_some] <;> rfl) | (simp [*, errW_none, errW_some] <;> rfl), by repeat (first | (with_reducible first | exact HB.out | apply below_alloc | apply pw_below_drewN | apply below_drew1) | exact HB.out)⟩
  · replace c5 := Bool.eq_false_iff.mpr c5
    subst c5
    have H1 : ((lockboxlaw08_awake.f k).bind fun t280 => (some t280)) = some r := by rw [if_neg (show ¬ (false = true) by decide)] at H; exact H
    clear H
    have H := H1
    clear H1
    replace H := Option.bind_eq_some_iff.mp H
    obtain ⟨t280, A430, H⟩ := H
    replace H : (some t280) = some r := H
    have A43 := Aside0.mk A430
    clear A430
    obtain rfl := Option.some.inj H
    go_enter Tryd.func6, Tryd.ntmps6
    go_wp2_with (first | ((with_reducible refine gate_dst (N := 9) rfl ?_); refine Kd.R_lit Kd.string _ 9 ?hg (N := 9) ?hd (xs := ([a0, a1] : List ByteArray)) (inner := [.string a0, .string a1]) (ok := fun _ => True) (okp := fun _ => True) ?hr ?hp (fun _ hk => hk) trivial (Below.refl _ _) (Nat.le_refl _) (by simp) ?_; (case hd => rfl); (case hg => rfl); (case hr => first | (go_simp; done) | (go_simp; rfl)); (case hp => exact (Reps.one (show Kd.M Kd.string _ _ _ a0 [.string a0] from rfl) (Reps.one (show Kd.M Kd.string _ _ _ a1 [.string a1] from rfl) (Reps.none _ _)))); intro v277 w44 ho45 hb hg_ hnew_; clear hg_ hnew_; (first | rw [← Ny276.out] at ho45 | (simp only [Int.reduceToNat] at ho45; rw [← Ny276.out] at ho45)); have n0_ := Aside0.mk (Kd.R_lower ho45 (below_size (by repeat (first | (with_reducible first | exact HB.out | apply below_alloc | apply pw_below_drewN | apply below_drew1) | exact HB.out)))); have n1_ := Aside0.mk (below_step (by repeat (first | (with_reducible first | exact HB.out | apply below_alloc | apply pw_below_drewN | apply below_drew1) | exact HB.out)) hb); clear HB; have HO278 := n0_; have HB := n1_; clear n0_ n1_; clear hb ho45; obtain ⟨Ao46, co46, eo46⟩ := Kd.R_slice HO278.out; subst eo46) | ((with_reducible refine gate_callee (f := 16) rfl ?_); refine goesL_ (some 10) rfl rfl Tryd.func16 (by kernel_rfl) rfl #[.int .i64 100, .slice Ao46 y276.length co46] rfl (by (try simp only [List.map_toArray, List.map_cons, List.map_nil]); first | done | rfl | (simp only [List.length_drop, List.length_take]; rfl)) ?_; (with_reducible refine (lockboxlaw08_few.calls k 100 _ _ y276 false _ ?side1 ?side2 A4.out).mono ?_); (case side1 => repeat (first | exact (Kd.R_reads' HO278.out).2.2 | (with_reducible refine Kd.C_alloc ?_ _) | (with_reducible refine Kd.C_drewN ?_ _) | (with_reducible refine Kd.C_drew ?_))); (case side2 => exact (Kd.R_reads' HO278.out).2.1); rintro e w' ⟨rfl, ⟨nd, rfl⟩⟩; refine ⟨_, rfl, ?_⟩) | ((with_reducible refine gate_callee (f := 17) rfl ?_); refine goesL_ (some 12) rfl rfl Tryd.func17 (by kernel_rfl) rfl #[] rfl (by (try simp only [List.map_toArray, List.map_cons, List.map_nil]); first | done | rfl | (simp only [List.length_drop, List.length_take]; rfl)) ?_; (with_reducible refine (lockboxlaw08_awake.calls k  t280 _ A43.out).mono ?_); rintro e w47 ⟨rfl, hb⟩; refine ⟨_, rfl, ?_⟩; have n0_ := Aside0.mk (Kd.R_below (by (with_reducible repeat (first | apply Kd.R_alloc | apply Kd.R_drewN | apply Kd.R_drew)); exact HO278.out) hb); have n1_ := Aside0.mk (below_step (by repeat (first | (with_reducible first | exact HB.out | apply below_alloc | apply pw_below_drewN | apply below_drew1) | exact HB.out)) hb); clear HO278; clear HB; have HO278 := n0_; have HB := n1_; clear n0_ n1_; (try clear hb); (try clear hb2); (try clear hk); (try clear hi)))
    go_ret
    exact ⟨by first | rfl | (simp [errW_none, errW_some] <;> rfl) | (simp [*, errW_none, errW_some] <;> rfl), by repeat (first | (with_reducible first | exact HB.out | apply below_alloc | apply pw_below_drewN | apply below_drew1) | exact HB.out)⟩

/-- THE ONE PURE STATEMENT of lockboxlaw08_PolyValues: yours. -/
def lockboxlaw08_PolyValues.Pure : Prop := ∀ (a0 : ByteArray) (a1 : ByteArray) (a2 : Int), a0.size ≤ 140737488351232 → a1.size ≤ 140737488351232 → (Lit.int .u8 a2).wf = true → ∃ k, lockboxlaw08_PolyValues.f k a0 a1 a2 = some true
theorem lockboxlaw08_PolyValues.walk (P : lockboxlaw08_PolyValues.Pure) (a0 : ByteArray) (a1 : ByteArray) (a2 : Int) (w : World) (w0 : a0.size ≤ 140737488351232) (w1 : a1.size ≤ 140737488351232) (w2 : (Lit.int .u8 a2).wf = true) :
    Calls Tryd.prog 6 #[.string a0, .string a1, .int .u8 a2] w fun e w' => e = .returned (.bool true) ∧ Below w.heap.size w w' := by
  obtain ⟨k, h⟩ := P a0 a1 a2 w0 w1 w2
  refine (lockboxlaw08_PolyValues.calls k a0 a1 a2 true w h).mono ?_
  rintro e w' ⟨rfl, hd⟩
  exact ⟨rfl, hd⟩

end Go.Proofs.YtbfbekkgmbfmhaaDoor.Pr
