-- A walk, and the plain function that it comes to: made by this session's pr.py round the kit's printer; Lean checks it.
import Derived.Test.YtepmahdiiioceaaPr0
import Derived.Test.YtepmahdiiioceaaPrCanonDecode
import Derived.Test.YtepmahdiiioceaaPrCanonEncode
import Derived.Test.YtepmahdiiioceaaPrCanonList
import Derived.Test.YtepmahdiiioceaaPrCanonText
import Derived.Test.YtepmahdiiioceaaPrLockboxlaw02Awake
namespace Go.Proofs.Ytepmahdiiioceaa.Pr
open Go.RowKit Go.Proofs.YtepmahdiiioceaaW.PrintWords Go.Proofs.YtepmahdiiioceaaW.PrintLast Go.Proofs.YtepmahdiiioceaaW.PrintMore
attribute [local go_sem] max2_int min2_int max_two min_two max_three min_three max_four min_four   -- for this text's walks alone
set_option linter.unusedVariables false
set_option linter.unusedSimpArgs false

/-! ### lockboxlaw02_CanonLong: function 5 -/
mutual
def lockboxlaw02_CanonLong.j0 : Nat → Int → ByteArray → ByteArray → Int → ByteArray → Int → Int → Option (Bool)
  | 0, _, _, _, _, _, _, _ => none
  | k + 1, x0, x3, x4, x5, x6, x7, x8 => (lockboxlaw02_awake.f k).bind fun t299 => (if t299 = true then (if ((x5 == 0) != (decide ((wrap64 (x0 + x8)) ≤ 65536))) = true then (lockboxlaw02_CanonLong.j1 k x0 x3 x4 x5 x6 x7 x8 true) else (lockboxlaw02_CanonLong.j1 k x0 x3 x4 x5 x6 x7 x8 ((x7 == 0) != (decide ((wrap64 ((wrap64 (x0 + x8)) + 3)) ≤ 65536))))) else (lockboxlaw02_CanonLong.j1 k x0 x3 x4 x5 x6 x7 x8 true))
def lockboxlaw02_CanonLong.j1 : Nat → Int → ByteArray → ByteArray → Int → ByteArray → Int → Int → Bool → Option (Bool)
  | 0, _, _, _, _, _, _, _, _ => none
  | k + 1, x0, x3, x4, x5, x6, x7, x8, x55 => if x55 = true then (some false) else (if x5 = 0 then ((canon_Decode.f k x4).bind fun bt300 => (if bt300.2.2.2.2 = 0 then (if bt300.2.2.1.toList = x3.toList then (if x7 = 0 then (some ((x6.size : Int) == (wrap64 ((wrap64 (x0 + x8)) + 3)))) else (if x7 = 2 then (some true) else (some false))) else (some false)) else (some false))) else (if x5 = 2 then (if x7 = 0 then (some ((x6.size : Int) == (wrap64 ((wrap64 (x0 + x8)) + 3)))) else (if x7 = 2 then (some true) else (some false))) else (some false)))
end
def lockboxlaw02_CanonLong.f (k : Nat) (a0 : Int) : Option (Bool) := if 0 ≤ (wrap64 (65520 + (Int.tmod (wrap64 ((Int.tmod a0 17) + 17)) 17))) then (if (wrap64 (65520 + (Int.tmod (wrap64 ((Int.tmod a0 17) + 17)) 17)) : Int).toNat ≤ 281474976710656 then ((some (List.replicate (wrap64 (65520 + (Int.tmod (wrap64 ((Int.tmod a0 17) + 17)) 17)) : Int).toNat 0 : List Int)).bind fun y271 => ((canon_Text.f (strOfNums y271)).bind fun bt274 => ((canon_Encode.f bt274.1 bt274.2.1 bt274.2.2.1 bt274.2.2.2).bind fun bt280 => ((canon_Text.f (strOfNums y271)).bind fun bt282 => ((canon_List.f (([(⟨bt282.1, bt282.2.1, bt282.2.2.1, bt282.2.2.2⟩ : S25)] : List (S25)))).bind fun bt291 => ((canon_Encode.f bt291.1 bt291.2.1 bt291.2.2.1 bt291.2.2.2).bind fun bt297 => (if (wrap64 (65520 + (Int.tmod (wrap64 ((Int.tmod a0 17) + 17)) 17))) > 65535 then (lockboxlaw02_CanonLong.j0 k (wrap64 (65520 + (Int.tmod (wrap64 ((Int.tmod a0 17) + 17)) 17))) (strOfNums y271) bt280.1 bt280.2 bt297.1 bt297.2 5) else (lockboxlaw02_CanonLong.j0 k (wrap64 (65520 + (Int.tmod (wrap64 ((Int.tmod a0 17) + 17)) 17))) (strOfNums y271) bt280.1 bt280.2 bt297.1 bt297.2 4)))))))) else (none)) else (none)
theorem lockboxlaw02_CanonLong.mono_l : ∀ k, (∀ y0 y1 y2 y3 y4 y5 y6, LeO (lockboxlaw02_CanonLong.j0 k y0 y1 y2 y3 y4 y5 y6) (lockboxlaw02_CanonLong.j0 (k + 1) y0 y1 y2 y3 y4 y5 y6)) ∧ (∀ y0 y1 y2 y3 y4 y5 y6 y7, LeO (lockboxlaw02_CanonLong.j1 k y0 y1 y2 y3 y4 y5 y6 y7) (lockboxlaw02_CanonLong.j1 (k + 1) y0 y1 y2 y3 y4 y5 y6 y7))
  | 0 => ⟨fun _ _ _ _ _ _ _ r h => by simp [lockboxlaw02_CanonLong.j0] at h, fun _ _ _ _ _ _ _ _ r h => by simp [lockboxlaw02_CanonLong.j1] at h⟩
  | k + 1 => by
    obtain ⟨ih0, ih1⟩ := lockboxlaw02_CanonLong.mono_l k
    refine ⟨?_, ?_⟩
    · intro y0 y1 y2 y3 y4 y5 y6
      unfold lockboxlaw02_CanonLong.j0
      repeat' first
      | (with_reducible exact ih0 _ _ _ _ _ _ _)
      | (with_reducible exact ih1 _ _ _ _ _ _ _ _)
      | (with_reducible exact canon_Decode.mono _ _)
      | (with_reducible exact lockboxlaw02_awake.mono _)
      | (with_reducible exact LeO.refl _)
      | (with_reducible exact LeO.none _)
      | (with_reducible refine LeO.ite ?_ ?_)
      | (with_reducible refine LeO.bind ?_ (fun _ => ?_))
      | exact ih0 _ _ _ _ _ _ _
      | exact ih1 _ _ _ _ _ _ _ _
      | exact canon_Decode.mono _ _
      | exact lockboxlaw02_awake.mono _
      | exact LeO.none _
      | refine LeO.ite ?_ ?_
      | refine LeO.bind ?_ (fun _ => ?_)
    · intro y0 y1 y2 y3 y4 y5 y6 y7
      unfold lockboxlaw02_CanonLong.j1
      repeat' first
      | (with_reducible exact ih0 _ _ _ _ _ _ _)
      | (with_reducible exact ih1 _ _ _ _ _ _ _ _)
      | (with_reducible exact canon_Decode.mono _ _)
      | (with_reducible exact lockboxlaw02_awake.mono _)
      | (with_reducible exact LeO.refl _)
      | (with_reducible exact LeO.none _)
      | (with_reducible refine LeO.ite ?_ ?_)
      | (with_reducible refine LeO.bind ?_ (fun _ => ?_))
      | exact ih0 _ _ _ _ _ _ _
      | exact ih1 _ _ _ _ _ _ _ _
      | exact canon_Decode.mono _ _
      | exact lockboxlaw02_awake.mono _
      | exact LeO.none _
      | refine LeO.ite ?_ ?_
      | refine LeO.bind ?_ (fun _ => ?_)
theorem lockboxlaw02_CanonLong.mono : ∀ a0 k, LeO (lockboxlaw02_CanonLong.f k a0) (lockboxlaw02_CanonLong.f (k + 1) a0) := by
  intro a0 k
  obtain ⟨ih0, ih1⟩ := lockboxlaw02_CanonLong.mono_l k
  unfold lockboxlaw02_CanonLong.f
  repeat' first
      | (with_reducible exact ih0 _ _ _ _ _ _ _)
      | (with_reducible exact ih1 _ _ _ _ _ _ _ _)
      | (with_reducible exact canon_Decode.mono _ _)
      | (with_reducible exact lockboxlaw02_awake.mono _)
      | (with_reducible exact LeO.refl _)
      | (with_reducible exact LeO.none _)
      | (with_reducible refine LeO.ite ?_ ?_)
      | (with_reducible refine LeO.bind ?_ (fun _ => ?_))
      | exact ih0 _ _ _ _ _ _ _
      | exact ih1 _ _ _ _ _ _ _ _
      | exact canon_Decode.mono _ _
      | exact lockboxlaw02_awake.mono _
      | exact LeO.none _
      | refine LeO.ite ?_ ?_
      | refine LeO.bind ?_ (fun _ => ?_)
set_option maxHeartbeats 8000000 in
set_option maxRecDepth 100000 in
theorem lockboxlaw02_CanonLong.calls (k : Nat) (a0 : Int) (r : Bool) (w : World) (h : lockboxlaw02_CanonLong.f k a0 = some r) :
    Calls Try.prog 5 #[.int .i64 a0] w fun e w' => e = .returned (.bool r) ∧ Below w.heap.size w w' := by
  have hu25 := Try.underlying25
  have HB := Aside0.mk (Below.refl w.heap.size w)
  have H : (if 0 ≤ (wrap64 (65520 + (Int.tmod (wrap64 ((Int.tmod a0 17) + 17)) 17))) then (if (wrap64 (65520 + (Int.tmod (wrap64 ((Int.tmod a0 17) + 17)) 17)) : Int).toNat ≤ 281474976710656 then ((some (List.replicate (wrap64 (65520 + (Int.tmod (wrap64 ((Int.tmod a0 17) + 17)) 17)) : Int).toNat 0 : List Int)).bind fun y271 => ((canon_Text.f (strOfNums y271)).bind fun bt274 => ((canon_Encode.f bt274.1 bt274.2.1 bt274.2.2.1 bt274.2.2.2).bind fun bt280 => ((canon_Text.f (strOfNums y271)).bind fun bt282 => ((canon_List.f (([(⟨bt282.1, bt282.2.1, bt282.2.2.1, bt282.2.2.2⟩ : S25)] : List (S25)))).bind fun bt291 => ((canon_Encode.f bt291.1 bt291.2.1 bt291.2.2.1 bt291.2.2.2).bind fun bt297 => (if (wrap64 (65520 + (Int.tmod (wrap64 ((Int.tmod a0 17) + 17)) 17))) > 65535 then (lockboxlaw02_CanonLong.j0 k (wrap64 (65520 + (Int.tmod (wrap64 ((Int.tmod a0 17) + 17)) 17))) (strOfNums y271) bt280.1 bt280.2 bt297.1 bt297.2 5) else (lockboxlaw02_CanonLong.j0 k (wrap64 (65520 + (Int.tmod (wrap64 ((Int.tmod a0 17) + 17)) 17))) (strOfNums y271) bt280.1 bt280.2 bt297.1 bt297.2 4)))))))) else (none)) else (none)) = some r := h
  clear h
  obtain ⟨ji2, hji2⟩ : ∃ j_ : Int, (wrap64 (65520 + (Int.tmod (wrap64 ((Int.tmod a0 17) + 17)) 17))) = j_ := ⟨_, rfl⟩
  replace H : (if 0 ≤ (ji2) then (if (ji2 : Int).toNat ≤ 281474976710656 then ((some (List.replicate (ji2 : Int).toNat 0 : List Int)).bind fun y271 => ((canon_Text.f (strOfNums y271)).bind fun bt274 => ((canon_Encode.f bt274.1 bt274.2.1 bt274.2.2.1 bt274.2.2.2).bind fun bt280 => ((canon_Text.f (strOfNums y271)).bind fun bt282 => ((canon_List.f (([(⟨bt282.1, bt282.2.1, bt282.2.2.1, bt282.2.2.2⟩ : S25)] : List (S25)))).bind fun bt291 => ((canon_Encode.f bt291.1 bt291.2.1 bt291.2.2.1 bt291.2.2.2).bind fun bt297 => (if (ji2) > 65535 then (lockboxlaw02_CanonLong.j0 k ji2 (strOfNums y271) bt280.1 bt280.2 bt297.1 bt297.2 5) else (lockboxlaw02_CanonLong.j0 k ji2 (strOfNums y271) bt280.1 bt280.2 bt297.1 bt297.2 4)))))))) else (none)) else (none)) = some r := by first | (rw [hji2] at H; exact H) | (simp only [hji2] at H ⊢; exact H)
  have hji2w : (IntKind.i64.wrap (65520 + (Int.tmod (wrap64 ((Int.tmod a0 17) + 17)) 17))) = ji2 := (i64_w _).trans hji2
  by_cases c3 : 0 ≤ (ji2)
  · rw [if_pos c3] at H
    have c3b0 := eq_true c3
    have c3b1 : decide (0 ≤ (ji2)) = true := decide_eq_true c3
    clear c3
    by_cases c4 : (ji2 : Int).toNat ≤ 281474976710656
    · rw [if_pos c4] at H
      have c4b0 := eq_true c4
      have c4b1 : decide ((ji2 : Int).toNat ≤ 281474976710656) = true := decide_eq_true c4
      clear c4
      obtain ⟨y271, hy271⟩ : ∃ y_ : List Int, y_ = (List.replicate (ji2 : Int).toNat 0) := ⟨_, rfl⟩
      replace H : ((canon_Text.f (strOfNums y271)).bind fun bt274 => ((canon_Encode.f bt274.1 bt274.2.1 bt274.2.2.1 bt274.2.2.2).bind fun bt280 => ((canon_Text.f (strOfNums y271)).bind fun bt282 => ((canon_List.f (([(⟨bt282.1, bt282.2.1, bt282.2.2.1, bt282.2.2.2⟩ : S25)] : List (S25)))).bind fun bt291 => ((canon_Encode.f bt291.1 bt291.2.1 bt291.2.2.1 bt291.2.2.2).bind fun bt297 => (if (ji2) > 65535 then (lockboxlaw02_CanonLong.j0 k ji2 (strOfNums y271) bt280.1 bt280.2 bt297.1 bt297.2 5) else (lockboxlaw02_CanonLong.j0 k ji2 (strOfNums y271) bt280.1 bt280.2 bt297.1 bt297.2 4))))))) = some r := by first | (rw [hy271]; with_reducible exact H) | (have H2_ := (Option.bind_some _ _).symm.trans H; rw [hy271]; with_reducible exact H2_) | (have H2_ := (Option.bind_some _ _).symm.trans H; with_reducible exact H2_) | with_reducible exact H | (rw [hy271]; exact H) | exact H
      have Ny271 := Aside0.mk hy271
      clear hy271
      replace H := Option.bind_eq_some_iff.mp H
      obtain ⟨⟨t274, t275, t276, t277⟩, A50, H⟩ := H
      replace H : ((canon_Encode.f t274 t275 t276 t277).bind fun bt280 => ((canon_Text.f (strOfNums y271)).bind fun bt282 => ((canon_List.f (([(⟨bt282.1, bt282.2.1, bt282.2.2.1, bt282.2.2.2⟩ : S25)] : List (S25)))).bind fun bt291 => ((canon_Encode.f bt291.1 bt291.2.1 bt291.2.2.1 bt291.2.2.2).bind fun bt297 => (if (ji2) > 65535 then (lockboxlaw02_CanonLong.j0 k ji2 (strOfNums y271) bt280.1 bt280.2 bt297.1 bt297.2 5) else (lockboxlaw02_CanonLong.j0 k ji2 (strOfNums y271) bt280.1 bt280.2 bt297.1 bt297.2 4)))))) = some r := H
      have A5 := Aside0.mk A50
      clear A50
      replace H := Option.bind_eq_some_iff.mp H
      obtain ⟨⟨t280, t281⟩, A60, H⟩ := H
      replace H : ((canon_Text.f (strOfNums y271)).bind fun bt282 => ((canon_List.f (([(⟨bt282.1, bt282.2.1, bt282.2.2.1, bt282.2.2.2⟩ : S25)] : List (S25)))).bind fun bt291 => ((canon_Encode.f bt291.1 bt291.2.1 bt291.2.2.1 bt291.2.2.2).bind fun bt297 => (if (ji2) > 65535 then (lockboxlaw02_CanonLong.j0 k ji2 (strOfNums y271) t280 t281 bt297.1 bt297.2 5) else (lockboxlaw02_CanonLong.j0 k ji2 (strOfNums y271) t280 t281 bt297.1 bt297.2 4))))) = some r := H
      have A6 := Aside0.mk A60
      clear A60
      replace H := Option.bind_eq_some_iff.mp H
      obtain ⟨⟨t282, t283, t284, t285⟩, A70, H⟩ := H
      replace H : ((canon_List.f (([(⟨t282, t283, t284, t285⟩ : S25)] : List (S25)))).bind fun bt291 => ((canon_Encode.f bt291.1 bt291.2.1 bt291.2.2.1 bt291.2.2.2).bind fun bt297 => (if (ji2) > 65535 then (lockboxlaw02_CanonLong.j0 k ji2 (strOfNums y271) t280 t281 bt297.1 bt297.2 5) else (lockboxlaw02_CanonLong.j0 k ji2 (strOfNums y271) t280 t281 bt297.1 bt297.2 4)))) = some r := H
      have A7 := Aside0.mk A70
      clear A70
      obtain ⟨y288, hy288⟩ : ∃ y_ : List (S25), y_ = (([(⟨t282, t283, t284, t285⟩ : S25)] : List (S25))) := ⟨_, rfl⟩
      replace H : ((canon_List.f y288).bind fun bt291 => ((canon_Encode.f bt291.1 bt291.2.1 bt291.2.2.1 bt291.2.2.2).bind fun bt297 => (if (ji2) > 65535 then (lockboxlaw02_CanonLong.j0 k ji2 (strOfNums y271) t280 t281 bt297.1 bt297.2 5) else (lockboxlaw02_CanonLong.j0 k ji2 (strOfNums y271) t280 t281 bt297.1 bt297.2 4)))) = some r := by first | (rw [hy288]; with_reducible exact H) | (have H2_ := (Option.bind_some _ _).symm.trans H; rw [hy288]; with_reducible exact H2_) | (have H2_ := (Option.bind_some _ _).symm.trans H; with_reducible exact H2_) | with_reducible exact H | (rw [hy288]; exact H) | exact H
      have Ny288 := Aside0.mk hy288
      clear hy288
      replace H := Option.bind_eq_some_iff.mp H
      obtain ⟨⟨t291, t292, t293, t294⟩, A80, H⟩ := H
      replace H : ((canon_Encode.f t291 t292 t293 t294).bind fun bt297 => (if (ji2) > 65535 then (lockboxlaw02_CanonLong.j0 k ji2 (strOfNums y271) t280 t281 bt297.1 bt297.2 5) else (lockboxlaw02_CanonLong.j0 k ji2 (strOfNums y271) t280 t281 bt297.1 bt297.2 4))) = some r := H
      have A8 := Aside0.mk A80
      clear A80
      replace H := Option.bind_eq_some_iff.mp H
      obtain ⟨⟨t297, t298⟩, A90, H⟩ := H
      replace H : (if (ji2) > 65535 then (lockboxlaw02_CanonLong.j0 k ji2 (strOfNums y271) t280 t281 t297 t298 5) else (lockboxlaw02_CanonLong.j0 k ji2 (strOfNums y271) t280 t281 t297 t298 4)) = some r := H
      have A9 := Aside0.mk A90
      clear A90
      have HC10 := Aside0.mk H
      clear H
      go_enter Try.func5, Try.ntmps5
      go_upto_if 34 with (first | ((with_reducible refine gate_dst (N := 17) rfl ?_); (try (refine gate_guard (by rfl) ?_; dsimp only)); refine Kd.R_make (Kd.int .u8) _ 5 rfl (N := 17) rfl 36 _ _ rfl ji2 rfl rfl Try.underlying36 (.int .u8 0) 1 info5 rfl (by decide) (by omega) 0 (ok := fun _ => True) (okp := fun _ => True) rfl (fun _ hk => hk) trivial (of_decide_eq_true (by first | (with_reducible assumption) | assumption)) (Nat.le_trans (Nat.mul_le_mul_right _ (of_decide_eq_true (by first | (with_reducible assumption) | assumption) : ji2.toNat ≤ 281474976710656)) (by omega)) (Below.refl _ _) (Nat.le_refl _) ?_; intro v272 w11 ho12 hb hg_ hnew_; clear hg_ hnew_; (first | rw [← Ny271.out] at ho12 | (simp only [Int.reduceToNat] at ho12; rw [← Ny271.out] at ho12)); have n0_ := Aside0.mk (Kd.R_lower ho12 (below_size (by repeat (first | (with_reducible first | exact HB.out | apply below_alloc | apply pw_below_drewN | apply below_drew1) | exact HB.out)))); have n1_ := Aside0.mk (below_step (by repeat (first | (with_reducible first | exact HB.out | apply below_alloc | apply pw_below_drewN | apply below_drew1) | exact HB.out)) hb); clear HB; have HO273 := n0_; have HB := n1_; clear n0_ n1_; clear hb ho12; have hcv13 := own_string (P := Try.prog) Try.underlying36 Try.underlying5 Try.underlying9 (Kd.own_of_R HO273.out)) | ((with_reducible refine gate_callee (f := 18) rfl ?_); refine goesL_ (some 21) rfl rfl Try.func18 (by kernel_rfl) rfl #[.string (strOfNums y271)] rfl (by (try simp only [List.map_toArray, List.map_cons, List.map_nil]); first | done | rfl | (simp only [List.length_drop, List.length_take]; rfl)) ?_; (with_reducible refine (canon_Text.calls (strOfNums y271) t274 t275 t276 t277 _ A5.out).mono ?_); rintro e w14 ⟨v278, rfl, ho0, hb⟩; refine ⟨_, rfl, ?_⟩; have n0_ := Aside0.mk (Kd.R_below (by (with_reducible repeat (first | apply Kd.R_alloc | apply Kd.R_drewN | apply Kd.R_drew)); exact HO273.out) hb); have n1_ := Aside0.mk (Kd.N_lower (Kd.N_mono (ok' := fun k_ => some k_ ≠ (v272 : Value).ownBlock) (Kd.R_N (Kd.R_bound ho0)) (fun k_ hk_ => (Kd.fresh' (Kd.R_lt (by (with_reducible repeat (first | apply Kd.R_alloc | apply Kd.R_drewN | apply Kd.R_drew)); exact HO273.out)) k_ hk_.2.1))) (below_size (by repeat (first | (with_reducible first | exact HB.out | apply below_alloc | apply pw_below_drewN | apply below_drew1) | exact HB.out)))); have n2_ := Aside0.mk (below_step (by repeat (first | (with_reducible first | exact HB.out | apply below_alloc | apply pw_below_drewN | apply below_drew1) | exact HB.out)) hb); clear HO273; clear HB; have HO273 := n0_; have HO279 := n1_; have HB := n2_; clear n0_ n1_ n2_; (try clear hb); (try clear hb2); (try clear hk); (try clear hi); (try clear ho0); obtain ⟨Ao15, co15, eo15⟩ := Kd.N_slice HO279.out; subst eo15) | ((with_reducible refine gate_callee (f := 14) rfl ?_); refine goesL_ (some 22) rfl rfl Try.func14 (by kernel_rfl) rfl #[.agg #[.int .i64 t274, .int .i64 t275, .string t276, .slice Ao15 t277.length co15]] rfl (by (try simp only [List.map_toArray, List.map_cons, List.map_nil]); first | done | rfl | (simp only [List.length_drop, List.length_take]; rfl)) ?_; (with_reducible refine (canon_Encode.calls t274 t275 t276 _ _ t277 t280 t281 _ ?side1 ?side2 A6.out).mono ?_); (case side1 => repeat (first | exact (Kd.N_reads' HO279.out).2.2 | (with_reducible refine Kd.C_alloc ?_ _) | (with_reducible refine Kd.C_drewN ?_ _) | (with_reducible refine Kd.C_drew ?_))); (case side2 => exact (Kd.N_reads' HO279.out).2.1); rintro e w16 ⟨rfl, hb⟩; refine ⟨_, rfl, ?_⟩; have n0_ := Aside0.mk (Kd.R_below (by (with_reducible repeat (first | apply Kd.R_alloc | apply Kd.R_drewN | apply Kd.R_drew)); exact HO273.out) hb); have n1_ := Aside0.mk (Kd.N_below (by (with_reducible repeat (first | apply Kd.N_alloc | apply Kd.N_drewN | apply Kd.N_drew)); exact HO279.out) hb); have n2_ := Aside0.mk (below_step (by repeat (first | (with_reducible first | exact HB.out | apply below_alloc | apply pw_below_drewN | apply below_drew1) | exact HB.out)) hb); clear HO273; clear HO279; clear HB; have HO273 := n0_; have HO279 := n1_; have HB := n2_; clear n0_ n1_ n2_; (try clear hb); (try clear hb2); (try clear hk); (try clear hi)) | ((with_reducible refine gate_callee (f := 18) rfl ?_); refine goesL_ (some 27) rfl rfl Try.func18 (by kernel_rfl) rfl #[.string (strOfNums y271)] rfl (by (try simp only [List.map_toArray, List.map_cons, List.map_nil]); first | done | rfl | (simp only [List.length_drop, List.length_take]; rfl)) ?_; (with_reducible refine (canon_Text.calls (strOfNums y271) t282 t283 t284 t285 _ A7.out).mono ?_); rintro e w17 ⟨v286, rfl, ho0, hb⟩; refine ⟨_, rfl, ?_⟩; have n0_ := Aside0.mk (Kd.R_below (by (with_reducible repeat (first | apply Kd.R_alloc | apply Kd.R_drewN | apply Kd.R_drew)); exact HO273.out) hb); have n1_ := Aside0.mk (Kd.N_elder' (by (with_reducible repeat (first | apply Kd.N_alloc | apply Kd.N_drewN | apply Kd.N_drew)); exact HO279.out) (by first | exact Kd.N_base ho0 | exact Kd.N_base (Kd.R_N ho0)) hb); have n2_ := Aside0.mk (Kd.N_lower (Kd.N_mono (ok' := fun k_ => some k_ ≠ (v272 : Value).ownBlock ∧ some k_ ≠ (.slice Ao15 t277.length co15 : Value).ownBlock) (Kd.R_N (Kd.R_bound ho0)) (fun k_ hk_ => ⟨(Kd.fresh' (Kd.R_lt (by (with_reducible repeat (first | apply Kd.R_alloc | apply Kd.R_drewN | apply Kd.R_drew)); exact HO273.out)) k_ hk_.2.1), (Kd.fresh' (Kd.N_lt (by (with_reducible repeat (first | apply Kd.N_alloc | apply Kd.N_drewN | apply Kd.N_drew)); exact HO279.out)) k_ hk_.2.1)⟩)) (below_size (by repeat (first | (with_reducible first | exact HB.out | apply below_alloc | apply pw_below_drewN | apply below_drew1) | exact HB.out)))); have n3_ := Aside0.mk (below_step (by repeat (first | (with_reducible first | exact HB.out | apply below_alloc | apply pw_below_drewN | apply below_drew1) | exact HB.out)) hb); clear HO273; clear HO279; clear HB; have HO273 := n0_; have HO279 := n1_; have HO287 := n2_; have HB := n3_; clear n0_ n1_ n2_ n3_; (try clear hb); (try clear hb2); (try clear hk); (try clear hi); (try clear ho0); obtain ⟨Ao18, co18, eo18⟩ := Kd.N_slice HO287.out; subst eo18) | ((with_reducible refine gate_dst (N := 28) rfl ?_); (try (refine gate_guard (by rfl) ?_; dsimp only)); refine Kd.N_lit k25 _ 25 ?hg (N' := 28) ?hd (xs := ([(⟨t282, t283, t284, t285⟩ : S25)] : List (S25))) (inner := [.int .i64 t282, .int .i64 t283, .string t284, .slice Ao18 t285.length co18]) (ok := (fun k_ => some k_ ≠ (v272 : Value).ownBlock ∧ some k_ ≠ (.slice Ao15 t277.length co15 : Value).ownBlock)) (okp := (fun k_ => some k_ ≠ (v272 : Value).ownBlock ∧ some k_ ≠ (.slice Ao15 t277.length co15 : Value).ownBlock)) ?hr ?hp (fun _ hk => hk) ((show ∀ k_, w17.heap.size ≤ k_ → (fun k_ => some k_ ≠ (v272 : Value).ownBlock ∧ some k_ ≠ (.slice Ao15 t277.length co15 : Value).ownBlock) k_ from fun k_ hk => ⟨Kd.fresh' (Kd.R_lt (by (with_reducible repeat (first | apply Kd.R_alloc | apply Kd.R_drewN | apply Kd.R_drew)); exact HO273.out)) k_ hk, Kd.fresh' (Kd.N_lt (by (with_reducible repeat (first | apply Kd.N_alloc | apply Kd.N_drewN | apply Kd.N_drew)); exact HO279.out)) k_ hk⟩) _ (Nat.le_refl _)) (Below.refl _ _) (Nat.le_refl _) (by simp) ?_; (case hd => rfl); (case hg => rfl); (case hr => first | (go_simp; done) | (go_simp; rfl)); (case hp => exact (Reps.c4 (show Kd.FK k25 _ _ (⟨t282, t283, t284, t285⟩ : S25) [.int .i64 t282, .int .i64 t283, .string t284, .slice Ao18 t285.length co18] from (k25_mkF _ _ (⟨t282, t283, t284, t285⟩ : S25) (Kd.N_reads' (Kd.N_mono (ok' := (fun k_ => some k_ ≠ (v272 : Value).ownBlock ∧ some k_ ≠ (.slice Ao15 t277.length co15 : Value).ownBlock)) (HO287.out) (fun k_ hk => ⟨hk.1, hk.2⟩))).2.1 (Kd.N_F (Kd.N_mono (ok' := (fun k_ => some k_ ≠ (v272 : Value).ownBlock ∧ some k_ ≠ (.slice Ao15 t277.length co15 : Value).ownBlock)) (HO287.out) (fun k_ hk => ⟨hk.1, hk.2⟩))))) (Reps.none _ _))); intro v289 w19 ho20 hb hg_ hnew_; clear hg_ hnew_; (first | rw [← Ny288.out] at ho20 | (simp only [Int.reduceToNat] at ho20; rw [← Ny288.out] at ho20)); have n0_ := Aside0.mk (Kd.R_below (by (with_reducible repeat (first | apply Kd.R_alloc | apply Kd.R_drewN | apply Kd.R_drew)); exact HO273.out) hb); have n1_ := Aside0.mk (Kd.N_elder' (by (with_reducible repeat (first | apply Kd.N_alloc | apply Kd.N_drewN | apply Kd.N_drew)); exact HO279.out) (by first | exact Kd.N_base ho20 | exact Kd.N_base (Kd.R_N ho20)) hb); have n2_ := Aside0.mk (Kd.N_lower ho20 (below_size (by repeat (first | (with_reducible first | exact HB.out | apply below_alloc | apply pw_below_drewN | apply below_drew1) | exact HB.out)))); have n3_ := Aside0.mk (below_step (by repeat (first | (with_reducible first | exact HB.out | apply below_alloc | apply pw_below_drewN | apply below_drew1) | exact HB.out)) hb); clear HO273; clear HO279; clear HB; clear HO287; have HO273 := n0_; have HO279 := n1_; have HO290 := n2_; have HB := n3_; clear n0_ n1_ n2_ n3_; clear hb ho20; obtain ⟨Ao21, co21, eo21⟩ := Kd.N_slice HO290.out; subst eo21) | ((with_reducible refine gate_callee (f := 19) rfl ?_); refine goesL_ (some 29) rfl rfl Try.func19 (by kernel_rfl) rfl #[.slice Ao21 y288.length co21] rfl (by (try simp only [List.map_toArray, List.map_cons, List.map_nil]); first | done | rfl | (simp only [List.length_drop, List.length_take]; rfl)) ?_; (with_reducible refine (canon_List.calls (fun k_ => (some k_ ≠ (v272 : Value).ownBlock ∧ some k_ ≠ (.slice Ao15 t277.length co15 : Value).ownBlock)) _ _ y288 t291 t292 t293 t294 _ ?side1 A8.out).mono ?_); (case side1 => exact Kd.N_V (HO290.out)); rintro e w22 ⟨v295, rfl, ho0, hb⟩; refine ⟨_, rfl, ?_⟩; have n0_ := Aside0.mk (Kd.R_below (by (with_reducible repeat (first | apply Kd.R_alloc | apply Kd.R_drewN | apply Kd.R_drew)); exact HO273.out) hb); have n1_ := Aside0.mk (Kd.N_below (by (with_reducible repeat (first | apply Kd.N_alloc | apply Kd.N_drewN | apply Kd.N_drew)); exact HO279.out) hb); have n2_ := Aside0.mk (Kd.N_below (by (with_reducible repeat (first | apply Kd.N_alloc | apply Kd.N_drewN | apply Kd.N_drew)); exact HO290.out) hb); have n3_ := Aside0.mk (Kd.V_lower (Kd.V_mono (ok' := fun k_ => some k_ ≠ (v272 : Value).ownBlock ∧ some k_ ≠ (.slice Ao15 t277.length co15 : Value).ownBlock) ho0 (fun k_ hk_ => ⟨Or.elim hk_ (fun hs_ => hs_.1) (fun hn_ => (Kd.fresh' (Kd.R_lt (by (with_reducible repeat (first | apply Kd.R_alloc | apply Kd.R_drewN | apply Kd.R_drew)); exact HO273.out)) k_ hn_)), Or.elim hk_ (fun hs_ => hs_.2) (fun hn_ => (Kd.fresh' (Kd.N_lt (by (with_reducible repeat (first | apply Kd.N_alloc | apply Kd.N_drewN | apply Kd.N_drew)); exact HO279.out)) k_ hn_))⟩)) (below_size (by repeat (first | (with_reducible first | exact HB.out | apply below_alloc | apply pw_below_drewN | apply below_drew1) | exact HB.out)))); have n4_ := Aside0.mk (below_step (by repeat (first | (with_reducible first | exact HB.out | apply below_alloc | apply pw_below_drewN | apply below_drew1) | exact HB.out)) hb); clear HO273; clear HO279; clear HO290; clear HB; have HO273 := n0_; have HO279 := n1_; have HO290 := n2_; have HO296 := n3_; have HB := n4_; clear n0_ n1_ n2_ n3_ n4_; (try clear hb); (try clear hb2); (try clear hk); (try clear hi); (try clear ho0); obtain ⟨Ao23, co23, eo23⟩ := Kd.V_slice HO296.out; subst eo23) | ((with_reducible refine gate_callee (f := 14) rfl ?_); refine goesL_ (some 30) rfl rfl Try.func14 (by kernel_rfl) rfl #[.agg #[.int .i64 t291, .int .i64 t292, .string t293, .slice Ao23 t294.length co23]] rfl (by (try simp only [List.map_toArray, List.map_cons, List.map_nil]); first | done | rfl | (simp only [List.length_drop, List.length_take]; rfl)) ?_; (with_reducible refine (canon_Encode.calls t291 t292 t293 _ _ t294 t297 t298 _ ?side1 ?side2 A9.out).mono ?_); (case side1 => repeat (first | exact (Kd.V_reads' HO296.out).2.2 | (with_reducible refine Kd.C_alloc ?_ _) | (with_reducible refine Kd.C_drewN ?_ _) | (with_reducible refine Kd.C_drew ?_))); (case side2 => exact (Kd.V_reads' HO296.out).2.1); rintro e w24 ⟨rfl, hb⟩; refine ⟨_, rfl, ?_⟩; have n0_ := Aside0.mk (Kd.R_below (by (with_reducible repeat (first | apply Kd.R_alloc | apply Kd.R_drewN | apply Kd.R_drew)); exact HO273.out) hb); have n1_ := Aside0.mk (Kd.N_below (by (with_reducible repeat (first | apply Kd.N_alloc | apply Kd.N_drewN | apply Kd.N_drew)); exact HO279.out) hb); have n2_ := Aside0.mk (Kd.N_below (by (with_reducible repeat (first | apply Kd.N_alloc | apply Kd.N_drewN | apply Kd.N_drew)); exact HO290.out) hb); have n3_ := Aside0.mk (Kd.V_below (by (with_reducible repeat (first | apply Kd.V_alloc | apply Kd.V_drewN | apply Kd.V_drew)); exact HO296.out) hb); have n4_ := Aside0.mk (below_step (by repeat (first | (with_reducible first | exact HB.out | apply below_alloc | apply pw_below_drewN | apply below_drew1) | exact HB.out)) hb); clear HO273; clear HO279; clear HO290; clear HO296; clear HB; have HO273 := n0_; have HO279 := n1_; have HO290 := n2_; have HO296 := n3_; have HB := n4_; clear n0_ n1_ n2_ n3_ n4_; (try clear hb); (try clear hb2); (try clear hk); (try clear hi)))
      (try simp only [Act.put, List.setIfInBounds_toArray, List.set_cons_zero, List.set_cons_succ])
      go_cut [8] (fun v8 wc => ∃ (kq : Nat) (x8_9 : Int), v8 = .int .i64 x8_9 ∧ Aside0 (lockboxlaw02_CanonLong.j0 kq ji2 (strOfNums y271) t280 t281 t297 t298 x8_9 = some r) ∧ Aside0 (kq ≤ k) ∧ Aside0 (Below w.heap.size w wc))
      case first =>
        have H := HC10.out
        clear HC10
        by_cases c25 : (ji2) > 65535
        · rw [if_pos c25] at H
          have c25b0 : decide (65535 < (ji2)) = true := decide_eq_true c25
          clear c25
          (first | rw [c25b0] | (simp only [i64_w, i32_w]; rw [c25b0]) | skip)
          have H' := Aside0.mk H
          clear H
          go_wp2
          go_meet
          case rel => exact ⟨_, (5), (by first | rfl | (simp; done) | (simp [*]; done)), H', ⟨by first | omega | exact Nat.le_refl _⟩, ⟨by repeat (first | (with_reducible first | exact HB.out | apply below_alloc | apply pw_below_drewN | apply below_drew1) | exact HB.out)⟩⟩
        · rw [if_neg c25] at H
          have c25b0 : decide (65535 < (ji2)) = false := decide_eq_false c25
          clear c25
          (first | rw [c25b0] | (simp only [i64_w, i32_w]; rw [c25b0]) | skip)
          have H' := Aside0.mk H
          clear H
          go_wp2
          go_meet
          case rel => exact ⟨_, (4), (by first | rfl | (simp; done) | (simp [*]; done)), H', ⟨by first | omega | exact Nat.le_refl _⟩, ⟨by repeat (first | (with_reducible first | exact HB.out | apply below_alloc | apply pw_below_drewN | apply below_drew1) | exact HB.out)⟩⟩
      case rest =>
        clear HC10
        try clear c1
        try clear hcv1
        try clear c2
        try clear p2
        try clear c3
        try clear c3b0
        try clear c3b1
        try clear c4
        try clear c4b0
        try clear c4b1
        try clear c5
        try clear p6
        try clear hcv13
        try clear c14
        try clear c18
        try clear c19
        try clear c25
        try clear c25b0
        obtain ⟨kq, x8_9, rfl, HA, HJ9, HB⟩ := hcut
        cases kq with
        | zero => exact absurd HA.out (by simp [lockboxlaw02_CanonLong.j0])
        | succ kj9 =>
          have H := HA.out
          clear HA
          simp only [lockboxlaw02_CanonLong.j0] at H
          have HC26 := Aside0.mk H
          clear H
          go_upto_region 8 with (fail)
          go_cut [55] (fun v55 wc => ∃ (kq : Nat) (x55_25 : Bool), v55 = .bool x55_25 ∧ Aside0 (lockboxlaw02_CanonLong.j1 kq ji2 (strOfNums y271) t280 t281 t297 t298 x8_9 x55_25 = some r) ∧ Aside0 (kq ≤ kj9) ∧ Aside0 (Below w.heap.size w wc))
          case first =>
            have H := HC26.out
            clear HC26
            replace H := Option.bind_eq_some_iff.mp H
            obtain ⟨t299, A270, H⟩ := H
            replace H : (if t299 = true then (if ((t281 == 0) != (decide ((wrap64 (ji2 + x8_9)) ≤ 65536))) = true then (lockboxlaw02_CanonLong.j1 kj9 ji2 (strOfNums y271) t280 t281 t297 t298 x8_9 true) else (lockboxlaw02_CanonLong.j1 kj9 ji2 (strOfNums y271) t280 t281 t297 t298 x8_9 ((t298 == 0) != (decide ((wrap64 ((wrap64 (ji2 + x8_9)) + 3)) ≤ 65536))))) else (lockboxlaw02_CanonLong.j1 kj9 ji2 (strOfNums y271) t280 t281 t297 t298 x8_9 true)) = some r := H
            have A27 := Aside0.mk A270
            clear A270
            by_cases c28 : t299 = true
            · subst c28
              have H1 : (if ((t281 == 0) != (decide ((wrap64 (ji2 + x8_9)) ≤ 65536))) = true then (lockboxlaw02_CanonLong.j1 kj9 ji2 (strOfNums y271) t280 t281 t297 t298 x8_9 true) else (lockboxlaw02_CanonLong.j1 kj9 ji2 (strOfNums y271) t280 t281 t297 t298 x8_9 ((t298 == 0) != (decide ((wrap64 ((wrap64 (ji2 + x8_9)) + 3)) ≤ 65536))))) = some r := by rw [if_pos rfl] at H; exact H
              clear H
              have H := H1
              clear H1
              by_cases c29 : ((t281 == 0) != (decide ((wrap64 (ji2 + x8_9)) ≤ 65536))) = true
              · rw [if_pos c29] at H
                have c29b0 : ((t281 == 0) != (decide ((wrap64 (ji2 + x8_9)) ≤ 65536))) = true := c29
                (try (have c29b1 : decide ((t281 == 0) = (decide ((wrap64 (ji2 + x8_9)) ≤ 65536))) = false := by simpa using c29))
                (try (have c29b2 : ((t281 == 0) == (decide ((wrap64 (ji2 + x8_9)) ≤ 65536))) = false := by simpa using c29))
                (try (have c29b3 : ¬ ((t281 == 0) = (decide ((wrap64 (ji2 + x8_9)) ≤ 65536))) := by simpa using c29))
                clear c29
                (first | rw [c29b0] | (simp only [i64_w, i32_w]; rw [c29b0]) | skip)
                have H' := Aside0.mk H
                clear H
                go_wp2_with (first | ((with_reducible refine gate_callee (f := 12) rfl ?_); refine goesL_ (some 35) rfl rfl Try.func12 (by kernel_rfl) rfl #[] rfl (by (try simp only [List.map_toArray, List.map_cons, List.map_nil]); first | done | rfl | (simp only [List.length_drop, List.length_take]; rfl)) ?_; (with_reducible refine (lockboxlaw02_awake.calls kj9  true _ A27.out).mono ?_); rintro e w30 ⟨rfl, hb⟩; refine ⟨_, rfl, ?_⟩; have n0_ := Aside0.mk (below_step (by repeat (first | (with_reducible first | exact HB.out | apply below_alloc | apply pw_below_drewN | apply below_drew1) | exact HB.out)) hb); clear HB; have HB := n0_; clear n0_; (try clear hb); (try clear hb2); (try clear hk); (try clear hi)))
                go_meet
                case rel => exact ⟨_, (true), (by first | rfl | (simp; done) | (simp [*]; done)), H', ⟨by have := HJ9.out; first | omega | exact Nat.le_refl _⟩, ⟨by repeat (first | (with_reducible first | exact HB.out | apply below_alloc | apply pw_below_drewN | apply below_drew1) | exact HB.out)⟩⟩
              · rw [if_neg c29] at H
                have c29b0 : ((t281 == 0) != (decide ((wrap64 (ji2 + x8_9)) ≤ 65536))) = false := by simpa using c29
                (try (have c29b1 : decide ((t281 == 0) = (decide ((wrap64 (ji2 + x8_9)) ≤ 65536))) = true := by simpa using c29))
                (try (have c29b2 : ((t281 == 0) == (decide ((wrap64 (ji2 + x8_9)) ≤ 65536))) = true := by simpa using c29))
                clear c29
                (first | rw [c29b0] | (simp only [i64_w, i32_w]; rw [c29b0]) | skip)
                have H' := Aside0.mk H
                clear H
                go_wp2_with (first | ((with_reducible refine gate_callee (f := 12) rfl ?_); refine goesL_ (some 35) rfl rfl Try.func12 (by kernel_rfl) rfl #[] rfl (by (try simp only [List.map_toArray, List.map_cons, List.map_nil]); first | done | rfl | (simp only [List.length_drop, List.length_take]; rfl)) ?_; (with_reducible refine (lockboxlaw02_awake.calls kj9  true _ A27.out).mono ?_); rintro e w31 ⟨rfl, hb⟩; refine ⟨_, rfl, ?_⟩; have n0_ := Aside0.mk (below_step (by repeat (first | (with_reducible first | exact HB.out | apply below_alloc | apply pw_below_drewN | apply below_drew1) | exact HB.out)) hb); clear HB; have HB := n0_; clear n0_; (try clear hb); (try clear hb2); (try clear hk); (try clear hi)))
                go_meet
                case rel => exact ⟨_, (((t298 == 0) != (decide ((wrap64 ((wrap64 (ji2 + x8_9)) + 3)) ≤ 65536)))), (by first | rfl | (simp; done) | (simp only [← hji2] <;> (first | rfl | simp)) | (simp [*]; done)), H', ⟨by have := HJ9.out; first | omega | exact Nat.le_refl _⟩, ⟨by repeat (first | (with_reducible first | exact HB.out | apply below_alloc | apply pw_below_drewN | apply below_drew1) | exact HB.out)⟩⟩
            · replace c28 := Bool.eq_false_iff.mpr c28
              subst c28
              have H1 : (lockboxlaw02_CanonLong.j1 kj9 ji2 (strOfNums y271) t280 t281 t297 t298 x8_9 true) = some r := by rw [if_neg (show ¬ (false = true) by decide)] at H; exact H
              clear H
              have H := H1
              clear H1
              have H' := Aside0.mk H
              clear H
              go_wp2_with (first | ((with_reducible refine gate_callee (f := 12) rfl ?_); refine goesL_ (some 35) rfl rfl Try.func12 (by kernel_rfl) rfl #[] rfl (by (try simp only [List.map_toArray, List.map_cons, List.map_nil]); first | done | rfl | (simp only [List.length_drop, List.length_take]; rfl)) ?_; (with_reducible refine (lockboxlaw02_awake.calls kj9  false _ A27.out).mono ?_); rintro e w32 ⟨rfl, hb⟩; refine ⟨_, rfl, ?_⟩; have n0_ := Aside0.mk (below_step (by repeat (first | (with_reducible first | exact HB.out | apply below_alloc | apply pw_below_drewN | apply below_drew1) | exact HB.out)) hb); clear HB; have HB := n0_; clear n0_; (try clear hb); (try clear hb2); (try clear hk); (try clear hi)))
              go_meet
              case rel => exact ⟨_, (true), (by first | rfl | (simp; done) | (simp [*]; done)), H', ⟨by have := HJ9.out; first | omega | exact Nat.le_refl _⟩, ⟨by repeat (first | (with_reducible first | exact HB.out | apply below_alloc | apply pw_below_drewN | apply below_drew1) | exact HB.out)⟩⟩
          case rest =>
            clear HC26
            try clear c1
            try clear hcv1
            try clear c2
            try clear p2
            try clear c3
            try clear c3b0
            try clear c3b1
            try clear c4
            try clear c4b0
            try clear c4b1
            try clear c5
            try clear p6
            try clear c12
            try clear hcv13
            try clear c14
            try clear c18
            try clear c19
            try clear c25
            try clear c25b0
            try clear c28
            try clear c29
            try clear c29b0
            try clear c29b1
            try clear c29b2
            try clear p2
            try clear p6
            obtain ⟨kq, x55_25, rfl, HA, HJ25, HB⟩ := hcut
            cases kq with
            | zero => exact absurd HA.out (by simp [lockboxlaw02_CanonLong.j1])
            | succ kj25 =>
              have H := HA.out
              clear HA
              simp only [lockboxlaw02_CanonLong.j1] at H
              by_cases c33 : x55_25 = true
              · subst c33
                have H1 : (some false) = some r := by rw [if_pos rfl] at H; exact H
                clear H
                have H := H1
                clear H1
                obtain rfl := Option.some.inj H
                go_wp2
                go_ret
                exact ⟨by first | rfl | (simp [errW_none, errW_some] <;> rfl) | (simp only [← hji2]; first | rfl | (simp [errW_none, errW_some] <;> rfl)) | (simp [*, errW_none, errW_some] <;> rfl), by repeat (first | (with_reducible first | exact HB.out | apply below_alloc | apply pw_below_drewN | apply below_drew1) | exact HB.out)⟩
              · replace c33 := Bool.eq_false_iff.mpr c33
                subst c33
                have H1 : (if t281 = 0 then ((canon_Decode.f kj25 t280).bind fun bt300 => (if bt300.2.2.2.2 = 0 then (if bt300.2.2.1.toList = (strOfNums y271).toList then (if t298 = 0 then (some ((t297.size : Int) == (wrap64 ((wrap64 (ji2 + x8_9)) + 3)))) else (if t298 = 2 then (some true) else (some false))) else (some false)) else (some false))) else (if t281 = 2 then (if t298 = 0 then (some ((t297.size : Int) == (wrap64 ((wrap64 (ji2 + x8_9)) + 3)))) else (if t298 = 2 then (some true) else (some false))) else (some false))) = some r := by rw [if_neg (show ¬ (false = true) by decide)] at H; exact H
                clear H
                have H := H1
                clear H1
                by_cases c34 : t281 = 0
                · rw [if_pos c34] at H
                  have c34b0 : (t281 == 0) = true := beq_iff_eq.mpr c34
                  have c34b1 : (t281 != 0) = false := bne_eq_false_iff_eq.mpr c34
                  clear c34
                  replace H := Option.bind_eq_some_iff.mp H
                  obtain ⟨⟨t300, t301, t302, t303, t306⟩, A350, H⟩ := H
                  replace H : (if t306 = 0 then (if t302.toList = (strOfNums y271).toList then (if t298 = 0 then (some ((t297.size : Int) == (wrap64 ((wrap64 (ji2 + x8_9)) + 3)))) else (if t298 = 2 then (some true) else (some false))) else (some false)) else (some false)) = some r := H
                  have A35 := Aside0.mk A350
                  clear A350
                  by_cases c36 : t306 = 0
                  · rw [if_pos c36] at H
                    have c36b0 : (t306 == 0) = true := beq_iff_eq.mpr c36
                    have c36b1 : (t306 != 0) = false := bne_eq_false_iff_eq.mpr c36
                    clear c36
                    by_cases c37 : t302.toList = (strOfNums y271).toList
                    · rw [if_pos c37] at H
                      have c37b0 : (t302.toList == (strOfNums y271).toList) = true := beq_iff_eq.mpr c37
                      have c37b1 : (t302.toList != (strOfNums y271).toList) = false := bne_eq_false_iff_eq.mpr c37
                      clear c37
                      by_cases c38 : t298 = 0
                      · rw [if_pos c38] at H
                        have c38b0 : (t298 == 0) = true := beq_iff_eq.mpr c38
                        have c38b1 : (t298 != 0) = false := bne_eq_false_iff_eq.mpr c38
                        clear c38
                        obtain rfl := Option.some.inj H
                        go_wp2_with (first | ((with_reducible refine gate_callee (f := 17) rfl ?_); refine goesL_ (some 60) rfl rfl Try.func17 (by kernel_rfl) rfl #[.string t280] rfl (by (try simp only [List.map_toArray, List.map_cons, List.map_nil]); first | done | rfl | (simp only [List.length_drop, List.length_take]; rfl)) ?_; (with_reducible refine (canon_Decode.calls kj25 t280 t300 t301 t302 t303 t306 _ A35.out).mono ?_); rintro e w39 ⟨v304, rfl, ho0, hb⟩; refine ⟨_, rfl, ?_⟩; have n0_ := Aside0.mk (Kd.N_lower (Kd.N_mono (ok' := fun k_ => True) (Kd.R_N (Kd.R_bound ho0)) (fun k_ hk_ => trivial)) (below_size (by repeat (first | (with_reducible first | exact HB.out | apply below_alloc | apply pw_below_drewN | apply below_drew1) | exact HB.out)))); have n1_ := Aside0.mk (below_step (by repeat (first | (with_reducible first | exact HB.out | apply below_alloc | apply pw_below_drewN | apply below_drew1) | exact HB.out)) hb); clear HB; have HO305 := n0_; have HB := n1_; clear n0_ n1_; (try clear hb); (try clear hb2); (try clear hk); (try clear hi); (try clear ho0)) | ((with_reducible refine gate_dst (N := 9) rfl ?_); (try (refine gate_guard (by rfl) ?_; dsimp only)); refine box_event ?hg (N := 9) ?hd (cs := #[.int .i64 0, .int .i64 0, .string (⟨#[]⟩ : ByteArray), .slice none 0 0]) (t := 25) ?hr ?_; (case hd => rfl); (case hg => rfl); (case hr => first | (go_simp; done) | (go_simp; rfl)); intro gb307 hg w40 hbox hb; have n0_ := Aside0.mk (Kd.N_below (Kd.N_elderB (by (with_reducible repeat (first | apply Kd.N_alloc | apply Kd.N_drewN | apply Kd.N_drew)); exact HO305.out) gb307 (Nat.le_of_eq hg.symm)) hb); have n1_ := Aside0.mk (below_step (by repeat (first | (with_reducible first | exact HB.out | apply below_alloc | apply pw_below_drewN | apply below_drew1) | exact HB.out)) hb); have n2_ := Aside0.mk (hbox); have n3_ := Aside0.mk ((by rw [hg]; exact (below_size (by repeat (first | (with_reducible first | exact HB.out | apply below_alloc | apply pw_below_drewN | apply below_drew1) | exact HB.out))) : w.heap.size ≤ gb307)); have n4_ := Aside0.mk ((by rw [hg]; exact (below_size (by repeat (first | (with_reducible first | exact HB.out | apply below_alloc | apply pw_below_drewN | apply below_drew1) | exact HB.out))) : w.heap.size ≤ gb307)); clear HO305; clear HB; have HO305 := n0_; have HB := n1_; have BK307 := n2_; have GW307 := n3_; have GE307 := n4_; clear n0_ n1_ n2_ n3_ n4_; clear hb hbox hg; have hcz41_0 : w40.cell? ⟨gb307, 0, none⟩ = some (.int .i64 0) := (blk_cell BK307.out 0).trans rfl; have hcz41_1 : w40.cell? ⟨gb307, 1, none⟩ = some (.int .i64 0) := (blk_cell BK307.out 1).trans rfl; have hcz41_2 : w40.cell? ⟨gb307, 2, none⟩ = some (.string (⟨#[]⟩ : ByteArray)) := (blk_cell BK307.out 2).trans rfl; have hcz41_3 : w40.cell? ⟨gb307, 3, none⟩ = some (.slice none 0 0) := (blk_cell BK307.out 3).trans rfl; have hfz41_0 := blk_frozen BK307.out 0; have hfz41_1 := blk_frozen BK307.out 1; have hfz41_2 := blk_frozen BK307.out 2; have hfz41_3 := blk_frozen BK307.out 3; obtain ⟨Ao42, co42, eo42⟩ := Kd.N_slice HO305.out; subst eo42))
                        go_ret
                        exact ⟨by first | rfl | (simp [errW_none, errW_some] <;> rfl) | (simp only [← hji2]; first | rfl | (simp [errW_none, errW_some] <;> rfl)) | (simp [*, errW_none, errW_some] <;> rfl), by repeat (first | (with_reducible first | exact HB.out | apply below_alloc | apply pw_below_drewN | apply below_drew1 | refine below_set ?_ GE307.out) | exact HB.out)⟩
                      · rw [if_neg c38] at H
                        have c38b0 : (t298 == 0) = false := beq_eq_false_iff_ne.mpr c38
                        have c38b1 : (t298 != 0) = true := bne_iff_ne.mpr c38
                        by_cases c43 : t298 = 2
                        · rw [if_pos c43] at H
                          have c43b0 : (t298 == 2) = true := beq_iff_eq.mpr c43
                          have c43b1 : (t298 != 2) = false := bne_eq_false_iff_eq.mpr c43
                          clear c43
                          obtain rfl := Option.some.inj H
                          go_wp2_with (first | ((with_reducible refine gate_callee (f := 17) rfl ?_); refine goesL_ (some 60) rfl rfl Try.func17 (by kernel_rfl) rfl #[.string t280] rfl (by (try simp only [List.map_toArray, List.map_cons, List.map_nil]); first | done | rfl | (simp only [List.length_drop, List.length_take]; rfl)) ?_; (with_reducible refine (canon_Decode.calls kj25 t280 t300 t301 t302 t303 t306 _ A35.out).mono ?_); rintro e w44 ⟨v304, rfl, ho0, hb⟩; refine ⟨_, rfl, ?_⟩; have n0_ := Aside0.mk (Kd.N_lower (Kd.N_mono (ok' := fun k_ => True) (Kd.R_N (Kd.R_bound ho0)) (fun k_ hk_ => trivial)) (below_size (by repeat (first | (with_reducible first | exact HB.out | apply below_alloc | apply pw_below_drewN | apply below_drew1) | exact HB.out)))); have n1_ := Aside0.mk (below_step (by repeat (first | (with_reducible first | exact HB.out | apply below_alloc | apply pw_below_drewN | apply below_drew1) | exact HB.out)) hb); clear HB; have HO305 := n0_; have HB := n1_; clear n0_ n1_; (try clear hb); (try clear hb2); (try clear hk); (try clear hi); (try clear ho0)) | ((with_reducible refine gate_dst (N := 9) rfl ?_); (try (refine gate_guard (by rfl) ?_; dsimp only)); refine box_event ?hg (N := 9) ?hd (cs := #[.int .i64 0, .int .i64 0, .string (⟨#[]⟩ : ByteArray), .slice none 0 0]) (t := 25) ?hr ?_; (case hd => rfl); (case hg => rfl); (case hr => first | (go_simp; done) | (go_simp; rfl)); intro gb307 hg w45 hbox hb; have n0_ := Aside0.mk (Kd.N_below (Kd.N_elderB (by (with_reducible repeat (first | apply Kd.N_alloc | apply Kd.N_drewN | apply Kd.N_drew)); exact HO305.out) gb307 (Nat.le_of_eq hg.symm)) hb); have n1_ := Aside0.mk (below_step (by repeat (first | (with_reducible first | exact HB.out | apply below_alloc | apply pw_below_drewN | apply below_drew1) | exact HB.out)) hb); have n2_ := Aside0.mk (hbox); have n3_ := Aside0.mk ((by rw [hg]; exact (below_size (by repeat (first | (with_reducible first | exact HB.out | apply below_alloc | apply pw_below_drewN | apply below_drew1) | exact HB.out))) : w.heap.size ≤ gb307)); have n4_ := Aside0.mk ((by rw [hg]; exact (below_size (by repeat (first | (with_reducible first | exact HB.out | apply below_alloc | apply pw_below_drewN | apply below_drew1) | exact HB.out))) : w.heap.size ≤ gb307)); clear HO305; clear HB; have HO305 := n0_; have HB := n1_; have BK307 := n2_; have GW307 := n3_; have GE307 := n4_; clear n0_ n1_ n2_ n3_ n4_; clear hb hbox hg; have hcz46_0 : w45.cell? ⟨gb307, 0, none⟩ = some (.int .i64 0) := (blk_cell BK307.out 0).trans rfl; have hcz46_1 : w45.cell? ⟨gb307, 1, none⟩ = some (.int .i64 0) := (blk_cell BK307.out 1).trans rfl; have hcz46_2 : w45.cell? ⟨gb307, 2, none⟩ = some (.string (⟨#[]⟩ : ByteArray)) := (blk_cell BK307.out 2).trans rfl; have hcz46_3 : w45.cell? ⟨gb307, 3, none⟩ = some (.slice none 0 0) := (blk_cell BK307.out 3).trans rfl; have hfz46_0 := blk_frozen BK307.out 0; have hfz46_1 := blk_frozen BK307.out 1; have hfz46_2 := blk_frozen BK307.out 2; have hfz46_3 := blk_frozen BK307.out 3; obtain ⟨Ao47, co47, eo47⟩ := Kd.N_slice HO305.out; subst eo47))
                          go_ret
                          exact ⟨by first | rfl | (simp [errW_none, errW_some] <;> rfl) | (simp only [← hji2]; first | rfl | (simp [errW_none, errW_some] <;> rfl)) | (simp [*, errW_none, errW_some] <;> rfl), by repeat (first | (with_reducible first | exact HB.out | apply below_alloc | apply pw_below_drewN | apply below_drew1 | refine below_set ?_ GE307.out) | exact HB.out)⟩
                        · rw [if_neg c43] at H
                          have c43b0 : (t298 == 2) = false := beq_eq_false_iff_ne.mpr c43
                          have c43b1 : (t298 != 2) = true := bne_iff_ne.mpr c43
                          obtain rfl := Option.some.inj H
                          go_wp2_with (first | ((with_reducible refine gate_callee (f := 17) rfl ?_); refine goesL_ (some 60) rfl rfl Try.func17 (by kernel_rfl) rfl #[.string t280] rfl (by (try simp only [List.map_toArray, List.map_cons, List.map_nil]); first | done | rfl | (simp only [List.length_drop, List.length_take]; rfl)) ?_; (with_reducible refine (canon_Decode.calls kj25 t280 t300 t301 t302 t303 t306 _ A35.out).mono ?_); rintro e w48 ⟨v304, rfl, ho0, hb⟩; refine ⟨_, rfl, ?_⟩; have n0_ := Aside0.mk (Kd.N_lower (Kd.N_mono (ok' := fun k_ => True) (Kd.R_N (Kd.R_bound ho0)) (fun k_ hk_ => trivial)) (below_size (by repeat (first | (with_reducible first | exact HB.out | apply below_alloc | apply pw_below_drewN | apply below_drew1) | exact HB.out)))); have n1_ := Aside0.mk (below_step (by repeat (first | (with_reducible first | exact HB.out | apply below_alloc | apply pw_below_drewN | apply below_drew1) | exact HB.out)) hb); clear HB; have HO305 := n0_; have HB := n1_; clear n0_ n1_; (try clear hb); (try clear hb2); (try clear hk); (try clear hi); (try clear ho0)) | ((with_reducible refine gate_dst (N := 9) rfl ?_); (try (refine gate_guard (by rfl) ?_; dsimp only)); refine box_event ?hg (N := 9) ?hd (cs := #[.int .i64 0, .int .i64 0, .string (⟨#[]⟩ : ByteArray), .slice none 0 0]) (t := 25) ?hr ?_; (case hd => rfl); (case hg => rfl); (case hr => first | (go_simp; done) | (go_simp; rfl)); intro gb307 hg w49 hbox hb; have n0_ := Aside0.mk (Kd.N_below (Kd.N_elderB (by (with_reducible repeat (first | apply Kd.N_alloc | apply Kd.N_drewN | apply Kd.N_drew)); exact HO305.out) gb307 (Nat.le_of_eq hg.symm)) hb); have n1_ := Aside0.mk (below_step (by repeat (first | (with_reducible first | exact HB.out | apply below_alloc | apply pw_below_drewN | apply below_drew1) | exact HB.out)) hb); have n2_ := Aside0.mk (hbox); have n3_ := Aside0.mk ((by rw [hg]; exact (below_size (by repeat (first | (with_reducible first | exact HB.out | apply below_alloc | apply pw_below_drewN | apply below_drew1) | exact HB.out))) : w.heap.size ≤ gb307)); have n4_ := Aside0.mk ((by rw [hg]; exact (below_size (by repeat (first | (with_reducible first | exact HB.out | apply below_alloc | apply pw_below_drewN | apply below_drew1) | exact HB.out))) : w.heap.size ≤ gb307)); clear HO305; clear HB; have HO305 := n0_; have HB := n1_; have BK307 := n2_; have GW307 := n3_; have GE307 := n4_; clear n0_ n1_ n2_ n3_ n4_; clear hb hbox hg; have hcz50_0 : w49.cell? ⟨gb307, 0, none⟩ = some (.int .i64 0) := (blk_cell BK307.out 0).trans rfl; have hcz50_1 : w49.cell? ⟨gb307, 1, none⟩ = some (.int .i64 0) := (blk_cell BK307.out 1).trans rfl; have hcz50_2 : w49.cell? ⟨gb307, 2, none⟩ = some (.string (⟨#[]⟩ : ByteArray)) := (blk_cell BK307.out 2).trans rfl; have hcz50_3 : w49.cell? ⟨gb307, 3, none⟩ = some (.slice none 0 0) := (blk_cell BK307.out 3).trans rfl; have hfz50_0 := blk_frozen BK307.out 0; have hfz50_1 := blk_frozen BK307.out 1; have hfz50_2 := blk_frozen BK307.out 2; have hfz50_3 := blk_frozen BK307.out 3; obtain ⟨Ao51, co51, eo51⟩ := Kd.N_slice HO305.out; subst eo51))
                          go_ret
                          exact ⟨by first | rfl | (simp [errW_none, errW_some] <;> rfl) | (simp only [← hji2]; first | rfl | (simp [errW_none, errW_some] <;> rfl)) | (simp [*, errW_none, errW_some] <;> rfl), by repeat (first | (with_reducible first | exact HB.out | apply below_alloc | apply pw_below_drewN | apply below_drew1 | refine below_set ?_ GE307.out) | exact HB.out)⟩
                    · rw [if_neg c37] at H
                      have c37b0 : (t302.toList == (strOfNums y271).toList) = false := beq_eq_false_iff_ne.mpr c37
                      have c37b1 : (t302.toList != (strOfNums y271).toList) = true := bne_iff_ne.mpr c37
                      obtain rfl := Option.some.inj H
                      go_wp2_with (first | ((with_reducible refine gate_callee (f := 17) rfl ?_); refine goesL_ (some 60) rfl rfl Try.func17 (by kernel_rfl) rfl #[.string t280] rfl (by (try simp only [List.map_toArray, List.map_cons, List.map_nil]); first | done | rfl | (simp only [List.length_drop, List.length_take]; rfl)) ?_; (with_reducible refine (canon_Decode.calls kj25 t280 t300 t301 t302 t303 t306 _ A35.out).mono ?_); rintro e w52 ⟨v304, rfl, ho0, hb⟩; refine ⟨_, rfl, ?_⟩; have n0_ := Aside0.mk (Kd.N_lower (Kd.N_mono (ok' := fun k_ => True) (Kd.R_N (Kd.R_bound ho0)) (fun k_ hk_ => trivial)) (below_size (by repeat (first | (with_reducible first | exact HB.out | apply below_alloc | apply pw_below_drewN | apply below_drew1) | exact HB.out)))); have n1_ := Aside0.mk (below_step (by repeat (first | (with_reducible first | exact HB.out | apply below_alloc | apply pw_below_drewN | apply below_drew1) | exact HB.out)) hb); clear HB; have HO305 := n0_; have HB := n1_; clear n0_ n1_; (try clear hb); (try clear hb2); (try clear hk); (try clear hi); (try clear ho0)) | ((with_reducible refine gate_dst (N := 9) rfl ?_); (try (refine gate_guard (by rfl) ?_; dsimp only)); refine box_event ?hg (N := 9) ?hd (cs := #[.int .i64 0, .int .i64 0, .string (⟨#[]⟩ : ByteArray), .slice none 0 0]) (t := 25) ?hr ?_; (case hd => rfl); (case hg => rfl); (case hr => first | (go_simp; done) | (go_simp; rfl)); intro gb307 hg w53 hbox hb; have n0_ := Aside0.mk (Kd.N_below (Kd.N_elderB (by (with_reducible repeat (first | apply Kd.N_alloc | apply Kd.N_drewN | apply Kd.N_drew)); exact HO305.out) gb307 (Nat.le_of_eq hg.symm)) hb); have n1_ := Aside0.mk (below_step (by repeat (first | (with_reducible first | exact HB.out | apply below_alloc | apply pw_below_drewN | apply below_drew1) | exact HB.out)) hb); have n2_ := Aside0.mk (hbox); have n3_ := Aside0.mk ((by rw [hg]; exact (below_size (by repeat (first | (with_reducible first | exact HB.out | apply below_alloc | apply pw_below_drewN | apply below_drew1) | exact HB.out))) : w.heap.size ≤ gb307)); have n4_ := Aside0.mk ((by rw [hg]; exact (below_size (by repeat (first | (with_reducible first | exact HB.out | apply below_alloc | apply pw_below_drewN | apply below_drew1) | exact HB.out))) : w.heap.size ≤ gb307)); clear HO305; clear HB; have HO305 := n0_; have HB := n1_; have BK307 := n2_; have GW307 := n3_; have GE307 := n4_; clear n0_ n1_ n2_ n3_ n4_; clear hb hbox hg; have hcz54_0 : w53.cell? ⟨gb307, 0, none⟩ = some (.int .i64 0) := (blk_cell BK307.out 0).trans rfl; have hcz54_1 : w53.cell? ⟨gb307, 1, none⟩ = some (.int .i64 0) := (blk_cell BK307.out 1).trans rfl; have hcz54_2 : w53.cell? ⟨gb307, 2, none⟩ = some (.string (⟨#[]⟩ : ByteArray)) := (blk_cell BK307.out 2).trans rfl; have hcz54_3 : w53.cell? ⟨gb307, 3, none⟩ = some (.slice none 0 0) := (blk_cell BK307.out 3).trans rfl; have hfz54_0 := blk_frozen BK307.out 0; have hfz54_1 := blk_frozen BK307.out 1; have hfz54_2 := blk_frozen BK307.out 2; have hfz54_3 := blk_frozen BK307.out 3; obtain ⟨Ao55, co55, eo55⟩ := Kd.N_slice HO305.out; subst eo55))
                      go_ret
                      exact ⟨by first | rfl | (simp [errW_none, errW_some] <;> rfl) | (simp only [← hji2]; first | rfl | (simp [errW_none, errW_some] <;> rfl)) | (simp [*, errW_none, errW_some] <;> rfl), by repeat (first | (with_reducible first | exact HB.out | apply below_alloc | apply pw_below_drewN | apply below_drew1 | refine below_set ?_ GE307.out) | exact HB.out)⟩
                  · rw [if_neg c36] at H
                    have c36b0 : (t306 == 0) = false := beq_eq_false_iff_ne.mpr c36
                    have c36b1 : (t306 != 0) = true := bne_iff_ne.mpr c36
                    obtain rfl := Option.some.inj H
                    go_wp2_with (first | ((with_reducible refine gate_callee (f := 17) rfl ?_); refine goesL_ (some 60) rfl rfl Try.func17 (by kernel_rfl) rfl #[.string t280] rfl (by (try simp only [List.map_toArray, List.map_cons, List.map_nil]); first | done | rfl | (simp only [List.length_drop, List.length_take]; rfl)) ?_; (with_reducible refine (canon_Decode.calls kj25 t280 t300 t301 t302 t303 t306 _ A35.out).mono ?_); rintro e w56 ⟨v304, rfl, ho0, hb⟩; refine ⟨_, rfl, ?_⟩; have n0_ := Aside0.mk (Kd.N_lower (Kd.N_mono (ok' := fun k_ => True) (Kd.R_N (Kd.R_bound ho0)) (fun k_ hk_ => trivial)) (below_size (by repeat (first | (with_reducible first | exact HB.out | apply below_alloc | apply pw_below_drewN | apply below_drew1) | exact HB.out)))); have n1_ := Aside0.mk (below_step (by repeat (first | (with_reducible first | exact HB.out | apply below_alloc | apply pw_below_drewN | apply below_drew1) | exact HB.out)) hb); clear HB; have HO305 := n0_; have HB := n1_; clear n0_ n1_; (try clear hb); (try clear hb2); (try clear hk); (try clear hi); (try clear ho0)) | ((with_reducible refine gate_dst (N := 9) rfl ?_); (try (refine gate_guard (by rfl) ?_; dsimp only)); refine box_event ?hg (N := 9) ?hd (cs := #[.int .i64 0, .int .i64 0, .string (⟨#[]⟩ : ByteArray), .slice none 0 0]) (t := 25) ?hr ?_; (case hd => rfl); (case hg => rfl); (case hr => first | (go_simp; done) | (go_simp; rfl)); intro gb307 hg w57 hbox hb; have n0_ := Aside0.mk (Kd.N_below (Kd.N_elderB (by (with_reducible repeat (first | apply Kd.N_alloc | apply Kd.N_drewN | apply Kd.N_drew)); exact HO305.out) gb307 (Nat.le_of_eq hg.symm)) hb); have n1_ := Aside0.mk (below_step (by repeat (first | (with_reducible first | exact HB.out | apply below_alloc | apply pw_below_drewN | apply below_drew1) | exact HB.out)) hb); have n2_ := Aside0.mk (hbox); have n3_ := Aside0.mk ((by rw [hg]; exact (below_size (by repeat (first | (with_reducible first | exact HB.out | apply below_alloc | apply pw_below_drewN | apply below_drew1) | exact HB.out))) : w.heap.size ≤ gb307)); have n4_ := Aside0.mk ((by rw [hg]; exact (below_size (by repeat (first | (with_reducible first | exact HB.out | apply below_alloc | apply pw_below_drewN | apply below_drew1) | exact HB.out))) : w.heap.size ≤ gb307)); clear HO305; clear HB; have HO305 := n0_; have HB := n1_; have BK307 := n2_; have GW307 := n3_; have GE307 := n4_; clear n0_ n1_ n2_ n3_ n4_; clear hb hbox hg; have hcz58_0 : w57.cell? ⟨gb307, 0, none⟩ = some (.int .i64 0) := (blk_cell BK307.out 0).trans rfl; have hcz58_1 : w57.cell? ⟨gb307, 1, none⟩ = some (.int .i64 0) := (blk_cell BK307.out 1).trans rfl; have hcz58_2 : w57.cell? ⟨gb307, 2, none⟩ = some (.string (⟨#[]⟩ : ByteArray)) := (blk_cell BK307.out 2).trans rfl; have hcz58_3 : w57.cell? ⟨gb307, 3, none⟩ = some (.slice none 0 0) := (blk_cell BK307.out 3).trans rfl; have hfz58_0 := blk_frozen BK307.out 0; have hfz58_1 := blk_frozen BK307.out 1; have hfz58_2 := blk_frozen BK307.out 2; have hfz58_3 := blk_frozen BK307.out 3; obtain ⟨Ao59, co59, eo59⟩ := Kd.N_slice HO305.out; subst eo59))
                    go_ret
                    exact ⟨by first | rfl | (simp [errW_none, errW_some] <;> rfl) | (simp only [← hji2]; first | rfl | (simp [errW_none, errW_some] <;> rfl)) | (simp [*, errW_none, errW_some] <;> rfl), by repeat (first | (with_reducible first | exact HB.out | apply below_alloc | apply pw_below_drewN | apply below_drew1 | refine below_set ?_ GE307.out) | exact HB.out)⟩
                · rw [if_neg c34] at H
                  have c34b0 : (t281 == 0) = false := beq_eq_false_iff_ne.mpr c34
                  have c34b1 : (t281 != 0) = true := bne_iff_ne.mpr c34
                  by_cases c60 : t281 = 2
                  · rw [if_pos c60] at H
                    have c60b0 : (t281 == 2) = true := beq_iff_eq.mpr c60
                    have c60b1 : (t281 != 2) = false := bne_eq_false_iff_eq.mpr c60
                    clear c60
                    by_cases c61 : t298 = 0
                    · rw [if_pos c61] at H
                      have c61b0 : (t298 == 0) = true := beq_iff_eq.mpr c61
                      have c61b1 : (t298 != 0) = false := bne_eq_false_iff_eq.mpr c61
                      clear c61
                      obtain rfl := Option.some.inj H
                      go_wp2
                      go_ret
                      exact ⟨by first | rfl | (simp [errW_none, errW_some] <;> rfl) | (simp only [← hji2]; first | rfl | (simp [errW_none, errW_some] <;> rfl)) | (simp [*, errW_none, errW_some] <;> rfl), by repeat (first | (with_reducible first | exact HB.out | apply below_alloc | apply pw_below_drewN | apply below_drew1) | exact HB.out)⟩
                    · rw [if_neg c61] at H
                      have c61b0 : (t298 == 0) = false := beq_eq_false_iff_ne.mpr c61
                      have c61b1 : (t298 != 0) = true := bne_iff_ne.mpr c61
                      by_cases c62 : t298 = 2
                      · rw [if_pos c62] at H
                        have c62b0 : (t298 == 2) = true := beq_iff_eq.mpr c62
                        have c62b1 : (t298 != 2) = false := bne_eq_false_iff_eq.mpr c62
                        clear c62
                        obtain rfl := Option.some.inj H
                        go_wp2
                        go_ret
                        exact ⟨by first | rfl | (simp [errW_none, errW_some] <;> rfl) | (simp only [← hji2]; first | rfl | (simp [errW_none, errW_some] <;> rfl)) | (simp [*, errW_none, errW_some] <;> rfl), by repeat (first | (with_reducible first | exact HB.out | apply below_alloc | apply pw_below_drewN | apply below_drew1) | exact HB.out)⟩
                      · rw [if_neg c62] at H
                        have c62b0 : (t298 == 2) = false := beq_eq_false_iff_ne.mpr c62
                        have c62b1 : (t298 != 2) = true := bne_iff_ne.mpr c62
                        obtain rfl := Option.some.inj H
                        go_wp2
                        go_ret
                        exact ⟨by first | rfl | (simp [errW_none, errW_some] <;> rfl) | (simp only [← hji2]; first | rfl | (simp [errW_none, errW_some] <;> rfl)) | (simp [*, errW_none, errW_some] <;> rfl), by repeat (first | (with_reducible first | exact HB.out | apply below_alloc | apply pw_below_drewN | apply below_drew1) | exact HB.out)⟩
                  · rw [if_neg c60] at H
                    have c60b0 : (t281 == 2) = false := beq_eq_false_iff_ne.mpr c60
                    have c60b1 : (t281 != 2) = true := bne_iff_ne.mpr c60
                    obtain rfl := Option.some.inj H
                    go_wp2
                    go_ret
                    exact ⟨by first | rfl | (simp [errW_none, errW_some] <;> rfl) | (simp only [← hji2]; first | rfl | (simp [errW_none, errW_some] <;> rfl)) | (simp [*, errW_none, errW_some] <;> rfl), by repeat (first | (with_reducible first | exact HB.out | apply below_alloc | apply pw_below_drewN | apply below_drew1) | exact HB.out)⟩
    · rw [if_neg c4] at H
      exact absurd H (by simp)
  · rw [if_neg c3] at H
    exact absurd H (by simp)

/-- THE ONE PURE STATEMENT of lockboxlaw02_CanonLong: yours. -/
def lockboxlaw02_CanonLong.Pure : Prop := ∀ (a0 : Int), (Lit.int .i64 a0).wf = true → ∃ k, lockboxlaw02_CanonLong.f k a0 = some true
theorem lockboxlaw02_CanonLong.walk (P : lockboxlaw02_CanonLong.Pure) (a0 : Int) (w : World) (w0 : (Lit.int .i64 a0).wf = true) :
    Calls Try.prog 5 #[.int .i64 a0] w fun e w' => e = .returned (.bool true) ∧ Below w.heap.size w w' := by
  obtain ⟨k, h⟩ := P a0 w0
  refine (lockboxlaw02_CanonLong.calls k a0 true w h).mono ?_
  rintro e w' ⟨rfl, hd⟩
  exact ⟨rfl, hd⟩

end Go.Proofs.Ytepmahdiiioceaa.Pr
