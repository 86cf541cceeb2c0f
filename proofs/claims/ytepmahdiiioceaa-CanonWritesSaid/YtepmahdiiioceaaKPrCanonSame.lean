import Derived.Test.YtepmahdiiioceaaKPr0
import Derived.RegionTactic
namespace Go.Proofs.Ytepmahdiiioceaa.Pr
open Go.RowKit Go.Proofs.YtepmahdiiioceaaW.PrintWords Go.Proofs.YtepmahdiiioceaaW.PrintLast Go.Proofs.YtepmahdiiioceaaW.PrintMore
attribute [local go_sem] max2_int min2_int max_two min_two max_three min_three max_four min_four   -- for this text's walks alone
set_option linter.unusedVariables false
set_option linter.unusedSimpArgs false

/-! ### canon_Same: function 23 -/
def canon_eqAll (g : S25 → S25 → Option Bool) : List S25 → List S25 → Option Bool
  | [], _ => some true
  | _ :: _, [] => none
  | x :: xs, y :: ys => (g x y).bind fun b => if b = true then canon_eqAll g xs ys else some false
def canon_Same.f : Nat → Int → Int → ByteArray → List S25 → Int → Int → ByteArray → List S25 → Option Bool
  | 0, _, _, _, _, _, _, _, _ => none
  | k + 1, a0, a1, a2, a3, b0, b1, b2, b3 => if a0 = b0 then (if a1 = b1 then (if a2 = b2 then (if a3.length = b3.length then canon_eqAll (fun x y => canon_Same.f k x.f0 x.f1 x.f2 x.f3 y.f0 y.f1 y.f2 y.f3) a3 b3 else some false) else some false) else some false) else some false
theorem canon_eqAll_le {g h : S25 → S25 → Option Bool} (hg : ∀ x y, LeO (g x y) (h x y)) : ∀ a b, LeO (canon_eqAll g a b) (canon_eqAll h a b)
  | [], _ => LeO.refl _
  | _ :: _, [] => LeO.refl _
  | x :: xs, y :: ys => by
    unfold canon_eqAll
    exact LeO.bind (hg x y) (fun b => LeO.ite (canon_eqAll_le hg xs ys) (LeO.refl _))
theorem canon_Same.mono_k : ∀ k a0 a1 a2 a3 b0 b1 b2 b3, LeO (canon_Same.f k a0 a1 a2 a3 b0 b1 b2 b3) (canon_Same.f (k + 1) a0 a1 a2 a3 b0 b1 b2 b3)
  | 0, _, _, _, _, _, _, _, _ => fun r h => by simp [canon_Same.f] at h
  | k + 1, a0, a1, a2, a3, b0, b1, b2, b3 => by
    rw [canon_Same.f, canon_Same.f]
    exact LeO.ite (LeO.ite (LeO.ite (LeO.ite (canon_eqAll_le (fun x y => canon_Same.mono_k k _ _ _ _ _ _ _ _) _ _) (LeO.refl _)) (LeO.refl _)) (LeO.refl _)) (LeO.refl _)
theorem canon_Same.mono : ∀ a0 a1 a2 a3 b0 b1 b2 b3 k, LeO (canon_Same.f k a0 a1 a2 a3 b0 b1 b2 b3) (canon_Same.f (k + 1) a0 a1 a2 a3 b0 b1 b2 b3) :=
  fun a0 a1 a2 a3 b0 b1 b2 b3 k => canon_Same.mono_k k a0 a1 a2 a3 b0 b1 b2 b3

def SameAt (k : Nat) : Prop := ∀ (a0_0 : Int) (a0_1 : Int) (a0_2 : ByteArray) (A0_3 : Option Addr) (c0_3 : Nat) (l0_3 : List S25) (a1_0 : Int) (a1_1 : Int) (a1_2 : ByteArray) (A1_3 : Option Addr) (c1_3 : Nat) (l1_3 : List S25) (r : Bool) (w : World),
    Kd.C k25 w A0_3 l0_3.length l0_3 → l0_3.length ≤ c0_3 → Kd.C k25 w A1_3 l1_3.length l1_3 → l1_3.length ≤ c1_3 → canon_Same.f k a0_0 a0_1 a0_2 l0_3 a1_0 a1_1 a1_2 l1_3 = some r →
    Calls Try.prog 23 #[.agg #[.int .i64 a0_0, .int .i64 a0_1, .string a0_2, .slice A0_3 l0_3.length c0_3], .agg #[.int .i64 a1_0, .int .i64 a1_1, .string a1_2, .slice A1_3 l1_3.length c1_3]] w fun e w' => e = .returned (.bool r) ∧ Below w.heap.size w w'

set_option maxHeartbeats 4000000 in
set_option maxRecDepth 100000 in
theorem canon_equal_calls (k : Nat) (IH : SameAt k) (A B : Option Addr) (c d : Nat) (l m : List S25) (r : Bool) (w : World) (hA : Kd.C k25 w A l.length l) (hB : Kd.C k25 w B m.length m) (hc : l.length ≤ c) (hd : m.length ≤ d)
    (hlen : l.length = m.length) (h : canon_eqAll (fun x y => canon_Same.f k x.f0 x.f1 x.f2 x.f3 y.f0 y.f1 y.f2 y.f3) l m = some r) :
    Calls Try.prog 47 #[.slice A l.length c, .slice B m.length d, .func (.func 23) #[] #[]] w fun e w' => e = .returned (.bool r) ∧ Below w.heap.size w w' := by
  have hu25 := Try.underlying25
  have hlm : l.length ≤ 9223372036854775807 := hA.2.1
  have HA := Aside0.mk hA
  have HBm := Aside0.mk hB
  have HI := Aside0.mk IH
  have H := Aside0.mk h
  clear hA hB IH h
  have hne : ((l.length : Int) != (m.length : Int)) = false := bne_eq_false_iff_eq.2 (by omega)
  have HN := Aside0.mk hlen
  clear hlen
  go_enter Try.func47, Try.ntmps47
  go_wp2
  clear hne
  go_loopw [7, 8, 9, 17] (fun v7 v8 v9 v17 wr => ∃ j : Nat, j ≤ l.length ∧ v17 = .int .i64 j ∧ Aside0 (canon_eqAll (fun x y => canon_Same.f k x.f0 x.f1 x.f2 x.f3 y.f0 y.f1 y.f2 y.f3) (l.drop j) (m.drop j) = some r) ∧ Aside0 (Below w.heap.size w wr)) (fun _ _ _ v17 _ => l.length - (intOf v17).toNat)
  case atStart => exact ⟨0, Nat.zero_le _, rfl, H, ⟨Below.refl _ _⟩⟩
  case round =>
    clear H
    obtain ⟨j, hj, rfl, H, HB⟩ := hrel
    by_cases hlt : j < l.length
    · have hltm : j < m.length := by have := HN.out; omega
      obtain ⟨ad, A3, c3, rfl, e0, e1, e2, e3, hl3, hr3⟩ := at_T25 (Kd.C_below HA.out HB.out) j (by omega) (by omega)
      obtain ⟨ad2, B3, d3, rfl, g0, g1, g2, g3, hm3, hs3⟩ := at_T25 (Kd.C_below HBm.out HB.out) j (by omega) (by omega)
      simp only [Int.toNat_natCast] at e0 e1 e2 e3 g0 g1 g2 g3
      have HY := Aside0.mk (show rd_T25 l j = l[j] by simp [rd_T25, hlt])
      have HZ := Aside0.mk (show rd_T25 m j = m[j] by simp [rd_T25, hltm])
      generalize rd_T25 l ↑j = y at *
      generalize rd_T25 m ↑j = z at *
      obtain ⟨y0, y1, y2, y3⟩ := y
      obtain ⟨z0, z1, z2, z3⟩ := z
      have HR3 := Aside0.mk hr3
      have HS3 := Aside0.mk hs3
      clear hr3 hs3
      have hf := H.out
      rw [List.drop_eq_getElem_cons hlt, List.drop_eq_getElem_cons hltm, canon_eqAll, ← HY.out, ← HZ.out] at hf
      obtain ⟨b, hb, hf⟩ := Option.bind_eq_some_iff.1 hf
      have HQ := Aside0.mk hb
      have HF := Aside0.mk hf
      clear hb hf
      have p0 : ∀ o, (wr.alloc o).cell? (ad2.add (j * 4)) = some (.int .i64 z0) := fun o => pw_cell_below (below_alloc (Below.refl _ _) o) g0
      have p1 : ∀ o, (wr.alloc o).cell? ⟨(ad2.add (j * 4)).block, (ad2.add (j * 4)).off + 1, none⟩ = some (.int .i64 z1) := fun o => pw_cell_below (below_alloc (Below.refl _ _) o) g1
      have p2 : ∀ o, (wr.alloc o).cell? ⟨(ad2.add (j * 4)).block, (ad2.add (j * 4)).off + 2, none⟩ = some (.string z2) := fun o => pw_cell_below (below_alloc (Below.refl _ _) o) g2
      have p3 : ∀ o, (wr.alloc o).cell? ⟨(ad2.add (j * 4)).block, (ad2.add (j * 4)).off + 3, none⟩ = some (.slice B3 z3.length d3) := fun o => pw_cell_below (below_alloc (Below.refl _ _) o) g3
      have HA2 := Aside0.mk (below_alloc (below_alloc HB.out (.cells #[.int .i64 y0, .int .i64 y1, .string y2, .slice A3 y3.length c3] 25)) (.cells #[.int .i64 z0, .int .i64 z1, .string z2, .slice B3 z3.length d3] 25))
      have HR4 := Aside0.mk (Kd.C_below HR3.out (below_alloc (below_alloc (Below.refl _ _) (.cells #[.int .i64 y0, .int .i64 y1, .string y2, .slice A3 y3.length c3] 25)) (.cells #[.int .i64 z0, .int .i64 z1, .string z2, .slice B3 z3.length d3] 25)))
      have HS4 := Aside0.mk (Kd.C_below HS3.out (below_alloc (below_alloc (Below.refl _ _) (.cells #[.int .i64 y0, .int .i64 y1, .string y2, .slice A3 y3.length c3] 25)) (.cells #[.int .i64 z0, .int .i64 z1, .string z2, .slice B3 z3.length d3] 25)))
      go_wp2_with fail
      refine (HI.out y0 y1 y2 A3 c3 y3 z0 z1 z2 B3 d3 z3 b _ HR4.out hl3 HS4.out hm3 HQ.out).mono ?_
      rintro e w2 ⟨rfl, hb2⟩
      have HB2 := Aside0.mk (below_step HA2.out hb2)
      clear hb2 p0 p1 p2 p3 e0 e1 e2 e3 g0 g1 g2 g3
      cases b
      · go_wp2
        go_ret
        have hf := HF.out
        simp at hf
        exact ⟨by rw [hf]; rfl, HB2.out⟩
      · go_wp2
        go_roundw
        case rel => exact ⟨j + 1, by omega, by go_num, ⟨by simpa using HF.out⟩, HB2⟩
        case measure => simp [intOf]; omega
    · have hjl : j = l.length := by omega
      subst hjl
      go_wp2
      go_ret
      have hf := H.out
      rw [List.drop_of_length_le (Nat.le_refl _), canon_eqAll] at hf
      obtain rfl := Option.some.inj hf
      exact ⟨rfl, HB.out⟩

set_option maxHeartbeats 4000000 in
set_option maxRecDepth 100000 in
theorem canon_same_at : ∀ k, SameAt k := by
  intro k
  induction k with
  | zero => intro _ _ _ _ _ _ _ _ _ _ _ _ _ _ _ _ _ _ h; simp [canon_Same.f] at h
  | succ k ih =>
    intro a0 a1 a2 A c l b0 b1 b2 B d m r w hA hc hB hd h
    have hu25 := Try.underlying25
    rw [canon_Same.f] at h
    have HA := Aside0.mk (Kd.C_below hA (below_alloc (below_alloc (Below.refl _ _) (.cells #[.int .i64 a0, .int .i64 a1, .string a2, .slice A l.length c] 25)) (.cells #[.int .i64 b0, .int .i64 b1, .string b2, .slice B m.length d] 25)))
    have HM := Aside0.mk (Kd.C_below hB (below_alloc (below_alloc (Below.refl _ _) (.cells #[.int .i64 a0, .int .i64 a1, .string a2, .slice A l.length c] 25)) (.cells #[.int .i64 b0, .int .i64 b1, .string b2, .slice B m.length d] 25)))
    have HB := Aside0.mk (below_alloc (below_alloc (Below.refl w.heap.size w) (.cells #[.int .i64 a0, .int .i64 a1, .string a2, .slice A l.length c] 25)) (.cells #[.int .i64 b0, .int .i64 b1, .string b2, .slice B m.length d] 25))
    have HI := Aside0.mk ih
    clear hA hB ih
    by_cases h0 : a0 = b0
    · rw [if_pos h0] at h
      have q0 : (a0 == b0) = true := beq_iff_eq.2 h0
      clear h0
      by_cases h1 : a1 = b1
      · rw [if_pos h1] at h
        have q1 : (a1 == b1) = true := beq_iff_eq.2 h1
        clear h1
        by_cases h2 : a2 = b2
        · rw [if_pos h2] at h
          have q2 : (a2.toList == b2.toList) = true := by rw [h2]; exact beq_self_eq_true _
          clear h2
          by_cases h3 : l.length = m.length
          · rw [if_pos h3] at h
            have H := Aside0.mk h
            have HL := Aside0.mk h3
            clear h h3
            go_enter Try.func23, Try.ntmps23
            go_wp2_with fail
            refine (canon_equal_calls k HI.out A B c d l m r _ HA.out HM.out hc hd HL.out H.out).mono ?_
            rintro e w2 ⟨rfl, hb2⟩
            have HB2 := Aside0.mk (below_step HB.out hb2)
            clear hb2
            go_wp2
            go_ret
            exact ⟨rfl, HB2.out⟩
          · rw [if_neg h3] at h
            obtain rfl := Option.some.inj h
            clear h
            have hne : ((l.length : Int) != (m.length : Int)) = true := bne_iff_ne.2 (by omega)
            have HE := Aside0.mk (show ∀ W : World, Calls Try.prog 47 #[.slice A l.length c, .slice B m.length d, .func (.func 23) #[] #[]] W fun e w' => e = .returned (.bool false) ∧ W = w' from by
              intro W
              go_enter Try.func47, Try.ntmps47
              go_wp2
              go_ret
              exact ⟨rfl, rfl⟩)
            clear h3 hne
            go_enter Try.func23, Try.ntmps23
            go_wp2_with fail
            refine (HE.out _).mono ?_
            rintro e w2 ⟨rfl, rfl⟩
            go_wp2
            go_ret
            exact ⟨rfl, HB.out⟩
        · rw [if_neg h2] at h
          obtain rfl := Option.some.inj h
          have q2 : (a2.toList == b2.toList) = false := by
            rw [beq_eq_false_iff_ne]
            intro e
            apply h2
            rw [ByteArray.toList_eq, ByteArray.toList_eq] at e
            cases a2; cases b2
            congr 1
            exact Array.toList_inj.1 e
          clear h h2
          go_enter Try.func23, Try.ntmps23
          go_wp2
          go_ret
          exact ⟨rfl, HB.out⟩
      · rw [if_neg h1] at h
        obtain rfl := Option.some.inj h
        have q1 : (a1 == b1) = false := beq_eq_false_iff_ne.2 h1
        clear h h1
        go_enter Try.func23, Try.ntmps23
        go_wp2
        go_ret
        exact ⟨rfl, HB.out⟩
    · rw [if_neg h0] at h
      obtain rfl := Option.some.inj h
      have q0 : (a0 == b0) = false := beq_eq_false_iff_ne.2 h0
      clear h h0
      go_enter Try.func23, Try.ntmps23
      go_wp2
      go_ret
      exact ⟨rfl, HB.out⟩

theorem canon_Same.calls (k : Nat) : ∀ (a0_0 : Int) (a0_1 : Int) (a0_2 : ByteArray) (A0_3 : Option Addr) (c0_3 : Nat) (l0_3 : List S25) (a1_0 : Int) (a1_1 : Int) (a1_2 : ByteArray) (A1_3 : Option Addr) (c1_3 : Nat) (l1_3 : List S25) (r : Bool) (w : World) (hr0_3 : Kd.C k25 w A0_3 l0_3.length l0_3) (hc0_3 : l0_3.length ≤ c0_3) (hr1_3 : Kd.C k25 w A1_3 l1_3.length l1_3) (hc1_3 : l1_3.length ≤ c1_3) (h : canon_Same.f k a0_0 a0_1 a0_2 l0_3 a1_0 a1_1 a1_2 l1_3 = some r),
    Calls Try.prog 23 #[.agg #[.int .i64 a0_0, .int .i64 a0_1, .string a0_2, .slice A0_3 l0_3.length c0_3], .agg #[.int .i64 a1_0, .int .i64 a1_1, .string a1_2, .slice A1_3 l1_3.length c1_3]] w fun e w' => e = .returned (.bool r) ∧ Below w.heap.size w w' :=
  fun a0 a1 a2 A c l b0 b1 b2 B d m r w hA hc hB hd h => canon_same_at k a0 a1 a2 A c l b0 b1 b2 B d m r w hA hc hB hd h

end Go.Proofs.Ytepmahdiiioceaa.Pr
