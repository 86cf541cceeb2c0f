import Derived.Test.YtepmahdiiioceaaUAwake02
import Derived.Test.YtepmahdiiioceaaPrLockboxlaw02CanonLong
namespace Go.Proofs.Ytepmahdiiioceaa.Pure
open Go.RowKit Go.Proofs.Ytepmahdiiioceaa.Pr Go.Proofs.Ytepmahdiiioceaa.U Go.Proofs.YtepmahdiiioceaaW.PrintWords Go.Proofs.YtepmahdiiioceaaW.PrintLast
theorem strOfNums_size (l : List Int) : (strOfNums l).size = l.length := by
  simp [strOfNums, ByteArray.size]
theorem long_j1 (n h : Nat) (S A B : ByteArray) (x5 x7 : Int) (hn : n + h + 3 < 100000) (hA : x5 = 0 → Evt (fun k => canon_Decode.f k A) (2, 0, S, [], 0)) (h5 : x5 = 0 ∨ x5 = 2) (h7 : x7 = 0 ∨ x7 = 2) (hB : x7 = 0 → B.size = n + h + 3) :
    Evt (fun k => lockboxlaw02_CanonLong.j1 k n S A x5 B x7 h false) true := by
  have w1 : wrap64 ((n : Int) + (h : Int)) = (n : Int) + h := wrap64_nat (by omega) (by omega)
  have w2 : wrap64 ((n : Int) + (h : Int) + 3) = (n : Int) + h + 3 := wrap64_nat (by omega) (by omega)
  have end_ : (if x7 = 0 then (some ((B.size : Int) == (wrap64 ((wrap64 ((n : Int) + h)) + 3)))) else (if x7 = 2 then (some true) else (some false))) = some true := by
    rw [w1, w2]
    rcases h7 with rfl | rfl
    · rw [if_pos rfl, hB rfl]; simp
    · rfl
  rcases h5 with rfl | rfl
  · refine Evt.succ (Evt.congr (g := fun k => (canon_Decode.f k A).bind fun bt300 => (if bt300.2.2.2.2 = 0 then (if bt300.2.2.1.toList = S.toList then some true else (some false)) else (some false))) ?_ (fun k => ?_))
    · refine Evt.bind (hA rfl) (Evt.of fun k => ?_)
      simp
    · simp only [lockboxlaw02_CanonLong.j1, end_]
      rfl
  · refine Evt.succ (Evt.of fun k => ?_)
    simp only [lockboxlaw02_CanonLong.j1, end_]
    rfl
theorem long_j0 (n h : Nat) (S A B : ByteArray) (x5 x7 : Int) (hn : n + h + 3 < 100000) (hA : x5 = 0 → Evt (fun k => canon_Decode.f k A) (2, 0, S, [], 0)) (h5 : x5 = 0 ∧ n + h ≤ 65536 ∨ x5 = 2 ∧ ¬ n + h ≤ 65536) (h7 : x7 = 0 ∧ n + h + 3 ≤ 65536 ∨ x7 = 2 ∧ ¬ n + h + 3 ≤ 65536) (hB : x7 = 0 → B.size = n + h + 3) :
    Evt (fun k => lockboxlaw02_CanonLong.j0 k n S A x5 B x7 h) true := by
  have w1 : wrap64 ((n : Int) + (h : Int)) = (n : Int) + h := wrap64_nat (by omega) (by omega)
  have w2 : wrap64 ((n : Int) + (h : Int) + 3) = (n : Int) + h + 3 := wrap64_nat (by omega) (by omega)
  have t5 : ((x5 == 0) != decide ((n : Int) + (h : Int) ≤ 65536)) = false := by
    rcases h5 with ⟨rfl, hq⟩ | ⟨rfl, hq⟩
    · have : (n : Int) + (h : Int) ≤ 65536 := by omega
      simp [this]
    · have : ¬ (n : Int) + (h : Int) ≤ 65536 := by omega
      simp; omega
  have t7 : ((x7 == 0) != decide ((n : Int) + (h : Int) + 3 ≤ 65536)) = false := by
    rcases h7 with ⟨rfl, hq⟩ | ⟨rfl, hq⟩
    · have : (n : Int) + (h : Int) + 3 ≤ 65536 := by omega
      simp [this]
    · have : ¬ (n : Int) + (h : Int) + 3 ≤ 65536 := by omega
      simp; omega
  refine Evt.succ (Evt.congr (g := fun k => (lockboxlaw02_awake.f k).bind fun t => if t = true then lockboxlaw02_CanonLong.j1 k n S A x5 B x7 h false else lockboxlaw02_CanonLong.j1 k n S A x5 B x7 h true) ?_ (fun k => ?_))
  · refine Evt.bind awake02_ev ?_
    simp only [if_true]
    exact long_j1 n h S A B x5 x7 hn hA (h5.imp And.left And.left) (h7.imp And.left And.left) hB
  · simp only [lockboxlaw02_CanonLong.j0, w1, w2, t5, t7]
    rfl
/-- How long an item may be. -/
theorem CanonLong : lockboxlaw02_CanonLong.Pure := by
  intro a0 _
  refine Evt.get (f := fun k => lockboxlaw02_CanonLong.f k a0) ?_
  obtain ⟨n, hn, h1, h2⟩ : ∃ n : Nat, wrap64 (65520 + (Int.tmod (wrap64 ((Int.tmod a0 17) + 17)) 17)) = (n : Int) ∧ 65520 ≤ n ∧ n ≤ 65536 := by
    have b1 := Int.tmod_lt_of_pos a0 (show (0 : Int) < 17 by decide)
    have b2 := Int.lt_tmod_of_pos a0 (show (0 : Int) < 17 by decide)
    rw [wrap64_nat (n := Int.tmod a0 17 + 17) (by omega) (by omega), Int.tmod_eq_emod_of_nonneg (by omega), wrap64_nat (by omega) (by omega)]
    exact ⟨(65520 + (Int.tmod a0 17 + 17) % 17).toNat, by omega, by omega, by omega⟩
  obtain ⟨S, hS⟩ : ∃ S, S = strOfNums (List.replicate n (0 : Int)) := ⟨_, rfl⟩
  have hsz : S.size = n := by rw [hS, strOfNums_size]; simp
  obtain ⟨h, hh, hh2⟩ : ∃ h : Nat, numLen n + 2 = h ∧ h = if n > 65535 then 5 else 4 := by
    refine ⟨_, rfl, ?_⟩
    by_cases hb : n > 65535
    · rw [if_pos hb, show n = 65536 from by omega]
      rw [numLen_pos (by decide), numLen_pos (by decide), numLen_pos (by decide), show 65536 / 256 / 256 / 256 = 0 from rfl, numLen_zero]
    · rw [if_neg hb, numLen_pos (by omega), numLen_pos (by omega), show n / 256 / 256 = 0 from by omega, numLen_zero]
  have hx : (⟨2, 0, S, []⟩ : S25) = mkText S.data.toList := rfl
  have c1 : canon_chk 6 ⟨2, 0, S, []⟩ = true := by rw [hx]; exact canon_chk_mkText _ _ (by rw [size_list]; omega)
  have c2 : canon_chk 6 (mkList [⟨2, 0, S, []⟩]) = true := by
    refine canon_chk_mkList 5 _ (by simp) ?_
    intro y hy
    simp at hy
    subst hy
    rw [hx]; exact canon_chk_mkText _ _ (by rw [size_list]; omega)
  have l0 : ∀ d, (canon_wr d ⟨2, 0, S, []⟩).length = n + h := by
    intro d
    rw [canon_wr_text, List.length_cons, List.length_append, numB_length, size_list, hsz]; omega
  have l1 : (canon_wr 6 (mkList [⟨2, 0, S, []⟩])).length = n + h + 3 := by
    rw [mkList, canon_wr_list, List.length_cons, List.length_append, numB_length, List.flatMap_cons, List.flatMap_nil, List.append_nil, l0, show numLen ([(⟨2, 0, S, []⟩ : S25)]).length = 1 from by simpa using numLen_small (n := 1) (by decide) (by decide)]
    omega
  have hA : n + h ≤ 65536 → Evt (fun k => canon_Decode.f k ⟨(canon_wr 6 ⟨2, 0, S, []⟩).toArray⟩) (2, 0, S, [], 0) := by
    intro hle
    have := decode_ev ⟨(canon_wr 6 ⟨2, 0, S, []⟩).toArray⟩ (by simp only [ByteArray.size, List.size_toArray]; rw [l0]; omega)
    have h3 := ritem_of 6 ⟨2, 0, S, []⟩ c1 [] 65536 (by rw [l0]; omega)
    rw [List.append_nil] at h3
    simp only [rdecode, h3, if_true] at this
    exact this
  have core : ∀ (x5 x7 : Int) (A B : ByteArray), canon_Encode.f 2 0 S [] = some (A, x5) → canon_Encode.f 3 0 ⟨#[]⟩ [⟨2, 0, S, []⟩] = some (B, x7) → Evt (fun k => lockboxlaw02_CanonLong.j0 k n S A x5 B x7 h) true := by
    intro x5 x7 A B e1 e2
    have k5 : (x5 = 0 ∧ n + h ≤ 65536 ∧ A = ⟨(canon_wr 6 ⟨2, 0, S, []⟩).toArray⟩) ∨ (x5 = 2 ∧ ¬ n + h ≤ 65536) := by
      by_cases hle : n + h ≤ 65536
      · have := encode_ok ⟨2, 0, S, []⟩ c1 (by rw [l0]; exact hle)
        replace this := e1.symm.trans this
        cases this
        exact .inl ⟨rfl, hle, rfl⟩
      · have := encode_long ⟨2, 0, S, []⟩ c1 (by rw [l0]; exact hle)
        replace this := e1.symm.trans this
        cases this
        exact .inr ⟨rfl, hle⟩
    have k7 : (x7 = 0 ∧ n + h + 3 ≤ 65536 ∧ B = ⟨(canon_wr 6 (mkList [⟨2, 0, S, []⟩])).toArray⟩) ∨ (x7 = 2 ∧ ¬ n + h + 3 ≤ 65536) := by
      by_cases hle : n + h + 3 ≤ 65536
      · have := encode_ok (mkList [⟨2, 0, S, []⟩]) c2 (by rw [l1]; exact hle)
        replace this := e2.symm.trans this
        cases this
        exact .inl ⟨rfl, hle, rfl⟩
      · have := encode_long (mkList [⟨2, 0, S, []⟩]) c2 (by rw [l1]; exact hle)
        replace this := e2.symm.trans this
        cases this
        exact .inr ⟨rfl, hle⟩
    refine long_j0 n h S A B x5 x7 (by split at hh2 <;> omega) ?_ (k5.imp (fun h => ⟨h.1, h.2.1⟩) id) (k7.imp (fun h => ⟨h.1, h.2.1⟩) id) ?_
    · intro h0
      rcases k5 with ⟨_, hle, rfl⟩ | ⟨rfl, _⟩
      · exact hA hle
      · cases h0
    · intro h0
      rcases k7 with ⟨_, hle, rfl⟩ | ⟨rfl, _⟩
      · simp only [ByteArray.size, List.size_toArray]; exact l1
      · cases h0
  have he1 : ∃ A x5, canon_Encode.f 2 0 S [] = some (A, x5) := by
    exact encode_some _ _ _ _
  have he2 : ∃ B x7, canon_Encode.f 3 0 ⟨#[]⟩ [⟨2, 0, S, []⟩] = some (B, x7) := by
    exact encode_some _ _ _ _
  obtain ⟨A, x5, e1⟩ := he1
  obtain ⟨B, x7, e2⟩ := he2
  refine Evt.congr (core x5 x7 A B e1 e2) (fun k => ?_)
  simp only [lockboxlaw02_CanonLong.f, hn, Int.toNat_natCast, canon_Text.f, Option.bind_some, ← hS, e1]
  rw [if_pos (by omega), if_pos (by omega)]
  rw [show canon_List.f [(⟨2, 0, S, []⟩ : S25)] = some (3, 0, ⟨#[]⟩, [⟨2, 0, S, []⟩]) from rfl]
  simp only [Option.bind_some, e2]
  by_cases hb : n > 65535
  · rw [if_pos hb] at hh2
    subst hh2
    rw [if_pos (by omega)]; rfl
  · rw [if_neg hb] at hh2
    subst hh2
    rw [if_neg (by omega)]; rfl
end Go.Proofs.Ytepmahdiiioceaa.Pure
