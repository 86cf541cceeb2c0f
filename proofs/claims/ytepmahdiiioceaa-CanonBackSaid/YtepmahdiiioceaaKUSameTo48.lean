import Derived.Test.YtepmahdiiioceaaKUEv
import Derived.Test.YtepmahdiiioceaaKUItem
import Derived.Test.YtepmahdiiioceaaKPrCanonSame
import Derived.Test.YtepmahdiiioceaaKUAwake02
import Derived.Test.YtepmahdiiioceaaKUOpenItemTo47
import Derived.Test.YtepmahdiiioceaaKPrLockboxlaw02CanonBack
section
namespace Go.Proofs.Ytepmahdiiioceaa.U
open Go.RowKit Go.Proofs.Ytepmahdiiioceaa.Pr Go.Proofs.YtepmahdiiioceaaW.PrintWords Go.Proofs.YtepmahdiiioceaaW.PrintLast Go.Proofs.YtepmahdiiioceaaW.PrintMore
theorem eqAll_refl (g : Nat → S25 → S25 → Option Bool) : ∀ (l : List S25), (∀ y ∈ l, Evt (fun k => g k y y) true) → Evt (fun k => canon_eqAll (g k) l l) true
  | [], _ => Evt.const
  | x :: xs, h => by
    refine Evt.congr (Evt.bind (h x (by simp)) (g := fun k b => if b = true then canon_eqAll (g k) xs xs else some false) ?_) (fun k => by simp only [canon_eqAll])
    exact Evt.congr (eqAll_refl g xs (fun y hy => h y (by simp [hy]))) (fun k => if_pos rfl)
theorem same_refl : ∀ (d : Nat) (x : S25), canon_chk d x = true → Evt (fun k => canon_Same.f k x.f0 x.f1 x.f2 x.f3 x.f0 x.f1 x.f2 x.f3) true := by
  have base : ∀ (x : S25), (∀ y ∈ x.f3, Evt (fun k => canon_Same.f k y.f0 y.f1 y.f2 y.f3 y.f0 y.f1 y.f2 y.f3) true) → Evt (fun k => canon_Same.f k x.f0 x.f1 x.f2 x.f3 x.f0 x.f1 x.f2 x.f3) true := by
    intro x h
    refine Evt.succ (Evt.congr (eqAll_refl (fun k x y => canon_Same.f k x.f0 x.f1 x.f2 x.f3 y.f0 y.f1 y.f2 y.f3) x.f3 h) (fun k => ?_))
    simp only [canon_Same.f, if_true]
  intro d
  induction d with
  | zero =>
    rintro ⟨x0, x1, x2, l⟩ h
    rcases canon_chk_kind h with rfl | rfl | rfl
    · obtain ⟨_, _, _, rfl⟩ := canon_chk_num h
      exact base _ (fun y hy => by cases hy)
    · obtain ⟨_, _, rfl⟩ := canon_chk_text h
      exact base _ (fun y hy => by cases hy)
    · obtain ⟨e, he, _⟩ := canon_chk_list h; cases he
  | succ d ih =>
    rintro ⟨x0, x1, x2, l⟩ h
    rcases canon_chk_kind h with rfl | rfl | rfl
    · obtain ⟨_, _, _, rfl⟩ := canon_chk_num h
      exact base _ (fun y hy => by cases hy)
    · obtain ⟨_, _, rfl⟩ := canon_chk_text h
      exact base _ (fun y hy => by cases hy)
    · obtain ⟨e, he, _, _, _, h4⟩ := canon_chk_list h
      obtain rfl : d = e := by omega
      exact base _ (fun y hy => ih y (h4 y hy))
end Go.Proofs.Ytepmahdiiioceaa.U
end
section
namespace Go.Proofs.Ytepmahdiiioceaa.Pure
open Go.RowKit Go.Proofs.Ytepmahdiiioceaa.Pr Go.Proofs.Ytepmahdiiioceaa.U Go.Proofs.YtepmahdiiioceaaW.PrintWords Go.Proofs.YtepmahdiiioceaaW.PrintLast
set_option linter.unusedVariables false
theorem back_j0_true (s : ByteArray) (x0 x1 : Int) (x2 : ByteArray) (x3 : List S25) : Evt (fun k => lockboxlaw02_CanonBack.j0 k s true x0 x1 x2 x3) true := by
  refine Evt.succ (Evt.congr (g := fun k => (lockboxlaw02_awake.f k).bind fun t => some t) (Evt.bind awake02_ev Evt.const) (fun k => ?_))
  simp only [lockboxlaw02_CanonBack.j0]
  rfl
/-- What is written is read as it was, whatever stands behind it. -/
theorem CanonBack (a0 : S25) (G : GoodItem a0) (a1 : ByteArray) (w : a1.size ≤ 140737488351232) : ∃ k, lockboxlaw02_CanonBack.f k a0.f0 a0.f1 a0.f2 a0.f3 a1 = some true := by
  refine Evt.get (f := fun k => lockboxlaw02_CanonBack.f k a0.f0 a0.f1 a0.f2 a0.f3 a1) ?_
  obtain ⟨b, hb, _⟩ := few_ev 2000 (by decide) (by decide) a0 G
  unfold lockboxlaw02_CanonBack.f
  refine Evt.bind hb ?_
  have bad : ∀ (e : Int) (he : e ≠ 0), canon_Encode.f a0.f0 a0.f1 a0.f2 a0.f3 = some (⟨#[]⟩, e) → Evt (fun k => lockboxlaw02_CanonBack.j0 k a1 false a0.f0 a0.f1 a0.f2 a0.f3) true := by
    intro e he h
    refine Evt.succ (Evt.congr (g := fun k => (lockboxlaw02_awake.f k).bind fun t => if t = true then some ((⟨#[]⟩ : ByteArray).toList == ([] : List UInt8)) else some false) ?_ (fun k => ?_))
    · refine Evt.bind awake02_ev ?_
      rw [ByteArray.toList_eq]
      exact Evt.const
    · simp only [lockboxlaw02_CanonBack.j0]
      rw [h]
      simp only [Option.bind_some]
      rw [if_neg he]
      rfl
  cases b with
  | false => exact back_j0_true _ _ _ _ _
  | true =>
    simp only [if_true]
    by_cases h5 : (a1.size : Int) > 500
    · rw [decide_eq_true h5]; exact back_j0_true _ _ _ _ _
    · rw [decide_eq_false h5]
      by_cases h1 : canon_chk 6 a0 = true
      · by_cases h2 : (canon_wr 6 a0).length ≤ 65536
        · have hn : (⟨(canon_wr 6 a0).toArray⟩ : ByteArray).size = (canon_wr 6 a0).length := by simp [ByteArray.size]
          obtain ⟨s, hs⟩ : ∃ s : ByteArray, s = (⟨(canon_wr 6 a0).toArray⟩ : ByteArray) ++ a1 := ⟨_, rfl⟩
          have hl : s.data.toList = canon_wr 6 a0 ++ a1.data.toList := by rw [hs, ByteArray.data_append, Array.toList_append]
          obtain ⟨f1, _⟩ := front_ev s (by rw [← size_list, hl, List.length_append, size_list]; omega)
          simp only [rfront, hl, ritem_of 6 a0 h1 a1.data.toList 65536 h2] at f1
          refine Evt.succ (Evt.congr (g := fun k => (canon_Front.f k s).bind fun bt387 => ((lockboxlaw02_awake.f k).bind fun t396 => (if t396 = true then (if bt387.2.2.2.2.2 = 0 then (if bt387.2.2.2.2.1.toList = a1.toList then ((canon_Same.f k a0.f0 a0.f1 a0.f2 a0.f3 bt387.1 bt387.2.1 bt387.2.2.1 bt387.2.2.2.1).bind fun t397 => (some t397)) else (some false)) else (some false)) else (some false)))) ?_ (fun k => ?_))
          · refine Evt.bind f1 (Evt.bind awake02_ev ?_)
            simp only [if_true]
            exact Evt.bind (same_refl 6 a0 h1) Evt.const
          · simp only [lockboxlaw02_CanonBack.j0]
            rw [encode_ok a0 h1 h2]
            simp only [Option.bind_some, if_true]
            rw [if_neg (by decide), if_pos (by rw [hn]; omega), ← hs]
        · exact bad 2 (by decide) (encode_long a0 h1 h2)
      · exact bad 1 (by decide) (encode_arg a0 h1)
end Go.Proofs.Ytepmahdiiioceaa.Pure
end
