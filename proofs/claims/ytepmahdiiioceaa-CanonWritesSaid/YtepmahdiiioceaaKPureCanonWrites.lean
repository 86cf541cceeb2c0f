import Derived.Test.YtepmahdiiioceaaKUAwake02
import Derived.Test.YtepmahdiiioceaaKURef02
import Derived.Test.YtepmahdiiioceaaKPrLockboxlaw02CanonWrites
namespace Go.Proofs.Ytepmahdiiioceaa.Pure
open Go.RowKit Go.Proofs.Ytepmahdiiioceaa.Pr Go.Proofs.Ytepmahdiiioceaa.U Go.Proofs.YtepmahdiiioceaaW.PrintWords Go.Proofs.YtepmahdiiioceaaW.PrintLast
set_option linter.unusedVariables false
theorem writes_j0_true (x0 x1 : Int) (x2 : ByteArray) (x3 : List S25) (y0 y1 : Int) (y2 : ByteArray) (y3 : List S25) : Evt (fun k => lockboxlaw02_CanonWrites.j0 k true x0 x1 x2 x3 y0 y1 y2 y3) true := by
  refine Evt.succ (Evt.congr (g := fun k => (lockboxlaw02_awake.f k).bind fun t => some t) (Evt.bind awake02_ev Evt.const) (fun k => ?_))
  simp only [lockboxlaw02_CanonWrites.j0]
  rfl
/-- Which items may be, and the bytes of each, or the error; which are the same. -/
theorem CanonWrites (a0 : S25) (G : GoodItem a0) (a1 : S25) (G1 : GoodItem a1) : ∃ k, lockboxlaw02_CanonWrites.f k a0.f0 a0.f1 a0.f2 a0.f3 a1.f0 a1.f1 a1.f2 a1.f3 = some true := by
  refine Evt.get (f := fun k => lockboxlaw02_CanonWrites.f k a0.f0 a0.f1 a0.f2 a0.f3 a1.f0 a1.f1 a1.f2 a1.f3) ?_
  obtain ⟨b, hb, hb2⟩ := few_ev 2000 (by decide) (by decide) a0 G
  obtain ⟨c, hc, _⟩ := few_ev 2000 (by decide) (by decide) a1 G1
  unfold lockboxlaw02_CanonWrites.f
  refine Evt.bind hb ?_
  cases b with
  | false => exact Evt.congr (writes_j0_true _ _ _ _ _ _ _ _) (fun k => if_neg (by decide))
  | true =>
    simp only [if_true]
    refine Evt.bind hc ?_
    cases c with
    | false => exact writes_j0_true _ _ _ _ _ _ _ _
    | true =>
      have ht := hb2 rfl
      obtain ⟨s, e, e1, e2⟩ := rencode_ev a0 G (by omega)
      obtain ⟨q, q1, q2⟩ := same_ev a0 G a1 G1
      have r0 := ref_ev a0 G
      have r1 := ref_ev a1 G1
      have ck := check_ev 6 a0 (by omega) G
      simp only [refItem_f0, refItem_f1, refItem_f2, refItem_f3] at ck
      refine Evt.succ (Evt.congr (g := fun k => (lockboxlaw02_Ref.f k a0.f0 a0.f1 a0.f2 a0.f3).bind fun bt351 => ((lockboxref02_Encode.f k bt351.1 bt351.2.1 bt351.2.2.1 bt351.2.2.2).bind fun bt357 => ((lockboxlaw02_awake.f k).bind fun t359 => (if t359 = true then (if s.toList = bt357.1.toList then (if e = bt357.2 then ((lockboxlaw02_Ref.f k a0.f0 a0.f1 a0.f2 a0.f3).bind fun bt361 => ((lockboxref02_Check.f k bt361.1 bt361.2.1 bt361.2.2.1 bt361.2.2.2 0).bind fun t367 => (if (canon_chk 6 a0 == t367) = true then ((canon_Same.f k a0.f0 a0.f1 a0.f2 a0.f3 a1.f0 a1.f1 a1.f2 a1.f3).bind fun t368 => ((lockboxlaw02_Ref.f k a0.f0 a0.f1 a0.f2 a0.f3).bind fun bt369 => ((lockboxlaw02_Ref.f k a1.f0 a1.f1 a1.f2 a1.f3).bind fun bt375 => ((lockboxref02_Same.f k bt369.1 bt369.2.1 bt369.2.2.1 bt369.2.2.2 bt375.1 bt375.2.1 bt375.2.2.1 bt375.2.2.2).bind fun t381 => (some (t368 == t381)))))) else (some false)))) else (some false)) else (some false)) else (some false))))) ?_ (fun k => ?_))
      · refine Evt.bind r0 (Evt.bind e2 (Evt.bind awake02_ev ?_))
        simp only [if_true]
        refine Evt.bind r0 (Evt.bind ck ?_)
        simp only [beq_self_eq_true, if_true]
        refine Evt.bind q1 (Evt.bind r0 (Evt.bind r1 (Evt.bind q2 ?_)))
        rw [beq_self_eq_true]
        exact Evt.const
      · simp only [lockboxlaw02_CanonWrites.j0, Bool.not_true]
        rw [if_neg (by decide), e1, show canon_Check.f a0.f0 a0.f1 a0.f2 a0.f3 = some (canon_chk 6 a0) from by cases a0; rfl]
        rfl
end Go.Proofs.Ytepmahdiiioceaa.Pure
