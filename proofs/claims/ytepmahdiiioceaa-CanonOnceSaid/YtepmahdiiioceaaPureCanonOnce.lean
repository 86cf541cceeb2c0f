import Derived.Test.YtepmahdiiioceaaUAwake02
import Derived.Test.YtepmahdiiioceaaPrLockboxlaw02CanonOnce
namespace Go.Proofs.Ytepmahdiiioceaa.Pure
open Go.RowKit Go.Proofs.Ytepmahdiiioceaa.Pr Go.Proofs.Ytepmahdiiioceaa.U Go.Proofs.YtepmahdiiioceaaW.PrintWords Go.Proofs.YtepmahdiiioceaaW.PrintLast
/-- What is read, written again, are the bytes that stood there. -/
theorem CanonOnce : lockboxlaw02_CanonOnce.Pure := by
  intro s _
  refine Evt.get (f := fun k => lockboxlaw02_CanonOnce.f k s) ?_
  by_cases h1 : (s.size : Int) > 2000
  · refine Evt.congr (Evt.bind awake02_ev (Evt.const (r := true))) (fun k => ?_)
    simp only [lockboxlaw02_CanonOnce.f]
    rw [if_pos h1]
  · obtain ⟨f1, f2⟩ := front_ev s (by omega)
    refine Evt.congr (g := fun k => (canon_Front.f k s).bind fun bt228 => (if bt228.2.2.2.2.2 = 0 then ((canon_Encode.f bt228.1 bt228.2.1 bt228.2.2.1 bt228.2.2.2.1).bind fun bt237 => ((lockboxlaw02_awake.f k).bind fun t239 => (if t239 = true then (if bt237.2 = 0 then ((canon_Check.f bt228.1 bt228.2.1 bt228.2.2.1 bt228.2.2.2.1).bind fun t240 => (if t240 = true then (if bt237.1.size + bt228.2.2.2.2.1.size ≤ 9223372036854775807 then (some ((bt237.1 ++ bt228.2.2.2.2.1).toList == s.toList)) else (none)) else (some false))) else (some false)) else (some false)))) else ((lockboxlaw02_awake.f k).bind fun t241 => (some t241)))) ?_ (fun k => by simp only [lockboxlaw02_CanonOnce.f]; rw [if_neg h1])
    refine Evt.bind f1 ?_
    unfold rfront
    cases h : ritem 6 s.data.toList 65536 with
    | error e =>
      simp only
      simp only [if_neg (f2 e h)]
      exact Evt.bind awake02_ev Evt.const
    | ok v =>
      obtain ⟨x, r, b⟩ := v
      simp only [if_true]
      obtain ⟨g1, g2, g3⟩ := ritem_ok 6 _ _ _ _ _ (by omega) h
      rw [encode_ok x g1 (by omega)]
      simp only [Option.bind_some]
      refine Evt.bind awake02_ev ?_
      simp only [if_true]
      obtain ⟨x0, x1, x2, x3⟩ := x
      rw [show canon_Check.f x0 x1 x2 x3 = some (canon_chk 6 ⟨x0, x1, x2, x3⟩) from rfl, g1]
      simp only [Option.bind_some, if_true]
      have hsz := congrArg List.length g2
      rw [List.length_append] at hsz
      rw [size_list] at hsz
      have hle : (⟨(canon_wr 6 ⟨x0, x1, x2, x3⟩).toArray⟩ : ByteArray).size + (⟨r.toArray⟩ : ByteArray).size ≤ 9223372036854775807 := by simp only [ByteArray.size, List.size_toArray] at hsz h1 ⊢; omega
      simp only [if_pos hle]
      have : ((⟨(canon_wr 6 ⟨x0, x1, x2, x3⟩).toArray⟩ : ByteArray) ++ ⟨r.toArray⟩).toList = s.toList := by
        rw [ByteArray.toList_eq, ByteArray.toList_eq, ByteArray.data_append, Array.toList_append, g2]
      rw [this, beq_self_eq_true]
      exact Evt.const
end Go.Proofs.Ytepmahdiiioceaa.Pure
