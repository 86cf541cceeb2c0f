import Derived.Test.YtepmahdiiioceaaKUAwake02
import Derived.Test.YtepmahdiiioceaaKUOpenItemTo47
import Derived.Test.YtepmahdiiioceaaKPrLockboxlaw02CanonCut
namespace Go.Proofs.Ytepmahdiiioceaa.Pure
open Go.RowKit Go.Proofs.Ytepmahdiiioceaa.Pr Go.Proofs.Ytepmahdiiioceaa.U Go.Proofs.YtepmahdiiioceaaW.PrintWords Go.Proofs.YtepmahdiiioceaaW.PrintLast
set_option linter.unusedVariables false
theorem cut_j0_bad (c : Int) (s : ByteArray) (e : Int) (he : e ≠ 0) : Evt (fun k => lockboxlaw02_CanonCut.j0 k c s e true) true := by
  refine Evt.succ (Evt.congr (g := fun k => (lockboxlaw02_awake.f k).bind fun t => if t = true then some (e != 0) else some false) ?_ (fun k => ?_))
  · refine Evt.bind awake02_ev ?_
    simp only [if_true]
    rw [bne_iff_ne.2 he]
    exact Evt.const
  · simp only [lockboxlaw02_CanonCut.j0]
    rfl
/-- Bytes that are cut off say that they end. -/
theorem CanonCut (a0 : S25) (G : GoodItem a0) (a1 : Int) (w : (Lit.int .i64 a1).wf = true) : ∃ k, lockboxlaw02_CanonCut.f k a0.f0 a0.f1 a0.f2 a0.f3 a1 = some true := by
  refine Evt.get (f := fun k => lockboxlaw02_CanonCut.f k a0.f0 a0.f1 a0.f2 a0.f3 a1) ?_
  obtain ⟨b, hb, _⟩ := few_ev 1000 (by decide) (by decide) a0 G
  unfold lockboxlaw02_CanonCut.f
  refine Evt.bind hb ?_
  cases b with
  | false => exact Evt.bind awake02_ev Evt.const
  | true =>
    simp only [if_true]
    by_cases h1 : canon_chk 6 a0 = true
    · by_cases h2 : (canon_wr 6 a0).length ≤ 65536
      · rw [encode_ok a0 h1 h2]
        simp only [Option.bind_some, if_true]
        obtain ⟨n, hn⟩ : ∃ n, n = (canon_wr 6 a0).length := ⟨_, rfl⟩
        have hne : canon_wr 6 a0 ≠ [] := by cases a0; exact canon_wr_ne _ _ _ _ _ h1
        have hn0 : 0 < n := by rw [hn]; exact List.length_pos_iff.2 hne
        have hsz : (⟨(canon_wr 6 a0).toArray⟩ : ByteArray).size = n := by simp [ByteArray.size, hn]
        have hf : (((⟨(canon_wr 6 a0).toArray⟩ : ByteArray).size : Int) == 0) = false := by rw [hsz]; simp; omega
        rw [hf]
        obtain ⟨c, hc, hcn⟩ : ∃ c : Nat, Int.tmod (wrap64 (Int.tmod a1 (n : Int) + (n : Int))) (n : Int) = (c : Int) ∧ c < n := by
          have b1 := Int.tmod_lt_of_pos a1 (show (0 : Int) < (n : Int) by omega)
          have b2 := Int.lt_tmod_of_pos a1 (show (0 : Int) < (n : Int) by omega)
          rw [wrap64_nat (n := Int.tmod a1 n + n) (by omega) (by omega), Int.tmod_eq_emod_of_nonneg (by omega)]
          have b3 := Int.emod_lt_of_pos (Int.tmod a1 n + n) (show (0 : Int) < (n : Int) by omega)
          have b4 := Int.emod_nonneg (Int.tmod a1 n + n) (show (n : Int) ≠ 0 by omega)
          exact ⟨((Int.tmod a1 n + n) % n).toNat, by omega, by omega⟩
        have hx : (⟨(canon_wr 6 a0).toArray⟩ : ByteArray).extract 0 c = ⟨((canon_wr 6 a0).take c).toArray⟩ := by
          rw [extract_eq]; simp
        have hcut : ritem 6 ((canon_wr 6 a0).take c) 65536 = .error 7 := by
          refine ritem_cut 6 a0 h1 65536 h2 _ ((canon_wr 6 a0).drop c) (List.take_append_drop _ _).symm ?_
          intro e
          have := congrArg List.length e
          rw [List.length_drop] at this
          simp at this
          omega
        have hsz2 : (⟨((canon_wr 6 a0).take c).toArray⟩ : ByteArray).size < 4611686018427387904 := by
          simp only [ByteArray.size, List.size_toArray, List.length_take]; omega
        obtain ⟨f1, _⟩ := front_ev ⟨((canon_wr 6 a0).take c).toArray⟩ hsz2
        have f2 := decode_ev ⟨((canon_wr 6 a0).take c).toArray⟩ hsz2
        simp only [rfront, rdecode, hcut] at f1 f2
        refine Evt.succ (Evt.congr (g := fun k => (canon_Front.f k ⟨((canon_wr 6 a0).take c).toArray⟩).bind fun bt253 => ((canon_Decode.f k ⟨((canon_wr 6 a0).take c).toArray⟩).bind fun bt262 => ((lockboxlaw02_awake.f k).bind fun t270 => (if t270 = true then (if bt253.2.2.2.2.2 = 7 then (some (bt262.2.2.2.2 == 7)) else (some false)) else (some false))))) ?_ (fun k => ?_))
        · refine Evt.bind f1 (Evt.bind f2 (Evt.bind awake02_ev ?_))
          exact Evt.of fun k => rfl
        · simp only [lockboxlaw02_CanonCut.j0, hsz, hc, Int.toNat_natCast, hx]
          rw [if_neg (by decide), if_neg (by omega), if_pos (by omega), if_pos (by omega)]
      · rw [encode_long a0 h1 h2]
        simp only [Option.bind_some]
        exact Evt.congr (cut_j0_bad a1 ⟨#[]⟩ 2 (by decide)) (fun k => if_neg (by decide))
    · rw [encode_arg a0 h1]
      simp only [Option.bind_some]
      exact Evt.congr (cut_j0_bad a1 ⟨#[]⟩ 1 (by decide)) (fun k => if_neg (by decide))
end Go.Proofs.Ytepmahdiiioceaa.Pure
