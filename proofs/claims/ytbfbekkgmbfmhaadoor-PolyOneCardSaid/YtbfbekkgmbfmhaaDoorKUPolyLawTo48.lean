import Derived.Test.YtbfbekkgmbfmhaaDoorKUPolyThr
import Derived.Test.YtbfbekkgmbfmhaaDoorKPrLockboxlaw08PolyOne
section
namespace Go.Proofs.YtbfbekkgmbfmhaaDoor.U
open Go.RowKit Go.Proofs.YtbfbekkgmbfmhaaDoor.Pr Go.Proofs.YtbfbekkgmbfmhaaDoorW.PrintWords Go.Proofs.YtbfbekkgmbfmhaaDoorW.PrintLast Go.Proofs.YtbfbekkgmbfmhaaDoorW.PrintMore
theorem as_bs (s : ByteArray) : ∃ l : List UInt8, s = bs l := ⟨s.data.toList, (bs_self s).symm⟩
theorem few_bs (most : Nat) (l m : List UInt8) : Evt (fun k => lockboxlaw08_few.f k (most : Int) [bs l, bs m]) (decide (l.length ≤ most) && decide (m.length ≤ most)) := by
  have h := few08_ev (most : Int) (bs l) (bs m)
  simp only [bs_size] at h
  have e1 : decide ((l.length : Int) ≤ (most : Int)) = decide (l.length ≤ most) := by apply decide_eq_decide.2; omega
  have e2 : decide ((m.length : Int) ≤ (most : Int)) = decide (m.length ≤ most) := by apply decide_eq_decide.2; omega
  rw [e1, e2] at h
  exact h
end Go.Proofs.YtbfbekkgmbfmhaaDoor.U
end
section
namespace Go.Proofs.YtbfbekkgmbfmhaaDoor.Pure
open Go.RowKit Go.Proofs.YtbfbekkgmbfmhaaDoor.U Go.Proofs.YtbfbekkgmbfmhaaDoor.Pr Go.Proofs.YtbfbekkgmbfmhaaDoorW.PrintWords Go.Proofs.YtbfbekkgmbfmhaaDoorW.PrintLast Go.Proofs.YtbfbekkgmbfmhaaDoorW.PrintMore
set_option linter.unusedVariables false
set_option linter.unusedSimpArgs false
theorem PolyOne : lockboxlaw08_PolyOne.Pure := by
  intro a0 a1 _ _
  obtain ⟨p, rfl⟩ := as_bs a0
  obtain ⟨b, rfl⟩ := as_bs a1
  have aw := awake08_ev
  have bad : Evt (fun k => lockboxlaw08_PolyOne.j0 k (bs p) (bs b) true) true := Evt.succ (Evt.congr (Evt.bind aw Evt.const) fun k => by simp only [lockboxlaw08_PolyOne.j0, if_true])
  refine Evt.get (Evt.bind (few_bs 40 p b) ?_)
  by_cases c : p.length ≤ 40 ∧ b.length ≤ 40
  · obtain ⟨c1, c2⟩ := c
    simp only [decide_eq_true c1, decide_eq_true c2, Bool.and_self, if_true]
    refine Evt.bind (ref_unlike_ev b (by omega)) ?_
    by_cases hn : b.Nodup
    · simp only [decide_eq_true hn, if_true]
      by_cases hl : p.length ≤ b.length
      · rw [bs_size, bs_size, decide_eq_false (by omega)]
        let vs := b.map (pval p)
        have hvl : vs.length = b.length := by simp [vs]
        obtain ⟨⟨z, ok⟩, ht⟩ := through_ok b vs hvl.symm hn (by omega)
        have htr := ref_trim_ev p (by omega)
        have hone : through b vs = ptrim p := by
          rw [← ok.trim]
          refine poly_one hn ok.len hl (by omega) (fun r hr => ?_)
          obtain ⟨j, hj, rfl⟩ := mem_getD hr
          rw [ok.val j hj]
          simp [vs, hj]
        have loop : ∀ (m i : Nat), i + m = b.length → Evt (fun k => lockboxlaw08_PolyOne.l0 k (bs p) (bs b) (ints8 (vs.take i)) (i : Int)) true := by
          intro m
          induction m with
          | zero =>
            intro i hi
            have h1 : Evt (fun k => (lockboxlaw08_awake.f k).bind fun t => if t = true then (if (0 : Int) = 0 then ((lockboxref08_Trim.f k (bs p)).bind fun t259 => (some ((bs (through b vs)).toList == t259.toList))) else (some false)) else (some false)) true := by
              refine Evt.bind aw ?_
              simp only [if_true]
              refine Evt.bind htr ?_
              simp only [hone, beq_self_eq_true]
              exact Evt.const
            have h0 : Evt (fun k => (poly_Through.f k (bs b) (bs vs)).bind fun u => (lockboxlaw08_awake.f k).bind fun t => if t = true then (if u.2 = 0 then ((lockboxref08_Trim.f k (bs p)).bind fun t259 => (some (u.1.toList == t259.toList))) else (some false)) else (some false)) true := Evt.bind ht h1
            refine Evt.succ (Evt.congr h0 fun k => ?_)
            simp only [lockboxlaw08_PolyOne.l0]
            rw [if_neg (by rw [bs_size]; omega), List.take_of_length_le (by omega), strOfNums_ints8]
          | succ m ih =>
            intro i hi
            have hi' : i < b.length := by omega
            have hiv : i < vs.length := by omega
            have hb : bt (bs b) (i : Int) = uz (b.getD i 0) := by rw [bt_uz _ _ (by rw [bs_size]; exact hi')]; simp [bs, hi']
            have hw : ∀ _ : Unit, wrap64 ((i : Int) + 1) = ((i + 1 : Nat) : Int) := fun _ => w_add1 (by omega)
            have hr := ih (i + 1) (by omega)
            have hg : vs[i] = pval p (b.getD i 0) := by simp [vs, hi']
            rw [List.take_succ_eq_append_getElem hiv, ints8_snoc, hg] at hr
            have h1 : Evt (fun k => (poly_Value.f k (bs p) (uz (b.getD i 0))).bind fun t => lockboxlaw08_PolyOne.l0 k (bs p) (bs b) (ints8 (vs.take i) ++ [t]) ((i + 1 : Nat) : Int)) true := Evt.bind (value_ev p _ (by omega)) hr
            refine Evt.succ (Evt.congr h1 fun k => ?_)
            simp only [lockboxlaw08_PolyOne.l0, bs_size]
            rw [if_pos (by omega), if_pos (by omega), hb]
            simp only [if_pos (show (ints8 (vs.take i)).length < 140737488355328 by rw [ints8_length, List.length_take]; omega), hw ()]
        refine Evt.succ (Evt.congr (loop b.length 0 (by omega)) fun k => ?_)
        simp only [lockboxlaw08_PolyOne.j0, Bool.false_eq_true, if_false]
        rfl
      · rw [bs_size, bs_size, decide_eq_true (by omega)]; exact bad
    · simp only [decide_eq_false hn, Bool.false_eq_true, if_false]; exact bad
  · have e : (decide (p.length ≤ 40) && decide (b.length ≤ 40)) = false := by simp; omega
    simp only [e, Bool.false_eq_true, if_false]
    exact bad
end Go.Proofs.YtbfbekkgmbfmhaaDoor.Pure
end
