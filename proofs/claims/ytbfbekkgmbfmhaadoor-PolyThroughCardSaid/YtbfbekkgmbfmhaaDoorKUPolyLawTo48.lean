import Derived.Test.YtbfbekkgmbfmhaaDoorKUPolyThr
import Derived.Test.YtbfbekkgmbfmhaaDoorKPrLockboxlaw08PolyThrough
section
namespace Go.Proofs.YtbfbekkgmbfmhaaDoor.U
open Go.RowKit Go.Proofs.YtbfbekkgmbfmhaaDoor.Pr Go.Proofs.YtbfbekkgmbfmhaaDoorW.PrintWords Go.Proofs.YtbfbekkgmbfmhaaDoorW.PrintLast Go.Proofs.YtbfbekkgmbfmhaaDoorW.PrintMore
theorem u8_of_wf {a : Int} (h : (Lit.int .u8 a).wf = true) : ∃ x : UInt8, a = uz x := by
  simp only [Lit.wf, Bool.and_eq_true, decide_eq_true_eq] at h
  have h0 : (0 : Int) ≤ a := h.1
  have h1 : a ≤ 255 := h.2
  refine ⟨UInt8.ofNat a.toNat, ?_⟩
  unfold uz
  simp
  omega
theorem as_bs (s : ByteArray) : ∃ l : List UInt8, s = bs l := ⟨s.data.toList, (bs_self s).symm⟩
theorem few_bs (most : Nat) (l m : List UInt8) : Evt (fun k => lockboxlaw08_few.f k (most : Int) [bs l, bs m]) (decide (l.length ≤ most) && decide (m.length ≤ most)) := by
  have h := few08_ev (most : Int) (bs l) (bs m)
  simp only [bs_size] at h
  have e1 : decide ((l.length : Int) ≤ (most : Int)) = decide (l.length ≤ most) := by apply decide_eq_decide.2; omega
  have e2 : decide ((m.length : Int) ≤ (most : Int)) = decide (m.length ≤ most) := by apply decide_eq_decide.2; omega
  rw [e1, e2] at h
  exact h
end Go.Proofs.YtbfbekkgmbfmhaaDoor.U
end
section
namespace Go.Proofs.YtbfbekkgmbfmhaaDoor.Pure
open Go.RowKit Go.Proofs.YtbfbekkgmbfmhaaDoor.U Go.Proofs.YtbfbekkgmbfmhaaDoor.Pr Go.Proofs.YtbfbekkgmbfmhaaDoorW.PrintWords Go.Proofs.YtbfbekkgmbfmhaaDoorW.PrintLast Go.Proofs.YtbfbekkgmbfmhaaDoorW.PrintMore
set_option linter.unusedVariables false
set_option linter.unusedSimpArgs false
theorem PolyThrough : lockboxlaw08_PolyThrough.Pure := by
  intro a0 a1 a2 _ _ h2
  obtain ⟨a, rfl⟩ := as_bs a0
  obtain ⟨b, rfl⟩ := as_bs a1
  obtain ⟨x, rfl⟩ := u8_of_wf h2
  have aw := awake08_ev
  refine Evt.get (Evt.bind (few_bs 60 a b) ?_)
  by_cases c : a.length ≤ 60 ∧ b.length ≤ 60
  · obtain ⟨c1, c2⟩ := c
    simp only [decide_eq_true c1, decide_eq_true c2, Bool.and_self, if_true]
    by_cases hp : pointsB a b = true
    · obtain ⟨p1, p2, p3⟩ := pointsB_iff.1 hp
      obtain ⟨⟨z, ok⟩, ht⟩ := through_ok a b p1 p3 (by omega)
      obtain ⟨p, hpp⟩ : ∃ p, p = through a b := ⟨_, rfl⟩
      rw [← hpp] at ok ht
      have hlen := ok.len
      refine Evt.bind ht (Evt.bind (ref_points_ev a b (by omega)) ?_)
      simp only [hp, if_true]
      have loop : ∀ (m i : Nat), i + m = a.length → Evt (fun k => lockboxlaw08_PolyThrough.l0 k (bs a) (bs b) (uz x) (bs p) 0 (i : Int)) true := by
        intro m
        induction m with
        | zero =>
          intro i hi
          have hat := ref_at_ev a b x (by omega)
          have htr := ref_trim_ev p (by omega)
          rw [ok.trim] at htr
          have hv := ref_value_ev p x (by omega)
          have h1 : Evt (fun k => (lockboxlaw08_awake.f k).bind fun t => if t = true then (if (0 : Int) = 0 then ((lockboxref08_Trim.f k (bs p)).bind fun t232 => (if (bs p).toList = t232.toList then (if ((bs p).size : Int) ≤ ((bs a).size : Int) then ((lockboxref08_Value.f k (bs p) (uz x)).bind fun t233 => (some (t233 == (atB a b x).1))) else (some false)) else (some false))) else (some false)) else some false) true := by
            refine Evt.bind aw ?_
            simp only [if_true]
            refine Evt.bind htr ?_
            simp only [if_true, bs_size]
            refine Evt.congr ?_ (fun k => if_pos (by omega))
            refine Evt.bind hv ?_
            have e : atB a b x = (uz (pval p x), 0) := by
              unfold atB
              rw [if_pos hp, weights_say p3 p1 (by omega) ok.val x]
            simp only [e, beq_self_eq_true]
            exact Evt.const
          have h0 : Evt (fun k => (lockboxref08_At.f k (bs a) (bs b) (uz x)).bind fun u => (lockboxlaw08_awake.f k).bind fun t => if t = true then (if (0 : Int) = 0 then ((lockboxref08_Trim.f k (bs p)).bind fun t232 => (if (bs p).toList = t232.toList then (if ((bs p).size : Int) ≤ ((bs a).size : Int) then ((lockboxref08_Value.f k (bs p) (uz x)).bind fun t233 => (some (t233 == u.1))) else (some false)) else (some false))) else (some false)) else some false) true := Evt.bind hat h1
          refine Evt.succ (Evt.congr h0 fun k => ?_)
          simp only [lockboxlaw08_PolyThrough.l0]
          rw [if_neg (by rw [bs_size]; omega)]
        | succ m ih =>
          intro i hi
          have hi' : i < a.length := by omega
          have hb : ∀ (l : List UInt8) i (hi : i < l.length), bt (bs l) (i : Int) = uz (l.getD i 0) := fun l i hi => by rw [bt_uz _ _ (by rw [bs_size]; exact hi)]; simp [bs, hi]
          have hw : ∀ _ : Unit, wrap64 ((i : Int) + 1) = ((i + 1 : Nat) : Int) := fun _ => w_add1 (by omega)
          have hv := ref_value_ev p (a.getD i 0) (by omega)
          rw [ok.val i hi'] at hv
          refine Evt.succ (Evt.congr (Evt.bind hv (g := fun k t => if t = uz (b.getD i 0) then lockboxlaw08_PolyThrough.l0 k (bs a) (bs b) (uz x) (bs p) 0 ((i + 1 : Nat) : Int) else some false) (Evt.congr (ih (i + 1) (by omega)) fun k => if_pos rfl)) fun k => ?_)
          simp only [lockboxlaw08_PolyThrough.l0, bs_size]
          rw [if_pos (by omega), if_pos (by omega), hb a i hi']
          simp only [if_pos (show (i : Int) < (b.length : Int) by omega), hb b i (by omega), hw ()]
      exact loop a.length 0 (by omega)
    · refine Evt.bind (through_bad a b hp (by omega)) (Evt.bind (ref_points_ev a b (by omega)) ?_)
      have e : pointsB a b = false := by simpa using hp
      simp only [e, Bool.false_eq_true, if_false]
      refine Evt.bind aw ?_
      simp only [if_true, toList_bs, beq_self_eq_true]
      exact Evt.const
  · have e : (decide (a.length ≤ 60) && decide (b.length ≤ 60)) = false := by simp; omega
    simp only [e, Bool.false_eq_true, if_false]
    exact Evt.bind aw Evt.const
end Go.Proofs.YtbfbekkgmbfmhaaDoor.Pure
end
