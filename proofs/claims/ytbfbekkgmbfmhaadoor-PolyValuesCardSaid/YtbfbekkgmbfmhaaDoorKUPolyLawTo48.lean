import Derived.Test.YtbfbekkgmbfmhaaDoorKUPolyThr
import Derived.Test.YtbfbekkgmbfmhaaDoorKPrLockboxlaw08PolyValues
section
namespace Go.Proofs.YtbfbekkgmbfmhaaDoor.U
open Go.RowKit Go.Proofs.YtbfbekkgmbfmhaaDoor.Pr Go.Proofs.YtbfbekkgmbfmhaaDoorW.PrintWords Go.Proofs.YtbfbekkgmbfmhaaDoorW.PrintLast Go.Proofs.YtbfbekkgmbfmhaaDoorW.PrintMore
theorem u8_of_wf {a : Int} (h : (Lit.int .u8 a).wf = true) : ∃ x : UInt8, a = uz x := by
  simp only [Lit.wf, Bool.and_eq_true, decide_eq_true_eq] at h
  have h0 : (0 : Int) ≤ a := h.1
  have h1 : a ≤ 255 := h.2
  refine ⟨UInt8.ofNat a.toNat, ?_⟩
  unfold uz
  simp
  omega
theorem as_bs (s : ByteArray) : ∃ l : List UInt8, s = bs l := ⟨s.data.toList, (bs_self s).symm⟩
theorem few_bs (most : Nat) (l m : List UInt8) : Evt (fun k => lockboxlaw08_few.f k (most : Int) [bs l, bs m]) (decide (l.length ≤ most) && decide (m.length ≤ most)) := by
  have h := few08_ev (most : Int) (bs l) (bs m)
  simp only [bs_size] at h
  have e1 : decide ((l.length : Int) ≤ (most : Int)) = decide (l.length ≤ most) := by apply decide_eq_decide.2; omega
  have e2 : decide ((m.length : Int) ≤ (most : Int)) = decide (m.length ≤ most) := by apply decide_eq_decide.2; omega
  rw [e1, e2] at h
  exact h
end Go.Proofs.YtbfbekkgmbfmhaaDoor.U
end
section
namespace Go.Proofs.YtbfbekkgmbfmhaaDoor.Pure
open Go.RowKit Go.Proofs.YtbfbekkgmbfmhaaDoor.U Go.Proofs.YtbfbekkgmbfmhaaDoor.Pr Go.Proofs.YtbfbekkgmbfmhaaDoorW.PrintWords Go.Proofs.YtbfbekkgmbfmhaaDoorW.PrintLast Go.Proofs.YtbfbekkgmbfmhaaDoorW.PrintMore
set_option linter.unusedVariables false
set_option linter.unusedSimpArgs false
theorem PolyValues : lockboxlaw08_PolyValues.Pure := by
  intro a0 a1 a2 _ _ h2
  obtain ⟨a, rfl⟩ := as_bs a0
  obtain ⟨b, rfl⟩ := as_bs a1
  obtain ⟨x, rfl⟩ := u8_of_wf h2
  have aw := awake08_ev
  refine Evt.get (Evt.bind (few_bs 100 a b) ?_)
  by_cases c : a.length ≤ 100 ∧ b.length ≤ 100
  · obtain ⟨c1, c2⟩ := c
    have l1 := paddT_length a b
    have l2 := ptrim_length (prow a b a.length 0)
    rw [prow_length] at l2
    have va := value_ev a x (by omega)
    have vb := value_ev b x (by omega)
    have g1 : Evt (fun k => gf_Add.f (uz (pval a x)) (uz (pval b x))) (uz (pval a x ^^^ pval b x)) := Evt.of fun k => by simp only [gf_Add.f, uz_xor]
    simp only [decide_eq_true c1, decide_eq_true c2, Bool.and_self, if_true]
    refine Evt.bind aw ?_
    simp only [if_true]
    refine Evt.bind (add_ev a b (by omega) (by omega)) (Evt.bind (value_ev (paddT a b) x (by omega)) (Evt.bind va (Evt.bind vb (Evt.bind g1 ?_))))
    simp only [paddT_val, if_true]
    refine Evt.bind (mul_ev a b (by omega) (by omega)) (Evt.bind (value_ev (pmulT a b) x (by unfold pmulT; omega)) (Evt.bind va (Evt.bind vb (Evt.bind (gf_mul_ev (pval a x) (pval b x)) ?_))))
    simp only [pmulT_val, if_true]
    refine Evt.bind (add_ev a a (by omega) (by omega)) ?_
    have e : paddT a a = [] := ptrim_padd_self a
    simp only [e, toList_bs, beq_self_eq_true]
    exact Evt.const
  · have e : (decide (a.length ≤ 100) && decide (b.length ≤ 100)) = false := by simp; omega
    simp only [e, Bool.false_eq_true, if_false]
    exact Evt.bind aw Evt.const
end Go.Proofs.YtbfbekkgmbfmhaaDoor.Pure
end
