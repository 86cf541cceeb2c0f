import Derived.Test.YtbfbekkgmbfmhaaDoorKUPolyThr
import Derived.Test.YtbfbekkgmbfmhaaDoorKPrLockboxlaw08PolyLinear
section
namespace Go.Proofs.YtbfbekkgmbfmhaaDoor.U
open Go.RowKit Go.Proofs.YtbfbekkgmbfmhaaDoor.Pr Go.Proofs.YtbfbekkgmbfmhaaDoorW.PrintWords Go.Proofs.YtbfbekkgmbfmhaaDoorW.PrintLast Go.Proofs.YtbfbekkgmbfmhaaDoorW.PrintMore
theorem u8_of_wf {a : Int} (h : (Lit.int .u8 a).wf = true) : ∃ x : UInt8, a = uz x := by
  simp only [Lit.wf, Bool.and_eq_true, decide_eq_true_eq] at h
  have h0 : (0 : Int) ≤ a := h.1
  have h1 : a ≤ 255 := h.2
  refine ⟨UInt8.ofNat a.toNat, ?_⟩
  unfold uz
  simp
  omega
theorem as_bs (s : ByteArray) : ∃ l : List UInt8, s = bs l := ⟨s.data.toList, (bs_self s).symm⟩
theorem few_bs (most : Nat) (l m : List UInt8) : Evt (fun k => lockboxlaw08_few.f k (most : Int) [bs l, bs m]) (decide (l.length ≤ most) && decide (m.length ≤ most)) := by
  have h := few08_ev (most : Int) (bs l) (bs m)
  simp only [bs_size] at h
  have e1 : decide ((l.length : Int) ≤ (most : Int)) = decide (l.length ≤ most) := by apply decide_eq_decide.2; omega
  have e2 : decide ((m.length : Int) ≤ (most : Int)) = decide (m.length ≤ most) := by apply decide_eq_decide.2; omega
  rw [e1, e2] at h
  exact h
end Go.Proofs.YtbfbekkgmbfmhaaDoor.U
end
section
namespace Go.Proofs.YtbfbekkgmbfmhaaDoor.Pure
open Go.RowKit Go.Proofs.YtbfbekkgmbfmhaaDoor.U Go.Proofs.YtbfbekkgmbfmhaaDoor.Pr Go.Proofs.YtbfbekkgmbfmhaaDoorW.PrintWords Go.Proofs.YtbfbekkgmbfmhaaDoorW.PrintLast Go.Proofs.YtbfbekkgmbfmhaaDoorW.PrintMore
set_option linter.unusedVariables false
set_option linter.unusedSimpArgs false
def gsum : List UInt8 → UInt8
  | [] => 0
  | a :: l => a ^^^ gsum l
theorem gsum_dot : ∀ (l : List UInt8), gsum l = gdot l (l.map fun _ => 1)
  | [] => rfl
  | a :: l => by simp only [gsum, List.map_cons, gdot, gmul_one, gsum_dot l]
theorem PolyLinear : lockboxlaw08_PolyLinear.Pure := by
  intro a0 a1 a2 _ _ h2
  obtain ⟨p, rfl⟩ := as_bs a0
  obtain ⟨b, rfl⟩ := as_bs a1
  obtain ⟨x, rfl⟩ := u8_of_wf h2
  have aw := awake08_ev
  have bad : Evt (fun k => lockboxlaw08_PolyLinear.j0 k (bs p) (bs b) (uz x) true) true := Evt.succ (Evt.congr (Evt.bind aw Evt.const) fun k => by simp only [lockboxlaw08_PolyLinear.j0, if_true])
  refine Evt.get (Evt.bind (few_bs 40 p b) ?_)
  by_cases c : p.length ≤ 40 ∧ b.length ≤ 40
  · obtain ⟨c1, c2⟩ := c
    simp only [decide_eq_true c1, decide_eq_true c2, Bool.and_self, if_true]
    refine Evt.bind (ref_unlike_ev b (by omega)) ?_
    by_cases hn : b.Nodup
    · simp only [decide_eq_true hn, if_true]
      by_cases hl : p.length ≤ b.length
      · refine Evt.congr ?_ (fun k => if_neg (by rw [bs_size, bs_size]; omega))
        by_cases h0 : b.length = 0
        · have e : ((bs b).size : Int) == 0 := by rw [bs_size]; simp [h0]
          simp only [e]; exact bad
        · have e : (((bs b).size : Int) == 0) = false := by rw [bs_size]; simpa using h0
          simp only [e]
          let vs := b.map (pval p)
          have hvl : vs.length = b.length := by simp [vs]
          have hw := weights_ev b x (by omega)
          rw [if_pos hn] at hw
          have hwl := weights_length b x
          obtain ⟨w, hwd⟩ : ∃ w, w = weights b x := ⟨_, rfl⟩
          rw [← hwd] at hw hwl
          have hdot := ref_dot_ev (bs w) (bs vs) (by rw [bs_size]; omega)
          rw [if_pos (by rw [bs_size, bs_size]; omega), bs_list, bs_list] at hdot
          have e1 : gdot w vs = pval p x := by
            rw [hwd]
            refine (weights_say hn hvl.symm hl (fun j hj => ?_) x).symm
            simp [vs, hj]
          have e2 : gsum w = 1 := by
            have := weights_say (p := [1]) (vs := b.map fun _ => (1 : UInt8)) hn (by simp) (by simp; omega) (fun j hj => by simp [pval, gmul_zero, hj]) x
            rw [gsum_dot, hwd]
            have e3 : (weights b x).map (fun _ => (1 : UInt8)) = b.map fun _ => (1 : UInt8) := by
              rw [List.map_const', List.map_const', weights_length]
            rw [e3, ← this]
            simp [pval, gmul_zero]
          have sums : ∀ (m i : Nat) (s : UInt8), i + m = w.length → s ^^^ gsum (w.drop i) = 1 → Evt (fun k => lockboxlaw08_PolyLinear.l1 k (bs p) (bs b) (uz x) (bs w) 0 (ints8 vs) (uz s) (i : Int)) true := by
            intro m
            induction m with
            | zero =>
              intro i s hi hs
              rw [List.drop_of_length_le (by omega), gsum, UInt8.xor_zero] at hs
              subst hs
              have h1 : Evt (fun k => (lockboxlaw08_awake.f k).bind fun t => if t = true then (if (0 : Int) = 0 then (if ((bs w).size : Int) = ((bs b).size : Int) then (if uz 1 = 1 then ((lockboxref08_Value.f k (bs p) (uz x)).bind fun t275 => (some (uz (gdot w vs) == t275))) else (some false)) else (some false)) else (some false)) else (some false)) true := by
                refine Evt.bind aw ?_
                simp only [if_true, bs_size]
                refine Evt.congr ?_ (fun k => (if_pos (by omega)).trans (if_pos rfl))
                refine Evt.bind (ref_value_ev p x (by omega)) ?_
                simp only [e1, beq_self_eq_true]
                exact Evt.const
              have h0 : Evt (fun k => (lockboxref07_Dot.f k (bs w) (bs vs)).bind fun u => (lockboxlaw08_awake.f k).bind fun t => if t = true then (if (0 : Int) = 0 then (if ((bs w).size : Int) = ((bs b).size : Int) then (if uz 1 = 1 then ((lockboxref08_Value.f k (bs p) (uz x)).bind fun t275 => (some (u.1 == t275))) else (some false)) else (some false)) else (some false)) else (some false)) true := Evt.bind hdot h1
              refine Evt.succ (Evt.congr h0 fun k => ?_)
              simp only [lockboxlaw08_PolyLinear.l1]
              rw [if_neg (by rw [bs_size]; omega), strOfNums_ints8]
            | succ m ih =>
              intro i s hi hs
              have hi' : i < w.length := by omega
              have hb : bt (bs w) (i : Int) = uz w[i] := by rw [bt_uz _ _ (by rw [bs_size]; exact hi')]
              have hw1 : ∀ _ : Unit, wrap64 ((i : Int) + 1) = ((i + 1 : Nat) : Int) := fun _ => w_add1 (by omega)
              rw [List.drop_eq_getElem_cons hi', gsum, ← UInt8.xor_assoc] at hs
              refine Evt.succ (Evt.congr (ih (i + 1) _ (by omega) hs) fun k => ?_)
              simp only [lockboxlaw08_PolyLinear.l1, bs_size]
              rw [if_pos (by omega), if_pos (by omega), hb, uz_xor, hw1 ()]
          have loop : ∀ (m i : Nat), i + m = b.length → Evt (fun k => lockboxlaw08_PolyLinear.l0 k (bs p) (bs b) (uz x) (bs w) 0 (ints8 (vs.take i)) 0 (i : Int)) true := by
            intro m
            induction m with
            | zero =>
              intro i hi
              have := sums w.length 0 0 (by omega) (by rw [List.drop_zero, e2]; rfl)
              refine Evt.succ (Evt.congr this fun k => ?_)
              simp only [lockboxlaw08_PolyLinear.l0]
              rw [if_neg (by rw [bs_size]; omega), List.take_of_length_le (by omega)]
              rfl
            | succ m ih =>
              intro i hi
              have hi' : i < b.length := by omega
              have hiv : i < vs.length := by omega
              have hb : bt (bs b) (i : Int) = uz (b.getD i 0) := by rw [bt_uz _ _ (by rw [bs_size]; exact hi')]; simp [bs, hi']
              have hw1 : ∀ _ : Unit, wrap64 ((i : Int) + 1) = ((i + 1 : Nat) : Int) := fun _ => w_add1 (by omega)
              have hr := ih (i + 1) (by omega)
              have hg : vs[i] = pval p (b.getD i 0) := by simp [vs, hi']
              rw [List.take_succ_eq_append_getElem hiv, ints8_snoc, hg] at hr
              have h1 : Evt (fun k => (lockboxref08_Value.f k (bs p) (uz (b.getD i 0))).bind fun t => lockboxlaw08_PolyLinear.l0 k (bs p) (bs b) (uz x) (bs w) 0 (ints8 (vs.take i) ++ [t]) 0 ((i + 1 : Nat) : Int)) true := Evt.bind (ref_value_ev p _ (by omega)) hr
              refine Evt.succ (Evt.congr h1 fun k => ?_)
              simp only [lockboxlaw08_PolyLinear.l0, bs_size]
              rw [if_pos (by omega), if_pos (by omega), hb]
              simp only [if_pos (show (ints8 (vs.take i)).length < 140737488355328 by rw [ints8_length, List.length_take]; omega), hw1 ()]
          refine Evt.succ (Evt.congr (Evt.bind hw (g := fun k t => lockboxlaw08_PolyLinear.l0 k (bs p) (bs b) (uz x) t.1 t.2 ([] : List Int) 0 0) (loop b.length 0 (by omega))) fun k => ?_)
          simp only [lockboxlaw08_PolyLinear.j0, Bool.false_eq_true, if_false]
      · refine Evt.congr bad (fun k => if_pos (by rw [bs_size, bs_size]; omega))
    · simp only [decide_eq_false hn, Bool.false_eq_true, if_false]; exact bad
  · have e : (decide (p.length ≤ 40) && decide (b.length ≤ 40)) = false := by simp; omega
    simp only [e, Bool.false_eq_true, if_false]
    exact bad
end Go.Proofs.YtbfbekkgmbfmhaaDoor.Pure
end
