import Derived.Test.YtepmahdiiioceaaKUOpen
import Derived.Test.YtepmahdiiioceaaKUItemTo42
import Derived.Test.YtepmahdiiioceaaKPrLockboxlaw02Few
import Derived.Test.YtepmahdiiioceaaKPrCanonSame
section
namespace Go.Proofs.Ytepmahdiiioceaa.U
open Go.RowKit Go.Proofs.YtepmahdiiioceaaW.PrintWords Go.Proofs.YtepmahdiiioceaaW.PrintLast Go.Proofs.YtepmahdiiioceaaW.PrintMore Go.ChangeShapes Go.WideShapes Go.Deep Go.Proofs.Ytepmahdiiioceaa.Pr
inductive GoodItem : S25 → Prop
  | mk (x : S25) : (Lit.int .i64 x.f0).wf = true → (Lit.int .i64 x.f1).wf = true → x.f2.size ≤ 140737488351232 → x.f3.length ≤ 2513169434843 → (∀ y ∈ x.f3, GoodItem y) → GoodItem x
theorem opn_item : ∀ n, OpN Try.prog n k25 25 GoodItem := by
  intro n
  induction n using Nat.strongRecOn with
  | _ n ih =>
    have h1 : OpN Try.prog n _ 25 _ := opn_struct (n := n) Try.underlying25 (by kernel_rfl) (by kernel_rfl) rfl (fun m hm => OpF.cons (opn_int m Try.underlying3) (OpF.cons (opn_int m Try.underlying3) (OpF.cons (opn_string m Try.underlying9) (OpF.one (opn_slice (n := m) Try.underlying23 (by kernel_rfl) (fun q hq => ih q (by omega)))))))
    intro H enc w base spare held fuel cs x hf ht hz
    obtain ⟨⟨a, b, c, l⟩, hk, g1, g2, g3, g4, g5, g6⟩ := h1 H enc w base spare held fuel cs x hf ht hz
    obtain ⟨_, _, rfl, rfl, ⟨_, _, rfl, rfl, ⟨_, _, rfl, rfl, ⟨A3, c3, rfl, l3, r3⟩⟩⟩⟩ := hk
    refine ⟨⟨a, b, c, l⟩, k25_mk w ⟨a, b, c, l⟩ l3 r3, .mk _ g1 g2 g3 ?_ g6⟩
    have hb : Try.prog.bytesOf 25 = 56 := by kernel_rfl
    simp only [hb, reachBytes] at g4
    simp only
    omega
end Go.Proofs.Ytepmahdiiioceaa.U
end
section
namespace Go.Proofs.Ytepmahdiiioceaa.U
open Go.RowKit Go.Proofs.Ytepmahdiiioceaa.Pr Go.Proofs.YtepmahdiiioceaaW.PrintWords Go.Proofs.YtepmahdiiioceaaW.PrintLast Go.Proofs.YtepmahdiiioceaaW.PrintMore
set_option linter.unusedVariables false
theorem item_lt {x y : S25} (h : y ∈ x.f3) : SizeOf.sizeOf y < SizeOf.sizeOf x := by
  cases x with
  | mk a b c l =>
    have := List.sizeOf_lt_of_mem h
    simp only [S25.mk.sizeOf_spec]
    simp only at this
    omega
def tot (x : S25) : Nat := 1 + x.f2.size + (x.f3.attach.map fun y => tot y.1).sum
termination_by SizeOf.sizeOf x
decreasing_by exact item_lt y.2
theorem tot_eq (x : S25) : tot x = 1 + x.f2.size + (x.f3.map tot).sum := by
  rw [tot]
  congr 2
  rw [List.attach_map_val (l := x.f3) (f := tot)]
theorem GoodItem.sub {x y : S25} (h : GoodItem x) (hy : y ∈ x.f3) : GoodItem y := by
  cases h with
  | mk _ _ _ _ _ h => exact h y hy
theorem size_ev (most : Int) (hm0 : 0 ≤ most) (hm : most < 1099511627776) : ∀ (m d : Nat) (x : S25), d + m = 9 → GoodItem x →
    ∃ r : Int, Evt (fun k => lockboxlaw02_size.f k x.f0 x.f1 x.f2 x.f3 d most) r ∧ 0 ≤ r ∧ r ≤ most + 1 ∧ (r ≤ most → r = (tot x : Int)) := by
  intro m
  induction m with
  | zero =>
    intro d x hd hx
    refine ⟨most + 1, Evt.succ (Evt.succ (Evt.of fun k => ?_)), by omega, by omega, fun h => by omega⟩
    simp only [lockboxlaw02_size.f, lockboxlaw02_size.j0]
    rw [if_pos (by omega)]
    simp only [if_true]
    rw [wrap64_nat (by omega) (by omega)]
  | succ m ih =>
    intro d x hd hx
    have hs : x.f2.size ≤ 140737488351232 := by cases hx; assumption
    have hl : x.f3.length ≤ 2513169434843 := by cases hx; assumption
    have hw : wrap64 (1 + (x.f2.size : Int)) = 1 + (x.f2.size : Int) := wrap64_nat (by omega) (by omega)
    by_cases hb : 1 + (x.f2.size : Int) > most
    · refine ⟨most + 1, Evt.succ (Evt.succ (Evt.of fun k => ?_)), by omega, by omega, fun h => by omega⟩
      simp only [lockboxlaw02_size.f, lockboxlaw02_size.j0, hw]
      rw [if_neg (by omega)]
      simp only [decide_eq_true hb, if_true]
      rw [wrap64_nat (by omega) (by omega)]
    · have loop : ∀ (j i : Nat) (n : Int), i + j = x.f3.length → 0 ≤ n → n ≤ most → ∃ r : Int, Evt (fun k => lockboxlaw02_size.l0 k d most n i x.f0 x.f1 x.f2 x.f3) r ∧ 0 ≤ r ∧ r ≤ most + 1 ∧ (r ≤ most → r = n + (((x.f3.drop i).map tot).sum : Nat)) := by
        intro j
        induction j with
        | zero =>
          intro i n hi h0 hn
          refine ⟨n, Evt.succ (Evt.of fun k => ?_), h0, by omega, fun _ => by rw [List.drop_of_length_le (by omega)]; simp⟩
          simp only [lockboxlaw02_size.l0]
          rw [if_neg (by omega)]
        | succ j ihj =>
          intro i n hi h0 hn
          have hi' : i < x.f3.length := by omega
          obtain ⟨t, ht, t0, t1, t2⟩ := ih (d + 1) x.f3[i] (by omega) (hx.sub (List.getElem_mem _))
          have hlt : (i : Int) < (x.f3.length : Int) := by omega
          have hrd : rd_T25 x.f3 (i : Int) = x.f3[i] := by simp [rd_T25, hi']
          have hd1 : wrap64 ((d : Int) + 1) = ((d + 1 : Nat) : Int) := by rw [wrap64_nat (by omega) (by omega)]; rfl
          have hi1 : wrap64 ((i : Int) + 1) = ((i + 1 : Nat) : Int) := by rw [wrap64_nat (by omega) (by omega)]; rfl
          have hnt : wrap64 (n + t) = n + t := wrap64_nat (by omega) (by omega)
          have hm1 : wrap64 (most + 1) = most + 1 := wrap64_nat (by omega) (by omega)
          have hstep : ∀ k, lockboxlaw02_size.l0 (k + 1) d most n i x.f0 x.f1 x.f2 x.f3 = (lockboxlaw02_size.f k x.f3[i].f0 x.f3[i].f1 x.f3[i].f2 x.f3[i].f3 ((d + 1 : Nat) : Int) most).bind fun t => if wrap64 (n + t) > most then some (most + 1) else lockboxlaw02_size.l0 k d most (wrap64 (n + t)) ((i + 1 : Nat) : Int) x.f0 x.f1 x.f2 x.f3 := by
            intro k
            simp only [lockboxlaw02_size.l0]
            rw [if_pos hlt, if_pos (Int.natCast_nonneg i)]
            simp only [hrd, hd1, hi1, hm1]
          by_cases hbig : n + t > most
          · refine ⟨most + 1, Evt.succ (Evt.congr (Evt.bind ht ?_) hstep), by omega, by omega, fun h => by omega⟩
            refine Evt.of fun k => ?_
            rw [hnt, if_pos hbig]
          · obtain ⟨r, hr, r0, r1, r2⟩ := ihj (i + 1) (n + t) (by omega) (by omega) (by omega)
            refine ⟨r, Evt.succ (Evt.congr (Evt.bind ht ?_) hstep), r0, r1, fun h => ?_⟩
            · exact Evt.congr hr (fun k => by rw [hnt, if_neg hbig])
            · rw [r2 h, t2 (by omega), List.drop_eq_getElem_cons hi', List.map_cons, List.sum_cons]
              omega
      obtain ⟨r, hr, r0, r1, r2⟩ := loop x.f3.length 0 (1 + (x.f2.size : Int)) (by omega) (by omega) (by omega)
      refine ⟨r, Evt.succ (Evt.congr (Evt.succ (f := fun k => lockboxlaw02_size.j0 k d most (1 + (x.f2.size : Int)) false x.f0 x.f1 x.f2 x.f3) (Evt.congr hr (fun k => ?_))) (fun k => ?_)), r0, r1, fun h => ?_⟩
      · simp only [lockboxlaw02_size.j0]
        rfl
      · simp only [lockboxlaw02_size.f, hw]
        rw [if_neg (by omega)]
        simp only [decide_eq_false hb]
      · rw [r2 h, List.drop_zero, tot_eq]
        omega
theorem few_ev (most : Int) (hm0 : 0 ≤ most) (hm : most < 1099511627776) (x : S25) (hx : GoodItem x) : ∃ b : Bool, Evt (fun k => lockboxlaw02_Few.f k x.f0 x.f1 x.f2 x.f3 most) b ∧ (b = true → (tot x : Int) ≤ most) := by
  obtain ⟨r, hr, r0, r1, r2⟩ := size_ev most hm0 hm 9 0 x rfl hx
  refine ⟨decide (r ≤ most), ?_, fun h => ?_⟩
  · unfold lockboxlaw02_Few.f
    exact Evt.bind hr Evt.const
  · have := of_decide_eq_true h
    rw [← r2 this]; exact this
end Go.Proofs.Ytepmahdiiioceaa.U
end
section
namespace Go.Proofs.Ytepmahdiiioceaa.U
open Go.RowKit Go.Proofs.Ytepmahdiiioceaa.Pr Go.Proofs.YtepmahdiiioceaaW.PrintWords Go.Proofs.YtepmahdiiioceaaW.PrintLast Go.Proofs.YtepmahdiiioceaaW.PrintMore
end Go.Proofs.Ytepmahdiiioceaa.U
end
