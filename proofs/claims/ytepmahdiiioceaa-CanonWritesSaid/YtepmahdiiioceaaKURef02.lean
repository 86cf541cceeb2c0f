import Derived.Test.YtepmahdiiioceaaKUOpenItemTo46
import Derived.Test.YtepmahdiiioceaaKPrLockboxlaw02Ref
import Derived.Test.YtepmahdiiioceaaKPrLockboxref02Encode
import Derived.Test.YtepmahdiiioceaaKPrLockboxref02Same
namespace Go.Proofs.Ytepmahdiiioceaa.U
open Go.RowKit Go.Proofs.Ytepmahdiiioceaa.Pr Go.Proofs.YtepmahdiiioceaaW.PrintWords Go.Proofs.YtepmahdiiioceaaW.PrintLast Go.Proofs.YtepmahdiiioceaaW.PrintMore
set_option linter.unusedVariables false
def refItem (x : S25) : S44 := ⟨x.f0, x.f1, x.f2, x.f3.attach.map fun y => refItem y.1⟩
termination_by SizeOf.sizeOf x
decreasing_by exact item_lt y.2
theorem refItem_eq (x : S25) : refItem x = ⟨x.f0, x.f1, x.f2, x.f3.map refItem⟩ := by
  rw [refItem]
  congr 1
  rw [List.attach_map_val (l := x.f3) (f := refItem)]
theorem refItem_f0 (x : S25) : (refItem x).f0 = x.f0 := by rw [refItem_eq]
theorem refItem_f1 (x : S25) : (refItem x).f1 = x.f1 := by rw [refItem_eq]
theorem refItem_f2 (x : S25) : (refItem x).f2 = x.f2 := by rw [refItem_eq]
theorem refItem_f3 (x : S25) : (refItem x).f3 = x.f3.map refItem := by rw [refItem_eq]

theorem ref_ev (x : S25) (hx : GoodItem x) : Evt (fun k => lockboxlaw02_Ref.f k x.f0 x.f1 x.f2 x.f3) (x.f0, x.f1, x.f2, x.f3.map refItem) := by
  induction hx with
  | mk x h0 h1 h2 h3 h4 ih =>
    have loop : ∀ (j i : Nat) (acc : List S44), i + j = x.f3.length → acc.length = i → Evt (fun k => lockboxlaw02_Ref.l0 k i x.f0 x.f1 x.f2 x.f3 x.f0 x.f1 x.f2 acc) (x.f0, x.f1, x.f2, acc ++ (x.f3.drop i).map refItem) := by
      intro j
      induction j with
      | zero =>
        intro i acc hi ha
        refine Evt.succ (Evt.of fun k => ?_)
        simp only [lockboxlaw02_Ref.l0]
        rw [if_neg (by omega), List.drop_of_length_le (by omega)]
        simp
      | succ j ihj =>
        intro i acc hi ha
        have hi' : i < x.f3.length := by omega
        have hlt : (i : Int) < (x.f3.length : Int) := by omega
        have hal : ∀ N : Nat, 2513169434843 < N → acc.length < N := fun N h => by omega
        have hrd : rd_T25 x.f3 (i : Int) = x.f3[i] := by simp [rd_T25, hi']
        have hi1 : wrap64 ((i : Int) + 1) = ((i + 1 : Nat) : Int) := by rw [wrap64_nat (by omega) (by omega)]; rfl
        have hr := ihj (i + 1) (acc ++ [refItem x.f3[i]]) (by omega) (by simp [ha])
        rw [List.append_assoc] at hr
        refine Evt.succ (Evt.congr (Evt.bind (ih x.f3[i] (List.getElem_mem _)) (g := fun k t => if acc.length < 2513169434916 then lockboxlaw02_Ref.l0 k ((i + 1 : Nat) : Int) x.f0 x.f1 x.f2 x.f3 x.f0 x.f1 x.f2 (acc ++ [⟨t.1, t.2.1, t.2.2.1, t.2.2.2⟩]) else none) ?_) (fun k => ?_))
        · rw [List.drop_eq_getElem_cons hi', List.map_cons]
          refine Evt.congr hr (fun k => ?_)
          rw [if_pos (hal _ (by decide)), refItem_eq]
        · simp only [lockboxlaw02_Ref.l0]
          rw [if_pos hlt, if_pos (Int.natCast_nonneg i)]
          simp only [hrd, hi1]
    refine Evt.succ (Evt.congr (loop x.f3.length 0 [] (by omega) rfl) (fun k => ?_))
    simp only [lockboxlaw02_Ref.f]
    rfl

theorem toList_nil (s : ByteArray) : (s.toList = ([] : List UInt8)) ↔ s.size = 0 := by
  rw [ByteArray.toList_eq]
  constructor
  · intro h; have := congrArg List.length h; simpa using this
  · intro h; rw [size_zero h]
theorem check_ev : ∀ (d : Nat) (x : S25), d ≤ 6 → GoodItem x → Evt (fun k => lockboxref02_Check.f k (refItem x).f0 (refItem x).f1 (refItem x).f2 (refItem x).f3 (6 - (d : Int))) (canon_chk d x) := by
  have scal : ∀ (d : Nat) (x : S25) (a : Int), x.f0 ≠ 3 → Evt (fun k => lockboxref02_Check.f k (refItem x).f0 (refItem x).f1 (refItem x).f2 (refItem x).f3 a) (canon_chk d x) := by
    intro d x a h3
    refine Evt.succ (Evt.succ (Evt.of fun k => ?_))
    simp only [lockboxref02_Check.f, lockboxref02_Check.j0, refItem_f0, refItem_f1, refItem_f2, refItem_f3, List.length_map, toList_nil]
    have e : canon_chk d x = (if x.f0 = 1 then decide (0 ≤ x.f1) && decide (x.f1 ≤ 72057594037927935) && decide (x.f2.size = 0) && decide (x.f3.length = 0) else if x.f0 = 2 then decide (x.f1 = 0) && decide (x.f2.size ≤ 65536) && decide (x.f3.length = 0) else false) := by
      cases d with
      | zero => simp only [canon_chk]
      | succ d => simp only [canon_chk, if_neg h3]
    rw [e]
    have hl : ((x.f3.length : Int) == 0) = decide (x.f3.length = 0) := by
      by_cases h : x.f3.length = 0
      · simp [h]
      · rw [decide_eq_false h]; simp; simpa using h
    by_cases c1 : x.f0 = 1
    · rw [if_pos c1, if_pos c1]
      by_cases c2 : 0 ≤ x.f1
      · by_cases c3 : x.f1 ≤ 72057594037927935
        · by_cases c4 : x.f2.size = 0
          · rw [if_pos c2, if_pos c3, if_pos c4, hl, decide_eq_true c2, decide_eq_true c3, decide_eq_true c4]; rfl
          · rw [if_pos c2, if_pos c3, if_neg c4, decide_eq_false c4]; simp
        · rw [if_pos c2, if_neg c3, decide_eq_false c3]; simp
      · rw [if_neg c2, decide_eq_false c2]; simp
    · rw [if_neg c1, if_neg c1]
      by_cases c5 : x.f0 = 2
      · rw [if_pos c5, if_pos c5]
        by_cases c6 : x.f1 = 0
        · by_cases c7 : x.f2.size ≤ 65536
          · rw [if_pos c6, if_pos (by omega), hl, decide_eq_true c6, decide_eq_true c7]; rfl
          · rw [if_pos c6, if_neg (by omega), decide_eq_false c7]; simp
        · rw [if_neg c6, decide_eq_false c6]; simp
      · rw [if_neg c5, if_neg c5, if_neg h3]
        simp
  have badlist : ∀ (x : S25) (a : Int), (x.f0 = 3 ∧ (x.f1 ≠ 0 ∨ x.f2.size ≠ 0 ∨ 1024 < x.f3.length ∨ a ≥ 6)) → Evt (fun k => lockboxref02_Check.f k (refItem x).f0 (refItem x).f1 (refItem x).f2 (refItem x).f3 a) false := by
    intro x a ⟨h3, h⟩
    refine Evt.succ (Evt.succ (Evt.of fun k => ?_))
    simp only [lockboxref02_Check.f, lockboxref02_Check.j0, refItem_f0, refItem_f1, refItem_f2, refItem_f3, List.length_map, toList_nil, if_true]
    rw [if_neg (by omega), if_neg (by omega), if_pos h3]
    by_cases c1 : x.f1 = 0
    · rw [if_pos c1]
      by_cases c2 : x.f2.size = 0
      · rw [if_pos c2]
        by_cases c3 : (x.f3.length : Int) > 1024
        · rw [if_pos c3]
        · rw [if_neg c3, if_pos]
          exact decide_eq_true (by omega)
      · rw [if_neg c2]
    · rw [if_neg c1]
  intro d
  induction d with
  | zero =>
    intro x hd hx
    by_cases h3 : x.f0 = 3
    · have := badlist x (6 - ((0 : Nat) : Int)) ⟨h3, .inr (.inr (.inr (by decide)))⟩
      rw [show canon_chk 0 x = false from by simp [canon_chk, h3]]
      exact this
    · exact scal 0 x _ h3
  | succ d ih =>
    intro x hd hx
    by_cases h3 : x.f0 = 3
    · have e : canon_chk (d + 1) x = (decide (x.f3.length ≤ 1024) && decide (x.f2.size = 0) && decide (x.f1 = 0) && x.f3.all (canon_chk d)) := by simp [canon_chk, h3]
      by_cases c1 : x.f1 = 0
      · by_cases c2 : x.f2.size = 0
        · by_cases c3 : x.f3.length ≤ 1024
          · rw [e, decide_eq_true c1, decide_eq_true c2, decide_eq_true c3]
            simp only [Bool.true_and]
            have loop : ∀ (j i : Nat), i + j = x.f3.length → Evt (fun k => lockboxref02_Check.l0 k (6 - ((d + 1 : Nat) : Int)) i x.f0 x.f1 x.f2 (x.f3.map refItem)) ((x.f3.drop i).all (canon_chk d)) := by
              intro j
              induction j with
              | zero =>
                intro i hi
                refine Evt.succ (Evt.of fun k => ?_)
                simp only [lockboxref02_Check.l0, List.length_map]
                rw [if_neg (by omega), List.drop_of_length_le (by omega)]
                rfl
              | succ j ihj =>
                intro i hi
                have hi' : i < x.f3.length := by omega
                have hlt : (i : Int) < (x.f3.length : Int) := by omega
                have hrd : rd_T44 (x.f3.map refItem) (i : Int) = refItem x.f3[i] := by simp [rd_T44, hi']
                have hi1 : wrap64 ((i : Int) + 1) = ((i + 1 : Nat) : Int) := by rw [wrap64_nat (by omega) (by omega)]; rfl
                have hd1 : wrap64 (6 - ((d + 1 : Nat) : Int) + 1) = 6 - (d : Int) := by rw [wrap64_nat (by omega) (by omega)]; omega
                refine Evt.succ (Evt.congr (Evt.bind (ih x.f3[i] (by omega) (hx.sub (List.getElem_mem _))) (g := fun k t => if t = true then lockboxref02_Check.l0 k (6 - ((d + 1 : Nat) : Int)) ((i + 1 : Nat) : Int) x.f0 x.f1 x.f2 (x.f3.map refItem) else some false) ?_) (fun k => ?_))
                · rw [List.drop_eq_getElem_cons hi', List.all_cons]
                  cases hb : canon_chk d x.f3[i] with
                  | true => simp only [if_true, Bool.true_and]; exact ihj (i + 1) (by omega)
                  | false => exact Evt.const
                · simp only [lockboxref02_Check.l0, List.length_map]
                  rw [if_pos hlt, if_pos (Int.natCast_nonneg i)]
                  simp only [hrd, hi1, hd1]
            refine Evt.succ (Evt.congr (Evt.succ (f := fun k => lockboxref02_Check.j0 k (6 - ((d + 1 : Nat) : Int)) false x.f0 x.f1 x.f2 (x.f3.map refItem)) (Evt.congr (loop x.f3.length 0 (by omega)) (fun k => ?_))) (fun k => ?_))
            · simp only [lockboxref02_Check.j0]
              rfl
            · simp only [lockboxref02_Check.f, refItem_f0, refItem_f1, refItem_f2, refItem_f3, List.length_map, toList_nil]
              rw [if_neg (by omega), if_neg (by omega), if_pos h3, if_pos c1, if_pos c2, if_neg (by omega), decide_eq_false (by omega)]
          · rw [e, decide_eq_false c3]
            exact badlist x _ ⟨h3, .inr (.inr (.inl (by omega)))⟩
        · rw [e, decide_eq_false c2]
          simp only [Bool.and_false, Bool.false_and]
          exact badlist x _ ⟨h3, .inr (.inl c2)⟩
      · rw [e, decide_eq_false c1]
        simp only [Bool.and_false, Bool.false_and]
        exact badlist x _ ⟨h3, .inl c1⟩
    · exact scal (d + 1) x _ h3

theorem strOfNums_one (n : Int) : strOfNums [n] = ⟨#[UInt8.ofNat n.toNat]⟩ := by
  simp [strOfNums]
theorem rnum_ev (m : Nat) (hm : m < 72057594037927936) : Evt (fun k => lockboxref02_Num.f k (m : Int)) ⟨(numB m).toArray⟩ := by
  have h7 : numLen m ≤ 7 := numLen_le (by simpa using hm)
  have loop : ∀ (j i : Nat), i + j = numLen m → Evt (fun k => lockboxref02_Num.l0 k ((m / 256 ^ i : Nat) : Int) ⟨(digs i m).toArray⟩) ⟨(numB m).toArray⟩ := by
    intro j
    induction j with
    | zero =>
      intro i hi
      obtain rfl : i = numLen m := by omega
      refine Evt.succ (Evt.of fun k => ?_)
      simp only [lockboxref02_Num.l0]
      rw [numLen_done]
      rw [if_neg (by decide)]
      simp only [Option.bind_some]
      have hs : (⟨(digs (numLen m) m).toArray⟩ : ByteArray).size = numLen m := by simp [ByteArray.size, digs_length]
      rw [hs, strOfNums_one]
      have h2 : (((numLen m : Nat) : Int) % 256).toNat = numLen m := by omega
      rw [h2, if_pos (by simp [ByteArray.size, digs_length]; omega)]
      congr 1
    | succ j ihj =>
      intro i hi
      have hpos := numLen_least (n := m) (k := i) (by omega)
      have hlt : m / 256 ^ i ≤ m := Nat.div_le_self _ _
      have hq : ((m / 256 ^ i : Nat) : Int) > 0 := by omega
      have hr := ihj (i + 1) (by omega)
      refine Evt.succ (Evt.congr hr (fun k => ?_))
      simp only [lockboxref02_Num.l0]
      rw [if_pos hq]
      simp only [Option.bind_some, strOfNums_one]
      have hsz : (⟨#[UInt8.ofNat (Int.tmod ((m / 256 ^ i : Nat) : Int) 256 % 256).toNat]⟩ : ByteArray).size + (⟨(digs i m).toArray⟩ : ByteArray).size ≤ 9223372036854775807 := by
        simp [ByteArray.size, digs_length]; omega
      rw [if_pos hsz]
      have e1 : wrap64 (Int.tdiv ((m / 256 ^ i : Nat) : Int) 256) = ((m / 256 ^ (i + 1) : Nat) : Int) := by
        rw [Int.tdiv_eq_ediv_of_nonneg (by omega), wrap64_nat (by omega) (by omega), Nat.pow_succ, ← Nat.div_div_eq_div_mul]; rfl
      have e2 : (⟨#[UInt8.ofNat (Int.tmod ((m / 256 ^ i : Nat) : Int) 256 % 256).toNat]⟩ : ByteArray) ++ ⟨(digs i m).toArray⟩ = ⟨(digs (i + 1) m).toArray⟩ := by
        apply ByteArray.ext
        rw [Int.tmod_eq_emod_of_nonneg (by omega)]
        have : (((m / 256 ^ i : Nat) : Int) % 256 % 256).toNat = (m / 256 ^ i) % 256 := by omega
        rw [this]
        have hb : UInt8.ofNat ((m / 256 ^ i) % 256) = UInt8.ofNat (m / 256 ^ i) := by
          apply UInt8.toNat_inj.1; simp
        rw [hb]
        simp [digs]
      rw [e1, e2]
  have := loop (numLen m) 0 (by omega)
  unfold lockboxref02_Num.f
  simpa [digs] using this

theorem wr_len : ∀ (d : Nat) (x : S25), canon_chk d x = true → (canon_wr d x).length ≤ 10 * tot x := by
  have hnl : ∀ n : Nat, n < 72057594037927936 → numLen n ≤ 7 := fun n hn => numLen_le (by simpa using hn)
  have ht : ∀ x : S25, 1 + x.f2.size ≤ tot x := fun x => by rw [tot_eq]; omega
  intro d
  induction d with
  | zero =>
    rintro ⟨x0, x1, x2, l⟩ h
    have h1 := ht ⟨x0, x1, x2, l⟩
    simp only at h1
    rcases canon_chk_kind h with rfl | rfl | rfl
    · obtain ⟨h2, h3, _, rfl⟩ := canon_chk_num h
      have := hnl x1.toNat (by omega)
      rw [canon_wr_num, numB_length]; omega
    · obtain ⟨_, h2, rfl⟩ := canon_chk_text h
      have := hnl x2.size (by omega)
      rw [canon_wr_text, List.length_cons, List.length_append, numB_length, size_list]; omega
    · obtain ⟨e, he, _⟩ := canon_chk_list h; cases he
  | succ d ih =>
    rintro ⟨x0, x1, x2, l⟩ h
    have h1 := ht ⟨x0, x1, x2, l⟩
    simp only at h1
    rcases canon_chk_kind h with rfl | rfl | rfl
    · obtain ⟨h2, h3, _, rfl⟩ := canon_chk_num h
      have := hnl x1.toNat (by omega)
      rw [canon_wr_num, numB_length]; omega
    · obtain ⟨_, h2, rfl⟩ := canon_chk_text h
      have := hnl x2.size (by omega)
      rw [canon_wr_text, List.length_cons, List.length_append, numB_length, size_list]; omega
    · obtain ⟨e, he, h2, h3, _, h4⟩ := canon_chk_list h
      obtain rfl : d = e := by omega
      have := hnl l.length (by omega)
      rw [canon_wr_list, List.length_cons, List.length_append, numB_length, tot_eq]
      simp only
      have hs : (l.flatMap (canon_wr d)).length ≤ 10 * (l.map tot).sum := by
        clear h1 h2 this h
        induction l with
        | nil => simp
        | cons y l ihl =>
          rw [List.flatMap_cons, List.length_append, List.map_cons, List.sum_cons]
          have a := ih y (h4 y (by simp))
          have b := ihl (fun z hz => h4 z (by simp [hz]))
          omega
      omega

theorem write_ev : ∀ (d : Nat) (x : S25), canon_chk d x = true → (canon_wr d x).length ≤ 4611686018427387904 → Evt (fun k => lockboxref02_Write.f k (refItem x).f0 (refItem x).f1 (refItem x).f2 (refItem x).f3) ⟨(canon_wr d x).toArray⟩ := by
  have num : ∀ (d : Nat) (x1 : Int) (x2 : ByteArray) (l : List S25), canon_chk d ⟨1, x1, x2, l⟩ = true → Evt (fun k => lockboxref02_Write.f k (refItem ⟨1, x1, x2, l⟩).f0 (refItem ⟨1, x1, x2, l⟩).f1 (refItem ⟨1, x1, x2, l⟩).f2 (refItem ⟨1, x1, x2, l⟩).f3) ⟨(canon_wr d ⟨1, x1, x2, l⟩).toArray⟩ := by
    intro d x1 x2 l h
    obtain ⟨h2, h3, _, rfl⟩ := canon_chk_num h
    obtain ⟨m, rfl⟩ : ∃ m : Nat, x1 = m := ⟨x1.toNat, by omega⟩
    rw [canon_wr_num, Int.toNat_natCast]
    refine Evt.succ (Evt.congr (Evt.bind (rnum_ev m (by omega)) Evt.const) (fun k => ?_))
    simp only [lockboxref02_Write.f, refItem_f0, refItem_f1, if_true]
  have text : ∀ (d : Nat) (x1 : Int) (x2 : ByteArray) (l : List S25), canon_chk d ⟨2, x1, x2, l⟩ = true → Evt (fun k => lockboxref02_Write.f k (refItem ⟨2, x1, x2, l⟩).f0 (refItem ⟨2, x1, x2, l⟩).f1 (refItem ⟨2, x1, x2, l⟩).f2 (refItem ⟨2, x1, x2, l⟩).f3) ⟨(canon_wr d ⟨2, x1, x2, l⟩).toArray⟩ := by
    intro d x1 x2 l h
    obtain ⟨_, h2, rfl⟩ := canon_chk_text h
    have h7 : numLen x2.size ≤ 7 := numLen_le (by simp; omega)
    rw [canon_wr_text]
    refine Evt.succ (Evt.congr (Evt.bind (rnum_ev x2.size (by omega)) (g := fun k t319 => (if 1 + t319.size ≤ 9223372036854775807 then (if ((⟨#[8]⟩ : ByteArray) ++ t319).size + x2.size ≤ 9223372036854775807 then (some (((⟨#[8]⟩ : ByteArray) ++ t319) ++ x2)) else (none)) else (none))) ?_) (fun k => ?_))
    · have e1 : (⟨(numB x2.size).toArray⟩ : ByteArray).size = numLen x2.size + 1 := by show (numB x2.size).toArray.size = _; rw [List.size_toArray, numB_length]
      have e2 : (⟨#[8]⟩ ++ ⟨(numB x2.size).toArray⟩ : ByteArray).size = numLen x2.size + 2 := by rw [ByteArray.size_append, e1]; show 1 + (numLen x2.size + 1) = _; omega
      refine Evt.of fun k => ?_
      rw [if_pos (by rw [e1]; omega), if_pos (by rw [e2]; omega)]
      congr 1
    · simp only [lockboxref02_Write.f, refItem_f0, refItem_f2]
      rfl
  intro d
  induction d with
  | zero =>
    rintro ⟨x0, x1, x2, l⟩ h _
    rcases canon_chk_kind h with rfl | rfl | rfl
    · exact num 0 x1 x2 l h
    · exact text 0 x1 x2 l h
    · obtain ⟨e, he, _⟩ := canon_chk_list h; cases he
  | succ d ih =>
    rintro ⟨x0, x1, x2, l⟩ h hlen
    rcases canon_chk_kind h with rfl | rfl | rfl
    · exact num (d + 1) x1 x2 l h
    · exact text (d + 1) x1 x2 l h
    · obtain ⟨e, he, h2, h3, _, h4⟩ := canon_chk_list h
      obtain rfl : d = e := by omega
      have h7 : numLen l.length ≤ 7 := numLen_le (by simp; omega)
      rw [canon_wr_list] at hlen ⊢
      have loop : ∀ (j i : Nat) (acc : List UInt8), i + j = l.length → acc ++ (l.drop i).flatMap (canon_wr d) = 9 :: (numB l.length ++ l.flatMap (canon_wr d)) → Evt (fun k => lockboxref02_Write.l0 k ⟨acc.toArray⟩ i 3 x1 x2 (l.map refItem)) ⟨(9 :: (numB l.length ++ l.flatMap (canon_wr d))).toArray⟩ := by
        intro j
        induction j with
        | zero =>
          intro i acc hi ha
          refine Evt.succ (Evt.of fun k => ?_)
          simp only [lockboxref02_Write.l0, List.length_map]
          rw [if_neg (by omega)]
          rw [List.drop_of_length_le (by omega)] at ha
          simp only [List.flatMap_nil, List.append_nil] at ha
          rw [ha]
        | succ j ihj =>
          intro i acc hi ha
          have hi' : i < l.length := by omega
          have hlt : (i : Int) < (l.length : Int) := by omega
          have hrd : rd_T44 (l.map refItem) (i : Int) = refItem l[i] := by simp [rd_T44, hi']
          have hi1 : wrap64 ((i : Int) + 1) = ((i + 1 : Nat) : Int) := by rw [wrap64_nat (by omega) (by omega)]; rfl
          rw [List.drop_eq_getElem_cons hi', List.flatMap_cons, ← List.append_assoc] at ha
          have hl1 := congrArg List.length ha
          rw [List.length_append, List.length_append] at hl1
          have hw := ih l[i] (h4 _ (List.getElem_mem _)) (by omega)
          refine Evt.succ (Evt.congr (Evt.bind hw (g := fun k t => if (⟨acc.toArray⟩ : ByteArray).size + t.size ≤ 9223372036854775807 then lockboxref02_Write.l0 k (⟨acc.toArray⟩ ++ t) ((i + 1 : Nat) : Int) 3 x1 x2 (l.map refItem) else none) ?_) (fun k => ?_))
          · refine Evt.congr (ihj (i + 1) (acc ++ canon_wr d l[i]) (by omega) ha) (fun k => ?_)
            rw [if_pos (by simp only [ByteArray.size, List.size_toArray]; omega)]
            congr 1
          · simp only [lockboxref02_Write.l0, List.length_map]
            rw [if_pos hlt, if_pos (Int.natCast_nonneg i)]
            simp only [hrd, hi1]
      refine Evt.succ (Evt.congr (Evt.bind (rnum_ev l.length (by omega)) (g := fun k t320 => (if 1 + t320.size ≤ 9223372036854775807 then (lockboxref02_Write.l0 k ((⟨#[9]⟩ : ByteArray) ++ t320) 0 3 x1 x2 (l.map refItem)) else (none))) ?_) (fun k => ?_))
      · refine Evt.congr (loop l.length 0 (9 :: numB l.length) (by omega) (by simp)) (fun k => ?_)
        rw [if_pos (by simp [ByteArray.size, numB_length]; omega)]
        congr 1
      · simp only [lockboxref02_Write.f, refItem_f0, refItem_f1, refItem_f2, refItem_f3, List.length_map]
        rfl

/-- What the document's writer answers, if the item is not too great. -/
theorem rencode_ev (x : S25) (hx : GoodItem x) (ht : tot x ≤ 100000) : ∃ (s : ByteArray) (e : Int), canon_Encode.f x.f0 x.f1 x.f2 x.f3 = some (s, e) ∧ Evt (fun k => lockboxref02_Encode.f k x.f0 x.f1 x.f2 (x.f3.map refItem)) (s, e) := by
  have hc := check_ev 6 x (by omega) hx
  simp only [refItem_f0, refItem_f1, refItem_f2, refItem_f3] at hc
  by_cases h1 : canon_chk 6 x = true
  · have hl := wr_len 6 x h1
    have hw := write_ev 6 x h1 (by omega)
    simp only [refItem_f0, refItem_f1, refItem_f2, refItem_f3] at hw
    have hsz : (⟨(canon_wr 6 x).toArray⟩ : ByteArray).size = (canon_wr 6 x).length := by simp [ByteArray.size]
    rw [h1] at hc
    by_cases h2 : (canon_wr 6 x).length ≤ 65536
    · refine ⟨_, _, canon_enc_ok x h1 h2, ?_⟩
      unfold lockboxref02_Encode.f
      refine Evt.bind hc ?_
      simp only [if_true]
      refine Evt.bind hw (Evt.of fun k => ?_)
      rw [if_neg (by rw [hsz]; omega)]
    · refine ⟨_, _, canon_enc_long x h1 h2, ?_⟩
      unfold lockboxref02_Encode.f
      refine Evt.bind hc ?_
      simp only [if_true]
      refine Evt.bind hw (Evt.of fun k => ?_)
      rw [if_pos (by rw [hsz]; omega)]
  · refine ⟨_, _, canon_enc_arg x h1, ?_⟩
    have h1' : canon_chk 6 x = false := by simpa using h1
    rw [h1'] at hc
    unfold lockboxref02_Encode.f
    refine Evt.bind hc (Evt.of fun k => rfl)

/-- The two comparisons say the same. -/
theorem same_ev (x : S25) (hx : GoodItem x) : ∀ (y : S25), GoodItem y → ∃ b : Bool, Evt (fun k => canon_Same.f k x.f0 x.f1 x.f2 x.f3 y.f0 y.f1 y.f2 y.f3) b ∧ Evt (fun k => lockboxref02_Same.f k x.f0 x.f1 x.f2 (x.f3.map refItem) y.f0 y.f1 y.f2 (y.f3.map refItem)) b := by
  induction hx with
  | mk x h0 h1 h2 h3 h4 ih =>
    intro y hy
    have hbad : (x.f0 ≠ y.f0 ∨ x.f1 ≠ y.f1 ∨ x.f2 ≠ y.f2 ∨ x.f3.length ≠ y.f3.length) → ∃ b : Bool, Evt (fun k => canon_Same.f k x.f0 x.f1 x.f2 x.f3 y.f0 y.f1 y.f2 y.f3) b ∧ Evt (fun k => lockboxref02_Same.f k x.f0 x.f1 x.f2 (x.f3.map refItem) y.f0 y.f1 y.f2 (y.f3.map refItem)) b := by
      intro hne
      refine ⟨false, Evt.succ (Evt.of fun k => ?_), Evt.succ (Evt.succ (Evt.of fun k => ?_))⟩
      · simp only [canon_Same.f]
        by_cases a : x.f0 = y.f0
        · rw [if_pos a]
          by_cases b : x.f1 = y.f1
          · rw [if_pos b]
            by_cases c : x.f2 = y.f2
            · rw [if_pos c, if_neg]
              intro d
              exact hne.elim (fun h => h a) (fun h => h.elim (fun h => h b) (fun h => h.elim (fun h => h c) (fun h => h d)))
            · rw [if_neg c]
          · rw [if_neg b]
        · rw [if_neg a]
      · simp only [lockboxref02_Same.f, lockboxref02_Same.j0, List.length_map]
        by_cases a : x.f0 = y.f0
        · rw [if_pos a]
          by_cases b : x.f1 = y.f1
          · rw [if_pos b]
            by_cases c : x.f2 = y.f2
            · rw [if_pos (by rw [c]), if_pos]
              simp only [bne_iff_ne, ne_eq]
              intro d
              exact hne.elim (fun h => h a) (fun h => h.elim (fun h => h b) (fun h => h.elim (fun h => h c) (fun h => h (by omega))))
            · rw [if_neg]
              · rfl
              · intro d
                apply c
                rw [ByteArray.toList_eq, ByteArray.toList_eq] at d
                exact ByteArray.ext (Array.toList_inj.1 d)
          · rw [if_neg b]; rfl
        · rw [if_neg a]; rfl
    by_cases a : x.f0 = y.f0
    · by_cases b : x.f1 = y.f1
      · by_cases c : x.f2 = y.f2
        · by_cases d : x.f3.length = y.f3.length
          · have loop : ∀ (j i : Nat), i + j = x.f3.length → ∃ b : Bool, Evt (fun k => canon_eqAll (fun x y => canon_Same.f k x.f0 x.f1 x.f2 x.f3 y.f0 y.f1 y.f2 y.f3) (x.f3.drop i) (y.f3.drop i)) b ∧ Evt (fun k => lockboxref02_Same.l0 k i x.f0 x.f1 x.f2 (x.f3.map refItem) y.f0 y.f1 y.f2 (y.f3.map refItem)) b := by
              intro j
              induction j with
              | zero =>
                intro i hi
                refine ⟨true, Evt.of fun k => ?_, Evt.succ (Evt.of fun k => ?_)⟩
                · rw [List.drop_of_length_le (by omega), List.drop_of_length_le (by omega)]; rfl
                · simp only [lockboxref02_Same.l0, List.length_map]
                  rw [if_neg (by omega)]
              | succ j ihj =>
                intro i hi
                have hi' : i < x.f3.length := by omega
                have hiy : i < y.f3.length := by omega
                have hlt : (i : Int) < (x.f3.length : Int) := by omega
                have hlty : (i : Int) < (y.f3.length : Int) := by omega
                have hrd : rd_T44 (x.f3.map refItem) (i : Int) = refItem x.f3[i] := by simp [rd_T44, hi']
                have hrdy : rd_T44 (y.f3.map refItem) (i : Int) = refItem y.f3[i] := by simp [rd_T44, hiy]
                have hi1 : wrap64 ((i : Int) + 1) = ((i + 1 : Nat) : Int) := by rw [wrap64_nat (by omega) (by omega)]; rfl
                obtain ⟨b1, e1, e2⟩ := ih x.f3[i] (List.getElem_mem _) y.f3[i] (hy.sub (List.getElem_mem _))
                obtain ⟨b2, e3, e4⟩ := ihj (i + 1) (by omega)
                rw [List.drop_eq_getElem_cons hi', List.drop_eq_getElem_cons hiy]
                have step : ∀ k, lockboxref02_Same.l0 (k + 1) i x.f0 x.f1 x.f2 (x.f3.map refItem) y.f0 y.f1 y.f2 (y.f3.map refItem) = (lockboxref02_Same.f k x.f3[i].f0 x.f3[i].f1 x.f3[i].f2 (x.f3[i].f3.map refItem) y.f3[i].f0 y.f3[i].f1 y.f3[i].f2 (y.f3[i].f3.map refItem)).bind fun t => if t = true then lockboxref02_Same.l0 k ((i + 1 : Nat) : Int) x.f0 x.f1 x.f2 (x.f3.map refItem) y.f0 y.f1 y.f2 (y.f3.map refItem) else some false := by
                  intro k
                  simp only [lockboxref02_Same.l0, List.length_map]
                  rw [if_pos hlt, if_pos (Int.natCast_nonneg i), if_pos hlty]
                  simp only [hrd, hrdy, hi1, refItem_f0, refItem_f1, refItem_f2, refItem_f3]
                cases b1 with
                | true => exact ⟨b2, Evt.congr (Evt.bind e1 (g := fun k b => if b = true then canon_eqAll (fun x y => canon_Same.f k x.f0 x.f1 x.f2 x.f3 y.f0 y.f1 y.f2 y.f3) (x.f3.drop (i + 1)) (y.f3.drop (i + 1)) else some false) (Evt.congr e3 (fun k => if_pos rfl))) (fun k => by simp only [canon_eqAll]), Evt.succ (Evt.congr (Evt.bind e2 (g := fun k t => if t = true then lockboxref02_Same.l0 k ((i + 1 : Nat) : Int) x.f0 x.f1 x.f2 (x.f3.map refItem) y.f0 y.f1 y.f2 (y.f3.map refItem) else some false) (Evt.congr e4 (fun k => if_pos rfl))) step)⟩
                | false => exact ⟨false, Evt.congr (Evt.bind e1 (g := fun k b => if b = true then canon_eqAll (fun x y => canon_Same.f k x.f0 x.f1 x.f2 x.f3 y.f0 y.f1 y.f2 y.f3) (x.f3.drop (i + 1)) (y.f3.drop (i + 1)) else some false) (Evt.of fun k => rfl)) (fun k => by simp only [canon_eqAll]), Evt.succ (Evt.congr (Evt.bind e2 (g := fun k t => if t = true then lockboxref02_Same.l0 k ((i + 1 : Nat) : Int) x.f0 x.f1 x.f2 (x.f3.map refItem) y.f0 y.f1 y.f2 (y.f3.map refItem) else some false) (Evt.of fun k => rfl)) step)⟩
            obtain ⟨b0, e1, e2⟩ := loop x.f3.length 0 (by omega)
            refine ⟨b0, Evt.succ (Evt.congr e1 (fun k => ?_)), Evt.succ (Evt.congr (Evt.succ (f := fun k => lockboxref02_Same.j0 k false x.f0 x.f1 x.f2 (x.f3.map refItem) y.f0 y.f1 y.f2 (y.f3.map refItem)) (Evt.congr e2 (fun k => ?_))) (fun k => ?_))⟩
            · simp only [canon_Same.f]
              rw [if_pos a, if_pos b, if_pos c, if_pos d]
              rfl
            · simp only [lockboxref02_Same.j0]
              rfl
            · simp only [lockboxref02_Same.f, List.length_map]
              have hb : ((x.f3.length : Int) != (y.f3.length : Int)) = false := by rw [d]; simp
              rw [if_pos a, if_pos b, if_pos (by rw [c]), hb]
          · exact hbad (.inr (.inr (.inr d)))
        · exact hbad (.inr (.inr (.inl c)))
      · exact hbad (.inr (.inl b))
    · exact hbad (.inl a)
end Go.Proofs.Ytepmahdiiioceaa.U
