import Derived.Test.YtepmahdiiioceaaKUItemTo42
import Derived.Test.YtepmahdiiioceaaKPrCanonReaderItem
import Derived.Test.YtepmahdiiioceaaKPrCanonFront
import Derived.Test.YtepmahdiiioceaaKPrCanonDecode
namespace Go.Proofs.Ytepmahdiiioceaa.U
set_option linter.unusedVariables false
set_option linter.unusedSimpArgs false
open Go.RowKit Go.Proofs.Ytepmahdiiioceaa.Pr Go.Proofs.YtepmahdiiioceaaW.PrintWords Go.Proofs.YtepmahdiiioceaaW.PrintLast Go.Proofs.YtepmahdiiioceaaW.PrintMore

theorem octet_bad (s : ByteArray) (p e : Int) (h : e ≠ 0) : canon_reader_octet.f s p e = some (0, s, p, e) := by
  simp [canon_reader_octet.f, h]
theorem octet_cases (s : ByteArray) (p : Nat) (hp : p ≤ 65536) (hs : p ≤ s.size) :
    (∃ e : Int, e ≠ 0 ∧ roct (s.data.toList.drop p) (65536 - p) = .error e ∧ canon_reader_octet.f s p 0 = some (0, s, (p : Int), e)) ∨
    (∃ c : UInt8, p + 1 ≤ 65536 ∧ p + 1 ≤ s.size ∧ roct (s.data.toList.drop p) (65536 - p) = .ok (c, s.data.toList.drop (p + 1), 65536 - (p + 1)) ∧ canon_reader_octet.f s p 0 = some ((c.toNat : Int), s, ((p + 1 : Nat) : Int), 0)) := by
  by_cases h1 : p = 65536
  · subst h1
    exact .inl ⟨3, by decide, rfl, by simp [canon_reader_octet.f, canon_reader_fail.f]⟩
  · obtain ⟨q, hq⟩ : ∃ q, 65536 - p = q + 1 := ⟨65536 - p - 1, by omega⟩
    by_cases h2 : p = s.size
    · refine .inl ⟨7, by decide, ?_, ?_⟩
      · rw [hq, List.drop_of_length_le (by rw [size_list]; omega)]; rfl
      · have h3 : ¬ (p : Int) ≥ 65536 := by omega
        have h4 : (p : Int) ≥ (s.size : Int) := by omega
        simp only [canon_reader_octet.f, canon_reader_fail.f, if_true, if_neg h3, if_pos h4, Option.bind_some]
    · obtain ⟨c, hc, hb⟩ := bt_eq s p (by omega)
      refine .inr ⟨c, by omega, by omega, ?_, ?_⟩
      · rw [hq, hc, show 65536 - (p + 1) = q from by omega]; rfl
      · have h3 : ¬ (p : Int) ≥ 65536 := by omega
        have h4 : ¬ (p : Int) ≥ (s.size : Int) := by omega
        have h5 : wrap64 ((p : Int) + 1) = ((p + 1 : Nat) : Int) := by rw [wrap64_nat (by omega) (by omega)]; rfl
        have h6 : wrap64 (((p + 1 : Nat) : Int) - 1) = (p : Int) := by rw [wrap64_nat (by omega) (by omega)]; omega
        have h7 : (0 : Int) ≤ (p : Int) := by omega
        have h8 : (p : Int) < (s.size : Int) := by omega
        simp only [canon_reader_octet.f, if_true, if_neg h3, if_neg h4, h5, h6, if_pos h7, if_pos h8, hb]

theorem number_bad (s : ByteArray) (p e : Int) (h : e ≠ 0) : Evt (fun k => canon_reader_number.f k s p e 0) (0, s, p, e) := by
  refine Evt.succ (Evt.succ (Evt.of fun k => ?_))
  simp only [canon_reader_number.f, canon_reader_number.j0, canon_reader_number.l0]
  rw [if_neg (by omega), if_neg (by rw [wrap64_nat (by omega) (by omega)]; omega)]
theorem number_loop (s : ByteArray) (c : Nat) (hc : c ≤ 7) : ∀ (m i v p : Nat), 1 ≤ i → i + m = c → v < 256 ^ i → p ≤ 65536 → p ≤ s.size →
    (∃ (e p' : Int), e ≠ 0 ∧ roctN m (s.data.toList.drop p) (65536 - p) = .error e ∧ Evt (fun k => canon_reader_number.l0 k v c i s p 0) (0, s, p', e)) ∨
    (∃ (xs : List UInt8) (p' : Nat), p' ≤ 65536 ∧ p' ≤ s.size ∧ roctN m (s.data.toList.drop p) (65536 - p) = .ok (xs, s.data.toList.drop p', 65536 - p') ∧ Evt (fun k => canon_reader_number.l0 k v c i s p 0) (((v * 256 ^ m + val xs : Nat) : Int), s, (p' : Int), 0)) := by
  intro m
  induction m with
  | zero =>
    intro i v p h1 hi hv hp hs
    refine .inr ⟨[], p, hp, hs, rfl, Evt.succ (Evt.of fun k => ?_)⟩
    simp only [canon_reader_number.l0]
    rw [if_neg (by omega)]
    simp [val_nil]
  | succ m ih =>
    intro i v p h1 hi hv hp hs
    have hlt : (i : Int) < (c : Int) := by omega
    rcases octet_cases s p hp hs with ⟨e, he, h2, h3⟩ | ⟨x, hp', hs', h2, h3⟩
    · refine .inl ⟨e, p, he, rbind_err h2, Evt.succ (Evt.of fun k => ?_)⟩
      simp only [canon_reader_number.l0]
      rw [if_pos hlt, h3]
      simp only [Option.bind_some]
      rw [if_neg he]
    · have hp6 : (256 : Nat) ^ i ≤ 256 ^ 6 := Nat.pow_le_pow_right (by decide) (by omega)
      have hx := x.toNat_lt
      have hv2 : v * 256 + x.toNat < 256 ^ (i + 1) := by rw [Nat.pow_succ]; omega
      have hstep : ∀ k, canon_reader_number.l0 (k + 1) v c i s p 0 = canon_reader_number.l0 k ((v * 256 + x.toNat : Nat) : Int) c ((i + 1 : Nat) : Int) s ((p + 1 : Nat) : Int) 0 := by
        intro k
        simp only [canon_reader_number.l0]
        rw [if_pos hlt, h3]
        simp only [Option.bind_some, if_true]
        rw [if_neg (by omega), or_byte v x.toNat (by omega) (by omega), wrap64_nat (by omega) (by omega)]
        rfl
      rcases ih (i + 1) (v * 256 + x.toNat) (p + 1) (by omega) (by omega) hv2 hp' hs' with ⟨e, p', he, h4, h5⟩ | ⟨xs, p', hq, hqs, h4, h5⟩
      · exact .inl ⟨e, p', he, by simp only [roctN]; rw [rbind_of h2]; exact rbind_err h4, Evt.succ (Evt.congr h5 hstep)⟩
      · refine .inr ⟨x :: xs, p', hq, hqs, ?_, Evt.succ ?_⟩
        · simp only [roctN]; rw [rbind_of h2, rbind_of h4]; rfl
        · have e1 : (v * 256 + x.toNat) * 256 ^ m + val xs = v * 256 ^ (m + 1) + val (x :: xs) := by
            obtain ⟨e0, _, _⟩ := roctN_ok _ _ _ _ _ _ h4
            rw [val_cons, e0, Nat.pow_succ, Nat.add_mul, Nat.mul_assoc v 256, Nat.mul_comm 256 (256 ^ m)]; omega
          rw [← e1]
          exact Evt.congr h5 hstep
theorem number_cases (s : ByteArray) (c p : Nat) (hc : c < 256) (hp : p ≤ 65536) (hs : p ≤ s.size) :
    (∃ (e p' : Int), e ≠ 0 ∧ rnum c (s.data.toList.drop p) (65536 - p) = .error e ∧ Evt (fun k => canon_reader_number.f k s p 0 c) (0, s, p', e)) ∨
    (∃ (n p' : Nat), p' ≤ 65536 ∧ p' ≤ s.size ∧ rnum c (s.data.toList.drop p) (65536 - p) = .ok (n, s.data.toList.drop p', 65536 - p') ∧ Evt (fun k => canon_reader_number.f k s p 0 c) ((n : Int), s, (p' : Int), 0)) := by
  have hw : wrap64 (c : Int) = (c : Int) := wrap64_nat (by omega) (by omega)
  by_cases h7 : 7 < c
  · refine .inl ⟨3, p, by decide, by simp only [rnum, if_pos h7]; rfl, Evt.succ (Evt.succ (Evt.of fun k => ?_))⟩
    simp only [canon_reader_number.f, canon_reader_fail.f, canon_reader_number.j0, canon_reader_number.l0, hw]
    rw [if_pos (by omega)]
    simp only [if_true, Option.bind_some]
    rw [if_pos (by omega), octet_bad _ _ _ (by decide)]
    simp
  · have hstep0 : ∀ k, canon_reader_number.f (k + 1) s p 0 c = canon_reader_number.l0 k 0 c 0 s p 0 := by
      intro k
      simp only [canon_reader_number.f, canon_reader_number.j0, hw]
      rw [if_neg (by omega)]
    rcases c with _ | m
    · refine .inr ⟨0, p, hp, hs, rfl, Evt.succ (Evt.succ (Evt.of fun k => ?_))⟩
      rw [hstep0]
      simp only [canon_reader_number.l0]
      rw [if_neg (by omega)]
      rfl
    · have hlt : (0 : Int) < ((m + 1 : Nat) : Int) := by omega
      have hr : rnum (m + 1) = rbind roct fun x => if x = 0 then rerr 3 else rbind (roctN m) fun xs => rret (val (x :: xs)) := by unfold rnum; rw [if_neg h7]
      rw [hr]
      rcases octet_cases s p hp hs with ⟨e, he, h2, h3⟩ | ⟨x, hp', hs', h2, h3⟩
      · refine .inl ⟨e, p, he, rbind_err h2, Evt.succ (Evt.succ (Evt.of fun k => ?_))⟩
        rw [hstep0]
        simp only [canon_reader_number.l0]
        rw [if_pos hlt, h3]
        simp only [Option.bind_some]
        rw [if_neg he]
      · have hx := x.toNat_lt
        by_cases hx0 : x = 0
        · subst hx0
          refine .inl ⟨3, ((p + 1 : Nat) : Int), by decide, by rw [rbind_of h2]; rfl, Evt.succ (Evt.succ (Evt.of fun k => ?_))⟩
          rw [hstep0]
          simp only [canon_reader_number.l0]
          rw [if_pos hlt, h3]
          simp [canon_reader_fail.f]
        · have hxn : x.toNat ≠ 0 := fun e => hx0 (UInt8.toNat_inj.1 e)
          have hstep : ∀ k, canon_reader_number.f (k + 1 + 1) s p 0 ((m + 1 : Nat) : Int) = canon_reader_number.l0 k (x.toNat : Int) ((m + 1 : Nat) : Int) ((1 : Nat) : Int) s ((p + 1 : Nat) : Int) 0 := by
            intro k
            rw [hstep0]
            simp only [canon_reader_number.l0]
            rw [if_pos hlt, h3]
            simp only [Option.bind_some, if_true]
            rw [if_neg (by omega)]
            have := or_byte 0 x.toNat (by omega) (by omega)
            simp only [Nat.zero_mul, Nat.zero_add] at this
            rw [show ((0 : Nat) : Int) = 0 from rfl] at this
            rw [this, wrap64_nat (by omega) (by omega)]
            rfl
          rcases number_loop s (m + 1) (by omega) m 1 x.toNat (p + 1) (by omega) (by omega) (by omega) hp' hs' with ⟨e, p', he, h4, h5⟩ | ⟨xs, p', hq, hqs, h4, h5⟩
          · exact .inl ⟨e, p', he, by rw [rbind_of h2, if_neg hx0]; exact rbind_err h4, Evt.succ (Evt.succ (Evt.congr h5 hstep))⟩
          · refine .inr ⟨val (x :: xs), p', hq, hqs, by rw [rbind_of h2, if_neg hx0, rbind_of h4]; rfl, Evt.succ (Evt.succ ?_)⟩
            obtain ⟨e0, _, _⟩ := roctN_ok _ _ _ _ _ _ h4
            rw [val_cons, e0]
            exact Evt.congr h5 hstep

theorem text_bad (s : ByteArray) (p e n : Int) (h : e ≠ 0) : canon_reader_text.f s p e n = some (⟨#[]⟩, s, p, e) := by
  simp [canon_reader_text.f, h]
theorem text_cases (s : ByteArray) (n p : Nat) (hz : s.size < 4611686018427387904) (hn : n < 72057594037927936) (hp : p ≤ 65536) (hs : p ≤ s.size) :
    (∃ (e p' : Int), e ≠ 0 ∧ rtake n (s.data.toList.drop p) (65536 - p) = .error e ∧ canon_reader_text.f s p 0 n = some (⟨#[]⟩, s, p', e)) ∨
    (∃ (t : List UInt8) (p' : Nat), p' ≤ 65536 ∧ p' ≤ s.size ∧ rtake n (s.data.toList.drop p) (65536 - p) = .ok (t, s.data.toList.drop p', 65536 - p') ∧ canon_reader_text.f s p 0 n = some (⟨t.toArray⟩, s, (p' : Int), 0)) := by
  have w1 : wrap64 (65536 - (p : Int)) = 65536 - (p : Int) := wrap64_nat (by omega) (by omega)
  have w2 : wrap64 ((s.size : Int) - (p : Int)) = (s.size : Int) - (p : Int) := wrap64_nat (by omega) (by omega)
  by_cases h1 : 65536 - p < n
  · refine .inl ⟨3, p, by decide, by simp only [rtake, if_pos h1], ?_⟩
    simp only [canon_reader_text.f, canon_reader_fail.f, w1, if_true]
    rw [if_pos (by omega)]; rfl
  · by_cases h2 : s.size - p < n
    · refine .inl ⟨7, p, by decide, by simp only [rtake, if_neg h1, List.length_drop, size_list, if_pos h2], ?_⟩
      simp only [canon_reader_text.f, canon_reader_fail.f, w1, w2, if_true]
      rw [if_neg (by omega), if_pos (by omega)]; rfl
    · have w3 : wrap64 ((p : Int) + (n : Int)) = ((p + n : Nat) : Int) := by rw [wrap64_nat (by omega) (by omega)]; rfl
      have w4 : wrap64 (((p + n : Nat) : Int) - (n : Int)) = (p : Int) := by rw [wrap64_nat (by omega) (by omega)]; omega
      refine .inr ⟨(s.data.toList.drop p).take n, p + n, by omega, by omega, ?_, ?_⟩
      · simp only [rtake, if_neg h1, List.length_drop, size_list, if_neg h2, List.drop_drop]
        rw [show 65536 - p - n = 65536 - (p + n) from by omega]
      · simp only [canon_reader_text.f, w1, w2, w3, w4, if_true]
        rw [if_neg (by omega), if_neg (by omega), if_pos (by omega), if_pos (by omega), if_pos (by omega), Int.toNat_natCast, Int.toNat_natCast, extract_eq, show p + n - p = n from by omega]

def ItemAt (d : Nat) : Prop := ∀ (s : ByteArray) (p : Nat), s.size < 4611686018427387904 → p ≤ 65536 → p ≤ s.size →
    (∃ (e : Int) (R : Int × Int × ByteArray × List S25 × ByteArray × Int × Int), e ≠ 0 ∧ R.2.2.2.2.1 = s ∧ R.2.2.2.2.2.2 = e ∧ ritem d (s.data.toList.drop p) (65536 - p) = .error e ∧ Evt (fun k => canon_reader_item.f k s p 0 (6 - (d : Int))) R) ∨
    (∃ (x : S25) (p' : Nat), p' ≤ 65536 ∧ p' ≤ s.size ∧ ritem d (s.data.toList.drop p) (65536 - p) = .ok (x, s.data.toList.drop p', 65536 - p') ∧ Evt (fun k => canon_reader_item.f k s p 0 (6 - (d : Int))) (x.f0, x.f1, x.f2, x.f3, s, (p' : Int), 0))

theorem item_loop (d : Nat) (hd : d < 6) (IH : ItemAt d) (s : ByteArray) (n : Nat) (hn : n ≤ 1024) (hz : s.size < 4611686018427387904) : ∀ (m i p : Nat) (acc : List S25), i + m = n → acc.length = i → p ≤ 65536 → p ≤ s.size →
    (∃ (e : Int) (R : Int × Int × ByteArray × List S25 × ByteArray × Int × Int), e ≠ 0 ∧ R.2.2.2.2.1 = s ∧ R.2.2.2.2.2.2 = e ∧ rrep (ritem d) m (s.data.toList.drop p) (65536 - p) = .error e ∧ Evt (fun k => canon_reader_item.l0 k (6 - ((d + 1 : Nat) : Int)) n i s p 0 3 0 ⟨#[]⟩ acc) R) ∨
    (∃ (xs : List S25) (p' : Nat), p' ≤ 65536 ∧ p' ≤ s.size ∧ rrep (ritem d) m (s.data.toList.drop p) (65536 - p) = .ok (xs, s.data.toList.drop p', 65536 - p') ∧ Evt (fun k => canon_reader_item.l0 k (6 - ((d + 1 : Nat) : Int)) n i s p 0 3 0 ⟨#[]⟩ acc) (3, 0, ⟨#[]⟩, acc ++ xs, s, (p' : Int), 0)) := by
  intro m
  induction m with
  | zero =>
    intro i p acc hi ha hp hs
    refine .inr ⟨[], p, hp, hs, rfl, Evt.succ (Evt.of fun k => ?_)⟩
    simp only [canon_reader_item.l0]
    rw [if_neg (by omega), List.append_nil]
  | succ m ih =>
    intro i p acc hi ha hp hs
    have hlt : (i : Int) < (n : Int) := by omega
    have hw1 : wrap64 (6 - ((d + 1 : Nat) : Int) + 1) = 6 - (d : Int) := by rw [wrap64_nat (by omega) (by omega)]; omega
    have hw2 : wrap64 ((i : Int) + 1) = ((i + 1 : Nat) : Int) := by rw [wrap64_nat (by omega) (by omega)]; rfl
    have hlen : ∀ (N : Nat), 2000 < N → acc.length < N := fun N h => by omega
    rcases IH s p hz hp hs with ⟨e, ⟨q1, q2, q3, q4, q5, q6, q7⟩, he, hqs, hqe, h2, h3⟩ | ⟨⟨x0, x1, x2, x3⟩, p', hp', hs', h2, h3⟩
    · simp only at hqs hqe
      subst hqs hqe
      refine .inl ⟨q7, (3, 0, ⟨#[]⟩, acc ++ [⟨q1, q2, q3, q4⟩], q5, q6, q7), he, rfl, rfl, rbind_err h2, Evt.succ ?_⟩
      refine Evt.congr (g := fun k => (canon_reader_item.f k q5 p 0 (6 - (d : Int))).bind fun t => if acc.length < 2513169434916 then canon_reader_item.l0 k (6 - ((d + 1 : Nat) : Int)) n (i + 1 : Nat) t.2.2.2.2.1 t.2.2.2.2.2.1 t.2.2.2.2.2.2 3 0 ⟨#[]⟩ (acc ++ [⟨t.1, t.2.1, t.2.2.1, t.2.2.2.1⟩]) else none) ?_ (fun k => ?_)
      · refine Evt.bind h3 (Evt.succ (Evt.of fun k => ?_))
        rw [if_pos (by omega)]
        simp only [canon_reader_item.l0]
        rw [if_neg he]
        split <;> rfl
      · simp only [canon_reader_item.l0]
        rw [if_pos hlt, hw1, hw2]; rfl
    · have hstep : ∀ R, Evt (fun k => canon_reader_item.l0 k (6 - ((d + 1 : Nat) : Int)) n (i + 1 : Nat) s p' 0 3 0 ⟨#[]⟩ (acc ++ [⟨x0, x1, x2, x3⟩])) R → Evt (fun k => canon_reader_item.l0 k (6 - ((d + 1 : Nat) : Int)) n i s p 0 3 0 ⟨#[]⟩ acc) R := by
        intro R hR
        refine Evt.succ (Evt.congr (g := fun k => (canon_reader_item.f k s p 0 (6 - (d : Int))).bind fun t => if acc.length < 2513169434916 then canon_reader_item.l0 k (6 - ((d + 1 : Nat) : Int)) n (i + 1 : Nat) t.2.2.2.2.1 t.2.2.2.2.2.1 t.2.2.2.2.2.2 3 0 ⟨#[]⟩ (acc ++ [⟨t.1, t.2.1, t.2.2.1, t.2.2.2.1⟩]) else none) ?_ (fun k => ?_))
        · exact Evt.bind h3 (Evt.congr hR (fun k => by rw [if_pos (by omega)]))
        · simp only [canon_reader_item.l0]
          rw [if_pos hlt, hw1, hw2]; rfl
      rcases ih (i + 1) p' (acc ++ [⟨x0, x1, x2, x3⟩]) (by omega) (by simp [ha]) hp' hs' with ⟨e, R, he, hqs, hqe, h4, h5⟩ | ⟨xs, p2, hq, hqs, h4, h5⟩
      · exact .inl ⟨e, R, he, hqs, hqe, by simp only [rrep]; rw [rbind_of h2]; exact rbind_err h4, hstep _ h5⟩
      · refine .inr ⟨⟨x0, x1, x2, x3⟩ :: xs, p2, hq, hqs, by simp only [rrep]; rw [rbind_of h2, rbind_of h4]; rfl, ?_⟩
        have := hstep _ h5
        rw [List.append_assoc] at this
        exact this

theorem list_bad (a n : Int) (s : ByteArray) (p e : Int) (he : e ≠ 0) : Evt (fun k => canon_reader_item.j0 k a n s p e) (3, 0, ⟨#[]⟩, [], s, p, e) := by
  refine Evt.succ (Evt.succ (Evt.of fun k => ?_))
  simp only [canon_reader_item.j0, canon_reader_item.l0]
  rw [if_neg he]
  split <;> rfl
theorem item_at : ∀ d, d ≤ 6 → ItemAt d := by
  have body : ∀ (d : Nat) (f : Option (Rdr S25)), d ≤ 6 → (f = none → d = 0) → (∀ g, f = some g → ∃ e, d = e + 1 ∧ ItemAt e ∧ g = ritem e) → ritem d = ritemB f → ItemAt d := by
    intro d f hd6 hf0 hf1 hrd s p hz hp hs
    rw [hrd]
    unfold ritemB
    rcases octet_cases s p hp hs with ⟨e, he, h1, g1⟩ | ⟨c, hp1, hs1, h1, g1⟩
    · refine .inl ⟨e, (0, 0, ⟨#[]⟩, [], s, (p : Int), e), he, rfl, rfl, rbind_err h1, Evt.succ (Evt.of fun k => ?_)⟩
      simp only [canon_reader_item.f]
      rw [g1]
      simp only [Option.bind_some]
      rw [if_neg he]
    · rw [rbind_of h1]
      by_cases c8 : c = 8
      · subst c8
        rw [if_pos rfl]
        have hstep : ∀ R, Evt (fun k => (canon_reader_octet.f s ((p + 1 : Nat) : Int) 0).bind fun t => (canon_reader_number.f k t.2.1 t.2.2.1 t.2.2.2 t.1).bind fun t => (canon_reader_text.f t.2.1 t.2.2.1 t.2.2.2 t.1).bind fun t => some (2, 0, t.1, ([] : List S25), t.2.1, t.2.2.1, t.2.2.2)) R → Evt (fun k => canon_reader_item.f k s p 0 (6 - (d : Int))) R := by
          intro R hR
          refine Evt.succ (Evt.congr hR (fun k => ?_))
          simp only [canon_reader_item.f]
          rw [g1]
          rfl
        rcases octet_cases s (p + 1) hp1 hs1 with ⟨e, he, h2, g2⟩ | ⟨c2, hp2, hs2, h2, g2⟩
        · refine .inl ⟨e, (2, 0, ⟨#[]⟩, [], s, ((p + 1 : Nat) : Int), e), he, rfl, rfl, rbind_err h2, hstep _ ?_⟩
          rw [g2]
          simp only [Option.bind_some]
          refine Evt.bind (number_bad s _ e he) (Evt.of fun k => ?_)
          simp only [text_bad _ _ _ _ he, Option.bind_some]
        · rw [rbind_of h2]
          rcases number_cases s c2.toNat (p + 1 + 1) c2.toNat_lt hp2 hs2 with ⟨e, p', he, h3, g3⟩ | ⟨n, p', hp3, hs3, h3, g3⟩
          · refine .inl ⟨e, (2, 0, ⟨#[]⟩, [], s, p', e), he, rfl, rfl, rbind_err h3, hstep _ ?_⟩
            rw [g2]
            simp only [Option.bind_some]
            refine Evt.bind g3 (Evt.of fun k => ?_)
            simp only [text_bad _ _ _ _ he, Option.bind_some]
          · rw [rbind_of h3]
            obtain ⟨hn, _⟩ := rnum_ok h3
            rcases text_cases s n p' hz hn hp3 hs3 with ⟨e, p2, he, h4, g4⟩ | ⟨t, p2, hp4, hs4, h4, g4⟩
            · refine .inl ⟨e, (2, 0, ⟨#[]⟩, [], s, p2, e), he, rfl, rfl, rbind_err h4, hstep _ ?_⟩
              rw [g2]
              simp only [Option.bind_some]
              refine Evt.bind g3 (Evt.of fun k => ?_)
              simp only [g4, Option.bind_some]
            · refine .inr ⟨mkText t, p2, hp4, hs4, by rw [rbind_of h4]; rfl, hstep _ ?_⟩
              rw [g2]
              simp only [Option.bind_some]
              refine Evt.bind g3 (Evt.of fun k => ?_)
              simp only [g4, Option.bind_some]
              rfl
      · rw [if_neg c8]
        have n8 : ¬ ((c.toNat : Int) = 8) := fun e => c8 (UInt8.toNat_inj.1 (by simp; omega))
        by_cases c9 : c = 9
        · subst c9
          rw [if_pos rfl]
          rcases f with _ | g
          · obtain rfl := hf0 rfl
            refine .inl ⟨3, (0, 0, ⟨#[]⟩, [], s, ((p + 1 : Nat) : Int), 3), by decide, rfl, rfl, rfl, Evt.succ (Evt.of fun k => ?_)⟩
            simp only [canon_reader_item.f]
            rw [g1]
            simp [canon_reader_fail.f]
          · obtain ⟨d, rfl, IH, rfl⟩ := hf1 g rfl
            simp only
            have hstep : ∀ R, Evt (fun k => (canon_reader_octet.f s ((p + 1 : Nat) : Int) 0).bind fun t => (canon_reader_number.f k t.2.1 t.2.2.1 t.2.2.2 t.1).bind fun t => if t.1 > 1024 then (canon_reader_fail.f t.2.1 t.2.2.1 t.2.2.2 3).bind fun u => canon_reader_item.j0 k (6 - ((d + 1 : Nat) : Int)) t.1 u.1 u.2.1 u.2.2 else canon_reader_item.j0 k (6 - ((d + 1 : Nat) : Int)) t.1 t.2.1 t.2.2.1 t.2.2.2) R → Evt (fun k => canon_reader_item.f k s p 0 (6 - ((d + 1 : Nat) : Int))) R := by
              intro R hR
              refine Evt.succ (Evt.congr hR (fun k => ?_))
              simp only [canon_reader_item.f]
              rw [g1]
              simp only [Option.bind_some, if_true]
              rw [if_neg n8, if_pos (show ((UInt8.toNat 9 : Nat) : Int) = 9 from rfl), if_neg (by omega)]
            rcases octet_cases s (p + 1) hp1 hs1 with ⟨e, he, h2, g2⟩ | ⟨c2, hp2, hs2, h2, g2⟩
            · refine .inl ⟨e, (3, 0, ⟨#[]⟩, [], s, ((p + 1 : Nat) : Int), e), he, rfl, rfl, rbind_err h2, hstep _ ?_⟩
              rw [g2]
              simp only [Option.bind_some]
              exact Evt.bind (number_bad s _ e he) (Evt.congr (list_bad _ _ _ _ _ he) (fun k => if_neg (by simp)))
            · rw [rbind_of h2]
              rcases number_cases s c2.toNat (p + 1 + 1) c2.toNat_lt hp2 hs2 with ⟨e, p', he, h3, g3⟩ | ⟨n, p', hp3, hs3, h3, g3⟩
              · refine .inl ⟨e, (3, 0, ⟨#[]⟩, [], s, p', e), he, rfl, rfl, rbind_err h3, hstep _ ?_⟩
                rw [g2]
                simp only [Option.bind_some]
                exact Evt.bind g3 (Evt.congr (list_bad _ _ _ _ _ he) (fun k => if_neg (by simp)))
              · rw [rbind_of h3]
                by_cases hbig : 1024 < n
                · refine .inl ⟨3, (3, 0, ⟨#[]⟩, [], s, p', 3), by decide, rfl, rfl, by rw [if_pos hbig]; rfl, hstep _ ?_⟩
                  rw [g2]
                  simp only [Option.bind_some]
                  refine Evt.bind g3 (Evt.congr (list_bad (6 - ((d + 1 : Nat) : Int)) n s p' 3 (by decide)) (fun k => ?_))
                  simp only
                  rw [if_pos (by omega)]
                  simp [canon_reader_fail.f]
                · rw [if_neg hbig]
                  have hj : ∀ R, Evt (fun k => canon_reader_item.l0 k (6 - ((d + 1 : Nat) : Int)) n ((0 : Nat) : Int) s p' 0 3 0 ⟨#[]⟩ []) R → Evt (fun k => canon_reader_item.f k s p 0 (6 - ((d + 1 : Nat) : Int))) R := by
                    intro R hR
                    refine hstep _ ?_
                    rw [g2]
                    simp only [Option.bind_some]
                    refine Evt.bind g3 (Evt.congr (Evt.succ (Evt.congr hR (fun k => ?_))) (fun k => if_neg (by simp only; omega)))
                    simp only [canon_reader_item.j0]
                    rfl
                  rcases item_loop d (by omega) IH s n (by omega) hz n 0 p' [] (by omega) rfl hp3 hs3 with ⟨e, R, he, hqs, hqe, h4, g4⟩ | ⟨xs, p2, hp4, hs4, h4, g4⟩
                  · exact .inl ⟨e, R, he, hqs, hqe, rbind_err h4, hj _ g4⟩
                  · exact .inr ⟨mkList xs, p2, hp4, hs4, by rw [rbind_of h4]; rfl, hj _ g4⟩
        · rw [if_neg c9]
          have n9 : ¬ ((c.toNat : Int) = 9) := fun e => c9 (UInt8.toNat_inj.1 (by simp; omega))
          have hstep : ∀ R, Evt (fun k => (canon_reader_number.f k s ((p + 1 : Nat) : Int) 0 (c.toNat : Int)).bind fun t => some (1, t.1, (⟨#[]⟩ : ByteArray), ([] : List S25), t.2.1, t.2.2.1, t.2.2.2)) R → Evt (fun k => canon_reader_item.f k s p 0 (6 - (d : Int))) R := by
            intro R hR
            refine Evt.succ (Evt.congr hR (fun k => ?_))
            simp only [canon_reader_item.f]
            rw [g1]
            simp only [Option.bind_some, if_true]
            rw [if_neg n8, if_neg n9]
            rfl
          rcases number_cases s c.toNat (p + 1) c.toNat_lt hp1 hs1 with ⟨e, p', he, h3, g3⟩ | ⟨n, p', hp3, hs3, h3, g3⟩
          · exact .inl ⟨e, (1, 0, ⟨#[]⟩, [], s, p', e), he, rfl, rfl, rbind_err h3, hstep _ (Evt.bind g3 Evt.const)⟩
          · exact .inr ⟨mkNum n, p', hp3, hs3, by rw [rbind_of h3]; rfl, hstep _ (Evt.bind g3 Evt.const)⟩
  intro d
  induction d with
  | zero => intro _; exact body 0 none (by omega) (fun _ => rfl) (fun g hg => by cases hg) rfl
  | succ d ih => intro hd; exact body (d + 1) (some (ritem d)) hd (fun h => by cases h) (fun g hg => ⟨d, rfl, ih (by omega), by cases hg; rfl⟩) rfl

/-- What Front tells, plainly. -/
def rfront (s : ByteArray) : Int × Int × ByteArray × List S25 × ByteArray × Int := match ritem 6 s.data.toList 65536 with
  | .error e => (0, 0, ⟨#[]⟩, [], ⟨#[]⟩, e)
  | .ok (x, r, _) => (x.f0, x.f1, x.f2, x.f3, ⟨r.toArray⟩, 0)
/-- What Decode tells, plainly. -/
def rdecode (s : ByteArray) : Int × Int × ByteArray × List S25 × Int := match ritem 6 s.data.toList 65536 with
  | .error e => (0, 0, ⟨#[]⟩, [], e)
  | .ok (x, r, _) => if r = [] then (x.f0, x.f1, x.f2, x.f3, 0) else (0, 0, ⟨#[]⟩, [], 3)
theorem front_ev (s : ByteArray) (hz : s.size < 4611686018427387904) : Evt (fun k => canon_Front.f k s) (rfront s) ∧ (∀ e, ritem 6 s.data.toList 65536 = .error e → e ≠ 0) := by
  rcases item_at 6 (by omega) s 0 hz (by omega) (by omega) with ⟨e, ⟨q1, q2, q3, q4, q5, q6, q7⟩, he, hqs, hqe, h1, g1⟩ | ⟨x, p', hp, hs, h1, g1⟩
  · simp only at hqs hqe
    subst hqs hqe
    simp only [List.drop_zero, Nat.sub_zero] at h1
    refine ⟨?_, fun e h => by rw [h1] at h; cases h; exact he⟩
    unfold rfront
    rw [h1]
    exact Evt.bind g1 (Evt.of fun k => by simp only; rw [if_neg he])
  · simp only [List.drop_zero, Nat.sub_zero] at h1
    refine ⟨?_, fun e h => by rw [h1] at h; cases h⟩
    unfold rfront
    rw [h1]
    refine Evt.bind g1 (Evt.of fun k => ?_)
    simp only [if_true]
    rw [if_pos (by omega), if_pos (by omega), Int.toNat_natCast, extract_eq, List.take_of_length_le (by simp [size_list])]
theorem decode_ev (s : ByteArray) (hz : s.size < 4611686018427387904) : Evt (fun k => canon_Decode.f k s) (rdecode s) := by
  obtain ⟨h1, h2⟩ := front_ev s hz
  unfold rdecode
  unfold rfront at h1
  cases h : ritem 6 s.data.toList 65536 with
  | error e =>
    rw [h] at h1
    refine Evt.bind h1 (Evt.of fun k => ?_)
    simp only
    rw [if_neg (h2 e h)]
  | ok v =>
    obtain ⟨x, r, b⟩ := v
    rw [h] at h1
    refine Evt.bind h1 (Evt.of fun k => ?_)
    simp only [if_true]
    by_cases hr : r = []
    · subst hr; rw [ByteArray.toList_eq]; simp
    · rw [if_neg hr, if_neg]
      intro e
      apply hr
      rw [ByteArray.toList_eq] at e
      simpa using e
end Go.Proofs.Ytepmahdiiioceaa.U
