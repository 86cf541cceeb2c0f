import Derived.Test.YtepmahdiiioceaaKUPars
import Derived.Test.YtepmahdiiioceaaKPrCanonEncode
namespace Go.Proofs.Ytepmahdiiioceaa.U
open Go.Proofs.Ytepmahdiiioceaa.Pr

def mkList (l : List S25) : S25 := ⟨3, 0, ⟨#[]⟩, l⟩
def mkText (t : List UInt8) : S25 := ⟨2, 0, ⟨t.toArray⟩, []⟩
def mkNum (n : Nat) : S25 := ⟨1, (n : Int), ⟨#[]⟩, []⟩
def ritemB (f : Option (Rdr S25)) : Rdr S25 := rbind roct fun c =>
  if c = 8 then rbind roct fun c2 => rbind (rnum c2.toNat) fun n => rbind (rtake n) fun t => rret (mkText t)
  else if c = 9 then match f with
    | none => rerr 3
    | some f => rbind roct fun c2 => rbind (rnum c2.toNat) fun n => if 1024 < n then rerr 3 else rbind (rrep f n) fun xs => rret (mkList xs)
  else rbind (rnum c.toNat) fun n => rret (mkNum n)
def ritem : Nat → Rdr S25
  | 0 => ritemB none
  | d + 1 => ritemB (some (ritem d))

theorem Reg.itemB {f : Option (Rdr S25)} (hf : ∀ g, f = some g → Reg g) : Reg (ritemB f) := by
  unfold ritemB
  refine Reg.bind Reg.oct fun c => Reg.ite ?_ (Reg.ite ?_ ?_)
  · exact Reg.bind Reg.oct fun _ => Reg.bind (Reg.num _) fun _ => Reg.bind (Reg.take _) fun _ => Reg.ret _
  · split
    · exact Reg.err _
    · exact Reg.bind Reg.oct fun _ => Reg.bind (Reg.num _) fun _ => Reg.ite (Reg.err _) (Reg.bind (Reg.rep (hf _ rfl) _) fun _ => Reg.ret _)
  · exact Reg.bind (Reg.num _) fun _ => Reg.ret _
theorem Reg.item : ∀ d, Reg (ritem d)
  | 0 => Reg.itemB fun g h => by cases h
  | d + 1 => Reg.itemB fun g h => by cases h; exact Reg.item d

theorem canon_wr_num (d : Nat) (x1 : Int) (x2 : ByteArray) (l : List S25) : canon_wr d ⟨1, x1, x2, l⟩ = numB x1.toNat := by cases d <;> simp [canon_wr]
theorem canon_wr_text (d : Nat) (x1 : Int) (x2 : ByteArray) (l : List S25) : canon_wr d ⟨2, x1, x2, l⟩ = 8 :: (numB x2.size ++ x2.data.toList) := by cases d <;> simp [canon_wr]
theorem canon_wr_list (d : Nat) (x1 : Int) (x2 : ByteArray) (l : List S25) : canon_wr (d + 1) ⟨3, x1, x2, l⟩ = 9 :: (numB l.length ++ l.flatMap (canon_wr d)) := by simp [canon_wr]
theorem canon_chk_mkNum (d n : Nat) (h : n < 72057594037927936) : canon_chk d (mkNum n) = true := by
  have h1 : (n : Int) ≤ 72057594037927935 := by omega
  cases d <;> simp [canon_chk, mkNum, ByteArray.size, h1]
theorem canon_chk_mkText (d : Nat) (t : List UInt8) (h : t.length ≤ 65536) : canon_chk d (mkText t) = true := by
  cases d <;> simp [canon_chk, mkText, ByteArray.size] <;> omega
theorem canon_chk_mkList (d : Nat) (l : List S25) (h : l.length ≤ 1024) (h2 : ∀ y ∈ l, canon_chk d y = true) : canon_chk (d + 1) (mkList l) = true := by
  simp only [canon_chk, mkList, ByteArray.size]
  simp [h]
  exact h2
theorem size_zero {x : ByteArray} (h : x.size = 0) : x = ⟨#[]⟩ := by
  cases x; simp [ByteArray.size] at h; subst h; rfl

theorem rrep_of {f : Rdr S25} {wr : S25 → List UInt8} : ∀ (xs : List S25), (∀ x ∈ xs, ∀ r b, (wr x).length ≤ b → f (wr x ++ r) b = .ok (x, r, b - (wr x).length)) → ∀ (r : List UInt8) (b : Nat), (xs.flatMap wr).length ≤ b → rrep f xs.length (xs.flatMap wr ++ r) b = .ok (xs, r, b - (xs.flatMap wr).length)
  | [], _, r, b, _ => rfl
  | x :: xs, h, r, b, hb => by
    rw [List.flatMap_cons, List.length_append] at hb
    simp only [List.length_cons, rrep, List.flatMap_cons, List.append_assoc]
    rw [rbind_of (h x (by simp) _ b (by omega)), rbind_of (rrep_of xs (fun y hy => h y (by simp [hy])) r _ (by omega))]
    simp only [rret, List.length_append]
    congr 3
    omega
theorem rrep_ok {f : Rdr S25} {P : S25 → Prop} {wr : S25 → List UInt8} (hf : ∀ l b x r b', f l b = .ok (x, r, b') → P x ∧ l = wr x ++ r ∧ b = b' + (wr x).length) : ∀ (n : Nat) (l : List UInt8) (b : Nat) (xs : List S25) (r : List UInt8) (b' : Nat), rrep f n l b = .ok (xs, r, b') → xs.length = n ∧ (∀ y ∈ xs, P y) ∧ l = xs.flatMap wr ++ r ∧ b = b' + (xs.flatMap wr).length
  | 0, l, b, xs, r, b', h => by
    simp only [rrep, rret, Except.ok.injEq, Prod.mk.injEq] at h
    obtain ⟨rfl, rfl, rfl⟩ := h
    simp
  | n + 1, l, b, xs, r, b', h => by
    obtain ⟨x, l1, b1, h1, h2⟩ := rbind_ok h
    obtain ⟨ys, l2, b2, h3, h4⟩ := rbind_ok h2
    simp only [rret, Except.ok.injEq, Prod.mk.injEq] at h4
    obtain ⟨rfl, rfl, rfl⟩ := h4
    obtain ⟨p1, rfl, rfl⟩ := hf _ _ _ _ _ h1
    obtain ⟨e1, e2, rfl, rfl⟩ := rrep_ok hf n _ _ _ _ _ h3
    refine ⟨by simp [e1], ?_, by simp, by simp; omega⟩
    intro y hy
    rcases List.mem_cons.1 hy with rfl | hy
    · exact p1
    · exact e2 y hy

/-- WHAT IS WRITTEN IS READ, whatever stands behind it. -/
theorem ritem_of : ∀ (d : Nat) (x : S25), canon_chk d x = true → ∀ (r : List UInt8) (b : Nat), (canon_wr d x).length ≤ b → ritem d (canon_wr d x ++ r) b = .ok (x, r, b - (canon_wr d x).length) := by
  have num : ∀ (f : Option (Rdr S25)) (d : Nat) (x1 : Int) (x2 : ByteArray) (l : List S25), canon_chk d ⟨1, x1, x2, l⟩ = true → ∀ (r : List UInt8) (b : Nat), (canon_wr d ⟨1, x1, x2, l⟩).length ≤ b → ritemB f (canon_wr d ⟨1, x1, x2, l⟩ ++ r) b = .ok (⟨1, x1, x2, l⟩, r, b - (canon_wr d ⟨1, x1, x2, l⟩).length) := by
    intro f d x1 x2 l h r b hb
    obtain ⟨h0, h1, h2, rfl⟩ := canon_chk_num h
    have := size_zero h2
    subst this
    obtain ⟨n, rfl⟩ : ∃ n : Nat, x1 = n := ⟨x1.toNat, by omega⟩
    have hn : n < 72057594037927936 := by omega
    have h7 : numLen n ≤ 7 := numLen_le (by simpa using hn)
    rw [canon_wr_num, numB_length] at hb
    rw [canon_wr_num, numB_length]
    simp only [Int.toNat_natCast, numB, List.cons_append] at hb ⊢
    obtain ⟨b, rfl⟩ : ∃ c, b = c + 1 := ⟨b - 1, by omega⟩
    have ht : (UInt8.ofNat (numLen n)).toNat = numLen n := by simp; omega
    have n8 : UInt8.ofNat (numLen n) ≠ 8 := fun e => by have := congrArg UInt8.toNat e; rw [ht] at this; simp at this; omega
    have n9 : UInt8.ofNat (numLen n) ≠ 9 := fun e => by have := congrArg UInt8.toNat e; rw [ht] at this; simp at this; omega
    unfold ritemB
    rw [rbind_of (show roct (UInt8.ofNat (numLen n) :: (digs (numLen n) n ++ r)) (b + 1) = .ok (UInt8.ofNat (numLen n), digs (numLen n) n ++ r, b) from rfl), if_neg n8, if_neg n9, ht, rbind_of (rnum_of n hn r b (by omega))]
    simp only [rret, mkNum]
    congr 3
    omega
  have text : ∀ (f : Option (Rdr S25)) (d : Nat) (x1 : Int) (x2 : ByteArray) (l : List S25), canon_chk d ⟨2, x1, x2, l⟩ = true → ∀ (r : List UInt8) (b : Nat), (canon_wr d ⟨2, x1, x2, l⟩).length ≤ b → ritemB f (canon_wr d ⟨2, x1, x2, l⟩ ++ r) b = .ok (⟨2, x1, x2, l⟩, r, b - (canon_wr d ⟨2, x1, x2, l⟩).length) := by
    intro f d x1 x2 l h r b hb
    obtain ⟨rfl, h1, rfl⟩ := canon_chk_text h
    have hn : x2.size < 72057594037927936 := by omega
    have h7 : numLen x2.size ≤ 7 := numLen_le (by simpa using hn)
    have hsz : x2.data.toList.length = x2.size := rfl
    rw [canon_wr_text] at hb ⊢
    have hlen : (8 :: (numB x2.size ++ x2.data.toList)).length = numLen x2.size + x2.size + 2 := by rw [List.length_cons, List.length_append, numB_length, hsz]; omega
    rw [hlen] at hb ⊢
    simp only [numB, List.cons_append, List.append_assoc]
    obtain ⟨b, rfl⟩ : ∃ c, b = c + 1 + 1 := ⟨b - 2, by omega⟩
    have ht : (UInt8.ofNat (numLen x2.size)).toNat = numLen x2.size := by simp; omega
    unfold ritemB
    rw [rbind_of (show roct (8 :: (UInt8.ofNat (numLen x2.size) :: (digs (numLen x2.size) x2.size ++ (x2.data.toList ++ r)))) (b + 1 + 1) = .ok (8, _, b + 1) from rfl), if_pos rfl,
      rbind_of (show roct (UInt8.ofNat (numLen x2.size) :: (digs (numLen x2.size) x2.size ++ (x2.data.toList ++ r))) (b + 1) = .ok (UInt8.ofNat (numLen x2.size), _, b) from rfl), ht, rbind_of (rnum_of x2.size hn _ b (by omega))]
    have := rtake_of x2.data.toList r (b - numLen x2.size) (by rw [hsz]; omega)
    rw [hsz] at this
    rw [rbind_of this]
    simp only [rret, mkText]
    congr 3
    omega
  intro d
  induction d with
  | zero =>
    rintro ⟨x0, x1, x2, l⟩ h r b hb
    rcases canon_chk_kind h with rfl | rfl | rfl
    · exact num none 0 x1 x2 l h r b hb
    · exact text none 0 x1 x2 l h r b hb
    · obtain ⟨e, he, _⟩ := canon_chk_list h; cases he
  | succ d ih =>
    rintro ⟨x0, x1, x2, l⟩ h r b hb
    rcases canon_chk_kind h with rfl | rfl | rfl
    · exact num (some (ritem d)) (d + 1) x1 x2 l h r b hb
    · exact text (some (ritem d)) (d + 1) x1 x2 l h r b hb
    · obtain ⟨e, he, h1, h2, rfl, h4⟩ := canon_chk_list h
      obtain rfl : d = e := by omega
      have := size_zero h2
      subst this
      have hn : l.length < 72057594037927936 := by omega
      have h7 : numLen l.length ≤ 7 := numLen_le (by simpa using hn)
      rw [canon_wr_list] at hb ⊢
      have hlen : (9 :: (numB l.length ++ l.flatMap (canon_wr d))).length = numLen l.length + (l.flatMap (canon_wr d)).length + 2 := by rw [List.length_cons, List.length_append, numB_length]; omega
      rw [hlen] at hb ⊢
      simp only [numB, List.cons_append, List.append_assoc]
      obtain ⟨b, rfl⟩ : ∃ c, b = c + 1 + 1 := ⟨b - 2, by omega⟩
      have ht : (UInt8.ofNat (numLen l.length)).toNat = numLen l.length := by simp; omega
      show ritemB (some (ritem d)) _ _ = _
      unfold ritemB
      rw [rbind_of (show roct (9 :: (UInt8.ofNat (numLen l.length) :: (digs (numLen l.length) l.length ++ (l.flatMap (canon_wr d) ++ r)))) (b + 1 + 1) = .ok (9, _, b + 1) from rfl), if_neg (by decide), if_pos rfl]
      simp only
      rw [rbind_of (show roct (UInt8.ofNat (numLen l.length) :: (digs (numLen l.length) l.length ++ (l.flatMap (canon_wr d) ++ r))) (b + 1) = .ok (UInt8.ofNat (numLen l.length), _, b) from rfl), ht, rbind_of (rnum_of l.length hn _ b (by omega)), if_neg (by omega),
        rbind_of (rrep_of l (fun x hx r b hb => ih x (h4 x hx) r b hb) r _ (by omega))]
      simp only [rret, mkList]
      congr 3
      omega

theorem toNat_ofNat_toNat (c : UInt8) : UInt8.ofNat c.toNat = c := by simp
/-- WHAT IS READ IS WHAT WOULD BE WRITTEN. -/
theorem ritem_ok : ∀ (d : Nat) (l : List UInt8) (b : Nat) (x : S25) (r : List UInt8) (b' : Nat), b ≤ 65536 → ritem d l b = .ok (x, r, b') → canon_chk d x = true ∧ l = canon_wr d x ++ r ∧ b = b' + (canon_wr d x).length := by
  have body : ∀ (f : Option (Rdr S25)) (d : Nat) (l : List UInt8) (b : Nat) (x : S25) (r : List UInt8) (b' : Nat), b ≤ 65536 → ritemB f l b = .ok (x, r, b') →
      (∀ g, f = some g → ∃ e, d = e + 1 ∧ ∀ l b x r b', b ≤ 65536 → g l b = .ok (x, r, b') → canon_chk e x = true ∧ l = canon_wr e x ++ r ∧ b = b' + (canon_wr e x).length) → canon_chk d x = true ∧ l = canon_wr d x ++ r ∧ b = b' + (canon_wr d x).length := by
    intro f d l b x r b' hb65 h hf
    unfold ritemB at h
    replace h := rbind_ok h
    obtain ⟨c, l1, b1, h1, h⟩ := h
    obtain ⟨rfl, rfl⟩ := roct_ok h1
    by_cases c8 : c = 8
    · subst c8
      rw [if_pos rfl] at h
      replace h := rbind_ok h
      obtain ⟨c2, l2, b2, h2, h⟩ := h
      obtain ⟨rfl, rfl⟩ := roct_ok h2
      replace h := rbind_ok h
      obtain ⟨n, l3, b3, h3, h⟩ := h
      obtain ⟨hn, hc, rfl, rfl⟩ := rnum_ok h3
      replace h := rbind_ok h
      obtain ⟨t, l4, b4, h4, h⟩ := h
      obtain ⟨rfl, rfl, rfl⟩ := rtake_ok h4
      simp only [rret, Except.ok.injEq, Prod.mk.injEq] at h
      obtain ⟨rfl, rfl, rfl⟩ := h
      have hcc : c2 = UInt8.ofNat (numLen t.length) := by rw [← hc, toNat_ofNat_toNat]
      refine ⟨canon_chk_mkText d t (by omega), ?_, ?_⟩
      · rw [mkText, canon_wr_text]; simp [numB, hcc, ByteArray.size]
      · rw [mkText, canon_wr_text]; simp [numB_length, ByteArray.size]; omega
    · rw [if_neg c8] at h
      by_cases c9 : c = 9
      · subst c9
        rw [if_pos rfl] at h
        rcases f with _ | g
        · cases h
        · obtain ⟨e, rfl, hg⟩ := hf g rfl
          simp only at h
          replace h := rbind_ok h
          obtain ⟨c2, l2, b2, h2, h⟩ := h
          obtain ⟨rfl, rfl⟩ := roct_ok h2
          replace h := rbind_ok h
          obtain ⟨n, l3, b3, h3, h⟩ := h
          obtain ⟨hn, hc, rfl, rfl⟩ := rnum_ok h3
          by_cases hbig : 1024 < n
          · rw [if_pos hbig] at h; cases h
          · rw [if_neg hbig] at h
            replace h := rbind_ok h
            obtain ⟨xs, l4, b4, h4, h⟩ := h
            have key : ∀ (n : Nat) (l : List UInt8) (b : Nat) (xs : List S25) (r : List UInt8) (b' : Nat), b ≤ 65536 → rrep g n l b = .ok (xs, r, b') → xs.length = n ∧ (∀ y ∈ xs, canon_chk e y = true) ∧ l = xs.flatMap (canon_wr e) ++ r ∧ b = b' + (xs.flatMap (canon_wr e)).length := by
              intro n
              induction n with
              | zero =>
                intro l b xs r b' _ h
                simp only [rrep, rret, Except.ok.injEq, Prod.mk.injEq] at h
                obtain ⟨rfl, rfl, rfl⟩ := h
                simp
              | succ n ihn =>
                intro l b xs r b' hb h
                obtain ⟨x, l1, b1, h1, h2⟩ := rbind_ok h
                obtain ⟨ys, l2, b2, h3, h4⟩ := rbind_ok h2
                simp only [rret, Except.ok.injEq, Prod.mk.injEq] at h4
                obtain ⟨rfl, rfl, rfl⟩ := h4
                obtain ⟨p1, rfl, rfl⟩ := hg _ _ _ _ _ hb h1
                obtain ⟨e1, e2, rfl, rfl⟩ := ihn _ _ _ _ _ (by omega) h3
                refine ⟨by simp [e1], ?_, by simp, by simp; omega⟩
                intro y hy
                rcases List.mem_cons.1 hy with rfl | hy
                · exact p1
                · exact e2 y hy
            obtain ⟨rfl, hall, rfl, rfl⟩ := key _ _ _ _ _ _ (by omega) h4
            simp only [rret, Except.ok.injEq, Prod.mk.injEq] at h
            obtain ⟨rfl, rfl, rfl⟩ := h
            have hcc : c2 = UInt8.ofNat (numLen xs.length) := by rw [← hc, toNat_ofNat_toNat]
            refine ⟨canon_chk_mkList e xs (by omega) hall, ?_, ?_⟩
            · rw [mkList, canon_wr_list]; simp [numB, hcc]
            · rw [mkList, canon_wr_list]; simp [numB_length]; omega
      · rw [if_neg c9] at h
        replace h := rbind_ok h
        obtain ⟨n, l3, b3, h3, h⟩ := h
        obtain ⟨hn, hc, rfl, rfl⟩ := rnum_ok h3
        simp only [rret, Except.ok.injEq, Prod.mk.injEq] at h
        obtain ⟨rfl, rfl, rfl⟩ := h
        have hcc : c = UInt8.ofNat (numLen n) := by rw [← hc, toNat_ofNat_toNat]
        refine ⟨canon_chk_mkNum d n hn, ?_, ?_⟩
        · rw [mkNum, canon_wr_num]; simp [numB, hcc]
        · rw [mkNum, canon_wr_num]; simp [numB_length]; omega
  intro d
  induction d with
  | zero => intro l b x r b' hb h; exact body none 0 l b x r b' hb h (fun g hg => by cases hg)
  | succ d ih => intro l b x r b' hb h; exact body (some (ritem d)) (d + 1) l b x r b' hb h (fun g hg => ⟨d, rfl, by cases hg; exact ih⟩)

/-- BYTES THAT ARE CUT OFF SAY THAT THEY END. -/
theorem ritem_cut (d : Nat) (x : S25) (h : canon_chk d x = true) (b : Nat) (hb : (canon_wr d x).length ≤ b) (u v : List UInt8) (hu : canon_wr d x = u ++ v) (hv : v ≠ []) : ritem d u b = .error 7 := by
  have h1 := ritem_of d x h [] b hb
  rw [List.append_nil] at h1
  obtain ⟨w, e1, e2, _, h2⟩ := Reg.item d _ _ _ _ _ h1
  rw [List.append_nil] at e1
  exact h2 u v (by rw [← e1]; exact hu) hv
theorem canon_enc_ok (x : S25) (h : canon_chk 6 x = true) (h2 : (canon_wr 6 x).length ≤ 65536) : canon_Encode.f x.f0 x.f1 x.f2 x.f3 = some (⟨(canon_wr 6 x).toArray⟩, 0) := by
  unfold canon_Encode.f
  obtain ⟨x0, x1, x2, x3⟩ := x
  rw [if_pos h, if_pos h2]
theorem canon_enc_long (x : S25) (h : canon_chk 6 x = true) (h2 : ¬ (canon_wr 6 x).length ≤ 65536) : canon_Encode.f x.f0 x.f1 x.f2 x.f3 = some (⟨#[]⟩, 2) := by
  unfold canon_Encode.f
  obtain ⟨x0, x1, x2, x3⟩ := x
  rw [if_pos h, if_neg h2]
theorem canon_enc_arg (x : S25) (h : ¬ canon_chk 6 x = true) : canon_Encode.f x.f0 x.f1 x.f2 x.f3 = some (⟨#[]⟩, 1) := by
  unfold canon_Encode.f
  obtain ⟨x0, x1, x2, x3⟩ := x
  rw [if_neg h]
end Go.Proofs.Ytepmahdiiioceaa.U
