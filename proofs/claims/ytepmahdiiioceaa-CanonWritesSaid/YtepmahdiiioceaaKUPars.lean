import Derived.Test.YtepmahdiiioceaaKUNum
namespace Go.Proofs.Ytepmahdiiioceaa.U

/-- A reader: from the bytes ahead and how many may be read at most, an error, or what was read, the bytes behind it and what may still be read. -/
abbrev Rdr (α : Type) := List UInt8 → Nat → Except Int (α × List UInt8 × Nat)
def rret {α : Type} (x : α) : Rdr α := fun l b => .ok (x, l, b)
def rerr {α : Type} (e : Int) : Rdr α := fun _ _ => .error e
def rbind {α β : Type} (f : Rdr α) (g : α → Rdr β) : Rdr β := fun l b => match f l b with
  | .error e => .error e
  | .ok (x, l1, b1) => g x l1 b1
def roct : Rdr UInt8
  | _, 0 => .error 3
  | [], _ + 1 => .error 7
  | c :: l, b + 1 => .ok (c, l, b)
def rtake (n : Nat) : Rdr (List UInt8) := fun l b => if b < n then .error 3 else if l.length < n then .error 7 else .ok (l.take n, l.drop n, b - n)
def roctN : Nat → Rdr (List UInt8)
  | 0 => rret []
  | n + 1 => rbind roct fun c => rbind (roctN n) fun cs => rret (c :: cs)
/-- A number, of which the length byte is read. -/
def rnum (c : Nat) : Rdr Nat := if 7 < c then rerr 3 else match c with
  | 0 => rret 0
  | k + 1 => rbind roct fun x => if x = 0 then rerr 3 else rbind (roctN k) fun xs => rret (val (x :: xs))
def rrep {α : Type} (f : Rdr α) : Nat → Rdr (List α)
  | 0 => rret []
  | n + 1 => rbind f fun x => rbind (rrep f n) fun xs => rret (x :: xs)

theorem rbind_ok {α β : Type} {f : Rdr α} {g : α → Rdr β} {l : List UInt8} {b : Nat} {r : β × List UInt8 × Nat} (h : rbind f g l b = .ok r) : ∃ x l1 b1, f l b = .ok (x, l1, b1) ∧ g x l1 b1 = .ok r := by
  unfold rbind at h
  split at h
  · cases h
  · rename_i x l1 b1 hf; exact ⟨x, l1, b1, hf, h⟩
theorem rbind_of {α β : Type} {f : Rdr α} {g : α → Rdr β} {l : List UInt8} {b : Nat} {x : α} {l1 : List UInt8} {b1 : Nat} (h : f l b = .ok (x, l1, b1)) : rbind f g l b = g x l1 b1 := by
  unfold rbind; rw [h]
theorem rbind_err {α β : Type} {f : Rdr α} {g : α → Rdr β} {l : List UInt8} {b : Nat} {e : Int} (h : f l b = .error e) : rbind f g l b = .error e := by
  unfold rbind; rw [h]

/-- A reader that looks at just what it reads: what it read, ahead of anything, reads the same; and cut off, it is short. -/
def Reg {α : Type} (f : Rdr α) : Prop := ∀ l b x r b', f l b = .ok (x, r, b') → ∃ w, l = w ++ r ∧ b = b' + w.length ∧ (∀ r2, f (w ++ r2) b = .ok (x, r2, b')) ∧ (∀ u v, w = u ++ v → v ≠ [] → f u b = .error 7)
theorem Reg.ret {α : Type} (x : α) : Reg (rret x) := by
  intro l b y r b' h
  simp only [rret, Except.ok.injEq, Prod.mk.injEq] at h
  obtain ⟨rfl, rfl, rfl⟩ := h
  exact ⟨[], rfl, rfl, fun r2 => rfl, fun u v hw hv => by simp at hw; exact absurd hw.2 hv⟩
theorem Reg.err {α : Type} (e : Int) : Reg (rerr e : Rdr α) := fun l b x r b' h => by cases h
theorem Reg.bind {α β : Type} {f : Rdr α} {g : α → Rdr β} (hf : Reg f) (hg : ∀ x, Reg (g x)) : Reg (rbind f g) := by
  intro l b y r b' h
  obtain ⟨x, l1, b1, h1, h2⟩ := rbind_ok h
  obtain ⟨w1, rfl, rfl, a1, c1⟩ := hf _ _ _ _ _ h1
  obtain ⟨w2, rfl, rfl, a2, c2⟩ := hg _ _ _ _ _ _ h2
  refine ⟨w1 ++ w2, by simp, by simp; omega, fun r2 => ?_, fun u v hw hv => ?_⟩
  · rw [List.append_assoc, rbind_of (a1 _)]; exact a2 r2
  · rcases List.append_eq_append_iff.1 hw with ⟨z, hz, hv2⟩ | ⟨z, hz, hv2⟩
    · rw [hz, rbind_of (a1 _)]; exact c2 z v hv2 hv
    · by_cases hz0 : z = []
      · subst hz0
        simp only [List.append_nil] at hz
        subst hz
        have := a1 []
        rw [List.append_nil] at this
        rw [rbind_of this]
        exact c2 [] v (by simpa using hv2.symm) hv
      · exact rbind_err (c1 u z hz hz0)
theorem Reg.ite {α : Type} {c : Prop} [Decidable c] {f g : Rdr α} (hf : Reg f) (hg : Reg g) : Reg (if c then f else g) := by
  split
  · exact hf
  · exact hg
theorem Reg.oct : Reg roct := by
  intro l b x r b' h
  rcases b with _ | b
  · simp [roct] at h
  · rcases l with _ | ⟨c, l⟩
    · simp [roct] at h
    · simp only [roct, Except.ok.injEq, Prod.mk.injEq] at h
      obtain ⟨rfl, rfl, rfl⟩ := h
      refine ⟨[c], rfl, rfl, fun r2 => rfl, fun u v hw hv => ?_⟩
      rcases u with _ | ⟨d, u⟩
      · rfl
      · simp only [List.cons_append, List.cons.injEq] at hw
        have := hw.2
        simp at this
        exact absurd this.2 hv
theorem Reg.take (n : Nat) : Reg (rtake n) := by
  intro l b x r b' h
  unfold rtake at h
  split at h
  · cases h
  · split at h
    · cases h
    · rename_i h1 h2
      simp only [Except.ok.injEq, Prod.mk.injEq] at h
      obtain ⟨rfl, rfl, rfl⟩ := h
      have hl : (l.take n).length = n := by rw [List.length_take]; omega
      refine ⟨l.take n, by simp, by rw [hl]; omega, fun r2 => ?_, fun u v hw hv => ?_⟩
      · unfold rtake
        rw [if_neg h1, if_neg (by rw [List.length_append, hl]; omega), List.take_append_of_le_length (by omega), List.take_of_length_le (by omega), List.drop_append_of_le_length (by omega), List.drop_of_length_le (by omega)]; rfl
      · have hu : u.length < n := by
          have h3 := congrArg List.length hw
          rw [List.length_append, hl] at h3
          have : 0 < v.length := List.length_pos_iff.2 hv
          omega
        unfold rtake
        rw [if_neg h1, if_pos hu]
theorem Reg.octN : ∀ n, Reg (roctN n)
  | 0 => Reg.ret _
  | n + 1 => Reg.bind Reg.oct fun _ => Reg.bind (Reg.octN n) fun _ => Reg.ret _
theorem Reg.num (c : Nat) : Reg (rnum c) := by
  unfold rnum
  refine Reg.ite (Reg.err _) ?_
  split
  · exact Reg.ret _
  · exact Reg.bind Reg.oct fun x => Reg.ite (Reg.err _) (Reg.bind (Reg.octN _) fun _ => Reg.ret _)
theorem Reg.rep {α : Type} {f : Rdr α} (hf : Reg f) : ∀ n, Reg (rrep f n)
  | 0 => Reg.ret _
  | n + 1 => Reg.bind hf fun _ => Reg.bind (Reg.rep hf n) fun _ => Reg.ret _

theorem roctN_ok : ∀ (n : Nat) (l : List UInt8) (b : Nat) (xs r : List UInt8) (b' : Nat), roctN n l b = .ok (xs, r, b') → xs.length = n ∧ l = xs ++ r ∧ b = b' + n
  | 0, l, b, xs, r, b', h => by
    simp only [roctN, rret, Except.ok.injEq, Prod.mk.injEq] at h
    obtain ⟨rfl, rfl, rfl⟩ := h
    exact ⟨rfl, rfl, rfl⟩
  | n + 1, l, b, xs, r, b', h => by
    obtain ⟨x, l1, b1, h1, h2⟩ := rbind_ok h
    obtain ⟨ys, l2, b2, h3, h4⟩ := rbind_ok h2
    simp only [rret, Except.ok.injEq, Prod.mk.injEq] at h4
    obtain ⟨rfl, rfl, rfl⟩ := h4
    obtain ⟨e1, e2, e3⟩ := roctN_ok n _ _ _ _ _ h3
    rcases b with _ | b
    · simp [roct] at h1
    · rcases l with _ | ⟨c, l⟩
      · simp [roct] at h1
      · simp only [roct, Except.ok.injEq, Prod.mk.injEq] at h1
        obtain ⟨rfl, rfl, rfl⟩ := h1
        exact ⟨by simp [e1], by simp [e2], by omega⟩
/-- What is read as a number are the number's bytes. -/
theorem rnum_ok {c n : Nat} {l r : List UInt8} {b b' : Nat} (h : rnum c l b = .ok (n, r, b')) : n < 72057594037927936 ∧ c = numLen n ∧ l = digs (numLen n) n ++ r ∧ b = b' + numLen n := by
  unfold rnum at h
  by_cases h7 : 7 < c
  · rw [if_pos h7] at h; cases h
  · rw [if_neg h7] at h
    rcases c with _ | k
    · simp only [rret, Except.ok.injEq, Prod.mk.injEq] at h
      obtain ⟨rfl, rfl, rfl⟩ := h
      rw [numLen_zero]; exact ⟨by omega, rfl, rfl, rfl⟩
    · obtain ⟨x, l1, b1, h1, h2⟩ := rbind_ok h
      by_cases hx : x = 0
      · rw [if_pos hx] at h2; cases h2
      · rw [if_neg hx] at h2
        obtain ⟨xs, l2, b2, h3, h4⟩ := rbind_ok h2
        simp only [rret, Except.ok.injEq, Prod.mk.injEq] at h4
        obtain ⟨rfl, rfl, rfl⟩ := h4
        obtain ⟨e1, e2, e3⟩ := roctN_ok _ _ _ _ _ _ h3
        have hn := numLen_val x xs hx
        rw [hn, e1]
        have hv := val_lt (x :: xs)
        rw [List.length_cons, e1] at hv
        have hp : (256 : Nat) ^ (k + 1) ≤ 256 ^ 7 := Nat.pow_le_pow_right (by decide) (by omega)
        refine ⟨by omega, rfl, ?_, ?_⟩
        · have hd := digs_val (x :: xs)
          rw [List.length_cons, e1] at hd
          rw [hd]
          rcases b with _ | b
          · simp [roct] at h1
          · rcases l with _ | ⟨c, l⟩
            · simp [roct] at h1
            · simp only [roct, Except.ok.injEq, Prod.mk.injEq] at h1
              obtain ⟨rfl, rfl, rfl⟩ := h1
              simp [e2]
        · rcases b with _ | b
          · simp [roct] at h1
          · rcases l with _ | ⟨c, l⟩
            · simp [roct] at h1
            · simp only [roct, Except.ok.injEq, Prod.mk.injEq] at h1
              obtain ⟨rfl, rfl, rfl⟩ := h1
              omega
end Go.Proofs.Ytepmahdiiioceaa.U
