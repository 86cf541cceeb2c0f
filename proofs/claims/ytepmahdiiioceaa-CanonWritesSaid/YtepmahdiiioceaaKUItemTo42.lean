import Derived.Test.YtepmahdiiioceaaKUPars
import Derived.Test.YtepmahdiiioceaaKPrCanonEncode
import Derived.Test.YtepmahdiiioceaaKPr0
section
namespace Go.Proofs.Ytepmahdiiioceaa.U
open Go.Proofs.Ytepmahdiiioceaa.Pr

def mkList (l : List S25) : S25 := ⟨3, 0, ⟨#[]⟩, l⟩
def mkText (t : List UInt8) : S25 := ⟨2, 0, ⟨t.toArray⟩, []⟩
def mkNum (n : Nat) : S25 := ⟨1, (n : Int), ⟨#[]⟩, []⟩
def ritemB (f : Option (Rdr S25)) : Rdr S25 := rbind roct fun c =>
  if c = 8 then rbind roct fun c2 => rbind (rnum c2.toNat) fun n => rbind (rtake n) fun t => rret (mkText t)
  else if c = 9 then match f with
    | none => rerr 3
    | some f => rbind roct fun c2 => rbind (rnum c2.toNat) fun n => if 1024 < n then rerr 3 else rbind (rrep f n) fun xs => rret (mkList xs)
  else rbind (rnum c.toNat) fun n => rret (mkNum n)
def ritem : Nat → Rdr S25
  | 0 => ritemB none
  | d + 1 => ritemB (some (ritem d))

theorem Reg.itemB {f : Option (Rdr S25)} (hf : ∀ g, f = some g → Reg g) : Reg (ritemB f) := by
  unfold ritemB
  refine Reg.bind Reg.oct fun c => Reg.ite ?_ (Reg.ite ?_ ?_)
  · exact Reg.bind Reg.oct fun _ => Reg.bind (Reg.num _) fun _ => Reg.bind (Reg.take _) fun _ => Reg.ret _
  · split
    · exact Reg.err _
    · exact Reg.bind Reg.oct fun _ => Reg.bind (Reg.num _) fun _ => Reg.ite (Reg.err _) (Reg.bind (Reg.rep (hf _ rfl) _) fun _ => Reg.ret _)
  · exact Reg.bind (Reg.num _) fun _ => Reg.ret _
theorem Reg.item : ∀ d, Reg (ritem d)
  | 0 => Reg.itemB fun g h => by cases h
  | d + 1 => Reg.itemB fun g h => by cases h; exact Reg.item d

theorem canon_wr_num (d : Nat) (x1 : Int) (x2 : ByteArray) (l : List S25) : canon_wr d ⟨1, x1, x2, l⟩ = numB x1.toNat := by cases d <;> simp [canon_wr]
theorem canon_wr_text (d : Nat) (x1 : Int) (x2 : ByteArray) (l : List S25) : canon_wr d ⟨2, x1, x2, l⟩ = 8 :: (numB x2.size ++ x2.data.toList) := by cases d <;> simp [canon_wr]
theorem canon_wr_list (d : Nat) (x1 : Int) (x2 : ByteArray) (l : List S25) : canon_wr (d + 1) ⟨3, x1, x2, l⟩ = 9 :: (numB l.length ++ l.flatMap (canon_wr d)) := by simp [canon_wr]
theorem canon_chk_mkNum (d n : Nat) (h : n < 72057594037927936) : canon_chk d (mkNum n) = true := by
  have h1 : (n : Int) ≤ 72057594037927935 := by omega
  cases d <;> simp [canon_chk, mkNum, ByteArray.size, h1]
theorem canon_chk_mkText (d : Nat) (t : List UInt8) (h : t.length ≤ 65536) : canon_chk d (mkText t) = true := by
  cases d <;> simp [canon_chk, mkText, ByteArray.size] <;> omega
theorem canon_chk_mkList (d : Nat) (l : List S25) (h : l.length ≤ 1024) (h2 : ∀ y ∈ l, canon_chk d y = true) : canon_chk (d + 1) (mkList l) = true := by
  simp only [canon_chk, mkList, ByteArray.size]
  simp [h]
  exact h2
theorem size_zero {x : ByteArray} (h : x.size = 0) : x = ⟨#[]⟩ := by
  cases x; simp [ByteArray.size] at h; subst h; rfl

theorem canon_enc_ok (x : S25) (h : canon_chk 6 x = true) (h2 : (canon_wr 6 x).length ≤ 65536) : canon_Encode.f x.f0 x.f1 x.f2 x.f3 = some (⟨(canon_wr 6 x).toArray⟩, 0) := by
  unfold canon_Encode.f
  obtain ⟨x0, x1, x2, x3⟩ := x
  rw [if_pos h, if_pos h2]
theorem canon_enc_long (x : S25) (h : canon_chk 6 x = true) (h2 : ¬ (canon_wr 6 x).length ≤ 65536) : canon_Encode.f x.f0 x.f1 x.f2 x.f3 = some (⟨#[]⟩, 2) := by
  unfold canon_Encode.f
  obtain ⟨x0, x1, x2, x3⟩ := x
  rw [if_pos h, if_neg h2]
theorem canon_enc_arg (x : S25) (h : ¬ canon_chk 6 x = true) : canon_Encode.f x.f0 x.f1 x.f2 x.f3 = some (⟨#[]⟩, 1) := by
  unfold canon_Encode.f
  obtain ⟨x0, x1, x2, x3⟩ := x
  rw [if_neg h]
end Go.Proofs.Ytepmahdiiioceaa.U
end
section
namespace Go.Proofs.Ytepmahdiiioceaa.U
open Go.RowKit Go.Proofs.YtepmahdiiioceaaW.PrintWords Go.Proofs.YtepmahdiiioceaaW.PrintLast Go.Proofs.YtepmahdiiioceaaW.PrintMore

def Evt {α : Type} (f : Nat → Option α) (r : α) : Prop := ∃ K, ∀ k, K ≤ k → f k = some r
theorem Evt.const {α : Type} {r : α} : Evt (fun _ => some r) r := ⟨0, fun _ _ => rfl⟩
theorem Evt.of {α : Type} {f : Nat → Option α} {r : α} (h : ∀ k, f k = some r) : Evt f r := ⟨0, fun k _ => h k⟩
theorem Evt.bind {α β : Type} {f : Nat → Option α} {a : α} {g : Nat → α → Option β} {r : β} (h : Evt f a) (h2 : Evt (fun k => g k a) r) : Evt (fun k => (f k).bind (g k)) r := by
  obtain ⟨K, hK⟩ := h
  obtain ⟨L, hL⟩ := h2
  refine ⟨max K L, fun k hk => ?_⟩
  simp only
  rw [hK k (by omega)]
  exact hL k (by omega)
theorem Evt.succ {α : Type} {f : Nat → Option α} {r : α} (h : Evt (fun k => f (k + 1)) r) : Evt f r := by
  obtain ⟨K, hK⟩ := h
  refine ⟨K + 1, fun k hk => ?_⟩
  obtain ⟨j, rfl⟩ : ∃ j, k = j + 1 := ⟨k - 1, by omega⟩
  exact hK j (by omega)
theorem Evt.congr {α : Type} {f g : Nat → Option α} {r : α} (h : Evt g r) (e : ∀ k, f k = g k) : Evt f r := by
  obtain ⟨K, hK⟩ := h
  exact ⟨K, fun k hk => (e k).trans (hK k hk)⟩
theorem Evt.get {α : Type} {f : Nat → Option α} {r : α} (h : Evt f r) : ∃ k, f k = some r := by
  obtain ⟨K, hK⟩ := h
  exact ⟨K, hK K (Nat.le_refl _)⟩
theorem Evt.mono {α : Type} {f : Nat → Option α} {r : α} (hm : ∀ k, LeO (f k) (f (k + 1))) {k : Nat} (h : f k = some r) : Evt f r := ⟨k, fun _ hj => at_rounds hm hj h⟩

theorem wrap64_nat {n : Int} (h0 : 0 ≤ n) (h1 : n < 9223372036854775808) : wrap64 n = n := by unfold wrap64; omega
theorem ofInt_i64 (n : Nat) (h : n < 9223372036854775808) : (BitVec.ofInt 64 (n : Int)).toNat = n := by
  rw [BitVec.ofInt_natCast, BitVec.toNat_ofNat]; exact Nat.mod_eq_of_lt (by omega)
theorem i64_or_nat (a b : Nat) (ha : a < 9223372036854775808) (hb : b < 9223372036854775808) : bits .or .i64 (a : Int) (b : Int) = ((a ||| b : Nat) : Int) := by
  have hx : a ||| b < 2 ^ 63 := Nat.or_lt_two_pow (by omega) (by omega)
  show IntKind.i64.wrap ((BitVec.ofInt 64 (a : Int) ||| BitVec.ofInt 64 (b : Int)).toNat : Int) = _
  rw [BitVec.toNat_or, ofInt_i64 a ha, ofInt_i64 b hb, IntKind.wrap_i64]
  omega
theorem or_byte (a b : Nat) (ha : a < 281474976710656) (hb : b < 256) : bits .or .i64 (wrap64 ((a : Int) * 256)) (wrap64 (b : Int)) = ((a * 256 + b : Nat) : Int) := by
  rw [wrap64_nat (by omega) (by omega), wrap64_nat (by omega) (by omega)]
  have h := i64_or_nat (a * 256) b (by omega) (by omega)
  rw [Int.natCast_mul] at h
  rw [show ((256 : Nat) : Int) = 256 from rfl] at h
  rw [h]
  have := Nat.two_pow_add_eq_or_of_lt (i := 8) (b := b) (by omega) a
  rw [show (2 : Nat) ^ 8 = 256 from rfl, Nat.mul_comm] at this
  rw [this]
theorem bt_eq (s : ByteArray) (p : Nat) (h : p < s.size) : ∃ c : UInt8, s.data.toList.drop p = c :: s.data.toList.drop (p + 1) ∧ bt s (p : Int) = (c.toNat : Int) := by
  have hl : p < s.data.toList.length := h
  refine ⟨s.data.toList[p], List.drop_eq_getElem_cons hl, ?_⟩
  unfold bt
  rw [dif_pos (by simpa using h)]
  rfl
theorem extract_eq (s : ByteArray) (a b : Nat) : s.extract a b = ⟨((s.data.toList.drop a).take (b - a)).toArray⟩ := by
  have h : (s.extract a b).data = ((s.data.toList.drop a).take (b - a)).toArray := by
    rw [ByteArray.data_extract]
    apply Array.toList_inj.1
    rw [Array.toList_extract]
  cases hs : s.extract a b with
  | mk d => rw [hs] at h; simp only at h; rw [h]
theorem size_list (s : ByteArray) : s.data.toList.length = s.size := rfl
end Go.Proofs.Ytepmahdiiioceaa.U
end
