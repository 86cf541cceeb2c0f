import Derived.Test.YtepmahdiiioceaaKUCanon
import Derived.Test.YtepmahdiiioceaaKPrLockboxlaw02Awake
namespace Go.Proofs.Ytepmahdiiioceaa.U
open Go.RowKit Go.Proofs.Ytepmahdiiioceaa.Pr Go.Proofs.YtepmahdiiioceaaW.PrintWords Go.Proofs.YtepmahdiiioceaaW.PrintLast Go.Proofs.YtepmahdiiioceaaW.PrintMore
theorem numLen_small {n : Nat} (h0 : n ≠ 0) (h : n < 256) : numLen n = 1 := by
  rw [numLen_pos h0, Nat.div_eq_of_lt h, numLen_zero]
theorem numB_small {n : Nat} (h0 : n ≠ 0) (h : n < 256) : numB n = [1, UInt8.ofNat n] := by
  rw [numB, numLen_small h0 h]; simp [digs]
theorem numB_zero : numB 0 = [0] := by rw [numB, numLen_zero]; rfl
theorem encode_ok (x : S25) (h : canon_chk 6 x = true) (h2 : (canon_wr 6 x).length ≤ 65536) : canon_Encode.f x.f0 x.f1 x.f2 x.f3 = some (⟨(canon_wr 6 x).toArray⟩, 0) := by
  unfold canon_Encode.f
  obtain ⟨x0, x1, x2, x3⟩ := x
  rw [if_pos h, if_pos h2]
theorem awake02_ev : Evt (fun k => lockboxlaw02_awake.f k) true := by
  have e1 : canon_wr 6 (mkList [mkNum 0, mkText [97]]) = [9, 1, 2, 0, 8, 1, 1, 97] := by
    rw [mkList, canon_wr_list]
    simp only [List.flatMap_cons, List.flatMap_nil, mkNum, mkText, canon_wr_num, canon_wr_text, List.length_cons, List.length_nil, ByteArray.size]
    rw [numB_small (by decide) (by decide)]
    simp only [show ((0 : Nat) : Int).toNat = 0 from rfl, numB_zero, show ([97] : List UInt8).toArray.size = 1 from rfl]
    rw [numB_small (by decide) (by decide)]
    rfl
  have e2 : canon_chk 6 (mkList [mkNum 0, mkText [97]]) = true := by
    refine canon_chk_mkList 5 _ (by decide) ?_
    intro y hy
    simp at hy
    rcases hy with rfl | rfl
    · exact canon_chk_mkNum _ _ (by decide)
    · exact canon_chk_mkText _ _ (by decide)
  have e3 := encode_ok _ e2 (by rw [e1]; decide)
  rw [e1] at e3
  have e4 := decode_ev ⟨#[2, 1, 2]⟩ (by decide)
  have e5 : rdecode ⟨#[2, 1, 2]⟩ = (1, 258, ⟨#[]⟩, [], 0) := by rfl
  rw [e5] at e4
  have hl : canon_List.f [⟨1, 0, ⟨#[]⟩, []⟩, ⟨2, 0, ⟨#[97]⟩, []⟩] = some (3, 0, ⟨#[]⟩, [mkNum 0, mkText [97]]) := rfl
  refine Evt.congr (g := fun k => (canon_Decode.f k ⟨#[2, 1, 2]⟩).bind fun t => if t.2.2.2.2 = 0 then (if t.1 = 1 then some (t.2.1 == 258) else some false) else some false) ?_ (fun k => ?_)
  · exact Evt.bind e4 Evt.const
  · unfold lockboxlaw02_awake.f
    simp only [canon_Num.f, canon_Text.f, Option.bind_some, hl]
    rw [show canon_Encode.f 3 0 (⟨#[]⟩ : ByteArray) [mkNum 0, mkText [97]] = _ from e3]
    simp only [Option.bind_some, if_true, ByteArray.toList_eq]
end Go.Proofs.Ytepmahdiiioceaa.U
