/-
  NARROWER THAN 'FOR EVERY INPUT', by the rows' own cells (each row's printed sentence says how): CanonCut: loops · CanonWrites: loops · CanonBack: loops.
  DERIVED. THE GIVEN ROWS OF THIS SEAT. 9 by the template 'for every input the law returns true; each argument reads behind the call as it read before'; 0 by the template 'total and deterministic' (their statements: YtepmahdiiioceaaTotals.lean).
  GIVEN WITH THE SEED: the statements are not yours to turn. If you find one false, say at which input.
  Laid BY PROGRAM, IN A SANDBOX (cutbox-rows.mjs): the forced cells as the released guide's own fill.sh prints them over the translation f3b7c4551af2c43e… (all of the seat's roots in one cut). By AI agents, Wed Nov 11 2026. No macro, syntax, notation, axiom, sorry.
-/
import Derived.Test.YtepmahdiiioceaaChecked
import GoSem.Claim
import GoSem.ClaimJoined
import GoSem.ClaimMapViews
import Derived.JoinedTies
import Derived.KernelRfl
namespace Go.Proofs.Ytepmahdiiioceaa
/- THE CELL 'sum', in the pinned program and in every row, IS THE sha256 OF THE DUMP (.gsa) THAT YtepmahdiiioceaaProg.lean LOADS. Nothing in Lean hashes anything: it is a label: what it is worth is what the hold of that sum in a sandbox is worth. -/
noncomputable def Try.pinned : Pinned := { name := "ytepmahdiiioceaa", sum := "f3b7c4551af2c43e1b064ee91a9ba9def4baaed5572b75945df3307f05804343", checked := Try.checked }
namespace Rows
def none {H : Type} : Left H := { results := [], args := [] }

/-- 'lockboxlaw02.CanonOnce': WHATEVER THE INPUT: true; the input reads as it did. -/
def canonOnceSpec : ChangeSpec := { name := "canonOnce", fn := fun _ => fun
  | [d] => { results := [.lit (.bool true)], args := [d] }
  | _ => none }
def canonOnceRow : OpenClaim := { program := "ytepmahdiiioceaa", sum := "f3b7c4551af2c43e1b064ee91a9ba9def4baaed5572b75945df3307f05804343", func := "lockbox/lockboxlaw02.CanonOnce", spec := "canonOnce", inPlace := ["internal/abi.NoEscape"], unfollowed := true, recurses := true, apart := false }
def CanonOnceSaid : Prop := canonOnceRow.holds Try.pinned (OpenSpec.ofChange canonOnceSpec)

/-- ITS FALSE NEIGHBOUR: 'it returns false'. Refute it at one input. -/
def canonOnceWrong : ChangeSpec := { name := "canonOnce", fn := fun _ => fun
  | [d] => { results := [.lit (.bool false)], args := [d] }
  | _ => none }
def CanonOnceWrongFalsely : Prop := canonOnceRow.holds Try.pinned (OpenSpec.ofChange canonOnceWrong)

/-- 'lockboxlaw02.CanonCut': WHATEVER THE INPUT: true; the input reads as it did. -/
def canonCutSpec : ChangeSpec := { name := "canonCut", fn := fun _ => fun
  | [d1, d2] => { results := [.lit (.bool true)], args := [d1, d2] }
  | _ => none }
def canonCutRow : OpenClaim := { program := "ytepmahdiiioceaa", sum := "f3b7c4551af2c43e1b064ee91a9ba9def4baaed5572b75945df3307f05804343", func := "lockbox/lockboxlaw02.CanonCut", spec := "canonCut", inPlace := ["internal/abi.NoEscape"], unfollowed := true, recurses := true, loops := true, apart := false }
def CanonCutSaid : Prop := canonCutRow.holds Try.pinned (OpenSpec.ofChange canonCutSpec)

/-- ITS FALSE NEIGHBOUR: 'it returns false'. Refute it at one input. -/
def canonCutWrong : ChangeSpec := { name := "canonCut", fn := fun _ => fun
  | [d1, d2] => { results := [.lit (.bool false)], args := [d1, d2] }
  | _ => none }
def CanonCutWrongFalsely : Prop := canonCutRow.holds Try.pinned (OpenSpec.ofChange canonCutWrong)

/-- 'lockboxlaw02.CanonLong': WHATEVER THE INPUT: true; the input reads as it did. -/
def canonLongSpec : ChangeSpec := { name := "canonLong", fn := fun _ => fun
  | [d] => { results := [.lit (.bool true)], args := [d] }
  | _ => none }
def canonLongRow : OpenClaim := { program := "ytepmahdiiioceaa", sum := "f3b7c4551af2c43e1b064ee91a9ba9def4baaed5572b75945df3307f05804343", func := "lockbox/lockboxlaw02.CanonLong", spec := "canonLong", inPlace := ["internal/abi.NoEscape"], unfollowed := true, recurses := true, apart := false }
def CanonLongSaid : Prop := canonLongRow.holds Try.pinned (OpenSpec.ofChange canonLongSpec)

/-- ITS FALSE NEIGHBOUR: 'it returns false'. Refute it at one input. -/
def canonLongWrong : ChangeSpec := { name := "canonLong", fn := fun _ => fun
  | [d] => { results := [.lit (.bool false)], args := [d] }
  | _ => none }
def CanonLongWrongFalsely : Prop := canonLongRow.holds Try.pinned (OpenSpec.ofChange canonLongWrong)

/-- 'lockboxlaw02.CanonWrites': WHATEVER THE INPUT: true; the input reads as it did. -/
def canonWritesSpec : ChangeSpec := { name := "canonWrites", fn := fun _ => fun
  | [d1, d2] => { results := [.lit (.bool true)], args := [d1, d2] }
  | _ => none }
def canonWritesRow : OpenClaim := { program := "ytepmahdiiioceaa", sum := "f3b7c4551af2c43e1b064ee91a9ba9def4baaed5572b75945df3307f05804343", func := "lockbox/lockboxlaw02.CanonWrites", spec := "canonWrites", inPlace := ["internal/abi.NoEscape"], unfollowed := true, recurses := true, loops := true, apart := false }
def CanonWritesSaid : Prop := canonWritesRow.holds Try.pinned (OpenSpec.ofChange canonWritesSpec)

/-- ITS FALSE NEIGHBOUR: 'it returns false'. Refute it at one input. -/
def canonWritesWrong : ChangeSpec := { name := "canonWrites", fn := fun _ => fun
  | [d1, d2] => { results := [.lit (.bool false)], args := [d1, d2] }
  | _ => none }
def CanonWritesWrongFalsely : Prop := canonWritesRow.holds Try.pinned (OpenSpec.ofChange canonWritesWrong)

/-- 'lockboxlaw02.CanonBack': WHATEVER THE INPUT: true; the input reads as it did. -/
def canonBackSpec : ChangeSpec := { name := "canonBack", fn := fun _ => fun
  | [d1, d2] => { results := [.lit (.bool true)], args := [d1, d2] }
  | _ => none }
def canonBackRow : OpenClaim := { program := "ytepmahdiiioceaa", sum := "f3b7c4551af2c43e1b064ee91a9ba9def4baaed5572b75945df3307f05804343", func := "lockbox/lockboxlaw02.CanonBack", spec := "canonBack", inPlace := ["internal/abi.NoEscape"], unfollowed := true, recurses := true, loops := true, apart := false }
def CanonBackSaid : Prop := canonBackRow.holds Try.pinned (OpenSpec.ofChange canonBackSpec)

/-- ITS FALSE NEIGHBOUR: 'it returns false'. Refute it at one input. -/
def canonBackWrong : ChangeSpec := { name := "canonBack", fn := fun _ => fun
  | [d1, d2] => { results := [.lit (.bool false)], args := [d1, d2] }
  | _ => none }
def CanonBackWrongFalsely : Prop := canonBackRow.holds Try.pinned (OpenSpec.ofChange canonBackWrong)

/-- 'lockboxlaw17.LeafReads': WHATEVER THE INPUT: true; the input reads as it did. -/
def leafReadsSpec : ChangeSpec := { name := "leafReads", fn := fun _ => fun
  | [d] => { results := [.lit (.bool true)], args := [d] }
  | _ => none }
def leafReadsRow : OpenClaim := { program := "ytepmahdiiioceaa", sum := "f3b7c4551af2c43e1b064ee91a9ba9def4baaed5572b75945df3307f05804343", func := "lockbox/lockboxlaw17.LeafReads", spec := "leafReads", inPlace := ["internal/abi.NoEscape"], unfollowed := true, recurses := true, apart := false }
def LeafReadsSaid : Prop := leafReadsRow.holds Try.pinned (OpenSpec.ofChange leafReadsSpec)

/-- ITS FALSE NEIGHBOUR: 'it returns false'. Refute it at one input. -/
def leafReadsWrong : ChangeSpec := { name := "leafReads", fn := fun _ => fun
  | [d] => { results := [.lit (.bool false)], args := [d] }
  | _ => none }
def LeafReadsWrongFalsely : Prop := leafReadsRow.holds Try.pinned (OpenSpec.ofChange leafReadsWrong)

/-- 'lockboxlaw17.LeafFinds': WHATEVER THE INPUT: true; the input reads as it did. -/
def leafFindsSpec : ChangeSpec := { name := "leafFinds", fn := fun _ => fun
  | [d1, d2] => { results := [.lit (.bool true)], args := [d1, d2] }
  | _ => none }
def leafFindsRow : OpenClaim := { program := "ytepmahdiiioceaa", sum := "f3b7c4551af2c43e1b064ee91a9ba9def4baaed5572b75945df3307f05804343", func := "lockbox/lockboxlaw17.LeafFinds", spec := "leafFinds", inPlace := ["internal/abi.NoEscape"], unfollowed := true, recurses := true, apart := false }
def LeafFindsSaid : Prop := leafFindsRow.holds Try.pinned (OpenSpec.ofChange leafFindsSpec)

/-- ITS FALSE NEIGHBOUR: 'it returns false'. Refute it at one input. -/
def leafFindsWrong : ChangeSpec := { name := "leafFinds", fn := fun _ => fun
  | [d1, d2] => { results := [.lit (.bool false)], args := [d1, d2] }
  | _ => none }
def LeafFindsWrongFalsely : Prop := leafFindsRow.holds Try.pinned (OpenSpec.ofChange leafFindsWrong)

/-- 'lockboxlaw17.LeafTexts': WHATEVER THE INPUT: true; the input reads as it did. -/
def leafTextsSpec : ChangeSpec := { name := "leafTexts", fn := fun _ => fun
  | [d1, d2] => { results := [.lit (.bool true)], args := [d1, d2] }
  | _ => none }
def leafTextsRow : OpenClaim := { program := "ytepmahdiiioceaa", sum := "f3b7c4551af2c43e1b064ee91a9ba9def4baaed5572b75945df3307f05804343", func := "lockbox/lockboxlaw17.LeafTexts", spec := "leafTexts", inPlace := ["internal/abi.NoEscape"], unfollowed := true, recurses := true, apart := false }
def LeafTextsSaid : Prop := leafTextsRow.holds Try.pinned (OpenSpec.ofChange leafTextsSpec)

/-- ITS FALSE NEIGHBOUR: 'it returns false'. Refute it at one input. -/
def leafTextsWrong : ChangeSpec := { name := "leafTexts", fn := fun _ => fun
  | [d1, d2] => { results := [.lit (.bool false)], args := [d1, d2] }
  | _ => none }
def LeafTextsWrongFalsely : Prop := leafTextsRow.holds Try.pinned (OpenSpec.ofChange leafTextsWrong)

/-- 'lockboxlaw17.LeafBack': WHATEVER THE INPUT: true; the input reads as it did. -/
def leafBackSpec : ChangeSpec := { name := "leafBack", fn := fun _ => fun
  | [d1, d2, d3] => { results := [.lit (.bool true)], args := [d1, d2, d3] }
  | _ => none }
def leafBackRow : OpenClaim := { program := "ytepmahdiiioceaa", sum := "f3b7c4551af2c43e1b064ee91a9ba9def4baaed5572b75945df3307f05804343", func := "lockbox/lockboxlaw17.LeafBack", spec := "leafBack", inPlace := ["internal/abi.NoEscape"], unfollowed := true, recurses := true, apart := false }
def LeafBackSaid : Prop := leafBackRow.holds Try.pinned (OpenSpec.ofChange leafBackSpec)

/-- ITS FALSE NEIGHBOUR: 'it returns false'. Refute it at one input. -/
def leafBackWrong : ChangeSpec := { name := "leafBack", fn := fun _ => fun
  | [d1, d2, d3] => { results := [.lit (.bool false)], args := [d1, d2, d3] }
  | _ => none }
def LeafBackWrongFalsely : Prop := leafBackRow.holds Try.pinned (OpenSpec.ofChange leafBackWrong)

/- THE SECOND FORM. 'bulk': how many values and letters a reading holds, each counted each time it is reached (what is shared counts as often as it is met; a slice's spare places count too). A statement '..UptoSaid' is the law's where the arguments, and the package variables that the reading takes, are together of bulk at most 1048576: NARROWER than '..Said'. Prove '..Said' where nothing that the law and all that it calls make is longer than what came in: it says more and counts as full. Else prove '..UptoSaid'. A law counts once. -/
mutual
def uptoBulk {H : Type} : DataW H → Nat
  | .lit (.string bytes) => bytes.length + 1
  | .lit _ => 1
  | .nil => 1
  | .ptr d => uptoBulk d + 1
  | .slice elems spare => uptoBulkAll elems + uptoBulkAll spare + 1
  | .agg parts => uptoBulkAll parts + 1
  | .iface _ d => uptoBulk d + 1
  | .map entries => uptoBulkEntries entries + 1
  | .held _ => 1
def uptoBulkAll {H : Type} : List (DataW H) → Nat
  | [] => 0
  | d :: r => uptoBulk d + uptoBulkAll r
def uptoBulkEntries {H : Type} : List (Lit × DataW H) → Nat
  | [] => 0
  | x :: r => uptoBulkEntry x + uptoBulkEntries r
def uptoBulkEntry {H : Type} : Lit × DataW H → Nat
  | (.string bytes, d) => bytes.length + uptoBulk d + 1
  | (_, d) => uptoBulk d + 1
 end
def uptoSmall : (H : Type) → List (DataW H) → Bool := fun _ ds => decide (uptoBulkAll ds ≤ 1048576)
def OpenSpec.upto (s : _root_.Go.ChangeSpec) : _root_.Go.OpenSpec := { _root_.Go.OpenSpec.ofChange s with cond := some uptoSmall }

/-- 'lockboxlaw02.CanonOnce', WHERE WHAT IT READS IS OF BULK AT MOST 1048576: true; the input reads as it did. -/
def canonOnceUptoRow : OpenClaim := { program := "ytepmahdiiioceaa", sum := "f3b7c4551af2c43e1b064ee91a9ba9def4baaed5572b75945df3307f05804343", func := "lockbox/lockboxlaw02.CanonOnce", spec := "canonOnce", inPlace := ["internal/abi.NoEscape"], unfollowed := true, recurses := true, apart := false, narrowed := true }
def CanonOnceUptoSaid : Prop := canonOnceUptoRow.holds Try.pinned (OpenSpec.upto canonOnceSpec)

/-- 'lockboxlaw02.CanonCut', WHERE WHAT IT READS IS OF BULK AT MOST 1048576: true; the input reads as it did. -/
def canonCutUptoRow : OpenClaim := { program := "ytepmahdiiioceaa", sum := "f3b7c4551af2c43e1b064ee91a9ba9def4baaed5572b75945df3307f05804343", func := "lockbox/lockboxlaw02.CanonCut", spec := "canonCut", inPlace := ["internal/abi.NoEscape"], unfollowed := true, recurses := true, loops := true, apart := false, narrowed := true }
def CanonCutUptoSaid : Prop := canonCutUptoRow.holds Try.pinned (OpenSpec.upto canonCutSpec)

/-- 'lockboxlaw02.CanonLong', WHERE WHAT IT READS IS OF BULK AT MOST 1048576: true; the input reads as it did. -/
def canonLongUptoRow : OpenClaim := { program := "ytepmahdiiioceaa", sum := "f3b7c4551af2c43e1b064ee91a9ba9def4baaed5572b75945df3307f05804343", func := "lockbox/lockboxlaw02.CanonLong", spec := "canonLong", inPlace := ["internal/abi.NoEscape"], unfollowed := true, recurses := true, apart := false, narrowed := true }
def CanonLongUptoSaid : Prop := canonLongUptoRow.holds Try.pinned (OpenSpec.upto canonLongSpec)

/-- 'lockboxlaw02.CanonWrites', WHERE WHAT IT READS IS OF BULK AT MOST 1048576: true; the input reads as it did. -/
def canonWritesUptoRow : OpenClaim := { program := "ytepmahdiiioceaa", sum := "f3b7c4551af2c43e1b064ee91a9ba9def4baaed5572b75945df3307f05804343", func := "lockbox/lockboxlaw02.CanonWrites", spec := "canonWrites", inPlace := ["internal/abi.NoEscape"], unfollowed := true, recurses := true, loops := true, apart := false, narrowed := true }
def CanonWritesUptoSaid : Prop := canonWritesUptoRow.holds Try.pinned (OpenSpec.upto canonWritesSpec)

/-- 'lockboxlaw02.CanonBack', WHERE WHAT IT READS IS OF BULK AT MOST 1048576: true; the input reads as it did. -/
def canonBackUptoRow : OpenClaim := { program := "ytepmahdiiioceaa", sum := "f3b7c4551af2c43e1b064ee91a9ba9def4baaed5572b75945df3307f05804343", func := "lockbox/lockboxlaw02.CanonBack", spec := "canonBack", inPlace := ["internal/abi.NoEscape"], unfollowed := true, recurses := true, loops := true, apart := false, narrowed := true }
def CanonBackUptoSaid : Prop := canonBackUptoRow.holds Try.pinned (OpenSpec.upto canonBackSpec)

/-- 'lockboxlaw17.LeafReads', WHERE WHAT IT READS IS OF BULK AT MOST 1048576: true; the input reads as it did. -/
def leafReadsUptoRow : OpenClaim := { program := "ytepmahdiiioceaa", sum := "f3b7c4551af2c43e1b064ee91a9ba9def4baaed5572b75945df3307f05804343", func := "lockbox/lockboxlaw17.LeafReads", spec := "leafReads", inPlace := ["internal/abi.NoEscape"], unfollowed := true, recurses := true, apart := false, narrowed := true }
def LeafReadsUptoSaid : Prop := leafReadsUptoRow.holds Try.pinned (OpenSpec.upto leafReadsSpec)

/-- 'lockboxlaw17.LeafFinds', WHERE WHAT IT READS IS OF BULK AT MOST 1048576: true; the input reads as it did. -/
def leafFindsUptoRow : OpenClaim := { program := "ytepmahdiiioceaa", sum := "f3b7c4551af2c43e1b064ee91a9ba9def4baaed5572b75945df3307f05804343", func := "lockbox/lockboxlaw17.LeafFinds", spec := "leafFinds", inPlace := ["internal/abi.NoEscape"], unfollowed := true, recurses := true, apart := false, narrowed := true }
def LeafFindsUptoSaid : Prop := leafFindsUptoRow.holds Try.pinned (OpenSpec.upto leafFindsSpec)

/-- 'lockboxlaw17.LeafTexts', WHERE WHAT IT READS IS OF BULK AT MOST 1048576: true; the input reads as it did. -/
def leafTextsUptoRow : OpenClaim := { program := "ytepmahdiiioceaa", sum := "f3b7c4551af2c43e1b064ee91a9ba9def4baaed5572b75945df3307f05804343", func := "lockbox/lockboxlaw17.LeafTexts", spec := "leafTexts", inPlace := ["internal/abi.NoEscape"], unfollowed := true, recurses := true, apart := false, narrowed := true }
def LeafTextsUptoSaid : Prop := leafTextsUptoRow.holds Try.pinned (OpenSpec.upto leafTextsSpec)

/-- 'lockboxlaw17.LeafBack', WHERE WHAT IT READS IS OF BULK AT MOST 1048576: true; the input reads as it did. -/
def leafBackUptoRow : OpenClaim := { program := "ytepmahdiiioceaa", sum := "f3b7c4551af2c43e1b064ee91a9ba9def4baaed5572b75945df3307f05804343", func := "lockbox/lockboxlaw17.LeafBack", spec := "leafBack", inPlace := ["internal/abi.NoEscape"], unfollowed := true, recurses := true, apart := false, narrowed := true }
def LeafBackUptoSaid : Prop := leafBackUptoRow.holds Try.pinned (OpenSpec.upto leafBackSpec)

end Rows
end Go.Proofs.Ytepmahdiiioceaa
