/-
  No cell of these rows narrows 'for every input' (looked for: loops, veiled, ifaces, maps, wideKeys, modest, calm, conditions, laid).
  DERIVED. THE GIVEN ROWS OF THIS SEAT. 5 by the template 'for every input the law returns true; each argument reads behind the call as it read before'; 0 by the template 'total and deterministic' (their statements: YtkoeecdjijfjnaaGreatTotals.lean).
  GIVEN WITH THE SEED: the statements are not yours to turn. If you find one false, say at which input.
  Laid BY PROGRAM, IN A SANDBOX (cutbox-rows.mjs): the forced cells as the released guide's own fill.sh prints them over the translation d08243ef14c2d678… (all of the seat's roots in one cut). By AI agents, Wed Nov 11 2026. No macro, syntax, notation, axiom, sorry.
-/
import Derived.Test.YtkoeecdjijfjnaaGreatChecked
import GoSem.Claim
import GoSem.ClaimJoined
import GoSem.ClaimMapViews
import Derived.JoinedTies
import Derived.KernelRfl
namespace Go.Proofs.YtkoeecdjijfjnaaGreat
/- THE CELL 'sum', in the pinned program and in every row, IS THE sha256 OF THE DUMP (.gsa) THAT YtkoeecdjijfjnaaGreatProg.lean LOADS. Nothing in Lean hashes anything: it is a label: what it is worth is what the hold of that sum in a sandbox is worth. -/
noncomputable def Tryz.pinned : Pinned := { name := "ytkoeecdjijfjnaagreat", sum := "d08243ef14c2d67837d0433d4d314011ec288aeab23c1d849c136eefaf435200", checked := Tryz.checked }
namespace Rows
def none {H : Type} : Left H := { results := [], args := [] }

/-- 'refuterlaw33.CorpusAdds': WHATEVER THE INPUT: true; the input reads as it did. -/
def corpusAddsSpec : ChangeSpec := { name := "corpusAdds", fn := fun _ => fun
  | [d1, d2, d3, d4, d5, d6] => { results := [.lit (.bool true)], args := [d1, d2, d3, d4, d5, d6] }
  | _ => none }
def corpusAddsRow : OpenClaim := { program := "ytkoeecdjijfjnaagreat", sum := "d08243ef14c2d67837d0433d4d314011ec288aeab23c1d849c136eefaf435200", func := "refuter/refuterlaw33.CorpusAdds", spec := "corpusAdds", inPlace := ["slices.overlaps[refuter/corpus.Entry]"], unfollowed := true, recurses := true, apart := false }
def CorpusAddsSaid : Prop := corpusAddsRow.holds Tryz.pinned (OpenSpec.ofChange corpusAddsSpec)

/-- ITS FALSE NEIGHBOUR: 'it returns false'. Refute it at one input. -/
def corpusAddsWrong : ChangeSpec := { name := "corpusAdds", fn := fun _ => fun
  | [d1, d2, d3, d4, d5, d6] => { results := [.lit (.bool false)], args := [d1, d2, d3, d4, d5, d6] }
  | _ => none }
def CorpusAddsWrongFalsely : Prop := corpusAddsRow.holds Tryz.pinned (OpenSpec.ofChange corpusAddsWrong)

/-- 'refuterlaw33.CorpusOrder': WHATEVER THE INPUT: true; the input reads as it did. -/
def corpusOrderSpec : ChangeSpec := { name := "corpusOrder", fn := fun _ => fun
  | [d1, d2, d3, d4, d5] => { results := [.lit (.bool true)], args := [d1, d2, d3, d4, d5] }
  | _ => none }
def corpusOrderRow : OpenClaim := { program := "ytkoeecdjijfjnaagreat", sum := "d08243ef14c2d67837d0433d4d314011ec288aeab23c1d849c136eefaf435200", func := "refuter/refuterlaw33.CorpusOrder", spec := "corpusOrder", inPlace := ["slices.overlaps[refuter/corpus.Entry]"], unfollowed := true, recurses := true, apart := false }
def CorpusOrderSaid : Prop := corpusOrderRow.holds Tryz.pinned (OpenSpec.ofChange corpusOrderSpec)

/-- ITS FALSE NEIGHBOUR: 'it returns false'. Refute it at one input. -/
def corpusOrderWrong : ChangeSpec := { name := "corpusOrder", fn := fun _ => fun
  | [d1, d2, d3, d4, d5] => { results := [.lit (.bool false)], args := [d1, d2, d3, d4, d5] }
  | _ => none }
def CorpusOrderWrongFalsely : Prop := corpusOrderRow.holds Tryz.pinned (OpenSpec.ofChange corpusOrderWrong)

/-- 'refuterlaw33.CorpusMerges': WHATEVER THE INPUT: true; the input reads as it did. -/
def corpusMergesSpec : ChangeSpec := { name := "corpusMerges", fn := fun _ => fun
  | [d1, d2, d3, d4, d5, d6, d7] => { results := [.lit (.bool true)], args := [d1, d2, d3, d4, d5, d6, d7] }
  | _ => none }
def corpusMergesRow : OpenClaim := { program := "ytkoeecdjijfjnaagreat", sum := "d08243ef14c2d67837d0433d4d314011ec288aeab23c1d849c136eefaf435200", func := "refuter/refuterlaw33.CorpusMerges", spec := "corpusMerges", inPlace := ["slices.overlaps[refuter/corpus.Entry]"], unfollowed := true, recurses := true, apart := false }
def CorpusMergesSaid : Prop := corpusMergesRow.holds Tryz.pinned (OpenSpec.ofChange corpusMergesSpec)

/-- ITS FALSE NEIGHBOUR: 'it returns false'. Refute it at one input. -/
def corpusMergesWrong : ChangeSpec := { name := "corpusMerges", fn := fun _ => fun
  | [d1, d2, d3, d4, d5, d6, d7] => { results := [.lit (.bool false)], args := [d1, d2, d3, d4, d5, d6, d7] }
  | _ => none }
def CorpusMergesWrongFalsely : Prop := corpusMergesRow.holds Tryz.pinned (OpenSpec.ofChange corpusMergesWrong)

/-- 'refuterlaw33.CorpusPicks': WHATEVER THE INPUT: true; the input reads as it did. -/
def corpusPicksSpec : ChangeSpec := { name := "corpusPicks", fn := fun _ => fun
  | [d1, d2, d3, d4] => { results := [.lit (.bool true)], args := [d1, d2, d3, d4] }
  | _ => none }
def corpusPicksRow : OpenClaim := { program := "ytkoeecdjijfjnaagreat", sum := "d08243ef14c2d67837d0433d4d314011ec288aeab23c1d849c136eefaf435200", func := "refuter/refuterlaw33.CorpusPicks", spec := "corpusPicks", inPlace := ["slices.overlaps[refuter/corpus.Entry]"], unfollowed := true, recurses := true, apart := false }
def CorpusPicksSaid : Prop := corpusPicksRow.holds Tryz.pinned (OpenSpec.ofChange corpusPicksSpec)

/-- ITS FALSE NEIGHBOUR: 'it returns false'. Refute it at one input. -/
def corpusPicksWrong : ChangeSpec := { name := "corpusPicks", fn := fun _ => fun
  | [d1, d2, d3, d4] => { results := [.lit (.bool false)], args := [d1, d2, d3, d4] }
  | _ => none }
def CorpusPicksWrongFalsely : Prop := corpusPicksRow.holds Tryz.pinned (OpenSpec.ofChange corpusPicksWrong)

/-- 'refuterlaw33.CorpusBytes': WHATEVER THE INPUT: true; the input reads as it did. -/
def corpusBytesSpec : ChangeSpec := { name := "corpusBytes", fn := fun _ => fun
  | [d1, d2, d3, d4, d5, d6, d7] => { results := [.lit (.bool true)], args := [d1, d2, d3, d4, d5, d6, d7] }
  | _ => none }
def corpusBytesRow : OpenClaim := { program := "ytkoeecdjijfjnaagreat", sum := "d08243ef14c2d67837d0433d4d314011ec288aeab23c1d849c136eefaf435200", func := "refuter/refuterlaw33.CorpusBytes", spec := "corpusBytes", inPlace := ["slices.overlaps[refuter/corpus.Entry]"], unfollowed := true, recurses := true, apart := false }
def CorpusBytesSaid : Prop := corpusBytesRow.holds Tryz.pinned (OpenSpec.ofChange corpusBytesSpec)

/-- ITS FALSE NEIGHBOUR: 'it returns false'. Refute it at one input. -/
def corpusBytesWrong : ChangeSpec := { name := "corpusBytes", fn := fun _ => fun
  | [d1, d2, d3, d4, d5, d6, d7] => { results := [.lit (.bool false)], args := [d1, d2, d3, d4, d5, d6, d7] }
  | _ => none }
def CorpusBytesWrongFalsely : Prop := corpusBytesRow.holds Tryz.pinned (OpenSpec.ofChange corpusBytesWrong)

/- THE SECOND FORM. 'bulk': how many values and letters a reading holds, each counted each time it is reached (what is shared counts as often as it is met; a slice's spare places count too). A statement '..UptoSaid' is the law's where the arguments, and the package variables that the reading takes, are together of bulk at most 1048576: NARROWER than '..Said'. Prove '..Said' where nothing that the law and all that it calls make is longer than what came in: it says more and counts as full. Else prove '..UptoSaid'. A law counts once. -/
mutual
def uptoBulk {H : Type} : DataW H → Nat
  | .lit (.string bytes) => bytes.length + 1
  | .lit _ => 1
  | .nil => 1
  | .ptr d => uptoBulk d + 1
  | .slice elems spare => uptoBulkAll elems + uptoBulkAll spare + 1
  | .agg parts => uptoBulkAll parts + 1
  | .iface _ d => uptoBulk d + 1
  | .map entries => uptoBulkEntries entries + 1
  | .held _ => 1
def uptoBulkAll {H : Type} : List (DataW H) → Nat
  | [] => 0
  | d :: r => uptoBulk d + uptoBulkAll r
def uptoBulkEntries {H : Type} : List (Lit × DataW H) → Nat
  | [] => 0
  | x :: r => uptoBulkEntry x + uptoBulkEntries r
def uptoBulkEntry {H : Type} : Lit × DataW H → Nat
  | (.string bytes, d) => bytes.length + uptoBulk d + 1
  | (_, d) => uptoBulk d + 1
 end
def uptoSmall : (H : Type) → List (DataW H) → Bool := fun _ ds => decide (uptoBulkAll ds ≤ 1048576)
def OpenSpec.upto (s : _root_.Go.ChangeSpec) : _root_.Go.OpenSpec := { _root_.Go.OpenSpec.ofChange s with cond := some uptoSmall }

/-- 'refuterlaw33.CorpusAdds', WHERE WHAT IT READS IS OF BULK AT MOST 1048576: true; the input reads as it did. -/
def corpusAddsUptoRow : OpenClaim := { program := "ytkoeecdjijfjnaagreat", sum := "d08243ef14c2d67837d0433d4d314011ec288aeab23c1d849c136eefaf435200", func := "refuter/refuterlaw33.CorpusAdds", spec := "corpusAdds", inPlace := ["slices.overlaps[refuter/corpus.Entry]"], unfollowed := true, recurses := true, apart := false, narrowed := true }
def CorpusAddsUptoSaid : Prop := corpusAddsUptoRow.holds Tryz.pinned (OpenSpec.upto corpusAddsSpec)

/-- 'refuterlaw33.CorpusOrder', WHERE WHAT IT READS IS OF BULK AT MOST 1048576: true; the input reads as it did. -/
def corpusOrderUptoRow : OpenClaim := { program := "ytkoeecdjijfjnaagreat", sum := "d08243ef14c2d67837d0433d4d314011ec288aeab23c1d849c136eefaf435200", func := "refuter/refuterlaw33.CorpusOrder", spec := "corpusOrder", inPlace := ["slices.overlaps[refuter/corpus.Entry]"], unfollowed := true, recurses := true, apart := false, narrowed := true }
def CorpusOrderUptoSaid : Prop := corpusOrderUptoRow.holds Tryz.pinned (OpenSpec.upto corpusOrderSpec)

/-- 'refuterlaw33.CorpusMerges', WHERE WHAT IT READS IS OF BULK AT MOST 1048576: true; the input reads as it did. -/
def corpusMergesUptoRow : OpenClaim := { program := "ytkoeecdjijfjnaagreat", sum := "d08243ef14c2d67837d0433d4d314011ec288aeab23c1d849c136eefaf435200", func := "refuter/refuterlaw33.CorpusMerges", spec := "corpusMerges", inPlace := ["slices.overlaps[refuter/corpus.Entry]"], unfollowed := true, recurses := true, apart := false, narrowed := true }
def CorpusMergesUptoSaid : Prop := corpusMergesUptoRow.holds Tryz.pinned (OpenSpec.upto corpusMergesSpec)

/-- 'refuterlaw33.CorpusPicks', WHERE WHAT IT READS IS OF BULK AT MOST 1048576: true; the input reads as it did. -/
def corpusPicksUptoRow : OpenClaim := { program := "ytkoeecdjijfjnaagreat", sum := "d08243ef14c2d67837d0433d4d314011ec288aeab23c1d849c136eefaf435200", func := "refuter/refuterlaw33.CorpusPicks", spec := "corpusPicks", inPlace := ["slices.overlaps[refuter/corpus.Entry]"], unfollowed := true, recurses := true, apart := false, narrowed := true }
def CorpusPicksUptoSaid : Prop := corpusPicksUptoRow.holds Tryz.pinned (OpenSpec.upto corpusPicksSpec)

/-- 'refuterlaw33.CorpusBytes', WHERE WHAT IT READS IS OF BULK AT MOST 1048576: true; the input reads as it did. -/
def corpusBytesUptoRow : OpenClaim := { program := "ytkoeecdjijfjnaagreat", sum := "d08243ef14c2d67837d0433d4d314011ec288aeab23c1d849c136eefaf435200", func := "refuter/refuterlaw33.CorpusBytes", spec := "corpusBytes", inPlace := ["slices.overlaps[refuter/corpus.Entry]"], unfollowed := true, recurses := true, apart := false, narrowed := true }
def CorpusBytesUptoSaid : Prop := corpusBytesUptoRow.holds Tryz.pinned (OpenSpec.upto corpusBytesSpec)

end Rows
end Go.Proofs.YtkoeecdjijfjnaaGreat
