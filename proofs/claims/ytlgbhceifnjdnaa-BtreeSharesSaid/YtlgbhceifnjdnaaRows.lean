/-
  No cell of these rows narrows 'for every input' (looked for: loops, veiled, ifaces, maps, wideKeys, modest, calm, conditions, laid).
  DERIVED. THE GIVEN ROWS OF THIS SEAT. 7 by the template 'for every input the law returns true; each argument reads behind the call as it read before'; 0 by the template 'total and deterministic' (their statements: YtlgbhceifnjdnaaTotals.lean).
  GIVEN WITH THE SEED: the statements are not yours to turn. If you find one false, say at which input.
  Laid BY PROGRAM, IN A SANDBOX (cutbox-rows.mjs): the forced cells as the released guide's own fill.sh prints them over the translation bb0b300854575a8f… (all of the seat's roots in one cut). By AI agents, Wed Nov 11 2026. No macro, syntax, notation, axiom, sorry.
-/
import Derived.Test.YtlgbhceifnjdnaaChecked
import GoSem.Claim
import GoSem.ClaimJoined
import GoSem.ClaimMapViews
import Derived.JoinedTies
import Derived.KernelRfl
namespace Go.Proofs.Ytlgbhceifnjdnaa
/- THE CELL 'sum', in the pinned program and in every row, IS THE sha256 OF THE DUMP (.gsa) THAT YtlgbhceifnjdnaaProg.lean LOADS. Nothing in Lean hashes anything: it is a label: what it is worth is what the hold of that sum in a sandbox is worth. -/
noncomputable def Try.pinned : Pinned := { name := "ytlgbhceifnjdnaa", sum := "bb0b300854575a8f9d8f5beb55962c615c31f8db5a4bee456187d9b3e3b3cdf3", checked := Try.checked }
namespace Rows
def none {H : Type} : Left H := { results := [], args := [] }

/-- 'klaxonlaw05.BtreePlays': WHATEVER THE INPUT: true; the input reads as it did. -/
def btreePlaysSpec : ChangeSpec := { name := "btreePlays", fn := fun _ => fun
  | [d1, d2, d3, d4] => { results := [.lit (.bool true)], args := [d1, d2, d3, d4] }
  | _ => none }
def btreePlaysRow : OpenClaim := { program := "ytlgbhceifnjdnaa", sum := "bb0b300854575a8f9d8f5beb55962c615c31f8db5a4bee456187d9b3e3b3cdf3", func := "klaxon/klaxonlaw05.BtreePlays", spec := "btreePlays", unfollowed := true, recurses := true, apart := false }
def BtreePlaysSaid : Prop := btreePlaysRow.holds Try.pinned (OpenSpec.ofChange btreePlaysSpec)

/-- ITS FALSE NEIGHBOUR: 'it returns false'. Refute it at one input. -/
def btreePlaysWrong : ChangeSpec := { name := "btreePlays", fn := fun _ => fun
  | [d1, d2, d3, d4] => { results := [.lit (.bool false)], args := [d1, d2, d3, d4] }
  | _ => none }
def BtreePlaysWrongFalsely : Prop := btreePlaysRow.holds Try.pinned (OpenSpec.ofChange btreePlaysWrong)

/-- 'klaxonlaw05.BtreeFull': WHATEVER THE INPUT: true; the input reads as it did. -/
def btreeFullSpec : ChangeSpec := { name := "btreeFull", fn := fun _ => fun
  | [d1, d2, d3] => { results := [.lit (.bool true)], args := [d1, d2, d3] }
  | _ => none }
def btreeFullRow : OpenClaim := { program := "ytlgbhceifnjdnaa", sum := "bb0b300854575a8f9d8f5beb55962c615c31f8db5a4bee456187d9b3e3b3cdf3", func := "klaxon/klaxonlaw05.BtreeFull", spec := "btreeFull", unfollowed := true, recurses := true, apart := false }
def BtreeFullSaid : Prop := btreeFullRow.holds Try.pinned (OpenSpec.ofChange btreeFullSpec)

/-- ITS FALSE NEIGHBOUR: 'it returns false'. Refute it at one input. -/
def btreeFullWrong : ChangeSpec := { name := "btreeFull", fn := fun _ => fun
  | [d1, d2, d3] => { results := [.lit (.bool false)], args := [d1, d2, d3] }
  | _ => none }
def BtreeFullWrongFalsely : Prop := btreeFullRow.holds Try.pinned (OpenSpec.ofChange btreeFullWrong)

/-- 'klaxonlaw05.BtreeBack': WHATEVER THE INPUT: true; the input reads as it did. -/
def btreeBackSpec : ChangeSpec := { name := "btreeBack", fn := fun _ => fun
  | [d1, d2, d3, d4] => { results := [.lit (.bool true)], args := [d1, d2, d3, d4] }
  | _ => none }
def btreeBackRow : OpenClaim := { program := "ytlgbhceifnjdnaa", sum := "bb0b300854575a8f9d8f5beb55962c615c31f8db5a4bee456187d9b3e3b3cdf3", func := "klaxon/klaxonlaw05.BtreeBack", spec := "btreeBack", unfollowed := true, recurses := true, apart := false }
def BtreeBackSaid : Prop := btreeBackRow.holds Try.pinned (OpenSpec.ofChange btreeBackSpec)

/-- ITS FALSE NEIGHBOUR: 'it returns false'. Refute it at one input. -/
def btreeBackWrong : ChangeSpec := { name := "btreeBack", fn := fun _ => fun
  | [d1, d2, d3, d4] => { results := [.lit (.bool false)], args := [d1, d2, d3, d4] }
  | _ => none }
def BtreeBackWrongFalsely : Prop := btreeBackRow.holds Try.pinned (OpenSpec.ofChange btreeBackWrong)

/-- 'klaxonlaw05.BtreeOrder': WHATEVER THE INPUT: true; the input reads as it did. -/
def btreeOrderSpec : ChangeSpec := { name := "btreeOrder", fn := fun _ => fun
  | [d1, d2, d3] => { results := [.lit (.bool true)], args := [d1, d2, d3] }
  | _ => none }
def btreeOrderRow : OpenClaim := { program := "ytlgbhceifnjdnaa", sum := "bb0b300854575a8f9d8f5beb55962c615c31f8db5a4bee456187d9b3e3b3cdf3", func := "klaxon/klaxonlaw05.BtreeOrder", spec := "btreeOrder", unfollowed := true, recurses := true, apart := false }
def BtreeOrderSaid : Prop := btreeOrderRow.holds Try.pinned (OpenSpec.ofChange btreeOrderSpec)

/-- ITS FALSE NEIGHBOUR: 'it returns false'. Refute it at one input. -/
def btreeOrderWrong : ChangeSpec := { name := "btreeOrder", fn := fun _ => fun
  | [d1, d2, d3] => { results := [.lit (.bool false)], args := [d1, d2, d3] }
  | _ => none }
def BtreeOrderWrongFalsely : Prop := btreeOrderRow.holds Try.pinned (OpenSpec.ofChange btreeOrderWrong)

/-- 'klaxonlaw05.BtreeShares': WHATEVER THE INPUT: true; the input reads as it did. -/
def btreeSharesSpec : ChangeSpec := { name := "btreeShares", fn := fun _ => fun
  | [d1, d2] => { results := [.lit (.bool true)], args := [d1, d2] }
  | _ => none }
def btreeSharesRow : OpenClaim := { program := "ytlgbhceifnjdnaa", sum := "bb0b300854575a8f9d8f5beb55962c615c31f8db5a4bee456187d9b3e3b3cdf3", func := "klaxon/klaxonlaw05.BtreeShares", spec := "btreeShares", unfollowed := true, recurses := true, apart := false }
def BtreeSharesSaid : Prop := btreeSharesRow.holds Try.pinned (OpenSpec.ofChange btreeSharesSpec)

/-- ITS FALSE NEIGHBOUR: 'it returns false'. Refute it at one input. -/
def btreeSharesWrong : ChangeSpec := { name := "btreeShares", fn := fun _ => fun
  | [d1, d2] => { results := [.lit (.bool false)], args := [d1, d2] }
  | _ => none }
def BtreeSharesWrongFalsely : Prop := btreeSharesRow.holds Try.pinned (OpenSpec.ofChange btreeSharesWrong)

/-- 'klaxonlaw05.BtreeAny': WHATEVER THE INPUT: true; the input reads as it did. -/
def btreeAnySpec : ChangeSpec := { name := "btreeAny", fn := fun _ => fun
  | [d1, d2, d3, d4, d5] => { results := [.lit (.bool true)], args := [d1, d2, d3, d4, d5] }
  | _ => none }
def btreeAnyRow : OpenClaim := { program := "ytlgbhceifnjdnaa", sum := "bb0b300854575a8f9d8f5beb55962c615c31f8db5a4bee456187d9b3e3b3cdf3", func := "klaxon/klaxonlaw05.BtreeAny", spec := "btreeAny", unfollowed := true, recurses := true, apart := false }
def BtreeAnySaid : Prop := btreeAnyRow.holds Try.pinned (OpenSpec.ofChange btreeAnySpec)

/-- ITS FALSE NEIGHBOUR: 'it returns false'. Refute it at one input. -/
def btreeAnyWrong : ChangeSpec := { name := "btreeAny", fn := fun _ => fun
  | [d1, d2, d3, d4, d5] => { results := [.lit (.bool false)], args := [d1, d2, d3, d4, d5] }
  | _ => none }
def BtreeAnyWrongFalsely : Prop := btreeAnyRow.holds Try.pinned (OpenSpec.ofChange btreeAnyWrong)

/-- 'klaxonlaw05.BtreeArgs': WHATEVER THE INPUT: true; the input reads as it did. -/
def btreeArgsSpec : ChangeSpec := { name := "btreeArgs", fn := fun _ => fun
  | [d1, d2, d3] => { results := [.lit (.bool true)], args := [d1, d2, d3] }
  | _ => none }
def btreeArgsRow : OpenClaim := { program := "ytlgbhceifnjdnaa", sum := "bb0b300854575a8f9d8f5beb55962c615c31f8db5a4bee456187d9b3e3b3cdf3", func := "klaxon/klaxonlaw05.BtreeArgs", spec := "btreeArgs", unfollowed := true, recurses := true, apart := false }
def BtreeArgsSaid : Prop := btreeArgsRow.holds Try.pinned (OpenSpec.ofChange btreeArgsSpec)

/-- ITS FALSE NEIGHBOUR: 'it returns false'. Refute it at one input. -/
def btreeArgsWrong : ChangeSpec := { name := "btreeArgs", fn := fun _ => fun
  | [d1, d2, d3] => { results := [.lit (.bool false)], args := [d1, d2, d3] }
  | _ => none }
def BtreeArgsWrongFalsely : Prop := btreeArgsRow.holds Try.pinned (OpenSpec.ofChange btreeArgsWrong)

/- THE SECOND FORM. 'bulk': how many values and letters a reading holds, each counted each time it is reached (what is shared counts as often as it is met; a slice's spare places count too). A statement '..UptoSaid' is the law's where the arguments, and the package variables that the reading takes, are together of bulk at most 1048576: NARROWER than '..Said'. Prove '..Said' where nothing that the law and all that it calls make is longer than what came in: it says more and counts as full. Else prove '..UptoSaid'. A law counts once. -/
mutual
def uptoBulk {H : Type} : DataW H → Nat
  | .lit (.string bytes) => bytes.length + 1
  | .lit _ => 1
  | .nil => 1
  | .ptr d => uptoBulk d + 1
  | .slice elems spare => uptoBulkAll elems + uptoBulkAll spare + 1
  | .agg parts => uptoBulkAll parts + 1
  | .iface _ d => uptoBulk d + 1
  | .map entries => uptoBulkEntries entries + 1
  | .held _ => 1
def uptoBulkAll {H : Type} : List (DataW H) → Nat
  | [] => 0
  | d :: r => uptoBulk d + uptoBulkAll r
def uptoBulkEntries {H : Type} : List (Lit × DataW H) → Nat
  | [] => 0
  | x :: r => uptoBulkEntry x + uptoBulkEntries r
def uptoBulkEntry {H : Type} : Lit × DataW H → Nat
  | (.string bytes, d) => bytes.length + uptoBulk d + 1
  | (_, d) => uptoBulk d + 1
 end
def uptoSmall : (H : Type) → List (DataW H) → Bool := fun _ ds => decide (uptoBulkAll ds ≤ 1048576)
def OpenSpec.upto (s : _root_.Go.ChangeSpec) : _root_.Go.OpenSpec := { _root_.Go.OpenSpec.ofChange s with cond := some uptoSmall }

/-- 'klaxonlaw05.BtreePlays', WHERE WHAT IT READS IS OF BULK AT MOST 1048576: true; the input reads as it did. -/
def btreePlaysUptoRow : OpenClaim := { program := "ytlgbhceifnjdnaa", sum := "bb0b300854575a8f9d8f5beb55962c615c31f8db5a4bee456187d9b3e3b3cdf3", func := "klaxon/klaxonlaw05.BtreePlays", spec := "btreePlays", unfollowed := true, recurses := true, apart := false, narrowed := true }
def BtreePlaysUptoSaid : Prop := btreePlaysUptoRow.holds Try.pinned (OpenSpec.upto btreePlaysSpec)

/-- 'klaxonlaw05.BtreeFull', WHERE WHAT IT READS IS OF BULK AT MOST 1048576: true; the input reads as it did. -/
def btreeFullUptoRow : OpenClaim := { program := "ytlgbhceifnjdnaa", sum := "bb0b300854575a8f9d8f5beb55962c615c31f8db5a4bee456187d9b3e3b3cdf3", func := "klaxon/klaxonlaw05.BtreeFull", spec := "btreeFull", unfollowed := true, recurses := true, apart := false, narrowed := true }
def BtreeFullUptoSaid : Prop := btreeFullUptoRow.holds Try.pinned (OpenSpec.upto btreeFullSpec)

/-- 'klaxonlaw05.BtreeBack', WHERE WHAT IT READS IS OF BULK AT MOST 1048576: true; the input reads as it did. -/
def btreeBackUptoRow : OpenClaim := { program := "ytlgbhceifnjdnaa", sum := "bb0b300854575a8f9d8f5beb55962c615c31f8db5a4bee456187d9b3e3b3cdf3", func := "klaxon/klaxonlaw05.BtreeBack", spec := "btreeBack", unfollowed := true, recurses := true, apart := false, narrowed := true }
def BtreeBackUptoSaid : Prop := btreeBackUptoRow.holds Try.pinned (OpenSpec.upto btreeBackSpec)

/-- 'klaxonlaw05.BtreeOrder', WHERE WHAT IT READS IS OF BULK AT MOST 1048576: true; the input reads as it did. -/
def btreeOrderUptoRow : OpenClaim := { program := "ytlgbhceifnjdnaa", sum := "bb0b300854575a8f9d8f5beb55962c615c31f8db5a4bee456187d9b3e3b3cdf3", func := "klaxon/klaxonlaw05.BtreeOrder", spec := "btreeOrder", unfollowed := true, recurses := true, apart := false, narrowed := true }
def BtreeOrderUptoSaid : Prop := btreeOrderUptoRow.holds Try.pinned (OpenSpec.upto btreeOrderSpec)

/-- 'klaxonlaw05.BtreeShares', WHERE WHAT IT READS IS OF BULK AT MOST 1048576: true; the input reads as it did. -/
def btreeSharesUptoRow : OpenClaim := { program := "ytlgbhceifnjdnaa", sum := "bb0b300854575a8f9d8f5beb55962c615c31f8db5a4bee456187d9b3e3b3cdf3", func := "klaxon/klaxonlaw05.BtreeShares", spec := "btreeShares", unfollowed := true, recurses := true, apart := false, narrowed := true }
def BtreeSharesUptoSaid : Prop := btreeSharesUptoRow.holds Try.pinned (OpenSpec.upto btreeSharesSpec)

/-- 'klaxonlaw05.BtreeAny', WHERE WHAT IT READS IS OF BULK AT MOST 1048576: true; the input reads as it did. -/
def btreeAnyUptoRow : OpenClaim := { program := "ytlgbhceifnjdnaa", sum := "bb0b300854575a8f9d8f5beb55962c615c31f8db5a4bee456187d9b3e3b3cdf3", func := "klaxon/klaxonlaw05.BtreeAny", spec := "btreeAny", unfollowed := true, recurses := true, apart := false, narrowed := true }
def BtreeAnyUptoSaid : Prop := btreeAnyUptoRow.holds Try.pinned (OpenSpec.upto btreeAnySpec)

/-- 'klaxonlaw05.BtreeArgs', WHERE WHAT IT READS IS OF BULK AT MOST 1048576: true; the input reads as it did. -/
def btreeArgsUptoRow : OpenClaim := { program := "ytlgbhceifnjdnaa", sum := "bb0b300854575a8f9d8f5beb55962c615c31f8db5a4bee456187d9b3e3b3cdf3", func := "klaxon/klaxonlaw05.BtreeArgs", spec := "btreeArgs", unfollowed := true, recurses := true, apart := false, narrowed := true }
def BtreeArgsUptoSaid : Prop := btreeArgsUptoRow.holds Try.pinned (OpenSpec.upto btreeArgsSpec)

end Rows
end Go.Proofs.Ytlgbhceifnjdnaa
