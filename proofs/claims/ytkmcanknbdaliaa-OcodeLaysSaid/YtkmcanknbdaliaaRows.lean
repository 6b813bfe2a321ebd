/-
  No cell of these rows narrows 'for every input' (looked for: loops, veiled, ifaces, maps, wideKeys, modest, calm, conditions, laid).
  DERIVED. THE GIVEN ROWS OF THIS SEAT. 9 by the template 'for every input the law returns true; each argument reads behind the call as it read before'; 0 by the template 'total and deterministic' (their statements: YtkmcanknbdaliaaTotals.lean).
  GIVEN WITH THE SEED: the statements are not yours to turn. If you find one false, say at which input.
  Laid BY PROGRAM, IN A SANDBOX (cutbox-rows.mjs): the forced cells as the released guide's own fill.sh prints them over the translation 6574dad7efb2e2e1… (all of the seat's roots in one cut). By AI agents, Wed Nov 11 2026. No macro, syntax, notation, axiom, sorry.
-/
import Derived.Test.YtkmcanknbdaliaaChecked
import GoSem.Claim
import GoSem.ClaimJoined
import GoSem.ClaimMapViews
import Derived.JoinedTies
import Derived.KernelRfl
namespace Go.Proofs.Ytkmcanknbdaliaa
/- THE CELL 'sum', in the pinned program and in every row, IS THE sha256 OF THE DUMP (.gsa) THAT YtkmcanknbdaliaaProg.lean LOADS. Nothing in Lean hashes anything: it is a label: what it is worth is what the hold of that sum in a sandbox is worth. -/
noncomputable def Try.pinned : Pinned := { name := "ytkmcanknbdaliaa", sum := "6574dad7efb2e2e1e262afeb67f302745fa8e460d830bceee93c857eadd3e560", checked := Try.checked }
namespace Rows
def none {H : Type} : Left H := { results := [], args := [] }

/-- 'bluebelllaw06.OcodeSums': WHATEVER THE INPUT: true; the input reads as it did. -/
def ocodeSumsSpec : ChangeSpec := { name := "ocodeSums", fn := fun _ => fun
  | [d] => { results := [.lit (.bool true)], args := [d] }
  | _ => none }
def ocodeSumsRow : OpenClaim := { program := "ytkmcanknbdaliaa", sum := "6574dad7efb2e2e1e262afeb67f302745fa8e460d830bceee93c857eadd3e560", func := "bluebell/bluebelllaw06.OcodeSums", spec := "ocodeSums", inPlace := ["internal/abi.NoEscape", "internal/bytealg.IndexByteString"], unfollowed := true, recurses := true, apart := false }
def OcodeSumsSaid : Prop := ocodeSumsRow.holds Try.pinned (OpenSpec.ofChange ocodeSumsSpec)

/-- ITS FALSE NEIGHBOUR: 'it returns false'. Refute it at one input. -/
def ocodeSumsWrong : ChangeSpec := { name := "ocodeSums", fn := fun _ => fun
  | [d] => { results := [.lit (.bool false)], args := [d] }
  | _ => none }
def OcodeSumsWrongFalsely : Prop := ocodeSumsRow.holds Try.pinned (OpenSpec.ofChange ocodeSumsWrong)

/-- 'bluebelllaw06.OcodeApart': WHATEVER THE INPUT: true; the input reads as it did. -/
def ocodeApartSpec : ChangeSpec := { name := "ocodeApart", fn := fun _ => fun
  | [d1, d2] => { results := [.lit (.bool true)], args := [d1, d2] }
  | _ => none }
def ocodeApartRow : OpenClaim := { program := "ytkmcanknbdaliaa", sum := "6574dad7efb2e2e1e262afeb67f302745fa8e460d830bceee93c857eadd3e560", func := "bluebell/bluebelllaw06.OcodeApart", spec := "ocodeApart", inPlace := ["internal/abi.NoEscape", "internal/bytealg.IndexByteString"], unfollowed := true, recurses := true, apart := false }
def OcodeApartSaid : Prop := ocodeApartRow.holds Try.pinned (OpenSpec.ofChange ocodeApartSpec)

/-- ITS FALSE NEIGHBOUR: 'it returns false'. Refute it at one input. -/
def ocodeApartWrong : ChangeSpec := { name := "ocodeApart", fn := fun _ => fun
  | [d1, d2] => { results := [.lit (.bool false)], args := [d1, d2] }
  | _ => none }
def OcodeApartWrongFalsely : Prop := ocodeApartRow.holds Try.pinned (OpenSpec.ofChange ocodeApartWrong)

/-- 'bluebelllaw06.OcodeDown': WHATEVER THE INPUT: true; the input reads as it did. -/
def ocodeDownSpec : ChangeSpec := { name := "ocodeDown", fn := fun _ => fun
  | [d] => { results := [.lit (.bool true)], args := [d] }
  | _ => none }
def ocodeDownRow : OpenClaim := { program := "ytkmcanknbdaliaa", sum := "6574dad7efb2e2e1e262afeb67f302745fa8e460d830bceee93c857eadd3e560", func := "bluebell/bluebelllaw06.OcodeDown", spec := "ocodeDown", inPlace := ["internal/abi.NoEscape", "internal/bytealg.IndexByteString"], unfollowed := true, recurses := true, apart := false }
def OcodeDownSaid : Prop := ocodeDownRow.holds Try.pinned (OpenSpec.ofChange ocodeDownSpec)

/-- ITS FALSE NEIGHBOUR: 'it returns false'. Refute it at one input. -/
def ocodeDownWrong : ChangeSpec := { name := "ocodeDown", fn := fun _ => fun
  | [d] => { results := [.lit (.bool false)], args := [d] }
  | _ => none }
def OcodeDownWrongFalsely : Prop := ocodeDownRow.holds Try.pinned (OpenSpec.ofChange ocodeDownWrong)

/-- 'bluebelllaw06.OcodeChecks': WHATEVER THE INPUT: true; the input reads as it did. -/
def ocodeChecksSpec : ChangeSpec := { name := "ocodeChecks", fn := fun _ => fun
  | [d] => { results := [.lit (.bool true)], args := [d] }
  | _ => none }
def ocodeChecksRow : OpenClaim := { program := "ytkmcanknbdaliaa", sum := "6574dad7efb2e2e1e262afeb67f302745fa8e460d830bceee93c857eadd3e560", func := "bluebell/bluebelllaw06.OcodeChecks", spec := "ocodeChecks", inPlace := ["internal/abi.NoEscape", "internal/bytealg.IndexByteString"], unfollowed := true, recurses := true, apart := false }
def OcodeChecksSaid : Prop := ocodeChecksRow.holds Try.pinned (OpenSpec.ofChange ocodeChecksSpec)

/-- ITS FALSE NEIGHBOUR: 'it returns false'. Refute it at one input. -/
def ocodeChecksWrong : ChangeSpec := { name := "ocodeChecks", fn := fun _ => fun
  | [d] => { results := [.lit (.bool false)], args := [d] }
  | _ => none }
def OcodeChecksWrongFalsely : Prop := ocodeChecksRow.holds Try.pinned (OpenSpec.ofChange ocodeChecksWrong)

/-- 'bluebelllaw06.OcodeSame': WHATEVER THE INPUT: true; the input reads as it did. -/
def ocodeSameSpec : ChangeSpec := { name := "ocodeSame", fn := fun _ => fun
  | [d1, d2] => { results := [.lit (.bool true)], args := [d1, d2] }
  | _ => none }
def ocodeSameRow : OpenClaim := { program := "ytkmcanknbdaliaa", sum := "6574dad7efb2e2e1e262afeb67f302745fa8e460d830bceee93c857eadd3e560", func := "bluebell/bluebelllaw06.OcodeSame", spec := "ocodeSame", inPlace := ["internal/abi.NoEscape", "internal/bytealg.IndexByteString"], unfollowed := true, recurses := true, apart := false }
def OcodeSameSaid : Prop := ocodeSameRow.holds Try.pinned (OpenSpec.ofChange ocodeSameSpec)

/-- ITS FALSE NEIGHBOUR: 'it returns false'. Refute it at one input. -/
def ocodeSameWrong : ChangeSpec := { name := "ocodeSame", fn := fun _ => fun
  | [d1, d2] => { results := [.lit (.bool false)], args := [d1, d2] }
  | _ => none }
def OcodeSameWrongFalsely : Prop := ocodeSameRow.holds Try.pinned (OpenSpec.ofChange ocodeSameWrong)

/-- 'bluebelllaw06.OcodeDepths': WHATEVER THE INPUT: true; the input reads as it did. -/
def ocodeDepthsSpec : ChangeSpec := { name := "ocodeDepths", fn := fun _ => fun
  | [d] => { results := [.lit (.bool true)], args := [d] }
  | _ => none }
def ocodeDepthsRow : OpenClaim := { program := "ytkmcanknbdaliaa", sum := "6574dad7efb2e2e1e262afeb67f302745fa8e460d830bceee93c857eadd3e560", func := "bluebell/bluebelllaw06.OcodeDepths", spec := "ocodeDepths", inPlace := ["internal/abi.NoEscape", "internal/bytealg.IndexByteString"], unfollowed := true, recurses := true, apart := false }
def OcodeDepthsSaid : Prop := ocodeDepthsRow.holds Try.pinned (OpenSpec.ofChange ocodeDepthsSpec)

/-- ITS FALSE NEIGHBOUR: 'it returns false'. Refute it at one input. -/
def ocodeDepthsWrong : ChangeSpec := { name := "ocodeDepths", fn := fun _ => fun
  | [d] => { results := [.lit (.bool false)], args := [d] }
  | _ => none }
def OcodeDepthsWrongFalsely : Prop := ocodeDepthsRow.holds Try.pinned (OpenSpec.ofChange ocodeDepthsWrong)

/-- 'bluebelllaw06.OcodeNumbers': WHATEVER THE INPUT: true; the input reads as it did. -/
def ocodeNumbersSpec : ChangeSpec := { name := "ocodeNumbers", fn := fun _ => fun
  | [d] => { results := [.lit (.bool true)], args := [d] }
  | _ => none }
def ocodeNumbersRow : OpenClaim := { program := "ytkmcanknbdaliaa", sum := "6574dad7efb2e2e1e262afeb67f302745fa8e460d830bceee93c857eadd3e560", func := "bluebell/bluebelllaw06.OcodeNumbers", spec := "ocodeNumbers", inPlace := ["internal/abi.NoEscape", "internal/bytealg.IndexByteString"], unfollowed := true, recurses := true, apart := false }
def OcodeNumbersSaid : Prop := ocodeNumbersRow.holds Try.pinned (OpenSpec.ofChange ocodeNumbersSpec)

/-- ITS FALSE NEIGHBOUR: 'it returns false'. Refute it at one input. -/
def ocodeNumbersWrong : ChangeSpec := { name := "ocodeNumbers", fn := fun _ => fun
  | [d] => { results := [.lit (.bool false)], args := [d] }
  | _ => none }
def OcodeNumbersWrongFalsely : Prop := ocodeNumbersRow.holds Try.pinned (OpenSpec.ofChange ocodeNumbersWrong)

/-- 'bluebelllaw06.OcodeLays': WHATEVER THE INPUT: true; the input reads as it did. -/
def ocodeLaysSpec : ChangeSpec := { name := "ocodeLays", fn := fun _ => fun
  | [d1, d2, d3] => { results := [.lit (.bool true)], args := [d1, d2, d3] }
  | _ => none }
def ocodeLaysRow : OpenClaim := { program := "ytkmcanknbdaliaa", sum := "6574dad7efb2e2e1e262afeb67f302745fa8e460d830bceee93c857eadd3e560", func := "bluebell/bluebelllaw06.OcodeLays", spec := "ocodeLays", inPlace := ["internal/abi.NoEscape", "internal/bytealg.IndexByteString"], unfollowed := true, recurses := true, apart := false }
def OcodeLaysSaid : Prop := ocodeLaysRow.holds Try.pinned (OpenSpec.ofChange ocodeLaysSpec)

/-- ITS FALSE NEIGHBOUR: 'it returns false'. Refute it at one input. -/
def ocodeLaysWrong : ChangeSpec := { name := "ocodeLays", fn := fun _ => fun
  | [d1, d2, d3] => { results := [.lit (.bool false)], args := [d1, d2, d3] }
  | _ => none }
def OcodeLaysWrongFalsely : Prop := ocodeLaysRow.holds Try.pinned (OpenSpec.ofChange ocodeLaysWrong)

/-- 'bluebelllaw06.OcodeAgain': WHATEVER THE INPUT: true; the input reads as it did. -/
def ocodeAgainSpec : ChangeSpec := { name := "ocodeAgain", fn := fun _ => fun
  | [d] => { results := [.lit (.bool true)], args := [d] }
  | _ => none }
def ocodeAgainRow : OpenClaim := { program := "ytkmcanknbdaliaa", sum := "6574dad7efb2e2e1e262afeb67f302745fa8e460d830bceee93c857eadd3e560", func := "bluebell/bluebelllaw06.OcodeAgain", spec := "ocodeAgain", inPlace := ["internal/abi.NoEscape", "internal/bytealg.IndexByteString"], unfollowed := true, recurses := true, apart := false }
def OcodeAgainSaid : Prop := ocodeAgainRow.holds Try.pinned (OpenSpec.ofChange ocodeAgainSpec)

/-- ITS FALSE NEIGHBOUR: 'it returns false'. Refute it at one input. -/
def ocodeAgainWrong : ChangeSpec := { name := "ocodeAgain", fn := fun _ => fun
  | [d] => { results := [.lit (.bool false)], args := [d] }
  | _ => none }
def OcodeAgainWrongFalsely : Prop := ocodeAgainRow.holds Try.pinned (OpenSpec.ofChange ocodeAgainWrong)

/- THE SECOND FORM. 'bulk': how many values and letters a reading holds, each counted each time it is reached (what is shared counts as often as it is met; a slice's spare places count too). A statement '..UptoSaid' is the law's where the arguments, and the package variables that the reading takes, are together of bulk at most 1048576: NARROWER than '..Said'. Prove '..Said' where nothing that the law and all that it calls make is longer than what came in: it says more and counts as full. Else prove '..UptoSaid'. A law counts once. -/
mutual
def uptoBulk {H : Type} : DataW H → Nat
  | .lit (.string bytes) => bytes.length + 1
  | .lit _ => 1
  | .nil => 1
  | .ptr d => uptoBulk d + 1
  | .slice elems spare => uptoBulkAll elems + uptoBulkAll spare + 1
  | .agg parts => uptoBulkAll parts + 1
  | .iface _ d => uptoBulk d + 1
  | .map entries => uptoBulkEntries entries + 1
  | .held _ => 1
def uptoBulkAll {H : Type} : List (DataW H) → Nat
  | [] => 0
  | d :: r => uptoBulk d + uptoBulkAll r
def uptoBulkEntries {H : Type} : List (Lit × DataW H) → Nat
  | [] => 0
  | x :: r => uptoBulkEntry x + uptoBulkEntries r
def uptoBulkEntry {H : Type} : Lit × DataW H → Nat
  | (.string bytes, d) => bytes.length + uptoBulk d + 1
  | (_, d) => uptoBulk d + 1
 end
def uptoSmall : (H : Type) → List (DataW H) → Bool := fun _ ds => decide (uptoBulkAll ds ≤ 1048576)
def OpenSpec.upto (s : _root_.Go.ChangeSpec) : _root_.Go.OpenSpec := { _root_.Go.OpenSpec.ofChange s with cond := some uptoSmall }

/-- 'bluebelllaw06.OcodeSums', WHERE WHAT IT READS IS OF BULK AT MOST 1048576: true; the input reads as it did. -/
def ocodeSumsUptoRow : OpenClaim := { program := "ytkmcanknbdaliaa", sum := "6574dad7efb2e2e1e262afeb67f302745fa8e460d830bceee93c857eadd3e560", func := "bluebell/bluebelllaw06.OcodeSums", spec := "ocodeSums", inPlace := ["internal/abi.NoEscape", "internal/bytealg.IndexByteString"], unfollowed := true, recurses := true, apart := false, narrowed := true }
def OcodeSumsUptoSaid : Prop := ocodeSumsUptoRow.holds Try.pinned (OpenSpec.upto ocodeSumsSpec)

/-- 'bluebelllaw06.OcodeApart', WHERE WHAT IT READS IS OF BULK AT MOST 1048576: true; the input reads as it did. -/
def ocodeApartUptoRow : OpenClaim := { program := "ytkmcanknbdaliaa", sum := "6574dad7efb2e2e1e262afeb67f302745fa8e460d830bceee93c857eadd3e560", func := "bluebell/bluebelllaw06.OcodeApart", spec := "ocodeApart", inPlace := ["internal/abi.NoEscape", "internal/bytealg.IndexByteString"], unfollowed := true, recurses := true, apart := false, narrowed := true }
def OcodeApartUptoSaid : Prop := ocodeApartUptoRow.holds Try.pinned (OpenSpec.upto ocodeApartSpec)

/-- 'bluebelllaw06.OcodeDown', WHERE WHAT IT READS IS OF BULK AT MOST 1048576: true; the input reads as it did. -/
def ocodeDownUptoRow : OpenClaim := { program := "ytkmcanknbdaliaa", sum := "6574dad7efb2e2e1e262afeb67f302745fa8e460d830bceee93c857eadd3e560", func := "bluebell/bluebelllaw06.OcodeDown", spec := "ocodeDown", inPlace := ["internal/abi.NoEscape", "internal/bytealg.IndexByteString"], unfollowed := true, recurses := true, apart := false, narrowed := true }
def OcodeDownUptoSaid : Prop := ocodeDownUptoRow.holds Try.pinned (OpenSpec.upto ocodeDownSpec)

/-- 'bluebelllaw06.OcodeChecks', WHERE WHAT IT READS IS OF BULK AT MOST 1048576: true; the input reads as it did. -/
def ocodeChecksUptoRow : OpenClaim := { program := "ytkmcanknbdaliaa", sum := "6574dad7efb2e2e1e262afeb67f302745fa8e460d830bceee93c857eadd3e560", func := "bluebell/bluebelllaw06.OcodeChecks", spec := "ocodeChecks", inPlace := ["internal/abi.NoEscape", "internal/bytealg.IndexByteString"], unfollowed := true, recurses := true, apart := false, narrowed := true }
def OcodeChecksUptoSaid : Prop := ocodeChecksUptoRow.holds Try.pinned (OpenSpec.upto ocodeChecksSpec)

/-- 'bluebelllaw06.OcodeSame', WHERE WHAT IT READS IS OF BULK AT MOST 1048576: true; the input reads as it did. -/
def ocodeSameUptoRow : OpenClaim := { program := "ytkmcanknbdaliaa", sum := "6574dad7efb2e2e1e262afeb67f302745fa8e460d830bceee93c857eadd3e560", func := "bluebell/bluebelllaw06.OcodeSame", spec := "ocodeSame", inPlace := ["internal/abi.NoEscape", "internal/bytealg.IndexByteString"], unfollowed := true, recurses := true, apart := false, narrowed := true }
def OcodeSameUptoSaid : Prop := ocodeSameUptoRow.holds Try.pinned (OpenSpec.upto ocodeSameSpec)

/-- 'bluebelllaw06.OcodeDepths', WHERE WHAT IT READS IS OF BULK AT MOST 1048576: true; the input reads as it did. -/
def ocodeDepthsUptoRow : OpenClaim := { program := "ytkmcanknbdaliaa", sum := "6574dad7efb2e2e1e262afeb67f302745fa8e460d830bceee93c857eadd3e560", func := "bluebell/bluebelllaw06.OcodeDepths", spec := "ocodeDepths", inPlace := ["internal/abi.NoEscape", "internal/bytealg.IndexByteString"], unfollowed := true, recurses := true, apart := false, narrowed := true }
def OcodeDepthsUptoSaid : Prop := ocodeDepthsUptoRow.holds Try.pinned (OpenSpec.upto ocodeDepthsSpec)

/-- 'bluebelllaw06.OcodeNumbers', WHERE WHAT IT READS IS OF BULK AT MOST 1048576: true; the input reads as it did. -/
def ocodeNumbersUptoRow : OpenClaim := { program := "ytkmcanknbdaliaa", sum := "6574dad7efb2e2e1e262afeb67f302745fa8e460d830bceee93c857eadd3e560", func := "bluebell/bluebelllaw06.OcodeNumbers", spec := "ocodeNumbers", inPlace := ["internal/abi.NoEscape", "internal/bytealg.IndexByteString"], unfollowed := true, recurses := true, apart := false, narrowed := true }
def OcodeNumbersUptoSaid : Prop := ocodeNumbersUptoRow.holds Try.pinned (OpenSpec.upto ocodeNumbersSpec)

/-- 'bluebelllaw06.OcodeLays', WHERE WHAT IT READS IS OF BULK AT MOST 1048576: true; the input reads as it did. -/
def ocodeLaysUptoRow : OpenClaim := { program := "ytkmcanknbdaliaa", sum := "6574dad7efb2e2e1e262afeb67f302745fa8e460d830bceee93c857eadd3e560", func := "bluebell/bluebelllaw06.OcodeLays", spec := "ocodeLays", inPlace := ["internal/abi.NoEscape", "internal/bytealg.IndexByteString"], unfollowed := true, recurses := true, apart := false, narrowed := true }
def OcodeLaysUptoSaid : Prop := ocodeLaysUptoRow.holds Try.pinned (OpenSpec.upto ocodeLaysSpec)

/-- 'bluebelllaw06.OcodeAgain', WHERE WHAT IT READS IS OF BULK AT MOST 1048576: true; the input reads as it did. -/
def ocodeAgainUptoRow : OpenClaim := { program := "ytkmcanknbdaliaa", sum := "6574dad7efb2e2e1e262afeb67f302745fa8e460d830bceee93c857eadd3e560", func := "bluebell/bluebelllaw06.OcodeAgain", spec := "ocodeAgain", inPlace := ["internal/abi.NoEscape", "internal/bytealg.IndexByteString"], unfollowed := true, recurses := true, apart := false, narrowed := true }
def OcodeAgainUptoSaid : Prop := ocodeAgainUptoRow.holds Try.pinned (OpenSpec.upto ocodeAgainSpec)

end Rows
end Go.Proofs.Ytkmcanknbdaliaa
