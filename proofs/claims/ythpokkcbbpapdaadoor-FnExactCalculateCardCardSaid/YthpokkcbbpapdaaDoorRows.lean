/-
  NARROWER THAN 'FOR EVERY INPUT', by the rows' own cells (each row's printed sentence says how): FnExactCyclesOfDeck: laid · FnExactCalculateCard: laid · FnExactCalculateDeck: laid · FnExactControlText: laid · FnExactFaultText: laid · FnExactSpecText: laid · FnExactTotalsText: laid · FnExactStepText: laid · FnExactReadControl: laid.
  DERIVED. THE GIVEN ROWS OF THIS SEAT. 9 by the template 'for every input the law returns true; each argument reads behind the call as it read before'; 0 by the template 'total and deterministic' (their statements: YthpokkcbbpapdaaDoorTotals.lean).
  GIVEN WITH THE SEED: the statements are not yours to turn. If you find one false, say at which input.
  Laid BY PROGRAM, IN A SANDBOX (cutbox-rows.mjs): the forced cells as the released guide's own fill.sh prints them over the translation 480729f2a3654e29… (all of the seat's roots in one cut). By AI agents, Wed Nov 11 2026. No macro, syntax, notation, axiom, sorry.
-/
import Derived.Test.YthpokkcbbpapdaaDoorChecked
import GoSem.PinnedTables
import GoSem.Claim
import GoSem.ClaimJoined
import GoSem.ClaimMapViews
import Derived.JoinedTies
import Derived.KernelRfl
namespace Go.Proofs.YthpokkcbbpapdaaDoor
/- THE CELL 'sum', in the pinned program and in every row, IS THE sha256 OF THE DUMP (.gsa) THAT YthpokkcbbpapdaaDoorProg.lean LOADS. Nothing in Lean hashes anything: it is a label: what it is worth is what the hold of that sum in a sandbox is worth. -/
noncomputable def Tryd.pinned : Pinned := { name := "ythpokkcbbpapdaadoor", sum := "480729f2a3654e29ce98896bd55ce5e95d899f284baabffd6b8c77ff5f6ed6c5", checked := Tryd.checked }
namespace Rows
def none {H : Type} : Left H := { results := [], args := [] }

/- WHAT THE LISTED PACKAGE-LEVEL VARIABLES READ AS WHEN THE CALL BEGINS. Each datum BY PROGRAM (the guide's laid-datum.mjs) off the statement by which the dump's own 'gosem.cut.vars' lays the variable. In a bare row this is a premise. The card (YthpokkcbbpapdaaDoorCards.lean) ties it to the program's text. -/
def laid_math_bits_deBruijn32tab {H : Type} : DataW H := .agg [.lit (.int .u8 0), .lit (.int .u8 1), .lit (.int .u8 28), .lit (.int .u8 2), .lit (.int .u8 29), .lit (.int .u8 14), .lit (.int .u8 24), .lit (.int .u8 3), .lit (.int .u8 30), .lit (.int .u8 22), .lit (.int .u8 20), .lit (.int .u8 15), .lit (.int .u8 25), .lit (.int .u8 17), .lit (.int .u8 4), .lit (.int .u8 8), .lit (.int .u8 31), .lit (.int .u8 27), .lit (.int .u8 13), .lit (.int .u8 23), .lit (.int .u8 21), .lit (.int .u8 19), .lit (.int .u8 16), .lit (.int .u8 7), .lit (.int .u8 26), .lit (.int .u8 12), .lit (.int .u8 18), .lit (.int .u8 6), .lit (.int .u8 11), .lit (.int .u8 5), .lit (.int .u8 10), .lit (.int .u8 9)]
def laid_math_bits_deBruijn64tab {H : Type} : DataW H := .agg [.lit (.int .u8 0), .lit (.int .u8 1), .lit (.int .u8 56), .lit (.int .u8 2), .lit (.int .u8 57), .lit (.int .u8 49), .lit (.int .u8 28), .lit (.int .u8 3), .lit (.int .u8 61), .lit (.int .u8 58), .lit (.int .u8 42), .lit (.int .u8 50), .lit (.int .u8 38), .lit (.int .u8 29), .lit (.int .u8 17), .lit (.int .u8 4), .lit (.int .u8 62), .lit (.int .u8 47), .lit (.int .u8 59), .lit (.int .u8 36), .lit (.int .u8 45), .lit (.int .u8 43), .lit (.int .u8 51), .lit (.int .u8 22), .lit (.int .u8 53), .lit (.int .u8 39), .lit (.int .u8 33), .lit (.int .u8 30), .lit (.int .u8 24), .lit (.int .u8 18), .lit (.int .u8 12), .lit (.int .u8 5), .lit (.int .u8 63), .lit (.int .u8 55), .lit (.int .u8 48), .lit (.int .u8 27), .lit (.int .u8 60), .lit (.int .u8 41), .lit (.int .u8 37), .lit (.int .u8 16), .lit (.int .u8 46), .lit (.int .u8 35), .lit (.int .u8 44), .lit (.int .u8 21), .lit (.int .u8 52), .lit (.int .u8 32), .lit (.int .u8 23), .lit (.int .u8 11), .lit (.int .u8 54), .lit (.int .u8 26), .lit (.int .u8 40), .lit (.int .u8 15), .lit (.int .u8 34), .lit (.int .u8 20), .lit (.int .u8 31), .lit (.int .u8 10), .lit (.int .u8 25), .lit (.int .u8 14), .lit (.int .u8 19), .lit (.int .u8 9), .lit (.int .u8 13), .lit (.int .u8 8), .lit (.int .u8 7), .lit (.int .u8 6)]
def laid_internal_strconv_uint64pow10 {H : Type} : DataW H := .agg [.lit (.int .u64 1), .lit (.int .u64 10), .lit (.int .u64 100), .lit (.int .u64 1000), .lit (.int .u64 10000), .lit (.int .u64 100000), .lit (.int .u64 1000000), .lit (.int .u64 10000000), .lit (.int .u64 100000000), .lit (.int .u64 1000000000), .lit (.int .u64 10000000000), .lit (.int .u64 100000000000), .lit (.int .u64 1000000000000), .lit (.int .u64 10000000000000), .lit (.int .u64 100000000000000), .lit (.int .u64 1000000000000000), .lit (.int .u64 10000000000000000), .lit (.int .u64 100000000000000000), .lit (.int .u64 1000000000000000000), .lit (.int .u64 10000000000000000000)]
def laid_unicode_utf8_acceptRanges {H : Type} : DataW H := .agg [.agg [.lit (.int .u8 128), .lit (.int .u8 191)], .agg [.lit (.int .u8 160), .lit (.int .u8 191)], .agg [.lit (.int .u8 128), .lit (.int .u8 159)], .agg [.lit (.int .u8 144), .lit (.int .u8 191)], .agg [.lit (.int .u8 128), .lit (.int .u8 143)], .agg [.lit (.int .u8 0), .lit (.int .u8 0)], .agg [.lit (.int .u8 0), .lit (.int .u8 0)], .agg [.lit (.int .u8 0), .lit (.int .u8 0)], .agg [.lit (.int .u8 0), .lit (.int .u8 0)], .agg [.lit (.int .u8 0), .lit (.int .u8 0)], .agg [.lit (.int .u8 0), .lit (.int .u8 0)], .agg [.lit (.int .u8 0), .lit (.int .u8 0)], .agg [.lit (.int .u8 0), .lit (.int .u8 0)], .agg [.lit (.int .u8 0), .lit (.int .u8 0)], .agg [.lit (.int .u8 0), .lit (.int .u8 0)], .agg [.lit (.int .u8 0), .lit (.int .u8 0)]]
def laid_strconv_ErrRange {H : Type} : DataW H := .iface "*errors.errorString" (.ptr (.agg [.lit (.string [118, 97, 108, 117, 101, 32, 111, 117, 116, 32, 111, 102, 32, 114, 97, 110, 103, 101])]))
def laid_strconv_ErrSyntax {H : Type} : DataW H := .iface "*errors.errorString" (.ptr (.agg [.lit (.string [105, 110, 118, 97, 108, 105, 100, 32, 115, 121, 110, 116, 97, 120])]))
/-- One of Go's own tables, pinned by name: the form's constant. -/
def laid_unicode_utf8_first : DataW Unit := Go.Pinned.utf8First

/-- 'laws.FnExactCyclesOfDeck': WHATEVER THE INPUT: true; the input reads as it did. -/
def fnExactCyclesOfDeckSpec : ChangeSpec := { name := "fnExactCyclesOfDeck", fn := fun _ => fun
  | [d1, d2, d3, d4] => { results := [.lit (.bool true)], args := [d1, d2, d3, d4] }
  | _ => none }
def fnExactCyclesOfDeckRow : OpenClaim := { program := "ythpokkcbbpapdaadoor", sum := "480729f2a3654e29ce98896bd55ce5e95d899f284baabffd6b8c77ff5f6ed6c5", func := "loop.example/g01012/laws.FnExactCyclesOfDeck", spec := "fnExactCyclesOfDeck", unfollowed := true, recurses := true, named := ["internal/strconv.uint64pow10", "math/bits.deBruijn32tab", "math/bits.deBruijn64tab"], apart := false, laid := [("math/bits.deBruijn32tab", laid_math_bits_deBruijn32tab), ("math/bits.deBruijn64tab", laid_math_bits_deBruijn64tab), ("internal/strconv.uint64pow10", laid_internal_strconv_uint64pow10)] }
def FnExactCyclesOfDeckSaid : Prop := fnExactCyclesOfDeckRow.holds Tryd.pinned (OpenSpec.ofChange fnExactCyclesOfDeckSpec)

/-- ITS FALSE NEIGHBOUR: 'it returns false'. Refute it at one input. -/
def fnExactCyclesOfDeckWrong : ChangeSpec := { name := "fnExactCyclesOfDeck", fn := fun _ => fun
  | [d1, d2, d3, d4] => { results := [.lit (.bool false)], args := [d1, d2, d3, d4] }
  | _ => none }
def FnExactCyclesOfDeckWrongFalsely : Prop := fnExactCyclesOfDeckRow.holds Tryd.pinned (OpenSpec.ofChange fnExactCyclesOfDeckWrong)

/-- 'laws.FnExactCalculateCard': WHATEVER THE INPUT: true; the input reads as it did. -/
def fnExactCalculateCardSpec : ChangeSpec := { name := "fnExactCalculateCard", fn := fun _ => fun
  | [d1, d2, d3, d4, d5] => { results := [.lit (.bool true)], args := [d1, d2, d3, d4, d5] }
  | _ => none }
def fnExactCalculateCardRow : OpenClaim := { program := "ythpokkcbbpapdaadoor", sum := "480729f2a3654e29ce98896bd55ce5e95d899f284baabffd6b8c77ff5f6ed6c5", func := "loop.example/g01012/laws.FnExactCalculateCard", spec := "fnExactCalculateCard", unfollowed := true, recurses := true, named := ["internal/strconv.uint64pow10", "math/bits.deBruijn32tab", "math/bits.deBruijn64tab"], apart := false, laid := [("math/bits.deBruijn32tab", laid_math_bits_deBruijn32tab), ("math/bits.deBruijn64tab", laid_math_bits_deBruijn64tab), ("internal/strconv.uint64pow10", laid_internal_strconv_uint64pow10)] }
def FnExactCalculateCardSaid : Prop := fnExactCalculateCardRow.holds Tryd.pinned (OpenSpec.ofChange fnExactCalculateCardSpec)

/-- ITS FALSE NEIGHBOUR: 'it returns false'. Refute it at one input. -/
def fnExactCalculateCardWrong : ChangeSpec := { name := "fnExactCalculateCard", fn := fun _ => fun
  | [d1, d2, d3, d4, d5] => { results := [.lit (.bool false)], args := [d1, d2, d3, d4, d5] }
  | _ => none }
def FnExactCalculateCardWrongFalsely : Prop := fnExactCalculateCardRow.holds Tryd.pinned (OpenSpec.ofChange fnExactCalculateCardWrong)

/-- 'laws.FnExactCalculateDeck': WHATEVER THE INPUT: true; the input reads as it did. -/
def fnExactCalculateDeckSpec : ChangeSpec := { name := "fnExactCalculateDeck", fn := fun _ => fun
  | [d1, d2, d3, d4, d5] => { results := [.lit (.bool true)], args := [d1, d2, d3, d4, d5] }
  | _ => none }
def fnExactCalculateDeckRow : OpenClaim := { program := "ythpokkcbbpapdaadoor", sum := "480729f2a3654e29ce98896bd55ce5e95d899f284baabffd6b8c77ff5f6ed6c5", func := "loop.example/g01012/laws.FnExactCalculateDeck", spec := "fnExactCalculateDeck", unfollowed := true, recurses := true, named := ["internal/strconv.uint64pow10", "math/bits.deBruijn32tab", "math/bits.deBruijn64tab"], apart := false, laid := [("math/bits.deBruijn32tab", laid_math_bits_deBruijn32tab), ("math/bits.deBruijn64tab", laid_math_bits_deBruijn64tab), ("internal/strconv.uint64pow10", laid_internal_strconv_uint64pow10)] }
def FnExactCalculateDeckSaid : Prop := fnExactCalculateDeckRow.holds Tryd.pinned (OpenSpec.ofChange fnExactCalculateDeckSpec)

/-- ITS FALSE NEIGHBOUR: 'it returns false'. Refute it at one input. -/
def fnExactCalculateDeckWrong : ChangeSpec := { name := "fnExactCalculateDeck", fn := fun _ => fun
  | [d1, d2, d3, d4, d5] => { results := [.lit (.bool false)], args := [d1, d2, d3, d4, d5] }
  | _ => none }
def FnExactCalculateDeckWrongFalsely : Prop := fnExactCalculateDeckRow.holds Tryd.pinned (OpenSpec.ofChange fnExactCalculateDeckWrong)

/-- 'laws.FnExactControlText': WHATEVER THE INPUT: true; the input reads as it did. -/
def fnExactControlTextSpec : ChangeSpec := { name := "fnExactControlText", fn := fun _ => fun
  | [d] => { results := [.lit (.bool true)], args := [d] }
  | _ => none }
def fnExactControlTextRow : OpenClaim := { program := "ythpokkcbbpapdaadoor", sum := "480729f2a3654e29ce98896bd55ce5e95d899f284baabffd6b8c77ff5f6ed6c5", func := "loop.example/g01012/laws.FnExactControlText", spec := "fnExactControlText", named := ["internal/strconv.uint64pow10", "math/bits.deBruijn32tab", "math/bits.deBruijn64tab"], apart := false, laid := [("math/bits.deBruijn32tab", laid_math_bits_deBruijn32tab), ("math/bits.deBruijn64tab", laid_math_bits_deBruijn64tab), ("internal/strconv.uint64pow10", laid_internal_strconv_uint64pow10)] }
def FnExactControlTextSaid : Prop := fnExactControlTextRow.holds Tryd.pinned (OpenSpec.ofChange fnExactControlTextSpec)

/-- ITS FALSE NEIGHBOUR: 'it returns false'. Refute it at one input. -/
def fnExactControlTextWrong : ChangeSpec := { name := "fnExactControlText", fn := fun _ => fun
  | [d] => { results := [.lit (.bool false)], args := [d] }
  | _ => none }
def FnExactControlTextWrongFalsely : Prop := fnExactControlTextRow.holds Tryd.pinned (OpenSpec.ofChange fnExactControlTextWrong)

/-- 'laws.FnExactFaultText': WHATEVER THE INPUT: true; the input reads as it did. -/
def fnExactFaultTextSpec : ChangeSpec := { name := "fnExactFaultText", fn := fun _ => fun
  | [d] => { results := [.lit (.bool true)], args := [d] }
  | _ => none }
def fnExactFaultTextRow : OpenClaim := { program := "ythpokkcbbpapdaadoor", sum := "480729f2a3654e29ce98896bd55ce5e95d899f284baabffd6b8c77ff5f6ed6c5", func := "loop.example/g01012/laws.FnExactFaultText", spec := "fnExactFaultText", named := ["internal/strconv.uint64pow10", "math/bits.deBruijn32tab", "math/bits.deBruijn64tab"], apart := false, laid := [("math/bits.deBruijn32tab", laid_math_bits_deBruijn32tab), ("math/bits.deBruijn64tab", laid_math_bits_deBruijn64tab), ("internal/strconv.uint64pow10", laid_internal_strconv_uint64pow10)] }
def FnExactFaultTextSaid : Prop := fnExactFaultTextRow.holds Tryd.pinned (OpenSpec.ofChange fnExactFaultTextSpec)

/-- ITS FALSE NEIGHBOUR: 'it returns false'. Refute it at one input. -/
def fnExactFaultTextWrong : ChangeSpec := { name := "fnExactFaultText", fn := fun _ => fun
  | [d] => { results := [.lit (.bool false)], args := [d] }
  | _ => none }
def FnExactFaultTextWrongFalsely : Prop := fnExactFaultTextRow.holds Tryd.pinned (OpenSpec.ofChange fnExactFaultTextWrong)

/-- 'laws.FnExactSpecText': WHATEVER THE INPUT: true; the input reads as it did. -/
def fnExactSpecTextSpec : ChangeSpec := { name := "fnExactSpecText", fn := fun _ => fun
  | [d] => { results := [.lit (.bool true)], args := [d] }
  | _ => none }
def fnExactSpecTextRow : OpenClaim := { program := "ythpokkcbbpapdaadoor", sum := "480729f2a3654e29ce98896bd55ce5e95d899f284baabffd6b8c77ff5f6ed6c5", func := "loop.example/g01012/laws.FnExactSpecText", spec := "fnExactSpecText", inPlace := ["internal/bytealg.IndexByteString"], named := ["internal/strconv.uint64pow10", "math/bits.deBruijn32tab", "math/bits.deBruijn64tab"], apart := false, laid := [("math/bits.deBruijn32tab", laid_math_bits_deBruijn32tab), ("math/bits.deBruijn64tab", laid_math_bits_deBruijn64tab), ("internal/strconv.uint64pow10", laid_internal_strconv_uint64pow10)] }
def FnExactSpecTextSaid : Prop := fnExactSpecTextRow.holds Tryd.pinned (OpenSpec.ofChange fnExactSpecTextSpec)

/-- ITS FALSE NEIGHBOUR: 'it returns false'. Refute it at one input. -/
def fnExactSpecTextWrong : ChangeSpec := { name := "fnExactSpecText", fn := fun _ => fun
  | [d] => { results := [.lit (.bool false)], args := [d] }
  | _ => none }
def FnExactSpecTextWrongFalsely : Prop := fnExactSpecTextRow.holds Tryd.pinned (OpenSpec.ofChange fnExactSpecTextWrong)

/-- 'laws.FnExactTotalsText': WHATEVER THE INPUT: true; the input reads as it did. -/
def fnExactTotalsTextSpec : ChangeSpec := { name := "fnExactTotalsText", fn := fun _ => fun
  | [d] => { results := [.lit (.bool true)], args := [d] }
  | _ => none }
def fnExactTotalsTextRow : OpenClaim := { program := "ythpokkcbbpapdaadoor", sum := "480729f2a3654e29ce98896bd55ce5e95d899f284baabffd6b8c77ff5f6ed6c5", func := "loop.example/g01012/laws.FnExactTotalsText", spec := "fnExactTotalsText", inPlace := ["internal/abi.NoEscape", "internal/bytealg.MakeNoZero"], named := ["internal/strconv.uint64pow10", "math/bits.deBruijn32tab", "math/bits.deBruijn64tab"], apart := false, laid := [("math/bits.deBruijn32tab", laid_math_bits_deBruijn32tab), ("math/bits.deBruijn64tab", laid_math_bits_deBruijn64tab), ("internal/strconv.uint64pow10", laid_internal_strconv_uint64pow10)] }
def FnExactTotalsTextSaid : Prop := fnExactTotalsTextRow.holds Tryd.pinned (OpenSpec.ofChange fnExactTotalsTextSpec)

/-- ITS FALSE NEIGHBOUR: 'it returns false'. Refute it at one input. -/
def fnExactTotalsTextWrong : ChangeSpec := { name := "fnExactTotalsText", fn := fun _ => fun
  | [d] => { results := [.lit (.bool false)], args := [d] }
  | _ => none }
def FnExactTotalsTextWrongFalsely : Prop := fnExactTotalsTextRow.holds Tryd.pinned (OpenSpec.ofChange fnExactTotalsTextWrong)

/-- 'laws.FnExactStepText': WHATEVER THE INPUT: true; the input reads as it did. -/
def fnExactStepTextSpec : ChangeSpec := { name := "fnExactStepText", fn := fun _ => fun
  | [d] => { results := [.lit (.bool true)], args := [d] }
  | _ => none }
def fnExactStepTextRow : OpenClaim := { program := "ythpokkcbbpapdaadoor", sum := "480729f2a3654e29ce98896bd55ce5e95d899f284baabffd6b8c77ff5f6ed6c5", func := "loop.example/g01012/laws.FnExactStepText", spec := "fnExactStepText", inPlace := ["internal/bytealg.IndexByteString"], named := ["internal/strconv.uint64pow10", "math/bits.deBruijn32tab", "math/bits.deBruijn64tab"], apart := false, laid := [("math/bits.deBruijn32tab", laid_math_bits_deBruijn32tab), ("math/bits.deBruijn64tab", laid_math_bits_deBruijn64tab), ("internal/strconv.uint64pow10", laid_internal_strconv_uint64pow10)] }
def FnExactStepTextSaid : Prop := fnExactStepTextRow.holds Tryd.pinned (OpenSpec.ofChange fnExactStepTextSpec)

/-- ITS FALSE NEIGHBOUR: 'it returns false'. Refute it at one input. -/
def fnExactStepTextWrong : ChangeSpec := { name := "fnExactStepText", fn := fun _ => fun
  | [d] => { results := [.lit (.bool false)], args := [d] }
  | _ => none }
def FnExactStepTextWrongFalsely : Prop := fnExactStepTextRow.holds Tryd.pinned (OpenSpec.ofChange fnExactStepTextWrong)

/-- 'laws.FnExactReadControl': WHATEVER THE INPUT: true; the input reads as it did. -/
def fnExactReadControlSpec : ChangeSpec := { name := "fnExactReadControl", fn := fun _ => fun
  | [d] => { results := [.lit (.bool true)], args := [d] }
  | _ => none }
def fnExactReadControlRow : OpenClaim := { program := "ythpokkcbbpapdaadoor", sum := "480729f2a3654e29ce98896bd55ce5e95d899f284baabffd6b8c77ff5f6ed6c5", func := "loop.example/g01012/laws.FnExactReadControl", spec := "fnExactReadControl", inPlace := ["internal/bytealg.CountString", "internal/bytealg.IndexByteString", "internal/bytealg.IndexString"], named := ["unicode/utf8.first", "unicode/utf8.acceptRanges", "internal/bytealg.MaxLen", "strconv.ErrSyntax", "strconv.ErrRange", "internal/strconv.uint64pow10", "math/bits.deBruijn32tab", "math/bits.deBruijn64tab"], apart := false, laid := [("math/bits.deBruijn32tab", laid_math_bits_deBruijn32tab), ("math/bits.deBruijn64tab", laid_math_bits_deBruijn64tab), ("internal/strconv.uint64pow10", laid_internal_strconv_uint64pow10), ("unicode/utf8.acceptRanges", laid_unicode_utf8_acceptRanges), ("strconv.ErrRange", laid_strconv_ErrRange), ("strconv.ErrSyntax", laid_strconv_ErrSyntax), ("unicode/utf8.first", laid_unicode_utf8_first)] }
def FnExactReadControlSaid : Prop := fnExactReadControlRow.holds Tryd.pinned (OpenSpec.ofChange fnExactReadControlSpec)

/-- ITS FALSE NEIGHBOUR: 'it returns false'. Refute it at one input. -/
def fnExactReadControlWrong : ChangeSpec := { name := "fnExactReadControl", fn := fun _ => fun
  | [d] => { results := [.lit (.bool false)], args := [d] }
  | _ => none }
def FnExactReadControlWrongFalsely : Prop := fnExactReadControlRow.holds Tryd.pinned (OpenSpec.ofChange fnExactReadControlWrong)

/- THE SECOND FORM. 'bulk': how many values and letters a reading holds, each counted each time it is reached (what is shared counts as often as it is met; a slice's spare places count too). A statement '..UptoSaid' is the law's where the arguments, and the package variables that the reading takes, are together of bulk at most 1048576: NARROWER than '..Said'. Prove '..Said' where nothing that the law and all that it calls make is longer than what came in: it says more and counts as full. Else prove '..UptoSaid'. A law counts once. -/
mutual
def uptoBulk {H : Type} : DataW H → Nat
  | .lit (.string bytes) => bytes.length + 1
  | .lit _ => 1
  | .nil => 1
  | .ptr d => uptoBulk d + 1
  | .slice elems spare => uptoBulkAll elems + uptoBulkAll spare + 1
  | .agg parts => uptoBulkAll parts + 1
  | .iface _ d => uptoBulk d + 1
  | .map entries => uptoBulkEntries entries + 1
  | .held _ => 1
def uptoBulkAll {H : Type} : List (DataW H) → Nat
  | [] => 0
  | d :: r => uptoBulk d + uptoBulkAll r
def uptoBulkEntries {H : Type} : List (Lit × DataW H) → Nat
  | [] => 0
  | x :: r => uptoBulkEntry x + uptoBulkEntries r
def uptoBulkEntry {H : Type} : Lit × DataW H → Nat
  | (.string bytes, d) => bytes.length + uptoBulk d + 1
  | (_, d) => uptoBulk d + 1
 end
def uptoSmall : (H : Type) → List (DataW H) → Bool := fun _ ds => decide (uptoBulkAll ds ≤ 1048576)
def OpenSpec.upto (s : _root_.Go.ChangeSpec) : _root_.Go.OpenSpec := { _root_.Go.OpenSpec.ofChange s with cond := some uptoSmall }

/-- 'laws.FnExactCyclesOfDeck', WHERE WHAT IT READS IS OF BULK AT MOST 1048576: true; the input reads as it did. -/
def fnExactCyclesOfDeckUptoRow : OpenClaim := { program := "ythpokkcbbpapdaadoor", sum := "480729f2a3654e29ce98896bd55ce5e95d899f284baabffd6b8c77ff5f6ed6c5", func := "loop.example/g01012/laws.FnExactCyclesOfDeck", spec := "fnExactCyclesOfDeck", unfollowed := true, recurses := true, named := ["internal/strconv.uint64pow10", "math/bits.deBruijn32tab", "math/bits.deBruijn64tab"], apart := false, laid := [("math/bits.deBruijn32tab", laid_math_bits_deBruijn32tab), ("math/bits.deBruijn64tab", laid_math_bits_deBruijn64tab), ("internal/strconv.uint64pow10", laid_internal_strconv_uint64pow10)], narrowed := true }
def FnExactCyclesOfDeckUptoSaid : Prop := fnExactCyclesOfDeckUptoRow.holds Tryd.pinned (OpenSpec.upto fnExactCyclesOfDeckSpec)

/-- 'laws.FnExactCalculateCard', WHERE WHAT IT READS IS OF BULK AT MOST 1048576: true; the input reads as it did. -/
def fnExactCalculateCardUptoRow : OpenClaim := { program := "ythpokkcbbpapdaadoor", sum := "480729f2a3654e29ce98896bd55ce5e95d899f284baabffd6b8c77ff5f6ed6c5", func := "loop.example/g01012/laws.FnExactCalculateCard", spec := "fnExactCalculateCard", unfollowed := true, recurses := true, named := ["internal/strconv.uint64pow10", "math/bits.deBruijn32tab", "math/bits.deBruijn64tab"], apart := false, laid := [("math/bits.deBruijn32tab", laid_math_bits_deBruijn32tab), ("math/bits.deBruijn64tab", laid_math_bits_deBruijn64tab), ("internal/strconv.uint64pow10", laid_internal_strconv_uint64pow10)], narrowed := true }
def FnExactCalculateCardUptoSaid : Prop := fnExactCalculateCardUptoRow.holds Tryd.pinned (OpenSpec.upto fnExactCalculateCardSpec)

/-- 'laws.FnExactCalculateDeck', WHERE WHAT IT READS IS OF BULK AT MOST 1048576: true; the input reads as it did. -/
def fnExactCalculateDeckUptoRow : OpenClaim := { program := "ythpokkcbbpapdaadoor", sum := "480729f2a3654e29ce98896bd55ce5e95d899f284baabffd6b8c77ff5f6ed6c5", func := "loop.example/g01012/laws.FnExactCalculateDeck", spec := "fnExactCalculateDeck", unfollowed := true, recurses := true, named := ["internal/strconv.uint64pow10", "math/bits.deBruijn32tab", "math/bits.deBruijn64tab"], apart := false, laid := [("math/bits.deBruijn32tab", laid_math_bits_deBruijn32tab), ("math/bits.deBruijn64tab", laid_math_bits_deBruijn64tab), ("internal/strconv.uint64pow10", laid_internal_strconv_uint64pow10)], narrowed := true }
def FnExactCalculateDeckUptoSaid : Prop := fnExactCalculateDeckUptoRow.holds Tryd.pinned (OpenSpec.upto fnExactCalculateDeckSpec)

/-- 'laws.FnExactControlText', WHERE WHAT IT READS IS OF BULK AT MOST 1048576: true; the input reads as it did. -/
def fnExactControlTextUptoRow : OpenClaim := { program := "ythpokkcbbpapdaadoor", sum := "480729f2a3654e29ce98896bd55ce5e95d899f284baabffd6b8c77ff5f6ed6c5", func := "loop.example/g01012/laws.FnExactControlText", spec := "fnExactControlText", named := ["internal/strconv.uint64pow10", "math/bits.deBruijn32tab", "math/bits.deBruijn64tab"], apart := false, laid := [("math/bits.deBruijn32tab", laid_math_bits_deBruijn32tab), ("math/bits.deBruijn64tab", laid_math_bits_deBruijn64tab), ("internal/strconv.uint64pow10", laid_internal_strconv_uint64pow10)], narrowed := true }
def FnExactControlTextUptoSaid : Prop := fnExactControlTextUptoRow.holds Tryd.pinned (OpenSpec.upto fnExactControlTextSpec)

/-- 'laws.FnExactFaultText', WHERE WHAT IT READS IS OF BULK AT MOST 1048576: true; the input reads as it did. -/
def fnExactFaultTextUptoRow : OpenClaim := { program := "ythpokkcbbpapdaadoor", sum := "480729f2a3654e29ce98896bd55ce5e95d899f284baabffd6b8c77ff5f6ed6c5", func := "loop.example/g01012/laws.FnExactFaultText", spec := "fnExactFaultText", named := ["internal/strconv.uint64pow10", "math/bits.deBruijn32tab", "math/bits.deBruijn64tab"], apart := false, laid := [("math/bits.deBruijn32tab", laid_math_bits_deBruijn32tab), ("math/bits.deBruijn64tab", laid_math_bits_deBruijn64tab), ("internal/strconv.uint64pow10", laid_internal_strconv_uint64pow10)], narrowed := true }
def FnExactFaultTextUptoSaid : Prop := fnExactFaultTextUptoRow.holds Tryd.pinned (OpenSpec.upto fnExactFaultTextSpec)

/-- 'laws.FnExactSpecText', WHERE WHAT IT READS IS OF BULK AT MOST 1048576: true; the input reads as it did. -/
def fnExactSpecTextUptoRow : OpenClaim := { program := "ythpokkcbbpapdaadoor", sum := "480729f2a3654e29ce98896bd55ce5e95d899f284baabffd6b8c77ff5f6ed6c5", func := "loop.example/g01012/laws.FnExactSpecText", spec := "fnExactSpecText", inPlace := ["internal/bytealg.IndexByteString"], named := ["internal/strconv.uint64pow10", "math/bits.deBruijn32tab", "math/bits.deBruijn64tab"], apart := false, laid := [("math/bits.deBruijn32tab", laid_math_bits_deBruijn32tab), ("math/bits.deBruijn64tab", laid_math_bits_deBruijn64tab), ("internal/strconv.uint64pow10", laid_internal_strconv_uint64pow10)], narrowed := true }
def FnExactSpecTextUptoSaid : Prop := fnExactSpecTextUptoRow.holds Tryd.pinned (OpenSpec.upto fnExactSpecTextSpec)

/-- 'laws.FnExactTotalsText', WHERE WHAT IT READS IS OF BULK AT MOST 1048576: true; the input reads as it did. -/
def fnExactTotalsTextUptoRow : OpenClaim := { program := "ythpokkcbbpapdaadoor", sum := "480729f2a3654e29ce98896bd55ce5e95d899f284baabffd6b8c77ff5f6ed6c5", func := "loop.example/g01012/laws.FnExactTotalsText", spec := "fnExactTotalsText", inPlace := ["internal/abi.NoEscape", "internal/bytealg.MakeNoZero"], named := ["internal/strconv.uint64pow10", "math/bits.deBruijn32tab", "math/bits.deBruijn64tab"], apart := false, laid := [("math/bits.deBruijn32tab", laid_math_bits_deBruijn32tab), ("math/bits.deBruijn64tab", laid_math_bits_deBruijn64tab), ("internal/strconv.uint64pow10", laid_internal_strconv_uint64pow10)], narrowed := true }
def FnExactTotalsTextUptoSaid : Prop := fnExactTotalsTextUptoRow.holds Tryd.pinned (OpenSpec.upto fnExactTotalsTextSpec)

/-- 'laws.FnExactStepText', WHERE WHAT IT READS IS OF BULK AT MOST 1048576: true; the input reads as it did. -/
def fnExactStepTextUptoRow : OpenClaim := { program := "ythpokkcbbpapdaadoor", sum := "480729f2a3654e29ce98896bd55ce5e95d899f284baabffd6b8c77ff5f6ed6c5", func := "loop.example/g01012/laws.FnExactStepText", spec := "fnExactStepText", inPlace := ["internal/bytealg.IndexByteString"], named := ["internal/strconv.uint64pow10", "math/bits.deBruijn32tab", "math/bits.deBruijn64tab"], apart := false, laid := [("math/bits.deBruijn32tab", laid_math_bits_deBruijn32tab), ("math/bits.deBruijn64tab", laid_math_bits_deBruijn64tab), ("internal/strconv.uint64pow10", laid_internal_strconv_uint64pow10)], narrowed := true }
def FnExactStepTextUptoSaid : Prop := fnExactStepTextUptoRow.holds Tryd.pinned (OpenSpec.upto fnExactStepTextSpec)

/-- 'laws.FnExactReadControl', WHERE WHAT IT READS IS OF BULK AT MOST 1048576: true; the input reads as it did. -/
def fnExactReadControlUptoRow : OpenClaim := { program := "ythpokkcbbpapdaadoor", sum := "480729f2a3654e29ce98896bd55ce5e95d899f284baabffd6b8c77ff5f6ed6c5", func := "loop.example/g01012/laws.FnExactReadControl", spec := "fnExactReadControl", inPlace := ["internal/bytealg.CountString", "internal/bytealg.IndexByteString", "internal/bytealg.IndexString"], named := ["unicode/utf8.first", "unicode/utf8.acceptRanges", "internal/bytealg.MaxLen", "strconv.ErrSyntax", "strconv.ErrRange", "internal/strconv.uint64pow10", "math/bits.deBruijn32tab", "math/bits.deBruijn64tab"], apart := false, laid := [("math/bits.deBruijn32tab", laid_math_bits_deBruijn32tab), ("math/bits.deBruijn64tab", laid_math_bits_deBruijn64tab), ("internal/strconv.uint64pow10", laid_internal_strconv_uint64pow10), ("unicode/utf8.acceptRanges", laid_unicode_utf8_acceptRanges), ("strconv.ErrRange", laid_strconv_ErrRange), ("strconv.ErrSyntax", laid_strconv_ErrSyntax), ("unicode/utf8.first", laid_unicode_utf8_first)], narrowed := true }
def FnExactReadControlUptoSaid : Prop := fnExactReadControlUptoRow.holds Tryd.pinned (OpenSpec.upto fnExactReadControlSpec)

end Rows
end Go.Proofs.YthpokkcbbpapdaaDoor
