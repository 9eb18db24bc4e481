/-
  NARROWER THAN 'FOR EVERY INPUT', by the rows' own cells (each row's printed sentence says how): ShelfGerman: laid · ShelfLeet: laid · ShelfBlanks: laid · ShelfEdges: laid · ShelfSigma: laid · ShelfSqueeze: laid · ShelfSigns: laid · ShelfTelex: laid · ShelfDots: laid · ShelfQuotes: laid · ShelfRovar: laid · ShelfVowels: laid · ShelfMorse: laid.
  DERIVED. THE GIVEN ROWS OF THIS SEAT. 13 by the template 'for every input the law returns true; each argument reads behind the call as it read before'; 0 by the template 'total and deterministic' (their statements: YtapechjebkjidaaGreatDoorTotals.lean).
  GIVEN WITH THE SEED: the statements are not yours to turn. If you find one false, say at which input.
  Laid BY PROGRAM, IN A SANDBOX (cutbox-rows.mjs): the forced cells as the released guide's own fill.sh prints them over the translation d342dcd496490c09… (all of the seat's roots in one cut). By AI agents, Wed Nov 11 2026. No macro, syntax, notation, axiom, sorry.
-/
import Derived.Test.YtapechjebkjidaaGreatDoorChecked
import GoSem.Claim
import GoSem.ClaimJoined
import GoSem.ClaimMapViews
import Derived.JoinedTies
import Derived.KernelRfl
namespace Go.Proofs.YtapechjebkjidaaGreatDoor
/- THE CELL 'sum', in the pinned program and in every row, IS THE sha256 OF THE DUMP (.gsa) THAT YtapechjebkjidaaGreatDoorProg.lean LOADS. Nothing in Lean hashes anything: it is a label: what it is worth is what the hold of that sum in a sandbox is worth. -/
noncomputable def Tryz.pinned : Pinned := { name := "ytapechjebkjidaagreatdoor", sum := "d342dcd496490c09378fe19565b3d3c5d3d62959bb0c8ee02403ea0c1554c360", checked := Tryz.checked }
namespace Rows
def none {H : Type} : Left H := { results := [], args := [] }

/- WHAT THE LISTED PACKAGE-LEVEL VARIABLES READ AS WHEN THE CALL BEGINS. Each datum BY PROGRAM (the guide's laid-datum.mjs) off the statement by which the dump's own 'gosem.cut.vars' lays the variable. In a bare row this is a premise. The card (YtapechjebkjidaaGreatDoorCards.lean) ties it to the program's text. -/
def laid_math_bits_deBruijn32tab {H : Type} : DataW H := .agg [.lit (.int .u8 0), .lit (.int .u8 1), .lit (.int .u8 28), .lit (.int .u8 2), .lit (.int .u8 29), .lit (.int .u8 14), .lit (.int .u8 24), .lit (.int .u8 3), .lit (.int .u8 30), .lit (.int .u8 22), .lit (.int .u8 20), .lit (.int .u8 15), .lit (.int .u8 25), .lit (.int .u8 17), .lit (.int .u8 4), .lit (.int .u8 8), .lit (.int .u8 31), .lit (.int .u8 27), .lit (.int .u8 13), .lit (.int .u8 23), .lit (.int .u8 21), .lit (.int .u8 19), .lit (.int .u8 16), .lit (.int .u8 7), .lit (.int .u8 26), .lit (.int .u8 12), .lit (.int .u8 18), .lit (.int .u8 6), .lit (.int .u8 11), .lit (.int .u8 5), .lit (.int .u8 10), .lit (.int .u8 9)]
def laid_math_bits_deBruijn64tab {H : Type} : DataW H := .agg [.lit (.int .u8 0), .lit (.int .u8 1), .lit (.int .u8 56), .lit (.int .u8 2), .lit (.int .u8 57), .lit (.int .u8 49), .lit (.int .u8 28), .lit (.int .u8 3), .lit (.int .u8 61), .lit (.int .u8 58), .lit (.int .u8 42), .lit (.int .u8 50), .lit (.int .u8 38), .lit (.int .u8 29), .lit (.int .u8 17), .lit (.int .u8 4), .lit (.int .u8 62), .lit (.int .u8 47), .lit (.int .u8 59), .lit (.int .u8 36), .lit (.int .u8 45), .lit (.int .u8 43), .lit (.int .u8 51), .lit (.int .u8 22), .lit (.int .u8 53), .lit (.int .u8 39), .lit (.int .u8 33), .lit (.int .u8 30), .lit (.int .u8 24), .lit (.int .u8 18), .lit (.int .u8 12), .lit (.int .u8 5), .lit (.int .u8 63), .lit (.int .u8 55), .lit (.int .u8 48), .lit (.int .u8 27), .lit (.int .u8 60), .lit (.int .u8 41), .lit (.int .u8 37), .lit (.int .u8 16), .lit (.int .u8 46), .lit (.int .u8 35), .lit (.int .u8 44), .lit (.int .u8 21), .lit (.int .u8 52), .lit (.int .u8 32), .lit (.int .u8 23), .lit (.int .u8 11), .lit (.int .u8 54), .lit (.int .u8 26), .lit (.int .u8 40), .lit (.int .u8 15), .lit (.int .u8 34), .lit (.int .u8 20), .lit (.int .u8 31), .lit (.int .u8 10), .lit (.int .u8 25), .lit (.int .u8 14), .lit (.int .u8 19), .lit (.int .u8 9), .lit (.int .u8 13), .lit (.int .u8 8), .lit (.int .u8 7), .lit (.int .u8 6)]
def laid_internal_strconv_uint64pow10 {H : Type} : DataW H := .agg [.lit (.int .u64 1), .lit (.int .u64 10), .lit (.int .u64 100), .lit (.int .u64 1000), .lit (.int .u64 10000), .lit (.int .u64 100000), .lit (.int .u64 1000000), .lit (.int .u64 10000000), .lit (.int .u64 100000000), .lit (.int .u64 1000000000), .lit (.int .u64 10000000000), .lit (.int .u64 100000000000), .lit (.int .u64 1000000000000), .lit (.int .u64 10000000000000), .lit (.int .u64 100000000000000), .lit (.int .u64 1000000000000000), .lit (.int .u64 10000000000000000), .lit (.int .u64 100000000000000000), .lit (.int .u64 1000000000000000000), .lit (.int .u64 10000000000000000000)]
def laid_strconv_ErrRange {H : Type} : DataW H := .iface "*errors.errorString" (.ptr (.agg [.lit (.string [118, 97, 108, 117, 101, 32, 111, 117, 116, 32, 111, 102, 32, 114, 97, 110, 103, 101])]))
def laid_strconv_ErrSyntax {H : Type} : DataW H := .iface "*errors.errorString" (.ptr (.agg [.lit (.string [105, 110, 118, 97, 108, 105, 100, 32, 115, 121, 110, 116, 97, 120])]))

/-- 'scriptlaw16.ShelfGerman': WHATEVER THE INPUT: true; the input reads as it did. -/
def shelfGermanSpec : ChangeSpec := { name := "shelfGerman", fn := fun _ => fun
  | [d] => { results := [.lit (.bool true)], args := [d] }
  | _ => none }
def shelfGermanRow : OpenClaim := { program := "ytapechjebkjidaagreatdoor", sum := "d342dcd496490c09378fe19565b3d3c5d3d62959bb0c8ee02403ea0c1554c360", func := "scriptshift/scriptlaw16.ShelfGerman", spec := "shelfGerman", inPlace := ["internal/bytealg.IndexByteString", "internal/bytealg.IndexString", "internal/abi.NoEscape"], unfollowed := true, recurses := true, named := ["strconv.ErrSyntax", "strconv.ErrRange", "internal/strconv.uint64pow10", "math/bits.deBruijn32tab", "math/bits.deBruijn64tab", "internal/bytealg.MaxLen"], apart := false, laid := [("math/bits.deBruijn32tab", laid_math_bits_deBruijn32tab), ("math/bits.deBruijn64tab", laid_math_bits_deBruijn64tab), ("internal/strconv.uint64pow10", laid_internal_strconv_uint64pow10), ("strconv.ErrRange", laid_strconv_ErrRange), ("strconv.ErrSyntax", laid_strconv_ErrSyntax)] }
def ShelfGermanSaid : Prop := shelfGermanRow.holds Tryz.pinned (OpenSpec.ofChange shelfGermanSpec)

/-- ITS FALSE NEIGHBOUR: 'it returns false'. Refute it at one input. -/
def shelfGermanWrong : ChangeSpec := { name := "shelfGerman", fn := fun _ => fun
  | [d] => { results := [.lit (.bool false)], args := [d] }
  | _ => none }
def ShelfGermanWrongFalsely : Prop := shelfGermanRow.holds Tryz.pinned (OpenSpec.ofChange shelfGermanWrong)

/-- 'scriptlaw16.ShelfLeet': WHATEVER THE INPUT: true; the input reads as it did. -/
def shelfLeetSpec : ChangeSpec := { name := "shelfLeet", fn := fun _ => fun
  | [d] => { results := [.lit (.bool true)], args := [d] }
  | _ => none }
def shelfLeetRow : OpenClaim := { program := "ytapechjebkjidaagreatdoor", sum := "d342dcd496490c09378fe19565b3d3c5d3d62959bb0c8ee02403ea0c1554c360", func := "scriptshift/scriptlaw16.ShelfLeet", spec := "shelfLeet", inPlace := ["internal/bytealg.IndexByteString", "internal/bytealg.IndexString", "internal/abi.NoEscape"], unfollowed := true, recurses := true, named := ["strconv.ErrSyntax", "strconv.ErrRange", "internal/strconv.uint64pow10", "math/bits.deBruijn32tab", "math/bits.deBruijn64tab", "internal/bytealg.MaxLen"], apart := false, laid := [("math/bits.deBruijn32tab", laid_math_bits_deBruijn32tab), ("math/bits.deBruijn64tab", laid_math_bits_deBruijn64tab), ("internal/strconv.uint64pow10", laid_internal_strconv_uint64pow10), ("strconv.ErrRange", laid_strconv_ErrRange), ("strconv.ErrSyntax", laid_strconv_ErrSyntax)] }
def ShelfLeetSaid : Prop := shelfLeetRow.holds Tryz.pinned (OpenSpec.ofChange shelfLeetSpec)

/-- ITS FALSE NEIGHBOUR: 'it returns false'. Refute it at one input. -/
def shelfLeetWrong : ChangeSpec := { name := "shelfLeet", fn := fun _ => fun
  | [d] => { results := [.lit (.bool false)], args := [d] }
  | _ => none }
def ShelfLeetWrongFalsely : Prop := shelfLeetRow.holds Tryz.pinned (OpenSpec.ofChange shelfLeetWrong)

/-- 'scriptlaw16.ShelfBlanks': WHATEVER THE INPUT: true; the input reads as it did. -/
def shelfBlanksSpec : ChangeSpec := { name := "shelfBlanks", fn := fun _ => fun
  | [d] => { results := [.lit (.bool true)], args := [d] }
  | _ => none }
def shelfBlanksRow : OpenClaim := { program := "ytapechjebkjidaagreatdoor", sum := "d342dcd496490c09378fe19565b3d3c5d3d62959bb0c8ee02403ea0c1554c360", func := "scriptshift/scriptlaw16.ShelfBlanks", spec := "shelfBlanks", inPlace := ["internal/bytealg.IndexByteString", "internal/bytealg.IndexString", "internal/abi.NoEscape"], unfollowed := true, recurses := true, named := ["strconv.ErrSyntax", "strconv.ErrRange", "internal/strconv.uint64pow10", "math/bits.deBruijn32tab", "math/bits.deBruijn64tab", "internal/bytealg.MaxLen"], apart := false, laid := [("math/bits.deBruijn32tab", laid_math_bits_deBruijn32tab), ("math/bits.deBruijn64tab", laid_math_bits_deBruijn64tab), ("internal/strconv.uint64pow10", laid_internal_strconv_uint64pow10), ("strconv.ErrRange", laid_strconv_ErrRange), ("strconv.ErrSyntax", laid_strconv_ErrSyntax)] }
def ShelfBlanksSaid : Prop := shelfBlanksRow.holds Tryz.pinned (OpenSpec.ofChange shelfBlanksSpec)

/-- ITS FALSE NEIGHBOUR: 'it returns false'. Refute it at one input. -/
def shelfBlanksWrong : ChangeSpec := { name := "shelfBlanks", fn := fun _ => fun
  | [d] => { results := [.lit (.bool false)], args := [d] }
  | _ => none }
def ShelfBlanksWrongFalsely : Prop := shelfBlanksRow.holds Tryz.pinned (OpenSpec.ofChange shelfBlanksWrong)

/-- 'scriptlaw16.ShelfEdges': WHATEVER THE INPUT: true; the input reads as it did. -/
def shelfEdgesSpec : ChangeSpec := { name := "shelfEdges", fn := fun _ => fun
  | [d] => { results := [.lit (.bool true)], args := [d] }
  | _ => none }
def shelfEdgesRow : OpenClaim := { program := "ytapechjebkjidaagreatdoor", sum := "d342dcd496490c09378fe19565b3d3c5d3d62959bb0c8ee02403ea0c1554c360", func := "scriptshift/scriptlaw16.ShelfEdges", spec := "shelfEdges", inPlace := ["internal/bytealg.IndexByteString", "internal/bytealg.IndexString", "internal/abi.NoEscape"], unfollowed := true, recurses := true, named := ["strconv.ErrSyntax", "strconv.ErrRange", "internal/strconv.uint64pow10", "math/bits.deBruijn32tab", "math/bits.deBruijn64tab", "internal/bytealg.MaxLen"], apart := false, laid := [("math/bits.deBruijn32tab", laid_math_bits_deBruijn32tab), ("math/bits.deBruijn64tab", laid_math_bits_deBruijn64tab), ("internal/strconv.uint64pow10", laid_internal_strconv_uint64pow10), ("strconv.ErrRange", laid_strconv_ErrRange), ("strconv.ErrSyntax", laid_strconv_ErrSyntax)] }
def ShelfEdgesSaid : Prop := shelfEdgesRow.holds Tryz.pinned (OpenSpec.ofChange shelfEdgesSpec)

/-- ITS FALSE NEIGHBOUR: 'it returns false'. Refute it at one input. -/
def shelfEdgesWrong : ChangeSpec := { name := "shelfEdges", fn := fun _ => fun
  | [d] => { results := [.lit (.bool false)], args := [d] }
  | _ => none }
def ShelfEdgesWrongFalsely : Prop := shelfEdgesRow.holds Tryz.pinned (OpenSpec.ofChange shelfEdgesWrong)

/-- 'scriptlaw16.ShelfSigma': WHATEVER THE INPUT: true; the input reads as it did. -/
def shelfSigmaSpec : ChangeSpec := { name := "shelfSigma", fn := fun _ => fun
  | [d] => { results := [.lit (.bool true)], args := [d] }
  | _ => none }
def shelfSigmaRow : OpenClaim := { program := "ytapechjebkjidaagreatdoor", sum := "d342dcd496490c09378fe19565b3d3c5d3d62959bb0c8ee02403ea0c1554c360", func := "scriptshift/scriptlaw16.ShelfSigma", spec := "shelfSigma", inPlace := ["internal/bytealg.IndexByteString", "internal/bytealg.IndexString", "internal/abi.NoEscape"], unfollowed := true, recurses := true, named := ["strconv.ErrSyntax", "strconv.ErrRange", "internal/strconv.uint64pow10", "math/bits.deBruijn32tab", "math/bits.deBruijn64tab", "internal/bytealg.MaxLen"], apart := false, laid := [("math/bits.deBruijn32tab", laid_math_bits_deBruijn32tab), ("math/bits.deBruijn64tab", laid_math_bits_deBruijn64tab), ("internal/strconv.uint64pow10", laid_internal_strconv_uint64pow10), ("strconv.ErrRange", laid_strconv_ErrRange), ("strconv.ErrSyntax", laid_strconv_ErrSyntax)] }
def ShelfSigmaSaid : Prop := shelfSigmaRow.holds Tryz.pinned (OpenSpec.ofChange shelfSigmaSpec)

/-- ITS FALSE NEIGHBOUR: 'it returns false'. Refute it at one input. -/
def shelfSigmaWrong : ChangeSpec := { name := "shelfSigma", fn := fun _ => fun
  | [d] => { results := [.lit (.bool false)], args := [d] }
  | _ => none }
def ShelfSigmaWrongFalsely : Prop := shelfSigmaRow.holds Tryz.pinned (OpenSpec.ofChange shelfSigmaWrong)

/-- 'scriptlaw16.ShelfSqueeze': WHATEVER THE INPUT: true; the input reads as it did. -/
def shelfSqueezeSpec : ChangeSpec := { name := "shelfSqueeze", fn := fun _ => fun
  | [d] => { results := [.lit (.bool true)], args := [d] }
  | _ => none }
def shelfSqueezeRow : OpenClaim := { program := "ytapechjebkjidaagreatdoor", sum := "d342dcd496490c09378fe19565b3d3c5d3d62959bb0c8ee02403ea0c1554c360", func := "scriptshift/scriptlaw16.ShelfSqueeze", spec := "shelfSqueeze", inPlace := ["internal/bytealg.IndexByteString", "internal/bytealg.IndexString", "internal/abi.NoEscape"], unfollowed := true, recurses := true, named := ["strconv.ErrSyntax", "strconv.ErrRange", "internal/strconv.uint64pow10", "math/bits.deBruijn32tab", "math/bits.deBruijn64tab", "internal/bytealg.MaxLen"], apart := false, laid := [("math/bits.deBruijn32tab", laid_math_bits_deBruijn32tab), ("math/bits.deBruijn64tab", laid_math_bits_deBruijn64tab), ("internal/strconv.uint64pow10", laid_internal_strconv_uint64pow10), ("strconv.ErrRange", laid_strconv_ErrRange), ("strconv.ErrSyntax", laid_strconv_ErrSyntax)] }
def ShelfSqueezeSaid : Prop := shelfSqueezeRow.holds Tryz.pinned (OpenSpec.ofChange shelfSqueezeSpec)

/-- ITS FALSE NEIGHBOUR: 'it returns false'. Refute it at one input. -/
def shelfSqueezeWrong : ChangeSpec := { name := "shelfSqueeze", fn := fun _ => fun
  | [d] => { results := [.lit (.bool false)], args := [d] }
  | _ => none }
def ShelfSqueezeWrongFalsely : Prop := shelfSqueezeRow.holds Tryz.pinned (OpenSpec.ofChange shelfSqueezeWrong)

/-- 'scriptlaw16.ShelfSigns': WHATEVER THE INPUT: true; the input reads as it did. -/
def shelfSignsSpec : ChangeSpec := { name := "shelfSigns", fn := fun _ => fun
  | [d] => { results := [.lit (.bool true)], args := [d] }
  | _ => none }
def shelfSignsRow : OpenClaim := { program := "ytapechjebkjidaagreatdoor", sum := "d342dcd496490c09378fe19565b3d3c5d3d62959bb0c8ee02403ea0c1554c360", func := "scriptshift/scriptlaw16.ShelfSigns", spec := "shelfSigns", inPlace := ["internal/bytealg.IndexByteString", "internal/bytealg.IndexString", "internal/abi.NoEscape"], unfollowed := true, recurses := true, named := ["strconv.ErrSyntax", "strconv.ErrRange", "internal/strconv.uint64pow10", "math/bits.deBruijn32tab", "math/bits.deBruijn64tab", "internal/bytealg.MaxLen"], apart := false, laid := [("math/bits.deBruijn32tab", laid_math_bits_deBruijn32tab), ("math/bits.deBruijn64tab", laid_math_bits_deBruijn64tab), ("internal/strconv.uint64pow10", laid_internal_strconv_uint64pow10), ("strconv.ErrRange", laid_strconv_ErrRange), ("strconv.ErrSyntax", laid_strconv_ErrSyntax)] }
def ShelfSignsSaid : Prop := shelfSignsRow.holds Tryz.pinned (OpenSpec.ofChange shelfSignsSpec)

/-- ITS FALSE NEIGHBOUR: 'it returns false'. Refute it at one input. -/
def shelfSignsWrong : ChangeSpec := { name := "shelfSigns", fn := fun _ => fun
  | [d] => { results := [.lit (.bool false)], args := [d] }
  | _ => none }
def ShelfSignsWrongFalsely : Prop := shelfSignsRow.holds Tryz.pinned (OpenSpec.ofChange shelfSignsWrong)

/-- 'scriptlaw16.ShelfTelex': WHATEVER THE INPUT: true; the input reads as it did. -/
def shelfTelexSpec : ChangeSpec := { name := "shelfTelex", fn := fun _ => fun
  | [d] => { results := [.lit (.bool true)], args := [d] }
  | _ => none }
def shelfTelexRow : OpenClaim := { program := "ytapechjebkjidaagreatdoor", sum := "d342dcd496490c09378fe19565b3d3c5d3d62959bb0c8ee02403ea0c1554c360", func := "scriptshift/scriptlaw16.ShelfTelex", spec := "shelfTelex", inPlace := ["internal/bytealg.IndexByteString", "internal/bytealg.IndexString", "internal/abi.NoEscape"], unfollowed := true, recurses := true, named := ["strconv.ErrSyntax", "strconv.ErrRange", "internal/strconv.uint64pow10", "math/bits.deBruijn32tab", "math/bits.deBruijn64tab", "internal/bytealg.MaxLen"], apart := false, laid := [("math/bits.deBruijn32tab", laid_math_bits_deBruijn32tab), ("math/bits.deBruijn64tab", laid_math_bits_deBruijn64tab), ("internal/strconv.uint64pow10", laid_internal_strconv_uint64pow10), ("strconv.ErrRange", laid_strconv_ErrRange), ("strconv.ErrSyntax", laid_strconv_ErrSyntax)] }
def ShelfTelexSaid : Prop := shelfTelexRow.holds Tryz.pinned (OpenSpec.ofChange shelfTelexSpec)

/-- ITS FALSE NEIGHBOUR: 'it returns false'. Refute it at one input. -/
def shelfTelexWrong : ChangeSpec := { name := "shelfTelex", fn := fun _ => fun
  | [d] => { results := [.lit (.bool false)], args := [d] }
  | _ => none }
def ShelfTelexWrongFalsely : Prop := shelfTelexRow.holds Tryz.pinned (OpenSpec.ofChange shelfTelexWrong)

/-- 'scriptlaw16.ShelfDots': WHATEVER THE INPUT: true; the input reads as it did. -/
def shelfDotsSpec : ChangeSpec := { name := "shelfDots", fn := fun _ => fun
  | [d] => { results := [.lit (.bool true)], args := [d] }
  | _ => none }
def shelfDotsRow : OpenClaim := { program := "ytapechjebkjidaagreatdoor", sum := "d342dcd496490c09378fe19565b3d3c5d3d62959bb0c8ee02403ea0c1554c360", func := "scriptshift/scriptlaw16.ShelfDots", spec := "shelfDots", inPlace := ["internal/bytealg.IndexByteString", "internal/bytealg.IndexString", "internal/abi.NoEscape"], unfollowed := true, recurses := true, named := ["strconv.ErrSyntax", "strconv.ErrRange", "internal/strconv.uint64pow10", "math/bits.deBruijn32tab", "math/bits.deBruijn64tab", "internal/bytealg.MaxLen"], apart := false, laid := [("math/bits.deBruijn32tab", laid_math_bits_deBruijn32tab), ("math/bits.deBruijn64tab", laid_math_bits_deBruijn64tab), ("internal/strconv.uint64pow10", laid_internal_strconv_uint64pow10), ("strconv.ErrRange", laid_strconv_ErrRange), ("strconv.ErrSyntax", laid_strconv_ErrSyntax)] }
def ShelfDotsSaid : Prop := shelfDotsRow.holds Tryz.pinned (OpenSpec.ofChange shelfDotsSpec)

/-- ITS FALSE NEIGHBOUR: 'it returns false'. Refute it at one input. -/
def shelfDotsWrong : ChangeSpec := { name := "shelfDots", fn := fun _ => fun
  | [d] => { results := [.lit (.bool false)], args := [d] }
  | _ => none }
def ShelfDotsWrongFalsely : Prop := shelfDotsRow.holds Tryz.pinned (OpenSpec.ofChange shelfDotsWrong)

/-- 'scriptlaw16.ShelfQuotes': WHATEVER THE INPUT: true; the input reads as it did. -/
def shelfQuotesSpec : ChangeSpec := { name := "shelfQuotes", fn := fun _ => fun
  | [d] => { results := [.lit (.bool true)], args := [d] }
  | _ => none }
def shelfQuotesRow : OpenClaim := { program := "ytapechjebkjidaagreatdoor", sum := "d342dcd496490c09378fe19565b3d3c5d3d62959bb0c8ee02403ea0c1554c360", func := "scriptshift/scriptlaw16.ShelfQuotes", spec := "shelfQuotes", inPlace := ["internal/bytealg.IndexByteString", "internal/bytealg.IndexString", "internal/abi.NoEscape"], unfollowed := true, recurses := true, named := ["strconv.ErrSyntax", "strconv.ErrRange", "internal/strconv.uint64pow10", "math/bits.deBruijn32tab", "math/bits.deBruijn64tab", "internal/bytealg.MaxLen"], apart := false, laid := [("math/bits.deBruijn32tab", laid_math_bits_deBruijn32tab), ("math/bits.deBruijn64tab", laid_math_bits_deBruijn64tab), ("internal/strconv.uint64pow10", laid_internal_strconv_uint64pow10), ("strconv.ErrRange", laid_strconv_ErrRange), ("strconv.ErrSyntax", laid_strconv_ErrSyntax)] }
def ShelfQuotesSaid : Prop := shelfQuotesRow.holds Tryz.pinned (OpenSpec.ofChange shelfQuotesSpec)

/-- ITS FALSE NEIGHBOUR: 'it returns false'. Refute it at one input. -/
def shelfQuotesWrong : ChangeSpec := { name := "shelfQuotes", fn := fun _ => fun
  | [d] => { results := [.lit (.bool false)], args := [d] }
  | _ => none }
def ShelfQuotesWrongFalsely : Prop := shelfQuotesRow.holds Tryz.pinned (OpenSpec.ofChange shelfQuotesWrong)

/-- 'scriptlaw16.ShelfRovar': WHATEVER THE INPUT: true; the input reads as it did. -/
def shelfRovarSpec : ChangeSpec := { name := "shelfRovar", fn := fun _ => fun
  | [d] => { results := [.lit (.bool true)], args := [d] }
  | _ => none }
def shelfRovarRow : OpenClaim := { program := "ytapechjebkjidaagreatdoor", sum := "d342dcd496490c09378fe19565b3d3c5d3d62959bb0c8ee02403ea0c1554c360", func := "scriptshift/scriptlaw16.ShelfRovar", spec := "shelfRovar", inPlace := ["internal/bytealg.IndexByteString", "internal/bytealg.IndexString", "internal/abi.NoEscape"], unfollowed := true, recurses := true, named := ["strconv.ErrSyntax", "strconv.ErrRange", "internal/strconv.uint64pow10", "math/bits.deBruijn32tab", "math/bits.deBruijn64tab", "internal/bytealg.MaxLen"], apart := false, laid := [("math/bits.deBruijn32tab", laid_math_bits_deBruijn32tab), ("math/bits.deBruijn64tab", laid_math_bits_deBruijn64tab), ("internal/strconv.uint64pow10", laid_internal_strconv_uint64pow10), ("strconv.ErrRange", laid_strconv_ErrRange), ("strconv.ErrSyntax", laid_strconv_ErrSyntax)] }
def ShelfRovarSaid : Prop := shelfRovarRow.holds Tryz.pinned (OpenSpec.ofChange shelfRovarSpec)

/-- ITS FALSE NEIGHBOUR: 'it returns false'. Refute it at one input. -/
def shelfRovarWrong : ChangeSpec := { name := "shelfRovar", fn := fun _ => fun
  | [d] => { results := [.lit (.bool false)], args := [d] }
  | _ => none }
def ShelfRovarWrongFalsely : Prop := shelfRovarRow.holds Tryz.pinned (OpenSpec.ofChange shelfRovarWrong)

/-- 'scriptlaw16.ShelfVowels': WHATEVER THE INPUT: true; the input reads as it did. -/
def shelfVowelsSpec : ChangeSpec := { name := "shelfVowels", fn := fun _ => fun
  | [d] => { results := [.lit (.bool true)], args := [d] }
  | _ => none }
def shelfVowelsRow : OpenClaim := { program := "ytapechjebkjidaagreatdoor", sum := "d342dcd496490c09378fe19565b3d3c5d3d62959bb0c8ee02403ea0c1554c360", func := "scriptshift/scriptlaw16.ShelfVowels", spec := "shelfVowels", inPlace := ["internal/bytealg.IndexByteString", "internal/bytealg.IndexString", "internal/abi.NoEscape"], unfollowed := true, recurses := true, named := ["strconv.ErrSyntax", "strconv.ErrRange", "internal/strconv.uint64pow10", "math/bits.deBruijn32tab", "math/bits.deBruijn64tab", "internal/bytealg.MaxLen"], apart := false, laid := [("math/bits.deBruijn32tab", laid_math_bits_deBruijn32tab), ("math/bits.deBruijn64tab", laid_math_bits_deBruijn64tab), ("internal/strconv.uint64pow10", laid_internal_strconv_uint64pow10), ("strconv.ErrRange", laid_strconv_ErrRange), ("strconv.ErrSyntax", laid_strconv_ErrSyntax)] }
def ShelfVowelsSaid : Prop := shelfVowelsRow.holds Tryz.pinned (OpenSpec.ofChange shelfVowelsSpec)

/-- ITS FALSE NEIGHBOUR: 'it returns false'. Refute it at one input. -/
def shelfVowelsWrong : ChangeSpec := { name := "shelfVowels", fn := fun _ => fun
  | [d] => { results := [.lit (.bool false)], args := [d] }
  | _ => none }
def ShelfVowelsWrongFalsely : Prop := shelfVowelsRow.holds Tryz.pinned (OpenSpec.ofChange shelfVowelsWrong)

/-- 'scriptlaw16.ShelfMorse': WHATEVER THE INPUT: true; the input reads as it did. -/
def shelfMorseSpec : ChangeSpec := { name := "shelfMorse", fn := fun _ => fun
  | [d] => { results := [.lit (.bool true)], args := [d] }
  | _ => none }
def shelfMorseRow : OpenClaim := { program := "ytapechjebkjidaagreatdoor", sum := "d342dcd496490c09378fe19565b3d3c5d3d62959bb0c8ee02403ea0c1554c360", func := "scriptshift/scriptlaw16.ShelfMorse", spec := "shelfMorse", inPlace := ["internal/bytealg.IndexByteString", "internal/bytealg.IndexString", "internal/abi.NoEscape"], unfollowed := true, recurses := true, named := ["strconv.ErrSyntax", "strconv.ErrRange", "internal/strconv.uint64pow10", "math/bits.deBruijn32tab", "math/bits.deBruijn64tab", "internal/bytealg.MaxLen"], apart := false, laid := [("math/bits.deBruijn32tab", laid_math_bits_deBruijn32tab), ("math/bits.deBruijn64tab", laid_math_bits_deBruijn64tab), ("internal/strconv.uint64pow10", laid_internal_strconv_uint64pow10), ("strconv.ErrRange", laid_strconv_ErrRange), ("strconv.ErrSyntax", laid_strconv_ErrSyntax)] }
def ShelfMorseSaid : Prop := shelfMorseRow.holds Tryz.pinned (OpenSpec.ofChange shelfMorseSpec)

/-- ITS FALSE NEIGHBOUR: 'it returns false'. Refute it at one input. -/
def shelfMorseWrong : ChangeSpec := { name := "shelfMorse", fn := fun _ => fun
  | [d] => { results := [.lit (.bool false)], args := [d] }
  | _ => none }
def ShelfMorseWrongFalsely : Prop := shelfMorseRow.holds Tryz.pinned (OpenSpec.ofChange shelfMorseWrong)

/- THE SECOND FORM. 'bulk': how many values and letters a reading holds, each counted each time it is reached (what is shared counts as often as it is met; a slice's spare places count too). A statement '..UptoSaid' is the law's where the arguments, and the package variables that the reading takes, are together of bulk at most 1048576: NARROWER than '..Said'. Prove '..Said' where nothing that the law and all that it calls make is longer than what came in: it says more and counts as full. Else prove '..UptoSaid'. A law counts once. -/
mutual
def uptoBulk {H : Type} : DataW H → Nat
  | .lit (.string bytes) => bytes.length + 1
  | .lit _ => 1
  | .nil => 1
  | .ptr d => uptoBulk d + 1
  | .slice elems spare => uptoBulkAll elems + uptoBulkAll spare + 1
  | .agg parts => uptoBulkAll parts + 1
  | .iface _ d => uptoBulk d + 1
  | .map entries => uptoBulkEntries entries + 1
  | .held _ => 1
def uptoBulkAll {H : Type} : List (DataW H) → Nat
  | [] => 0
  | d :: r => uptoBulk d + uptoBulkAll r
def uptoBulkEntries {H : Type} : List (Lit × DataW H) → Nat
  | [] => 0
  | x :: r => uptoBulkEntry x + uptoBulkEntries r
def uptoBulkEntry {H : Type} : Lit × DataW H → Nat
  | (.string bytes, d) => bytes.length + uptoBulk d + 1
  | (_, d) => uptoBulk d + 1
 end
def uptoSmall : (H : Type) → List (DataW H) → Bool := fun _ ds => decide (uptoBulkAll ds ≤ 1048576)
def OpenSpec.upto (s : _root_.Go.ChangeSpec) : _root_.Go.OpenSpec := { _root_.Go.OpenSpec.ofChange s with cond := some uptoSmall }

/-- 'scriptlaw16.ShelfGerman', WHERE WHAT IT READS IS OF BULK AT MOST 1048576: true; the input reads as it did. -/
def shelfGermanUptoRow : OpenClaim := { program := "ytapechjebkjidaagreatdoor", sum := "d342dcd496490c09378fe19565b3d3c5d3d62959bb0c8ee02403ea0c1554c360", func := "scriptshift/scriptlaw16.ShelfGerman", spec := "shelfGerman", inPlace := ["internal/bytealg.IndexByteString", "internal/bytealg.IndexString", "internal/abi.NoEscape"], unfollowed := true, recurses := true, named := ["strconv.ErrSyntax", "strconv.ErrRange", "internal/strconv.uint64pow10", "math/bits.deBruijn32tab", "math/bits.deBruijn64tab", "internal/bytealg.MaxLen"], apart := false, laid := [("math/bits.deBruijn32tab", laid_math_bits_deBruijn32tab), ("math/bits.deBruijn64tab", laid_math_bits_deBruijn64tab), ("internal/strconv.uint64pow10", laid_internal_strconv_uint64pow10), ("strconv.ErrRange", laid_strconv_ErrRange), ("strconv.ErrSyntax", laid_strconv_ErrSyntax)], narrowed := true }
def ShelfGermanUptoSaid : Prop := shelfGermanUptoRow.holds Tryz.pinned (OpenSpec.upto shelfGermanSpec)

/-- 'scriptlaw16.ShelfLeet', WHERE WHAT IT READS IS OF BULK AT MOST 1048576: true; the input reads as it did. -/
def shelfLeetUptoRow : OpenClaim := { program := "ytapechjebkjidaagreatdoor", sum := "d342dcd496490c09378fe19565b3d3c5d3d62959bb0c8ee02403ea0c1554c360", func := "scriptshift/scriptlaw16.ShelfLeet", spec := "shelfLeet", inPlace := ["internal/bytealg.IndexByteString", "internal/bytealg.IndexString", "internal/abi.NoEscape"], unfollowed := true, recurses := true, named := ["strconv.ErrSyntax", "strconv.ErrRange", "internal/strconv.uint64pow10", "math/bits.deBruijn32tab", "math/bits.deBruijn64tab", "internal/bytealg.MaxLen"], apart := false, laid := [("math/bits.deBruijn32tab", laid_math_bits_deBruijn32tab), ("math/bits.deBruijn64tab", laid_math_bits_deBruijn64tab), ("internal/strconv.uint64pow10", laid_internal_strconv_uint64pow10), ("strconv.ErrRange", laid_strconv_ErrRange), ("strconv.ErrSyntax", laid_strconv_ErrSyntax)], narrowed := true }
def ShelfLeetUptoSaid : Prop := shelfLeetUptoRow.holds Tryz.pinned (OpenSpec.upto shelfLeetSpec)

/-- 'scriptlaw16.ShelfBlanks', WHERE WHAT IT READS IS OF BULK AT MOST 1048576: true; the input reads as it did. -/
def shelfBlanksUptoRow : OpenClaim := { program := "ytapechjebkjidaagreatdoor", sum := "d342dcd496490c09378fe19565b3d3c5d3d62959bb0c8ee02403ea0c1554c360", func := "scriptshift/scriptlaw16.ShelfBlanks", spec := "shelfBlanks", inPlace := ["internal/bytealg.IndexByteString", "internal/bytealg.IndexString", "internal/abi.NoEscape"], unfollowed := true, recurses := true, named := ["strconv.ErrSyntax", "strconv.ErrRange", "internal/strconv.uint64pow10", "math/bits.deBruijn32tab", "math/bits.deBruijn64tab", "internal/bytealg.MaxLen"], apart := false, laid := [("math/bits.deBruijn32tab", laid_math_bits_deBruijn32tab), ("math/bits.deBruijn64tab", laid_math_bits_deBruijn64tab), ("internal/strconv.uint64pow10", laid_internal_strconv_uint64pow10), ("strconv.ErrRange", laid_strconv_ErrRange), ("strconv.ErrSyntax", laid_strconv_ErrSyntax)], narrowed := true }
def ShelfBlanksUptoSaid : Prop := shelfBlanksUptoRow.holds Tryz.pinned (OpenSpec.upto shelfBlanksSpec)

/-- 'scriptlaw16.ShelfEdges', WHERE WHAT IT READS IS OF BULK AT MOST 1048576: true; the input reads as it did. -/
def shelfEdgesUptoRow : OpenClaim := { program := "ytapechjebkjidaagreatdoor", sum := "d342dcd496490c09378fe19565b3d3c5d3d62959bb0c8ee02403ea0c1554c360", func := "scriptshift/scriptlaw16.ShelfEdges", spec := "shelfEdges", inPlace := ["internal/bytealg.IndexByteString", "internal/bytealg.IndexString", "internal/abi.NoEscape"], unfollowed := true, recurses := true, named := ["strconv.ErrSyntax", "strconv.ErrRange", "internal/strconv.uint64pow10", "math/bits.deBruijn32tab", "math/bits.deBruijn64tab", "internal/bytealg.MaxLen"], apart := false, laid := [("math/bits.deBruijn32tab", laid_math_bits_deBruijn32tab), ("math/bits.deBruijn64tab", laid_math_bits_deBruijn64tab), ("internal/strconv.uint64pow10", laid_internal_strconv_uint64pow10), ("strconv.ErrRange", laid_strconv_ErrRange), ("strconv.ErrSyntax", laid_strconv_ErrSyntax)], narrowed := true }
def ShelfEdgesUptoSaid : Prop := shelfEdgesUptoRow.holds Tryz.pinned (OpenSpec.upto shelfEdgesSpec)

/-- 'scriptlaw16.ShelfSigma', WHERE WHAT IT READS IS OF BULK AT MOST 1048576: true; the input reads as it did. -/
def shelfSigmaUptoRow : OpenClaim := { program := "ytapechjebkjidaagreatdoor", sum := "d342dcd496490c09378fe19565b3d3c5d3d62959bb0c8ee02403ea0c1554c360", func := "scriptshift/scriptlaw16.ShelfSigma", spec := "shelfSigma", inPlace := ["internal/bytealg.IndexByteString", "internal/bytealg.IndexString", "internal/abi.NoEscape"], unfollowed := true, recurses := true, named := ["strconv.ErrSyntax", "strconv.ErrRange", "internal/strconv.uint64pow10", "math/bits.deBruijn32tab", "math/bits.deBruijn64tab", "internal/bytealg.MaxLen"], apart := false, laid := [("math/bits.deBruijn32tab", laid_math_bits_deBruijn32tab), ("math/bits.deBruijn64tab", laid_math_bits_deBruijn64tab), ("internal/strconv.uint64pow10", laid_internal_strconv_uint64pow10), ("strconv.ErrRange", laid_strconv_ErrRange), ("strconv.ErrSyntax", laid_strconv_ErrSyntax)], narrowed := true }
def ShelfSigmaUptoSaid : Prop := shelfSigmaUptoRow.holds Tryz.pinned (OpenSpec.upto shelfSigmaSpec)

/-- 'scriptlaw16.ShelfSqueeze', WHERE WHAT IT READS IS OF BULK AT MOST 1048576: true; the input reads as it did. -/
def shelfSqueezeUptoRow : OpenClaim := { program := "ytapechjebkjidaagreatdoor", sum := "d342dcd496490c09378fe19565b3d3c5d3d62959bb0c8ee02403ea0c1554c360", func := "scriptshift/scriptlaw16.ShelfSqueeze", spec := "shelfSqueeze", inPlace := ["internal/bytealg.IndexByteString", "internal/bytealg.IndexString", "internal/abi.NoEscape"], unfollowed := true, recurses := true, named := ["strconv.ErrSyntax", "strconv.ErrRange", "internal/strconv.uint64pow10", "math/bits.deBruijn32tab", "math/bits.deBruijn64tab", "internal/bytealg.MaxLen"], apart := false, laid := [("math/bits.deBruijn32tab", laid_math_bits_deBruijn32tab), ("math/bits.deBruijn64tab", laid_math_bits_deBruijn64tab), ("internal/strconv.uint64pow10", laid_internal_strconv_uint64pow10), ("strconv.ErrRange", laid_strconv_ErrRange), ("strconv.ErrSyntax", laid_strconv_ErrSyntax)], narrowed := true }
def ShelfSqueezeUptoSaid : Prop := shelfSqueezeUptoRow.holds Tryz.pinned (OpenSpec.upto shelfSqueezeSpec)

/-- 'scriptlaw16.ShelfSigns', WHERE WHAT IT READS IS OF BULK AT MOST 1048576: true; the input reads as it did. -/
def shelfSignsUptoRow : OpenClaim := { program := "ytapechjebkjidaagreatdoor", sum := "d342dcd496490c09378fe19565b3d3c5d3d62959bb0c8ee02403ea0c1554c360", func := "scriptshift/scriptlaw16.ShelfSigns", spec := "shelfSigns", inPlace := ["internal/bytealg.IndexByteString", "internal/bytealg.IndexString", "internal/abi.NoEscape"], unfollowed := true, recurses := true, named := ["strconv.ErrSyntax", "strconv.ErrRange", "internal/strconv.uint64pow10", "math/bits.deBruijn32tab", "math/bits.deBruijn64tab", "internal/bytealg.MaxLen"], apart := false, laid := [("math/bits.deBruijn32tab", laid_math_bits_deBruijn32tab), ("math/bits.deBruijn64tab", laid_math_bits_deBruijn64tab), ("internal/strconv.uint64pow10", laid_internal_strconv_uint64pow10), ("strconv.ErrRange", laid_strconv_ErrRange), ("strconv.ErrSyntax", laid_strconv_ErrSyntax)], narrowed := true }
def ShelfSignsUptoSaid : Prop := shelfSignsUptoRow.holds Tryz.pinned (OpenSpec.upto shelfSignsSpec)

/-- 'scriptlaw16.ShelfTelex', WHERE WHAT IT READS IS OF BULK AT MOST 1048576: true; the input reads as it did. -/
def shelfTelexUptoRow : OpenClaim := { program := "ytapechjebkjidaagreatdoor", sum := "d342dcd496490c09378fe19565b3d3c5d3d62959bb0c8ee02403ea0c1554c360", func := "scriptshift/scriptlaw16.ShelfTelex", spec := "shelfTelex", inPlace := ["internal/bytealg.IndexByteString", "internal/bytealg.IndexString", "internal/abi.NoEscape"], unfollowed := true, recurses := true, named := ["strconv.ErrSyntax", "strconv.ErrRange", "internal/strconv.uint64pow10", "math/bits.deBruijn32tab", "math/bits.deBruijn64tab", "internal/bytealg.MaxLen"], apart := false, laid := [("math/bits.deBruijn32tab", laid_math_bits_deBruijn32tab), ("math/bits.deBruijn64tab", laid_math_bits_deBruijn64tab), ("internal/strconv.uint64pow10", laid_internal_strconv_uint64pow10), ("strconv.ErrRange", laid_strconv_ErrRange), ("strconv.ErrSyntax", laid_strconv_ErrSyntax)], narrowed := true }
def ShelfTelexUptoSaid : Prop := shelfTelexUptoRow.holds Tryz.pinned (OpenSpec.upto shelfTelexSpec)

/-- 'scriptlaw16.ShelfDots', WHERE WHAT IT READS IS OF BULK AT MOST 1048576: true; the input reads as it did. -/
def shelfDotsUptoRow : OpenClaim := { program := "ytapechjebkjidaagreatdoor", sum := "d342dcd496490c09378fe19565b3d3c5d3d62959bb0c8ee02403ea0c1554c360", func := "scriptshift/scriptlaw16.ShelfDots", spec := "shelfDots", inPlace := ["internal/bytealg.IndexByteString", "internal/bytealg.IndexString", "internal/abi.NoEscape"], unfollowed := true, recurses := true, named := ["strconv.ErrSyntax", "strconv.ErrRange", "internal/strconv.uint64pow10", "math/bits.deBruijn32tab", "math/bits.deBruijn64tab", "internal/bytealg.MaxLen"], apart := false, laid := [("math/bits.deBruijn32tab", laid_math_bits_deBruijn32tab), ("math/bits.deBruijn64tab", laid_math_bits_deBruijn64tab), ("internal/strconv.uint64pow10", laid_internal_strconv_uint64pow10), ("strconv.ErrRange", laid_strconv_ErrRange), ("strconv.ErrSyntax", laid_strconv_ErrSyntax)], narrowed := true }
def ShelfDotsUptoSaid : Prop := shelfDotsUptoRow.holds Tryz.pinned (OpenSpec.upto shelfDotsSpec)

/-- 'scriptlaw16.ShelfQuotes', WHERE WHAT IT READS IS OF BULK AT MOST 1048576: true; the input reads as it did. -/
def shelfQuotesUptoRow : OpenClaim := { program := "ytapechjebkjidaagreatdoor", sum := "d342dcd496490c09378fe19565b3d3c5d3d62959bb0c8ee02403ea0c1554c360", func := "scriptshift/scriptlaw16.ShelfQuotes", spec := "shelfQuotes", inPlace := ["internal/bytealg.IndexByteString", "internal/bytealg.IndexString", "internal/abi.NoEscape"], unfollowed := true, recurses := true, named := ["strconv.ErrSyntax", "strconv.ErrRange", "internal/strconv.uint64pow10", "math/bits.deBruijn32tab", "math/bits.deBruijn64tab", "internal/bytealg.MaxLen"], apart := false, laid := [("math/bits.deBruijn32tab", laid_math_bits_deBruijn32tab), ("math/bits.deBruijn64tab", laid_math_bits_deBruijn64tab), ("internal/strconv.uint64pow10", laid_internal_strconv_uint64pow10), ("strconv.ErrRange", laid_strconv_ErrRange), ("strconv.ErrSyntax", laid_strconv_ErrSyntax)], narrowed := true }
def ShelfQuotesUptoSaid : Prop := shelfQuotesUptoRow.holds Tryz.pinned (OpenSpec.upto shelfQuotesSpec)

/-- 'scriptlaw16.ShelfRovar', WHERE WHAT IT READS IS OF BULK AT MOST 1048576: true; the input reads as it did. -/
def shelfRovarUptoRow : OpenClaim := { program := "ytapechjebkjidaagreatdoor", sum := "d342dcd496490c09378fe19565b3d3c5d3d62959bb0c8ee02403ea0c1554c360", func := "scriptshift/scriptlaw16.ShelfRovar", spec := "shelfRovar", inPlace := ["internal/bytealg.IndexByteString", "internal/bytealg.IndexString", "internal/abi.NoEscape"], unfollowed := true, recurses := true, named := ["strconv.ErrSyntax", "strconv.ErrRange", "internal/strconv.uint64pow10", "math/bits.deBruijn32tab", "math/bits.deBruijn64tab", "internal/bytealg.MaxLen"], apart := false, laid := [("math/bits.deBruijn32tab", laid_math_bits_deBruijn32tab), ("math/bits.deBruijn64tab", laid_math_bits_deBruijn64tab), ("internal/strconv.uint64pow10", laid_internal_strconv_uint64pow10), ("strconv.ErrRange", laid_strconv_ErrRange), ("strconv.ErrSyntax", laid_strconv_ErrSyntax)], narrowed := true }
def ShelfRovarUptoSaid : Prop := shelfRovarUptoRow.holds Tryz.pinned (OpenSpec.upto shelfRovarSpec)

/-- 'scriptlaw16.ShelfVowels', WHERE WHAT IT READS IS OF BULK AT MOST 1048576: true; the input reads as it did. -/
def shelfVowelsUptoRow : OpenClaim := { program := "ytapechjebkjidaagreatdoor", sum := "d342dcd496490c09378fe19565b3d3c5d3d62959bb0c8ee02403ea0c1554c360", func := "scriptshift/scriptlaw16.ShelfVowels", spec := "shelfVowels", inPlace := ["internal/bytealg.IndexByteString", "internal/bytealg.IndexString", "internal/abi.NoEscape"], unfollowed := true, recurses := true, named := ["strconv.ErrSyntax", "strconv.ErrRange", "internal/strconv.uint64pow10", "math/bits.deBruijn32tab", "math/bits.deBruijn64tab", "internal/bytealg.MaxLen"], apart := false, laid := [("math/bits.deBruijn32tab", laid_math_bits_deBruijn32tab), ("math/bits.deBruijn64tab", laid_math_bits_deBruijn64tab), ("internal/strconv.uint64pow10", laid_internal_strconv_uint64pow10), ("strconv.ErrRange", laid_strconv_ErrRange), ("strconv.ErrSyntax", laid_strconv_ErrSyntax)], narrowed := true }
def ShelfVowelsUptoSaid : Prop := shelfVowelsUptoRow.holds Tryz.pinned (OpenSpec.upto shelfVowelsSpec)

/-- 'scriptlaw16.ShelfMorse', WHERE WHAT IT READS IS OF BULK AT MOST 1048576: true; the input reads as it did. -/
def shelfMorseUptoRow : OpenClaim := { program := "ytapechjebkjidaagreatdoor", sum := "d342dcd496490c09378fe19565b3d3c5d3d62959bb0c8ee02403ea0c1554c360", func := "scriptshift/scriptlaw16.ShelfMorse", spec := "shelfMorse", inPlace := ["internal/bytealg.IndexByteString", "internal/bytealg.IndexString", "internal/abi.NoEscape"], unfollowed := true, recurses := true, named := ["strconv.ErrSyntax", "strconv.ErrRange", "internal/strconv.uint64pow10", "math/bits.deBruijn32tab", "math/bits.deBruijn64tab", "internal/bytealg.MaxLen"], apart := false, laid := [("math/bits.deBruijn32tab", laid_math_bits_deBruijn32tab), ("math/bits.deBruijn64tab", laid_math_bits_deBruijn64tab), ("internal/strconv.uint64pow10", laid_internal_strconv_uint64pow10), ("strconv.ErrRange", laid_strconv_ErrRange), ("strconv.ErrSyntax", laid_strconv_ErrSyntax)], narrowed := true }
def ShelfMorseUptoSaid : Prop := shelfMorseUptoRow.holds Tryz.pinned (OpenSpec.upto shelfMorseSpec)

end Rows
end Go.Proofs.YtapechjebkjidaaGreatDoor
