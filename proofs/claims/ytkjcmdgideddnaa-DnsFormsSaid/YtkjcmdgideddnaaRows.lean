/-
  No cell of these rows narrows 'for every input' (looked for: loops, veiled, ifaces, maps, wideKeys, modest, calm, conditions, laid).
  DERIVED. THE GIVEN ROWS OF THIS SEAT. 32 by the template 'for every input the law returns true; each argument reads behind the call as it read before'; 0 by the template 'total and deterministic' (their statements: YtkjcmdgideddnaaTotals.lean).
  GIVEN WITH THE SEED: the statements are not yours to turn. If you find one false, say at which input.
  Laid BY PROGRAM, IN A SANDBOX (cutbox-rows.mjs): the forced cells as the released guide's own fill.sh prints them over the translation 259f1ea3b624b4e7… (all of the seat's roots in one cut). By AI agents, Wed Nov 11 2026. No macro, syntax, notation, axiom, sorry.
-/
import Derived.Test.YtkjcmdgideddnaaChecked
import GoSem.Claim
import GoSem.ClaimJoined
import GoSem.ClaimMapViews
import Derived.JoinedTies
import Derived.KernelRfl
namespace Go.Proofs.Ytkjcmdgideddnaa
/- THE CELL 'sum', in the pinned program and in every row, IS THE sha256 OF THE DUMP (.gsa) THAT YtkjcmdgideddnaaProg.lean LOADS. Nothing in Lean hashes anything: it is a label: what it is worth is what the hold of that sum in a sandbox is worth. -/
noncomputable def Try.pinned : Pinned := { name := "ytkjcmdgideddnaa", sum := "259f1ea3b624b4e79977495449d87745a9a592e8d61756737f62e8361fc01968", checked := Try.checked }
namespace Rows
def none {H : Type} : Left H := { results := [], args := [] }

/-- 'pinfoldlaw6.Opts': WHATEVER THE INPUT: true; the input reads as it did. -/
def optsSpec : ChangeSpec := { name := "opts", fn := fun _ => fun
  | [d1, d2, d3] => { results := [.lit (.bool true)], args := [d1, d2, d3] }
  | _ => none }
def optsRow : OpenClaim := { program := "ytkjcmdgideddnaa", sum := "259f1ea3b624b4e79977495449d87745a9a592e8d61756737f62e8361fc01968", func := "pinfold/pinfoldlaw6.Opts", spec := "opts", inPlace := ["internal/abi.NoEscape"], plainKeys := false, apart := false }
def OptsSaid : Prop := optsRow.holds Try.pinned (OpenSpec.ofChange optsSpec)

/-- ITS FALSE NEIGHBOUR: 'it returns false'. Refute it at one input. -/
def optsWrong : ChangeSpec := { name := "opts", fn := fun _ => fun
  | [d1, d2, d3] => { results := [.lit (.bool false)], args := [d1, d2, d3] }
  | _ => none }
def OptsWrongFalsely : Prop := optsRow.holds Try.pinned (OpenSpec.ofChange optsWrong)

/-- 'pinfoldlaw6.OptsBack': WHATEVER THE INPUT: true; the input reads as it did. -/
def optsBackSpec : ChangeSpec := { name := "optsBack", fn := fun _ => fun
  | [d1, d2, d3] => { results := [.lit (.bool true)], args := [d1, d2, d3] }
  | _ => none }
def optsBackRow : OpenClaim := { program := "ytkjcmdgideddnaa", sum := "259f1ea3b624b4e79977495449d87745a9a592e8d61756737f62e8361fc01968", func := "pinfold/pinfoldlaw6.OptsBack", spec := "optsBack", inPlace := ["internal/abi.NoEscape"], plainKeys := false, apart := false }
def OptsBackSaid : Prop := optsBackRow.holds Try.pinned (OpenSpec.ofChange optsBackSpec)

/-- ITS FALSE NEIGHBOUR: 'it returns false'. Refute it at one input. -/
def optsBackWrong : ChangeSpec := { name := "optsBack", fn := fun _ => fun
  | [d1, d2, d3] => { results := [.lit (.bool false)], args := [d1, d2, d3] }
  | _ => none }
def OptsBackWrongFalsely : Prop := optsBackRow.holds Try.pinned (OpenSpec.ofChange optsBackWrong)

/-- 'pinfoldlaw6.OptsForms': WHATEVER THE INPUT: true; the input reads as it did. -/
def optsFormsSpec : ChangeSpec := { name := "optsForms", fn := fun _ => fun
  | [d1, d2] => { results := [.lit (.bool true)], args := [d1, d2] }
  | _ => none }
def optsFormsRow : OpenClaim := { program := "ytkjcmdgideddnaa", sum := "259f1ea3b624b4e79977495449d87745a9a592e8d61756737f62e8361fc01968", func := "pinfold/pinfoldlaw6.OptsForms", spec := "optsForms", inPlace := ["internal/abi.NoEscape"], plainKeys := false, apart := false }
def OptsFormsSaid : Prop := optsFormsRow.holds Try.pinned (OpenSpec.ofChange optsFormsSpec)

/-- ITS FALSE NEIGHBOUR: 'it returns false'. Refute it at one input. -/
def optsFormsWrong : ChangeSpec := { name := "optsForms", fn := fun _ => fun
  | [d1, d2] => { results := [.lit (.bool false)], args := [d1, d2] }
  | _ => none }
def OptsFormsWrongFalsely : Prop := optsFormsRow.holds Try.pinned (OpenSpec.ofChange optsFormsWrong)

/-- 'pinfoldlaw6.OptsLong': WHATEVER THE INPUT: true; the input reads as it did. -/
def optsLongSpec : ChangeSpec := { name := "optsLong", fn := fun _ => fun
  | [d1, d2] => { results := [.lit (.bool true)], args := [d1, d2] }
  | _ => none }
def optsLongRow : OpenClaim := { program := "ytkjcmdgideddnaa", sum := "259f1ea3b624b4e79977495449d87745a9a592e8d61756737f62e8361fc01968", func := "pinfold/pinfoldlaw6.OptsLong", spec := "optsLong", inPlace := ["internal/abi.NoEscape"], plainKeys := false, apart := false }
def OptsLongSaid : Prop := optsLongRow.holds Try.pinned (OpenSpec.ofChange optsLongSpec)

/-- ITS FALSE NEIGHBOUR: 'it returns false'. Refute it at one input. -/
def optsLongWrong : ChangeSpec := { name := "optsLong", fn := fun _ => fun
  | [d1, d2] => { results := [.lit (.bool false)], args := [d1, d2] }
  | _ => none }
def OptsLongWrongFalsely : Prop := optsLongRow.holds Try.pinned (OpenSpec.ofChange optsLongWrong)

/-- 'pinfoldlaw6.OptsSplit': WHATEVER THE INPUT: true; the input reads as it did. -/
def optsSplitSpec : ChangeSpec := { name := "optsSplit", fn := fun _ => fun
  | [d1, d2] => { results := [.lit (.bool true)], args := [d1, d2] }
  | _ => none }
def optsSplitRow : OpenClaim := { program := "ytkjcmdgideddnaa", sum := "259f1ea3b624b4e79977495449d87745a9a592e8d61756737f62e8361fc01968", func := "pinfold/pinfoldlaw6.OptsSplit", spec := "optsSplit", inPlace := ["internal/abi.NoEscape"], plainKeys := false, apart := false }
def OptsSplitSaid : Prop := optsSplitRow.holds Try.pinned (OpenSpec.ofChange optsSplitSpec)

/-- ITS FALSE NEIGHBOUR: 'it returns false'. Refute it at one input. -/
def optsSplitWrong : ChangeSpec := { name := "optsSplit", fn := fun _ => fun
  | [d1, d2] => { results := [.lit (.bool false)], args := [d1, d2] }
  | _ => none }
def OptsSplitWrongFalsely : Prop := optsSplitRow.holds Try.pinned (OpenSpec.ofChange optsSplitWrong)

/-- 'pinfoldlaw3.Wires': WHATEVER THE INPUT: true; the input reads as it did. -/
def wiresSpec : ChangeSpec := { name := "wires", fn := fun _ => fun
  | [d1, d2, d3, d4] => { results := [.lit (.bool true)], args := [d1, d2, d3, d4] }
  | _ => none }
def wiresRow : OpenClaim := { program := "ytkjcmdgideddnaa", sum := "259f1ea3b624b4e79977495449d87745a9a592e8d61756737f62e8361fc01968", func := "pinfold/pinfoldlaw3.Wires", spec := "wires", inPlace := ["internal/bytealg.IndexByteString", "internal/bytealg.IndexString", "internal/abi.NoEscape", "internal/bytealg.MakeNoZero"], named := ["internal/bytealg.MaxLen"], plainKeys := false, apart := false }
def WiresSaid : Prop := wiresRow.holds Try.pinned (OpenSpec.ofChange wiresSpec)

/-- ITS FALSE NEIGHBOUR: 'it returns false'. Refute it at one input. -/
def wiresWrong : ChangeSpec := { name := "wires", fn := fun _ => fun
  | [d1, d2, d3, d4] => { results := [.lit (.bool false)], args := [d1, d2, d3, d4] }
  | _ => none }
def WiresWrongFalsely : Prop := wiresRow.holds Try.pinned (OpenSpec.ofChange wiresWrong)

/-- 'pinfoldlaw3.WireBack': WHATEVER THE INPUT: true; the input reads as it did. -/
def wireBackSpec : ChangeSpec := { name := "wireBack", fn := fun _ => fun
  | [d1, d2] => { results := [.lit (.bool true)], args := [d1, d2] }
  | _ => none }
def wireBackRow : OpenClaim := { program := "ytkjcmdgideddnaa", sum := "259f1ea3b624b4e79977495449d87745a9a592e8d61756737f62e8361fc01968", func := "pinfold/pinfoldlaw3.WireBack", spec := "wireBack", inPlace := ["internal/bytealg.IndexByteString", "internal/bytealg.IndexString", "internal/abi.NoEscape", "internal/bytealg.MakeNoZero"], named := ["internal/bytealg.MaxLen"], plainKeys := false, apart := false }
def WireBackSaid : Prop := wireBackRow.holds Try.pinned (OpenSpec.ofChange wireBackSpec)

/-- ITS FALSE NEIGHBOUR: 'it returns false'. Refute it at one input. -/
def wireBackWrong : ChangeSpec := { name := "wireBack", fn := fun _ => fun
  | [d1, d2] => { results := [.lit (.bool false)], args := [d1, d2] }
  | _ => none }
def WireBackWrongFalsely : Prop := wireBackRow.holds Try.pinned (OpenSpec.ofChange wireBackWrong)

/-- 'pinfoldlaw3.WireForms': WHATEVER THE INPUT: true; the input reads as it did. -/
def wireFormsSpec : ChangeSpec := { name := "wireForms", fn := fun _ => fun
  | [d1, d2] => { results := [.lit (.bool true)], args := [d1, d2] }
  | _ => none }
def wireFormsRow : OpenClaim := { program := "ytkjcmdgideddnaa", sum := "259f1ea3b624b4e79977495449d87745a9a592e8d61756737f62e8361fc01968", func := "pinfold/pinfoldlaw3.WireForms", spec := "wireForms", inPlace := ["internal/bytealg.IndexByteString", "internal/bytealg.IndexString", "internal/abi.NoEscape", "internal/bytealg.MakeNoZero"], named := ["internal/bytealg.MaxLen"], plainKeys := false, apart := false }
def WireFormsSaid : Prop := wireFormsRow.holds Try.pinned (OpenSpec.ofChange wireFormsSpec)

/-- ITS FALSE NEIGHBOUR: 'it returns false'. Refute it at one input. -/
def wireFormsWrong : ChangeSpec := { name := "wireForms", fn := fun _ => fun
  | [d1, d2] => { results := [.lit (.bool false)], args := [d1, d2] }
  | _ => none }
def WireFormsWrongFalsely : Prop := wireFormsRow.holds Try.pinned (OpenSpec.ofChange wireFormsWrong)

/-- 'pinfoldlaw3.WirePlain': WHATEVER THE INPUT: true; the input reads as it did. -/
def wirePlainSpec : ChangeSpec := { name := "wirePlain", fn := fun _ => fun
  | [d1, d2] => { results := [.lit (.bool true)], args := [d1, d2] }
  | _ => none }
def wirePlainRow : OpenClaim := { program := "ytkjcmdgideddnaa", sum := "259f1ea3b624b4e79977495449d87745a9a592e8d61756737f62e8361fc01968", func := "pinfold/pinfoldlaw3.WirePlain", spec := "wirePlain", inPlace := ["internal/bytealg.IndexByteString", "internal/bytealg.IndexString", "internal/abi.NoEscape", "internal/bytealg.MakeNoZero"], named := ["internal/bytealg.MaxLen"], plainKeys := false, apart := false }
def WirePlainSaid : Prop := wirePlainRow.holds Try.pinned (OpenSpec.ofChange wirePlainSpec)

/-- ITS FALSE NEIGHBOUR: 'it returns false'. Refute it at one input. -/
def wirePlainWrong : ChangeSpec := { name := "wirePlain", fn := fun _ => fun
  | [d1, d2] => { results := [.lit (.bool false)], args := [d1, d2] }
  | _ => none }
def WirePlainWrongFalsely : Prop := wirePlainRow.holds Try.pinned (OpenSpec.ofChange wirePlainWrong)

/-- 'pinfoldlaw3.WirePoints': WHATEVER THE INPUT: true; the input reads as it did. -/
def wirePointsSpec : ChangeSpec := { name := "wirePoints", fn := fun _ => fun
  | [d1, d2] => { results := [.lit (.bool true)], args := [d1, d2] }
  | _ => none }
def wirePointsRow : OpenClaim := { program := "ytkjcmdgideddnaa", sum := "259f1ea3b624b4e79977495449d87745a9a592e8d61756737f62e8361fc01968", func := "pinfold/pinfoldlaw3.WirePoints", spec := "wirePoints", inPlace := ["internal/bytealg.IndexByteString", "internal/bytealg.IndexString", "internal/abi.NoEscape", "internal/bytealg.MakeNoZero"], named := ["internal/bytealg.MaxLen"], plainKeys := false, apart := false }
def WirePointsSaid : Prop := wirePointsRow.holds Try.pinned (OpenSpec.ofChange wirePointsSpec)

/-- ITS FALSE NEIGHBOUR: 'it returns false'. Refute it at one input. -/
def wirePointsWrong : ChangeSpec := { name := "wirePoints", fn := fun _ => fun
  | [d1, d2] => { results := [.lit (.bool false)], args := [d1, d2] }
  | _ => none }
def WirePointsWrongFalsely : Prop := wirePointsRow.holds Try.pinned (OpenSpec.ofChange wirePointsWrong)

/-- 'pinfoldlaw3.WireFolds': WHATEVER THE INPUT: true; the input reads as it did. -/
def wireFoldsSpec : ChangeSpec := { name := "wireFolds", fn := fun _ => fun
  | [d] => { results := [.lit (.bool true)], args := [d] }
  | _ => none }
def wireFoldsRow : OpenClaim := { program := "ytkjcmdgideddnaa", sum := "259f1ea3b624b4e79977495449d87745a9a592e8d61756737f62e8361fc01968", func := "pinfold/pinfoldlaw3.WireFolds", spec := "wireFolds", inPlace := ["internal/bytealg.IndexByteString", "internal/bytealg.IndexString", "internal/abi.NoEscape", "internal/bytealg.MakeNoZero"], named := ["internal/bytealg.MaxLen"], plainKeys := false, apart := false }
def WireFoldsSaid : Prop := wireFoldsRow.holds Try.pinned (OpenSpec.ofChange wireFoldsSpec)

/-- ITS FALSE NEIGHBOUR: 'it returns false'. Refute it at one input. -/
def wireFoldsWrong : ChangeSpec := { name := "wireFolds", fn := fun _ => fun
  | [d] => { results := [.lit (.bool false)], args := [d] }
  | _ => none }
def WireFoldsWrongFalsely : Prop := wireFoldsRow.holds Try.pinned (OpenSpec.ofChange wireFoldsWrong)

/-- 'pinfoldlaw3.WireShort': WHATEVER THE INPUT: true; the input reads as it did. -/
def wireShortSpec : ChangeSpec := { name := "wireShort", fn := fun _ => fun
  | [d1, d2] => { results := [.lit (.bool true)], args := [d1, d2] }
  | _ => none }
def wireShortRow : OpenClaim := { program := "ytkjcmdgideddnaa", sum := "259f1ea3b624b4e79977495449d87745a9a592e8d61756737f62e8361fc01968", func := "pinfold/pinfoldlaw3.WireShort", spec := "wireShort", inPlace := ["internal/bytealg.IndexByteString", "internal/bytealg.IndexString", "internal/abi.NoEscape", "internal/bytealg.MakeNoZero"], named := ["internal/bytealg.MaxLen"], plainKeys := false, apart := false }
def WireShortSaid : Prop := wireShortRow.holds Try.pinned (OpenSpec.ofChange wireShortSpec)

/-- ITS FALSE NEIGHBOUR: 'it returns false'. Refute it at one input. -/
def wireShortWrong : ChangeSpec := { name := "wireShort", fn := fun _ => fun
  | [d1, d2] => { results := [.lit (.bool false)], args := [d1, d2] }
  | _ => none }
def WireShortWrongFalsely : Prop := wireShortRow.holds Try.pinned (OpenSpec.ofChange wireShortWrong)

/-- 'pinfoldlaw7.Packets': WHATEVER THE INPUT: true; the input reads as it did. -/
def packetsSpec : ChangeSpec := { name := "packets", fn := fun _ => fun
  | [d1, d2] => { results := [.lit (.bool true)], args := [d1, d2] }
  | _ => none }
def packetsRow : OpenClaim := { program := "ytkjcmdgideddnaa", sum := "259f1ea3b624b4e79977495449d87745a9a592e8d61756737f62e8361fc01968", func := "pinfold/pinfoldlaw7.Packets", spec := "packets", inPlace := ["internal/abi.NoEscape", "internal/bytealg.MakeNoZero"], unfollowed := true, recurses := true, plainKeys := false, apart := false }
def PacketsSaid : Prop := packetsRow.holds Try.pinned (OpenSpec.ofChange packetsSpec)

/-- ITS FALSE NEIGHBOUR: 'it returns false'. Refute it at one input. -/
def packetsWrong : ChangeSpec := { name := "packets", fn := fun _ => fun
  | [d1, d2] => { results := [.lit (.bool false)], args := [d1, d2] }
  | _ => none }
def PacketsWrongFalsely : Prop := packetsRow.holds Try.pinned (OpenSpec.ofChange packetsWrong)

/-- 'pinfoldlaw7.PacketBack': WHATEVER THE INPUT: true; the input reads as it did. -/
def packetBackSpec : ChangeSpec := { name := "packetBack", fn := fun _ => fun
  | [d1, d2] => { results := [.lit (.bool true)], args := [d1, d2] }
  | _ => none }
def packetBackRow : OpenClaim := { program := "ytkjcmdgideddnaa", sum := "259f1ea3b624b4e79977495449d87745a9a592e8d61756737f62e8361fc01968", func := "pinfold/pinfoldlaw7.PacketBack", spec := "packetBack", inPlace := ["internal/abi.NoEscape", "internal/bytealg.MakeNoZero"], unfollowed := true, recurses := true, plainKeys := false, apart := false }
def PacketBackSaid : Prop := packetBackRow.holds Try.pinned (OpenSpec.ofChange packetBackSpec)

/-- ITS FALSE NEIGHBOUR: 'it returns false'. Refute it at one input. -/
def packetBackWrong : ChangeSpec := { name := "packetBack", fn := fun _ => fun
  | [d1, d2] => { results := [.lit (.bool false)], args := [d1, d2] }
  | _ => none }
def PacketBackWrongFalsely : Prop := packetBackRow.holds Try.pinned (OpenSpec.ofChange packetBackWrong)

/-- 'pinfoldlaw7.PacketForms': WHATEVER THE INPUT: true; the input reads as it did. -/
def packetFormsSpec : ChangeSpec := { name := "packetForms", fn := fun _ => fun
  | [d1, d2] => { results := [.lit (.bool true)], args := [d1, d2] }
  | _ => none }
def packetFormsRow : OpenClaim := { program := "ytkjcmdgideddnaa", sum := "259f1ea3b624b4e79977495449d87745a9a592e8d61756737f62e8361fc01968", func := "pinfold/pinfoldlaw7.PacketForms", spec := "packetForms", inPlace := ["internal/abi.NoEscape", "internal/bytealg.MakeNoZero"], unfollowed := true, recurses := true, plainKeys := false, apart := false }
def PacketFormsSaid : Prop := packetFormsRow.holds Try.pinned (OpenSpec.ofChange packetFormsSpec)

/-- ITS FALSE NEIGHBOUR: 'it returns false'. Refute it at one input. -/
def packetFormsWrong : ChangeSpec := { name := "packetForms", fn := fun _ => fun
  | [d1, d2] => { results := [.lit (.bool false)], args := [d1, d2] }
  | _ => none }
def PacketFormsWrongFalsely : Prop := packetFormsRow.holds Try.pinned (OpenSpec.ofChange packetFormsWrong)

/-- 'pinfoldlaw7.PacketParts': WHATEVER THE INPUT: true; the input reads as it did. -/
def packetPartsSpec : ChangeSpec := { name := "packetParts", fn := fun _ => fun
  | [d1, d2, d3, d4] => { results := [.lit (.bool true)], args := [d1, d2, d3, d4] }
  | _ => none }
def packetPartsRow : OpenClaim := { program := "ytkjcmdgideddnaa", sum := "259f1ea3b624b4e79977495449d87745a9a592e8d61756737f62e8361fc01968", func := "pinfold/pinfoldlaw7.PacketParts", spec := "packetParts", inPlace := ["internal/abi.NoEscape", "internal/bytealg.MakeNoZero"], unfollowed := true, recurses := true, plainKeys := false, apart := false }
def PacketPartsSaid : Prop := packetPartsRow.holds Try.pinned (OpenSpec.ofChange packetPartsSpec)

/-- ITS FALSE NEIGHBOUR: 'it returns false'. Refute it at one input. -/
def packetPartsWrong : ChangeSpec := { name := "packetParts", fn := fun _ => fun
  | [d1, d2, d3, d4] => { results := [.lit (.bool false)], args := [d1, d2, d3, d4] }
  | _ => none }
def PacketPartsWrongFalsely : Prop := packetPartsRow.holds Try.pinned (OpenSpec.ofChange packetPartsWrong)

/-- 'pinfoldlaw7.PacketHeads': WHATEVER THE INPUT: true; the input reads as it did. -/
def packetHeadsSpec : ChangeSpec := { name := "packetHeads", fn := fun _ => fun
  | [d] => { results := [.lit (.bool true)], args := [d] }
  | _ => none }
def packetHeadsRow : OpenClaim := { program := "ytkjcmdgideddnaa", sum := "259f1ea3b624b4e79977495449d87745a9a592e8d61756737f62e8361fc01968", func := "pinfold/pinfoldlaw7.PacketHeads", spec := "packetHeads", inPlace := ["internal/abi.NoEscape", "internal/bytealg.MakeNoZero"], unfollowed := true, recurses := true, plainKeys := false, apart := false }
def PacketHeadsSaid : Prop := packetHeadsRow.holds Try.pinned (OpenSpec.ofChange packetHeadsSpec)

/-- ITS FALSE NEIGHBOUR: 'it returns false'. Refute it at one input. -/
def packetHeadsWrong : ChangeSpec := { name := "packetHeads", fn := fun _ => fun
  | [d] => { results := [.lit (.bool false)], args := [d] }
  | _ => none }
def PacketHeadsWrongFalsely : Prop := packetHeadsRow.holds Try.pinned (OpenSpec.ofChange packetHeadsWrong)

/-- 'pinfoldlaw8.Fqdns': WHATEVER THE INPUT: true; the input reads as it did. -/
def fqdnsSpec : ChangeSpec := { name := "fqdns", fn := fun _ => fun
  | [d1, d2, d3] => { results := [.lit (.bool true)], args := [d1, d2, d3] }
  | _ => none }
def fqdnsRow : OpenClaim := { program := "ytkjcmdgideddnaa", sum := "259f1ea3b624b4e79977495449d87745a9a592e8d61756737f62e8361fc01968", func := "pinfold/pinfoldlaw8.Fqdns", spec := "fqdns", inPlace := ["internal/bytealg.IndexByteString", "internal/bytealg.IndexString", "internal/abi.NoEscape", "internal/bytealg.MakeNoZero"], named := ["internal/bytealg.MaxLen"], plainKeys := false, apart := false }
def FqdnsSaid : Prop := fqdnsRow.holds Try.pinned (OpenSpec.ofChange fqdnsSpec)

/-- ITS FALSE NEIGHBOUR: 'it returns false'. Refute it at one input. -/
def fqdnsWrong : ChangeSpec := { name := "fqdns", fn := fun _ => fun
  | [d1, d2, d3] => { results := [.lit (.bool false)], args := [d1, d2, d3] }
  | _ => none }
def FqdnsWrongFalsely : Prop := fqdnsRow.holds Try.pinned (OpenSpec.ofChange fqdnsWrong)

/-- 'pinfoldlaw8.FqdnBack': WHATEVER THE INPUT: true; the input reads as it did. -/
def fqdnBackSpec : ChangeSpec := { name := "fqdnBack", fn := fun _ => fun
  | [d1, d2] => { results := [.lit (.bool true)], args := [d1, d2] }
  | _ => none }
def fqdnBackRow : OpenClaim := { program := "ytkjcmdgideddnaa", sum := "259f1ea3b624b4e79977495449d87745a9a592e8d61756737f62e8361fc01968", func := "pinfold/pinfoldlaw8.FqdnBack", spec := "fqdnBack", inPlace := ["internal/bytealg.IndexByteString", "internal/bytealg.IndexString", "internal/abi.NoEscape", "internal/bytealg.MakeNoZero"], named := ["internal/bytealg.MaxLen"], plainKeys := false, apart := false }
def FqdnBackSaid : Prop := fqdnBackRow.holds Try.pinned (OpenSpec.ofChange fqdnBackSpec)

/-- ITS FALSE NEIGHBOUR: 'it returns false'. Refute it at one input. -/
def fqdnBackWrong : ChangeSpec := { name := "fqdnBack", fn := fun _ => fun
  | [d1, d2] => { results := [.lit (.bool false)], args := [d1, d2] }
  | _ => none }
def FqdnBackWrongFalsely : Prop := fqdnBackRow.holds Try.pinned (OpenSpec.ofChange fqdnBackWrong)

/-- 'pinfoldlaw8.FqdnForms': WHATEVER THE INPUT: true; the input reads as it did. -/
def fqdnFormsSpec : ChangeSpec := { name := "fqdnForms", fn := fun _ => fun
  | [d1, d2] => { results := [.lit (.bool true)], args := [d1, d2] }
  | _ => none }
def fqdnFormsRow : OpenClaim := { program := "ytkjcmdgideddnaa", sum := "259f1ea3b624b4e79977495449d87745a9a592e8d61756737f62e8361fc01968", func := "pinfold/pinfoldlaw8.FqdnForms", spec := "fqdnForms", inPlace := ["internal/bytealg.IndexByteString", "internal/bytealg.IndexString", "internal/abi.NoEscape", "internal/bytealg.MakeNoZero"], named := ["internal/bytealg.MaxLen"], plainKeys := false, apart := false }
def FqdnFormsSaid : Prop := fqdnFormsRow.holds Try.pinned (OpenSpec.ofChange fqdnFormsSpec)

/-- ITS FALSE NEIGHBOUR: 'it returns false'. Refute it at one input. -/
def fqdnFormsWrong : ChangeSpec := { name := "fqdnForms", fn := fun _ => fun
  | [d1, d2] => { results := [.lit (.bool false)], args := [d1, d2] }
  | _ => none }
def FqdnFormsWrongFalsely : Prop := fqdnFormsRow.holds Try.pinned (OpenSpec.ofChange fqdnFormsWrong)

/-- 'pinfoldlaw8.FqdnUnlike': WHATEVER THE INPUT: true; the input reads as it did. -/
def fqdnUnlikeSpec : ChangeSpec := { name := "fqdnUnlike", fn := fun _ => fun
  | [d1, d2, d3, d4] => { results := [.lit (.bool true)], args := [d1, d2, d3, d4] }
  | _ => none }
def fqdnUnlikeRow : OpenClaim := { program := "ytkjcmdgideddnaa", sum := "259f1ea3b624b4e79977495449d87745a9a592e8d61756737f62e8361fc01968", func := "pinfold/pinfoldlaw8.FqdnUnlike", spec := "fqdnUnlike", inPlace := ["internal/bytealg.IndexByteString", "internal/bytealg.IndexString", "internal/abi.NoEscape", "internal/bytealg.MakeNoZero"], named := ["internal/bytealg.MaxLen"], plainKeys := false, apart := false }
def FqdnUnlikeSaid : Prop := fqdnUnlikeRow.holds Try.pinned (OpenSpec.ofChange fqdnUnlikeSpec)

/-- ITS FALSE NEIGHBOUR: 'it returns false'. Refute it at one input. -/
def fqdnUnlikeWrong : ChangeSpec := { name := "fqdnUnlike", fn := fun _ => fun
  | [d1, d2, d3, d4] => { results := [.lit (.bool false)], args := [d1, d2, d3, d4] }
  | _ => none }
def FqdnUnlikeWrongFalsely : Prop := fqdnUnlikeRow.holds Try.pinned (OpenSpec.ofChange fqdnUnlikeWrong)

/-- 'pinfoldlaw4.Rrs': WHATEVER THE INPUT: true; the input reads as it did. -/
def rrsSpec : ChangeSpec := { name := "rrs", fn := fun _ => fun
  | [d1, d2, d3, d4] => { results := [.lit (.bool true)], args := [d1, d2, d3, d4] }
  | _ => none }
def rrsRow : OpenClaim := { program := "ytkjcmdgideddnaa", sum := "259f1ea3b624b4e79977495449d87745a9a592e8d61756737f62e8361fc01968", func := "pinfold/pinfoldlaw4.Rrs", spec := "rrs", inPlace := ["internal/bytealg.IndexByteString", "internal/bytealg.IndexString", "internal/abi.NoEscape", "internal/bytealg.MakeNoZero"], named := ["internal/bytealg.MaxLen"], plainKeys := false, apart := false }
def RrsSaid : Prop := rrsRow.holds Try.pinned (OpenSpec.ofChange rrsSpec)

/-- ITS FALSE NEIGHBOUR: 'it returns false'. Refute it at one input. -/
def rrsWrong : ChangeSpec := { name := "rrs", fn := fun _ => fun
  | [d1, d2, d3, d4] => { results := [.lit (.bool false)], args := [d1, d2, d3, d4] }
  | _ => none }
def RrsWrongFalsely : Prop := rrsRow.holds Try.pinned (OpenSpec.ofChange rrsWrong)

/-- 'pinfoldlaw4.RrBack': WHATEVER THE INPUT: true; the input reads as it did. -/
def rrBackSpec : ChangeSpec := { name := "rrBack", fn := fun _ => fun
  | [d] => { results := [.lit (.bool true)], args := [d] }
  | _ => none }
def rrBackRow : OpenClaim := { program := "ytkjcmdgideddnaa", sum := "259f1ea3b624b4e79977495449d87745a9a592e8d61756737f62e8361fc01968", func := "pinfold/pinfoldlaw4.RrBack", spec := "rrBack", inPlace := ["internal/bytealg.IndexByteString", "internal/bytealg.IndexString", "internal/abi.NoEscape", "internal/bytealg.MakeNoZero"], named := ["internal/bytealg.MaxLen"], plainKeys := false, apart := false }
def RrBackSaid : Prop := rrBackRow.holds Try.pinned (OpenSpec.ofChange rrBackSpec)

/-- ITS FALSE NEIGHBOUR: 'it returns false'. Refute it at one input. -/
def rrBackWrong : ChangeSpec := { name := "rrBack", fn := fun _ => fun
  | [d] => { results := [.lit (.bool false)], args := [d] }
  | _ => none }
def RrBackWrongFalsely : Prop := rrBackRow.holds Try.pinned (OpenSpec.ofChange rrBackWrong)

/-- 'pinfoldlaw4.RrForms': WHATEVER THE INPUT: true; the input reads as it did. -/
def rrFormsSpec : ChangeSpec := { name := "rrForms", fn := fun _ => fun
  | [d1, d2] => { results := [.lit (.bool true)], args := [d1, d2] }
  | _ => none }
def rrFormsRow : OpenClaim := { program := "ytkjcmdgideddnaa", sum := "259f1ea3b624b4e79977495449d87745a9a592e8d61756737f62e8361fc01968", func := "pinfold/pinfoldlaw4.RrForms", spec := "rrForms", inPlace := ["internal/bytealg.IndexByteString", "internal/bytealg.IndexString", "internal/abi.NoEscape", "internal/bytealg.MakeNoZero"], named := ["internal/bytealg.MaxLen"], plainKeys := false, apart := false }
def RrFormsSaid : Prop := rrFormsRow.holds Try.pinned (OpenSpec.ofChange rrFormsSpec)

/-- ITS FALSE NEIGHBOUR: 'it returns false'. Refute it at one input. -/
def rrFormsWrong : ChangeSpec := { name := "rrForms", fn := fun _ => fun
  | [d1, d2] => { results := [.lit (.bool false)], args := [d1, d2] }
  | _ => none }
def RrFormsWrongFalsely : Prop := rrFormsRow.holds Try.pinned (OpenSpec.ofChange rrFormsWrong)

/-- 'pinfoldlaw4.RrCut': WHATEVER THE INPUT: true; the input reads as it did. -/
def rrCutSpec : ChangeSpec := { name := "rrCut", fn := fun _ => fun
  | [d1, d2, d3] => { results := [.lit (.bool true)], args := [d1, d2, d3] }
  | _ => none }
def rrCutRow : OpenClaim := { program := "ytkjcmdgideddnaa", sum := "259f1ea3b624b4e79977495449d87745a9a592e8d61756737f62e8361fc01968", func := "pinfold/pinfoldlaw4.RrCut", spec := "rrCut", inPlace := ["internal/bytealg.IndexByteString", "internal/bytealg.IndexString", "internal/abi.NoEscape", "internal/bytealg.MakeNoZero"], named := ["internal/bytealg.MaxLen"], plainKeys := false, apart := false }
def RrCutSaid : Prop := rrCutRow.holds Try.pinned (OpenSpec.ofChange rrCutSpec)

/-- ITS FALSE NEIGHBOUR: 'it returns false'. Refute it at one input. -/
def rrCutWrong : ChangeSpec := { name := "rrCut", fn := fun _ => fun
  | [d1, d2, d3] => { results := [.lit (.bool false)], args := [d1, d2, d3] }
  | _ => none }
def RrCutWrongFalsely : Prop := rrCutRow.holds Try.pinned (OpenSpec.ofChange rrCutWrong)

/-- 'pinfoldlaw4.RrUnlike': WHATEVER THE INPUT: true; the input reads as it did. -/
def rrUnlikeSpec : ChangeSpec := { name := "rrUnlike", fn := fun _ => fun
  | [d1, d2] => { results := [.lit (.bool true)], args := [d1, d2] }
  | _ => none }
def rrUnlikeRow : OpenClaim := { program := "ytkjcmdgideddnaa", sum := "259f1ea3b624b4e79977495449d87745a9a592e8d61756737f62e8361fc01968", func := "pinfold/pinfoldlaw4.RrUnlike", spec := "rrUnlike", inPlace := ["internal/bytealg.IndexByteString", "internal/bytealg.IndexString", "internal/abi.NoEscape", "internal/bytealg.MakeNoZero"], named := ["internal/bytealg.MaxLen"], plainKeys := false, apart := false }
def RrUnlikeSaid : Prop := rrUnlikeRow.holds Try.pinned (OpenSpec.ofChange rrUnlikeSpec)

/-- ITS FALSE NEIGHBOUR: 'it returns false'. Refute it at one input. -/
def rrUnlikeWrong : ChangeSpec := { name := "rrUnlike", fn := fun _ => fun
  | [d1, d2] => { results := [.lit (.bool false)], args := [d1, d2] }
  | _ => none }
def RrUnlikeWrongFalsely : Prop := rrUnlikeRow.holds Try.pinned (OpenSpec.ofChange rrUnlikeWrong)

/-- 'pinfoldlaw5.Dnses': WHATEVER THE INPUT: true; the input reads as it did. -/
def dnsesSpec : ChangeSpec := { name := "dnses", fn := fun _ => fun
  | [d1, d2, d3] => { results := [.lit (.bool true)], args := [d1, d2, d3] }
  | _ => none }
def dnsesRow : OpenClaim := { program := "ytkjcmdgideddnaa", sum := "259f1ea3b624b4e79977495449d87745a9a592e8d61756737f62e8361fc01968", func := "pinfold/pinfoldlaw5.Dnses", spec := "dnses", inPlace := ["internal/bytealg.IndexByteString", "internal/bytealg.IndexString", "internal/abi.NoEscape", "internal/bytealg.MakeNoZero"], unfollowed := true, recurses := true, named := ["internal/bytealg.MaxLen"], plainKeys := false, apart := false }
def DnsesSaid : Prop := dnsesRow.holds Try.pinned (OpenSpec.ofChange dnsesSpec)

/-- ITS FALSE NEIGHBOUR: 'it returns false'. Refute it at one input. -/
def dnsesWrong : ChangeSpec := { name := "dnses", fn := fun _ => fun
  | [d1, d2, d3] => { results := [.lit (.bool false)], args := [d1, d2, d3] }
  | _ => none }
def DnsesWrongFalsely : Prop := dnsesRow.holds Try.pinned (OpenSpec.ofChange dnsesWrong)

/-- 'pinfoldlaw5.DnsBack': WHATEVER THE INPUT: true; the input reads as it did. -/
def dnsBackSpec : ChangeSpec := { name := "dnsBack", fn := fun _ => fun
  | [d1, d2] => { results := [.lit (.bool true)], args := [d1, d2] }
  | _ => none }
def dnsBackRow : OpenClaim := { program := "ytkjcmdgideddnaa", sum := "259f1ea3b624b4e79977495449d87745a9a592e8d61756737f62e8361fc01968", func := "pinfold/pinfoldlaw5.DnsBack", spec := "dnsBack", inPlace := ["internal/bytealg.IndexByteString", "internal/bytealg.IndexString", "internal/abi.NoEscape", "internal/bytealg.MakeNoZero"], unfollowed := true, recurses := true, named := ["internal/bytealg.MaxLen"], plainKeys := false, apart := false }
def DnsBackSaid : Prop := dnsBackRow.holds Try.pinned (OpenSpec.ofChange dnsBackSpec)

/-- ITS FALSE NEIGHBOUR: 'it returns false'. Refute it at one input. -/
def dnsBackWrong : ChangeSpec := { name := "dnsBack", fn := fun _ => fun
  | [d1, d2] => { results := [.lit (.bool false)], args := [d1, d2] }
  | _ => none }
def DnsBackWrongFalsely : Prop := dnsBackRow.holds Try.pinned (OpenSpec.ofChange dnsBackWrong)

/-- 'pinfoldlaw5.DnsForms': WHATEVER THE INPUT: true; the input reads as it did. -/
def dnsFormsSpec : ChangeSpec := { name := "dnsForms", fn := fun _ => fun
  | [d1, d2] => { results := [.lit (.bool true)], args := [d1, d2] }
  | _ => none }
def dnsFormsRow : OpenClaim := { program := "ytkjcmdgideddnaa", sum := "259f1ea3b624b4e79977495449d87745a9a592e8d61756737f62e8361fc01968", func := "pinfold/pinfoldlaw5.DnsForms", spec := "dnsForms", inPlace := ["internal/bytealg.IndexByteString", "internal/bytealg.IndexString", "internal/abi.NoEscape", "internal/bytealg.MakeNoZero"], unfollowed := true, recurses := true, named := ["internal/bytealg.MaxLen"], plainKeys := false, apart := false }
def DnsFormsSaid : Prop := dnsFormsRow.holds Try.pinned (OpenSpec.ofChange dnsFormsSpec)

/-- ITS FALSE NEIGHBOUR: 'it returns false'. Refute it at one input. -/
def dnsFormsWrong : ChangeSpec := { name := "dnsForms", fn := fun _ => fun
  | [d1, d2] => { results := [.lit (.bool false)], args := [d1, d2] }
  | _ => none }
def DnsFormsWrongFalsely : Prop := dnsFormsRow.holds Try.pinned (OpenSpec.ofChange dnsFormsWrong)

/-- 'pinfoldlaw5.DnsHeads': WHATEVER THE INPUT: true; the input reads as it did. -/
def dnsHeadsSpec : ChangeSpec := { name := "dnsHeads", fn := fun _ => fun
  | [d] => { results := [.lit (.bool true)], args := [d] }
  | _ => none }
def dnsHeadsRow : OpenClaim := { program := "ytkjcmdgideddnaa", sum := "259f1ea3b624b4e79977495449d87745a9a592e8d61756737f62e8361fc01968", func := "pinfold/pinfoldlaw5.DnsHeads", spec := "dnsHeads", inPlace := ["internal/bytealg.IndexByteString", "internal/bytealg.IndexString", "internal/abi.NoEscape", "internal/bytealg.MakeNoZero"], unfollowed := true, recurses := true, named := ["internal/bytealg.MaxLen"], plainKeys := false, apart := false }
def DnsHeadsSaid : Prop := dnsHeadsRow.holds Try.pinned (OpenSpec.ofChange dnsHeadsSpec)

/-- ITS FALSE NEIGHBOUR: 'it returns false'. Refute it at one input. -/
def dnsHeadsWrong : ChangeSpec := { name := "dnsHeads", fn := fun _ => fun
  | [d] => { results := [.lit (.bool false)], args := [d] }
  | _ => none }
def DnsHeadsWrongFalsely : Prop := dnsHeadsRow.holds Try.pinned (OpenSpec.ofChange dnsHeadsWrong)

/-- 'pinfoldlaw5.DnsCut': WHATEVER THE INPUT: true; the input reads as it did. -/
def dnsCutSpec : ChangeSpec := { name := "dnsCut", fn := fun _ => fun
  | [d1, d2, d3] => { results := [.lit (.bool true)], args := [d1, d2, d3] }
  | _ => none }
def dnsCutRow : OpenClaim := { program := "ytkjcmdgideddnaa", sum := "259f1ea3b624b4e79977495449d87745a9a592e8d61756737f62e8361fc01968", func := "pinfold/pinfoldlaw5.DnsCut", spec := "dnsCut", inPlace := ["internal/bytealg.IndexByteString", "internal/bytealg.IndexString", "internal/abi.NoEscape", "internal/bytealg.MakeNoZero"], unfollowed := true, recurses := true, named := ["internal/bytealg.MaxLen"], plainKeys := false, apart := false }
def DnsCutSaid : Prop := dnsCutRow.holds Try.pinned (OpenSpec.ofChange dnsCutSpec)

/-- ITS FALSE NEIGHBOUR: 'it returns false'. Refute it at one input. -/
def dnsCutWrong : ChangeSpec := { name := "dnsCut", fn := fun _ => fun
  | [d1, d2, d3] => { results := [.lit (.bool false)], args := [d1, d2, d3] }
  | _ => none }
def DnsCutWrongFalsely : Prop := dnsCutRow.holds Try.pinned (OpenSpec.ofChange dnsCutWrong)

/-- 'pinfoldlaw5.DnsRoom': WHATEVER THE INPUT: true; the input reads as it did. -/
def dnsRoomSpec : ChangeSpec := { name := "dnsRoom", fn := fun _ => fun
  | [d1, d2, d3] => { results := [.lit (.bool true)], args := [d1, d2, d3] }
  | _ => none }
def dnsRoomRow : OpenClaim := { program := "ytkjcmdgideddnaa", sum := "259f1ea3b624b4e79977495449d87745a9a592e8d61756737f62e8361fc01968", func := "pinfold/pinfoldlaw5.DnsRoom", spec := "dnsRoom", inPlace := ["internal/bytealg.IndexByteString", "internal/bytealg.IndexString", "internal/abi.NoEscape", "internal/bytealg.MakeNoZero"], unfollowed := true, recurses := true, named := ["internal/bytealg.MaxLen"], plainKeys := false, apart := false }
def DnsRoomSaid : Prop := dnsRoomRow.holds Try.pinned (OpenSpec.ofChange dnsRoomSpec)

/-- ITS FALSE NEIGHBOUR: 'it returns false'. Refute it at one input. -/
def dnsRoomWrong : ChangeSpec := { name := "dnsRoom", fn := fun _ => fun
  | [d1, d2, d3] => { results := [.lit (.bool false)], args := [d1, d2, d3] }
  | _ => none }
def DnsRoomWrongFalsely : Prop := dnsRoomRow.holds Try.pinned (OpenSpec.ofChange dnsRoomWrong)

/- THE SECOND FORM. 'bulk': how many values and letters a reading holds, each counted each time it is reached (what is shared counts as often as it is met; a slice's spare places count too). A statement '..UptoSaid' is the law's where the arguments, and the package variables that the reading takes, are together of bulk at most 1048576: NARROWER than '..Said'. Prove '..Said' where nothing that the law and all that it calls make is longer than what came in: it says more and counts as full. Else prove '..UptoSaid'. A law counts once. -/
mutual
def uptoBulk {H : Type} : DataW H → Nat
  | .lit (.string bytes) => bytes.length + 1
  | .lit _ => 1
  | .nil => 1
  | .ptr d => uptoBulk d + 1
  | .slice elems spare => uptoBulkAll elems + uptoBulkAll spare + 1
  | .agg parts => uptoBulkAll parts + 1
  | .iface _ d => uptoBulk d + 1
  | .map entries => uptoBulkEntries entries + 1
  | .held _ => 1
def uptoBulkAll {H : Type} : List (DataW H) → Nat
  | [] => 0
  | d :: r => uptoBulk d + uptoBulkAll r
def uptoBulkEntries {H : Type} : List (Lit × DataW H) → Nat
  | [] => 0
  | x :: r => uptoBulkEntry x + uptoBulkEntries r
def uptoBulkEntry {H : Type} : Lit × DataW H → Nat
  | (.string bytes, d) => bytes.length + uptoBulk d + 1
  | (_, d) => uptoBulk d + 1
 end
def uptoSmall : (H : Type) → List (DataW H) → Bool := fun _ ds => decide (uptoBulkAll ds ≤ 1048576)
def OpenSpec.upto (s : _root_.Go.ChangeSpec) : _root_.Go.OpenSpec := { _root_.Go.OpenSpec.ofChange s with cond := some uptoSmall }

/-- 'pinfoldlaw6.Opts', WHERE WHAT IT READS IS OF BULK AT MOST 1048576: true; the input reads as it did. -/
def optsUptoRow : OpenClaim := { program := "ytkjcmdgideddnaa", sum := "259f1ea3b624b4e79977495449d87745a9a592e8d61756737f62e8361fc01968", func := "pinfold/pinfoldlaw6.Opts", spec := "opts", inPlace := ["internal/abi.NoEscape"], plainKeys := false, apart := false, narrowed := true }
def OptsUptoSaid : Prop := optsUptoRow.holds Try.pinned (OpenSpec.upto optsSpec)

/-- 'pinfoldlaw6.OptsBack', WHERE WHAT IT READS IS OF BULK AT MOST 1048576: true; the input reads as it did. -/
def optsBackUptoRow : OpenClaim := { program := "ytkjcmdgideddnaa", sum := "259f1ea3b624b4e79977495449d87745a9a592e8d61756737f62e8361fc01968", func := "pinfold/pinfoldlaw6.OptsBack", spec := "optsBack", inPlace := ["internal/abi.NoEscape"], plainKeys := false, apart := false, narrowed := true }
def OptsBackUptoSaid : Prop := optsBackUptoRow.holds Try.pinned (OpenSpec.upto optsBackSpec)

/-- 'pinfoldlaw6.OptsForms', WHERE WHAT IT READS IS OF BULK AT MOST 1048576: true; the input reads as it did. -/
def optsFormsUptoRow : OpenClaim := { program := "ytkjcmdgideddnaa", sum := "259f1ea3b624b4e79977495449d87745a9a592e8d61756737f62e8361fc01968", func := "pinfold/pinfoldlaw6.OptsForms", spec := "optsForms", inPlace := ["internal/abi.NoEscape"], plainKeys := false, apart := false, narrowed := true }
def OptsFormsUptoSaid : Prop := optsFormsUptoRow.holds Try.pinned (OpenSpec.upto optsFormsSpec)

/-- 'pinfoldlaw6.OptsLong', WHERE WHAT IT READS IS OF BULK AT MOST 1048576: true; the input reads as it did. -/
def optsLongUptoRow : OpenClaim := { program := "ytkjcmdgideddnaa", sum := "259f1ea3b624b4e79977495449d87745a9a592e8d61756737f62e8361fc01968", func := "pinfold/pinfoldlaw6.OptsLong", spec := "optsLong", inPlace := ["internal/abi.NoEscape"], plainKeys := false, apart := false, narrowed := true }
def OptsLongUptoSaid : Prop := optsLongUptoRow.holds Try.pinned (OpenSpec.upto optsLongSpec)

/-- 'pinfoldlaw6.OptsSplit', WHERE WHAT IT READS IS OF BULK AT MOST 1048576: true; the input reads as it did. -/
def optsSplitUptoRow : OpenClaim := { program := "ytkjcmdgideddnaa", sum := "259f1ea3b624b4e79977495449d87745a9a592e8d61756737f62e8361fc01968", func := "pinfold/pinfoldlaw6.OptsSplit", spec := "optsSplit", inPlace := ["internal/abi.NoEscape"], plainKeys := false, apart := false, narrowed := true }
def OptsSplitUptoSaid : Prop := optsSplitUptoRow.holds Try.pinned (OpenSpec.upto optsSplitSpec)

/-- 'pinfoldlaw3.Wires', WHERE WHAT IT READS IS OF BULK AT MOST 1048576: true; the input reads as it did. -/
def wiresUptoRow : OpenClaim := { program := "ytkjcmdgideddnaa", sum := "259f1ea3b624b4e79977495449d87745a9a592e8d61756737f62e8361fc01968", func := "pinfold/pinfoldlaw3.Wires", spec := "wires", inPlace := ["internal/bytealg.IndexByteString", "internal/bytealg.IndexString", "internal/abi.NoEscape", "internal/bytealg.MakeNoZero"], named := ["internal/bytealg.MaxLen"], plainKeys := false, apart := false, narrowed := true }
def WiresUptoSaid : Prop := wiresUptoRow.holds Try.pinned (OpenSpec.upto wiresSpec)

/-- 'pinfoldlaw3.WireBack', WHERE WHAT IT READS IS OF BULK AT MOST 1048576: true; the input reads as it did. -/
def wireBackUptoRow : OpenClaim := { program := "ytkjcmdgideddnaa", sum := "259f1ea3b624b4e79977495449d87745a9a592e8d61756737f62e8361fc01968", func := "pinfold/pinfoldlaw3.WireBack", spec := "wireBack", inPlace := ["internal/bytealg.IndexByteString", "internal/bytealg.IndexString", "internal/abi.NoEscape", "internal/bytealg.MakeNoZero"], named := ["internal/bytealg.MaxLen"], plainKeys := false, apart := false, narrowed := true }
def WireBackUptoSaid : Prop := wireBackUptoRow.holds Try.pinned (OpenSpec.upto wireBackSpec)

/-- 'pinfoldlaw3.WireForms', WHERE WHAT IT READS IS OF BULK AT MOST 1048576: true; the input reads as it did. -/
def wireFormsUptoRow : OpenClaim := { program := "ytkjcmdgideddnaa", sum := "259f1ea3b624b4e79977495449d87745a9a592e8d61756737f62e8361fc01968", func := "pinfold/pinfoldlaw3.WireForms", spec := "wireForms", inPlace := ["internal/bytealg.IndexByteString", "internal/bytealg.IndexString", "internal/abi.NoEscape", "internal/bytealg.MakeNoZero"], named := ["internal/bytealg.MaxLen"], plainKeys := false, apart := false, narrowed := true }
def WireFormsUptoSaid : Prop := wireFormsUptoRow.holds Try.pinned (OpenSpec.upto wireFormsSpec)

/-- 'pinfoldlaw3.WirePlain', WHERE WHAT IT READS IS OF BULK AT MOST 1048576: true; the input reads as it did. -/
def wirePlainUptoRow : OpenClaim := { program := "ytkjcmdgideddnaa", sum := "259f1ea3b624b4e79977495449d87745a9a592e8d61756737f62e8361fc01968", func := "pinfold/pinfoldlaw3.WirePlain", spec := "wirePlain", inPlace := ["internal/bytealg.IndexByteString", "internal/bytealg.IndexString", "internal/abi.NoEscape", "internal/bytealg.MakeNoZero"], named := ["internal/bytealg.MaxLen"], plainKeys := false, apart := false, narrowed := true }
def WirePlainUptoSaid : Prop := wirePlainUptoRow.holds Try.pinned (OpenSpec.upto wirePlainSpec)

/-- 'pinfoldlaw3.WirePoints', WHERE WHAT IT READS IS OF BULK AT MOST 1048576: true; the input reads as it did. -/
def wirePointsUptoRow : OpenClaim := { program := "ytkjcmdgideddnaa", sum := "259f1ea3b624b4e79977495449d87745a9a592e8d61756737f62e8361fc01968", func := "pinfold/pinfoldlaw3.WirePoints", spec := "wirePoints", inPlace := ["internal/bytealg.IndexByteString", "internal/bytealg.IndexString", "internal/abi.NoEscape", "internal/bytealg.MakeNoZero"], named := ["internal/bytealg.MaxLen"], plainKeys := false, apart := false, narrowed := true }
def WirePointsUptoSaid : Prop := wirePointsUptoRow.holds Try.pinned (OpenSpec.upto wirePointsSpec)

/-- 'pinfoldlaw3.WireFolds', WHERE WHAT IT READS IS OF BULK AT MOST 1048576: true; the input reads as it did. -/
def wireFoldsUptoRow : OpenClaim := { program := "ytkjcmdgideddnaa", sum := "259f1ea3b624b4e79977495449d87745a9a592e8d61756737f62e8361fc01968", func := "pinfold/pinfoldlaw3.WireFolds", spec := "wireFolds", inPlace := ["internal/bytealg.IndexByteString", "internal/bytealg.IndexString", "internal/abi.NoEscape", "internal/bytealg.MakeNoZero"], named := ["internal/bytealg.MaxLen"], plainKeys := false, apart := false, narrowed := true }
def WireFoldsUptoSaid : Prop := wireFoldsUptoRow.holds Try.pinned (OpenSpec.upto wireFoldsSpec)

/-- 'pinfoldlaw3.WireShort', WHERE WHAT IT READS IS OF BULK AT MOST 1048576: true; the input reads as it did. -/
def wireShortUptoRow : OpenClaim := { program := "ytkjcmdgideddnaa", sum := "259f1ea3b624b4e79977495449d87745a9a592e8d61756737f62e8361fc01968", func := "pinfold/pinfoldlaw3.WireShort", spec := "wireShort", inPlace := ["internal/bytealg.IndexByteString", "internal/bytealg.IndexString", "internal/abi.NoEscape", "internal/bytealg.MakeNoZero"], named := ["internal/bytealg.MaxLen"], plainKeys := false, apart := false, narrowed := true }
def WireShortUptoSaid : Prop := wireShortUptoRow.holds Try.pinned (OpenSpec.upto wireShortSpec)

/-- 'pinfoldlaw7.Packets', WHERE WHAT IT READS IS OF BULK AT MOST 1048576: true; the input reads as it did. -/
def packetsUptoRow : OpenClaim := { program := "ytkjcmdgideddnaa", sum := "259f1ea3b624b4e79977495449d87745a9a592e8d61756737f62e8361fc01968", func := "pinfold/pinfoldlaw7.Packets", spec := "packets", inPlace := ["internal/abi.NoEscape", "internal/bytealg.MakeNoZero"], unfollowed := true, recurses := true, plainKeys := false, apart := false, narrowed := true }
def PacketsUptoSaid : Prop := packetsUptoRow.holds Try.pinned (OpenSpec.upto packetsSpec)

/-- 'pinfoldlaw7.PacketBack', WHERE WHAT IT READS IS OF BULK AT MOST 1048576: true; the input reads as it did. -/
def packetBackUptoRow : OpenClaim := { program := "ytkjcmdgideddnaa", sum := "259f1ea3b624b4e79977495449d87745a9a592e8d61756737f62e8361fc01968", func := "pinfold/pinfoldlaw7.PacketBack", spec := "packetBack", inPlace := ["internal/abi.NoEscape", "internal/bytealg.MakeNoZero"], unfollowed := true, recurses := true, plainKeys := false, apart := false, narrowed := true }
def PacketBackUptoSaid : Prop := packetBackUptoRow.holds Try.pinned (OpenSpec.upto packetBackSpec)

/-- 'pinfoldlaw7.PacketForms', WHERE WHAT IT READS IS OF BULK AT MOST 1048576: true; the input reads as it did. -/
def packetFormsUptoRow : OpenClaim := { program := "ytkjcmdgideddnaa", sum := "259f1ea3b624b4e79977495449d87745a9a592e8d61756737f62e8361fc01968", func := "pinfold/pinfoldlaw7.PacketForms", spec := "packetForms", inPlace := ["internal/abi.NoEscape", "internal/bytealg.MakeNoZero"], unfollowed := true, recurses := true, plainKeys := false, apart := false, narrowed := true }
def PacketFormsUptoSaid : Prop := packetFormsUptoRow.holds Try.pinned (OpenSpec.upto packetFormsSpec)

/-- 'pinfoldlaw7.PacketParts', WHERE WHAT IT READS IS OF BULK AT MOST 1048576: true; the input reads as it did. -/
def packetPartsUptoRow : OpenClaim := { program := "ytkjcmdgideddnaa", sum := "259f1ea3b624b4e79977495449d87745a9a592e8d61756737f62e8361fc01968", func := "pinfold/pinfoldlaw7.PacketParts", spec := "packetParts", inPlace := ["internal/abi.NoEscape", "internal/bytealg.MakeNoZero"], unfollowed := true, recurses := true, plainKeys := false, apart := false, narrowed := true }
def PacketPartsUptoSaid : Prop := packetPartsUptoRow.holds Try.pinned (OpenSpec.upto packetPartsSpec)

/-- 'pinfoldlaw7.PacketHeads', WHERE WHAT IT READS IS OF BULK AT MOST 1048576: true; the input reads as it did. -/
def packetHeadsUptoRow : OpenClaim := { program := "ytkjcmdgideddnaa", sum := "259f1ea3b624b4e79977495449d87745a9a592e8d61756737f62e8361fc01968", func := "pinfold/pinfoldlaw7.PacketHeads", spec := "packetHeads", inPlace := ["internal/abi.NoEscape", "internal/bytealg.MakeNoZero"], unfollowed := true, recurses := true, plainKeys := false, apart := false, narrowed := true }
def PacketHeadsUptoSaid : Prop := packetHeadsUptoRow.holds Try.pinned (OpenSpec.upto packetHeadsSpec)

/-- 'pinfoldlaw8.Fqdns', WHERE WHAT IT READS IS OF BULK AT MOST 1048576: true; the input reads as it did. -/
def fqdnsUptoRow : OpenClaim := { program := "ytkjcmdgideddnaa", sum := "259f1ea3b624b4e79977495449d87745a9a592e8d61756737f62e8361fc01968", func := "pinfold/pinfoldlaw8.Fqdns", spec := "fqdns", inPlace := ["internal/bytealg.IndexByteString", "internal/bytealg.IndexString", "internal/abi.NoEscape", "internal/bytealg.MakeNoZero"], named := ["internal/bytealg.MaxLen"], plainKeys := false, apart := false, narrowed := true }
def FqdnsUptoSaid : Prop := fqdnsUptoRow.holds Try.pinned (OpenSpec.upto fqdnsSpec)

/-- 'pinfoldlaw8.FqdnBack', WHERE WHAT IT READS IS OF BULK AT MOST 1048576: true; the input reads as it did. -/
def fqdnBackUptoRow : OpenClaim := { program := "ytkjcmdgideddnaa", sum := "259f1ea3b624b4e79977495449d87745a9a592e8d61756737f62e8361fc01968", func := "pinfold/pinfoldlaw8.FqdnBack", spec := "fqdnBack", inPlace := ["internal/bytealg.IndexByteString", "internal/bytealg.IndexString", "internal/abi.NoEscape", "internal/bytealg.MakeNoZero"], named := ["internal/bytealg.MaxLen"], plainKeys := false, apart := false, narrowed := true }
def FqdnBackUptoSaid : Prop := fqdnBackUptoRow.holds Try.pinned (OpenSpec.upto fqdnBackSpec)

/-- 'pinfoldlaw8.FqdnForms', WHERE WHAT IT READS IS OF BULK AT MOST 1048576: true; the input reads as it did. -/
def fqdnFormsUptoRow : OpenClaim := { program := "ytkjcmdgideddnaa", sum := "259f1ea3b624b4e79977495449d87745a9a592e8d61756737f62e8361fc01968", func := "pinfold/pinfoldlaw8.FqdnForms", spec := "fqdnForms", inPlace := ["internal/bytealg.IndexByteString", "internal/bytealg.IndexString", "internal/abi.NoEscape", "internal/bytealg.MakeNoZero"], named := ["internal/bytealg.MaxLen"], plainKeys := false, apart := false, narrowed := true }
def FqdnFormsUptoSaid : Prop := fqdnFormsUptoRow.holds Try.pinned (OpenSpec.upto fqdnFormsSpec)

/-- 'pinfoldlaw8.FqdnUnlike', WHERE WHAT IT READS IS OF BULK AT MOST 1048576: true; the input reads as it did. -/
def fqdnUnlikeUptoRow : OpenClaim := { program := "ytkjcmdgideddnaa", sum := "259f1ea3b624b4e79977495449d87745a9a592e8d61756737f62e8361fc01968", func := "pinfold/pinfoldlaw8.FqdnUnlike", spec := "fqdnUnlike", inPlace := ["internal/bytealg.IndexByteString", "internal/bytealg.IndexString", "internal/abi.NoEscape", "internal/bytealg.MakeNoZero"], named := ["internal/bytealg.MaxLen"], plainKeys := false, apart := false, narrowed := true }
def FqdnUnlikeUptoSaid : Prop := fqdnUnlikeUptoRow.holds Try.pinned (OpenSpec.upto fqdnUnlikeSpec)

/-- 'pinfoldlaw4.Rrs', WHERE WHAT IT READS IS OF BULK AT MOST 1048576: true; the input reads as it did. -/
def rrsUptoRow : OpenClaim := { program := "ytkjcmdgideddnaa", sum := "259f1ea3b624b4e79977495449d87745a9a592e8d61756737f62e8361fc01968", func := "pinfold/pinfoldlaw4.Rrs", spec := "rrs", inPlace := ["internal/bytealg.IndexByteString", "internal/bytealg.IndexString", "internal/abi.NoEscape", "internal/bytealg.MakeNoZero"], named := ["internal/bytealg.MaxLen"], plainKeys := false, apart := false, narrowed := true }
def RrsUptoSaid : Prop := rrsUptoRow.holds Try.pinned (OpenSpec.upto rrsSpec)

/-- 'pinfoldlaw4.RrBack', WHERE WHAT IT READS IS OF BULK AT MOST 1048576: true; the input reads as it did. -/
def rrBackUptoRow : OpenClaim := { program := "ytkjcmdgideddnaa", sum := "259f1ea3b624b4e79977495449d87745a9a592e8d61756737f62e8361fc01968", func := "pinfold/pinfoldlaw4.RrBack", spec := "rrBack", inPlace := ["internal/bytealg.IndexByteString", "internal/bytealg.IndexString", "internal/abi.NoEscape", "internal/bytealg.MakeNoZero"], named := ["internal/bytealg.MaxLen"], plainKeys := false, apart := false, narrowed := true }
def RrBackUptoSaid : Prop := rrBackUptoRow.holds Try.pinned (OpenSpec.upto rrBackSpec)

/-- 'pinfoldlaw4.RrForms', WHERE WHAT IT READS IS OF BULK AT MOST 1048576: true; the input reads as it did. -/
def rrFormsUptoRow : OpenClaim := { program := "ytkjcmdgideddnaa", sum := "259f1ea3b624b4e79977495449d87745a9a592e8d61756737f62e8361fc01968", func := "pinfold/pinfoldlaw4.RrForms", spec := "rrForms", inPlace := ["internal/bytealg.IndexByteString", "internal/bytealg.IndexString", "internal/abi.NoEscape", "internal/bytealg.MakeNoZero"], named := ["internal/bytealg.MaxLen"], plainKeys := false, apart := false, narrowed := true }
def RrFormsUptoSaid : Prop := rrFormsUptoRow.holds Try.pinned (OpenSpec.upto rrFormsSpec)

/-- 'pinfoldlaw4.RrCut', WHERE WHAT IT READS IS OF BULK AT MOST 1048576: true; the input reads as it did. -/
def rrCutUptoRow : OpenClaim := { program := "ytkjcmdgideddnaa", sum := "259f1ea3b624b4e79977495449d87745a9a592e8d61756737f62e8361fc01968", func := "pinfold/pinfoldlaw4.RrCut", spec := "rrCut", inPlace := ["internal/bytealg.IndexByteString", "internal/bytealg.IndexString", "internal/abi.NoEscape", "internal/bytealg.MakeNoZero"], named := ["internal/bytealg.MaxLen"], plainKeys := false, apart := false, narrowed := true }
def RrCutUptoSaid : Prop := rrCutUptoRow.holds Try.pinned (OpenSpec.upto rrCutSpec)

/-- 'pinfoldlaw4.RrUnlike', WHERE WHAT IT READS IS OF BULK AT MOST 1048576: true; the input reads as it did. -/
def rrUnlikeUptoRow : OpenClaim := { program := "ytkjcmdgideddnaa", sum := "259f1ea3b624b4e79977495449d87745a9a592e8d61756737f62e8361fc01968", func := "pinfold/pinfoldlaw4.RrUnlike", spec := "rrUnlike", inPlace := ["internal/bytealg.IndexByteString", "internal/bytealg.IndexString", "internal/abi.NoEscape", "internal/bytealg.MakeNoZero"], named := ["internal/bytealg.MaxLen"], plainKeys := false, apart := false, narrowed := true }
def RrUnlikeUptoSaid : Prop := rrUnlikeUptoRow.holds Try.pinned (OpenSpec.upto rrUnlikeSpec)

/-- 'pinfoldlaw5.Dnses', WHERE WHAT IT READS IS OF BULK AT MOST 1048576: true; the input reads as it did. -/
def dnsesUptoRow : OpenClaim := { program := "ytkjcmdgideddnaa", sum := "259f1ea3b624b4e79977495449d87745a9a592e8d61756737f62e8361fc01968", func := "pinfold/pinfoldlaw5.Dnses", spec := "dnses", inPlace := ["internal/bytealg.IndexByteString", "internal/bytealg.IndexString", "internal/abi.NoEscape", "internal/bytealg.MakeNoZero"], unfollowed := true, recurses := true, named := ["internal/bytealg.MaxLen"], plainKeys := false, apart := false, narrowed := true }
def DnsesUptoSaid : Prop := dnsesUptoRow.holds Try.pinned (OpenSpec.upto dnsesSpec)

/-- 'pinfoldlaw5.DnsBack', WHERE WHAT IT READS IS OF BULK AT MOST 1048576: true; the input reads as it did. -/
def dnsBackUptoRow : OpenClaim := { program := "ytkjcmdgideddnaa", sum := "259f1ea3b624b4e79977495449d87745a9a592e8d61756737f62e8361fc01968", func := "pinfold/pinfoldlaw5.DnsBack", spec := "dnsBack", inPlace := ["internal/bytealg.IndexByteString", "internal/bytealg.IndexString", "internal/abi.NoEscape", "internal/bytealg.MakeNoZero"], unfollowed := true, recurses := true, named := ["internal/bytealg.MaxLen"], plainKeys := false, apart := false, narrowed := true }
def DnsBackUptoSaid : Prop := dnsBackUptoRow.holds Try.pinned (OpenSpec.upto dnsBackSpec)

/-- 'pinfoldlaw5.DnsForms', WHERE WHAT IT READS IS OF BULK AT MOST 1048576: true; the input reads as it did. -/
def dnsFormsUptoRow : OpenClaim := { program := "ytkjcmdgideddnaa", sum := "259f1ea3b624b4e79977495449d87745a9a592e8d61756737f62e8361fc01968", func := "pinfold/pinfoldlaw5.DnsForms", spec := "dnsForms", inPlace := ["internal/bytealg.IndexByteString", "internal/bytealg.IndexString", "internal/abi.NoEscape", "internal/bytealg.MakeNoZero"], unfollowed := true, recurses := true, named := ["internal/bytealg.MaxLen"], plainKeys := false, apart := false, narrowed := true }
def DnsFormsUptoSaid : Prop := dnsFormsUptoRow.holds Try.pinned (OpenSpec.upto dnsFormsSpec)

/-- 'pinfoldlaw5.DnsHeads', WHERE WHAT IT READS IS OF BULK AT MOST 1048576: true; the input reads as it did. -/
def dnsHeadsUptoRow : OpenClaim := { program := "ytkjcmdgideddnaa", sum := "259f1ea3b624b4e79977495449d87745a9a592e8d61756737f62e8361fc01968", func := "pinfold/pinfoldlaw5.DnsHeads", spec := "dnsHeads", inPlace := ["internal/bytealg.IndexByteString", "internal/bytealg.IndexString", "internal/abi.NoEscape", "internal/bytealg.MakeNoZero"], unfollowed := true, recurses := true, named := ["internal/bytealg.MaxLen"], plainKeys := false, apart := false, narrowed := true }
def DnsHeadsUptoSaid : Prop := dnsHeadsUptoRow.holds Try.pinned (OpenSpec.upto dnsHeadsSpec)

/-- 'pinfoldlaw5.DnsCut', WHERE WHAT IT READS IS OF BULK AT MOST 1048576: true; the input reads as it did. -/
def dnsCutUptoRow : OpenClaim := { program := "ytkjcmdgideddnaa", sum := "259f1ea3b624b4e79977495449d87745a9a592e8d61756737f62e8361fc01968", func := "pinfold/pinfoldlaw5.DnsCut", spec := "dnsCut", inPlace := ["internal/bytealg.IndexByteString", "internal/bytealg.IndexString", "internal/abi.NoEscape", "internal/bytealg.MakeNoZero"], unfollowed := true, recurses := true, named := ["internal/bytealg.MaxLen"], plainKeys := false, apart := false, narrowed := true }
def DnsCutUptoSaid : Prop := dnsCutUptoRow.holds Try.pinned (OpenSpec.upto dnsCutSpec)

/-- 'pinfoldlaw5.DnsRoom', WHERE WHAT IT READS IS OF BULK AT MOST 1048576: true; the input reads as it did. -/
def dnsRoomUptoRow : OpenClaim := { program := "ytkjcmdgideddnaa", sum := "259f1ea3b624b4e79977495449d87745a9a592e8d61756737f62e8361fc01968", func := "pinfold/pinfoldlaw5.DnsRoom", spec := "dnsRoom", inPlace := ["internal/bytealg.IndexByteString", "internal/bytealg.IndexString", "internal/abi.NoEscape", "internal/bytealg.MakeNoZero"], unfollowed := true, recurses := true, named := ["internal/bytealg.MaxLen"], plainKeys := false, apart := false, narrowed := true }
def DnsRoomUptoSaid : Prop := dnsRoomUptoRow.holds Try.pinned (OpenSpec.upto dnsRoomSpec)

end Rows
end Go.Proofs.Ytkjcmdgideddnaa
