/-
  No cell of these rows narrows 'for every input' (looked for: loops, veiled, ifaces, maps, wideKeys, modest, calm, conditions, laid).
  DERIVED. THE GIVEN ROWS OF THIS SEAT. 10 by the template 'for every input the law returns true; each argument reads behind the call as it read before'; 0 by the template 'total and deterministic' (their statements: YtmhjcmpokjhhcaaTotals.lean).
  GIVEN WITH THE SEED: the statements are not yours to turn. If you find one false, say at which input.
  Laid BY PROGRAM, IN A SANDBOX (cutbox-rows.mjs): the forced cells as the released guide's own fill.sh prints them over the translation 246b6cbdf468860e… (all of the seat's roots in one cut). By AI agents, Wed Nov 11 2026. No macro, syntax, notation, axiom, sorry.
-/
import Derived.Test.YtmhjcmpokjhhcaaChecked
import GoSem.Claim
import GoSem.ClaimJoined
import GoSem.ClaimMapViews
import Derived.JoinedTies
import Derived.KernelRfl
namespace Go.Proofs.Ytmhjcmpokjhhcaa
/- THE CELL 'sum', in the pinned program and in every row, IS THE sha256 OF THE DUMP (.gsa) THAT YtmhjcmpokjhhcaaProg.lean LOADS. Nothing in Lean hashes anything: it is a label: what it is worth is what the hold of that sum in a sandbox is worth. -/
noncomputable def Try.pinned : Pinned := { name := "ytmhjcmpokjhhcaa", sum := "246b6cbdf468860eaa5b017ebde9db86a40d9a7ec069d6707c25410b43496ce4", checked := Try.checked }
namespace Rows
def none {H : Type} : Left H := { results := [], args := [] }

/-- 'pinfoldlaw22.Disks': WHATEVER THE INPUT: true; the input reads as it did. -/
def disksSpec : ChangeSpec := { name := "disks", fn := fun _ => fun
  | [d1, d2, d3] => { results := [.lit (.bool true)], args := [d1, d2, d3] }
  | _ => none }
def disksRow : OpenClaim := { program := "ytmhjcmpokjhhcaa", sum := "246b6cbdf468860eaa5b017ebde9db86a40d9a7ec069d6707c25410b43496ce4", func := "pinfold/pinfoldlaw22.Disks", spec := "disks", unfollowed := true, recurses := true, apart := false }
def DisksSaid : Prop := disksRow.holds Try.pinned (OpenSpec.ofChange disksSpec)

/-- ITS FALSE NEIGHBOUR: 'it returns false'. Refute it at one input. -/
def disksWrong : ChangeSpec := { name := "disks", fn := fun _ => fun
  | [d1, d2, d3] => { results := [.lit (.bool false)], args := [d1, d2, d3] }
  | _ => none }
def DisksWrongFalsely : Prop := disksRow.holds Try.pinned (OpenSpec.ofChange disksWrong)

/-- 'pinfoldlaw22.DiskLasts': WHATEVER THE INPUT: true; the input reads as it did. -/
def diskLastsSpec : ChangeSpec := { name := "diskLasts", fn := fun _ => fun
  | [d1, d2, d3] => { results := [.lit (.bool true)], args := [d1, d2, d3] }
  | _ => none }
def diskLastsRow : OpenClaim := { program := "ytmhjcmpokjhhcaa", sum := "246b6cbdf468860eaa5b017ebde9db86a40d9a7ec069d6707c25410b43496ce4", func := "pinfold/pinfoldlaw22.DiskLasts", spec := "diskLasts", unfollowed := true, recurses := true, apart := false }
def DiskLastsSaid : Prop := diskLastsRow.holds Try.pinned (OpenSpec.ofChange diskLastsSpec)

/-- ITS FALSE NEIGHBOUR: 'it returns false'. Refute it at one input. -/
def diskLastsWrong : ChangeSpec := { name := "diskLasts", fn := fun _ => fun
  | [d1, d2, d3] => { results := [.lit (.bool false)], args := [d1, d2, d3] }
  | _ => none }
def DiskLastsWrongFalsely : Prop := diskLastsRow.holds Try.pinned (OpenSpec.ofChange diskLastsWrong)

/-- 'pinfoldlaw22.DiskForms': WHATEVER THE INPUT: true; the input reads as it did. -/
def diskFormsSpec : ChangeSpec := { name := "diskForms", fn := fun _ => fun
  | [d1, d2] => { results := [.lit (.bool true)], args := [d1, d2] }
  | _ => none }
def diskFormsRow : OpenClaim := { program := "ytmhjcmpokjhhcaa", sum := "246b6cbdf468860eaa5b017ebde9db86a40d9a7ec069d6707c25410b43496ce4", func := "pinfold/pinfoldlaw22.DiskForms", spec := "diskForms", unfollowed := true, recurses := true, apart := false }
def DiskFormsSaid : Prop := diskFormsRow.holds Try.pinned (OpenSpec.ofChange diskFormsSpec)

/-- ITS FALSE NEIGHBOUR: 'it returns false'. Refute it at one input. -/
def diskFormsWrong : ChangeSpec := { name := "diskForms", fn := fun _ => fun
  | [d1, d2] => { results := [.lit (.bool false)], args := [d1, d2] }
  | _ => none }
def DiskFormsWrongFalsely : Prop := diskFormsRow.holds Try.pinned (OpenSpec.ofChange diskFormsWrong)

/-- 'pinfoldlaw22.DiskSwaps': WHATEVER THE INPUT: true; the input reads as it did. -/
def diskSwapsSpec : ChangeSpec := { name := "diskSwaps", fn := fun _ => fun
  | [d1, d2, d3, d4] => { results := [.lit (.bool true)], args := [d1, d2, d3, d4] }
  | _ => none }
def diskSwapsRow : OpenClaim := { program := "ytmhjcmpokjhhcaa", sum := "246b6cbdf468860eaa5b017ebde9db86a40d9a7ec069d6707c25410b43496ce4", func := "pinfold/pinfoldlaw22.DiskSwaps", spec := "diskSwaps", unfollowed := true, recurses := true, apart := false }
def DiskSwapsSaid : Prop := diskSwapsRow.holds Try.pinned (OpenSpec.ofChange diskSwapsSpec)

/-- ITS FALSE NEIGHBOUR: 'it returns false'. Refute it at one input. -/
def diskSwapsWrong : ChangeSpec := { name := "diskSwaps", fn := fun _ => fun
  | [d1, d2, d3, d4] => { results := [.lit (.bool false)], args := [d1, d2, d3, d4] }
  | _ => none }
def DiskSwapsWrongFalsely : Prop := diskSwapsRow.holds Try.pinned (OpenSpec.ofChange diskSwapsWrong)

/-- 'pinfoldlaw22.DiskTwice': WHATEVER THE INPUT: true; the input reads as it did. -/
def diskTwiceSpec : ChangeSpec := { name := "diskTwice", fn := fun _ => fun
  | [d1, d2, d3] => { results := [.lit (.bool true)], args := [d1, d2, d3] }
  | _ => none }
def diskTwiceRow : OpenClaim := { program := "ytmhjcmpokjhhcaa", sum := "246b6cbdf468860eaa5b017ebde9db86a40d9a7ec069d6707c25410b43496ce4", func := "pinfold/pinfoldlaw22.DiskTwice", spec := "diskTwice", unfollowed := true, recurses := true, apart := false }
def DiskTwiceSaid : Prop := diskTwiceRow.holds Try.pinned (OpenSpec.ofChange diskTwiceSpec)

/-- ITS FALSE NEIGHBOUR: 'it returns false'. Refute it at one input. -/
def diskTwiceWrong : ChangeSpec := { name := "diskTwice", fn := fun _ => fun
  | [d1, d2, d3] => { results := [.lit (.bool false)], args := [d1, d2, d3] }
  | _ => none }
def DiskTwiceWrongFalsely : Prop := diskTwiceRow.holds Try.pinned (OpenSpec.ofChange diskTwiceWrong)

/-- 'pinfoldlaw6.Opts': WHATEVER THE INPUT: true; the input reads as it did. -/
def optsSpec : ChangeSpec := { name := "opts", fn := fun _ => fun
  | [d1, d2, d3] => { results := [.lit (.bool true)], args := [d1, d2, d3] }
  | _ => none }
def optsRow : OpenClaim := { program := "ytmhjcmpokjhhcaa", sum := "246b6cbdf468860eaa5b017ebde9db86a40d9a7ec069d6707c25410b43496ce4", func := "pinfold/pinfoldlaw6.Opts", spec := "opts", inPlace := ["internal/abi.NoEscape"], apart := false }
def OptsSaid : Prop := optsRow.holds Try.pinned (OpenSpec.ofChange optsSpec)

/-- ITS FALSE NEIGHBOUR: 'it returns false'. Refute it at one input. -/
def optsWrong : ChangeSpec := { name := "opts", fn := fun _ => fun
  | [d1, d2, d3] => { results := [.lit (.bool false)], args := [d1, d2, d3] }
  | _ => none }
def OptsWrongFalsely : Prop := optsRow.holds Try.pinned (OpenSpec.ofChange optsWrong)

/-- 'pinfoldlaw6.OptsBack': WHATEVER THE INPUT: true; the input reads as it did. -/
def optsBackSpec : ChangeSpec := { name := "optsBack", fn := fun _ => fun
  | [d1, d2, d3] => { results := [.lit (.bool true)], args := [d1, d2, d3] }
  | _ => none }
def optsBackRow : OpenClaim := { program := "ytmhjcmpokjhhcaa", sum := "246b6cbdf468860eaa5b017ebde9db86a40d9a7ec069d6707c25410b43496ce4", func := "pinfold/pinfoldlaw6.OptsBack", spec := "optsBack", inPlace := ["internal/abi.NoEscape"], apart := false }
def OptsBackSaid : Prop := optsBackRow.holds Try.pinned (OpenSpec.ofChange optsBackSpec)

/-- ITS FALSE NEIGHBOUR: 'it returns false'. Refute it at one input. -/
def optsBackWrong : ChangeSpec := { name := "optsBack", fn := fun _ => fun
  | [d1, d2, d3] => { results := [.lit (.bool false)], args := [d1, d2, d3] }
  | _ => none }
def OptsBackWrongFalsely : Prop := optsBackRow.holds Try.pinned (OpenSpec.ofChange optsBackWrong)

/-- 'pinfoldlaw6.OptsForms': WHATEVER THE INPUT: true; the input reads as it did. -/
def optsFormsSpec : ChangeSpec := { name := "optsForms", fn := fun _ => fun
  | [d1, d2] => { results := [.lit (.bool true)], args := [d1, d2] }
  | _ => none }
def optsFormsRow : OpenClaim := { program := "ytmhjcmpokjhhcaa", sum := "246b6cbdf468860eaa5b017ebde9db86a40d9a7ec069d6707c25410b43496ce4", func := "pinfold/pinfoldlaw6.OptsForms", spec := "optsForms", inPlace := ["internal/abi.NoEscape"], apart := false }
def OptsFormsSaid : Prop := optsFormsRow.holds Try.pinned (OpenSpec.ofChange optsFormsSpec)

/-- ITS FALSE NEIGHBOUR: 'it returns false'. Refute it at one input. -/
def optsFormsWrong : ChangeSpec := { name := "optsForms", fn := fun _ => fun
  | [d1, d2] => { results := [.lit (.bool false)], args := [d1, d2] }
  | _ => none }
def OptsFormsWrongFalsely : Prop := optsFormsRow.holds Try.pinned (OpenSpec.ofChange optsFormsWrong)

/-- 'pinfoldlaw6.OptsLong': WHATEVER THE INPUT: true; the input reads as it did. -/
def optsLongSpec : ChangeSpec := { name := "optsLong", fn := fun _ => fun
  | [d1, d2] => { results := [.lit (.bool true)], args := [d1, d2] }
  | _ => none }
def optsLongRow : OpenClaim := { program := "ytmhjcmpokjhhcaa", sum := "246b6cbdf468860eaa5b017ebde9db86a40d9a7ec069d6707c25410b43496ce4", func := "pinfold/pinfoldlaw6.OptsLong", spec := "optsLong", inPlace := ["internal/abi.NoEscape"], apart := false }
def OptsLongSaid : Prop := optsLongRow.holds Try.pinned (OpenSpec.ofChange optsLongSpec)

/-- ITS FALSE NEIGHBOUR: 'it returns false'. Refute it at one input. -/
def optsLongWrong : ChangeSpec := { name := "optsLong", fn := fun _ => fun
  | [d1, d2] => { results := [.lit (.bool false)], args := [d1, d2] }
  | _ => none }
def OptsLongWrongFalsely : Prop := optsLongRow.holds Try.pinned (OpenSpec.ofChange optsLongWrong)

/-- 'pinfoldlaw6.OptsSplit': WHATEVER THE INPUT: true; the input reads as it did. -/
def optsSplitSpec : ChangeSpec := { name := "optsSplit", fn := fun _ => fun
  | [d1, d2] => { results := [.lit (.bool true)], args := [d1, d2] }
  | _ => none }
def optsSplitRow : OpenClaim := { program := "ytmhjcmpokjhhcaa", sum := "246b6cbdf468860eaa5b017ebde9db86a40d9a7ec069d6707c25410b43496ce4", func := "pinfold/pinfoldlaw6.OptsSplit", spec := "optsSplit", inPlace := ["internal/abi.NoEscape"], apart := false }
def OptsSplitSaid : Prop := optsSplitRow.holds Try.pinned (OpenSpec.ofChange optsSplitSpec)

/-- ITS FALSE NEIGHBOUR: 'it returns false'. Refute it at one input. -/
def optsSplitWrong : ChangeSpec := { name := "optsSplit", fn := fun _ => fun
  | [d1, d2] => { results := [.lit (.bool false)], args := [d1, d2] }
  | _ => none }
def OptsSplitWrongFalsely : Prop := optsSplitRow.holds Try.pinned (OpenSpec.ofChange optsSplitWrong)

/- THE SECOND FORM. 'bulk': how many values and letters a reading holds, each counted each time it is reached (what is shared counts as often as it is met; a slice's spare places count too). A statement '..UptoSaid' is the law's where the arguments, and the package variables that the reading takes, are together of bulk at most 1048576: NARROWER than '..Said'. Prove '..Said' where nothing that the law and all that it calls make is longer than what came in: it says more and counts as full. Else prove '..UptoSaid'. A law counts once. -/
mutual
def uptoBulk {H : Type} : DataW H → Nat
  | .lit (.string bytes) => bytes.length + 1
  | .lit _ => 1
  | .nil => 1
  | .ptr d => uptoBulk d + 1
  | .slice elems spare => uptoBulkAll elems + uptoBulkAll spare + 1
  | .agg parts => uptoBulkAll parts + 1
  | .iface _ d => uptoBulk d + 1
  | .map entries => uptoBulkEntries entries + 1
  | .held _ => 1
def uptoBulkAll {H : Type} : List (DataW H) → Nat
  | [] => 0
  | d :: r => uptoBulk d + uptoBulkAll r
def uptoBulkEntries {H : Type} : List (Lit × DataW H) → Nat
  | [] => 0
  | x :: r => uptoBulkEntry x + uptoBulkEntries r
def uptoBulkEntry {H : Type} : Lit × DataW H → Nat
  | (.string bytes, d) => bytes.length + uptoBulk d + 1
  | (_, d) => uptoBulk d + 1
 end
def uptoSmall : (H : Type) → List (DataW H) → Bool := fun _ ds => decide (uptoBulkAll ds ≤ 1048576)
def OpenSpec.upto (s : _root_.Go.ChangeSpec) : _root_.Go.OpenSpec := { _root_.Go.OpenSpec.ofChange s with cond := some uptoSmall }

/-- 'pinfoldlaw22.Disks', WHERE WHAT IT READS IS OF BULK AT MOST 1048576: true; the input reads as it did. -/
def disksUptoRow : OpenClaim := { program := "ytmhjcmpokjhhcaa", sum := "246b6cbdf468860eaa5b017ebde9db86a40d9a7ec069d6707c25410b43496ce4", func := "pinfold/pinfoldlaw22.Disks", spec := "disks", unfollowed := true, recurses := true, apart := false, narrowed := true }
def DisksUptoSaid : Prop := disksUptoRow.holds Try.pinned (OpenSpec.upto disksSpec)

/-- 'pinfoldlaw22.DiskLasts', WHERE WHAT IT READS IS OF BULK AT MOST 1048576: true; the input reads as it did. -/
def diskLastsUptoRow : OpenClaim := { program := "ytmhjcmpokjhhcaa", sum := "246b6cbdf468860eaa5b017ebde9db86a40d9a7ec069d6707c25410b43496ce4", func := "pinfold/pinfoldlaw22.DiskLasts", spec := "diskLasts", unfollowed := true, recurses := true, apart := false, narrowed := true }
def DiskLastsUptoSaid : Prop := diskLastsUptoRow.holds Try.pinned (OpenSpec.upto diskLastsSpec)

/-- 'pinfoldlaw22.DiskForms', WHERE WHAT IT READS IS OF BULK AT MOST 1048576: true; the input reads as it did. -/
def diskFormsUptoRow : OpenClaim := { program := "ytmhjcmpokjhhcaa", sum := "246b6cbdf468860eaa5b017ebde9db86a40d9a7ec069d6707c25410b43496ce4", func := "pinfold/pinfoldlaw22.DiskForms", spec := "diskForms", unfollowed := true, recurses := true, apart := false, narrowed := true }
def DiskFormsUptoSaid : Prop := diskFormsUptoRow.holds Try.pinned (OpenSpec.upto diskFormsSpec)

/-- 'pinfoldlaw22.DiskSwaps', WHERE WHAT IT READS IS OF BULK AT MOST 1048576: true; the input reads as it did. -/
def diskSwapsUptoRow : OpenClaim := { program := "ytmhjcmpokjhhcaa", sum := "246b6cbdf468860eaa5b017ebde9db86a40d9a7ec069d6707c25410b43496ce4", func := "pinfold/pinfoldlaw22.DiskSwaps", spec := "diskSwaps", unfollowed := true, recurses := true, apart := false, narrowed := true }
def DiskSwapsUptoSaid : Prop := diskSwapsUptoRow.holds Try.pinned (OpenSpec.upto diskSwapsSpec)

/-- 'pinfoldlaw22.DiskTwice', WHERE WHAT IT READS IS OF BULK AT MOST 1048576: true; the input reads as it did. -/
def diskTwiceUptoRow : OpenClaim := { program := "ytmhjcmpokjhhcaa", sum := "246b6cbdf468860eaa5b017ebde9db86a40d9a7ec069d6707c25410b43496ce4", func := "pinfold/pinfoldlaw22.DiskTwice", spec := "diskTwice", unfollowed := true, recurses := true, apart := false, narrowed := true }
def DiskTwiceUptoSaid : Prop := diskTwiceUptoRow.holds Try.pinned (OpenSpec.upto diskTwiceSpec)

/-- 'pinfoldlaw6.Opts', WHERE WHAT IT READS IS OF BULK AT MOST 1048576: true; the input reads as it did. -/
def optsUptoRow : OpenClaim := { program := "ytmhjcmpokjhhcaa", sum := "246b6cbdf468860eaa5b017ebde9db86a40d9a7ec069d6707c25410b43496ce4", func := "pinfold/pinfoldlaw6.Opts", spec := "opts", inPlace := ["internal/abi.NoEscape"], apart := false, narrowed := true }
def OptsUptoSaid : Prop := optsUptoRow.holds Try.pinned (OpenSpec.upto optsSpec)

/-- 'pinfoldlaw6.OptsBack', WHERE WHAT IT READS IS OF BULK AT MOST 1048576: true; the input reads as it did. -/
def optsBackUptoRow : OpenClaim := { program := "ytmhjcmpokjhhcaa", sum := "246b6cbdf468860eaa5b017ebde9db86a40d9a7ec069d6707c25410b43496ce4", func := "pinfold/pinfoldlaw6.OptsBack", spec := "optsBack", inPlace := ["internal/abi.NoEscape"], apart := false, narrowed := true }
def OptsBackUptoSaid : Prop := optsBackUptoRow.holds Try.pinned (OpenSpec.upto optsBackSpec)

/-- 'pinfoldlaw6.OptsForms', WHERE WHAT IT READS IS OF BULK AT MOST 1048576: true; the input reads as it did. -/
def optsFormsUptoRow : OpenClaim := { program := "ytmhjcmpokjhhcaa", sum := "246b6cbdf468860eaa5b017ebde9db86a40d9a7ec069d6707c25410b43496ce4", func := "pinfold/pinfoldlaw6.OptsForms", spec := "optsForms", inPlace := ["internal/abi.NoEscape"], apart := false, narrowed := true }
def OptsFormsUptoSaid : Prop := optsFormsUptoRow.holds Try.pinned (OpenSpec.upto optsFormsSpec)

/-- 'pinfoldlaw6.OptsLong', WHERE WHAT IT READS IS OF BULK AT MOST 1048576: true; the input reads as it did. -/
def optsLongUptoRow : OpenClaim := { program := "ytmhjcmpokjhhcaa", sum := "246b6cbdf468860eaa5b017ebde9db86a40d9a7ec069d6707c25410b43496ce4", func := "pinfold/pinfoldlaw6.OptsLong", spec := "optsLong", inPlace := ["internal/abi.NoEscape"], apart := false, narrowed := true }
def OptsLongUptoSaid : Prop := optsLongUptoRow.holds Try.pinned (OpenSpec.upto optsLongSpec)

/-- 'pinfoldlaw6.OptsSplit', WHERE WHAT IT READS IS OF BULK AT MOST 1048576: true; the input reads as it did. -/
def optsSplitUptoRow : OpenClaim := { program := "ytmhjcmpokjhhcaa", sum := "246b6cbdf468860eaa5b017ebde9db86a40d9a7ec069d6707c25410b43496ce4", func := "pinfold/pinfoldlaw6.OptsSplit", spec := "optsSplit", inPlace := ["internal/abi.NoEscape"], apart := false, narrowed := true }
def OptsSplitUptoSaid : Prop := optsSplitUptoRow.holds Try.pinned (OpenSpec.upto optsSplitSpec)

end Rows
end Go.Proofs.Ytmhjcmpokjhhcaa
