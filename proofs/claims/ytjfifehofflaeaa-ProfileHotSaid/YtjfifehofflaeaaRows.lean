/-
  No cell of these rows narrows 'for every input' (looked for: loops, veiled, ifaces, maps, wideKeys, modest, calm, conditions, laid).
  DERIVED. THE GIVEN ROWS OF THIS SEAT. 7 by the template 'for every input the law returns true; each argument reads behind the call as it read before'; 0 by the template 'total and deterministic' (their statements: YtjfifehofflaeaaTotals.lean).
  GIVEN WITH THE SEED: the statements are not yours to turn. If you find one false, say at which input.
  Laid BY PROGRAM, IN A SANDBOX (cutbox-rows.mjs): the forced cells as the released guide's own fill.sh prints them over the translation e92045a13922c3bf… (all of the seat's roots in one cut). By AI agents, Wed Nov 11 2026. No macro, syntax, notation, axiom, sorry.
-/
import Derived.Test.YtjfifehofflaeaaChecked
import GoSem.Claim
import GoSem.ClaimJoined
import GoSem.ClaimMapViews
import Derived.JoinedTies
import Derived.KernelRfl
namespace Go.Proofs.Ytjfifehofflaeaa
/- THE CELL 'sum', in the pinned program and in every row, IS THE sha256 OF THE DUMP (.gsa) THAT YtjfifehofflaeaaProg.lean LOADS. Nothing in Lean hashes anything: it is a label: what it is worth is what the hold of that sum in a sandbox is worth. -/
noncomputable def Try.pinned : Pinned := { name := "ytjfifehofflaeaa", sum := "e92045a13922c3bf86b512feb7282e47caa56359282ddaf38931196a99f5ff6c", checked := Try.checked }
namespace Rows
def none {H : Type} : Left H := { results := [], args := [] }

/-- 'portagelaw30.RelayOpens': WHATEVER THE INPUT: true; the input reads as it did. -/
def relayOpensSpec : ChangeSpec := { name := "relayOpens", fn := fun _ => fun
  | [d1, d2] => { results := [.lit (.bool true)], args := [d1, d2] }
  | _ => none }
def relayOpensRow : OpenClaim := { program := "ytjfifehofflaeaa", sum := "e92045a13922c3bf86b512feb7282e47caa56359282ddaf38931196a99f5ff6c", func := "portage/portagelaw30.RelayOpens", spec := "relayOpens", unfollowed := true, recurses := true, plainKeys := false, apart := false }
def RelayOpensSaid : Prop := relayOpensRow.holds Try.pinned (OpenSpec.ofChange relayOpensSpec)

/-- ITS FALSE NEIGHBOUR: 'it returns false'. Refute it at one input. -/
def relayOpensWrong : ChangeSpec := { name := "relayOpens", fn := fun _ => fun
  | [d1, d2] => { results := [.lit (.bool false)], args := [d1, d2] }
  | _ => none }
def RelayOpensWrongFalsely : Prop := relayOpensRow.holds Try.pinned (OpenSpec.ofChange relayOpensWrong)

/-- 'portagelaw30.RelaySealed': WHATEVER THE INPUT: true; the input reads as it did. -/
def relaySealedSpec : ChangeSpec := { name := "relaySealed", fn := fun _ => fun
  | [d] => { results := [.lit (.bool true)], args := [d] }
  | _ => none }
def relaySealedRow : OpenClaim := { program := "ytjfifehofflaeaa", sum := "e92045a13922c3bf86b512feb7282e47caa56359282ddaf38931196a99f5ff6c", func := "portage/portagelaw30.RelaySealed", spec := "relaySealed", unfollowed := true, recurses := true, plainKeys := false, apart := false }
def RelaySealedSaid : Prop := relaySealedRow.holds Try.pinned (OpenSpec.ofChange relaySealedSpec)

/-- ITS FALSE NEIGHBOUR: 'it returns false'. Refute it at one input. -/
def relaySealedWrong : ChangeSpec := { name := "relaySealed", fn := fun _ => fun
  | [d] => { results := [.lit (.bool false)], args := [d] }
  | _ => none }
def RelaySealedWrongFalsely : Prop := relaySealedRow.holds Try.pinned (OpenSpec.ofChange relaySealedWrong)

/-- 'portagelaw30.RelayOne': WHATEVER THE INPUT: true; the input reads as it did. -/
def relayOneSpec : ChangeSpec := { name := "relayOne", fn := fun _ => fun
  | [d] => { results := [.lit (.bool true)], args := [d] }
  | _ => none }
def relayOneRow : OpenClaim := { program := "ytjfifehofflaeaa", sum := "e92045a13922c3bf86b512feb7282e47caa56359282ddaf38931196a99f5ff6c", func := "portage/portagelaw30.RelayOne", spec := "relayOne", unfollowed := true, recurses := true, plainKeys := false, apart := false }
def RelayOneSaid : Prop := relayOneRow.holds Try.pinned (OpenSpec.ofChange relayOneSpec)

/-- ITS FALSE NEIGHBOUR: 'it returns false'. Refute it at one input. -/
def relayOneWrong : ChangeSpec := { name := "relayOne", fn := fun _ => fun
  | [d] => { results := [.lit (.bool false)], args := [d] }
  | _ => none }
def RelayOneWrongFalsely : Prop := relayOneRow.holds Try.pinned (OpenSpec.ofChange relayOneWrong)

/-- 'portagelaw18.ProfileHot': WHATEVER THE INPUT: true; the input reads as it did. -/
def profileHotSpec : ChangeSpec := { name := "profileHot", fn := fun _ => fun
  | [d1, d2] => { results := [.lit (.bool true)], args := [d1, d2] }
  | _ => none }
def profileHotRow : OpenClaim := { program := "ytjfifehofflaeaa", sum := "e92045a13922c3bf86b512feb7282e47caa56359282ddaf38931196a99f5ff6c", func := "portage/portagelaw18.ProfileHot", spec := "profileHot", unfollowed := true, recurses := true, plainKeys := false, apart := false }
def ProfileHotSaid : Prop := profileHotRow.holds Try.pinned (OpenSpec.ofChange profileHotSpec)

/-- ITS FALSE NEIGHBOUR: 'it returns false'. Refute it at one input. -/
def profileHotWrong : ChangeSpec := { name := "profileHot", fn := fun _ => fun
  | [d1, d2] => { results := [.lit (.bool false)], args := [d1, d2] }
  | _ => none }
def ProfileHotWrongFalsely : Prop := profileHotRow.holds Try.pinned (OpenSpec.ofChange profileHotWrong)

/-- 'portagelaw18.ProfileBook': WHATEVER THE INPUT: true; the input reads as it did. -/
def profileBookSpec : ChangeSpec := { name := "profileBook", fn := fun _ => fun
  | [d1, d2, d3, d4, d5] => { results := [.lit (.bool true)], args := [d1, d2, d3, d4, d5] }
  | _ => none }
def profileBookRow : OpenClaim := { program := "ytjfifehofflaeaa", sum := "e92045a13922c3bf86b512feb7282e47caa56359282ddaf38931196a99f5ff6c", func := "portage/portagelaw18.ProfileBook", spec := "profileBook", inPlace := ["sync/atomic.StoreInt64", "sync/atomic.LoadInt64"], unfollowed := true, recurses := true, plainKeys := false, apart := false }
def ProfileBookSaid : Prop := profileBookRow.holds Try.pinned (OpenSpec.ofChange profileBookSpec)

/-- ITS FALSE NEIGHBOUR: 'it returns false'. Refute it at one input. -/
def profileBookWrong : ChangeSpec := { name := "profileBook", fn := fun _ => fun
  | [d1, d2, d3, d4, d5] => { results := [.lit (.bool false)], args := [d1, d2, d3, d4, d5] }
  | _ => none }
def ProfileBookWrongFalsely : Prop := profileBookRow.holds Try.pinned (OpenSpec.ofChange profileBookWrong)

/-- 'portagelaw18.ProfileMemory': WHATEVER THE INPUT: true; the input reads as it did. -/
def profileMemorySpec : ChangeSpec := { name := "profileMemory", fn := fun _ => fun
  | [d1, d2, d3] => { results := [.lit (.bool true)], args := [d1, d2, d3] }
  | _ => none }
def profileMemoryRow : OpenClaim := { program := "ytjfifehofflaeaa", sum := "e92045a13922c3bf86b512feb7282e47caa56359282ddaf38931196a99f5ff6c", func := "portage/portagelaw18.ProfileMemory", spec := "profileMemory", inPlace := ["sync/atomic.StoreInt64", "sync/atomic.LoadInt64"], unfollowed := true, recurses := true, plainKeys := false, apart := false }
def ProfileMemorySaid : Prop := profileMemoryRow.holds Try.pinned (OpenSpec.ofChange profileMemorySpec)

/-- ITS FALSE NEIGHBOUR: 'it returns false'. Refute it at one input. -/
def profileMemoryWrong : ChangeSpec := { name := "profileMemory", fn := fun _ => fun
  | [d1, d2, d3] => { results := [.lit (.bool false)], args := [d1, d2, d3] }
  | _ => none }
def ProfileMemoryWrongFalsely : Prop := profileMemoryRow.holds Try.pinned (OpenSpec.ofChange profileMemoryWrong)

/-- 'portagelaw18.ProfileForms': WHATEVER THE INPUT: true; the input reads as it did. -/
def profileFormsSpec : ChangeSpec := { name := "profileForms", fn := fun _ => fun
  | [d] => { results := [.lit (.bool true)], args := [d] }
  | _ => none }
def profileFormsRow : OpenClaim := { program := "ytjfifehofflaeaa", sum := "e92045a13922c3bf86b512feb7282e47caa56359282ddaf38931196a99f5ff6c", func := "portage/portagelaw18.ProfileForms", spec := "profileForms", inPlace := ["sync/atomic.StoreInt64", "sync/atomic.LoadInt64"], unfollowed := true, recurses := true, plainKeys := false, apart := false }
def ProfileFormsSaid : Prop := profileFormsRow.holds Try.pinned (OpenSpec.ofChange profileFormsSpec)

/-- ITS FALSE NEIGHBOUR: 'it returns false'. Refute it at one input. -/
def profileFormsWrong : ChangeSpec := { name := "profileForms", fn := fun _ => fun
  | [d] => { results := [.lit (.bool false)], args := [d] }
  | _ => none }
def ProfileFormsWrongFalsely : Prop := profileFormsRow.holds Try.pinned (OpenSpec.ofChange profileFormsWrong)

/- THE SECOND FORM. 'bulk': how many values and letters a reading holds, each counted each time it is reached (what is shared counts as often as it is met; a slice's spare places count too). A statement '..UptoSaid' is the law's where the arguments, and the package variables that the reading takes, are together of bulk at most 1048576: NARROWER than '..Said'. Prove '..Said' where nothing that the law and all that it calls make is longer than what came in: it says more and counts as full. Else prove '..UptoSaid'. A law counts once. -/
mutual
def uptoBulk {H : Type} : DataW H → Nat
  | .lit (.string bytes) => bytes.length + 1
  | .lit _ => 1
  | .nil => 1
  | .ptr d => uptoBulk d + 1
  | .slice elems spare => uptoBulkAll elems + uptoBulkAll spare + 1
  | .agg parts => uptoBulkAll parts + 1
  | .iface _ d => uptoBulk d + 1
  | .map entries => uptoBulkEntries entries + 1
  | .held _ => 1
def uptoBulkAll {H : Type} : List (DataW H) → Nat
  | [] => 0
  | d :: r => uptoBulk d + uptoBulkAll r
def uptoBulkEntries {H : Type} : List (Lit × DataW H) → Nat
  | [] => 0
  | x :: r => uptoBulkEntry x + uptoBulkEntries r
def uptoBulkEntry {H : Type} : Lit × DataW H → Nat
  | (.string bytes, d) => bytes.length + uptoBulk d + 1
  | (_, d) => uptoBulk d + 1
 end
def uptoSmall : (H : Type) → List (DataW H) → Bool := fun _ ds => decide (uptoBulkAll ds ≤ 1048576)
def OpenSpec.upto (s : _root_.Go.ChangeSpec) : _root_.Go.OpenSpec := { _root_.Go.OpenSpec.ofChange s with cond := some uptoSmall }

/-- 'portagelaw30.RelayOpens', WHERE WHAT IT READS IS OF BULK AT MOST 1048576: true; the input reads as it did. -/
def relayOpensUptoRow : OpenClaim := { program := "ytjfifehofflaeaa", sum := "e92045a13922c3bf86b512feb7282e47caa56359282ddaf38931196a99f5ff6c", func := "portage/portagelaw30.RelayOpens", spec := "relayOpens", unfollowed := true, recurses := true, plainKeys := false, apart := false, narrowed := true }
def RelayOpensUptoSaid : Prop := relayOpensUptoRow.holds Try.pinned (OpenSpec.upto relayOpensSpec)

/-- 'portagelaw30.RelaySealed', WHERE WHAT IT READS IS OF BULK AT MOST 1048576: true; the input reads as it did. -/
def relaySealedUptoRow : OpenClaim := { program := "ytjfifehofflaeaa", sum := "e92045a13922c3bf86b512feb7282e47caa56359282ddaf38931196a99f5ff6c", func := "portage/portagelaw30.RelaySealed", spec := "relaySealed", unfollowed := true, recurses := true, plainKeys := false, apart := false, narrowed := true }
def RelaySealedUptoSaid : Prop := relaySealedUptoRow.holds Try.pinned (OpenSpec.upto relaySealedSpec)

/-- 'portagelaw30.RelayOne', WHERE WHAT IT READS IS OF BULK AT MOST 1048576: true; the input reads as it did. -/
def relayOneUptoRow : OpenClaim := { program := "ytjfifehofflaeaa", sum := "e92045a13922c3bf86b512feb7282e47caa56359282ddaf38931196a99f5ff6c", func := "portage/portagelaw30.RelayOne", spec := "relayOne", unfollowed := true, recurses := true, plainKeys := false, apart := false, narrowed := true }
def RelayOneUptoSaid : Prop := relayOneUptoRow.holds Try.pinned (OpenSpec.upto relayOneSpec)

/-- 'portagelaw18.ProfileHot', WHERE WHAT IT READS IS OF BULK AT MOST 1048576: true; the input reads as it did. -/
def profileHotUptoRow : OpenClaim := { program := "ytjfifehofflaeaa", sum := "e92045a13922c3bf86b512feb7282e47caa56359282ddaf38931196a99f5ff6c", func := "portage/portagelaw18.ProfileHot", spec := "profileHot", unfollowed := true, recurses := true, plainKeys := false, apart := false, narrowed := true }
def ProfileHotUptoSaid : Prop := profileHotUptoRow.holds Try.pinned (OpenSpec.upto profileHotSpec)

/-- 'portagelaw18.ProfileBook', WHERE WHAT IT READS IS OF BULK AT MOST 1048576: true; the input reads as it did. -/
def profileBookUptoRow : OpenClaim := { program := "ytjfifehofflaeaa", sum := "e92045a13922c3bf86b512feb7282e47caa56359282ddaf38931196a99f5ff6c", func := "portage/portagelaw18.ProfileBook", spec := "profileBook", inPlace := ["sync/atomic.StoreInt64", "sync/atomic.LoadInt64"], unfollowed := true, recurses := true, plainKeys := false, apart := false, narrowed := true }
def ProfileBookUptoSaid : Prop := profileBookUptoRow.holds Try.pinned (OpenSpec.upto profileBookSpec)

/-- 'portagelaw18.ProfileMemory', WHERE WHAT IT READS IS OF BULK AT MOST 1048576: true; the input reads as it did. -/
def profileMemoryUptoRow : OpenClaim := { program := "ytjfifehofflaeaa", sum := "e92045a13922c3bf86b512feb7282e47caa56359282ddaf38931196a99f5ff6c", func := "portage/portagelaw18.ProfileMemory", spec := "profileMemory", inPlace := ["sync/atomic.StoreInt64", "sync/atomic.LoadInt64"], unfollowed := true, recurses := true, plainKeys := false, apart := false, narrowed := true }
def ProfileMemoryUptoSaid : Prop := profileMemoryUptoRow.holds Try.pinned (OpenSpec.upto profileMemorySpec)

/-- 'portagelaw18.ProfileForms', WHERE WHAT IT READS IS OF BULK AT MOST 1048576: true; the input reads as it did. -/
def profileFormsUptoRow : OpenClaim := { program := "ytjfifehofflaeaa", sum := "e92045a13922c3bf86b512feb7282e47caa56359282ddaf38931196a99f5ff6c", func := "portage/portagelaw18.ProfileForms", spec := "profileForms", inPlace := ["sync/atomic.StoreInt64", "sync/atomic.LoadInt64"], unfollowed := true, recurses := true, plainKeys := false, apart := false, narrowed := true }
def ProfileFormsUptoSaid : Prop := profileFormsUptoRow.holds Try.pinned (OpenSpec.upto profileFormsSpec)

end Rows
end Go.Proofs.Ytjfifehofflaeaa
