/-
  No cell of these rows narrows 'for every input' (looked for: loops, veiled, ifaces, maps, wideKeys, modest, calm, conditions, laid).
  DERIVED. THE GIVEN ROWS OF THIS SEAT. 8 by the template 'for every input the law returns true; each argument reads behind the call as it read before'; 0 by the template 'total and deterministic' (their statements: YtkmnoiploeineaaTotals.lean).
  GIVEN WITH THE SEED: the statements are not yours to turn. If you find one false, say at which input.
  Laid BY PROGRAM, IN A SANDBOX (cutbox-rows.mjs): the forced cells as the released guide's own fill.sh prints them over the translation f8f7e7a18fce36d1… (all of the seat's roots in one cut). By AI agents, Wed Nov 11 2026. No macro, syntax, notation, axiom, sorry.
-/
import Derived.Test.YtkmnoiploeineaaChecked
import GoSem.Claim
import GoSem.ClaimJoined
import GoSem.ClaimMapViews
import Derived.JoinedTies
import Derived.KernelRfl
namespace Go.Proofs.Ytkmnoiploeineaa
/- THE CELL 'sum', in the pinned program and in every row, IS THE sha256 OF THE DUMP (.gsa) THAT YtkmnoiploeineaaProg.lean LOADS. Nothing in Lean hashes anything: it is a label: what it is worth is what the hold of that sum in a sandbox is worth. -/
noncomputable def Try.pinned : Pinned := { name := "ytkmnoiploeineaa", sum := "f8f7e7a18fce36d157324ecc00405159c7d50f20c2abeaed896cda95aef6cb29", checked := Try.checked }
namespace Rows
def none {H : Type} : Left H := { results := [], args := [] }

/-- 'arbiterlaw10.OrderLubys': WHATEVER THE INPUT: true; the input reads as it did. -/
def orderLubysSpec : ChangeSpec := { name := "orderLubys", fn := fun _ => fun
  | [d] => { results := [.lit (.bool true)], args := [d] }
  | _ => none }
def orderLubysRow : OpenClaim := { program := "ytkmnoiploeineaa", sum := "f8f7e7a18fce36d157324ecc00405159c7d50f20c2abeaed896cda95aef6cb29", func := "arbiter/arbiterlaw10.OrderLubys", spec := "orderLubys", apart := false }
def OrderLubysSaid : Prop := orderLubysRow.holds Try.pinned (OpenSpec.ofChange orderLubysSpec)

/-- ITS FALSE NEIGHBOUR: 'it returns false'. Refute it at one input. -/
def orderLubysWrong : ChangeSpec := { name := "orderLubys", fn := fun _ => fun
  | [d] => { results := [.lit (.bool false)], args := [d] }
  | _ => none }
def OrderLubysWrongFalsely : Prop := orderLubysRow.holds Try.pinned (OpenSpec.ofChange orderLubysWrong)

/-- 'arbiterlaw10.OrderDoubles': WHATEVER THE INPUT: true; the input reads as it did. -/
def orderDoublesSpec : ChangeSpec := { name := "orderDoubles", fn := fun _ => fun
  | [d] => { results := [.lit (.bool true)], args := [d] }
  | _ => none }
def orderDoublesRow : OpenClaim := { program := "ytkmnoiploeineaa", sum := "f8f7e7a18fce36d157324ecc00405159c7d50f20c2abeaed896cda95aef6cb29", func := "arbiter/arbiterlaw10.OrderDoubles", spec := "orderDoubles", apart := false }
def OrderDoublesSaid : Prop := orderDoublesRow.holds Try.pinned (OpenSpec.ofChange orderDoublesSpec)

/-- ITS FALSE NEIGHBOUR: 'it returns false'. Refute it at one input. -/
def orderDoublesWrong : ChangeSpec := { name := "orderDoubles", fn := fun _ => fun
  | [d] => { results := [.lit (.bool false)], args := [d] }
  | _ => none }
def OrderDoublesWrongFalsely : Prop := orderDoublesRow.holds Try.pinned (OpenSpec.ofChange orderDoublesWrong)

/-- 'arbiterlaw10.OrderRises': WHATEVER THE INPUT: true; the input reads as it did. -/
def orderRisesSpec : ChangeSpec := { name := "orderRises", fn := fun _ => fun
  | [d1, d2, d3] => { results := [.lit (.bool true)], args := [d1, d2, d3] }
  | _ => none }
def orderRisesRow : OpenClaim := { program := "ytkmnoiploeineaa", sum := "f8f7e7a18fce36d157324ecc00405159c7d50f20c2abeaed896cda95aef6cb29", func := "arbiter/arbiterlaw10.OrderRises", spec := "orderRises", inPlace := ["math.Float32bits"], unfollowed := true, recurses := true, apart := false }
def OrderRisesSaid : Prop := orderRisesRow.holds Try.pinned (OpenSpec.ofChange orderRisesSpec)

/-- ITS FALSE NEIGHBOUR: 'it returns false'. Refute it at one input. -/
def orderRisesWrong : ChangeSpec := { name := "orderRises", fn := fun _ => fun
  | [d1, d2, d3] => { results := [.lit (.bool false)], args := [d1, d2, d3] }
  | _ => none }
def OrderRisesWrongFalsely : Prop := orderRisesRow.holds Try.pinned (OpenSpec.ofChange orderRisesWrong)

/-- 'arbiterlaw10.OrderFresh': WHATEVER THE INPUT: true; the input reads as it did. -/
def orderFreshSpec : ChangeSpec := { name := "orderFresh", fn := fun _ => fun
  | [d1, d2] => { results := [.lit (.bool true)], args := [d1, d2] }
  | _ => none }
def orderFreshRow : OpenClaim := { program := "ytkmnoiploeineaa", sum := "f8f7e7a18fce36d157324ecc00405159c7d50f20c2abeaed896cda95aef6cb29", func := "arbiter/arbiterlaw10.OrderFresh", spec := "orderFresh", unfollowed := true, recurses := true, apart := false }
def OrderFreshSaid : Prop := orderFreshRow.holds Try.pinned (OpenSpec.ofChange orderFreshSpec)

/-- ITS FALSE NEIGHBOUR: 'it returns false'. Refute it at one input. -/
def orderFreshWrong : ChangeSpec := { name := "orderFresh", fn := fun _ => fun
  | [d1, d2] => { results := [.lit (.bool false)], args := [d1, d2] }
  | _ => none }
def OrderFreshWrongFalsely : Prop := orderFreshRow.holds Try.pinned (OpenSpec.ofChange orderFreshWrong)

/-- 'arbiterlaw10.OrderSorts': WHATEVER THE INPUT: true; the input reads as it did. -/
def orderSortsSpec : ChangeSpec := { name := "orderSorts", fn := fun _ => fun
  | [d1, d2] => { results := [.lit (.bool true)], args := [d1, d2] }
  | _ => none }
def orderSortsRow : OpenClaim := { program := "ytkmnoiploeineaa", sum := "f8f7e7a18fce36d157324ecc00405159c7d50f20c2abeaed896cda95aef6cb29", func := "arbiter/arbiterlaw10.OrderSorts", spec := "orderSorts", inPlace := ["math.Float32bits"], unfollowed := true, recurses := true, apart := false }
def OrderSortsSaid : Prop := orderSortsRow.holds Try.pinned (OpenSpec.ofChange orderSortsSpec)

/-- ITS FALSE NEIGHBOUR: 'it returns false'. Refute it at one input. -/
def orderSortsWrong : ChangeSpec := { name := "orderSorts", fn := fun _ => fun
  | [d1, d2] => { results := [.lit (.bool false)], args := [d1, d2] }
  | _ => none }
def OrderSortsWrongFalsely : Prop := orderSortsRow.holds Try.pinned (OpenSpec.ofChange orderSortsWrong)

/-- 'arbiterlaw10.OrderActs': WHATEVER THE INPUT: true; the input reads as it did. -/
def orderActsSpec : ChangeSpec := { name := "orderActs", fn := fun _ => fun
  | [d1, d2, d3] => { results := [.lit (.bool true)], args := [d1, d2, d3] }
  | _ => none }
def orderActsRow : OpenClaim := { program := "ytkmnoiploeineaa", sum := "f8f7e7a18fce36d157324ecc00405159c7d50f20c2abeaed896cda95aef6cb29", func := "arbiter/arbiterlaw10.OrderActs", spec := "orderActs", inPlace := ["math.Float32bits"], unfollowed := true, recurses := true, apart := false }
def OrderActsSaid : Prop := orderActsRow.holds Try.pinned (OpenSpec.ofChange orderActsSpec)

/-- ITS FALSE NEIGHBOUR: 'it returns false'. Refute it at one input. -/
def orderActsWrong : ChangeSpec := { name := "orderActs", fn := fun _ => fun
  | [d1, d2, d3] => { results := [.lit (.bool false)], args := [d1, d2, d3] }
  | _ => none }
def OrderActsWrongFalsely : Prop := orderActsRow.holds Try.pinned (OpenSpec.ofChange orderActsWrong)

/-- 'arbiterlaw10.OrderTakes': WHATEVER THE INPUT: true; the input reads as it did. -/
def orderTakesSpec : ChangeSpec := { name := "orderTakes", fn := fun _ => fun
  | [d1, d2, d3] => { results := [.lit (.bool true)], args := [d1, d2, d3] }
  | _ => none }
def orderTakesRow : OpenClaim := { program := "ytkmnoiploeineaa", sum := "f8f7e7a18fce36d157324ecc00405159c7d50f20c2abeaed896cda95aef6cb29", func := "arbiter/arbiterlaw10.OrderTakes", spec := "orderTakes", inPlace := ["math.Float32bits"], unfollowed := true, recurses := true, apart := false }
def OrderTakesSaid : Prop := orderTakesRow.holds Try.pinned (OpenSpec.ofChange orderTakesSpec)

/-- ITS FALSE NEIGHBOUR: 'it returns false'. Refute it at one input. -/
def orderTakesWrong : ChangeSpec := { name := "orderTakes", fn := fun _ => fun
  | [d1, d2, d3] => { results := [.lit (.bool false)], args := [d1, d2, d3] }
  | _ => none }
def OrderTakesWrongFalsely : Prop := orderTakesRow.holds Try.pinned (OpenSpec.ofChange orderTakesWrong)

/-- 'arbiterlaw10.OrderPlays': WHATEVER THE INPUT: true; the input reads as it did. -/
def orderPlaysSpec : ChangeSpec := { name := "orderPlays", fn := fun _ => fun
  | [d1, d2, d3] => { results := [.lit (.bool true)], args := [d1, d2, d3] }
  | _ => none }
def orderPlaysRow : OpenClaim := { program := "ytkmnoiploeineaa", sum := "f8f7e7a18fce36d157324ecc00405159c7d50f20c2abeaed896cda95aef6cb29", func := "arbiter/arbiterlaw10.OrderPlays", spec := "orderPlays", inPlace := ["math.Float32bits"], unfollowed := true, recurses := true, apart := false }
def OrderPlaysSaid : Prop := orderPlaysRow.holds Try.pinned (OpenSpec.ofChange orderPlaysSpec)

/-- ITS FALSE NEIGHBOUR: 'it returns false'. Refute it at one input. -/
def orderPlaysWrong : ChangeSpec := { name := "orderPlays", fn := fun _ => fun
  | [d1, d2, d3] => { results := [.lit (.bool false)], args := [d1, d2, d3] }
  | _ => none }
def OrderPlaysWrongFalsely : Prop := orderPlaysRow.holds Try.pinned (OpenSpec.ofChange orderPlaysWrong)

/- THE SECOND FORM. 'bulk': how many values and letters a reading holds, each counted each time it is reached (what is shared counts as often as it is met; a slice's spare places count too). A statement '..UptoSaid' is the law's where the arguments, and the package variables that the reading takes, are together of bulk at most 1048576: NARROWER than '..Said'. Prove '..Said' where nothing that the law and all that it calls make is longer than what came in: it says more and counts as full. Else prove '..UptoSaid'. A law counts once. -/
mutual
def uptoBulk {H : Type} : DataW H → Nat
  | .lit (.string bytes) => bytes.length + 1
  | .lit _ => 1
  | .nil => 1
  | .ptr d => uptoBulk d + 1
  | .slice elems spare => uptoBulkAll elems + uptoBulkAll spare + 1
  | .agg parts => uptoBulkAll parts + 1
  | .iface _ d => uptoBulk d + 1
  | .map entries => uptoBulkEntries entries + 1
  | .held _ => 1
def uptoBulkAll {H : Type} : List (DataW H) → Nat
  | [] => 0
  | d :: r => uptoBulk d + uptoBulkAll r
def uptoBulkEntries {H : Type} : List (Lit × DataW H) → Nat
  | [] => 0
  | x :: r => uptoBulkEntry x + uptoBulkEntries r
def uptoBulkEntry {H : Type} : Lit × DataW H → Nat
  | (.string bytes, d) => bytes.length + uptoBulk d + 1
  | (_, d) => uptoBulk d + 1
 end
def uptoSmall : (H : Type) → List (DataW H) → Bool := fun _ ds => decide (uptoBulkAll ds ≤ 1048576)
def OpenSpec.upto (s : _root_.Go.ChangeSpec) : _root_.Go.OpenSpec := { _root_.Go.OpenSpec.ofChange s with cond := some uptoSmall }

/-- 'arbiterlaw10.OrderLubys', WHERE WHAT IT READS IS OF BULK AT MOST 1048576: true; the input reads as it did. -/
def orderLubysUptoRow : OpenClaim := { program := "ytkmnoiploeineaa", sum := "f8f7e7a18fce36d157324ecc00405159c7d50f20c2abeaed896cda95aef6cb29", func := "arbiter/arbiterlaw10.OrderLubys", spec := "orderLubys", apart := false, narrowed := true }
def OrderLubysUptoSaid : Prop := orderLubysUptoRow.holds Try.pinned (OpenSpec.upto orderLubysSpec)

/-- 'arbiterlaw10.OrderDoubles', WHERE WHAT IT READS IS OF BULK AT MOST 1048576: true; the input reads as it did. -/
def orderDoublesUptoRow : OpenClaim := { program := "ytkmnoiploeineaa", sum := "f8f7e7a18fce36d157324ecc00405159c7d50f20c2abeaed896cda95aef6cb29", func := "arbiter/arbiterlaw10.OrderDoubles", spec := "orderDoubles", apart := false, narrowed := true }
def OrderDoublesUptoSaid : Prop := orderDoublesUptoRow.holds Try.pinned (OpenSpec.upto orderDoublesSpec)

/-- 'arbiterlaw10.OrderRises', WHERE WHAT IT READS IS OF BULK AT MOST 1048576: true; the input reads as it did. -/
def orderRisesUptoRow : OpenClaim := { program := "ytkmnoiploeineaa", sum := "f8f7e7a18fce36d157324ecc00405159c7d50f20c2abeaed896cda95aef6cb29", func := "arbiter/arbiterlaw10.OrderRises", spec := "orderRises", inPlace := ["math.Float32bits"], unfollowed := true, recurses := true, apart := false, narrowed := true }
def OrderRisesUptoSaid : Prop := orderRisesUptoRow.holds Try.pinned (OpenSpec.upto orderRisesSpec)

/-- 'arbiterlaw10.OrderFresh', WHERE WHAT IT READS IS OF BULK AT MOST 1048576: true; the input reads as it did. -/
def orderFreshUptoRow : OpenClaim := { program := "ytkmnoiploeineaa", sum := "f8f7e7a18fce36d157324ecc00405159c7d50f20c2abeaed896cda95aef6cb29", func := "arbiter/arbiterlaw10.OrderFresh", spec := "orderFresh", unfollowed := true, recurses := true, apart := false, narrowed := true }
def OrderFreshUptoSaid : Prop := orderFreshUptoRow.holds Try.pinned (OpenSpec.upto orderFreshSpec)

/-- 'arbiterlaw10.OrderSorts', WHERE WHAT IT READS IS OF BULK AT MOST 1048576: true; the input reads as it did. -/
def orderSortsUptoRow : OpenClaim := { program := "ytkmnoiploeineaa", sum := "f8f7e7a18fce36d157324ecc00405159c7d50f20c2abeaed896cda95aef6cb29", func := "arbiter/arbiterlaw10.OrderSorts", spec := "orderSorts", inPlace := ["math.Float32bits"], unfollowed := true, recurses := true, apart := false, narrowed := true }
def OrderSortsUptoSaid : Prop := orderSortsUptoRow.holds Try.pinned (OpenSpec.upto orderSortsSpec)

/-- 'arbiterlaw10.OrderActs', WHERE WHAT IT READS IS OF BULK AT MOST 1048576: true; the input reads as it did. -/
def orderActsUptoRow : OpenClaim := { program := "ytkmnoiploeineaa", sum := "f8f7e7a18fce36d157324ecc00405159c7d50f20c2abeaed896cda95aef6cb29", func := "arbiter/arbiterlaw10.OrderActs", spec := "orderActs", inPlace := ["math.Float32bits"], unfollowed := true, recurses := true, apart := false, narrowed := true }
def OrderActsUptoSaid : Prop := orderActsUptoRow.holds Try.pinned (OpenSpec.upto orderActsSpec)

/-- 'arbiterlaw10.OrderTakes', WHERE WHAT IT READS IS OF BULK AT MOST 1048576: true; the input reads as it did. -/
def orderTakesUptoRow : OpenClaim := { program := "ytkmnoiploeineaa", sum := "f8f7e7a18fce36d157324ecc00405159c7d50f20c2abeaed896cda95aef6cb29", func := "arbiter/arbiterlaw10.OrderTakes", spec := "orderTakes", inPlace := ["math.Float32bits"], unfollowed := true, recurses := true, apart := false, narrowed := true }
def OrderTakesUptoSaid : Prop := orderTakesUptoRow.holds Try.pinned (OpenSpec.upto orderTakesSpec)

/-- 'arbiterlaw10.OrderPlays', WHERE WHAT IT READS IS OF BULK AT MOST 1048576: true; the input reads as it did. -/
def orderPlaysUptoRow : OpenClaim := { program := "ytkmnoiploeineaa", sum := "f8f7e7a18fce36d157324ecc00405159c7d50f20c2abeaed896cda95aef6cb29", func := "arbiter/arbiterlaw10.OrderPlays", spec := "orderPlays", inPlace := ["math.Float32bits"], unfollowed := true, recurses := true, apart := false, narrowed := true }
def OrderPlaysUptoSaid : Prop := orderPlaysUptoRow.holds Try.pinned (OpenSpec.upto orderPlaysSpec)

end Rows
end Go.Proofs.Ytkmnoiploeineaa
