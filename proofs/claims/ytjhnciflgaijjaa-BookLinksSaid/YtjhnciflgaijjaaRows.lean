/-
  No cell of these rows narrows 'for every input' (looked for: loops, veiled, ifaces, maps, wideKeys, modest, calm, conditions, laid).
  DERIVED. THE GIVEN ROWS OF THIS SEAT. 14 by the template 'for every input the law returns true; each argument reads behind the call as it read before'; 0 by the template 'total and deterministic' (their statements: YtjhnciflgaijjaaTotals.lean).
  GIVEN WITH THE SEED: the statements are not yours to turn. If you find one false, say at which input.
  Laid BY PROGRAM, IN A SANDBOX (cutbox-rows.mjs): the forced cells as the released guide's own fill.sh prints them over the translation 1f83364bc79f7be7… (all of the seat's roots in one cut). By AI agents, Wed Nov 11 2026. No macro, syntax, notation, axiom, sorry.
-/
import Derived.Test.YtjhnciflgaijjaaChecked
import GoSem.Claim
import GoSem.ClaimJoined
import GoSem.ClaimMapViews
import Derived.JoinedTies
import Derived.KernelRfl
namespace Go.Proofs.Ytjhnciflgaijjaa
/- THE CELL 'sum', in the pinned program and in every row, IS THE sha256 OF THE DUMP (.gsa) THAT YtjhnciflgaijjaaProg.lean LOADS. Nothing in Lean hashes anything: it is a label: what it is worth is what the hold of that sum in a sandbox is worth. -/
noncomputable def Try.pinned : Pinned := { name := "ytjhnciflgaijjaa", sum := "1f83364bc79f7be7bbe049d1c7ae9f076840a79463652205536cb6ba2b435453", checked := Try.checked }
namespace Rows
def none {H : Type} : Left H := { results := [], args := [] }

/-- 'scrivenerlaw22.AuditHeads': WHATEVER THE INPUT: true; the input reads as it did. -/
def auditHeadsSpec : ChangeSpec := { name := "auditHeads", fn := fun _ => fun
  | [d1, d2] => { results := [.lit (.bool true)], args := [d1, d2] }
  | _ => none }
def auditHeadsRow : OpenClaim := { program := "ytjhnciflgaijjaa", sum := "1f83364bc79f7be7bbe049d1c7ae9f076840a79463652205536cb6ba2b435453", func := "scrivener/scrivenerlaw22.AuditHeads", spec := "auditHeads", unfollowed := true, recurses := true, plainKeys := false, apart := false }
def AuditHeadsSaid : Prop := auditHeadsRow.holds Try.pinned (OpenSpec.ofChange auditHeadsSpec)

/-- ITS FALSE NEIGHBOUR: 'it returns false'. Refute it at one input. -/
def auditHeadsWrong : ChangeSpec := { name := "auditHeads", fn := fun _ => fun
  | [d1, d2] => { results := [.lit (.bool false)], args := [d1, d2] }
  | _ => none }
def AuditHeadsWrongFalsely : Prop := auditHeadsRow.holds Try.pinned (OpenSpec.ofChange auditHeadsWrong)

/-- 'scrivenerlaw12.PoolOwn': WHATEVER THE INPUT: true; the input reads as it did. -/
def poolOwnSpec : ChangeSpec := { name := "poolOwn", fn := fun _ => fun
  | [d1, d2] => { results := [.lit (.bool true)], args := [d1, d2] }
  | _ => none }
def poolOwnRow : OpenClaim := { program := "ytjhnciflgaijjaa", sum := "1f83364bc79f7be7bbe049d1c7ae9f076840a79463652205536cb6ba2b435453", func := "scrivener/scrivenerlaw12.PoolOwn", spec := "poolOwn", unfollowed := true, recurses := true, plainKeys := false, apart := false }
def PoolOwnSaid : Prop := poolOwnRow.holds Try.pinned (OpenSpec.ofChange poolOwnSpec)

/-- ITS FALSE NEIGHBOUR: 'it returns false'. Refute it at one input. -/
def poolOwnWrong : ChangeSpec := { name := "poolOwn", fn := fun _ => fun
  | [d1, d2] => { results := [.lit (.bool false)], args := [d1, d2] }
  | _ => none }
def PoolOwnWrongFalsely : Prop := poolOwnRow.holds Try.pinned (OpenSpec.ofChange poolOwnWrong)

/-- 'scrivenerlaw22.AuditEmpty': WHATEVER THE INPUT: true; the input reads as it did. -/
def auditEmptySpec : ChangeSpec := { name := "auditEmpty", fn := fun _ => fun
  | [d1, d2] => { results := [.lit (.bool true)], args := [d1, d2] }
  | _ => none }
def auditEmptyRow : OpenClaim := { program := "ytjhnciflgaijjaa", sum := "1f83364bc79f7be7bbe049d1c7ae9f076840a79463652205536cb6ba2b435453", func := "scrivener/scrivenerlaw22.AuditEmpty", spec := "auditEmpty", unfollowed := true, recurses := true, plainKeys := false, apart := false }
def AuditEmptySaid : Prop := auditEmptyRow.holds Try.pinned (OpenSpec.ofChange auditEmptySpec)

/-- ITS FALSE NEIGHBOUR: 'it returns false'. Refute it at one input. -/
def auditEmptyWrong : ChangeSpec := { name := "auditEmpty", fn := fun _ => fun
  | [d1, d2] => { results := [.lit (.bool false)], args := [d1, d2] }
  | _ => none }
def AuditEmptyWrongFalsely : Prop := auditEmptyRow.holds Try.pinned (OpenSpec.ofChange auditEmptyWrong)

/-- 'scrivenerlaw11.BookEntries': WHATEVER THE INPUT: true; the input reads as it did. -/
def bookEntriesSpec : ChangeSpec := { name := "bookEntries", fn := fun _ => fun
  | [d1, d2, d3] => { results := [.lit (.bool true)], args := [d1, d2, d3] }
  | _ => none }
def bookEntriesRow : OpenClaim := { program := "ytjhnciflgaijjaa", sum := "1f83364bc79f7be7bbe049d1c7ae9f076840a79463652205536cb6ba2b435453", func := "scrivener/scrivenerlaw11.BookEntries", spec := "bookEntries", unfollowed := true, recurses := true, plainKeys := false, apart := false }
def BookEntriesSaid : Prop := bookEntriesRow.holds Try.pinned (OpenSpec.ofChange bookEntriesSpec)

/-- ITS FALSE NEIGHBOUR: 'it returns false'. Refute it at one input. -/
def bookEntriesWrong : ChangeSpec := { name := "bookEntries", fn := fun _ => fun
  | [d1, d2, d3] => { results := [.lit (.bool false)], args := [d1, d2, d3] }
  | _ => none }
def BookEntriesWrongFalsely : Prop := bookEntriesRow.holds Try.pinned (OpenSpec.ofChange bookEntriesWrong)

/-- 'scrivenerlaw11.BookBatches': WHATEVER THE INPUT: true; the input reads as it did. -/
def bookBatchesSpec : ChangeSpec := { name := "bookBatches", fn := fun _ => fun
  | [d1, d2, d3] => { results := [.lit (.bool true)], args := [d1, d2, d3] }
  | _ => none }
def bookBatchesRow : OpenClaim := { program := "ytjhnciflgaijjaa", sum := "1f83364bc79f7be7bbe049d1c7ae9f076840a79463652205536cb6ba2b435453", func := "scrivener/scrivenerlaw11.BookBatches", spec := "bookBatches", unfollowed := true, recurses := true, plainKeys := false, apart := false }
def BookBatchesSaid : Prop := bookBatchesRow.holds Try.pinned (OpenSpec.ofChange bookBatchesSpec)

/-- ITS FALSE NEIGHBOUR: 'it returns false'. Refute it at one input. -/
def bookBatchesWrong : ChangeSpec := { name := "bookBatches", fn := fun _ => fun
  | [d1, d2, d3] => { results := [.lit (.bool false)], args := [d1, d2, d3] }
  | _ => none }
def BookBatchesWrongFalsely : Prop := bookBatchesRow.holds Try.pinned (OpenSpec.ofChange bookBatchesWrong)

/-- 'scrivenerlaw11.BookMany': WHATEVER THE INPUT: true; the input reads as it did. -/
def bookManySpec : ChangeSpec := { name := "bookMany", fn := fun _ => fun
  | [d1, d2] => { results := [.lit (.bool true)], args := [d1, d2] }
  | _ => none }
def bookManyRow : OpenClaim := { program := "ytjhnciflgaijjaa", sum := "1f83364bc79f7be7bbe049d1c7ae9f076840a79463652205536cb6ba2b435453", func := "scrivener/scrivenerlaw11.BookMany", spec := "bookMany", unfollowed := true, recurses := true, plainKeys := false, apart := false }
def BookManySaid : Prop := bookManyRow.holds Try.pinned (OpenSpec.ofChange bookManySpec)

/-- ITS FALSE NEIGHBOUR: 'it returns false'. Refute it at one input. -/
def bookManyWrong : ChangeSpec := { name := "bookMany", fn := fun _ => fun
  | [d1, d2] => { results := [.lit (.bool false)], args := [d1, d2] }
  | _ => none }
def BookManyWrongFalsely : Prop := bookManyRow.holds Try.pinned (OpenSpec.ofChange bookManyWrong)

/-- 'scrivenerlaw22.AuditBook': WHATEVER THE INPUT: true; the input reads as it did. -/
def auditBookSpec : ChangeSpec := { name := "auditBook", fn := fun _ => fun
  | [d1, d2] => { results := [.lit (.bool true)], args := [d1, d2] }
  | _ => none }
def auditBookRow : OpenClaim := { program := "ytjhnciflgaijjaa", sum := "1f83364bc79f7be7bbe049d1c7ae9f076840a79463652205536cb6ba2b435453", func := "scrivener/scrivenerlaw22.AuditBook", spec := "auditBook", unfollowed := true, recurses := true, plainKeys := false, apart := false }
def AuditBookSaid : Prop := auditBookRow.holds Try.pinned (OpenSpec.ofChange auditBookSpec)

/-- ITS FALSE NEIGHBOUR: 'it returns false'. Refute it at one input. -/
def auditBookWrong : ChangeSpec := { name := "auditBook", fn := fun _ => fun
  | [d1, d2] => { results := [.lit (.bool false)], args := [d1, d2] }
  | _ => none }
def AuditBookWrongFalsely : Prop := auditBookRow.holds Try.pinned (OpenSpec.ofChange auditBookWrong)

/-- 'scrivenerlaw11.BookOnce': WHATEVER THE INPUT: true; the input reads as it did. -/
def bookOnceSpec : ChangeSpec := { name := "bookOnce", fn := fun _ => fun
  | [d] => { results := [.lit (.bool true)], args := [d] }
  | _ => none }
def bookOnceRow : OpenClaim := { program := "ytjhnciflgaijjaa", sum := "1f83364bc79f7be7bbe049d1c7ae9f076840a79463652205536cb6ba2b435453", func := "scrivener/scrivenerlaw11.BookOnce", spec := "bookOnce", unfollowed := true, recurses := true, plainKeys := false, apart := false }
def BookOnceSaid : Prop := bookOnceRow.holds Try.pinned (OpenSpec.ofChange bookOnceSpec)

/-- ITS FALSE NEIGHBOUR: 'it returns false'. Refute it at one input. -/
def bookOnceWrong : ChangeSpec := { name := "bookOnce", fn := fun _ => fun
  | [d] => { results := [.lit (.bool false)], args := [d] }
  | _ => none }
def BookOnceWrongFalsely : Prop := bookOnceRow.holds Try.pinned (OpenSpec.ofChange bookOnceWrong)

/-- 'scrivenerlaw11.BookPlays': WHATEVER THE INPUT: true; the input reads as it did. -/
def bookPlaysSpec : ChangeSpec := { name := "bookPlays", fn := fun _ => fun
  | [d1, d2] => { results := [.lit (.bool true)], args := [d1, d2] }
  | _ => none }
def bookPlaysRow : OpenClaim := { program := "ytjhnciflgaijjaa", sum := "1f83364bc79f7be7bbe049d1c7ae9f076840a79463652205536cb6ba2b435453", func := "scrivener/scrivenerlaw11.BookPlays", spec := "bookPlays", unfollowed := true, recurses := true, plainKeys := false, apart := false }
def BookPlaysSaid : Prop := bookPlaysRow.holds Try.pinned (OpenSpec.ofChange bookPlaysSpec)

/-- ITS FALSE NEIGHBOUR: 'it returns false'. Refute it at one input. -/
def bookPlaysWrong : ChangeSpec := { name := "bookPlays", fn := fun _ => fun
  | [d1, d2] => { results := [.lit (.bool false)], args := [d1, d2] }
  | _ => none }
def BookPlaysWrongFalsely : Prop := bookPlaysRow.holds Try.pinned (OpenSpec.ofChange bookPlaysWrong)

/-- 'scrivenerlaw11.BookLinks': WHATEVER THE INPUT: true; the input reads as it did. -/
def bookLinksSpec : ChangeSpec := { name := "bookLinks", fn := fun _ => fun
  | [d] => { results := [.lit (.bool true)], args := [d] }
  | _ => none }
def bookLinksRow : OpenClaim := { program := "ytjhnciflgaijjaa", sum := "1f83364bc79f7be7bbe049d1c7ae9f076840a79463652205536cb6ba2b435453", func := "scrivener/scrivenerlaw11.BookLinks", spec := "bookLinks", unfollowed := true, recurses := true, plainKeys := false, apart := false }
def BookLinksSaid : Prop := bookLinksRow.holds Try.pinned (OpenSpec.ofChange bookLinksSpec)

/-- ITS FALSE NEIGHBOUR: 'it returns false'. Refute it at one input. -/
def bookLinksWrong : ChangeSpec := { name := "bookLinks", fn := fun _ => fun
  | [d] => { results := [.lit (.bool false)], args := [d] }
  | _ => none }
def BookLinksWrongFalsely : Prop := bookLinksRow.holds Try.pinned (OpenSpec.ofChange bookLinksWrong)

/-- 'scrivenerlaw12.PoolPlays': WHATEVER THE INPUT: true; the input reads as it did. -/
def poolPlaysSpec : ChangeSpec := { name := "poolPlays", fn := fun _ => fun
  | [d1, d2] => { results := [.lit (.bool true)], args := [d1, d2] }
  | _ => none }
def poolPlaysRow : OpenClaim := { program := "ytjhnciflgaijjaa", sum := "1f83364bc79f7be7bbe049d1c7ae9f076840a79463652205536cb6ba2b435453", func := "scrivener/scrivenerlaw12.PoolPlays", spec := "poolPlays", unfollowed := true, recurses := true, plainKeys := false, apart := false }
def PoolPlaysSaid : Prop := poolPlaysRow.holds Try.pinned (OpenSpec.ofChange poolPlaysSpec)

/-- ITS FALSE NEIGHBOUR: 'it returns false'. Refute it at one input. -/
def poolPlaysWrong : ChangeSpec := { name := "poolPlays", fn := fun _ => fun
  | [d1, d2] => { results := [.lit (.bool false)], args := [d1, d2] }
  | _ => none }
def PoolPlaysWrongFalsely : Prop := poolPlaysRow.holds Try.pinned (OpenSpec.ofChange poolPlaysWrong)

/-- 'scrivenerlaw12.PoolBounds': WHATEVER THE INPUT: true; the input reads as it did. -/
def poolBoundsSpec : ChangeSpec := { name := "poolBounds", fn := fun _ => fun
  | [d] => { results := [.lit (.bool true)], args := [d] }
  | _ => none }
def poolBoundsRow : OpenClaim := { program := "ytjhnciflgaijjaa", sum := "1f83364bc79f7be7bbe049d1c7ae9f076840a79463652205536cb6ba2b435453", func := "scrivener/scrivenerlaw12.PoolBounds", spec := "poolBounds", unfollowed := true, recurses := true, plainKeys := false, apart := false }
def PoolBoundsSaid : Prop := poolBoundsRow.holds Try.pinned (OpenSpec.ofChange poolBoundsSpec)

/-- ITS FALSE NEIGHBOUR: 'it returns false'. Refute it at one input. -/
def poolBoundsWrong : ChangeSpec := { name := "poolBounds", fn := fun _ => fun
  | [d] => { results := [.lit (.bool false)], args := [d] }
  | _ => none }
def PoolBoundsWrongFalsely : Prop := poolBoundsRow.holds Try.pinned (OpenSpec.ofChange poolBoundsWrong)

/-- 'scrivenerlaw12.PoolQuota': WHATEVER THE INPUT: true; the input reads as it did. -/
def poolQuotaSpec : ChangeSpec := { name := "poolQuota", fn := fun _ => fun
  | [d] => { results := [.lit (.bool true)], args := [d] }
  | _ => none }
def poolQuotaRow : OpenClaim := { program := "ytjhnciflgaijjaa", sum := "1f83364bc79f7be7bbe049d1c7ae9f076840a79463652205536cb6ba2b435453", func := "scrivener/scrivenerlaw12.PoolQuota", spec := "poolQuota", unfollowed := true, recurses := true, plainKeys := false, apart := false }
def PoolQuotaSaid : Prop := poolQuotaRow.holds Try.pinned (OpenSpec.ofChange poolQuotaSpec)

/-- ITS FALSE NEIGHBOUR: 'it returns false'. Refute it at one input. -/
def poolQuotaWrong : ChangeSpec := { name := "poolQuota", fn := fun _ => fun
  | [d] => { results := [.lit (.bool false)], args := [d] }
  | _ => none }
def PoolQuotaWrongFalsely : Prop := poolQuotaRow.holds Try.pinned (OpenSpec.ofChange poolQuotaWrong)

/-- 'scrivenerlaw12.PoolFair': WHATEVER THE INPUT: true; the input reads as it did. -/
def poolFairSpec : ChangeSpec := { name := "poolFair", fn := fun _ => fun
  | [d] => { results := [.lit (.bool true)], args := [d] }
  | _ => none }
def poolFairRow : OpenClaim := { program := "ytjhnciflgaijjaa", sum := "1f83364bc79f7be7bbe049d1c7ae9f076840a79463652205536cb6ba2b435453", func := "scrivener/scrivenerlaw12.PoolFair", spec := "poolFair", unfollowed := true, recurses := true, plainKeys := false, apart := false }
def PoolFairSaid : Prop := poolFairRow.holds Try.pinned (OpenSpec.ofChange poolFairSpec)

/-- ITS FALSE NEIGHBOUR: 'it returns false'. Refute it at one input. -/
def poolFairWrong : ChangeSpec := { name := "poolFair", fn := fun _ => fun
  | [d] => { results := [.lit (.bool false)], args := [d] }
  | _ => none }
def PoolFairWrongFalsely : Prop := poolFairRow.holds Try.pinned (OpenSpec.ofChange poolFairWrong)

/- THE SECOND FORM. 'bulk': how many values and letters a reading holds, each counted each time it is reached (what is shared counts as often as it is met; a slice's spare places count too). A statement '..UptoSaid' is the law's where the arguments, and the package variables that the reading takes, are together of bulk at most 1048576: NARROWER than '..Said'. Prove '..Said' where nothing that the law and all that it calls make is longer than what came in: it says more and counts as full. Else prove '..UptoSaid'. A law counts once. -/
mutual
def uptoBulk {H : Type} : DataW H → Nat
  | .lit (.string bytes) => bytes.length + 1
  | .lit _ => 1
  | .nil => 1
  | .ptr d => uptoBulk d + 1
  | .slice elems spare => uptoBulkAll elems + uptoBulkAll spare + 1
  | .agg parts => uptoBulkAll parts + 1
  | .iface _ d => uptoBulk d + 1
  | .map entries => uptoBulkEntries entries + 1
  | .held _ => 1
def uptoBulkAll {H : Type} : List (DataW H) → Nat
  | [] => 0
  | d :: r => uptoBulk d + uptoBulkAll r
def uptoBulkEntries {H : Type} : List (Lit × DataW H) → Nat
  | [] => 0
  | x :: r => uptoBulkEntry x + uptoBulkEntries r
def uptoBulkEntry {H : Type} : Lit × DataW H → Nat
  | (.string bytes, d) => bytes.length + uptoBulk d + 1
  | (_, d) => uptoBulk d + 1
 end
def uptoSmall : (H : Type) → List (DataW H) → Bool := fun _ ds => decide (uptoBulkAll ds ≤ 1048576)
def OpenSpec.upto (s : _root_.Go.ChangeSpec) : _root_.Go.OpenSpec := { _root_.Go.OpenSpec.ofChange s with cond := some uptoSmall }

/-- 'scrivenerlaw22.AuditHeads', WHERE WHAT IT READS IS OF BULK AT MOST 1048576: true; the input reads as it did. -/
def auditHeadsUptoRow : OpenClaim := { program := "ytjhnciflgaijjaa", sum := "1f83364bc79f7be7bbe049d1c7ae9f076840a79463652205536cb6ba2b435453", func := "scrivener/scrivenerlaw22.AuditHeads", spec := "auditHeads", unfollowed := true, recurses := true, plainKeys := false, apart := false, narrowed := true }
def AuditHeadsUptoSaid : Prop := auditHeadsUptoRow.holds Try.pinned (OpenSpec.upto auditHeadsSpec)

/-- 'scrivenerlaw12.PoolOwn', WHERE WHAT IT READS IS OF BULK AT MOST 1048576: true; the input reads as it did. -/
def poolOwnUptoRow : OpenClaim := { program := "ytjhnciflgaijjaa", sum := "1f83364bc79f7be7bbe049d1c7ae9f076840a79463652205536cb6ba2b435453", func := "scrivener/scrivenerlaw12.PoolOwn", spec := "poolOwn", unfollowed := true, recurses := true, plainKeys := false, apart := false, narrowed := true }
def PoolOwnUptoSaid : Prop := poolOwnUptoRow.holds Try.pinned (OpenSpec.upto poolOwnSpec)

/-- 'scrivenerlaw22.AuditEmpty', WHERE WHAT IT READS IS OF BULK AT MOST 1048576: true; the input reads as it did. -/
def auditEmptyUptoRow : OpenClaim := { program := "ytjhnciflgaijjaa", sum := "1f83364bc79f7be7bbe049d1c7ae9f076840a79463652205536cb6ba2b435453", func := "scrivener/scrivenerlaw22.AuditEmpty", spec := "auditEmpty", unfollowed := true, recurses := true, plainKeys := false, apart := false, narrowed := true }
def AuditEmptyUptoSaid : Prop := auditEmptyUptoRow.holds Try.pinned (OpenSpec.upto auditEmptySpec)

/-- 'scrivenerlaw11.BookEntries', WHERE WHAT IT READS IS OF BULK AT MOST 1048576: true; the input reads as it did. -/
def bookEntriesUptoRow : OpenClaim := { program := "ytjhnciflgaijjaa", sum := "1f83364bc79f7be7bbe049d1c7ae9f076840a79463652205536cb6ba2b435453", func := "scrivener/scrivenerlaw11.BookEntries", spec := "bookEntries", unfollowed := true, recurses := true, plainKeys := false, apart := false, narrowed := true }
def BookEntriesUptoSaid : Prop := bookEntriesUptoRow.holds Try.pinned (OpenSpec.upto bookEntriesSpec)

/-- 'scrivenerlaw11.BookBatches', WHERE WHAT IT READS IS OF BULK AT MOST 1048576: true; the input reads as it did. -/
def bookBatchesUptoRow : OpenClaim := { program := "ytjhnciflgaijjaa", sum := "1f83364bc79f7be7bbe049d1c7ae9f076840a79463652205536cb6ba2b435453", func := "scrivener/scrivenerlaw11.BookBatches", spec := "bookBatches", unfollowed := true, recurses := true, plainKeys := false, apart := false, narrowed := true }
def BookBatchesUptoSaid : Prop := bookBatchesUptoRow.holds Try.pinned (OpenSpec.upto bookBatchesSpec)

/-- 'scrivenerlaw11.BookMany', WHERE WHAT IT READS IS OF BULK AT MOST 1048576: true; the input reads as it did. -/
def bookManyUptoRow : OpenClaim := { program := "ytjhnciflgaijjaa", sum := "1f83364bc79f7be7bbe049d1c7ae9f076840a79463652205536cb6ba2b435453", func := "scrivener/scrivenerlaw11.BookMany", spec := "bookMany", unfollowed := true, recurses := true, plainKeys := false, apart := false, narrowed := true }
def BookManyUptoSaid : Prop := bookManyUptoRow.holds Try.pinned (OpenSpec.upto bookManySpec)

/-- 'scrivenerlaw22.AuditBook', WHERE WHAT IT READS IS OF BULK AT MOST 1048576: true; the input reads as it did. -/
def auditBookUptoRow : OpenClaim := { program := "ytjhnciflgaijjaa", sum := "1f83364bc79f7be7bbe049d1c7ae9f076840a79463652205536cb6ba2b435453", func := "scrivener/scrivenerlaw22.AuditBook", spec := "auditBook", unfollowed := true, recurses := true, plainKeys := false, apart := false, narrowed := true }
def AuditBookUptoSaid : Prop := auditBookUptoRow.holds Try.pinned (OpenSpec.upto auditBookSpec)

/-- 'scrivenerlaw11.BookOnce', WHERE WHAT IT READS IS OF BULK AT MOST 1048576: true; the input reads as it did. -/
def bookOnceUptoRow : OpenClaim := { program := "ytjhnciflgaijjaa", sum := "1f83364bc79f7be7bbe049d1c7ae9f076840a79463652205536cb6ba2b435453", func := "scrivener/scrivenerlaw11.BookOnce", spec := "bookOnce", unfollowed := true, recurses := true, plainKeys := false, apart := false, narrowed := true }
def BookOnceUptoSaid : Prop := bookOnceUptoRow.holds Try.pinned (OpenSpec.upto bookOnceSpec)

/-- 'scrivenerlaw11.BookPlays', WHERE WHAT IT READS IS OF BULK AT MOST 1048576: true; the input reads as it did. -/
def bookPlaysUptoRow : OpenClaim := { program := "ytjhnciflgaijjaa", sum := "1f83364bc79f7be7bbe049d1c7ae9f076840a79463652205536cb6ba2b435453", func := "scrivener/scrivenerlaw11.BookPlays", spec := "bookPlays", unfollowed := true, recurses := true, plainKeys := false, apart := false, narrowed := true }
def BookPlaysUptoSaid : Prop := bookPlaysUptoRow.holds Try.pinned (OpenSpec.upto bookPlaysSpec)

/-- 'scrivenerlaw11.BookLinks', WHERE WHAT IT READS IS OF BULK AT MOST 1048576: true; the input reads as it did. -/
def bookLinksUptoRow : OpenClaim := { program := "ytjhnciflgaijjaa", sum := "1f83364bc79f7be7bbe049d1c7ae9f076840a79463652205536cb6ba2b435453", func := "scrivener/scrivenerlaw11.BookLinks", spec := "bookLinks", unfollowed := true, recurses := true, plainKeys := false, apart := false, narrowed := true }
def BookLinksUptoSaid : Prop := bookLinksUptoRow.holds Try.pinned (OpenSpec.upto bookLinksSpec)

/-- 'scrivenerlaw12.PoolPlays', WHERE WHAT IT READS IS OF BULK AT MOST 1048576: true; the input reads as it did. -/
def poolPlaysUptoRow : OpenClaim := { program := "ytjhnciflgaijjaa", sum := "1f83364bc79f7be7bbe049d1c7ae9f076840a79463652205536cb6ba2b435453", func := "scrivener/scrivenerlaw12.PoolPlays", spec := "poolPlays", unfollowed := true, recurses := true, plainKeys := false, apart := false, narrowed := true }
def PoolPlaysUptoSaid : Prop := poolPlaysUptoRow.holds Try.pinned (OpenSpec.upto poolPlaysSpec)

/-- 'scrivenerlaw12.PoolBounds', WHERE WHAT IT READS IS OF BULK AT MOST 1048576: true; the input reads as it did. -/
def poolBoundsUptoRow : OpenClaim := { program := "ytjhnciflgaijjaa", sum := "1f83364bc79f7be7bbe049d1c7ae9f076840a79463652205536cb6ba2b435453", func := "scrivener/scrivenerlaw12.PoolBounds", spec := "poolBounds", unfollowed := true, recurses := true, plainKeys := false, apart := false, narrowed := true }
def PoolBoundsUptoSaid : Prop := poolBoundsUptoRow.holds Try.pinned (OpenSpec.upto poolBoundsSpec)

/-- 'scrivenerlaw12.PoolQuota', WHERE WHAT IT READS IS OF BULK AT MOST 1048576: true; the input reads as it did. -/
def poolQuotaUptoRow : OpenClaim := { program := "ytjhnciflgaijjaa", sum := "1f83364bc79f7be7bbe049d1c7ae9f076840a79463652205536cb6ba2b435453", func := "scrivener/scrivenerlaw12.PoolQuota", spec := "poolQuota", unfollowed := true, recurses := true, plainKeys := false, apart := false, narrowed := true }
def PoolQuotaUptoSaid : Prop := poolQuotaUptoRow.holds Try.pinned (OpenSpec.upto poolQuotaSpec)

/-- 'scrivenerlaw12.PoolFair', WHERE WHAT IT READS IS OF BULK AT MOST 1048576: true; the input reads as it did. -/
def poolFairUptoRow : OpenClaim := { program := "ytjhnciflgaijjaa", sum := "1f83364bc79f7be7bbe049d1c7ae9f076840a79463652205536cb6ba2b435453", func := "scrivener/scrivenerlaw12.PoolFair", spec := "poolFair", unfollowed := true, recurses := true, plainKeys := false, apart := false, narrowed := true }
def PoolFairUptoSaid : Prop := poolFairUptoRow.holds Try.pinned (OpenSpec.upto poolFairSpec)

end Rows
end Go.Proofs.Ytjhnciflgaijjaa
