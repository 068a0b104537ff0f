/- What a bulk at most so great comes to. -/
import Derived.Test.YtnogkphkjkbbhaaRows
import Derived.Test.YtnogkphkjkbbhaaSvBase
namespace Go.Sv.Try
open Go
theorem bulkW_eq {H : Type} : (∀ d : DataW H, bulkW d ≤ Go.Proofs.Ytnogkphkjkbbhaa.Rows.uptoBulk d) ∧ ∀ l : List (DataW H), bulkWs l ≤ Go.Proofs.Ytnogkphkjkbbhaa.Rows.uptoBulkAll l := by
  have key : ∀ n : Nat, (∀ d : DataW H, bulkW d ≤ n → bulkW d ≤ Go.Proofs.Ytnogkphkjkbbhaa.Rows.uptoBulk d) ∧ ∀ l : List (DataW H), bulkWs l ≤ n → bulkWs l ≤ Go.Proofs.Ytnogkphkjkbbhaa.Rows.uptoBulkAll l := by
    intro n
    induction n with
    | zero =>
      refine ⟨fun d h => by omega, fun l h => by omega⟩
    | succ n ih =>
      have hd : ∀ d : DataW H, bulkW d ≤ n + 1 → bulkW d ≤ Go.Proofs.Ytnogkphkjkbbhaa.Rows.uptoBulk d := by
        intro d h
        match d, h with
        | .lit (.string b), h => unfold bulkW Go.Proofs.Ytnogkphkjkbbhaa.Rows.uptoBulk; exact Nat.le_refl _
        | .lit (.bool b), h => unfold bulkW Go.Proofs.Ytnogkphkjkbbhaa.Rows.uptoBulk; exact Nat.le_refl _
        | .lit (.int k b), h => unfold bulkW Go.Proofs.Ytnogkphkjkbbhaa.Rows.uptoBulk; exact Nat.le_refl _
        | .lit (.float k b), h => unfold bulkW Go.Proofs.Ytnogkphkjkbbhaa.Rows.uptoBulk; exact Nat.le_refl _
        | .lit .nil, h => unfold bulkW Go.Proofs.Ytnogkphkjkbbhaa.Rows.uptoBulk; exact Nat.le_refl _
        | .nil, h => unfold bulkW Go.Proofs.Ytnogkphkjkbbhaa.Rows.uptoBulk; exact Nat.le_refl _
        | .ptr d, h => unfold bulkW at h ⊢; unfold Go.Proofs.Ytnogkphkjkbbhaa.Rows.uptoBulk; have := ih.1 d (by omega); omega
        | .slice a b, h => unfold bulkW at h ⊢; unfold Go.Proofs.Ytnogkphkjkbbhaa.Rows.uptoBulk; have := ih.2 a (by omega); have := ih.2 b (by omega); omega
        | .agg a, h => unfold bulkW at h ⊢; unfold Go.Proofs.Ytnogkphkjkbbhaa.Rows.uptoBulk; have := ih.2 a (by omega); omega
        | .iface t d, h => unfold bulkW at h ⊢; unfold Go.Proofs.Ytnogkphkjkbbhaa.Rows.uptoBulk; have := ih.1 d (by omega); omega
        | .map es, h => unfold bulkW Go.Proofs.Ytnogkphkjkbbhaa.Rows.uptoBulk; omega
        | .held x, h => unfold bulkW Go.Proofs.Ytnogkphkjkbbhaa.Rows.uptoBulk; exact Nat.le_refl _
      refine ⟨hd, fun l => ?_⟩
      induction l with
      | nil => intro _; unfold bulkWs; omega
      | cons d l ihl => intro h; unfold bulkWs at h ⊢; unfold Go.Proofs.Ytnogkphkjkbbhaa.Rows.uptoBulkAll; have := hd d (by omega); have := ihl (by omega); omega
  exact ⟨fun d => (key _).1 d (Nat.le_refl _), fun l => (key _).2 l (Nat.le_refl _)⟩
theorem upto_app {H : Type} : ∀ a b : List (DataW H), Go.Proofs.Ytnogkphkjkbbhaa.Rows.uptoBulkAll a ≤ Go.Proofs.Ytnogkphkjkbbhaa.Rows.uptoBulkAll (a ++ b)
  | [], b => by unfold Go.Proofs.Ytnogkphkjkbbhaa.Rows.uptoBulkAll; omega
  | d :: a, b => by
    have := upto_app a b
    rw [List.cons_append]
    unfold Go.Proofs.Ytnogkphkjkbbhaa.Rows.uptoBulkAll
    omega
theorem bulk_small {H : Type} {ds gs : List (DataW H)} (h : Go.Proofs.Ytnogkphkjkbbhaa.Rows.uptoSmall H (ds ++ gs) = true) : bulkWs ds ≤ 1048576 := by
  have h1 : Go.Proofs.Ytnogkphkjkbbhaa.Rows.uptoBulkAll (ds ++ gs) ≤ 1048576 := of_decide_eq_true h
  exact Nat.le_trans (bulkW_eq.2 ds) (Nat.le_trans (upto_app ds gs) h1)
theorem ro_var {A : AS} (h : Go.Sv.Start A) : ∀ (i : Nat) cs, A.blk[i]? = some ⟨cs, .var⟩ → roHp A i = none := fun i cs q => by
  have := h.ro i _ q; simp at this
end Go.Sv.Try
