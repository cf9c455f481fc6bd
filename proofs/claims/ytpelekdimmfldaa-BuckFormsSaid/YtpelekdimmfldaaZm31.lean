/- A part of the proof of BuckForms: walks of the functions that it reaches. No condition. -/
import Derived.Test.YtpelekdimmfldaaZm30
namespace Go.Proofs.Zm
open Go.RowKit Go.Proofs
set_option linter.unusedVariables false
/-! # Within a region that draws: a row whose right is forgotten, and the state before it -/
section
variable {P : Program} {w0 : World} {n : Nat} {Q : ZPost} {env : Env} {st : St} {ops : Array Oper} {fuel : Nat} {listed : Array Bool}
theorem fzt_head {t k tk : Nat} {xs : List (List D)} : FzT ((t, .row xs k tk) :: env) [] ((t, .row xs k 0) :: env) := fun s d' e => by
  unfold zlook at e
  split at e
  · rename_i hk
    subst hk
    cases e
    exact ⟨_, by unfold zlook; exact if_pos rfl, .inr ⟨_, _, _, rfl, rfl⟩⟩
  · rename_i hk
    exact ⟨d', by unfold zlook; rw [if_neg hk]; exact e, .inl rfl⟩
theorem za_untok {t k tk : Nat} {xs : List (List D)} (st' : St) (hE : Ext st' st) (h : ZAny P w0 n ops Q fuel listed ((t, .row xs k 0) :: env) st') : ZAny P w0 n ops Q fuel listed ((t, .row xs k tk) :: env) st :=
  za_forget st' hE.H hE.T fun G w a h1 h2 h3 => h G w a h1 (fzt_head.ok h2) h3
end
end Go.Proofs.Zm
