/- The framework's twenty-ninth part: slots that are told less sharply (nil as a row, rows without their rights, within structs, too). -/
import Derived.Test.YtpelekdimmfldaaZm28
namespace Go.Proofs.Zm
open Go.RowKit
set_option linter.unusedVariables false

/-- What stands for a value by d does so by d', too. -/
def DLe (d d' : D) : Prop := ∀ G u, VR G d u → VR G d' u
theorem DLe.refl (d : D) : DLe d d := fun _ _ h => h
theorem DLe.nil (k : Nat) : DLe (.v (.slice none 0 0)) (.row [] k 0) := fun G u h => by
  have := h.eq_v; subst this; exact .rowNil k 0 (.inl rfl)
theorem DLe.tok {xs : List (List D)} {k t : Nat} : DLe (.row xs k t) (.row xs k 0) := fun G u h => h.notok
inductive DLes : List D → List D → Prop where
  | nil : DLes [] []
  | cons {d e : D} {ds es : List D} (h : DLe d e) (hs : DLes ds es) : DLes (d :: ds) (e :: es)
theorem DLes.length {ds es : List D} (h : DLes ds es) : ds.length = es.length := by
  induction h with
  | nil => rfl
  | cons _ _ ih => simp [ih]
theorem DLes.get {ds es : List D} (h : DLes ds es) : ∀ (j : Nat) (e : D), es[j]? = some e → ∃ d, ds[j]? = some d ∧ DLe d e := by
  induction h with
  | nil => intro j e h; simp at h
  | cons h _ ih =>
    intro j e hj
    cases j with
    | zero => cases hj; exact ⟨_, rfl, h⟩
    | succ j => exact ih j e (by simpa using hj)
theorem DLe.agg {ds es : List D} (h : DLes ds es) : DLe (.agg ds) (.agg es) := fun G u hv => by
  cases hv with
  | agg _ us hl hvs =>
    refine .agg _ _ (by rw [← h.length]; exact hl) fun j e u h1 h2 => ?_
    obtain ⟨d, h3, h4⟩ := h.get j e h1
    exact h4 G u (hvs j d u h3 h2)
theorem DLe.tup {ds es : List D} (h : DLes ds es) : DLe (.tup ds) (.tup es) := fun G u hv => by
  cases hv with
  | tup _ us hl hvs =>
    refine .tup _ _ (by rw [← h.length]; exact hl) fun j e u h1 h2 => ?_
    obtain ⟨d, h3, h4⟩ := h.get j e h1
    exact h4 G u (hvs j d u h3 h2)

def FzL (env : Env) (ks : List Nat) (env1 : Env) : Prop := ∀ t d', zlook env1 t = some d' → ∃ d, zlook env t = some d ∧ DLe d d'
section
variable {P : Program} {w0 : World} {n : Nat} {env : Env} {st : St} {Q : ZPost} {ops : Array Oper}
theorem fzl_nil : FzL env [] [] := fun t d h => by simp [zlook] at h
theorem fzl_cons {s : Nat} {ks : List Nat} {d d' : D} {r : Env} (h : zlook env s = some d) (hd : DLe d d') (hs : FzL env ks r) : FzL env (s :: ks) ((s, d') :: r) := fun t d2 e => by
  unfold zlook at e
  split at e
  · rename_i hk; subst hk; cases e; exact ⟨d, h, hd⟩
  · exact hs t d2 e
theorem fzl_same {s : Nat} {ks : List Nat} {d : D} {r : Env} (h : zlook env s = some d) (hs : FzL env ks r) : FzL env (s :: ks) ((s, d) :: r) := fzl_cons h (DLe.refl d) hs
theorem fzl_skip {s : Nat} {ks : List Nat} {r : Env} (hs : FzL env ks r) : FzL env (s :: ks) r := hs
theorem FzL.ok {G : Gh} {ks : List Nat} {env1 : Env} {tmps : Array Value} (hE : FzL env ks env1) (he : ER G n env tmps) : ER G n env1 tmps := ⟨he.size, fun s d' e => by
  obtain ⟨d, h1, h2⟩ := hE s d' e
  obtain ⟨u, hu, hv⟩ := he.at_ s d h1
  exact ⟨u, hu, h2 G u hv⟩⟩
theorem zr_le {cd : Code} {env1 : Env} (ks : List Nat) (hE : FzL env ks env1) (h : ZWp P w0 n cd Q env1 st) : ZWp P w0 n cd Q env st := fun G w a h1 h2 h3 => h G w a h1 (hE.ok h2) h3
theorem zo_le {l : List Oper} {env1 : Env} (ks : List Nat) (hE : FzL env ks env1) (h : ZOps P w0 n ops l Q env1 st) : ZOps P w0 n ops l Q env st := fun G w a h1 h2 h3 => h G w a h1 (hE.ok h2) h3
end
end Go.Proofs.Zm
