/- The framework's second part: judgements on code, operations and calls over abstract states, and the rules of code. -/
import Derived.Test.YtpelekdimmfldaaZm1
import Derived.Tactics
namespace Go.Proofs.Zm
open Go.RowKit

theorem least {p : Nat → Prop} (h : ∃ m, p m) : ∃ m, p m ∧ ∀ k, p k → m ≤ k := by
  obtain ⟨m, hm⟩ := h
  induction m using Nat.strongRecOn with
  | _ m ih =>
    by_cases hk : ∃ k, k < m ∧ p k
    · obtain ⟨k, hlt, hp⟩ := hk; exact ih k hlt hp
    · exact ⟨m, hm, fun k hp => Nat.le_of_not_lt fun hlt => hk ⟨k, hlt, hp⟩⟩
open Classical in
/-- The least number of which p holds (0, if of none). -/
noncomputable def sInfNat (p : Nat → Prop) : Nat := if h : ∃ m, p m then Classical.choose (least h) else 0
open Classical in
theorem sInfNat_mem {p : Nat → Prop} (h : ∃ m, p m) : p (sInfNat p) := by unfold sInfNat; rw [dif_pos h]; exact (Classical.choose_spec (least h)).1
open Classical in
theorem sInfNat_le {p : Nat → Prop} {m : Nat} (h : p m) : sInfNat p ≤ m := by unfold sInfNat; rw [dif_pos ⟨m, h⟩]; exact (Classical.choose_spec (least ⟨m, h⟩)).2 _ h

theorem VR.eq_v {G : Gh} {x u : Value} (h : VR G (.v x) u) : u = x := by cases h; rfl

set_option linter.unusedVariables false
abbrev ZPost := Exit → Env → St → Prop

/-- What a piece of code comes to. -/
def Outc (w0 : World) (n : Nat) (Q : ZPost) (G : Gh) : Exit → Act → World → Prop
  | .panic _, _, _ => False
  | .outgrown, _, _ => False
  | e, a, w => ∃ G' env st, G.le G' ∧ Rel w0 G' st w ∧ ER G' n env a.tmps ∧ a.defers = [] ∧ Q e env st

theorem Outc.mono {w0 n G G'} {Q Q' : ZPost} (hg : G.le G') (hq : ∀ e env st, Q e env st → Q' e env st) : ∀ e a w, Outc w0 n Q G' e a w → Outc w0 n Q' G e a w := by
  intro e a w h
  cases e <;> first
    | exact h
    | (obtain ⟨G2, env, st, h1, h2, h3, h4, h5⟩ := h; exact ⟨G2, env, st, hg.trans h1, h2, h3, h4, hq _ _ _ h5⟩)

/-- Code, from an abstract state on. -/
def ZWp (P : Program) (w0 : World) (n : Nat) (c : Code) (Q : ZPost) (env : Env) (st : St) : Prop :=
  ∀ G w a, Rel w0 G st w → ER G n env a.tmps → a.defers = [] → c.wp P (Outc w0 n Q G) a w

/-- One operation: what follows is told by the slots and the state behind it. -/
def ZOp (P : Program) (w0 : World) (n : Nat) (o : Oper) (env : Env) (st : St) (K : Env → St → Prop) : Prop :=
  ∀ G w a, Rel w0 G st w → ER G n env a.tmps → a.defers = [] → ∀ (next : Act → World → Prop) (Q : Exit → Act → World → Prop),
    (∀ G' env' st' a' w', G.le G' → Rel w0 G' st' w' → ER G' n env' a'.tmps → a'.defers = [] → K env' st' → (∀ t u, o.dst ≠ some t → a.tmps[t]? = some u → a'.tmps[t]? = some u) → next a' w') → o.wp P a w next Q

/-- An operation that only reads what nobody writes any more. -/
def ZPure (P : Program) (o : Oper) (env : Env) (d : D) : Prop :=
  ∀ G n (a : Act), ER G n env a.tmps → ∃ v, VR G d v ∧ ∀ w : World, (∀ x u, G.M x = some u → w.cell? x = some u) → (execOp a.eval o).run P w = .ok (.value v) w
/-- An operation that reads no memory. -/
def ZPure0 (P : Program) (o : Oper) (env : Env) (d : D) : Prop :=
  ∀ G n (a : Act), ER G n env a.tmps → ∃ v, VR G d v ∧ ∀ w : World, (execOp a.eval o).run P w = .ok (.value v) w
theorem ZPure0.pure {P o env d} (h : ZPure0 P o env d) : ZPure P o env d := fun G n a he =>
  let ⟨v, hv, hr⟩ := h G n a he; ⟨v, hv, fun w _ => hr w⟩

/-- An operation with a value. -/
def ZVal (P : Program) (w0 : World) (n : Nat) (o : Oper) (env : Env) (st : St) (K : D → St → Prop) : Prop :=
  ∀ G w (a : Act), Rel w0 G st w → ER G n env a.tmps → ∃ v w' G' d st', (execOp a.eval o).run P w = .ok (.value v) w' ∧ G.le G' ∧ Rel w0 G' st' w' ∧ VR G' d v ∧ K d st'

theorem ZPure.val {P w0 n o env st d} {K : D → St → Prop} (h : ZPure P o env d) (hK : K d st) : ZVal P w0 n o env st K := by
  intro G w a hr he
  obtain ⟨v, hv, hrun⟩ := h G n a he
  exact ⟨v, w, G, d, st, hrun w hr.mem, .refl G, hr, hv, hK⟩

theorem put_other {a : Act} {dst : Option Tmp} {v : Value} {t : Nat} {u : Value} (h : dst ≠ some t) (hu : a.tmps[t]? = some u) : (a.put dst v).tmps[t]? = some u := by
  cases dst with
  | none => exact hu
  | some d =>
    have : d ≠ t := fun e => h (by rw [e])
    simp only [Act.put]
    rw [Array.getElem?_setIfInBounds_ne this]
    exact hu

theorem ZVal.op {P w0 n} {o : Oper} {env st t} {K : Env → St → Prop} (hd : o.dst = some t) (ht : t < n) (h : ZVal P w0 n o env st fun d st' => K ((t, d) :: env) st') : ZOp P w0 n o env st K := by
  intro G w a hr he hdf next Q hn
  obtain ⟨v, w', G', d, st', hrun, hle, hrel, hv, hK⟩ := h G w a hr he
  unfold Oper.wp
  rw [hrun]
  exact hn G' ((t, d) :: env) st' _ w' hle hrel (by simpa [Act.put, hd] using (he.mono hle).put ht hv) (by simpa [Act.put, hd] using hdf) hK (fun t' u h1 h2 => put_other h1 h2)

/-- Operations of a region, in the text's order. -/
def ZOps (P : Program) (w0 : World) (n : Nat) (ops : Array Oper) (l : List Oper) (Q : ZPost) (env : Env) (st : St) : Prop :=
  ∀ G w a, Rel w0 G st w → ER G n env a.tmps → a.defers = [] → wpList P ops (Outc w0 n Q G) l a w

theorem wpList_mono {P : Program} {ops : Array Oper} {Q Q' : Exit → Act → World → Prop} (hq : ∀ e a w, Q e a w → Q' e a w) (hp : ∀ c a w, Q (.panic c) a w → Q' (.panic c) a w) :
    ∀ (l : List Oper) (a : Act) (w : World), wpList P ops Q l a w → wpList P ops Q' l a w := by
  intro l
  induction l with
  | nil => intro a w h; exact hq _ _ _ h
  | cons o l ih =>
    intro a w h
    unfold wpList at h ⊢
    split
    · rename_i hw
      rw [if_pos hw] at h
      rcases h with h | ⟨h1, a0, w1, h2⟩
      · left
        unfold Oper.wp at h ⊢
        generalize (execOp a.eval o).run P w = r at *
        cases r with
        | ok x w' =>
          cases x <;> simp only [Oper.upon] at h ⊢ <;> first
            | exact ih _ _ h
            | exact Rows.mono h (fun _ _ he => ih _ _ he)
            | (refine Calls.mono h (fun e w'' he => ?_)
               cases e with
                | returned v => exact ih _ _ he
                | panicked c => exact hp _ _ _ he
                | outgrown => obtain ⟨a1, w1, h1⟩ := he; exact ⟨a1, w1, hq _ _ _ h1⟩)
        | halt x w' => cases x <;> simp only [Oper.upon] at h ⊢ <;> first | exact hp _ _ _ h | exact h
      · exact .inr ⟨h1, a0, w1, hq _ _ _ h2⟩
    · rename_i hw
      rw [if_neg hw] at h
      exact ih _ _ h

section rules
variable {P : Program} {w0 : World} {n : Nat} {Q : ZPost} {env : Env} {st : St}

theorem ZWp.mono {c : Code} {Q' : ZPost} (h : ZWp P w0 n c Q env st) (hq : ∀ e env st, Q e env st → Q' e env st) : ZWp P w0 n c Q' env st :=
  fun G w a h1 h2 h3 => Code.wp_mono (Outc.mono (.refl G) hq) (h G w a h1 h2 h3)

/-- Knowing less. -/
theorem ZWp.weaken {c : Code} {env' : Env} (h : ZWp P w0 n c Q env' st) (hs : ∀ t d, zlook env' t = some d → zlook env t = some d) : ZWp P w0 n c Q env st :=
  fun G w a h1 h2 h3 => h G w a h1 (h2.sub hs) h3

theorem zr_skip (h : Q .normal env st) : ZWp P w0 n .skip Q env st := fun G w a h1 h2 h3 => wp_skip ⟨G, env, st, .refl G, h1, h2, h3, h⟩
theorem zr_label {l : Nat} (h : Q .normal env st) : ZWp P w0 n (.label l) Q env st := fun G w a h1 h2 h3 => wp_label ⟨G, env, st, .refl G, h1, h2, h3, h⟩
theorem zr_exit {id : Nat} (h : Q (.exit id) env st) : ZWp P w0 n (.exit id) Q env st := fun G w a h1 h2 h3 => wp_exit ⟨G, env, st, .refl G, h1, h2, h3, h⟩
theorem zr_ret (h : Q .ret env st) : ZWp P w0 n .ret Q env st := fun G w a h1 h2 h3 => wp_ret ⟨G, env, st, .refl G, h1, h2, h3, h⟩

def Zthen (K : Env → St → Prop) (Q : ZPost) : ZPost
  | .normal, env, st => K env st
  | e, env, st => Q e env st

theorem zr_seq {x y : Code} (h : ZWp P w0 n x (Zthen (ZWp P w0 n y Q) Q) env st) : ZWp P w0 n (.seq x y) Q env st := by
  intro G w a h1 h2 h3
  refine wp_seq (Code.wp_mono ?_ (h G w a h1 h2 h3))
  intro e a' w' hq
  cases e with
  | normal =>
    obtain ⟨G', env', st', hle, hr, he, hd, hk⟩ := hq
    exact Code.wp_mono (Outc.mono hle (fun _ _ _ h => h)) (hk G' w' a' hr he hd)
  | panic c => exact hq.elim
  | outgrown => exact hq.elim
  | exit id => exact hq
  | goto l => exact hq
  | ret => exact hq

theorem zr_cond {c : Operand} {x y : Code} {b : Bool} (hc : ev env c = some (.v (.bool b))) (ht : b = true → ZWp P w0 n x Q env st) (hf : b = false → ZWp P w0 n y Q env st) :
    ZWp P w0 n (.cond c x y) Q env st := by
  intro G w a h1 h2 h3
  have hv := ev_ok h2 hc
  have he : a.eval c = .bool b := hv.eq_v
  exact wp_cond_split he (fun h => ht h G w a h1 h2 h3) (fun h => hf h G w a h1 h2 h3)

def Zblock (id : Nat) (Q : ZPost) : ZPost
  | .exit id', env, st => if id' = id then Q .normal env st else Q (.exit id') env st
  | e, env, st => Q e env st

theorem zr_block {id : Nat} {c : Code} (h : ZWp P w0 n c (Zblock id Q) env st) : ZWp P w0 n (.block id c) Q env st := by
  intro G w a h1 h2 h3
  refine wp_block (Code.wp_mono ?_ (h G w a h1 h2 h3))
  intro e a' w' hq
  cases e with
  | exit id' =>
    obtain ⟨G', env', st', hle, hr, he, hd, hk⟩ := hq
    by_cases hid : id' = id
    · simp only [Zblock, hid, if_true] at hk
      simp only [Exit.inBlock, hid, if_true]
      exact ⟨G', env', st', hle, hr, he, hd, hk⟩
    · simp only [Zblock, hid, if_false] at hk
      simp only [Exit.inBlock, hid, if_false]
      exact ⟨G', env', st', hle, hr, he, hd, hk⟩
  | panic c => exact hq.elim
  | outgrown => exact hq.elim
  | normal => exact hq
  | goto l => exact hq
  | ret => exact hq

/-- A loop: 'I m' holds at a round's head with m rounds still to come at most. -/
theorem zr_loop {c : Code} (I : Nat → Env → St → Prop) (m0 : Nat) (h0 : I m0 env st)
    (round : ∀ m env st, I m env st → ZWp P w0 n c (Zthen (fun env' st' => ∃ m', m' < m ∧ I m' env' st') Q) env st) : ZWp P w0 n (.loop c) Q env st := by
  intro G w a h1 h2 h3
  have hloop := wp_loop (P := P) (c := c) (Q := Outc w0 n Q G) (a := a) (w := w)
    (fun a' w' => ∃ G' env' st' m, G.le G' ∧ Rel w0 G' st' w' ∧ ER G' n env' a'.tmps ∧ a'.defers = [] ∧ I m env' st')
    (fun a' w' => @sInfNat (fun m => ∃ G' env' st', G.le G' ∧ Rel w0 G' st' w' ∧ ER G' n env' a'.tmps ∧ a'.defers = [] ∧ I m env' st'))
  refine hloop ⟨G, env, st, m0, .refl G, h1, h2, h3, h0⟩ ?_
  intro a' w' hI
  have hex : ∃ m, ∃ G' env' st', G.le G' ∧ Rel w0 G' st' w' ∧ ER G' n env' a'.tmps ∧ a'.defers = [] ∧ I m env' st' := by
    obtain ⟨G', env', st', m, h⟩ := hI; exact ⟨m, G', env', st', h⟩
  obtain ⟨G', env', st', hle, hr, he, hd, hi⟩ := sInfNat_mem hex
  refine Code.wp_mono ?_ (round _ _ _ hi G' w' a' hr he hd)
  intro e a2 w2 hq
  cases e with
  | normal =>
    obtain ⟨G2, env2, st2, hle2, hr2, he2, hd2, m', hlt, hi2⟩ := hq
    exact ⟨⟨G2, env2, st2, m', hle.trans hle2, hr2, he2, hd2, hi2⟩, Nat.lt_of_le_of_lt (sInfNat_le ⟨G2, env2, st2, hle.trans hle2, hr2, he2, hd2, hi2⟩) hlt⟩
  | panic c => exact hq.elim
  | outgrown => exact hq.elim
  | exit id => exact Outc.mono hle (fun _ _ _ h => h) _ _ _ hq
  | goto l => exact Outc.mono hle (fun _ _ _ h => h) _ _ _ hq
  | ret => exact Outc.mono hle (fun _ _ _ h => h) _ _ _ hq

theorem zr_region {id : Nat} {l : List Oper} (h : ZOps P w0 n l.toArray l Q env st) : ZWp P w0 n (.region id l.toArray false) Q env st :=
  fun G w a h1 h2 h3 => wp_region_lit (h G w a h1 h2 h3)

theorem zo_nil {ops : Array Oper} (h : Q .normal env st) : ZOps P w0 n ops [] Q env st := fun G w a h1 h2 h3 => ⟨G, env, st, .refl G, h1, h2, h3, h⟩

theorem zo_cons {ops : Array Oper} {o : Oper} {rest : List Oper} (hg : o.guard = none) (h : ZOp P w0 n o env st (ZOps P w0 n ops rest Q)) : ZOps P w0 n ops (o :: rest) Q env st := by
  intro G w a h1 h2 h3
  unfold wpList
  rw [if_pos (by simp [Region.wanted, hg])]
  left
  refine h G w a h1 h2 h3 _ _ fun G' env' st' a' w' hle hr he hd hk _ => ?_
  exact wpList_mono (Outc.mono hle (fun _ _ _ h => h)) (fun c a w h => h.elim) rest a' w' (hk G' w' a' hr he hd)

/-- An operation with a value, no guard. -/
theorem zo_val {ops : Array Oper} {o : Oper} {rest : List Oper} {t : Nat} (hg : o.guard = none) (hd : o.dst = some t) (ht : t < n)
    (h : ZVal P w0 n o env st fun d st' => ZOps P w0 n ops rest Q ((t, d) :: env) st') : ZOps P w0 n ops (o :: rest) Q env st := zo_cons hg (h.op hd ht)

theorem zo_pure {ops : Array Oper} {o : Oper} {rest : List Oper} {t : Nat} {d : D} (hg : o.guard = none) (hd : o.dst = some t) (ht : t < n) (h : ZPure P o env d)
    (hk : ZOps P w0 n ops rest Q ((t, d) :: env) st) : ZOps P w0 n ops (o :: rest) Q env st := zo_val hg hd ht (h.val hk)

theorem yielded_of {G : Gh} {ops : Array Oper} {a : Act} {j t : Nat} {b : Bool} (he : ER G n env a.tmps) (hj : (ops[j]?).bind (·.dst) = some t) (hb : zlook env t = some (.v (.bool b))) :
    yielded ops a.tmps j = some b := by
  obtain ⟨u, hu, hv⟩ := he.at_ t _ hb
  cases hv
  simp [yielded, hj, hu]

/-- Nothing is known of this slot any more. -/
def dropE (env : Env) : Option Tmp → Env
  | some d => env.filter fun p => p.1 ≠ d
  | none => env

/-- A guarded operation: both ways. -/
theorem zo_guard {ops : Array Oper} {dst : Option Tmp} {op : Op} {ty : TypeId} {pos : String} {after : Array Edge} {j t : Nat} {want b : Bool} {rest : List Oper}
    (hj : (ops[j]?).bind (·.dst) = some t) (hb : zlook env t = some (.v (.bool b)))
    (hyes : b = want → ZOps P w0 n ops (⟨dst, op, ty, pos, after, none⟩ :: rest) Q env st)
    (hno : b ≠ want → ZOps P w0 n ops rest Q (dropE env dst) st) :
    ZOps P w0 n ops (⟨dst, op, ty, pos, after, some (j, want)⟩ :: rest) Q env st := by
  intro G w a h1 h2 h3
  have hy := yielded_of h2 hj hb
  unfold wpList
  by_cases hw : b = want
  · rw [if_pos (by simp [Region.wanted, hy, hw])]
    have := hyes hw G w a h1 h2 h3
    unfold wpList at this
    rw [if_pos (by simp [Region.wanted])] at this
    exact this
  · rw [if_neg (by simp [Region.wanted, hy, hw])]
    refine hno hw G w _ h1 ?_ (by cases dst <;> simp [Act.put, h3])
    cases dst with
    | none => exact h2
    | some d => exact h2.drop _

end rules
end Go.Proofs.Zm
