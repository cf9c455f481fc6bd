/- The framework's third part: calls; functions; regions that draw their order. -/
import Derived.Test.YtpelekdimmfldaaZm2
namespace Go.Proofs.Zm
open Go.RowKit
set_option linter.unusedVariables false

/-- What a function's call comes to: told by what may follow. -/
abbrev ZSpec := List D → St → (D → St → Prop) → Prop

def VRs (G : Gh) (ds : List D) (us : List Value) : Prop := ds.length = us.length ∧ ∀ (i : Nat) (d : D) (u : Value), ds[i]? = some d → us[i]? = some u → VR G d u
theorem VRs.nil (G : Gh) : VRs G [] [] := ⟨rfl, fun i d u h => by simp at h⟩
theorem VRs.cons {G : Gh} {d u ds us} (h : VR G d u) (hs : VRs G ds us) : VRs G (d :: ds) (u :: us) := by
  refine ⟨by simp [hs.1], fun i d' u' h1 h2 => ?_⟩
  cases i with
  | zero => simp at h1 h2; subst h1; subst h2; exact h
  | succ i => simp at h1 h2; exact hs.2 i d' u' h1 h2
theorem VRs.append {G : Gh} {ds us es vs} (h : VRs G ds us) (h' : VRs G es vs) : VRs G (ds ++ es) (us ++ vs) := by
  refine ⟨by simp [h.1, h'.1], fun i d u h1 h2 => ?_⟩
  by_cases hi : i < ds.length
  · rw [List.getElem?_append_left hi] at h1
    rw [List.getElem?_append_left (h.1 ▸ hi)] at h2
    exact h.2 i d u h1 h2
  · rw [List.getElem?_append_right (by omega)] at h1
    rw [List.getElem?_append_right (by have := h.1; omega), ← h.1] at h2
    exact h'.2 _ d u h1 h2

def SoundF (P : Program) (f : FuncId) (spec : ZSpec) : Prop :=
  ∀ w0 args st (K : D → St → Prop), spec args st K → ∀ G w vals, Rel w0 G st w → VRs G args vals →
    Calls P f vals.toArray w (fun e w' => ∃ v d st' G', e = .returned v ∧ G.le G' ∧ Rel w0 G' st' w' ∧ VR G' d v ∧ K d st')

theorem SoundF.weaken {P f} {s s' : ZSpec} (h : SoundF P f s) (hs : ∀ args st K, s' args st K → s args st K) : SoundF P f s' :=
  fun w0 args st K hk => h w0 args st K (hs args st K hk)

/-- The operands' abstract values. -/
def evs (env : Env) : List Operand → Option (List D)
  | [] => some []
  | x :: r => match ev env x, evs env r with
    | some d, some ds => some (d :: ds)
    | _, _ => none

theorem evs_ok {G : Gh} {n env} {a : Act} (h : ER G n env a.tmps) : ∀ {xs : List Operand} {ds : List D}, evs env xs = some ds → VRs G ds (xs.map a.eval)
  | [], ds, e => by cases e; exact VRs.nil G
  | x :: r, ds, e => by
    unfold evs at e
    split at e
    · rename_i d ds' h1 h2
      cases e
      exact VRs.cons (ev_ok h h1) (evs_ok h h2)
    · cases e

theorem enters {P : Program} {f : FuncId} {fn : Func} (hf : P.funcs[f]? = some fn) (hname : (fn.name == "runtime.NumGoroutine") = false) (hb : fn.body.isSome = true) (args : Array Value) (w : World) :
    (callFunc f args).run P w = .ok (.enter f args) w := by
  have hn : ¬ fn.name = "runtime.NumGoroutine" := by simpa using hname
  have hbn : ¬ fn.body = none := by cases h : fn.body <;> simp_all
  simp [callFunc, program, Bind.bind, Sem.bind, Sem.run, hf, hn, hbn, pure]

section
variable {P : Program} {w0 : World} {n : Nat} {Q : ZPost} {env : Env} {st : St}

/-- A call of a Go function, by what its call comes to. -/
theorem zop_call {spec : ZSpec} {f : FuncId} {fn : Func} {o : Oper} {x : Operand} {as : List Operand} {ts : Array TypeId} {caps ds : List D} {t : Nat} {K : Env → St → Prop}
    (hs : SoundF P f spec) (hf : P.funcs[f]? = some fn) (hname : (fn.name == "runtime.NumGoroutine") = false) (hb : fn.body.isSome = true)
    (hop : o.op = .call { callee := .value x, args := as.toArray, argTypes := ts }) (hd : o.dst = some t) (ht : t < n)
    (hx : ev env x = some (.fn f caps)) (ha : evs env as = some ds)
    (h : spec (ds ++ caps) st fun d st' => K ((t, d) :: env) st') : ZOp P w0 n o env st K := by
  intro G w a hr he hdf next Q' hn
  have hv := ev_ok he hx
  have hargs := evs_ok he ha
  generalize hu : a.eval x = u at hv
  cases hv with
  | fn _ _ us hl hvs =>
    have hrun : (execOp a.eval o).run P w = .ok (.enter f ((as.map a.eval) ++ us).toArray) w := by
      have hen := enters hf hname hb (((as.map a.eval) ++ us).toArray) w
      unfold execOp
      simp only [hop]
      simp only [resolve, hu, Deferred.ofValue, invoke]
      simp only [Bind.bind, Sem.bind, pure]
      simpa using hen
    unfold Oper.wp
    rw [hrun, Oper.upon_enter]
    refine (hs w0 _ st _ h G w _ hr (hargs.append ⟨hl, hvs⟩)).mono fun e w' hq => ?_
    obtain ⟨v, d, st', G', rfl, hle, hrel, hv, hK⟩ := hq
    exact hn G' ((t, d) :: env) st' _ w' hle hrel (by simpa [Act.put, hd] using (he.mono hle).put ht hv) (by simpa [Act.put, hd] using hdf) hK (fun t' u h1 h2 => put_other h1 h2)

theorem zo_call {spec : ZSpec} {f : FuncId} {fn : Func} {ops : Array Oper} {o : Oper} {rest : List Oper} {x : Operand} {as : List Operand} {ts : Array TypeId} {caps ds : List D} {t : Nat}
    (hs : SoundF P f spec) (hf : P.funcs[f]? = some fn) (hname : (fn.name == "runtime.NumGoroutine") = false) (hb : fn.body.isSome = true) (hg : o.guard = none)
    (hop : o.op = .call { callee := .value x, args := as.toArray, argTypes := ts }) (hd : o.dst = some t) (ht : t < n)
    (hx : ev env x = some (.fn f caps)) (ha : evs env as = some ds)
    (h : spec (ds ++ caps) st fun d st' => ZOps P w0 n ops rest Q ((t, d) :: env) st') : ZOps P w0 n ops (o :: rest) Q env st :=
  zo_cons hg (zop_call hs hf hname hb hop hd ht hx ha h)

end

/-! ### A function's end -/

/-- The results, as told by the slots and the state. -/
def ResD (P : Program) (rs : List ResultVar) (env : Env) (st : St) (ds : List D) : Prop :=
  ∀ w0 G n (tmps : Array Value) (w : World), Rel w0 G st w → ER G n env tmps → ∃ us, VRs G ds us ∧
    Sem.run P (rs.mapM fun
      | .tmp t => pure (tmps.getD t undef)
      | .cell a t => do loadVar t (← asAddr (tmps.getD a undef))) w = .ok us w

theorem resD_nil (P : Program) (env : Env) (st : St) : ResD P [] env st [] := fun w0 G n tmps w hr he => ⟨[], VRs.nil G, by simp [Sem.run, pure]⟩

theorem run_bind' {α β : Type} {P : Program} {s : Sem α} {k : α → Sem β} {w w1 : World} {a : α} (h : s.run P w = .ok a w1) : (s >>= k).run P w = (k a).run P w1 := by
  rw [Sem.run_bind, h]; rfl

theorem resD_tmp {P : Program} {rs : List ResultVar} {env : Env} {st : St} {t : Nat} {d : D} {ds : List D} (h : zlook env t = some d) (hs : ResD P rs env st ds) : ResD P (.tmp t :: rs) env st (d :: ds) := by
  intro w0 G n tmps w hr he
  obtain ⟨us, hu, hrun⟩ := hs w0 G n tmps w hr he
  obtain ⟨u, hu1, hv⟩ := he.at_ t d h
  refine ⟨u :: us, VRs.cons hv hu, ?_⟩
  rw [List.mapM_cons]
  refine (run_bind' (w1 := w) (a := u) (by simp [pure, Sem.run, hu1])).trans ?_
  refine (run_bind' hrun).trans ?_
  rfl

/-- The value of a result's list. -/
def resOf : List D → D
  | [d] => d
  | ds => .tup ds

def ZRet (P : Program) (rs : List ResultVar) (K : D → St → Prop) : ZPost
  | .normal, env, st | .ret, env, st => ∃ ds, ResD P rs env st ds ∧ K (resOf ds) st
  | _, _, _ => False

theorem results_run {P : Program} {fn : Func} {rs : List ResultVar} (hrs : fn.results = rs.toArray) {tmps : Array Value} {w : World} {us : List Value}
    (h : Sem.run P (rs.mapM fun
      | .tmp t => pure (tmps.getD t undef)
      | .cell a t => do loadVar t (← asAddr (tmps.getD a undef))) w = .ok us w) :
    (results fn tmps).run P w = .ok (if h : us.length = 1 then us[0] else .tuple us.toArray) w := by
  unfold results
  rw [hrs]
  refine (run_bind' (w1 := w) (a := us.toArray) ?_).trans ?_
  · rw [List.mapM_toArray]
    exact (run_bind' (k := fun x => pure x.toArray) h)
  · simp [pure, Sem.run]

theorem vr_res {G : Gh} {ds us} (h : VRs G ds us) : VR G (resOf ds) (if h : us.length = 1 then us[0] else .tuple us.toArray) := by
  obtain ⟨hl, hv⟩ := h
  match ds, us, hl, hv with
  | [d], [u], _, hv => exact hv 0 d u rfl rfl
  | [], [], _, _ => exact .tup [] [] rfl (fun i d u h => by simp at h)
  | d :: d' :: ds, u :: u' :: us, hl, hv =>
    have : ¬ ((u :: u' :: us).length = 1) := by simp
    rw [dif_neg this]
    exact .tup _ _ hl hv

/-- A function is as told, if its body is. -/
theorem sound_of {P : Program} {f : FuncId} {fn : Func} {c : Code} {rs : List ResultVar} {spec : ZSpec} (hf : P.funcs[f]? = some fn) (hb : fn.body = some c) (hrs : fn.results = rs.toArray)
    (h : ∀ w0 args st K, spec args st K → args.length ≤ fn.ntmps ∧ ZWp P w0 fn.ntmps c (ZRet P rs K) (args.zipIdx.map fun p => (p.2, p.1)) st) : SoundF P f spec := by
  intro w0 args st K hs G w vals hr hv
  obtain ⟨hle, hz⟩ := h w0 args st K hs
  have hn : vals.length ≤ fn.ntmps := by rw [← hv.1]; exact hle
  refine calls_of_wp hf hb (Code.wp_mono ?_ (hz G w _ hr ⟨?_, ?_⟩ rfl))
  · intro e a w' hq
    have main : ∀ (G' : Gh) (env : Env) (st' : St), G.le G' → Rel w0 G' st' w' → ER G' fn.ntmps env a.tmps → a.defers = [] → (∃ ds, ResD P rs env st' ds ∧ K (resOf ds) st') →
        a.defers = [] ∧ ∃ v, (results fn a.tmps).run P w' = .ok v w' ∧ ∃ v2 d st' G', Ending.returned v = .returned v2 ∧ G.le G' ∧ Rel w0 G' st' w' ∧ VR G' d v2 ∧ K d st' := by
      intro G' env st' h1 h2 h3 h4 ⟨ds, h5, h6⟩
      obtain ⟨us, hu, hrun⟩ := h5 w0 G' _ a.tmps w' h2 h3
      exact ⟨h4, _, results_run hrs hrun, _, resOf ds, st', G', rfl, h1, h2, vr_res hu, h6⟩
    cases e with
    | normal => obtain ⟨G', env, st', h1, h2, h3, h4, h5⟩ := hq; exact main G' env st' h1 h2 h3 h4 h5
    | ret => obtain ⟨G', env, st', h1, h2, h3, h4, h5⟩ := hq; exact main G' env st' h1 h2 h3 h4 h5
    | exit id => obtain ⟨G', env, st', h1, h2, h3, h4, h5⟩ := hq; exact h5.elim
    | goto l => obtain ⟨G', env, st', h1, h2, h3, h4, h5⟩ := hq; exact h5.elim
    | panic c => exact hq.elim
    | outgrown => exact hq.elim
  · simp; omega
  · intro t d e
    have key : ∀ (l : List D) (k t : Nat) (d : D), zlook ((l.zipIdx k).map fun p => (p.2, p.1)) t = some d → k ≤ t ∧ l[t - k]? = some d := by
      intro l
      induction l with
      | nil => intro k t d e; simp [zlook] at e
      | cons x r ih =>
        intro k t d e
        simp only [List.zipIdx_cons, List.map_cons] at e
        unfold zlook at e
        split at e
        · rename_i he; subst he; simpa using e
        · rename_i he
          obtain ⟨h1, h2⟩ := ih (k + 1) t d e
          refine ⟨by omega, ?_⟩
          have : t - k = (t - (k + 1)) + 1 := by omega
          rw [this, List.getElem?_cons_succ]
          exact h2
    obtain ⟨_, h2⟩ := key args 0 t d e
    simp only [Nat.sub_zero] at h2
    have hlt : t < args.length := (List.getElem?_eq_some_iff.1 h2).1
    have hlt2 : t < vals.length := hv.1 ▸ hlt
    refine ⟨vals[t], ?_, hv.2 t d _ h2 (List.getElem?_eq_getElem hlt2)⟩
    rw [Array.getElem?_append_left (by simpa using hlt2)]
    simp [hlt2]

end Go.Proofs.Zm
