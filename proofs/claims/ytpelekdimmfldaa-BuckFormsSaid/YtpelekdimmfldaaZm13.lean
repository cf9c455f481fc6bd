/- The framework's thirteenth part: regions that draw their order. -/
import Derived.Test.YtpelekdimmfldaaZm11
import Derived.OrdersHeld
namespace Go.Proofs.Zm
open Go.RowKit
set_option linter.unusedVariables false

theorem wpOp_mono2 {P : Program} {ops : Array Oper} {Q Q' : Exit → Act → World → Prop} (hq : ∀ e a w, Q e a w → Q' e a w) {i : Nat} {K K' : Act → World → Prop} (hk : ∀ a w, K a w → K' a w) {a : Act} {w : World}
    (h : wpOp P ops Q i K a w) : wpOp P ops Q' i K' a w := by
  unfold wpOp at h ⊢
  cases ho : ops[i]? with
  | none => simp only [ho] at h ⊢; exact hk _ _ h
  | some o =>
    simp only [ho] at h ⊢
    split
    · rename_i hw
      rw [if_pos hw] at h
      rcases h with h | ⟨h1, a0, w1, h2⟩
      · left
        unfold Oper.wp at h ⊢
        generalize (execOp a.eval o).run P w = r at *
        cases r with
        | ok x w' =>
          cases x <;> simp only [Oper.upon] at h ⊢ <;> first
            | exact hk _ _ h
            | exact Rows.mono h (fun _ _ he => hk _ _ he)
            | (refine Calls.mono h (fun e w'' he => ?_)
               cases e with
                | returned v => exact hk _ _ he
                | panicked c => exact hq _ _ _ he
                | outgrown => obtain ⟨a1, w1, h1⟩ := he; exact ⟨a1, w1, hq _ _ _ h1⟩)
        | halt x w' => cases x <;> simp only [Oper.upon] at h ⊢ <;> first | exact hq _ _ _ h | exact h
      · exact .inr ⟨h1, a0, w1, hq _ _ _ h2⟩
    · rename_i hw
      rw [if_neg hw] at h
      exact hk _ _ h

theorem wpAnyH_mono {P : Program} {md : Region.Mode} {ops : Array Oper} {Q Q' : Exit → Act → World → Prop} {S S' : World → Prop} (hq : ∀ e a w, Q e a w → Q' e a w) (hs : ∀ w, S w → S' w) :
    ∀ (fuel : Nat) (listed : Array Bool) (a : Act) (w : World), wpAnyH P md ops Q S fuel listed a w → wpAnyH P md ops Q' S' fuel listed a w
  | 0, _, _, _, h => ⟨h.1, hq _ _ _ h.2⟩
  | fuel + 1, _, _, _, h => ⟨fun e => hq _ _ _ (h.1 e), fun i hi => wpOp_mono2 hq (fun a' w' h' => ⟨hs _ h'.1, wpAnyH_mono hq hs fuel _ a' w' h'.2⟩) (h.2 i hi)⟩

/-- What is known of memory holds. -/
def Gh.Holds (G : Gh) (w : World) : Prop := ∀ x u, G.M x = some u → w.cell? x = some u

/-- A region that draws its order, from here on. -/
def ZAny (P : Program) (w0 : World) (n : Nat) (ops : Array Oper) (Q : ZPost) (fuel : Nat) (listed : Array Bool) (env : Env) (st : St) : Prop :=
  ∀ G w a, Rel w0 G st w → ER G n env a.tmps → a.defers = [] → wpAnyH P .any ops (Outc w0 n Q G) G.Holds fuel listed a w

/-- An operation's guard: met, or not. -/
def guardIs (ops : Array Oper) (env : Env) (o : Oper) (b : Bool) : Prop :=
  match o.guard with
  | none => b = true
  | some (j, want) => ∃ t c, (ops[j]?).bind (·.dst) = some t ∧ zlook env t = some (.v (.bool c)) ∧ (c == want) = b

theorem guardIs_ok {G : Gh} {n : Nat} {ops : Array Oper} {env : Env} {o : Oper} {b : Bool} {a : Act} (he : ER G n env a.tmps) (h : guardIs ops env o b) : Region.wanted o (yielded ops a.tmps) = b := by
  unfold guardIs at h
  cases hg : o.guard with
  | none => rw [hg] at h; simp [Region.wanted, hg, h]
  | some p =>
    obtain ⟨j, want⟩ := p
    rw [hg] at h
    obtain ⟨t, c, h1, h2, h3⟩ := h
    have := yielded_of he h1 h2
    simp [Region.wanted, hg, this, h3]

section
variable {P : Program} {w0 : World} {n : Nat} {Q : ZPost} {env : Env} {st : St} {ops : Array Oper} {fuel : Nat} {listed : Array Bool}

theorem za_begin {id m : Nat} (hm : P.follows .mixedOrders = true) (hs : ops.size = m) (h : ZAny P w0 n ops Q m (Array.replicate m false) env st) : ZWp P w0 n (.region id ops true) Q env st := by
  intro G w a hr he hd
  subst hs
  exact wp_region_held hm (h G _ a (hr.drawn _) he hd)

/-- An operation that only reads may be taken first. -/
theorem za_take {i t : Nat} {oi : Oper} {d : D} (hi : ops[i]? = some oi) (hs : Region.noSelect ops = true) (hf : Region.free .any ops listed i = true) (hr : (Region.ready .any ops listed).contains i = true)
    (hg : guardIs ops env oi true) (hd : oi.dst = some t) (ht : Nat.ble (t + 1) n = true) (h : ZPure P oi env d) (hk : ZAny P w0 n ops Q fuel (listed.setIfInBounds i true) ((t, d) :: env) st) :
    ZAny P w0 n ops Q (fuel + 1) listed env st := by
  intro G w a hrel he hdf
  obtain ⟨v, hv, hrun⟩ := h G n a he
  refine wpAnyH_take hi hs hf hr (fun c a w h => h.elim) (.inl ⟨guardIs_ok he hg, fun w hw => hrun w hw⟩) hrel.mem ?_
  exact hk G w _ hrel (by simpa [Act.put, hd] using he.put (Nat.le_of_ble_eq_true ht) hv) (by simpa [Act.put, hd] using hdf)

/-- What is not wanted may be taken first. -/
theorem za_not {i : Nat} {oi : Oper} (hi : ops[i]? = some oi) (hs : Region.noSelect ops = true) (hf : Region.free .any ops listed i = true) (hr : (Region.ready .any ops listed).contains i = true)
    (hg : guardIs ops env oi false) (hk : ZAny P w0 n ops Q fuel (listed.setIfInBounds i true) (dropE env oi.dst) st) :
    ZAny P w0 n ops Q (fuel + 1) listed env st := by
  intro G w a hrel he hdf
  refine wpAnyH_take hi hs hf hr (v := undef) (fun c a w h => h.elim) (.inr ⟨guardIs_ok he hg, rfl⟩) hrel.mem ?_
  refine hk G w _ hrel ?_ (by cases h : oi.dst <;> simp [Act.put, hdf])
  cases h : oi.dst with
  | none => exact he
  | some d => exact he.drop _

/-- One of those that may come up comes up. -/
def ZOne (P : Program) (w0 : World) (n : Nat) (ops : Array Oper) (Q : ZPost) (fuel : Nat) (listed : Array Bool) (env : Env) (st : St) (i : Nat) : Prop :=
  ∀ G w a, Rel w0 G st w → ER G n env a.tmps → a.defers = [] → wpOp P ops (Outc w0 n Q G) i (fun a' w' => G.Holds w' ∧ wpAnyH P .any ops (Outc w0 n Q G) G.Holds fuel (listed.setIfInBounds i true) a' w') a w

theorem za_all {rs : List Nat} (hr : Region.ready .any ops listed = rs) (hne : rs ≠ []) (h : ∀ i ∈ rs, ZOne P w0 n ops Q fuel listed env st i) : ZAny P w0 n ops Q (fuel + 1) listed env st :=
  fun G w a h1 h2 h3 => wpAnyH_all hr hne fun i hi => h i hi G w a h1 h2 h3

theorem zone_op {i : Nat} {oi : Oper} (hi : ops[i]? = some oi) (hg : guardIs ops env oi true) (h : ZOp P w0 n oi env st (ZAny P w0 n ops Q fuel (listed.setIfInBounds i true))) : ZOne P w0 n ops Q fuel listed env st i := by
  intro G w a h1 h2 h3
  unfold wpOp
  simp only [hi, guardIs_ok h2 hg, if_true]
  left
  refine h G w a h1 h2 h3 _ _ fun G' env' st' a' w' hle hrel he hd hk _ => ⟨fun x u e => hrel.mem x u (hle.M x u e), ?_⟩
  exact wpAnyH_mono (Outc.mono hle (fun _ _ _ h => h)) (fun w hw x u e => hw x u (hle.M x u e)) _ _ _ _ (hk G' w' a' hrel he hd)

theorem zone_not {i : Nat} {oi : Oper} (hi : ops[i]? = some oi) (hg : guardIs ops env oi false) (h : ZAny P w0 n ops Q fuel (listed.setIfInBounds i true) (dropE env oi.dst) st) : ZOne P w0 n ops Q fuel listed env st i := by
  intro G w a h1 h2 h3
  unfold wpOp
  simp only [hi, guardIs_ok h2 hg, if_false, Bool.false_eq_true]
  refine ⟨h1.mem, h G w _ h1 ?_ (by cases h : oi.dst <;> simp [Act.put, h3])⟩
  cases h : oi.dst with
  | none => exact h2
  | some d => exact h2.drop _

/-- The only one that may come up. -/
theorem za_one {i : Nat} {oi : Oper} (hr : Region.ready .any ops listed = [i]) (hi : ops[i]? = some oi) (hg : guardIs ops env oi true) (h : ZOp P w0 n oi env st (ZAny P w0 n ops Q fuel (listed.setIfInBounds i true))) : ZAny P w0 n ops Q (fuel + 1) listed env st :=
  za_all hr (by simp) fun j hj => by
    simp only [List.mem_singleton] at hj
    subst hj
    exact zone_op hi hg h
theorem za_one_val {i t : Nat} {oi : Oper} (hr : Region.ready .any ops listed = [i]) (hi : ops[i]? = some oi) (hg : guardIs ops env oi true) (hd : oi.dst = some t) (ht : Nat.ble (t + 1) n = true)
    (h : ZVal P w0 n oi env st fun d st' => ZAny P w0 n ops Q fuel (listed.setIfInBounds i true) ((t, d) :: env) st') : ZAny P w0 n ops Q (fuel + 1) listed env st :=
  za_one hr hi hg (h.op hd (Nat.le_of_ble_eq_true ht))

theorem za_done (hr : Region.ready .any ops listed = []) (h : Q .normal env st) : ZAny P w0 n ops Q fuel listed env st :=
  fun G w a h1 h2 h3 => wpAnyH_done hr ⟨G, env, st, .refl G, h1, h2, h3, h⟩ _

theorem za_forget (st' : St) (hH : ∀ id cs, st'.H id = some cs → st.H id = some cs) (hT : ∀ t, st'.T t = true → st.T t = true) (h : ZAny P w0 n ops Q fuel listed env st') : ZAny P w0 n ops Q fuel listed env st :=
  fun G w a h1 h2 h3 => h G w a (h1.forget hH hT) h2 h3
theorem za_end {K : Env → St → Prop} {Q1 : ZPost} (hr : Region.ready .any ops listed = []) (h : K env st) : ZAny P w0 n ops (Zthen K Q1) fuel listed env st := za_done hr h

theorem g_none {o : Oper} (h : o.guard = none) : guardIs ops env o true := by unfold guardIs; rw [h]
theorem g_met {o : Oper} {j t : Nat} {want c : Bool} (h : o.guard = some (j, want)) (hj : (ops[j]?).bind (·.dst) = some t) (hz : zlook env t = some (.v (.bool c))) (hc : c = want) : guardIs ops env o true := by
  unfold guardIs; rw [h]; exact ⟨t, c, hj, hz, by simp [hc]⟩
theorem g_not {o : Oper} {j t : Nat} {want c : Bool} (h : o.guard = some (j, want)) (hj : (ops[j]?).bind (·.dst) = some t) (hz : zlook env t = some (.v (.bool c))) (hc : c = !want) : guardIs ops env o false := by
  unfold guardIs; rw [h]; exact ⟨t, c, hj, hz, by rw [hc]; cases want <;> rfl⟩
end
end Go.Proofs.Zm
