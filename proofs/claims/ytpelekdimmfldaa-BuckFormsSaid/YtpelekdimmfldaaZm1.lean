/- The framework's first part: abstract values, what they stand for in memory, the state, and its laws. -/
import Derived.OrdersHeld
import Derived.Maps.AppendAt
import Derived.Laws.Cells
import Derived.Laws.CopyRow
import Derived.Laws.IdiomCopy
import Derived.Below
namespace Go.Proofs.Zm
open Go.RowKit

/-- Abstract values. -/
inductive D where
  /-- just this value -/
  | v (x : Value)
  /-- a slice that is read: its elements, each by its cells; how many cells an element has; the number of the right to append in place (0: none) -/
  | row (xs : List (List D)) (k : Nat) (t : Nat)
  /-- the address of cells that nobody writes any more -/
  | ref (cs : List D)
  | agg (cs : List D)
  | tup (ds : List D)
  /-- an address in a block that only this value's holders know -/
  | ptr (id off : Nat)
  /-- a slice over such a block: where it begins, how many elements, how many it could have -/
  | mrow (id off n c : Nat)
  | fn (f : FuncId) (caps : List D)
  | iface (t : TypeId) (d : D)

/-- What is known of memory: cells that nobody writes any more; the blocks of numbers; the rights to append. -/
structure Gh where
  M : Addr → Option Value
  rho : Nat → Nat
  /-- a right's block, how many of its cells are told, how many it has -/
  tau : Nat → Nat × Nat × Nat
  nx : Nat

/-- An abstract value stands for a value. -/
inductive VR (G : Gh) : D → Value → Prop where
  | v (x : Value) : VR G (.v x) x
  | row (xs : List (List D)) (k t : Nat) (a : Addr) (n c : Nat) (u : Nat → Nat → Value) (hn : xs.length = n) (hc : n ≤ c) (hm63 : c ≤ maxLen)
      (hk : ∀ (i : Nat) (x : List D), xs[i]? = some x → x.length = k)
      (hm : ∀ i j, i < n → j < k → G.M (a.add (i * k + j)) = some (u i j))
      (h1 : ∀ i j, (u i j).oneCell' = true)
      (hv : ∀ (i : Nat) (x : List D) (j : Nat) (d : D), xs[i]? = some x → x[j]? = some d → VR G d (u i j))
      (ht : t ≠ 0 → t < G.nx ∧ a = ⟨(G.tau t).1, 0, none⟩ ∧ (G.tau t).2.1 = n * k ∧ (G.tau t).2.2 = c * k) : VR G (.row xs k t) (.slice (some a) n c)
  | rowNil (k t : Nat) (ht : t = 0 ∨ t < G.nx) : VR G (.row [] k t) (.slice none 0 0)
  | ref (cs : List D) (a : Addr) (u : Nat → Value) (hm : ∀ j, j < cs.length → G.M (a.add j) = some (u j))
      (hv : ∀ (j : Nat) (d : D), cs[j]? = some d → VR G d (u j)) : VR G (.ref cs) (.pointer (some a))
  | agg (cs : List D) (us : List Value) (hl : cs.length = us.length) (hv : ∀ (j : Nat) (d : D) (u : Value), cs[j]? = some d → us[j]? = some u → VR G d u) : VR G (.agg cs) (.agg us.toArray)
  | tup (cs : List D) (us : List Value) (hl : cs.length = us.length) (hv : ∀ (j : Nat) (d : D) (u : Value), cs[j]? = some d → us[j]? = some u → VR G d u) : VR G (.tup cs) (.tuple us.toArray)
  | ptr (id off : Nat) (hid : id < G.nx) : VR G (.ptr id off) (.pointer (some ⟨G.rho id, off, none⟩))
  | mrow (id off n c : Nat) (hid : id < G.nx) (hc : n ≤ c) (hm63 : c ≤ maxLen) : VR G (.mrow id off n c) (.slice (some ⟨G.rho id, off, none⟩) n c)
  | fn (f : FuncId) (caps : List D) (us : List Value) (hl : caps.length = us.length) (hv : ∀ (j : Nat) (d : D) (u : Value), caps[j]? = some d → us[j]? = some u → VR G d u) : VR G (.fn f caps) (.func (.func f) #[] us.toArray)
  | iface (t : TypeId) (d : D) (u : Value) (hv : VR G d u) : VR G (.iface t d) (.iface t u)

/-- More is known. -/
structure Gh.le (G G' : Gh) : Prop where
  M : ∀ a u, G.M a = some u → G'.M a = some u
  rho : ∀ id, id < G.nx → G'.rho id = G.rho id
  tau : ∀ t, t < G.nx → G'.tau t = G.tau t
  nx : G.nx ≤ G'.nx

theorem Gh.le.refl (G : Gh) : G.le G := ⟨fun _ _ h => h, fun _ _ => rfl, fun _ _ => rfl, Nat.le_refl _⟩
theorem Gh.le.trans {A B C : Gh} (h : A.le B) (k : B.le C) : A.le C :=
  ⟨fun a u e => k.M a u (h.M a u e), fun id hi => (k.rho id (Nat.lt_of_lt_of_le hi h.nx)).trans (h.rho id hi),
   fun t hi => (k.tau t (Nat.lt_of_lt_of_le hi h.nx)).trans (h.tau t hi), Nat.le_trans h.nx k.nx⟩

theorem VR.mono {G G' : Gh} (hg : G.le G') {d : D} {u : Value} (h : VR G d u) : VR G' d u := by
  induction h with
  | v x => exact .v x
  | row xs k t a n c u hn hc hm63 hk hm h1 _ ht ih =>
    refine .row xs k t a n c u hn hc hm63 hk (fun i j hi hj => hg.M _ _ (hm i j hi hj)) h1 ih fun h0 => ?_
    obtain ⟨h1, h2, h3, h4⟩ := ht h0
    rw [hg.tau t h1]
    exact ⟨Nat.lt_of_lt_of_le h1 hg.nx, h2, h3, h4⟩
  | rowNil k t ht => exact .rowNil k t (ht.imp id fun h => Nat.lt_of_lt_of_le h hg.nx)
  | ref cs a u hm _ ih => exact .ref cs a u (fun j hj => hg.M _ _ (hm j hj)) ih
  | agg cs us hl _ ih => exact .agg cs us hl ih
  | tup cs us hl _ ih => exact .tup cs us hl ih
  | ptr id off hid => rw [← hg.rho id hid]; exact .ptr id off (Nat.lt_of_lt_of_le hid hg.nx)
  | mrow id off n c hid hc hm63 => rw [← hg.rho id hid]; exact .mrow id off n c (Nat.lt_of_lt_of_le hid hg.nx) hc hm63
  | fn f caps us hl _ ih => exact .fn f caps us hl ih
  | iface t d u _ ih => exact .iface t d u ih

/-- The state: blocks that are known to this call's values alone; which rights stand. -/
structure St where
  H : Nat → Option (List D)
  T : Nat → Bool

def St.setH (s : St) (id : Nat) (cs : Option (List D)) : St := { s with H := fun i => if i = id then cs else s.H i }
def St.setT (s : St) (t : Nat) (b : Bool) : St := { s with T := fun i => if i = t then b else s.T i }
@[simp] theorem St.setH_H (s : St) (id : Nat) (cs) (i : Nat) : (s.setH id cs).H i = if i = id then cs else s.H i := rfl
@[simp] theorem St.setT_H (s : St) (t b) : (s.setT t b).H = s.H := rfl
@[simp] theorem St.setH_T (s : St) (id cs) : (s.setH id cs).T = s.T := rfl
@[simp] theorem St.setT_T (s : St) (t b i) : (s.setT t b).T i = if i = t then b else s.T i := rfl

/-- The world is as the state says; what stood at the very beginning (w0) stands. -/
structure Rel (w0 : World) (G : Gh) (s : St) (w : World) : Prop where
  mem : ∀ a u, G.M a = some u → w.cell? a = some u
  nxH : ∀ id, G.nx ≤ id → s.H id = none
  nxT : ∀ t, G.nx ≤ t → s.T t = false
  nx0 : 0 < G.nx
  T0 : s.T 0 = false
  ex : ∀ id cs, s.H id = some cs → ∃ (c : List Value) (e : TypeId), w.heap[G.rho id]? = some (.cells c.toArray e (0, 0)) ∧ cs.length ≤ c.length ∧ (∀ u ∈ c, u.oneCell' = true) ∧
    ∀ (j : Nat) (d : D) (u : Value), cs[j]? = some d → c[j]? = some u → VR G d u
  exM : ∀ id cs a u, s.H id = some cs → G.M a = some u → a.block ≠ G.rho id
  exB : ∀ id cs, s.H id = some cs → w0.heap.size ≤ G.rho id
  exI : ∀ id id' cs cs', s.H id = some cs → s.H id' = some cs' → G.rho id = G.rho id' → id = id'
  tk : ∀ t, s.T t = true → (G.tau t).2.2 ≠ 0 → ∃ (c : List Value) (e : TypeId), w.heap[(G.tau t).1]? = some (.cells c.toArray e (0, 0)) ∧ (G.tau t).2.2 ≤ c.length
  tkM : ∀ t a u, s.T t = true → (G.tau t).2.2 ≠ 0 → G.M a = some u → a.block = (G.tau t).1 → a.off < (G.tau t).2.1
  tkB : ∀ t, s.T t = true → (G.tau t).2.2 ≠ 0 → w0.heap.size ≤ (G.tau t).1
  tkI : ∀ t t', s.T t = true → s.T t' = true → (G.tau t).2.2 ≠ 0 → (G.tau t').2.2 ≠ 0 → (G.tau t).1 = (G.tau t').1 → t = t'
  tkE : ∀ t id cs, s.T t = true → (G.tau t).2.2 ≠ 0 → s.H id = some cs → (G.tau t).1 ≠ G.rho id
  below : Below w0.heap.size w0 w

theorem Rel.nxle {w0 w : World} {G : Gh} {s : St} (h : Rel w0 G s w) {id : Nat} {cs : List D} (e : s.H id = some cs) : id < G.nx := by
  rcases Nat.lt_or_ge id G.nx with h' | h'
  · exact h'
  · rw [h.nxH id h'] at e; cases e
theorem Rel.nxtk {w0 w : World} {G : Gh} {s : St} (h : Rel w0 G s w) {t : Nat} (e : s.T t = true) : t < G.nx := by
  rcases Nat.lt_or_ge t G.nx with h' | h'
  · exact h'
  · rw [h.nxT t h'] at e; cases e

/-- Only an order was drawn. -/
theorem Rel.drawn {w0 w : World} {G : Gh} {s : St} (h : Rel w0 G s w) (n : Nat) : Rel w0 G s { w with drawn := n } :=
  ⟨h.mem, h.nxH, h.nxT, h.nx0, h.T0, h.ex, h.exM, h.exB, h.exI, h.tk, h.tkM, h.tkB, h.tkI, h.tkE, ⟨h.below.os, h.below.tape, h.below.output, h.below.size, h.below.block⟩⟩

/-- A part of the state may be forgotten. -/
theorem Rel.forget {w0 w : World} {G : Gh} {s s' : St} (h : Rel w0 G s w) (hH : ∀ id cs, s'.H id = some cs → s.H id = some cs) (hT : ∀ t, s'.T t = true → s.T t = true) : Rel w0 G s' w where
  mem := h.mem
  nxH id hi := by
    cases e : s'.H id with
    | none => rfl
    | some cs => have := hH id cs e; rw [h.nxH id hi] at this; cases this
  nxT t hi := by
    cases e : s'.T t with
    | false => rfl
    | true => have := hT t e; rw [h.nxT t hi] at this; cases this
  nx0 := h.nx0
  T0 := by
    cases e : s'.T 0 with
    | false => rfl
    | true => have := hT 0 e; rw [h.T0] at this; cases this
  ex id cs e := h.ex id cs (hH id cs e)
  exM id cs a u e := h.exM id cs a u (hH id cs e)
  exB id cs e := h.exB id cs (hH id cs e)
  exI id id' cs cs' e e' := h.exI id id' cs cs' (hH id cs e) (hH id' cs' e')
  tk t e := h.tk t (hT t e)
  tkM t a u e := h.tkM t a u (hT t e)
  tkB t e := h.tkB t (hT t e)
  tkI t t' e e' := h.tkI t t' (hT t e) (hT t' e')
  tkE t id cs e e0 e' := h.tkE t id cs (hT t e) e0 (hH id cs e')
  below := h.below

/-- Slots: what is known of a call's temporaries. -/
abbrev Env := List (Nat × D)
def zlook : Env → Nat → Option D
  | [], _ => none
  | (k, d) :: r, t => if k = t then some d else zlook r t

structure ER (G : Gh) (n : Nat) (env : Env) (tmps : Array Value) : Prop where
  size : tmps.size = n
  at_ : ∀ t d, zlook env t = some d → ∃ u, tmps[t]? = some u ∧ VR G d u

theorem ER.mono {G G' : Gh} (hg : G.le G') {n env tmps} (h : ER G n env tmps) : ER G' n env tmps :=
  ⟨h.size, fun t d e => let ⟨u, hu, hv⟩ := h.at_ t d e; ⟨u, hu, hv.mono hg⟩⟩
theorem ER.sub {G : Gh} {n env env' tmps} (h : ER G n env tmps) (hs : ∀ t d, zlook env' t = some d → zlook env t = some d) : ER G n env' tmps :=
  ⟨h.size, fun t d e => h.at_ t d (hs t d e)⟩
theorem ER.put {G : Gh} {n env tmps} (h : ER G n env tmps) {t : Nat} {d : D} {u : Value} (ht : t < n) (hv : VR G d u) : ER G n ((t, d) :: env) (tmps.setIfInBounds t u) := by
  refine ⟨by simp [h.size], fun t' d' e => ?_⟩
  unfold zlook at e
  split at e
  · rename_i he
    subst he
    cases e
    exact ⟨u, by simp [h.size, ht], hv⟩
  · rename_i he
    obtain ⟨u', hu', hv'⟩ := h.at_ t' d' e
    exact ⟨u', by rw [Array.getElem?_setIfInBounds_ne he]; exact hu', hv'⟩
/-- A slot of which nothing is known any more. -/
theorem ER.drop {G : Gh} {n env tmps} (h : ER G n env tmps) {t : Nat} (u : Value) : ER G n (env.filter fun p => p.1 ≠ t) (tmps.setIfInBounds t u) := by
  have key : ∀ (env : Env) t' d', zlook (env.filter fun p => p.1 ≠ t) t' = some d' → t' ≠ t ∧ zlook env t' = some d' := by
    intro env
    induction env with
    | nil => intro t' d' e; simp [zlook] at e
    | cons p r ih =>
      obtain ⟨k, d⟩ := p
      intro t' d' e
      by_cases hk : k = t
      · subst hk
        simp only [ne_eq, not_true_eq_false, decide_false, Bool.false_eq_true, not_false_eq_true, List.filter_cons_of_neg] at e
        obtain ⟨h1, h2⟩ := ih t' d' e
        refine ⟨h1, ?_⟩
        unfold zlook
        rw [if_neg (Ne.symm h1)]
        exact h2
      · have : ((k, d) :: r).filter (fun p => p.1 ≠ t) = (k, d) :: r.filter (fun p => p.1 ≠ t) := by simp [hk]
        rw [this] at e
        unfold zlook at e ⊢
        split at e
        · rename_i he; subst he; exact ⟨hk, by rw [if_pos rfl]; exact e⟩
        · rename_i he; rw [if_neg he]; exact ih t' d' e
  refine ⟨by simp [h.size], fun t' d' e => ?_⟩
  obtain ⟨h1, h2⟩ := key env t' d' e
  obtain ⟨u', hu', hv'⟩ := h.at_ t' d' h2
  exact ⟨u', by rw [Array.getElem?_setIfInBounds_ne (Ne.symm h1)]; exact hu', hv'⟩

/-- An operand's abstract value. -/
def ev (env : Env) : Operand → Option D
  | .tmp t => zlook env t
  | .const x => some (.v x)
  | .global g => some (.v (.pointer (some ⟨g, 0, none⟩)))
  | .func f => some (.fn f [])
theorem ev_ok {G : Gh} {n env} {a : Act} (h : ER G n env a.tmps) {x : Operand} {d : D} (e : ev env x = some d) : VR G d (a.eval x) := by
  cases x with
  | tmp t => obtain ⟨u, hu, hv⟩ := h.at_ t d e; simpa [Act.eval, hu] using hv
  | const x => cases e; exact .v x
  | global g => cases e; exact .v _
  | func f => cases e; exact .fn f [] [] rfl (fun j d u h => by simp at h)

end Go.Proofs.Zm
