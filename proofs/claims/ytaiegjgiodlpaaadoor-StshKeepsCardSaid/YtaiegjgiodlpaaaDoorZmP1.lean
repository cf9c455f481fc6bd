/- The framework of these walks, part 1 of 2: abstract values, judgements, rules of operations, own memory. No condition. -/
import GoSem.Core.Value
import Derived.OrdersHeld
import Derived.Maps.AppendAt
import Derived.Laws.Cells
import Derived.Laws.CopyRow
import Derived.Laws.IdiomCopy
import Derived.Below
import Derived.MapKept
import Derived.Tactics
import Derived.WalkKit
import Derived.Laws.Slices
import Derived.Lib.ConvBytes
import Derived.Laws.IdiomStrings
import Derived.Laws.MakeOwn
import Derived.Lib.SlBytesConst
import Derived.SizedLaws
import Derived.ChangeSlices
import Derived.Laws.StructEq
import Derived.Laws.Pointers
set_option linter.unusedVariables false
set_option linter.unusedSimpArgs false
/- The framework's beginning: what this program's listed variables hold. -/
namespace Go.Proofs.Zm
/-- What a listed variable's cells hold. -/
def gdata : Nat → List Value
  | 0 => [0, 1, 28, 2, 29, 14, 24, 3, 30, 22, 20, 15, 25, 17, 4, 8, 31, 27, 13, 23, 21, 19, 16, 7, 26, 12, 18, 6, 11, 5, 10, 9].map (Value.int .u8)
  | 1 => [0, 1, 56, 2, 57, 49, 28, 3, 61, 58, 42, 50, 38, 29, 17, 4, 62, 47, 59, 36, 45, 43, 51, 22, 53, 39, 33, 30, 24, 18, 12, 5, 63, 55, 48, 27, 60, 41, 37, 16, 46, 35, 44, 21, 52, 32, 23, 11, 54, 26, 40, 15, 34, 20, 31, 10, 25, 14, 19, 9, 13, 8, 7, 6].map (Value.int .u8)
  | _ => []
end Go.Proofs.Zm
/- The framework's first part: abstract values, what they stand for in memory, the state, and its laws. -/
namespace Go.Proofs.Zm
open Go.RowKit

/-- Abstract values. -/
inductive D where
  /-- just this value -/
  | v (x : Value)
  /-- a slice that is read: its elements, each by its cells; how many cells an element has; the number of the right to append in place (0: none) -/
  | row (xs : List (List D)) (k : Nat) (t : Nat)
  /-- the address of cells that nobody writes any more -/
  | ref (cs : List D)
  | agg (cs : List D)
  | tup (ds : List D)
  /-- an address in a block that only this value's holders know -/
  | ptr (id off : Nat)
  /-- a slice over such a block: where it begins, how many elements, how many it could have -/
  | mrow (id off n c : Nat)
  | fn (f : FuncId) (caps : List D)
  | iface (t : TypeId) (d : D)
  /-- a map that only this value's holders know -/
  | mp (id : Nat)

/-- What is known of memory: cells that nobody writes any more; the blocks of numbers; the rights to append. -/
structure Gh where
  M : Addr → Option Value
  rho : Nat → Nat
  /-- a right's block, how many of its cells are told, how many it has -/
  tau : Nat → Nat × Nat × Nat
  nx : Nat

/-- An abstract value stands for a value. -/
inductive VR (G : Gh) : D → Value → Prop where
  | v (x : Value) : VR G (.v x) x
  | row (xs : List (List D)) (k t : Nat) (a : Addr) (n c : Nat) (u : Nat → Nat → Value) (hn : xs.length = n) (hc : n ≤ c) (hm63 : c ≤ maxLen)
      (hk : ∀ (i : Nat) (x : List D), xs[i]? = some x → x.length = k)
      (hm : ∀ i j, i < n → j < k → G.M (a.add (i * k + j)) = some (u i j))
      (h1 : ∀ i j, (u i j).oneCell' = true)
      (hv : ∀ (i : Nat) (x : List D) (j : Nat) (d : D), xs[i]? = some x → x[j]? = some d → VR G d (u i j))
      (ht : t ≠ 0 → t < G.nx ∧ a = ⟨(G.tau t).1, 0, none⟩ ∧ (G.tau t).2.1 = n * k ∧ (G.tau t).2.2 = c * k) : VR G (.row xs k t) (.slice (some a) n c)
  | rowNil (k t : Nat) (ht : t = 0 ∨ t < G.nx) : VR G (.row [] k t) (.slice none 0 0)
  | ref (cs : List D) (a : Addr) (u : Nat → Value) (hm : ∀ j, j < cs.length → G.M (a.add j) = some (u j))
      (hv : ∀ (j : Nat) (d : D), cs[j]? = some d → VR G d (u j)) : VR G (.ref cs) (.pointer (some a))
  | agg (cs : List D) (us : List Value) (hl : cs.length = us.length) (hv : ∀ (j : Nat) (d : D) (u : Value), cs[j]? = some d → us[j]? = some u → VR G d u) : VR G (.agg cs) (.agg us.toArray)
  | tup (cs : List D) (us : List Value) (hl : cs.length = us.length) (hv : ∀ (j : Nat) (d : D) (u : Value), cs[j]? = some d → us[j]? = some u → VR G d u) : VR G (.tup cs) (.tuple us.toArray)
  | ptr (id off : Nat) (hid : id < G.nx) : VR G (.ptr id off) (.pointer (some ⟨G.rho id, off, none⟩))
  | mrow (id off n c : Nat) (hid : id < G.nx) (hc : n ≤ c) (hm63 : c ≤ maxLen) : VR G (.mrow id off n c) (.slice (some ⟨G.rho id, off, none⟩) n c)
  | fn (f : FuncId) (caps : List D) (us : List Value) (hl : caps.length = us.length) (hv : ∀ (j : Nat) (d : D) (u : Value), caps[j]? = some d → us[j]? = some u → VR G d u) : VR G (.fn f caps) (.func (.func f) #[] us.toArray)
  | iface (t : TypeId) (d : D) (u : Value) (hv : VR G d u) : VR G (.iface t d) (.iface t u)
  | mp (id : Nat) (hid : id < G.nx) : VR G (.mp id) (.map (some (G.rho id)))

/-- More is known. -/
structure Gh.le (G G' : Gh) : Prop where
  M : ∀ a u, G.M a = some u → G'.M a = some u
  rho : ∀ id, id < G.nx → G'.rho id = G.rho id
  tau : ∀ t, t < G.nx → G'.tau t = G.tau t
  nx : G.nx ≤ G'.nx

theorem Gh.le.refl (G : Gh) : G.le G := ⟨fun _ _ h => h, fun _ _ => rfl, fun _ _ => rfl, Nat.le_refl _⟩
theorem Gh.le.trans {A B C : Gh} (h : A.le B) (k : B.le C) : A.le C :=
  ⟨fun a u e => k.M a u (h.M a u e), fun id hi => (k.rho id (Nat.lt_of_lt_of_le hi h.nx)).trans (h.rho id hi),
   fun t hi => (k.tau t (Nat.lt_of_lt_of_le hi h.nx)).trans (h.tau t hi), Nat.le_trans h.nx k.nx⟩

theorem VR.mono {G G' : Gh} (hg : G.le G') {d : D} {u : Value} (h : VR G d u) : VR G' d u := by
  induction h with
  | v x => exact .v x
  | row xs k t a n c u hn hc hm63 hk hm h1 _ ht ih =>
    refine .row xs k t a n c u hn hc hm63 hk (fun i j hi hj => hg.M _ _ (hm i j hi hj)) h1 ih fun h0 => ?_
    obtain ⟨h1, h2, h3, h4⟩ := ht h0
    rw [hg.tau t h1]
    exact ⟨Nat.lt_of_lt_of_le h1 hg.nx, h2, h3, h4⟩
  | rowNil k t ht => exact .rowNil k t (ht.imp id fun h => Nat.lt_of_lt_of_le h hg.nx)
  | ref cs a u hm _ ih => exact .ref cs a u (fun j hj => hg.M _ _ (hm j hj)) ih
  | agg cs us hl _ ih => exact .agg cs us hl ih
  | tup cs us hl _ ih => exact .tup cs us hl ih
  | ptr id off hid => rw [← hg.rho id hid]; exact .ptr id off (Nat.lt_of_lt_of_le hid hg.nx)
  | mrow id off n c hid hc hm63 => rw [← hg.rho id hid]; exact .mrow id off n c (Nat.lt_of_lt_of_le hid hg.nx) hc hm63
  | fn f caps us hl _ ih => exact .fn f caps us hl ih
  | iface t d u _ ih => exact .iface t d u ih
  | mp id hid => rw [← hg.rho id hid]; exact .mp id (Nat.lt_of_lt_of_le hid hg.nx)

/-- The state: blocks that are known to this call's values alone; which rights stand. -/
structure St where
  H : Nat → Option (List D)
  T : Nat → Bool
  /-- maps: what each holds, in its own order -/
  N : Nat → Option (List (Value × D)) := fun _ => none

def St.setH (s : St) (id : Nat) (cs : Option (List D)) : St := { s with H := fun i => if i = id then cs else s.H i }
def St.setT (s : St) (t : Nat) (b : Bool) : St := { s with T := fun i => if i = t then b else s.T i }
def St.setN (s : St) (id : Nat) (m : Option (List (Value × D))) : St := { s with N := fun i => if i = id then m else s.N i }
@[simp] theorem St.setN_H (s : St) (id m) : (s.setN id m).H = s.H := rfl
@[simp] theorem St.setN_T (s : St) (id m) : (s.setN id m).T = s.T := rfl
@[simp] theorem St.setN_N (s : St) (id m i) : (s.setN id m).N i = if i = id then m else s.N i := rfl
@[simp] theorem St.setH_N (s : St) (id cs) : (s.setH id cs).N = s.N := rfl
@[simp] theorem St.setT_N (s : St) (t b) : (s.setT t b).N = s.N := rfl
@[simp] theorem St.setH_H (s : St) (id : Nat) (cs) (i : Nat) : (s.setH id cs).H i = if i = id then cs else s.H i := rfl
@[simp] theorem St.setT_H (s : St) (t b) : (s.setT t b).H = s.H := rfl
@[simp] theorem St.setH_T (s : St) (id cs) : (s.setH id cs).T = s.T := rfl
@[simp] theorem St.setT_T (s : St) (t b i) : (s.setT t b).T i = if i = t then b else s.T i := rfl

/-- None of a block's first cells may not be written. -/
def Free (fz : Nat × Nat) (n : Nat) : Prop := ∀ i, i < n → ¬ (fz.1 ≤ i ∧ i < fz.2)
theorem Free.zero (n : Nat) : Free (0, 0) n := fun i _ h => by simp at h
/-- A map's entries are what it is told to hold. -/
def MEnts (G : Gh) (m : List (Value × D)) (l : List MapEntry) : Prop :=
  m.length = l.length ∧ ∀ (j : Nat) (k : Value) (d : D) (e : MapEntry), m[j]? = some (k, d) → l[j]? = some e → e.key = k ∧ VR G d e.val
structure MapRel (w0 : World) (G : Gh) (N : Nat → Option (List (Value × D))) (w : World) : Prop where
  nx : ∀ id, G.nx ≤ id → N id = none
  ex : ∀ id m, N id = some m → ∃ es clock, w.heap[G.rho id]? = some (.map es clock) ∧ MEnts G m es.toList ∧ MapKept.Stamped es clock
  base : ∀ id m, N id = some m → w0.heap.size ≤ G.rho id
  inj : ∀ id id' m m', N id = some m → N id' = some m' → G.rho id = G.rho id' → id = id'
  gl : ∀ g j v, (gdata g)[j]? = some v → G.M ((⟨g, 0, none⟩ : Addr).add j) = some v
theorem MEnts.mono {G G' : Gh} (hg : G.le G') {m : List (Value × D)} {l : List MapEntry} (h : MEnts G m l) : MEnts G' m l :=
  ⟨h.1, fun j k d e h1 h2 => let ⟨h3, h4⟩ := h.2 j k d e h1 h2; ⟨h3, h4.mono hg⟩⟩
theorem MapRel.lt {w0 w : World} {G : Gh} {N : Nat → Option (List (Value × D))} (h : MapRel w0 G N w) {id : Nat} {m : List (Value × D)} (e : N id = some m) : id < G.nx := by
  rcases Nat.lt_or_ge id G.nx with h' | h'
  · exact h'
  · rw [h.nx id h'] at e; cases e
/-- Maps are as they were where no map was written. -/
theorem MapRel.frame {w0 w w' : World} {G G' : Gh} {N : Nat → Option (List (Value × D))} (h : MapRel w0 G N w) (hg : G.le G') (hw : ∀ (i : Nat) (es : Array MapEntry) (cl : Nat), w.heap[i]? = some (Obj.map es cl) → w'.heap[i]? = some (Obj.map es cl)) : MapRel w0 G' N w' where
  nx id hi := h.nx id (Nat.le_trans hg.nx hi)
  ex id m e := by
    obtain ⟨es, cl, h1, h2, h3⟩ := h.ex id m e
    rw [hg.rho id (h.lt e)]
    exact ⟨es, cl, hw _ _ _ h1, h2.mono hg, h3⟩
  base id m e := by rw [hg.rho id (h.lt e)]; exact h.base id m e
  inj id id' m m' e e' hr := by rw [hg.rho id (h.lt e), hg.rho id' (h.lt e')] at hr; exact h.inj id id' m m' e e' hr
  gl g j v q := hg.M _ _ (h.gl g j v q)
theorem MapRel.sub {w0 w : World} {G : Gh} {N N' : Nat → Option (List (Value × D))} (h : MapRel w0 G N w) (hN : ∀ id m, N' id = some m → N id = some m) : MapRel w0 G N' w where
  nx id hi := by
    cases e : N' id with
    | none => rfl
    | some m => have := hN id m e; rw [h.nx id hi] at this; cases this
  ex id m e := h.ex id m (hN id m e)
  base id m e := h.base id m (hN id m e)
  inj id id' m m' e e' := h.inj id id' m m' (hN id m e) (hN id' m' e')
  gl := h.gl
/-- The world is as the state says; what stood at the very beginning (w0) stands. -/
structure Rel (w0 : World) (G : Gh) (s : St) (w : World) : Prop where
  mem : ∀ a u, G.M a = some u → w.cell? a = some u
  nxH : ∀ id, G.nx ≤ id → s.H id = none
  nxT : ∀ t, G.nx ≤ t → s.T t = false
  nx0 : 0 < G.nx
  T0 : s.T 0 = false
  ex : ∀ id cs, s.H id = some cs → ∃ (c : List Value) (e : TypeId), w.heap[G.rho id]? = some (.cells c.toArray e (0, 0)) ∧ cs.length ≤ c.length ∧ (∀ u ∈ c, u.oneCell' = true) ∧
    ∀ (j : Nat) (d : D) (u : Value), cs[j]? = some d → c[j]? = some u → VR G d u
  exM : ∀ id cs a u, s.H id = some cs → G.M a = some u → a.block ≠ G.rho id
  exB : ∀ id cs, s.H id = some cs → w0.heap.size ≤ G.rho id
  exI : ∀ id id' cs cs', s.H id = some cs → s.H id' = some cs' → G.rho id = G.rho id' → id = id'
  tk : ∀ t, s.T t = true → (G.tau t).2.2 ≠ 0 → ∃ (c : List Value) (q : TypeId × Nat × Nat), w.heap[(G.tau t).1]? = some (.cells c.toArray q.1 q.2) ∧ (G.tau t).2.2 ≤ c.length ∧ Free q.2 c.length
  tkM : ∀ t a u, s.T t = true → (G.tau t).2.2 ≠ 0 → G.M a = some u → a.block = (G.tau t).1 → a.off < (G.tau t).2.1
  tkB : ∀ t, s.T t = true → (G.tau t).2.2 ≠ 0 → w0.heap.size ≤ (G.tau t).1
  tkI : ∀ t t', s.T t = true → s.T t' = true → (G.tau t).2.2 ≠ 0 → (G.tau t').2.2 ≠ 0 → (G.tau t).1 = (G.tau t').1 → t = t'
  tkE : ∀ t id cs, s.T t = true → (G.tau t).2.2 ≠ 0 → s.H id = some cs → (G.tau t).1 ≠ G.rho id
  mp : MapRel w0 G s.N w
  below : Below w0.heap.size w0 w

theorem Rel.nxle {w0 w : World} {G : Gh} {s : St} (h : Rel w0 G s w) {id : Nat} {cs : List D} (e : s.H id = some cs) : id < G.nx := by
  rcases Nat.lt_or_ge id G.nx with h' | h'
  · exact h'
  · rw [h.nxH id h'] at e; cases e
theorem Rel.nxtk {w0 w : World} {G : Gh} {s : St} (h : Rel w0 G s w) {t : Nat} (e : s.T t = true) : t < G.nx := by
  rcases Nat.lt_or_ge t G.nx with h' | h'
  · exact h'
  · rw [h.nxT t h'] at e; cases e

/-- Only an order was drawn. -/
theorem Rel.drawn {w0 w : World} {G : Gh} {s : St} (h : Rel w0 G s w) (n : Nat) : Rel w0 G s { w with drawn := n } :=
  ⟨h.mem, h.nxH, h.nxT, h.nx0, h.T0, h.ex, h.exM, h.exB, h.exI, h.tk, h.tkM, h.tkB, h.tkI, h.tkE, ⟨h.mp.nx, h.mp.ex, h.mp.base, h.mp.inj, h.mp.gl⟩, ⟨h.below.os, h.below.tape, h.below.output, h.below.size, h.below.block⟩⟩

/-- A part of the state may be forgotten. -/
theorem Rel.forget {w0 w : World} {G : Gh} {s s' : St} (h : Rel w0 G s w) (hH : ∀ id cs, s'.H id = some cs → s.H id = some cs) (hT : ∀ t, s'.T t = true → s.T t = true) (hN : ∀ id m, s'.N id = some m → s.N id = some m := by exact fun _ _ e => e) : Rel w0 G s' w where
  mem := h.mem
  nxH id hi := by
    cases e : s'.H id with
    | none => rfl
    | some cs => have := hH id cs e; rw [h.nxH id hi] at this; cases this
  nxT t hi := by
    cases e : s'.T t with
    | false => rfl
    | true => have := hT t e; rw [h.nxT t hi] at this; cases this
  nx0 := h.nx0
  T0 := by
    cases e : s'.T 0 with
    | false => rfl
    | true => have := hT 0 e; rw [h.T0] at this; cases this
  ex id cs e := h.ex id cs (hH id cs e)
  exM id cs a u e := h.exM id cs a u (hH id cs e)
  exB id cs e := h.exB id cs (hH id cs e)
  exI id id' cs cs' e e' := h.exI id id' cs cs' (hH id cs e) (hH id' cs' e')
  tk t e := h.tk t (hT t e)
  tkM t a u e := h.tkM t a u (hT t e)
  tkB t e := h.tkB t (hT t e)
  tkI t t' e e' := h.tkI t t' (hT t e) (hT t' e')
  tkE t id cs e e0 e' := h.tkE t id cs (hT t e) e0 (hH id cs e')
  mp := h.mp.sub hN
  below := h.below

/-- Slots: what is known of a call's temporaries. -/
abbrev Env := List (Nat × D)
def zlook : Env → Nat → Option D
  | [], _ => none
  | (k, d) :: r, t => if k = t then some d else zlook r t

structure ER (G : Gh) (n : Nat) (env : Env) (tmps : Array Value) : Prop where
  size : tmps.size = n
  gl : ∀ g j v, (gdata g)[j]? = some v → G.M ((⟨g, 0, none⟩ : Addr).add j) = some v
  at_ : ∀ t d, zlook env t = some d → ∃ u, tmps[t]? = some u ∧ VR G d u

theorem ER.mono {G G' : Gh} (hg : G.le G') {n env tmps} (h : ER G n env tmps) : ER G' n env tmps :=
  ⟨h.size, fun g j v q => hg.M _ _ (h.gl g j v q), fun t d e => let ⟨u, hu, hv⟩ := h.at_ t d e; ⟨u, hu, hv.mono hg⟩⟩
theorem ER.sub {G : Gh} {n env env' tmps} (h : ER G n env tmps) (hs : ∀ t d, zlook env' t = some d → zlook env t = some d) : ER G n env' tmps :=
  ⟨h.size, h.gl, fun t d e => h.at_ t d (hs t d e)⟩
theorem ER.put {G : Gh} {n env tmps} (h : ER G n env tmps) {t : Nat} {d : D} {u : Value} (ht : t < n) (hv : VR G d u) : ER G n ((t, d) :: env) (tmps.setIfInBounds t u) := by
  refine ⟨by simp [h.size], h.gl, fun t' d' e => ?_⟩
  unfold zlook at e
  split at e
  · rename_i he
    subst he
    cases e
    exact ⟨u, by simp [h.size, ht], hv⟩
  · rename_i he
    obtain ⟨u', hu', hv'⟩ := h.at_ t' d' e
    exact ⟨u', by rw [Array.getElem?_setIfInBounds_ne he]; exact hu', hv'⟩
/-- A slot of which nothing is known any more. -/
theorem ER.drop {G : Gh} {n env tmps} (h : ER G n env tmps) {t : Nat} (u : Value) : ER G n (env.filter fun p => p.1 ≠ t) (tmps.setIfInBounds t u) := by
  have key : ∀ (env : Env) t' d', zlook (env.filter fun p => p.1 ≠ t) t' = some d' → t' ≠ t ∧ zlook env t' = some d' := by
    intro env
    induction env with
    | nil => intro t' d' e; simp [zlook] at e
    | cons p r ih =>
      obtain ⟨k, d⟩ := p
      intro t' d' e
      by_cases hk : k = t
      · subst hk
        simp only [ne_eq, not_true_eq_false, decide_false, Bool.false_eq_true, not_false_eq_true, List.filter_cons_of_neg] at e
        obtain ⟨h1, h2⟩ := ih t' d' e
        refine ⟨h1, ?_⟩
        unfold zlook
        rw [if_neg (Ne.symm h1)]
        exact h2
      · have : ((k, d) :: r).filter (fun p => p.1 ≠ t) = (k, d) :: r.filter (fun p => p.1 ≠ t) := by simp [hk]
        rw [this] at e
        unfold zlook at e ⊢
        split at e
        · rename_i he; subst he; exact ⟨hk, by rw [if_pos rfl]; exact e⟩
        · rename_i he; rw [if_neg he]; exact ih t' d' e
  refine ⟨by simp [h.size], h.gl, fun t' d' e => ?_⟩
  obtain ⟨h1, h2⟩ := key env t' d' e
  obtain ⟨u', hu', hv'⟩ := h.at_ t' d' h2
  exact ⟨u', by rw [Array.getElem?_setIfInBounds_ne (Ne.symm h1)]; exact hu', hv'⟩

/-- An operand's abstract value. -/
def ev (env : Env) : Operand → Option D
  | .tmp t => zlook env t
  | .const x => some (.v x)
  | .global g => some (bif (gdata g).isEmpty then .v (.pointer (some ⟨g, 0, none⟩)) else .ref ((gdata g).map .v))
  | .func f => some (.fn f [])
theorem ev_ok {G : Gh} {n env} {a : Act} (h : ER G n env a.tmps) {x : Operand} {d : D} (e : ev env x = some d) : VR G d (a.eval x) := by
  cases x with
  | tmp t => obtain ⟨u, hu, hv⟩ := h.at_ t d e; simpa [Act.eval, hu] using hv
  | const x => cases e; exact .v x
  | global g =>
    cases e
    cases hg : (gdata g).isEmpty with
    | true => exact .v _
    | false =>
      refine .ref _ _ (fun j => ((gdata g)[j]?).getD (.bool false)) (fun j hj => ?_) (fun j d hd => ?_)
      · rw [List.length_map] at hj
        exact h.gl g j _ (by rw [List.getElem?_eq_getElem hj]; rfl)
      · rw [List.getElem?_map] at hd
        obtain ⟨v, hv, rfl⟩ := Option.map_eq_some_iff.1 hd
        rw [hv]; exact .v v
  | func f => cases e; exact .fn f [] [] rfl (fun j d u h => by simp at h)

end Go.Proofs.Zm
/- The framework's second part: judgements on code, operations and calls over abstract states, and the rules of code. -/
namespace Go.Proofs.Zm
open Go.RowKit

theorem least {p : Nat → Prop} (h : ∃ m, p m) : ∃ m, p m ∧ ∀ k, p k → m ≤ k := by
  obtain ⟨m, hm⟩ := h
  induction m using Nat.strongRecOn with
  | _ m ih =>
    by_cases hk : ∃ k, k < m ∧ p k
    · obtain ⟨k, hlt, hp⟩ := hk; exact ih k hlt hp
    · exact ⟨m, hm, fun k hp => Nat.le_of_not_lt fun hlt => hk ⟨k, hlt, hp⟩⟩
open Classical in
/-- The least number of which p holds (0, if of none). -/
noncomputable def sInfNat (p : Nat → Prop) : Nat := if h : ∃ m, p m then Classical.choose (least h) else 0
open Classical in
theorem sInfNat_mem {p : Nat → Prop} (h : ∃ m, p m) : p (sInfNat p) := by unfold sInfNat; rw [dif_pos h]; exact (Classical.choose_spec (least h)).1
open Classical in
theorem sInfNat_le {p : Nat → Prop} {m : Nat} (h : p m) : sInfNat p ≤ m := by unfold sInfNat; rw [dif_pos ⟨m, h⟩]; exact (Classical.choose_spec (least ⟨m, h⟩)).2 _ h

theorem VR.eq_v {G : Gh} {x u : Value} (h : VR G (.v x) u) : u = x := by cases h; rfl

set_option linter.unusedVariables false
abbrev ZPost := Exit → Env → St → Prop

/-- What a piece of code comes to. -/
def Outc (w0 : World) (n : Nat) (Q : ZPost) (G : Gh) : Exit → Act → World → Prop
  | .panic _, _, _ => False
  | .outgrown, _, _ => False
  | e, a, w => ∃ G' env st, G.le G' ∧ Rel w0 G' st w ∧ ER G' n env a.tmps ∧ a.defers = [] ∧ Q e env st

theorem Outc.mono {w0 n G G'} {Q Q' : ZPost} (hg : G.le G') (hq : ∀ e env st, Q e env st → Q' e env st) : ∀ e a w, Outc w0 n Q G' e a w → Outc w0 n Q' G e a w := by
  intro e a w h
  cases e <;> first
    | exact h
    | (obtain ⟨G2, env, st, h1, h2, h3, h4, h5⟩ := h; exact ⟨G2, env, st, hg.trans h1, h2, h3, h4, hq _ _ _ h5⟩)

/-- Code, from an abstract state on. -/
def ZWp (P : Program) (w0 : World) (n : Nat) (c : Code) (Q : ZPost) (env : Env) (st : St) : Prop :=
  ∀ G w a, Rel w0 G st w → ER G n env a.tmps → a.defers = [] → c.wp P (Outc w0 n Q G) a w

/-- One operation: what follows is told by the slots and the state behind it. -/
def ZOp (P : Program) (w0 : World) (n : Nat) (o : Oper) (env : Env) (st : St) (K : Env → St → Prop) : Prop :=
  ∀ G w a, Rel w0 G st w → ER G n env a.tmps → a.defers = [] → ∀ (next : Act → World → Prop) (Q : Exit → Act → World → Prop),
    (∀ G' env' st' a' w', G.le G' → Rel w0 G' st' w' → ER G' n env' a'.tmps → a'.defers = [] → K env' st' → (∀ t u, o.dst ≠ some t → a.tmps[t]? = some u → a'.tmps[t]? = some u) → next a' w') → o.wp P a w next Q

/-- An operation that only reads what nobody writes any more. -/
def ZPure (P : Program) (o : Oper) (env : Env) (d : D) : Prop :=
  ∀ G n (a : Act), ER G n env a.tmps → ∃ v, VR G d v ∧ ∀ w : World, (∀ x u, G.M x = some u → w.cell? x = some u) → (execOp a.eval o).run P w = .ok (.value v) w
/-- An operation that reads no memory. -/
def ZPure0 (P : Program) (o : Oper) (env : Env) (d : D) : Prop :=
  ∀ G n (a : Act), ER G n env a.tmps → ∃ v, VR G d v ∧ ∀ w : World, (execOp a.eval o).run P w = .ok (.value v) w
theorem ZPure0.pure {P o env d} (h : ZPure0 P o env d) : ZPure P o env d := fun G n a he =>
  let ⟨v, hv, hr⟩ := h G n a he; ⟨v, hv, fun w _ => hr w⟩

/-- An operation with a value. -/
def ZVal (P : Program) (w0 : World) (n : Nat) (o : Oper) (env : Env) (st : St) (K : D → St → Prop) : Prop :=
  ∀ G w (a : Act), Rel w0 G st w → ER G n env a.tmps → ∃ v w' G' d st', (execOp a.eval o).run P w = .ok (.value v) w' ∧ G.le G' ∧ Rel w0 G' st' w' ∧ VR G' d v ∧ K d st'

theorem ZPure.val {P w0 n o env st d} {K : D → St → Prop} (h : ZPure P o env d) (hK : K d st) : ZVal P w0 n o env st K := by
  intro G w a hr he
  obtain ⟨v, hv, hrun⟩ := h G n a he
  exact ⟨v, w, G, d, st, hrun w hr.mem, .refl G, hr, hv, hK⟩

theorem put_other {a : Act} {dst : Option Tmp} {v : Value} {t : Nat} {u : Value} (h : dst ≠ some t) (hu : a.tmps[t]? = some u) : (a.put dst v).tmps[t]? = some u := by
  cases dst with
  | none => exact hu
  | some d =>
    have : d ≠ t := fun e => h (by rw [e])
    simp only [Act.put]
    rw [Array.getElem?_setIfInBounds_ne this]
    exact hu

theorem ZVal.op {P w0 n} {o : Oper} {env st t} {K : Env → St → Prop} (hd : o.dst = some t) (ht : t < n) (h : ZVal P w0 n o env st fun d st' => K ((t, d) :: env) st') : ZOp P w0 n o env st K := by
  intro G w a hr he hdf next Q hn
  obtain ⟨v, w', G', d, st', hrun, hle, hrel, hv, hK⟩ := h G w a hr he
  unfold Oper.wp
  rw [hrun]
  exact hn G' ((t, d) :: env) st' _ w' hle hrel (by simpa [Act.put, hd] using (he.mono hle).put ht hv) (by simpa [Act.put, hd] using hdf) hK (fun t' u h1 h2 => put_other h1 h2)

/-- Operations of a region, in the text's order. -/
def ZOps (P : Program) (w0 : World) (n : Nat) (ops : Array Oper) (l : List Oper) (Q : ZPost) (env : Env) (st : St) : Prop :=
  ∀ G w a, Rel w0 G st w → ER G n env a.tmps → a.defers = [] → wpList P ops (Outc w0 n Q G) l a w

theorem wpList_mono {P : Program} {ops : Array Oper} {Q Q' : Exit → Act → World → Prop} (hq : ∀ e a w, Q e a w → Q' e a w) (hp : ∀ c a w, Q (.panic c) a w → Q' (.panic c) a w) :
    ∀ (l : List Oper) (a : Act) (w : World), wpList P ops Q l a w → wpList P ops Q' l a w := by
  intro l
  induction l with
  | nil => intro a w h; exact hq _ _ _ h
  | cons o l ih =>
    intro a w h
    unfold wpList at h ⊢
    split
    · rename_i hw
      rw [if_pos hw] at h
      rcases h with h | ⟨h1, a0, w1, h2⟩
      · left
        unfold Oper.wp at h ⊢
        generalize (execOp a.eval o).run P w = r at *
        cases r with
        | ok x w' =>
          cases x <;> simp only [Oper.upon] at h ⊢ <;> first
            | exact ih _ _ h
            | exact Rows.mono h (fun _ _ he => ih _ _ he)
            | (refine Calls.mono h (fun e w'' he => ?_)
               cases e with
                | returned v => exact ih _ _ he
                | panicked c => exact hp _ _ _ he
                | outgrown => obtain ⟨a1, w1, h1⟩ := he; exact ⟨a1, w1, hq _ _ _ h1⟩)
        | halt x w' => cases x <;> simp only [Oper.upon] at h ⊢ <;> first | exact hp _ _ _ h | exact h
      · exact .inr ⟨h1, a0, w1, hq _ _ _ h2⟩
    · rename_i hw
      rw [if_neg hw] at h
      exact ih _ _ h

section rules
variable {P : Program} {w0 : World} {n : Nat} {Q : ZPost} {env : Env} {st : St}

theorem ZWp.mono {c : Code} {Q' : ZPost} (h : ZWp P w0 n c Q env st) (hq : ∀ e env st, Q e env st → Q' e env st) : ZWp P w0 n c Q' env st :=
  fun G w a h1 h2 h3 => Code.wp_mono (Outc.mono (.refl G) hq) (h G w a h1 h2 h3)

/-- Knowing less. -/
theorem ZWp.weaken {c : Code} {env' : Env} (h : ZWp P w0 n c Q env' st) (hs : ∀ t d, zlook env' t = some d → zlook env t = some d) : ZWp P w0 n c Q env st :=
  fun G w a h1 h2 h3 => h G w a h1 (h2.sub hs) h3

theorem zr_skip (h : Q .normal env st) : ZWp P w0 n .skip Q env st := fun G w a h1 h2 h3 => wp_skip ⟨G, env, st, .refl G, h1, h2, h3, h⟩
theorem zr_exit {id : Nat} (h : Q (.exit id) env st) : ZWp P w0 n (.exit id) Q env st := fun G w a h1 h2 h3 => wp_exit ⟨G, env, st, .refl G, h1, h2, h3, h⟩
theorem zr_ret (h : Q .ret env st) : ZWp P w0 n .ret Q env st := fun G w a h1 h2 h3 => wp_ret ⟨G, env, st, .refl G, h1, h2, h3, h⟩

def Zthen (K : Env → St → Prop) (Q : ZPost) : ZPost
  | .normal, env, st => K env st
  | e, env, st => Q e env st

theorem zr_seq {x y : Code} (h : ZWp P w0 n x (Zthen (ZWp P w0 n y Q) Q) env st) : ZWp P w0 n (.seq x y) Q env st := by
  intro G w a h1 h2 h3
  refine wp_seq (Code.wp_mono ?_ (h G w a h1 h2 h3))
  intro e a' w' hq
  cases e with
  | normal =>
    obtain ⟨G', env', st', hle, hr, he, hd, hk⟩ := hq
    exact Code.wp_mono (Outc.mono hle (fun _ _ _ h => h)) (hk G' w' a' hr he hd)
  | panic c => exact hq.elim
  | outgrown => exact hq.elim
  | exit id => exact hq
  | goto l => exact hq
  | ret => exact hq

theorem zr_cond {c : Operand} {x y : Code} {b : Bool} (hc : ev env c = some (.v (.bool b))) (ht : b = true → ZWp P w0 n x Q env st) (hf : b = false → ZWp P w0 n y Q env st) :
    ZWp P w0 n (.cond c x y) Q env st := by
  intro G w a h1 h2 h3
  have hv := ev_ok h2 hc
  have he : a.eval c = .bool b := hv.eq_v
  exact wp_cond_split he (fun h => ht h G w a h1 h2 h3) (fun h => hf h G w a h1 h2 h3)

def Zblock (id : Nat) (Q : ZPost) : ZPost
  | .exit id', env, st => if id' = id then Q .normal env st else Q (.exit id') env st
  | e, env, st => Q e env st

theorem zr_block {id : Nat} {c : Code} (h : ZWp P w0 n c (Zblock id Q) env st) : ZWp P w0 n (.block id c) Q env st := by
  intro G w a h1 h2 h3
  refine wp_block (Code.wp_mono ?_ (h G w a h1 h2 h3))
  intro e a' w' hq
  cases e with
  | exit id' =>
    obtain ⟨G', env', st', hle, hr, he, hd, hk⟩ := hq
    by_cases hid : id' = id
    · simp only [Zblock, hid, if_true] at hk
      simp only [Exit.inBlock, hid, if_true]
      exact ⟨G', env', st', hle, hr, he, hd, hk⟩
    · simp only [Zblock, hid, if_false] at hk
      simp only [Exit.inBlock, hid, if_false]
      exact ⟨G', env', st', hle, hr, he, hd, hk⟩
  | panic c => exact hq.elim
  | outgrown => exact hq.elim
  | normal => exact hq
  | goto l => exact hq
  | ret => exact hq

/-- A loop: 'I m' holds at a round's head with m rounds still to come at most. -/
theorem zr_loop {c : Code} (I : Nat → Env → St → Prop) (m0 : Nat) (h0 : I m0 env st)
    (round : ∀ m env st, I m env st → ZWp P w0 n c (Zthen (fun env' st' => ∃ m', m' < m ∧ I m' env' st') Q) env st) : ZWp P w0 n (.loop c) Q env st := by
  intro G w a h1 h2 h3
  have hloop := wp_loop (P := P) (c := c) (Q := Outc w0 n Q G) (a := a) (w := w)
    (fun a' w' => ∃ G' env' st' m, G.le G' ∧ Rel w0 G' st' w' ∧ ER G' n env' a'.tmps ∧ a'.defers = [] ∧ I m env' st')
    (fun a' w' => @sInfNat (fun m => ∃ G' env' st', G.le G' ∧ Rel w0 G' st' w' ∧ ER G' n env' a'.tmps ∧ a'.defers = [] ∧ I m env' st'))
  refine hloop ⟨G, env, st, m0, .refl G, h1, h2, h3, h0⟩ ?_
  intro a' w' hI
  have hex : ∃ m, ∃ G' env' st', G.le G' ∧ Rel w0 G' st' w' ∧ ER G' n env' a'.tmps ∧ a'.defers = [] ∧ I m env' st' := by
    obtain ⟨G', env', st', m, h⟩ := hI; exact ⟨m, G', env', st', h⟩
  obtain ⟨G', env', st', hle, hr, he, hd, hi⟩ := sInfNat_mem hex
  refine Code.wp_mono ?_ (round _ _ _ hi G' w' a' hr he hd)
  intro e a2 w2 hq
  cases e with
  | normal =>
    obtain ⟨G2, env2, st2, hle2, hr2, he2, hd2, m', hlt, hi2⟩ := hq
    exact ⟨⟨G2, env2, st2, m', hle.trans hle2, hr2, he2, hd2, hi2⟩, Nat.lt_of_le_of_lt (sInfNat_le ⟨G2, env2, st2, hle.trans hle2, hr2, he2, hd2, hi2⟩) hlt⟩
  | panic c => exact hq.elim
  | outgrown => exact hq.elim
  | exit id => exact Outc.mono hle (fun _ _ _ h => h) _ _ _ hq
  | goto l => exact Outc.mono hle (fun _ _ _ h => h) _ _ _ hq
  | ret => exact Outc.mono hle (fun _ _ _ h => h) _ _ _ hq

theorem zr_region {id : Nat} {l : List Oper} (h : ZOps P w0 n l.toArray l Q env st) : ZWp P w0 n (.region id l.toArray false) Q env st :=
  fun G w a h1 h2 h3 => wp_region_lit (h G w a h1 h2 h3)

theorem zo_nil {ops : Array Oper} (h : Q .normal env st) : ZOps P w0 n ops [] Q env st := fun G w a h1 h2 h3 => ⟨G, env, st, .refl G, h1, h2, h3, h⟩

theorem zo_cons {ops : Array Oper} {o : Oper} {rest : List Oper} (hg : o.guard = none) (h : ZOp P w0 n o env st (ZOps P w0 n ops rest Q)) : ZOps P w0 n ops (o :: rest) Q env st := by
  intro G w a h1 h2 h3
  unfold wpList
  rw [if_pos (by simp [Region.wanted, hg])]
  left
  refine h G w a h1 h2 h3 _ _ fun G' env' st' a' w' hle hr he hd hk _ => ?_
  exact wpList_mono (Outc.mono hle (fun _ _ _ h => h)) (fun c a w h => h.elim) rest a' w' (hk G' w' a' hr he hd)

/-- An operation with a value, no guard. -/
theorem zo_val {ops : Array Oper} {o : Oper} {rest : List Oper} {t : Nat} (hg : o.guard = none) (hd : o.dst = some t) (ht : t < n)
    (h : ZVal P w0 n o env st fun d st' => ZOps P w0 n ops rest Q ((t, d) :: env) st') : ZOps P w0 n ops (o :: rest) Q env st := zo_cons hg (h.op hd ht)

theorem zo_pure {ops : Array Oper} {o : Oper} {rest : List Oper} {t : Nat} {d : D} (hg : o.guard = none) (hd : o.dst = some t) (ht : t < n) (h : ZPure P o env d)
    (hk : ZOps P w0 n ops rest Q ((t, d) :: env) st) : ZOps P w0 n ops (o :: rest) Q env st := zo_val hg hd ht (h.val hk)

theorem yielded_of {G : Gh} {ops : Array Oper} {a : Act} {j t : Nat} {b : Bool} (he : ER G n env a.tmps) (hj : (ops[j]?).bind (·.dst) = some t) (hb : zlook env t = some (.v (.bool b))) :
    yielded ops a.tmps j = some b := by
  obtain ⟨u, hu, hv⟩ := he.at_ t _ hb
  cases hv
  simp [yielded, hj, hu]

/-- Nothing is known of this slot any more. -/
def dropE (env : Env) : Option Tmp → Env
  | some d => env.filter fun p => p.1 ≠ d
  | none => env

/-- A guarded operation: both ways. -/
theorem zo_guard {ops : Array Oper} {dst : Option Tmp} {op : Op} {ty : TypeId} {pos : String} {after : Array Edge} {j t : Nat} {want b : Bool} {rest : List Oper}
    (hj : (ops[j]?).bind (·.dst) = some t) (hb : zlook env t = some (.v (.bool b)))
    (hyes : b = want → ZOps P w0 n ops (⟨dst, op, ty, pos, after, none⟩ :: rest) Q env st)
    (hno : b ≠ want → ZOps P w0 n ops rest Q (dropE env dst) st) :
    ZOps P w0 n ops (⟨dst, op, ty, pos, after, some (j, want)⟩ :: rest) Q env st := by
  intro G w a h1 h2 h3
  have hy := yielded_of h2 hj hb
  unfold wpList
  by_cases hw : b = want
  · rw [if_pos (by simp [Region.wanted, hy, hw])]
    have := hyes hw G w a h1 h2 h3
    unfold wpList at this
    rw [if_pos (by simp [Region.wanted])] at this
    exact this
  · rw [if_neg (by simp [Region.wanted, hy, hw])]
    refine hno hw G w _ h1 ?_ (by cases dst <;> simp [Act.put, h3])
    cases dst with
    | none => exact h2
    | some d => exact h2.drop _

end rules
end Go.Proofs.Zm
/- The framework's third part: calls; functions; regions that draw their order. -/
namespace Go.Proofs.Zm
open Go.RowKit
set_option linter.unusedVariables false

/-- What a function's call comes to: told by what may follow. -/
abbrev ZSpec := List D → St → (D → St → Prop) → Prop

def VRs (G : Gh) (ds : List D) (us : List Value) : Prop := ds.length = us.length ∧ ∀ (i : Nat) (d : D) (u : Value), ds[i]? = some d → us[i]? = some u → VR G d u
theorem VRs.nil (G : Gh) : VRs G [] [] := ⟨rfl, fun i d u h => by simp at h⟩
theorem VRs.cons {G : Gh} {d u ds us} (h : VR G d u) (hs : VRs G ds us) : VRs G (d :: ds) (u :: us) := by
  refine ⟨by simp [hs.1], fun i d' u' h1 h2 => ?_⟩
  cases i with
  | zero => simp at h1 h2; subst h1; subst h2; exact h
  | succ i => simp at h1 h2; exact hs.2 i d' u' h1 h2
theorem VRs.append {G : Gh} {ds us es vs} (h : VRs G ds us) (h' : VRs G es vs) : VRs G (ds ++ es) (us ++ vs) := by
  refine ⟨by simp [h.1, h'.1], fun i d u h1 h2 => ?_⟩
  by_cases hi : i < ds.length
  · rw [List.getElem?_append_left hi] at h1
    rw [List.getElem?_append_left (h.1 ▸ hi)] at h2
    exact h.2 i d u h1 h2
  · rw [List.getElem?_append_right (by omega)] at h1
    rw [List.getElem?_append_right (by have := h.1; omega), ← h.1] at h2
    exact h'.2 _ d u h1 h2

def SoundF (P : Program) (f : FuncId) (spec : ZSpec) : Prop :=
  ∀ w0 args st (K : D → St → Prop), spec args st K → ∀ G w vals, Rel w0 G st w → VRs G args vals →
    Calls P f vals.toArray w (fun e w' => ∃ v d st' G', e = .returned v ∧ G.le G' ∧ Rel w0 G' st' w' ∧ VR G' d v ∧ K d st')

theorem SoundF.weaken {P f} {s s' : ZSpec} (h : SoundF P f s) (hs : ∀ args st K, s' args st K → s args st K) : SoundF P f s' :=
  fun w0 args st K hk => h w0 args st K (hs args st K hk)

/-- The operands' abstract values. -/
def evs (env : Env) : List Operand → Option (List D)
  | [] => some []
  | x :: r => match ev env x, evs env r with
    | some d, some ds => some (d :: ds)
    | _, _ => none

theorem evs_ok {G : Gh} {n env} {a : Act} (h : ER G n env a.tmps) : ∀ {xs : List Operand} {ds : List D}, evs env xs = some ds → VRs G ds (xs.map a.eval)
  | [], ds, e => by cases e; exact VRs.nil G
  | x :: r, ds, e => by
    unfold evs at e
    split at e
    · rename_i d ds' h1 h2
      cases e
      exact VRs.cons (ev_ok h h1) (evs_ok h h2)
    · cases e

theorem enters {P : Program} {f : FuncId} {fn : Func} (hf : P.funcs[f]? = some fn) (hname : (fn.name == "runtime.NumGoroutine") = false) (hb : fn.body.isSome = true) (args : Array Value) (w : World) :
    (callFunc f args).run P w = .ok (.enter f args) w := by
  have hn : ¬ fn.name = "runtime.NumGoroutine" := by simpa using hname
  have hbn : ¬ fn.body = none := by cases h : fn.body <;> simp_all
  simp [callFunc, program, Bind.bind, Sem.bind, Sem.run, hf, hn, hbn, pure]

section
variable {P : Program} {w0 : World} {n : Nat} {Q : ZPost} {env : Env} {st : St}

end

/-! ### A function's end -/

/-- The results, as told by the slots and the state. -/
def ResD (P : Program) (rs : List ResultVar) (env : Env) (st : St) (ds : List D) : Prop :=
  ∀ w0 G n (tmps : Array Value) (w : World), Rel w0 G st w → ER G n env tmps → ∃ us, VRs G ds us ∧
    Sem.run P (rs.mapM fun
      | .tmp t => pure (tmps.getD t undef)
      | .cell a t => do loadVar t (← asAddr (tmps.getD a undef))) w = .ok us w

theorem resD_nil (P : Program) (env : Env) (st : St) : ResD P [] env st [] := fun w0 G n tmps w hr he => ⟨[], VRs.nil G, by simp [Sem.run, pure]⟩

theorem run_bind' {α β : Type} {P : Program} {s : Sem α} {k : α → Sem β} {w w1 : World} {a : α} (h : s.run P w = .ok a w1) : (s >>= k).run P w = (k a).run P w1 := by
  rw [Sem.run_bind, h]; rfl

theorem resD_tmp {P : Program} {rs : List ResultVar} {env : Env} {st : St} {t : Nat} {d : D} {ds : List D} (h : zlook env t = some d) (hs : ResD P rs env st ds) : ResD P (.tmp t :: rs) env st (d :: ds) := by
  intro w0 G n tmps w hr he
  obtain ⟨us, hu, hrun⟩ := hs w0 G n tmps w hr he
  obtain ⟨u, hu1, hv⟩ := he.at_ t d h
  refine ⟨u :: us, VRs.cons hv hu, ?_⟩
  rw [List.mapM_cons]
  refine (run_bind' (w1 := w) (a := u) (by simp [pure, Sem.run, hu1])).trans ?_
  refine (run_bind' hrun).trans ?_
  rfl

/-- The value of a result's list. -/
def resOf : List D → D
  | [d] => d
  | ds => .tup ds

def ZRet (P : Program) (rs : List ResultVar) (K : D → St → Prop) : ZPost
  | .normal, env, st | .ret, env, st => ∃ ds, ResD P rs env st ds ∧ K (resOf ds) st
  | _, _, _ => False

theorem results_run {P : Program} {fn : Func} {rs : List ResultVar} (hrs : fn.results = rs.toArray) {tmps : Array Value} {w : World} {us : List Value}
    (h : Sem.run P (rs.mapM fun
      | .tmp t => pure (tmps.getD t undef)
      | .cell a t => do loadVar t (← asAddr (tmps.getD a undef))) w = .ok us w) :
    (results fn tmps).run P w = .ok (if h : us.length = 1 then us[0] else .tuple us.toArray) w := by
  unfold results
  rw [hrs]
  refine (run_bind' (w1 := w) (a := us.toArray) ?_).trans ?_
  · rw [List.mapM_toArray]
    exact (run_bind' (k := fun x => pure x.toArray) h)
  · simp [pure, Sem.run]

theorem vr_res {G : Gh} {ds us} (h : VRs G ds us) : VR G (resOf ds) (if h : us.length = 1 then us[0] else .tuple us.toArray) := by
  obtain ⟨hl, hv⟩ := h
  match ds, us, hl, hv with
  | [d], [u], _, hv => exact hv 0 d u rfl rfl
  | [], [], _, _ => exact .tup [] [] rfl (fun i d u h => by simp at h)
  | d :: d' :: ds, u :: u' :: us, hl, hv =>
    have : ¬ ((u :: u' :: us).length = 1) := by simp
    rw [dif_neg this]
    exact .tup _ _ hl hv

/-- A function is as told, if its body is. -/
theorem sound_of {P : Program} {f : FuncId} {fn : Func} {c : Code} {rs : List ResultVar} {spec : ZSpec} (hf : P.funcs[f]? = some fn) (hb : fn.body = some c) (hrs : fn.results = rs.toArray)
    (h : ∀ w0 args st K, spec args st K → args.length ≤ fn.ntmps ∧ ZWp P w0 fn.ntmps c (ZRet P rs K) (args.zipIdx.map fun p => (p.2, p.1)) st) : SoundF P f spec := by
  intro w0 args st K hs G w vals hr hv
  obtain ⟨hle, hz⟩ := h w0 args st K hs
  have hn : vals.length ≤ fn.ntmps := by rw [← hv.1]; exact hle
  refine calls_of_wp hf hb (Code.wp_mono ?_ (hz G w _ hr ⟨?_, hr.mp.gl, ?_⟩ rfl))
  · intro e a w' hq
    have main : ∀ (G' : Gh) (env : Env) (st' : St), G.le G' → Rel w0 G' st' w' → ER G' fn.ntmps env a.tmps → a.defers = [] → (∃ ds, ResD P rs env st' ds ∧ K (resOf ds) st') →
        a.defers = [] ∧ ∃ v, (results fn a.tmps).run P w' = .ok v w' ∧ ∃ v2 d st' G', Ending.returned v = .returned v2 ∧ G.le G' ∧ Rel w0 G' st' w' ∧ VR G' d v2 ∧ K d st' := by
      intro G' env st' h1 h2 h3 h4 ⟨ds, h5, h6⟩
      obtain ⟨us, hu, hrun⟩ := h5 w0 G' _ a.tmps w' h2 h3
      exact ⟨h4, _, results_run hrs hrun, _, resOf ds, st', G', rfl, h1, h2, vr_res hu, h6⟩
    cases e with
    | normal => obtain ⟨G', env, st', h1, h2, h3, h4, h5⟩ := hq; exact main G' env st' h1 h2 h3 h4 h5
    | ret => obtain ⟨G', env, st', h1, h2, h3, h4, h5⟩ := hq; exact main G' env st' h1 h2 h3 h4 h5
    | exit id => obtain ⟨G', env, st', h1, h2, h3, h4, h5⟩ := hq; exact h5.elim
    | goto l => obtain ⟨G', env, st', h1, h2, h3, h4, h5⟩ := hq; exact h5.elim
    | panic c => exact hq.elim
    | outgrown => exact hq.elim
  · simp; omega
  · intro t d e
    have key : ∀ (l : List D) (k t : Nat) (d : D), zlook ((l.zipIdx k).map fun p => (p.2, p.1)) t = some d → k ≤ t ∧ l[t - k]? = some d := by
      intro l
      induction l with
      | nil => intro k t d e; simp [zlook] at e
      | cons x r ih =>
        intro k t d e
        simp only [List.zipIdx_cons, List.map_cons] at e
        unfold zlook at e
        split at e
        · rename_i he; subst he; simpa using e
        · rename_i he
          obtain ⟨h1, h2⟩ := ih (k + 1) t d e
          refine ⟨by omega, ?_⟩
          have : t - k = (t - (k + 1)) + 1 := by omega
          rw [this, List.getElem?_cons_succ]
          exact h2
    obtain ⟨_, h2⟩ := key args 0 t d e
    simp only [Nat.sub_zero] at h2
    have hlt : t < args.length := (List.getElem?_eq_some_iff.1 h2).1
    have hlt2 : t < vals.length := hv.1 ▸ hlt
    refine ⟨vals[t], ?_, hv.2 t d _ h2 (List.getElem?_eq_getElem hlt2)⟩
    rw [Array.getElem?_append_left (by simpa using hlt2)]
    simp [hlt2]

end Go.Proofs.Zm
/- The framework's fourth part: operations that read no memory, or only what nobody writes. -/
namespace Go.Proofs.Zm
open Go.RowKit
set_option linter.unusedVariables false
set_option linter.unusedSimpArgs false

section
variable {P : Program} {env : Env} {o : Oper}

theorem zp_move {x : Operand} {d : D} (hop : o.op = .move x) (hx : ev env x = some d) : ZPure0 P o env d := fun G n a he =>
  ⟨_, ev_ok he hx, fun w => by simp [execOp, hop]⟩
theorem zp_assign {x : Operand} {d : D} (hop : o.op = .assign x) (hx : ev env x = some d) : ZPure0 P o env d := fun G n a he =>
  ⟨_, ev_ok he hx, fun w => by simp [execOp, hop]⟩
/-- Of what was never told nothing need be known, if it isn't taken. -/
theorem zp_pick_true {c x y : Operand} {dx : D} (hop : o.op = .pick c x y) (hc : ev env c = some (.v (.bool true))) (hx : ev env x = some dx) : ZPure0 P o env dx := fun G n a he => by
  have e := (ev_ok he hc).eq_v
  exact ⟨a.eval x, ev_ok he hx, fun w => by simp [execOp, hop, e, asBool]⟩
theorem zp_pick_false {c x y : Operand} {dy : D} (hop : o.op = .pick c x y) (hc : ev env c = some (.v (.bool false))) (hy : ev env y = some dy) : ZPure0 P o env dy := fun G n a he => by
  have e := (ev_ok he hc).eq_v
  exact ⟨a.eval y, ev_ok he hy, fun w => by simp [execOp, hop, e, asBool]⟩

/-- Two plain values. -/
theorem zp_bin {op : BinOp} {t t' : TypeId} {x y : Operand} {a b r : Value} (hop : o.op = .binOp op t x y t') (hx : ev env x = some (.v a)) (hy : ev env y = some (.v b))
    (hr : ∀ w : World, (do eqGuard op t x y a b; binOp op t a b : Sem Value).run P w = .ok r w) : ZPure0 P o env (.v r) := fun G n act he => by
  have e1 := (ev_ok he hx).eq_v
  have e2 := (ev_ok he hy).eq_v
  refine ⟨r, .v r, fun w => ?_⟩
  have := hr w
  simp only [execOp, hop, e1, e2]
  simp only [Sem.run_bind, this, Result.andThen_ok, Sem.run_pure]

theorem guard_int (op : BinOp) (t : TypeId) (x y : Operand) (k k' : IntKind) (a b : Int) (w : World) : (eqGuard op t x y (.int k a) (.int k' b)).run P w = .ok () w := by
  unfold eqGuard
  cases op <;> simp

theorem zp_cmp {op : BinOp} {t t' : TypeId} {x y : Operand} {k : IntKind} {a b : Int} {r : Bool} (hop : o.op = .binOp op t x y t') (hx : ev env x = some (.v (.int k a))) (hy : ev env y = some (.v (.int k b)))
    (hr : (op = .lss ∧ r = decide (a < b)) ∨ (op = .leq ∧ r = decide (a ≤ b)) ∨ (op = .gtr ∧ r = decide (b < a)) ∨ (op = .geq ∧ r = decide (b ≤ a)) ∨ (op = .eql ∧ r = decide (a = b)) ∨ (op = .neq ∧ r = decide (a ≠ b))) :
    ZPure0 P o env (.v (.bool r)) := by
  refine zp_bin hop hx hy fun w => ?_
  rw [Sem.run_bind, guard_int]
  simp only [Result.andThen_ok]
  rcases hr with ⟨rfl, rfl⟩ | ⟨rfl, rfl⟩ | ⟨rfl, rfl⟩ | ⟨rfl, rfl⟩ | ⟨rfl, rfl⟩ | ⟨rfl, rfl⟩
  all_goals simp [binOp, Op.intCmp]
  all_goals (by_cases h : a = b <;> simp [h])

theorem zp_lss {t t' : TypeId} {x y : Operand} {k : IntKind} {a b : Int} (hop : o.op = .binOp .lss t x y t') (hx : ev env x = some (.v (.int k a))) (hy : ev env y = some (.v (.int k b))) : ZPure0 P o env (.v (.bool (decide (a < b)))) := zp_cmp hop hx hy (.inl ⟨rfl, rfl⟩)
theorem zp_leq {t t' : TypeId} {x y : Operand} {k : IntKind} {a b : Int} (hop : o.op = .binOp .leq t x y t') (hx : ev env x = some (.v (.int k a))) (hy : ev env y = some (.v (.int k b))) : ZPure0 P o env (.v (.bool (decide (a ≤ b)))) := zp_cmp hop hx hy (.inr (.inl ⟨rfl, rfl⟩))
theorem zp_gtr {t t' : TypeId} {x y : Operand} {k : IntKind} {a b : Int} (hop : o.op = .binOp .gtr t x y t') (hx : ev env x = some (.v (.int k a))) (hy : ev env y = some (.v (.int k b))) : ZPure0 P o env (.v (.bool (decide (b < a)))) := zp_cmp hop hx hy (.inr (.inr (.inl ⟨rfl, rfl⟩)))
theorem zp_geq {t t' : TypeId} {x y : Operand} {k : IntKind} {a b : Int} (hop : o.op = .binOp .geq t x y t') (hx : ev env x = some (.v (.int k a))) (hy : ev env y = some (.v (.int k b))) : ZPure0 P o env (.v (.bool (decide (b ≤ a)))) := zp_cmp hop hx hy (.inr (.inr (.inr (.inl ⟨rfl, rfl⟩))))
theorem zp_eql {t t' : TypeId} {x y : Operand} {k : IntKind} {a b : Int} (hop : o.op = .binOp .eql t x y t') (hx : ev env x = some (.v (.int k a))) (hy : ev env y = some (.v (.int k b))) : ZPure0 P o env (.v (.bool (decide (a = b)))) := zp_cmp hop hx hy (.inr (.inr (.inr (.inr (.inl ⟨rfl, rfl⟩)))))
theorem zp_neq {t t' : TypeId} {x y : Operand} {k : IntKind} {a b : Int} (hop : o.op = .binOp .neq t x y t') (hx : ev env x = some (.v (.int k a))) (hy : ev env y = some (.v (.int k b))) : ZPure0 P o env (.v (.bool (decide (a ≠ b)))) := zp_cmp hop hx hy (.inr (.inr (.inr (.inr (.inr ⟨rfl, rfl⟩)))))

theorem zp_add {t t' : TypeId} {x y : Operand} {k : IntKind} {a b r : Int} (hop : o.op = .binOp .add t x y t') (hx : ev env x = some (.v (.int k a))) (hy : ev env y = some (.v (.int k b))) (hr : k.wrap (a + b) = r) : ZPure0 P o env (.v (.int k r)) :=
  zp_bin hop hx hy fun w => by subst hr; rw [Sem.run_bind, guard_int]; simp [binOp, Op.intArith]
theorem zp_sub {t t' : TypeId} {x y : Operand} {k : IntKind} {a b r : Int} (hop : o.op = .binOp .sub t x y t') (hx : ev env x = some (.v (.int k a))) (hy : ev env y = some (.v (.int k b))) (hr : k.wrap (a - b) = r) : ZPure0 P o env (.v (.int k r)) :=
  zp_bin hop hx hy fun w => by subst hr; rw [Sem.run_bind, guard_int]; simp [binOp, Op.intArith]
theorem zp_mul {t t' : TypeId} {x y : Operand} {k : IntKind} {a b r : Int} (hop : o.op = .binOp .mul t x y t') (hx : ev env x = some (.v (.int k a))) (hy : ev env y = some (.v (.int k b))) (hr : k.wrap (a * b) = r) : ZPure0 P o env (.v (.int k r)) :=
  zp_bin hop hx hy fun w => by subst hr; rw [Sem.run_bind, guard_int]; simp [binOp, Op.intArith]
theorem zp_quo {t t' : TypeId} {x y : Operand} {k : IntKind} {a b r : Int} (hop : o.op = .binOp .quo t x y t') (hx : ev env x = some (.v (.int k a))) (hy : ev env y = some (.v (.int k b))) (hb : b ≠ 0) (hr : k.wrap (a.tdiv b) = r) : ZPure0 P o env (.v (.int k r)) :=
  zp_bin hop hx hy fun w => by subst hr; rw [Sem.run_bind, guard_int]; simp [binOp, Op.intDiv, hb]
theorem zp_and {t t' : TypeId} {x y : Operand} {k : IntKind} {a b r : Int} (hop : o.op = .binOp .and t x y t') (hx : ev env x = some (.v (.int k a))) (hy : ev env y = some (.v (.int k b))) (hr : k.wrap ((BitVec.ofInt k.bits a &&& BitVec.ofInt k.bits b).toNat : Int) = r) : ZPure0 P o env (.v (.int k r)) :=
  zp_bin hop hx hy fun w => by subst hr; rw [Sem.run_bind, guard_int]; simp [binOp, Op.intBits]
theorem zp_xor {t t' : TypeId} {x y : Operand} {k : IntKind} {a b r : Int} (hop : o.op = .binOp .xor t x y t') (hx : ev env x = some (.v (.int k a))) (hy : ev env y = some (.v (.int k b))) (hr : k.wrap ((BitVec.ofInt k.bits a ^^^ BitVec.ofInt k.bits b).toNat : Int) = r) : ZPure0 P o env (.v (.int k r)) :=
  zp_bin hop hx hy fun w => by subst hr; rw [Sem.run_bind, guard_int]; simp [binOp, Op.intBits]
theorem zp_shl {t t' : TypeId} {x y : Operand} {k k' : IntKind} {a b r : Int} (hop : o.op = .binOp .shl t x y t') (hx : ev env x = some (.v (.int k a))) (hy : ev env y = some (.v (.int k' b))) (hb : 0 ≤ b) (hr : k.wrap (a * 2 ^ min b.toNat k.bits) = r) : ZPure0 P o env (.v (.int k r)) :=
  zp_bin hop hx hy fun w => by
    subst hr
    have hb' : ¬ b < 0 := by omega
    rw [Sem.run_bind, guard_int]
    simp [binOp, Op.shift, hb']
theorem zp_shr {t t' : TypeId} {x y : Operand} {k k' : IntKind} {a b r : Int} (hop : o.op = .binOp .shr t x y t') (hx : ev env x = some (.v (.int k a))) (hy : ev env y = some (.v (.int k' b))) (hb : 0 ≤ b) (hr : a.fdiv (2 ^ min b.toNat k.bits) = r) : ZPure0 P o env (.v (.int k r)) :=
  zp_bin hop hx hy fun w => by
    subst hr
    have hb' : ¬ b < 0 := by omega
    rw [Sem.run_bind, guard_int]
    simp [binOp, Op.shift, hb']

theorem guard_str (op : BinOp) (t : TypeId) (x y : Operand) (a b : ByteArray) (w : World) : (eqGuard op t x y (.string a) (.string b)).run P w = .ok () w := by
  unfold eqGuard
  cases op <;> simp
theorem zp_str {op : BinOp} {t t' : TypeId} {x y : Operand} {a b : ByteArray} {r : Value} (hop : o.op = .binOp op t x y t') (hx : ev env x = some (.v (.string a))) (hy : ev env y = some (.v (.string b)))
    (hr : (op = .eql ∧ r = .bool (a.toList == b.toList)) ∨ (op = .neq ∧ r = .bool (!(a.toList == b.toList))) ∨ (op = .lss ∧ r = .bool (Op.bytesLess a.toList b.toList)) ∨
      (op = .geq ∧ r = .bool (!Op.bytesLess a.toList b.toList)) ∨ (op = .leq ∧ r = .bool (Op.bytesLess a.toList b.toList || a.toList == b.toList)) ∨ (op = .gtr ∧ r = .bool (!(Op.bytesLess a.toList b.toList || a.toList == b.toList))) ∨
      (op = .add ∧ r = .string (a ++ b) ∧ a.size + b.size ≤ 9223372036854775807)) : ZPure0 P o env (.v r) := by
  refine zp_bin hop hx hy fun w => ?_
  rw [Sem.run_bind, guard_str]
  simp only [Result.andThen_ok]
  rcases hr with ⟨rfl, rfl⟩ | ⟨rfl, rfl⟩ | ⟨rfl, rfl⟩ | ⟨rfl, rfl⟩ | ⟨rfl, rfl⟩ | ⟨rfl, rfl⟩ | ⟨rfl, rfl, h⟩
  case inr.inr.inr.inr.inr.inr =>
    have : ¬ (IntKind.i64.max < ((a.size + b.size : Nat) : Int)) := by simp [IntKind.max, IntKind.signed, IntKind.bits]; omega
    have h2 : ¬ ((a.size : Int) + (b.size : Int) > IntKind.i64.max) := by simpa using this
    simp only [binOp, Op.stringOp]
    rw [if_neg this]
    rfl
  all_goals simp [binOp, Op.stringOp]

theorem zp_not {t : TypeId} {x : Operand} {b : Bool} (hop : o.op = .unOp .not t x) (hx : ev env x = some (.v (.bool b))) : ZPure0 P o env (.v (.bool (!b))) := fun G n a he => by
  have e := (ev_ok he hx).eq_v
  exact ⟨_, .v _, fun w => by simp [execOp, hop, e, Op.unary]⟩
theorem zp_neg {t : TypeId} {x : Operand} {k : IntKind} {a r : Int} (hop : o.op = .unOp .neg t x) (hx : ev env x = some (.v (.int k a))) (hr : k.wrap (0 - a) = r) : ZPure0 P o env (.v (.int k r)) := fun G n act he => by
  have e := (ev_ok he hx).eq_v
  subst hr
  exact ⟨_, .v _, fun w => by simp [execOp, hop, e, Op.unary, Op.intArith]⟩
theorem zp_conv {t u : TypeId} {x : Operand} {k k' : IntKind} {a r : Int} (hop : o.op = .convert t u x) (hx : ev env x = some (.v (.int k a))) (ht : P.underlying t = some (.int k)) (hu : P.underlying u = some (.int k')) (hr : k'.wrap a = r) :
    ZPure0 P o env (.v (.int k' r)) := fun G n act he => by
  have e := (ev_ok he hx).eq_v
  subst hr
  exact ⟨_, .v _, fun w => by simp [execOp, hop, e, convert, run_underlying ht, run_underlying hu, Conv.intToInt]⟩

/-! ### rows -/

theorem zp_len {t : TypeId} {e : TypeId} {x : Operand} {xs : List (List D)} {k tk : Nat} (hop : o.op = .call { callee := .builtin .len, args := #[x], argTypes := #[t] }) (ht : P.underlying t = some (.slice e)) (hx : ev env x = some (.row xs k tk)) :
    ZPure0 P o env (.v (.int .i64 xs.length)) := fun G n a he => by
  have hv := ev_ok he hx
  generalize hu : a.eval x = u at hv
  refine ⟨_, .v _, fun w => ?_⟩
  cases hv <;> simp_all [execOp, resolve, invoke, builtin, Builtin.len_, run_underlying ht, goInt]
theorem zp_len_nil {t : TypeId} {e : TypeId} {x : Operand} {c m : Nat} (hop : o.op = .call { callee := .builtin .len, args := #[x], argTypes := #[t] }) (ht : P.underlying t = some (.slice e)) (hx : ev env x = some (.v (.slice none m c))) :
    ZPure0 P o env (.v (.int .i64 m)) := fun G n a he => by
  have hv := (ev_ok he hx).eq_v
  refine ⟨_, .v _, fun w => ?_⟩
  simp_all [execOp, resolve, invoke, builtin, Builtin.len_, run_underlying ht, goInt]
theorem zp_len_mrow {t : TypeId} {e : TypeId} {x : Operand} {id off m c : Nat} (hop : o.op = .call { callee := .builtin .len, args := #[x], argTypes := #[t] }) (ht : P.underlying t = some (.slice e)) (hx : ev env x = some (.mrow id off m c)) :
    ZPure0 P o env (.v (.int .i64 m)) := fun G n a he => by
  have hv := ev_ok he hx
  generalize hu : a.eval x = u at hv
  refine ⟨_, .v _, fun w => ?_⟩
  cases hv; simp_all [execOp, resolve, invoke, builtin, Builtin.len_, run_underlying ht, goInt]
theorem Addr.add_add (a : Addr) (x y : Nat) : (a.add x).add y = a.add (x + y) := by
  unfold Addr.add
  by_cases hx : x = 0
  · subst hx; simp
  · by_cases hy : y = 0
    · subst hy; simp [hx]
    · simp [hx, hy]; omega

end
end Go.Proofs.Zm
/- The framework's fifth part: rows that are read, addresses, aggregates. -/
namespace Go.Proofs.Zm
open Go.RowKit
set_option linter.unusedVariables false
set_option linter.unusedSimpArgs false

section
variable {P : Program} {env : Env} {o : Oper}

/-- A bound of a cut: none, or a whole number. -/
def isBound (v : Option Value) (dflt : Nat) (l : Nat) : Prop := (v = none ∧ l = dflt) ∨ ∃ k, v = some (.int k (l : Int))

theorem run_cut {t e : TypeId} {i : TypeInfo} (ht : P.underlying t = some (.slice e)) (hi : P.info? e = some i) (base : Option Addr) (len cap : Nat) (lo hi' : Option Value) (l h : Nat)
    (hlo : isBound lo 0 l) (hhi : isBound hi' len h) (h1 : l ≤ h) (h2 : h ≤ cap) (w : World) :
    (Instr.sliceAt t (.slice base len cap) lo hi' none).run P w = .ok (sliced base l h cap i.size) w := by
  have hb1 : ∀ (v : Value) k, v = .int k (h : Int) → (Instr.sliceBound v cap .sliceAcap).run P w = .ok h w := by
    rintro v k rfl
    have : (0 : Int) ≤ h ∧ (h : Int) ≤ cap := ⟨by omega, by omega⟩
    simp [Instr.sliceBound, asIntOf, this]
  have hb2 : ∀ (v : Value) k, v = .int k (l : Int) → (Instr.sliceBound v h .sliceB).run P w = .ok l w := by
    rintro v k rfl
    have : (0 : Int) ≤ l ∧ (l : Int) ≤ h := ⟨by omega, by omega⟩
    simp [Instr.sliceBound, asIntOf, this]
  have hbs : (Instr.sliceBounds true len cap lo hi' none).run P w = .ok (l, h, cap) w := by
    rcases hlo with ⟨rfl, rfl⟩ | ⟨k1, rfl⟩ <;> rcases hhi with ⟨rfl, rfl⟩ | ⟨k2, rfl⟩
    · simp [Instr.sliceBounds]
    · simp [Instr.sliceBounds, hb1 _ k2 rfl]
    · simp [Instr.sliceBounds, hb2 _ k1 rfl]
    · simp [Instr.sliceBounds, hb1 _ k2 rfl, hb2 _ k1 rfl]
  have hs : (sizeOf e).run P w = .ok i.size w := by simp [sizeOf, typeInfo, hi]
  simp only [Instr.sliceAt, Sem.run_bind, run_underlying ht, Result.andThen_ok]
  simp only [Instr.slice, Sem.run_bind, run_underlying ht, Result.andThen_ok, hbs, hs]
  rfl

/-- A bound's operand: its value is 'l'. -/
def evB (env : Env) : Option Operand → Nat → Nat → Prop
  | none, dflt, l => l = dflt
  | some x, _, l => ∃ k, ev env x = some (.v (.int k (l : Int)))
theorem evB_ok {G : Gh} {n} {a : Act} (he : ER G n env a.tmps) {x : Option Operand} {dflt l : Nat} (h : evB env x dflt l) : isBound (x.map a.eval) dflt l := by
  cases x with
  | none => exact .inl ⟨rfl, h⟩
  | some x =>
    obtain ⟨k, hk⟩ := h
    exact .inr ⟨k, by simp [(ev_ok he hk).eq_v]⟩

theorem getD_in {α : Type} {xs : List α} {j : Nat} {d : α} (h : j < xs.length) : xs.getD j d = xs[j] := by
  rw [List.getD_eq_getElem?_getD, List.getElem?_eq_getElem h]; rfl

theorem zp_indexAddr {t e : TypeId} {i : TypeInfo} {x y : Operand} {xs : List (List D)} {k tk : Nat} {ik : IntKind} {j : Int} (hop : o.op = .indexAddr t x y) (ht : P.underlying t = some (.slice e)) (hi : P.info? e = some i) (hk : i.size = k)
    (hx : ev env x = some (.row xs k tk)) (hy : ev env y = some (.v (.int ik j))) (h0 : 0 ≤ j) (h1 : j < xs.length) : ZPure0 P o env (.ref (xs.getD j.toNat [])) := fun G n a he => by
  have hv := ev_ok he hx
  have ey := (ev_ok he hy).eq_v
  generalize hu : a.eval x = u at hv
  cases hv with
  | rowNil => simp at h1; omega
  | row _ _ _ b len c u hn hc hm63 hk' hcell h1' hvv htk =>
    have hj : j.toNat < xs.length := by omega
    refine ⟨.pointer (some (b.add (j.toNat * k))), .ref _ _ (fun q => u j.toNat q) ?_ ?_, fun w => ?_⟩
    · intro q hq
      rw [Addr.add_add]
      rw [getD_in hj, hk' j.toNat _ (List.getElem?_eq_getElem hj)] at hq
      exact hcell _ _ (by omega) hq
    · intro q d hq
      rw [getD_in hj] at hq
      exact hvv _ _ _ _ (List.getElem?_eq_getElem hj) hq
    · have hlt : 0 ≤ j ∧ j < (len : Int) := ⟨h0, by omega⟩
      simp [execOp, hop, hu, ey, Instr.indexAt, asIntOf, run_underlying ht, hlt, sizeOf, typeInfo, hi, hk]

theorem zp_nilCheck {x : Operand} {d : D} (hop : o.op = .nilCheck x) (hx : ev env x = some d) (hd : (∃ cs, d = .ref cs) ∨ (∃ id off, d = .ptr id off)) : ZPure0 P o env d := fun G n a he => by
  have hv := ev_ok he hx
  refine ⟨_, hv, fun w => ?_⟩
  generalize hu : a.eval x = u at hv
  rcases hd with ⟨cs, rfl⟩ | ⟨id, off, rfl⟩ <;> cases hv <;> simp [execOp, hop, hu]

/-- Where a struct's field lies. -/
def fieldIs (P : Program) (t f off : Nat) : Prop := ∃ fs fd i, P.underlying t = some (.struct fs) ∧ fs[f]? = some fd ∧ fd.offset = off ∧ P.info? fd.type = some i ∧ i.size ≠ 0

theorem run_fieldAt {t f off : Nat} (h : fieldIs P t f off) (a : Addr) (w : World) : (Instr.fieldAt t (.pointer (some a)) f).run P w = .ok (.pointer (some (a.add off))) w := by
  obtain ⟨fs, fd, i, h1, h2, rfl, h4, h5⟩ := h
  simp [Instr.fieldAt, run_underlying h1, h2, Instr.sureAddr, fieldPlace, sizeOf, typeInfo, h4, h5]

theorem zp_fieldAddr_ref {t f off : Nat} {x : Operand} {cs : List D} (hop : o.op = .fieldAddr t x f) (hf : fieldIs P t f off) (hx : ev env x = some (.ref cs)) : ZPure0 P o env (.ref (cs.drop off)) := fun G n a he => by
  have hv := ev_ok he hx
  generalize hu : a.eval x = u at hv
  cases hv with
  | ref _ b u hm hvv =>
    refine ⟨.pointer (some (b.add off)), .ref _ _ (fun j => u (off + j)) (fun j hj => ?_) (fun j d hj => ?_), fun w => ?_⟩
    · rw [Addr.add_add]; exact hm _ (by simp at hj; omega)
    · rw [List.getElem?_drop] at hj; exact hvv _ _ hj
    · simp [execOp, hop, hu, run_fieldAt hf]
theorem zp_fieldAddr_ptr {t f off : Nat} {x : Operand} {id q : Nat} (hop : o.op = .fieldAddr t x f) (hf : fieldIs P t f off) (hx : ev env x = some (.ptr id q)) : ZPure0 P o env (.ptr id (q + off)) := fun G n a he => by
  have hv := ev_ok he hx
  generalize hu : a.eval x = u at hv
  cases hv with
  | ptr _ _ hid =>
    refine ⟨_, .ptr id (q + off) hid, fun w => ?_⟩
    have : (⟨G.rho id, q, none⟩ : Addr).add off = ⟨G.rho id, q + off, none⟩ := by unfold Addr.add; split <;> simp_all
    simp [execOp, hop, hu, run_fieldAt hf, this]

/-- How a type's variables lie in memory: one cell, or so many. -/
def shapeIs (P : Program) (t : TypeId) (agg : Bool) (k : Nat) : Prop := (∃ i, P.info? t = some i ∧ i.size = k) ∧ (∀ w : World, (isAgg t).run P w = .ok agg w) ∧ (agg = false → k = 1)

theorem zp_load_ref {t : TypeId} {x : Operand} {cs : List D} {d : D} (hop : o.op = .load t x) (hs : shapeIs P t false 1) (hx : ev env x = some (.ref cs)) (hd : cs[0]? = some d) : ZPure P o env d := fun G n a he => by
  have hv := ev_ok he hx
  generalize hu : a.eval x = u at hv
  cases hv with
  | ref _ b u hm hvv =>
    refine ⟨u 0, hvv 0 d hd, fun w hw => ?_⟩
    have h0 := hw _ _ (hm 0 (by cases cs <;> simp_all))
    have : b.add 0 = b := by simp [Addr.add]
    rw [this] at h0
    simp [execOp, hop, hu, Instr.loadAt, Instr.sureAddr, loadVar, hs.2.1 w, h0]
theorem zp_load_ref_agg {t : TypeId} {x : Operand} {cs : List D} {k : Nat} (hop : o.op = .load t x) (hs : shapeIs P t true k) (hx : ev env x = some (.ref cs)) (hk : k ≤ cs.length) : ZPure P o env (.agg (cs.take k)) := fun G n a he => by
  have hv := ev_ok he hx
  generalize hu : a.eval x = u at hv
  cases hv with
  | ref _ b u hm hvv =>
    obtain ⟨⟨i, hi, hik⟩, hagg, _⟩ := hs
    refine ⟨.agg ((List.range k).map u).toArray, .agg _ _ (by simp; omega) (fun j d v h1 h2 => ?_), fun w hw => ?_⟩
    · rw [List.getElem?_take] at h1
      split at h1
      · rename_i hj
        rw [List.getElem?_map, List.getElem?_range hj] at h2
        cases h2
        exact hvv j d h1
      · cases h1
    · have hl := run_loadCells (P := P) (w := w) b k u (fun j hj => hw _ _ (hm j (by omega)))
      simp [execOp, hop, hu, Instr.loadAt, Instr.sureAddr, loadVar, hagg w, sizeOf, typeInfo, hi, hik, hl]

/-- A value's cells. -/
def cellsD : D → List D
  | .agg cs => cs
  | .v (.agg cs) => cs.toList.map .v
  | d => [d]
theorem cellsD_ok {G : Gh} {d : D} {u : Value} (h : VR G d u) : VRs G (cellsD d) u.cells.toList := by
  cases h with
  | agg cs us hl hv => exact ⟨by simpa [cellsD, Value.cells] using hl, by simpa [cellsD, Value.cells] using hv⟩
  | v =>
    cases u with
    | agg cs =>
      refine ⟨by simp [cellsD, Value.cells], fun i d u h1 h2 => ?_⟩
      simp only [cellsD, Value.cells, List.getElem?_map] at h1 h2
      rw [h2] at h1
      cases h1
      exact .v u
    | _ => exact VRs.cons (.v _) (VRs.nil G)
  | row xs k t a n c u hn hc hm63 hk hm h1 hv ht => exact VRs.cons (.row xs k t a n c u hn hc hm63 hk hm h1 hv ht) (VRs.nil G)
  | rowNil k t ht => exact VRs.cons (.rowNil k t ht) (VRs.nil G)
  | ref cs a u hm hv => exact VRs.cons (.ref cs a u hm hv) (VRs.nil G)
  | tup cs us hl hv => exact VRs.cons (.tup cs us hl hv) (VRs.nil G)
  | ptr id off hid => exact VRs.cons (.ptr id off hid) (VRs.nil G)
  | mrow id off n c hid hc hm => exact VRs.cons (.mrow id off n c hid hc hm) (VRs.nil G)
  | fn f caps us hl hv => exact VRs.cons (.fn f caps us hl hv) (VRs.nil G)
  | iface t d u hv => exact VRs.cons (.iface t d u hv) (VRs.nil G)
  | mp id hid => exact VRs.cons (.mp id hid) (VRs.nil G)

/-- One cell. -/
def oneD : D → Bool
  | .v x => x.oneCell'
  | .agg _ | .tup _ => false
  | _ => true
theorem oneD_ok {G : Gh} {d : D} {u : Value} (h : VR G d u) (h1 : oneD d = true) : u.oneCell' = true := by cases h <;> first | exact h1 | rfl | (simp [oneD] at h1; done)

theorem zp_extract {x : Operand} {i : Nat} {ds : List D} {d : D} (hop : o.op = .extract x i) (hx : ev env x = some (.tup ds)) (hd : ds[i]? = some d) : ZPure0 P o env d := fun G n a he => by
  have hv := ev_ok he hx
  generalize hu : a.eval x = u at hv
  cases hv with
  | tup _ us hl hvv =>
    have hlt : i < us.length := by rw [← hl]; exact (List.getElem?_eq_some_iff.1 hd).1
    refine ⟨us[i], hvv i d _ hd (List.getElem?_eq_getElem hlt), fun w => ?_⟩
    simp [execOp, hop, hu, Instr.extract, hlt]

theorem zp_makeFunc {f : FuncId} {first caps : Array Operand} {ds : List D} (hop : o.op = .makeFunc (.func f) first caps) (h0 : first = #[]) (hc : evs env caps.toList = some ds) : ZPure0 P o env (.fn f ds) := fun G n a he => by
  subst h0
  have hv := evs_ok he hc
  refine ⟨_, .fn f ds _ hv.1 hv.2, fun w => ?_⟩
  simp [execOp, hop, Instr.makeFunc]
  rw [← Array.toList_map]

end
end Go.Proofs.Zm
/- The framework's sixth part: what becomes of the state where memory is made or written. -/
namespace Go.Proofs.Zm
open Go.RowKit
set_option linter.unusedVariables false
set_option linter.unusedSimpArgs false

theorem cell_lt {w : World} {a : Addr} {u : Value} (h : w.cell? a = some u) : a.block < w.heap.size := World.block_lt_of_cell? w a h
theorem cell_spot {w : World} {a : Addr} {u : Value} (h : w.cell? a = some u) : a.spot = none := by
  unfold World.cell? at h
  split at h
  · split at h
    · cases h
    · rename_i hs; cases hx : a.spot <;> simp_all
  · cases h
theorem cell_heap {w : World} {b j : Nat} {c : List Value} {e : TypeId} {fr : Nat × Nat} (h : w.heap[b]? = some (.cells c.toArray e fr)) : w.cell? ⟨b, j, none⟩ = c[j]? := by
  simp [World.cell?, h]
theorem cell_heap' {w : World} {a : Addr} {u : Value} {c : List Value} {e : TypeId} {fr : Nat × Nat} (h : w.heap[a.block]? = some (.cells c.toArray e fr)) (hu : w.cell? a = some u) : c[a.off]? = some u := by
  have hs := cell_spot hu
  simp only [World.cell?, h, hs] at hu
  simpa using hu
theorem cell_same {w w1 : World} {a : Addr} (h : w1.heap[a.block]? = w.heap[a.block]?) : w1.cell? a = w.cell? a := by simp [World.cell?, h]

theorem below_push {w0 w w1 : World} {x : Obj} (h : Below w0.heap.size w0 w) (hw : w1.heap = w.heap.push x) (ho : w1.os = w.os) (ht : w1.tape = w.tape) (hp : w1.output = w.output) : Below w0.heap.size w0 w1 :=
  ⟨ho.trans h.os, ht.trans h.tape, hp.trans h.output, by rw [hw]; have := h.size; simp; omega, fun k hk => by
    rw [← h.block k hk, hw, Array.getElem?_push_lt (Nat.lt_of_lt_of_le hk h.size)]
    exact (Array.getElem?_eq_getElem _).symm⟩

theorem maps_push {w w1 : World} {x : Obj} (hw : w1.heap = w.heap.push x) : ∀ (i : Nat) (es : Array MapEntry) (cl : Nat), w.heap[i]? = some (Obj.map es cl) → w1.heap[i]? = some (Obj.map es cl) := fun i es cl h => by
  have hi := (Array.getElem?_eq_some_iff.1 h).1
  have e : (w.heap.push x)[i]? = w.heap[i]? := by rw [Array.getElem?_push_lt hi, Array.getElem?_eq_getElem hi]
  rw [hw, e, h]
theorem maps_hold {w w1 : World} {b : Nat} {o : Obj} (hb : w.heap[b]? = some o) (ho : ∀ es cl, o ≠ Obj.map es cl) (hold : ∀ k, k ≠ b → w1.heap[k]? = w.heap[k]?) : ∀ (i : Nat) (es : Array MapEntry) (cl : Nat), w.heap[i]? = some (Obj.map es cl) → w1.heap[i]? = some (Obj.map es cl) := fun i es cl h => by
  rw [hold i (fun e => by subst e; rw [hb] at h; exact ho es cl (Option.some.inj h)), h]

section
variable {w0 : World} {G : Gh} {st : St} {w w1 : World}

/-- A new block of which so many cells are told; the right to append to them. -/
theorem Rel.freshF (h : Rel w0 G st w) (c : List Value) (e : TypeId) (fz : Nat × Nat) (hfz : Free fz c.length) (m : Nat) (hm : m ≤ c.length)
    (hw : w1.heap = w.heap.push (.cells c.toArray e fz)) (ho : w1.os = w.os) (ht : w1.tape = w.tape) (hp : w1.output = w.output) :
    ∃ G', G.le G' ∧ Rel w0 G' (st.setT G.nx true) w1 ∧ G'.nx = G.nx + 1 ∧ G'.tau G.nx = (w.heap.size, m, c.length) ∧ ∀ j u, j < m → c[j]? = some u → G'.M ⟨w.heap.size, j, none⟩ = some u := by
  have hold : ∀ k, k < w.heap.size → w1.heap[k]? = w.heap[k]? := fun k hk => by
    rw [hw, Array.getElem?_push_lt hk, Array.getElem?_eq_getElem hk]
  have hnew : w1.heap[w.heap.size]? = some (.cells c.toArray e fz) := by rw [hw]; simp
  have hMb : ∀ a u, G.M a = some u → a.block < w.heap.size := fun a u hu => cell_lt (h.mem a u hu)
  let G' : Gh := { M := fun a => if a.block = w.heap.size then (if a.spot = none ∧ a.off < m then c[a.off]? else none) else G.M a,
                   rho := G.rho, tau := fun t => if t = G.nx then (w.heap.size, m, c.length) else G.tau t, nx := G.nx + 1 }
  have hMo : ∀ a, a.block ≠ w.heap.size → G'.M a = G.M a := fun a hne => by simp [G', hne]
  have htn : G'.tau G.nx = (w.heap.size, m, c.length) := by simp [G']
  have hto : ∀ t, t ≠ G.nx → G'.tau t = G.tau t := fun t hne => by simp [G', hne]
  have hle : G.le G' := ⟨fun a u hu => by rw [hMo a (Nat.ne_of_lt (hMb a u hu))]; exact hu, fun id _ => rfl, fun t hlt => hto t (Nat.ne_of_lt hlt), Nat.le_succ _⟩
  refine ⟨G', hle, ?_, rfl, htn, fun j u hj hu => by simp [G', hj, hu]⟩
  have htb : ∀ t, st.T t = true → (G.tau t).2.2 ≠ 0 → (G.tau t).1 < w.heap.size := fun t e1 e2 => by
    obtain ⟨c', e', h1, _⟩ := h.tk t e1 e2
    exact (Array.getElem?_eq_some_iff.1 h1).1
  have hxb : ∀ id cs, st.H id = some cs → G.rho id < w.heap.size := fun id cs e1 => by
    obtain ⟨c', e', h1, _⟩ := h.ex id cs e1
    exact (Array.getElem?_eq_some_iff.1 h1).1
  have hT : ∀ t, (st.setT G.nx true).T t = true → t = G.nx ∨ (t ≠ G.nx ∧ st.T t = true) := fun t e1 => by
    by_cases ht : t = G.nx
    · exact .inl ht
    · simp [ht] at e1; exact .inr ⟨ht, e1⟩
  exact {
    mem := fun a u hu => by
      by_cases hb : a.block = w.heap.size
      · simp only [G', hb, if_true] at hu
        split at hu
        · rename_i hs
          obtain ⟨b, off, spot⟩ := a
          simp only at hb hs hu
          obtain ⟨rfl, _⟩ := hs
          subst hb
          rw [cell_heap hnew]; exact hu
        · cases hu
      · rw [hMo a hb] at hu
        rw [cell_same (hold _ (hMb a u hu))]
        exact h.mem a u hu
    nxH := fun id hi => h.nxH id (by simp [G'] at hi; omega)
    nxT := fun t hi => by
      have : t ≠ G.nx := by simp [G'] at hi; omega
      simp [this]; exact h.nxT t (by simp [G'] at hi; omega)
    nx0 := Nat.succ_pos _
    T0 := by have := h.nx0; simp [show (0 : Nat) ≠ G.nx by omega, h.T0]
    ex := fun id cs e1 => by
      obtain ⟨c', e', h1, h2, h3, h4⟩ := h.ex id cs e1
      exact ⟨c', e', (hold _ (hxb id cs e1)).trans h1, h2, h3, fun j d u a b => (h4 j d u a b).mono hle⟩
    exM := fun id cs a u e1 hu => by
      by_cases hb : a.block = w.heap.size
      · rw [hb]; exact fun he => absurd (hxb id cs e1) (by rw [show G'.rho id = G.rho id from rfl] at he; omega)
      · rw [hMo a hb] at hu; exact h.exM id cs a u e1 hu
    exB := fun id cs e1 => h.exB id cs e1
    exI := fun id id' cs cs' e1 e2 => h.exI id id' cs cs' e1 e2
    tk := fun t e1 e2 => by
      rcases hT t e1 with rfl | ⟨hne, e3⟩
      · rw [htn]; exact ⟨c, (e, fz), hnew, Nat.le_refl _, hfz⟩
      · rw [hto t hne] at e2 ⊢
        obtain ⟨c', e', h1, h2⟩ := h.tk t e3 e2
        exact ⟨c', e', (hold _ (htb t e3 e2)).trans h1, h2⟩
    tkM := fun t a u e1 e2 hu hb => by
      rcases hT t e1 with rfl | ⟨hne, e3⟩
      · rw [htn] at hb ⊢
        simp only at hb
        simp only [G', hb, if_true] at hu
        split at hu
        · rename_i hs; exact hs.2
        · cases hu
      · rw [hto t hne] at e2 hb ⊢
        have hlt := htb t e3 e2
        rw [hMo a (by omega)] at hu
        exact h.tkM t a u e3 e2 hu hb
    tkB := fun t e1 e2 => by
      rcases hT t e1 with rfl | ⟨hne, e3⟩
      · rw [htn]; exact h.below.size
      · rw [hto t hne] at e2 ⊢; exact h.tkB t e3 e2
    tkI := fun t t' e1 e2 e3 e4 hb => by
      rcases hT t e1 with rfl | ⟨hne, e5⟩ <;> rcases hT t' e2 with rfl | ⟨hne', e6⟩
      · rfl
      · rw [htn, hto t' hne'] at hb; rw [hto t' hne'] at e4; have := htb t' e6 e4; simp at hb; omega
      · rw [htn, hto t hne] at hb; rw [hto t hne] at e3; have := htb t e5 e3; simp at hb; omega
      · rw [hto t hne] at e3 hb; rw [hto t' hne'] at e4 hb; exact h.tkI t t' e5 e6 e3 e4 hb
    tkE := fun t id cs e1 e2 e3 => by
      rcases hT t e1 with rfl | ⟨hne, e5⟩
      · rw [htn]; have := hxb id cs e3; exact fun he => by simp at he; rw [show G'.rho id = G.rho id from rfl] at he; omega
      · rw [hto t hne] at e2 ⊢; exact h.tkE t id cs e5 e2 e3
    mp := h.mp.frame hle (maps_push hw)
    below := below_push h.below hw ho ht hp }

theorem Rel.fresh (h : Rel w0 G st w) (c : List Value) (e : TypeId) (m : Nat) (hm : m ≤ c.length)
    (hw : w1.heap = w.heap.push (.cells c.toArray e (0, 0))) (ho : w1.os = w.os) (ht : w1.tape = w.tape) (hp : w1.output = w.output) :
    ∃ G', G.le G' ∧ Rel w0 G' (st.setT G.nx true) w1 ∧ G'.nx = G.nx + 1 ∧ G'.tau G.nx = (w.heap.size, m, c.length) ∧ ∀ j u, j < m → c[j]? = some u → G'.M ⟨w.heap.size, j, none⟩ = some u :=
  h.freshF c e (0, 0) (Free.zero _) m hm hw ho ht hp
/-- Cells of a right's block are told, in place. -/
theorem Rel.grow {t : Nat} (h : Rel w0 G st w) (hT : st.T t = true) {b used total : Nat} (htau : G.tau t = (b, used, total)) (h0 : total ≠ 0) (c c' : List Value) (e : TypeId × Nat × Nat) (hfz : Free e.2 c.length)
    (hc : w.heap[b]? = some (.cells c.toArray e.1 e.2)) (hc' : w1.heap[b]? = some (.cells c'.toArray e.1 e.2)) (hl : c'.length = c.length) (hpre : ∀ j, j < used → c'[j]? = c[j]?)
    (hold : ∀ k, k ≠ b → w1.heap[k]? = w.heap[k]?) (hsz : w.heap.size ≤ w1.heap.size) (ho : w1.os = w.os) (ht : w1.tape = w.tape) (hp : w1.output = w.output) (m : Nat) (hm : used ≤ m) (hm2 : m ≤ total) :
    ∃ G', G.le G' ∧ Rel w0 G' ((st.setT t false).setT G.nx true) w1 ∧ G'.nx = G.nx + 1 ∧ G'.tau G.nx = (b, m, total) ∧ ∀ j u, j < m → c'[j]? = some u → G'.M ⟨b, j, none⟩ = some u := by
  have htlt := h.nxtk hT
  have hbB : w0.heap.size ≤ b := by have := h.tkB t hT (by rw [htau]; exact h0); rwa [htau] at this
  have hlen : total ≤ c.length := by
    obtain ⟨c2, e2, h1, h2⟩ := h.tk t hT (by rw [htau]; exact h0)
    rw [htau] at h1 h2
    rw [hc] at h1
    simp only [Option.some.injEq, Obj.cells.injEq] at h1
    have : c = c2 := by simpa using h1.1
    rw [this]; exact h2.1
  have hMlt : ∀ a u, G.M a = some u → a.block = b → a.off < used := fun a u hu hb => by
    have := h.tkM t a u hT (by rw [htau]; exact h0) hu (by rw [htau]; exact hb)
    rwa [htau] at this
  let G' : Gh := { M := fun a => if a.block = b then (if a.spot = none ∧ a.off < m then c'[a.off]? else none) else G.M a,
                   rho := G.rho, tau := fun t => if t = G.nx then (b, m, total) else G.tau t, nx := G.nx + 1 }
  have hMo : ∀ a, a.block ≠ b → G'.M a = G.M a := fun a hne => by simp [G', hne]
  have htn : G'.tau G.nx = (b, m, total) := by simp [G']
  have hto : ∀ t, t ≠ G.nx → G'.tau t = G.tau t := fun t hne => by simp [G', hne]
  have hle : G.le G' := by
    refine ⟨fun a u hu => ?_, fun id _ => rfl, fun t hlt => hto t (Nat.ne_of_lt hlt), Nat.le_succ _⟩
    by_cases hb : a.block = b
    · have hoff := hMlt a u hu hb
      have hcell := h.mem a u hu
      have hs := cell_spot hcell
      have hcu := cell_heap' (by rw [hb]; exact hc) hcell
      simp only [G', hb, if_true]
      rw [if_pos ⟨hs, by omega⟩, hpre _ hoff]
      exact hcu
    · rw [hMo a hb]; exact hu
  refine ⟨G', hle, ?_, rfl, htn, fun j u hj hu => by simp [G', hj, hu]⟩
  have hTT : ∀ q, ((st.setT t false).setT G.nx true).T q = true → q = G.nx ∨ (q ≠ G.nx ∧ q ≠ t ∧ st.T q = true) := fun q e1 => by
    by_cases hq : q = G.nx
    · exact .inl hq
    · by_cases hq2 : q = t
      · subst hq2; simp [hq] at e1
      · simp [hq, hq2] at e1; exact .inr ⟨hq, hq2, e1⟩
  have hnb : ∀ q, q ≠ t → st.T q = true → (G.tau q).2.2 ≠ 0 → (G.tau q).1 ≠ b := fun q hne e1 e2 he =>
    hne (h.tkI q t e1 hT e2 (by rw [htau]; exact h0) (by rw [htau]; exact he))
  have hxb : ∀ id cs, st.H id = some cs → G.rho id ≠ b := fun id cs e1 he => by
    have := h.tkE t id cs hT (by rw [htau]; exact h0) e1
    rw [htau] at this; exact this he.symm
  exact {
    mem := fun a u hu => by
      by_cases hb : a.block = b
      · simp only [G', hb, if_true] at hu
        split at hu
        · rename_i hs
          obtain ⟨bb, off, spot⟩ := a
          simp only at hb hs hu
          obtain ⟨rfl, _⟩ := hs
          subst hb
          rw [cell_heap hc']; exact hu
        · cases hu
      · rw [hMo a hb] at hu
        rw [cell_same (hold _ hb)]
        exact h.mem a u hu
    nxH := fun id hi => h.nxH id (by simp [G'] at hi; omega)
    nxT := fun q hi => by
      have h1 : q ≠ G.nx := by simp [G'] at hi; omega
      have h2 : q ≠ t := by simp [G'] at hi; omega
      simp [h1, h2]; exact h.nxT q (by simp [G'] at hi; omega)
    nx0 := Nat.succ_pos _
    T0 := by have := h.nx0; simp [show (0 : Nat) ≠ G.nx by omega]; intro _; exact h.T0
    ex := fun id cs e1 => by
      obtain ⟨c2, e2, h1, h2, h3, h4⟩ := h.ex id cs e1
      exact ⟨c2, e2, (hold _ (hxb id cs e1)).trans h1, h2, h3, fun j d u a b => (h4 j d u a b).mono hle⟩
    exM := fun id cs a u e1 hu => by
      by_cases hb : a.block = b
      · rw [hb]; exact (hxb id cs e1).symm
      · rw [hMo a hb] at hu; exact h.exM id cs a u e1 hu
    exB := fun id cs e1 => h.exB id cs e1
    exI := fun id id' cs cs' e1 e2 => h.exI id id' cs cs' e1 e2
    tk := fun q e1 e2 => by
      rcases hTT q e1 with rfl | ⟨hne, hne2, e3⟩
      · rw [htn]; exact ⟨c', e, hc', by rw [hl]; exact hlen, by rw [hl]; exact hfz⟩
      · rw [hto q hne] at e2 ⊢
        obtain ⟨c2, e', h1, h2⟩ := h.tk q e3 e2
        exact ⟨c2, e', (hold _ (hnb q hne2 e3 e2)).trans h1, h2⟩
    tkM := fun q a u e1 e2 hu hb => by
      rcases hTT q e1 with rfl | ⟨hne, hne2, e3⟩
      · rw [htn] at hb ⊢
        simp only at hb
        simp only [G', hb, if_true] at hu
        split at hu
        · rename_i hs; exact hs.2
        · cases hu
      · rw [hto q hne] at e2 hb ⊢
        have hn := hnb q hne2 e3 e2
        rw [hMo a (by rw [hb]; exact hn)] at hu
        exact h.tkM q a u e3 e2 hu hb
    tkB := fun q e1 e2 => by
      rcases hTT q e1 with rfl | ⟨hne, hne2, e3⟩
      · rw [htn]; exact hbB
      · rw [hto q hne] at e2 ⊢; exact h.tkB q e3 e2
    tkI := fun q q' e1 e2 e3 e4 hb => by
      rcases hTT q e1 with rfl | ⟨hne, hne2, e5⟩ <;> rcases hTT q' e2 with rfl | ⟨hne', hne2', e6⟩
      · rfl
      · rw [htn, hto q' hne'] at hb; rw [hto q' hne'] at e4; exact absurd hb.symm (hnb q' hne2' e6 e4)
      · rw [htn, hto q hne] at hb; rw [hto q hne] at e3; exact absurd hb (hnb q hne2 e5 e3)
      · rw [hto q hne] at e3 hb; rw [hto q' hne'] at e4 hb; exact h.tkI q q' e5 e6 e3 e4 hb
    tkE := fun q id cs e1 e2 e3 => by
      rcases hTT q e1 with rfl | ⟨hne, hne2, e5⟩
      · rw [htn]; exact (hxb id cs e3).symm
      · rw [hto q hne] at e2 ⊢; exact h.tkE q id cs e5 e2 e3
    mp := h.mp.frame hle (maps_hold hc (fun _ _ e => by cases e) hold)
    below := ⟨ho.trans h.below.os, ht.trans h.below.tape, hp.trans h.below.output, Nat.le_trans h.below.size hsz, fun k hk => by
      rw [hold k (by omega)]; exact h.below.block k hk⟩ }

/-- A right of nothing. -/
theorem Rel.nilRight (h : Rel w0 G st w) (b : Nat) : ∃ G', G.le G' ∧ Rel w0 G' (st.setT G.nx true) w ∧ G'.nx = G.nx + 1 ∧ G'.tau G.nx = (b, 0, 0) := by
  let G' : Gh := { G with tau := fun t => if t = G.nx then (b, 0, 0) else G.tau t, nx := G.nx + 1 }
  have htn : G'.tau G.nx = (b, 0, 0) := by simp [G']
  have hto : ∀ t, t ≠ G.nx → G'.tau t = G.tau t := fun t hne => by simp [G', hne]
  have hle : G.le G' := ⟨fun a u hu => hu, fun id _ => rfl, fun t hlt => hto t (Nat.ne_of_lt hlt), Nat.le_succ _⟩
  have hT : ∀ t, (st.setT G.nx true).T t = true → (G'.tau t).2.2 ≠ 0 → (t ≠ G.nx ∧ st.T t = true) := fun t e1 e2 => by
    by_cases ht : t = G.nx
    · subst ht; rw [htn] at e2; exact absurd rfl e2
    · simp [ht] at e1; exact ⟨ht, e1⟩
  refine ⟨G', hle, ?_, rfl, htn⟩
  exact {
    mem := h.mem
    nxH := fun id hi => h.nxH id (by simp [G'] at hi; omega)
    nxT := fun t hi => by
      have : t ≠ G.nx := by simp [G'] at hi; omega
      simp [this]; exact h.nxT t (by simp [G'] at hi; omega)
    nx0 := Nat.succ_pos _
    T0 := by have := h.nx0; simp [show (0 : Nat) ≠ G.nx by omega, h.T0]
    ex := fun id cs e1 => by
      obtain ⟨c', e', h1, h2, h3, h4⟩ := h.ex id cs e1
      exact ⟨c', e', h1, h2, h3, fun j d u a b => (h4 j d u a b).mono hle⟩
    exM := h.exM
    exB := h.exB
    exI := h.exI
    tk := fun t e1 e2 => by
      obtain ⟨hne, e3⟩ := hT t e1 e2
      rw [hto t hne] at e2 ⊢; exact h.tk t e3 e2
    tkM := fun t a u e1 e2 hu hb => by
      obtain ⟨hne, e3⟩ := hT t e1 e2
      rw [hto t hne] at e2 hb ⊢; exact h.tkM t a u e3 e2 hu hb
    tkB := fun t e1 e2 => by
      obtain ⟨hne, e3⟩ := hT t e1 e2
      rw [hto t hne] at e2 ⊢; exact h.tkB t e3 e2
    tkI := fun t t' e1 e2 e3 e4 hb => by
      obtain ⟨hne, e5⟩ := hT t e1 e3
      obtain ⟨hne', e6⟩ := hT t' e2 e4
      rw [hto t hne] at e3 hb; rw [hto t' hne'] at e4 hb; exact h.tkI t t' e5 e6 e3 e4 hb
    tkE := fun t id cs e1 e2 e3 => by
      obtain ⟨hne, e5⟩ := hT t e1 e2
      rw [hto t hne] at e2 ⊢; exact h.tkE t id cs e5 e2 e3
    mp := h.mp.frame hle (fun _ _ _ e => e)
    below := h.below }

end
end Go.Proofs.Zm
/- The framework's seventh part: append, make, literals: rows of the call's own. -/
namespace Go.Proofs.Zm
open Go.RowKit
set_option linter.unusedVariables false
set_option linter.unusedSimpArgs false

/-- The cells of a row in order. -/
structure Flat (G : Gh) (xs : List (List D)) (k : Nat) (us : List Value) : Prop where
  len : us.length = xs.length * k
  hk : ∀ (i : Nat) (x : List D), xs[i]? = some x → x.length = k
  one : ∀ u ∈ us, u.oneCell' = true
  vr : ∀ (i : Nat) (x : List D) (j : Nat) (d : D), xs[i]? = some x → x[j]? = some d → ∃ u, us[i * k + j]? = some u ∧ VR G d u

theorem Flat.mono {G G' : Gh} (hg : G.le G') {xs k us} (h : Flat G xs k us) : Flat G' xs k us :=
  ⟨h.len, h.hk, h.one, fun i x j d a b => let ⟨u, h1, h2⟩ := h.vr i x j d a b; ⟨u, h1, h2.mono hg⟩⟩
theorem Flat.nil (G : Gh) (k : Nat) : Flat G [] k [] := ⟨by simp, fun i x h => by simp at h, fun u h => by simp at h, fun i x j d h => by simp at h⟩
theorem Flat.append {G : Gh} {xs ys : List (List D)} {k : Nat} {us vs : List Value} (h : Flat G xs k us) (h' : Flat G ys k vs) : Flat G (xs ++ ys) k (us ++ vs) := by
  refine ⟨by simp [h.len, h'.len, Nat.add_mul], fun i x hx => ?_, fun u hu => ?_, fun i x j d hx hj => ?_⟩
  · by_cases hi : i < xs.length
    · rw [List.getElem?_append_left hi] at hx; exact h.hk i x hx
    · rw [List.getElem?_append_right (by omega)] at hx; exact h'.hk _ x hx
  · rcases List.mem_append.1 hu with h1 | h1
    · exact h.one u h1
    · exact h'.one u h1
  · by_cases hi : i < xs.length
    · rw [List.getElem?_append_left hi] at hx
      obtain ⟨u, h1, h2⟩ := h.vr i x j d hx hj
      exact ⟨u, by rw [List.getElem?_append_left (List.getElem?_eq_some_iff.1 h1).1]; exact h1, h2⟩
    · rw [List.getElem?_append_right (by omega)] at hx
      obtain ⟨u, h1, h2⟩ := h'.vr _ x j d hx hj
      have hle : xs.length * k ≤ i * k := Nat.mul_le_mul_right _ (by omega)
      refine ⟨u, ?_, h2⟩
      rw [List.getElem?_append_right (by rw [h.len]; omega), h.len]
      have : i * k + j - xs.length * k = (i - xs.length) * k + j := by rw [Nat.sub_mul]; omega
      rw [this]; exact h1
/-- One element. -/
theorem Flat.one1 {G : Gh} {cs : List D} {us : List Value} (h : VRs G cs us) (h1 : ∀ d ∈ cs, oneD d = true) : Flat G [cs] cs.length us := by
  refine ⟨by simp [h.1], fun i x hx => ?_, fun u hu => ?_, fun i x j d hx hj => ?_⟩
  · cases i <;> simp at hx; rw [← hx]
  · obtain ⟨j, hj⟩ := List.mem_iff_getElem?.1 hu
    have hlt : j < cs.length := by rw [h.1]; exact (List.getElem?_eq_some_iff.1 hj).1
    exact oneD_ok (h.2 j _ u (List.getElem?_eq_getElem hlt) hj) (h1 _ (List.getElem_mem hlt))
  · cases i <;> simp at hx
    subst hx
    have hlt : j < us.length := by rw [← h.1]; exact (List.getElem?_eq_some_iff.1 hj).1
    exact ⟨us[j], by simp [hlt], h.2 j d _ hj (List.getElem?_eq_getElem hlt)⟩

/-- Any value of one cell. -/
def aCell : Value := .bool false

theorem VR.flat {G : Gh} {xs : List (List D)} {k t : Nat} {a : Addr} {n c : Nat} (h : VR G (.row xs k t) (.slice (some a) n c)) :
    n = xs.length ∧ n ≤ c ∧ c ≤ maxLen ∧ (t ≠ 0 → t < G.nx ∧ a = ⟨(G.tau t).1, 0, none⟩ ∧ (G.tau t).2.1 = n * k ∧ (G.tau t).2.2 = c * k) ∧
    ∃ us, Flat G xs k us ∧ ∀ j u, us[j]? = some u → G.M (a.add j) = some u := by
  cases h with
  | row _ _ _ _ _ _ u hn hc hm63 hk hm h1 hv ht =>
    refine ⟨hn.symm, hc, hm63, ht, (List.range (n * k)).map (fun q => u (q / k) (q % k)), ⟨by simp [hn], hk, fun v hv => ?_, fun i x j d hx hj => ?_⟩, fun j v hj => ?_⟩
    · obtain ⟨q, _, rfl⟩ := List.mem_map.1 hv; exact h1 _ _
    · have hi : i < n := by rw [← hn]; exact (List.getElem?_eq_some_iff.1 hx).1
      have hjk : j < k := by rw [← hk i x hx]; exact (List.getElem?_eq_some_iff.1 hj).1
      have hlt : i * k + j < n * k := by
        have : (i + 1) * k ≤ n * k := Nat.mul_le_mul_right _ hi
        rw [Nat.add_mul] at this; omega
      have h1 : (i * k + j) / k = i := by rw [Nat.mul_comm, Nat.mul_add_div (by omega)]; rw [Nat.div_eq_of_lt hjk]; rfl
      have h2 : (i * k + j) % k = j := by rw [Nat.mul_comm, Nat.mul_add_mod]; exact Nat.mod_eq_of_lt hjk
      refine ⟨u i j, ?_, hv i x j d hx hj⟩
      rw [List.getElem?_map, List.getElem?_range hlt]
      simp [h1, h2]
    · have hlt : j < n * k := by have := (List.getElem?_eq_some_iff.1 hj).1; simpa using this
      have hk0 : 0 < k := by rcases Nat.eq_zero_or_pos k with h | h; (subst h; simp at hlt); exact h
      rw [List.getElem?_map, List.getElem?_range hlt] at hj
      cases hj
      have hd : j / k < n := Nat.div_lt_of_lt_mul (by rw [Nat.mul_comm]; exact hlt)
      have := hm (j / k) (j % k) hd (Nat.mod_lt _ hk0)
      rwa [Nat.div_add_mod'] at this

/-- Back. -/
theorem VR.ofFlat {G : Gh} {xs : List (List D)} {k t c : Nat} {a : Addr} {us : List Value} (h : Flat G xs k us) (hM : ∀ j u, us[j]? = some u → G.M (a.add j) = some u) (hc : xs.length ≤ c) (hm : c ≤ maxLen)
    (ht : t ≠ 0 → t < G.nx ∧ a = ⟨(G.tau t).1, 0, none⟩ ∧ (G.tau t).2.1 = xs.length * k ∧ (G.tau t).2.2 = c * k) : VR G (.row xs k t) (.slice (some a) xs.length c) := by
  refine .row xs k t a xs.length c (fun i j => (us[i * k + j]?).getD aCell) rfl hc hm h.hk (fun i j hi hj => ?_) (fun i j => ?_) (fun i x j d hx hj => ?_) ht
  · have hlt : i * k + j < us.length := by
      rw [h.len]
      have : (i + 1) * k ≤ xs.length * k := Nat.mul_le_mul_right _ hi
      rw [Nat.add_mul] at this; omega
    rw [List.getElem?_eq_getElem hlt]
    exact hM _ _ (List.getElem?_eq_getElem hlt)
  · cases hh : us[i * k + j]? with
    | none => rfl
    | some u => exact h.one u (List.mem_iff_getElem?.2 ⟨_, hh⟩)
  · obtain ⟨u, h1, h2⟩ := h.vr i x j d hx hj
    rw [h1]; exact h2

theorem VR.ofFlat' {G : Gh} {xs : List (List D)} {k n c : Nat} {a : Addr} {us : List Value} (h : Flat G xs k us) (hM : ∀ j u, us[j]? = some u → G.M (a.add j) = some u) (hn : n = xs.length) (hc : n ≤ c) (hm : c ≤ maxLen) :
    VR G (.row xs k 0) (.slice (some a) n c) := by subst hn; exact VR.ofFlat h hM hc hm (fun h => absurd rfl h)

theorem add_plain (b j : Nat) : (⟨b, 0, none⟩ : Addr).add j = ⟨b, j, none⟩ := by unfold Addr.add; split <;> simp_all

theorem setRow_self' {w : World} {g : Nat} {cur : Array Value} {e : TypeId} {fr : Nat × Nat} (h : w.heap[g]? = some (.cells cur e fr)) : w.setRow g cur = w := by
  have : (w.setRow g cur).heap = w.heap := by
    unfold World.setRow
    apply Array.ext
    · simp
    · intro i h1 h2
      simp only [Array.getElem_modify]
      split
      · rename_i hi
        subst hi
        have : w.heap[g] = .cells cur e fr := by rw [Array.getElem?_eq_getElem h2] at h; exact Option.some.inj h
        rw [this]
      · rfl
  cases w
  simp only [World.setRow] at this ⊢
  rw [this]

section
variable {P : Program} {w0 : World} {n : Nat} {env : Env} {st : St} {o : Oper}

/-- Cells stored one behind the other. -/
theorem run_storeFree (g o : Nat) (t : TypeId) (fz : Nat × Nat) : ∀ (vs : List Value) (i : Nat) (cur : Array Value) (w : World), w.heap[g]? = some (.cells cur t fz) → Free fz cur.size → o + i + vs.length ≤ cur.size → (∀ v ∈ vs, v.oneCell' = true) →
    (storeCells ⟨g, o, none⟩ vs i).run P w = .ok () (w.setRow g (cur.toList.take (o + i) ++ vs ++ cur.toList.drop (o + i + vs.length)).toArray)
  | [], i, cur, w, hg, _, _, _ => by
    have := setRow_self' hg
    simp [storeCells, this]
  | v :: rest, i, cur, w, hg, hf, hl, h1 => by
    have hi : o + i < cur.size := by simp at hl; omega
    have hfro : w.frozen? ⟨g, o + i, none⟩ = false := by
      have := hf (o + i) hi
      simp only [World.frozen?, hg, Bool.and_eq_false_iff, decide_eq_false_iff_not]
      omega
    have hst : (store ((⟨g, o, none⟩ : Addr).add i) v).run P w = .ok () (w.setRow g (cur.setIfInBounds (o + i) v)) := by
      rw [show (⟨g, o, none⟩ : Addr).add i = ⟨g, o + i, none⟩ by unfold Addr.add; split <;> simp_all, run_store P w _ v _ (h1 v (by simp)), show w.cell? ⟨g, o + i, none⟩ = some cur[o + i] by simp [World.cell?, hg, hi]]
      simp [hfro, setCell_eq_setRow w g (o + i) cur t fz v hg]
    have ih := run_storeFree g o t fz rest (i + 1) (cur.setIfInBounds (o + i) v) (w.setRow g (cur.setIfInBounds (o + i) v)) (setRow_heap w g cur _ t _ hg) (by simpa using hf) (by simp at hl ⊢; omega) (fun x hx => h1 x (by simp [hx]))
    simp only [storeCells, Sem.run_bind, hst, Result.andThen_ok, ih, setRow_setRow]
    congr 3
    have e := list_seg_step cur.toList (o + i) v rest (by simp at hl ⊢; omega)
    simpa [Array.toList_setIfInBounds, Nat.add_assoc] using e
/-- In place, whatever type the block was made of. -/
theorem run_append_room' (w : World) (t ty e e' : TypeId) (i : TypeInfo) (ht : P.underlying t = some (.slice e)) (hi : P.info? e = some i)
    (g sLen sCap : Nat) (cur : Array Value) (fz : Nat × Nat) (hg : w.heap[g]? = some (.cells cur e' fz)) (hfz : Free fz cur.size)
    (a : Addr) (m c : Nat) (news : List Value) (hl : news.length = m * i.size) (hnews : ∀ j u, news[j]? = some u → w.cell? (a.add j) = some u) (h1 : ∀ u ∈ news, u.oneCell' = true)
    (hroom : sLen + m ≤ sCap) (hfit : sLen * i.size + news.length ≤ cur.size) :
    (Builtin.append_ #[t, t] ty #[.slice (some ⟨g, 0, none⟩) sLen sCap, .slice (some a) m c]).run P w =
      .ok (.slice (some ⟨g, 0, none⟩) (sLen + m) sCap) (w.setRow g (cur.toList.take (sLen * i.size) ++ news ++ cur.toList.drop (sLen * i.size + news.length)).toArray) := by
  have hf := run_firstCells_some (P := P) w i.size m a m c news hl hnews
  have hst := run_storeFree (P := P) g (sLen * i.size) e' fz news 0 cur w hg hfz (by simpa using hfit) h1
  simp only [Nat.add_zero] at hst
  simp [Builtin.append_, run_underlying ht, sizeOf, typeInfo, hi, Builtin.lenOf, hroom, hf, Addr.add_lit, hst]

/-- What the laws ask of an element's type. -/
structure ElemOk (P : Program) (e k by_ : Nat) (z : List D) : Prop where
  ex : ∃ i zv, P.info? e = some i ∧ i.size = k ∧ i.bytes = by_ ∧ i.zero = some zv ∧ zv.cells.size = k ∧ cellsD (.v zv) = z
  k0 : 0 < k
  b0 : 0 < by_

/-- How 'append' runs at a second argument: what is appended are the cells 'news'. -/
structure AppRuns (P : Program) (w : World) (at_ : Array TypeId) (ty : TypeId) (xv : Value) (e k by_ m : Nat) (news : List Value) : Prop where
  none : ∀ (base : Option Addr) (n c : Nat), m = 0 → n ≤ c → (Builtin.append_ at_ ty #[.slice base n c, xv]).run P w = .ok (.slice base n c) w
  room : ∀ (g sLen sCap : Nat) (cur : Array Value) (e' : TypeId) (fz : Nat × Nat), w.heap[g]? = some (.cells cur e' fz) → Free fz cur.size → sLen + m ≤ sCap → sLen * k + news.length ≤ cur.size →
    (Builtin.append_ at_ ty #[.slice (some ⟨g, 0, Option.none⟩) sLen sCap, xv]).run P w = .ok (.slice (some ⟨g, 0, Option.none⟩) (sLen + m) sCap) (w.setRow g (cur.toList.take (sLen * k) ++ news ++ cur.toList.drop (sLen * k + news.length)).toArray)
  grow : ∀ (base : Option Addr) (sLen sCap : Nat) (olds : List Value) (z : Value) (i : TypeInfo), P.info? e = some i → i.zero = some z → (Builtin.firstCells i.size sLen (.slice base sLen sCap)).run P w.drew = .ok olds.toArray w.drew → sCap < sLen + m →
    (sLen + m) * by_ ≤ 140737488355328 → (Builtin.append_ at_ ty #[.slice base sLen sCap, xv]).run P w = .ok (.slice (some ⟨w.heap.size, 0, Option.none⟩) (sLen + m) (grownCap w (sLen + m) sCap e))
      (w.drew.alloc (.cells (olds.toArray ++ news.toArray ++ Builtin.zeroCells z.cells (grownCap w (sLen + m) sCap e - (sLen + m))) e))

/-- A slice's elements appended. -/
theorem appRuns_slice {w : World} {t e k by_ : Nat} {z : List D} (he : ElemOk P e k by_ z) (ht : P.underlying t = some (.slice e)) (ty : TypeId) (a2 : Addr) (m c2 : Nat) (news : List Value) (hl : news.length = m * k)
    (hnews : ∀ j u, news[j]? = some u → w.cell? (a2.add j) = some u) (h1 : ∀ u ∈ news, u.oneCell' = true) : AppRuns P w #[t, t] ty (.slice (some a2) m c2) e k by_ m news := by
  obtain ⟨⟨i, zv, hi, hk, hby, hz, hzs, _⟩, k0, b0⟩ := he
  refine ⟨fun base n c hm hc => ?_, fun g sLen sCap cur e' fz hg hfz hroom hfit => ?_, fun base sLen sCap olds z' i' hi' hz' ho hg hb => ?_⟩
  · subst hm
    cases base <;> simp [Builtin.append_, run_underlying ht, sizeOf, typeInfo, hi, Builtin.lenOf, Builtin.firstCells, loadCells, loadCellsFrom, hc, storeCells]
  · have := run_append_room' (P := P) w t ty e e' i ht hi g sLen sCap cur fz hg hfz a2 m c2 news (by rw [hl, hk]) hnews h1 hroom (by rw [hk]; exact hfit)
    rwa [hk] at this
  · rw [hi] at hi'; cases hi'
    rw [hz] at hz'; cases hz'
    have hmax : sLen + m ≤ 140737488355328 := Nat.le_trans (Nat.le_mul_of_pos_right _ b0) hb
    have hfit := growslice_fits hg (by rw [← hby] at hb; exact hb)
    have hn : ¬ (sLen + m ≤ sCap) := by omega
    have h63' : ¬ (9223372036854775807 < ((sLen : Int) + (m : Int))) := by omega
    have h48' : ¬ (281474976710656 < Builtin.nextslicecap (sLen + m) sCap * i.bytes) := by omega
    have hf := run_firstCells_some (P := P) w.drew i.size m a2 m c2 news (by rw [hl, hk]) (by simpa using hnews)
    simp [Builtin.append_, run_underlying ht, sizeOf, typeInfo, zeroValue, hi, hz, Builtin.lenOf, hn, h63', h48', Question.forced, hf, ho, newRow, grownCap]
    congr 2
    rw [← List.append_toArray, Array.append_assoc]

/-- Noughts appended. -/
theorem appRuns_zeros {w : World} {t ti e k by_ : Nat} {kk kx : IntKind} {zv : Value} {i : TypeInfo} (hi : P.info? e = some i) (hk : i.size = k) (hby : i.bytes = by_) (hz : i.zero = some zv) (hzs : zv.cells.size = k) (k0 : 0 < k) (b0 : 0 < by_)
    (ht : P.underlying t = some (.slice e)) (hti : P.underlying ti = some (.int kk)) (ty : TypeId) (m : Nat) (hm : m * by_ ≤ 140737488355328)
    (h1 : ∀ u ∈ (Builtin.zeroCells zv.cells m).toList, u.oneCell' = true) : AppRuns P w #[t, ti] ty (.int kx m) e k by_ m (Builtin.zeroCells zv.cells m).toList := by
  have hmm : m ≤ 140737488355328 := Nat.le_trans (Nat.le_mul_of_pos_right _ b0) hm
  have hw : IntKind.i64.wrap (m : Int) = m := by rw [IntKind.wrap_i64]; omega
  have hneg : ¬ ((m : Int) < 0) := by omega
  have hbig : ¬ (281474976710656 < (m : Int) * (i.bytes : Int)) := by rw [← Int.natCast_mul, hby]; omega
  have hsn : i.size ≠ 0 := by omega
  have hl : (Builtin.zeroCells zv.cells m).toList.length = m * i.size := by rw [Array.length_toList, size_zeroCells, hzs, hk]
  have hna : (Builtin.zeroCells zv.cells m).toList.toArray = Builtin.zeroCells zv.cells m := by simp
  refine ⟨fun base n c hm0 hc => ?_, fun g sLen sCap cur e' fz hg hfz hroom hfit => ?_, fun base sLen sCap olds z' i' hi' hz' ho hg hb => ?_⟩
  · subst hm0
    have hw0 : IntKind.i64.wrap 0 = 0 := by rw [IntKind.wrap_i64]; rfl
    cases base <;> simp [Builtin.append_, run_underlying ht, run_underlying hti, sizeOf, typeInfo, hi, asInt, asIntOf, hw0, hc, storeCells]
  · by_cases hm0 : m = 0
    · subst hm0
      have hw0 : IntKind.i64.wrap 0 = 0 := by rw [IntKind.wrap_i64]; rfl
      have hz0 : (Builtin.zeroCells zv.cells 0).toList = [] := by simp [Builtin.zeroCells]
      have hself : w.setRow g cur = w := setRow_self' hg
      rw [hz0]
      simp only [Nat.add_zero, List.append_nil, List.length_nil, List.take_append_drop, Array.toArray_toList, hself]
      have hroom' : sLen ≤ sCap := by omega
      simp [Builtin.append_, run_underlying ht, run_underlying hti, sizeOf, typeInfo, hi, asInt, asIntOf, hw0, hroom', storeCells]
    · have hns : ¬ (m * i.size = 0) := Nat.mul_ne_zero hm0 hsn
      have hst := run_storeFree (P := P) g (sLen * i.size) e' fz (Builtin.zeroCells zv.cells m).toList 0 cur w hg hfz (by rw [← hk] at hfit; simpa using hfit) h1
      simp only [Nat.add_zero] at hst
      simp [Builtin.append_, run_underlying ht, run_underlying hti, sizeOf, typeInfo, zeroValue, hi, hz, asInt, asIntOf, hw, hneg, hbig, hroom, hns, hm0, hsn, Addr.add_lit, hst, hk]
      rw [if_neg (by rw [← hk]; exact hns)]
      rw [hk] at hst
      rw [hst]
      simp
  · rw [hi] at hi'; cases hi'
    rw [hz] at hz'; cases hz'
    have hmax : sLen + m ≤ 140737488355328 := Nat.le_trans (Nat.le_mul_of_pos_right _ b0) hb
    have hfit := growslice_fits hg (by rw [← hby] at hb; exact hb)
    have hn : ¬ (sLen + m ≤ sCap) := by omega
    have h63' : ¬ (9223372036854775807 < ((sLen : Int) + (m : Int))) := by omega
    have h48' : ¬ (281474976710656 < Builtin.nextslicecap (sLen + m) sCap * i.bytes) := by omega
    by_cases hm0 : m = 0
    · subst hm0
      have hw0 : IntKind.i64.wrap 0 = 0 := by rw [IntKind.wrap_i64]; rfl
      have hz0 : Builtin.zeroCells zv.cells 0 = #[] := by simp [Builtin.zeroCells]
      simp only [Nat.add_zero] at hn h63' h48' ⊢
      have h63'' : ¬ (9223372036854775807 < (sLen : Int)) := by omega
      simp [Builtin.append_, run_underlying ht, run_underlying hti, sizeOf, typeInfo, zeroValue, hi, hz, asInt, asIntOf, hw0, hn, h63'', h48', Question.forced, ho, newRow, grownCap, hz0]
    · have hns : ¬ (m * i.size = 0) := Nat.mul_ne_zero hm0 hsn
      simp [Builtin.append_, run_underlying ht, run_underlying hti, sizeOf, typeInfo, zeroValue, hi, hz, asInt, asIntOf, hw, hneg, hbig, hns, hm0, hsn, hn, h63', h48', Question.forced, ho, newRow, grownCap]

/-- New cells behind a row: whatever becomes of its block. -/
theorem append_main {G : Gh} {w : World} {at_ : Array TypeId} {xv : Value} {e k by_ tk : Nat} {z : List D} (he : ElemOk P e k by_ z) (ty : TypeId) (h : Rel w0 G st w) {xs ys : List (List D)} {v : Value}
    (hv : VR G (.row xs k tk) v) (hT : st.T tk = true) (news : List Value) (hf : Flat G ys k news)
    (R : AppRuns P w at_ ty xv e k by_ ys.length news)
    (hb : (xs.length + ys.length) * by_ ≤ 140737488355328) :
    ∃ v' w' G', (Builtin.append_ at_ ty #[v, xv]).run P w = .ok v' w' ∧ G.le G' ∧ Rel w0 G' ((st.setT tk false).setT G.nx true) w' ∧ VR G' (.row (xs ++ ys) k G.nx) v' := by
  obtain ⟨⟨i, zv, hi, hk, hby, hz, hzs, _⟩, k0, b0⟩ := he
  have hmax : xs.length + ys.length ≤ 140737488355328 := Nat.le_trans (Nat.le_mul_of_pos_right _ b0) hb
  have htk0 : tk ≠ 0 := fun e0 => by rw [e0, h.T0] at hT; cases hT
  have hnlen : news.length = ys.length * i.size := by rw [hf.len, hk]
  -- what a new block comes to
  have hgrown : ∀ (olds : List Value) (w1 : World) (cp : Nat), Flat G xs k olds → xs.length + ys.length ≤ cp → cp ≤ maxLen → w1 = w.drew.alloc (.cells (olds.toArray ++ news.toArray ++ Builtin.zeroCells zv.cells (cp - (xs.length + ys.length))) e) →
      ∃ G', G.le G' ∧ Rel w0 G' ((st.setT tk false).setT G.nx true) w1 ∧ VR G' (.row (xs ++ ys) k G.nx) (.slice (some ⟨w.heap.size, 0, none⟩) (xs.length + ys.length) cp) := by
    intro olds w1 cp hfo hcp hcm hw1
    have hrel : Rel w0 G (st.setT tk false) w.drew := (h.drawn (w.drawn + 1)).forget (fun id cs e1 => e1) (fun t e1 => by
      by_cases htt : t = tk
      · simp [htt] at e1
      · simpa [htt] using e1)
    let cl : List Value := olds ++ news ++ (Builtin.zeroCells zv.cells (cp - (xs.length + ys.length))).toList
    have hfl := hfo.append hf
    have hlen : (olds ++ news).length = (xs.length + ys.length) * k := by rw [hfl.len]; simp
    have hcl : cl.length = cp * k := by
      simp only [cl, List.length_append, Array.length_toList, size_zeroCells, hzs]
      rw [← List.length_append, hlen, ← Nat.add_mul]; congr 1; omega
    obtain ⟨G', hle, hr, hnx, htau, hM⟩ := hrel.fresh (w1 := w1) cl e ((xs.length + ys.length) * k) (by rw [hcl]; exact Nat.mul_le_mul_right _ hcp)
      (by rw [hw1]; show w.heap.push _ = w.heap.push _; congr 2; simp [cl]) (by rw [hw1]; rfl) (by rw [hw1]; rfl) (by rw [hw1]; rfl)
    refine ⟨G', hle, hr, ?_⟩
    have hlen2 : (xs ++ ys).length = xs.length + ys.length := by simp
    rw [← hlen2]
    refine VR.ofFlat (hfl.mono hle) (fun j u hj => ?_) (by omega) hcm (fun _ => ⟨by rw [hnx]; exact Nat.lt_succ_self _, by rw [htau]; rfl, by rw [htau, hlen2], by rw [htau, hcl]⟩)
    rw [add_plain]
    have hjl := (List.getElem?_eq_some_iff.1 hj).1
    exact hM j u (by rw [← hlen]; exact hjl) (by simp only [cl]; rw [List.getElem?_append_left hjl]; exact hj)
  cases hv with
  | rowNil =>
    by_cases hm : ys.length = 0
    · have hy : ys = [] := List.eq_nil_of_length_eq_zero hm
      subst hy
      have hn : news = [] := List.eq_nil_of_length_eq_zero (by rw [hnlen]; simp)
      subst hn
      obtain ⟨G', hle, hr, hnx, h0⟩ := (h.forget (s' := st.setT tk false) (fun id cs e1 => e1) (fun t e1 => by
        by_cases htt : t = tk
        · simp [htt] at e1
        · simpa [htt] using e1)).nilRight 0
      exact ⟨.slice none 0 0, w, G', R.none none 0 0 rfl (Nat.le_refl _), hle, hr, .rowNil _ _ (.inr (by rw [hnx]; exact Nat.lt_succ_self _))⟩
    · have hr := R.grow none 0 0 [] zv i hi hz (by simp [Builtin.firstCells, loadCells, loadCellsFrom]) (by omega) (by simpa using hb)
      have e0 : ([] : List Value).toArray = #[] := rfl
      simp only [Nat.zero_add, e0, Array.empty_append, List.nil_append] at hr
      have hge := grownCap_ge w ys.length 0 e
      have hcm := grownCap_le_maxLen w ys.length 0 e (by unfold maxLen; omega)
      obtain ⟨G', hle, hrel, hvr⟩ := hgrown [] _ (grownCap w ys.length 0 e) (Flat.nil G k) (by simpa using hge) hcm rfl
      refine ⟨_, _, G', hr, hle, ?_, ?_⟩
      · simpa using hrel
      · simpa using hvr
  | row _ _ _ a nn c u hn hc hm63 hkk hcell h1 hvv htt =>
    obtain ⟨e1, e2, e3, e4, us, hfx, hMx⟩ := (VR.row (G := G) xs k tk a nn c u hn hc hm63 hkk hcell h1 hvv htt).flat
    obtain ⟨hlt, rfl, hused, htot⟩ := e4 htk0
    subst hn
    by_cases hroom : xs.length + ys.length ≤ c
    · -- there is room
      by_cases hc0 : c = 0
      · -- a row without cells
        have hx0 : xs = [] := List.eq_nil_of_length_eq_zero (by omega)
        have hy0 : ys = [] := List.eq_nil_of_length_eq_zero (by omega)
        subst hx0; subst hy0; subst hc0
        have hn : news = [] := List.eq_nil_of_length_eq_zero (by rw [hnlen]; simp)
        subst hn
        obtain ⟨G', hle, hr, hnx, h0⟩ := (h.forget (s' := st.setT tk false) (fun id cs e1 => e1) (fun t e1 => by
          by_cases htt : t = tk
          · simp [htt] at e1
          · simpa [htt] using e1)).nilRight (G.tau tk).1
        refine ⟨.slice (some ⟨(G.tau tk).1, 0, none⟩) 0 0, w, G', R.none (some ⟨(G.tau tk).1, 0, none⟩) 0 0 rfl (Nat.le_refl _), hle, hr, ?_⟩
        · refine VR.ofFlat (xs := []) (k := k) (us := []) (Flat.nil G' k) (fun j u h => by simp at h) (Nat.le_refl _) (by simp) (fun _ => ⟨by rw [hnx]; exact Nat.lt_succ_self _, by rw [h0], by rw [h0]; simp, by rw [h0]; simp⟩)
      · have htot0 : (G.tau tk).2.2 ≠ 0 := by rw [htot]; exact Nat.mul_ne_zero hc0 (by omega)
        obtain ⟨cur, ⟨e', fz⟩, hcur, hcurlen, hfz⟩ := h.tk tk hT htot0
        simp only at hcur hfz
        have hcl : c * k ≤ cur.length := by rw [← htot]; exact hcurlen
        have hfit : xs.length * i.size + news.length ≤ cur.length := by rw [hnlen, hk, ← Nat.add_mul]; exact Nat.le_trans (Nat.mul_le_mul_right _ hroom) hcl
        have hr := R.room (G.tau tk).1 xs.length c cur.toArray e' fz hcur (by simpa using hfz) hroom (by rw [hk] at hfit; simpa using hfit)
        simp only [] at hr
        let c' : List Value := cur.take (xs.length * k) ++ news ++ cur.drop (xs.length * k + news.length)
        have hc'l : c'.length = cur.length := by simp only [c', List.length_append, List.length_take, List.length_drop]; rw [hk] at hfit; omega
        have hcx : cur.take (xs.length * k) = us := by
          apply List.ext_getElem?
          intro j
          rw [List.getElem?_take]
          split
          · rename_i hj
            have hju : j < us.length := by rw [hfx.len]; exact hj
            have h2 := h.mem _ _ (hMx j _ (List.getElem?_eq_getElem hju))
            rw [add_plain, cell_heap hcur] at h2
            rw [h2, List.getElem?_eq_getElem hju]
          · rename_i hj
            rw [List.getElem?_eq_none (by rw [hfx.len]; omega)]
        have hw' : (w.setRow (G.tau tk).1 c'.toArray).heap[(G.tau tk).1]? = some (.cells c'.toArray e' fz) := setRow_heap w _ cur.toArray _ e' _ hcur
        obtain ⟨G', hle, hrel, hnx, htau, hM⟩ := h.grow (w1 := w.setRow (G.tau tk).1 c'.toArray) hT (b := (G.tau tk).1) (used := xs.length * k) (total := c * k) (by rw [← hused, ← htot]) (by rw [← htot]; exact htot0)
          cur c' (e', fz) hfz hcur hw' hc'l (fun j hj => by
            simp only [c', List.append_assoc]
            rw [List.getElem?_append_left (by simp; have := hfit; rw [hk] at this; omega), List.getElem?_take, if_pos hj])
          (fun q hq => setRow_other w _ q _ hq) (by simp) rfl rfl rfl ((xs.length + ys.length) * k) (Nat.mul_le_mul_right _ (by omega)) (Nat.mul_le_mul_right _ hroom)
        refine ⟨.slice (some ⟨(G.tau tk).1, 0, none⟩) (xs.length + ys.length) c, _, G', ?_, hle, hrel, ?_⟩
        · rw [hr]
        · have hfl := hfx.append hf
          have hlen2 : (xs ++ ys).length = xs.length + ys.length := by simp
          rw [← hlen2]
          refine VR.ofFlat (hfl.mono hle) (fun j u hj => ?_) (by omega) hm63 (fun _ => ⟨by rw [hnx]; exact Nat.lt_succ_self _, by rw [htau], by rw [htau, hlen2], by rw [htau]⟩)
          rw [add_plain]
          have hjl := (List.getElem?_eq_some_iff.1 hj).1
          refine hM j u (by rw [hfl.len, hlen2] at hjl; exact hjl) ?_
          simp only [c', hcx]
          rw [List.getElem?_append_left hjl]; exact hj
    · -- a new block
      have holds : ∀ j u, us[j]? = some u → w.cell? ((⟨(G.tau tk).1, 0, none⟩ : Addr).add j) = some u := fun j u hj => h.mem _ _ (hMx j u hj)
      have hr := R.grow (some ⟨(G.tau tk).1, 0, none⟩) xs.length c us zv i hi hz (by rw [hk]; exact run_firstCells_some (P := P) w.drew k xs.length _ _ _ us hfx.len (by simpa using holds)) (by omega) hb
      have hge := grownCap_ge w (xs.length + ys.length) c e
      have hcm := grownCap_le_maxLen w (xs.length + ys.length) c e (by unfold maxLen; omega)
      obtain ⟨G', hle, hrel, hvr⟩ := hgrown us _ (grownCap w (xs.length + ys.length) c e) hfx hge hcm rfl
      exact ⟨_, _, G', hr, hle, hrel, hvr⟩

theorem St.setT_back {s : St} {t : Nat} (h : s.T t = false) : (s.setT t true).setT t false = s := by
  unfold St.setT
  congr 1
  funext i
  by_cases hi : i = t
  · subst hi; simp [h]
  · simp [hi]

/-- 'append(s, x...)': s a row with its right. -/
theorem zv_append {t e k by_ tk tk2 : Nat} {z : List D} {s x : Operand} {xs ys : List (List D)} {K : D → St → Prop} (hop : o.op = .call { callee := .builtin .append, args := #[s, x], argTypes := #[t, t] })
    (he : ElemOk P e k by_ z) (ht : P.underlying t = some (.slice e)) (hs : ev env s = some (.row xs k tk)) (hT : st.T tk = true) (hx : ev env x = some (.row ys k tk2)) (hb : (xs.length + ys.length) * by_ ≤ 140737488355328)
    (h : ∀ t', st.T t' = false → t' ≠ 0 → K (.row (xs ++ ys) k t') ((st.setT tk false).setT t' true)) : ZVal P w0 n o env st K := by
  intro G w a hr her
  have hvs := ev_ok her hs
  have hvx := ev_ok her hx
  generalize hus : a.eval s = us at hvs
  generalize hux : a.eval x = ux at hvx
  have hrun : ∀ {v' w'}, (Builtin.append_ #[t, t] o.type #[us, ux]).run P w = .ok v' w' → (execOp a.eval o).run P w = .ok (.value v') w' := fun hq => by
    simp [execOp, hop, resolve, invoke, builtin, hus, hux, hq]
  have fin : ∀ (a2 : Addr) (c2 : Nat) (news : List Value), Flat G ys k news → (∀ j u, news[j]? = some u → w.cell? (a2.add j) = some u) → ux = .slice (some a2) ys.length c2 →
      ∃ v w' G' d st', (execOp a.eval o).run P w = .ok (.value v) w' ∧ G.le G' ∧ Rel w0 G' st' w' ∧ VR G' d v ∧ K d st' := fun a2 c2 news hf hn e1 => by
    obtain ⟨v', w', G', h1, h2, h3, h4⟩ := append_main he o.type hr hvs hT news hf (appRuns_slice he ht o.type a2 ys.length c2 news hf.len hn hf.one) hb
    rw [← e1] at h1
    exact ⟨v', w', G', _, _, hrun h1, h2, h3, h4, h _ (hr.nxT _ (Nat.le_refl _)) (by have := hr.nx0; omega)⟩
  cases hvx with
  | row _ _ _ a2 nn c u hn hc hm63 hkk hcell h1 hvv htt =>
    obtain ⟨e1, e2, e3, e4, news, hf, hM⟩ := (VR.row (G := G) ys k tk2 a2 nn c u hn hc hm63 hkk hcell h1 hvv htt).flat
    exact fin a2 c news hf (fun j u hj => hr.mem _ _ (hM j u hj)) (by rw [e1])
  | rowNil =>
    -- nothing is appended
    obtain ⟨⟨i, zv, hi, hk, hby, hz, hzs, _⟩, k0, b0⟩ := he
    have htk0 : tk ≠ 0 := fun e0 => by rw [e0, hr.T0] at hT; cases hT
    have hf0 : ∀ (q : Nat), (st.setT tk false).T q = true → st.T q = true := fun q e1 => by
      by_cases htt : q = tk
      · simp [htt] at e1
      · simpa [htt] using e1
    have hK := h G.nx (hr.nxT _ (Nat.le_refl _)) (by have := hr.nx0; omega)
    rw [List.append_nil] at hK
    cases hvs with
    | rowNil =>
      obtain ⟨G', hle, hrel, hnx, h0⟩ := (hr.forget (s' := st.setT tk false) (fun id cs e1 => e1) hf0).nilRight 0
      exact ⟨.slice none 0 0, w, G', _, _, hrun (by simp [Builtin.append_, run_underlying ht, sizeOf, typeInfo, hi, Builtin.lenOf, Builtin.firstCells]), hle, hrel, .rowNil _ _ (.inr (by rw [hnx]; exact Nat.lt_succ_self _)), hK⟩
    | row _ _ _ a1 nn c u hn hc hm63 hkk hcell h1 hvv htt =>
      obtain ⟨e1, e2, e3, e4, us1, hf1, hM1⟩ := (VR.row (G := G) xs k tk a1 nn c u hn hc hm63 hkk hcell h1 hvv htt).flat
      obtain ⟨hlt, rfl, hused, htot⟩ := e4 htk0
      have hrun' := hrun (v' := .slice (some ⟨(G.tau tk).1, 0, none⟩) nn c) (w' := w) (by simp [Builtin.append_, run_underlying ht, sizeOf, typeInfo, hi, Builtin.lenOf, Builtin.firstCells, hc, storeCells])
      by_cases hc0 : c = 0
      · subst hc0
        have hx0 : xs = [] := List.eq_nil_of_length_eq_zero (by omega)
        subst hx0
        obtain ⟨G', hle, hrel, hnx, h0⟩ := (hr.forget (s' := st.setT tk false) (fun id cs e1 => e1) hf0).nilRight (G.tau tk).1
        have hn0 : nn = 0 := by simpa using e1
        subst hn0
        exact ⟨_, w, G', _, _, hrun', hle, hrel, VR.ofFlat (xs := []) (k := k) (us := []) (Flat.nil G' k) (fun j u h => by simp at h) (Nat.le_refl _) (by simp) (fun _ => ⟨by rw [hnx]; exact Nat.lt_succ_self _, by rw [h0], by rw [h0]; simp, by rw [h0]; simp⟩), hK⟩
      · have htot0 : (G.tau tk).2.2 ≠ 0 := by rw [htot]; exact Nat.mul_ne_zero hc0 (by omega)
        obtain ⟨cur, e', hcur, hcurlen, hfz⟩ := hr.tk tk hT htot0
        obtain ⟨G', hle, hrel, hnx, htau, hM⟩ := hr.grow (w1 := w) hT (b := (G.tau tk).1) (used := nn * k) (total := c * k) (by rw [← hused, ← htot]) (by rw [← htot]; exact htot0)
          cur cur e' hfz hcur hcur rfl (fun j hj => rfl) (fun q hq => rfl) (Nat.le_refl _) rfl rfl rfl (nn * k) (Nat.le_refl _) (Nat.mul_le_mul_right _ hc)
        refine ⟨_, w, G', _, _, hrun', hle, hrel, ?_, hK⟩
        rw [e1] at hc ⊢
        refine VR.ofFlat (hf1.mono hle) (fun j u hj => hle.M _ _ (hM1 j u hj)) hc hm63 (fun _ => ⟨by rw [hnx]; exact Nat.lt_succ_self _, by rw [htau], by rw [htau, e1], by rw [htau]⟩)

end
end Go.Proofs.Zm
/- The framework's eighth part: literals, make, bytes and strings, the least and the greatest. -/
namespace Go.Proofs.Zm
open Go.RowKit
set_option linter.unusedVariables false
set_option linter.unusedSimpArgs false

theorem foldl_set : ∀ (l : List Value) (j0 off : Nat) (cs : Array Value), off + j0 + l.length ≤ cs.size →
    (l.zipIdx j0).foldl (fun cs (p : Value × Nat) => cs.setIfInBounds (off + p.2) p.1) cs = (cs.toList.take (off + j0) ++ l ++ cs.toList.drop (off + j0 + l.length)).toArray
  | [], j0, off, cs, h => by simp
  | v :: l, j0, off, cs, h => by
    simp only [List.length_cons] at h
    simp only [List.zipIdx_cons, List.foldl_cons]
    rw [foldl_set l (j0 + 1) off _ (by simp; omega)]
    have hlt : off + j0 < cs.toList.length := by simp; omega
    apply congrArg List.toArray
    simp only [Array.toList_setIfInBounds]
    rw [List.drop_set_of_lt (by omega)]
    have h1 : (cs.toList.set (off + j0) v).take (off + (j0 + 1)) = cs.toList.take (off + j0) ++ [v] := by
      have : off + (j0 + 1) = off + j0 + 1 := by omega
      rw [this, List.take_succ_eq_append_getElem (by simpa using hlt), List.take_set_of_le (Nat.le_refl _)]
      simp
    rw [h1]
    simp only [List.length_cons, List.append_assoc, List.singleton_append]
    have : off + (j0 + 1) + l.length = off + j0 + (l.length + 1) := by omega
    rw [this]

theorem fill_all (k : Nat) : ∀ (vs : List Value) (s : Nat) (pre rest : List Value) (cells : Array Value), (∀ v ∈ vs, v.cells.size = k) → cells.toList = pre ++ rest → pre.length = s * k → rest.length = vs.length * k →
    Instr.fill (fun i => some (i * k, k)) cells ((vs.zipIdx s).map fun p => (p.2, p.1)) = some (pre ++ vs.flatMap (·.cells.toList)).toArray
  | [], s, pre, rest, cells, _, h1, _, h3 => by
    have : rest = [] := List.eq_nil_of_length_eq_zero (by simpa using h3)
    subst this
    simp [Instr.fill, ← h1]
  | v :: vs, s, pre, rest, cells, h0, h1, h2, h3 => by
    have hv : v.cells.size = k := h0 v (by simp)
    have hvl : v.cells.toList.length = k := by rw [Array.length_toList, hv]
    have hsz : cells.size = pre.length + rest.length := by rw [← Array.length_toList, h1, List.length_append]
    have h3' : rest.length = vs.length * k + k := by rw [h3]; simp [Nat.add_mul]
    simp only [List.zipIdx_cons, List.map_cons]
    unfold Instr.fill
    simp only []
    have hc : ¬ (v.cells.size ≠ k || s * k + v.cells.size > cells.size) = true := by simp [hv]; omega
    rw [if_neg hc]
    have hfold : v.cells.zipIdx.foldl (fun cs (p : Value × Nat) => cs.setIfInBounds (s * k + p.2) p.1) cells = ((pre ++ v.cells.toList) ++ rest.drop k).toArray := by
      rw [← Array.foldl_toList, Array.toList_zipIdx, foldl_set _ 0 (s * k) cells (by rw [hvl]; omega)]
      rw [h1, Nat.add_zero, ← h2, List.take_left, hvl]
      have : List.drop (pre.length + k) (pre ++ rest) = rest.drop k := by
        rw [List.drop_append, List.drop_eq_nil_of_le (by omega)]
        simp
      rw [this]
    have := fill_all k vs (s + 1) (pre ++ v.cells.toList) (rest.drop k) ((pre ++ v.cells.toList) ++ rest.drop k).toArray (fun u hu => h0 u (by simp [hu])) rfl (by rw [List.length_append, hvl, h2, Nat.add_mul]; omega) (by rw [List.length_drop, h3']; omega)
    rw [← hfold] at this
    rw [this]
    simp

section
variable {P : Program} {w0 : World} {n : Nat} {env : Env} {st : St} {o : Oper}

/-- A slice literal whose elements are all told. -/
theorem zv_buildSlice {t e k by_ len : Nat} {z : List D} {xs : List Operand} {ds : List D} {K : D → St → Prop} (hop : o.op = .buildSlice t len (xs.zipIdx.map fun p => (p.2, p.1)).toArray) (hlen : xs.length = len)
    (he : ElemOk P e k by_ z) (ht : P.underlying t = some (.slice e)) (hx : evs env xs = some ds) (hk : ∀ d ∈ ds, (cellsD d).length = k ∧ ∀ c ∈ cellsD d, oneD c = true) (hsmall : len * k ≤ 2 ^ 24)
    (h : ∀ t', st.T t' = false → t' ≠ 0 → K (.row (ds.map cellsD) k t') (st.setT t' true)) : ZVal P w0 n o env st K := by
  intro G w a hr her
  obtain ⟨⟨i, zv, hi, hik, hby, hz, hzs, hzz⟩, k0, b0⟩ := he
  have hvs := evs_ok her hx
  have hdl : ds.length = len := by rw [hvs.1, List.length_map, hlen]
  have hcs : ∀ v ∈ xs.map a.eval, v.cells.size = k := fun v hv => by
    obtain ⟨j, hj⟩ := List.mem_iff_getElem?.1 hv
    have hlt : j < ds.length := by rw [hvs.1]; exact (List.getElem?_eq_some_iff.1 hj).1
    have := cellsD_ok (hvs.2 j _ v (List.getElem?_eq_getElem hlt) hj)
    rw [← Array.length_toList, ← this.1]; exact (hk _ (List.getElem_mem hlt)).1
  have hparts : ((xs.zipIdx.map fun p => (p.2, p.1)).toArray.map fun (p : Nat × Operand) => (p.1, a.eval p.2)).toList = ((xs.map a.eval).zipIdx 0).map fun p => (p.2, p.1) := by
    simp [List.zipIdx_map, Function.comp_def]
  have hcellsFlat : ∀ (ds : List D) (vs : List Value), VRs G ds vs → (∀ d ∈ ds, (cellsD d).length = k ∧ ∀ c ∈ cellsD d, oneD c = true) → Flat G (ds.map cellsD) k (vs.flatMap (·.cells.toList)) := by
    intro ds
    induction ds with
    | nil => intro vs hv _; have : vs = [] := List.eq_nil_of_length_eq_zero hv.1.symm; subst this; exact Flat.nil G k
    | cons d ds ih =>
      intro vs hv hk
      cases vs with
      | nil => have := hv.1; simp at this
      | cons v vs =>
        have h1 := cellsD_ok (hv.2 0 d v rfl rfl)
        have h2 := Flat.one1 h1 (hk d (by simp)).2
        rw [(hk d (by simp)).1] at h2
        have h3 := ih vs ⟨by have := hv.1; simpa using this, fun j d' u' a b => hv.2 (j + 1) d' u' (by simpa using a) (by simpa using b)⟩ (fun d' hd => hk d' (by simp [hd]))
        simpa using h2.append h3
  have hflat := hcellsFlat ds _ hvs hk
  by_cases hpos : len * i.size = 0
  · have hl0 : len = 0 := by rcases Nat.mul_eq_zero.1 hpos with h | h; exact h; omega
    subst hl0
    have hx0 : xs = [] := List.eq_nil_of_length_eq_zero hlen
    subst hx0
    have hd0 : ds = [] := List.eq_nil_of_length_eq_zero hdl
    subst hd0
    have hrun : (execOp a.eval o).run P w = .ok (.value (.slice (some ⟨w.heap.size, 0, none⟩) 0 0)) (w.alloc (.cells #[] e)) := by
      simp [execOp, hop, Instr.buildSlice, run_underlying ht, sizeOf, typeInfo, hi, Instr.fill, newRow, Array.eq_empty_of_size_eq_zero (show (Array.range 0).size = 0 by simp)]
    obtain ⟨G', hle, hrel, hnx, htau, hM⟩ := hr.fresh (w1 := w.alloc (.cells #[] e)) [] e 0 (Nat.le_refl _) rfl rfl rfl rfl
    refine ⟨_, _, G', _, _, hrun, hle, hrel, ?_, h _ (hr.nxT _ (Nat.le_refl _)) (by have := hr.nx0; omega)⟩
    exact VR.ofFlat (xs := []) (k := k) (us := []) (Flat.nil G' k) (fun j u h => by simp at h) (Nat.le_refl _) (by simp) (fun _ => ⟨by rw [hnx]; exact Nat.lt_succ_self _, by rw [htau], by rw [htau]; simp, by rw [htau]; simp⟩)
  · have hfill := fill_all k (xs.map a.eval) 0 [] (((Array.range (len * k)).map (zv.cells[· % zv.cells.size]!)).toList) ((Array.range (len * k)).map (zv.cells[· % zv.cells.size]!)) hcs rfl (by simp) (by simp [hlen])
    have hrun : (execOp a.eval o).run P w = .ok (.value (.slice (some ⟨w.heap.size, 0, none⟩) len len)) (w.alloc (.cells ((xs.map a.eval).flatMap (·.cells.toList)).toArray e)) := by
      have hsm : ¬ (len * i.size > 2 ^ 24) := by rw [hik]; omega
      have hb : (Instr.buildSlice t len ((xs.zipIdx.map fun p => (p.2, p.1)).toArray.map fun (p : Nat × Operand) => (p.1, a.eval p.2))).run P w = .ok (.slice (some ⟨w.heap.size, 0, none⟩) len len) (w.alloc (.cells ((xs.map a.eval).flatMap (·.cells.toList)).toArray e)) := by
        unfold Instr.buildSlice
        simp only [Sem.run_bind, run_underlying ht, Result.andThen_ok, sizeOf, typeInfo, run_program, hi, Sem.run_pure, hik]
        rw [if_neg (by omega)]
        rw [hik] at hpos
        simp only [Sem.run_bind, Sem.run_pure, Result.andThen_ok, if_neg hpos, zeroValue, typeInfo, run_program, hi, hz]
        rw [hparts, hfill]
        simp [newRow]
      simp only [execOp, hop, Sem.run_bind]
      rw [hb]; rfl
    have hfl : ((xs.map a.eval).flatMap (·.cells.toList)).length = len * k := by rw [hflat.len, List.length_map, hdl]
    obtain ⟨G', hle, hrel, hnx, htau, hM⟩ := hr.fresh (w1 := w.alloc (.cells ((xs.map a.eval).flatMap (·.cells.toList)).toArray e)) _ e (len * k) (by rw [hfl]; exact Nat.le_refl _) rfl rfl rfl rfl
    refine ⟨_, _, G', _, _, hrun, hle, hrel, ?_, h _ (hr.nxT _ (Nat.le_refl _)) (by have := hr.nx0; omega)⟩
    have hl2 : (ds.map cellsD).length = len := by rw [List.length_map, hdl]
    have hmx : len ≤ maxLen := by
      have : len * 1 ≤ len * k := Nat.mul_le_mul_left _ k0
      simp only [maxLen]; omega
    have := VR.ofFlat (c := len) (t := G.nx) (hflat.mono hle) (fun j u hj => by rw [add_plain]; exact hM j u (by rw [← hfl]; exact (List.getElem?_eq_some_iff.1 hj).1) hj) (by rw [hl2]; exact Nat.le_refl _) hmx (fun _ => ⟨by rw [hnx]; exact Nat.lt_succ_self _, by rw [htau], by rw [htau, hl2], by rw [htau, hfl]⟩)
    rw [hl2] at this
    exact this

/-- make([]T, m), with room for c: only read, or appended to. -/
theorem zv_make {t e k by_ : Nat} {z : List D} {x y : Operand} {kx ky : IntKind} {m c : Int} {K : D → St → Prop} (hop : o.op = .makeSlice t x y) (he : ElemOk P e k by_ z) (hz1 : ∀ d ∈ z, oneD d = true) (ht : P.underlying t = some (.slice e))
    (hx : ev env x = some (.v (.int kx m))) (hy : ev env y = some (.v (.int ky c))) (h0 : 0 ≤ m) (hmc : m ≤ c) (hb : by_ * c.toNat ≤ 281474976710656)
    (h : ∀ t', st.T t' = false → t' ≠ 0 → K (.row (List.replicate m.toNat z) k t') (st.setT t' true)) : ZVal P w0 n o env st K := by
  intro G w a hr her
  obtain ⟨⟨i, zv, hi, hik, hby, hz, hzs, hzz⟩, k0, b0⟩ := he
  have ex := (ev_ok her hx).eq_v
  have ey := (ev_ok her hy).eq_v
  obtain ⟨c', rfl⟩ := Int.eq_ofNat_of_zero_le (show 0 ≤ c by omega)
  obtain ⟨m', rfl⟩ := Int.eq_ofNat_of_zero_le h0
  simp only [Int.toNat_natCast] at hb h
  have hcb : c' ≤ 281474976710656 := Nat.le_trans (Nat.le_mul_of_pos_left _ b0) hb
  have hzc := cellsD_ok (VR.v (G := G) zv)
  rw [hzz] at hzc
  have hzl : z.length = k := by rw [hzc.1, Array.length_toList, hzs]
  have hrun0 := run_make (P := P) w t e i zv ht hi hz kx ky (m' : Int) (c' : Int) h0 hmc (by rw [hby, ← Int.natCast_mul]; omega) (by omega)
  simp only [Int.toNat_natCast, hik] at hrun0
  have hrun : (execOp a.eval o).run P w = .ok (.value (.slice (some ⟨w.heap.size, 0, none⟩) m' c')) (w.alloc (.cells (madeCells zv.cells (c' * k)) e)) := by
    simp only [execOp, hop, ex, ey, Sem.run_bind, hrun0]; rfl
  have hcell : ∀ q, q < c' * k → (madeCells zv.cells (c' * k)).toList[q]? = zv.cells.toList[q % k]? := fun q hq => by
    simp only [madeCells, Array.toList_map, Array.toList_range, List.getElem?_map, List.getElem?_range hq, Option.map_some]
    have hlt : q % zv.cells.size < zv.cells.size := Nat.mod_lt _ (by omega)
    rw [Array.getElem?_toList, ← hzs, Array.getElem?_eq_getElem hlt, getElem!_pos zv.cells _ hlt]
  have hml : (madeCells zv.cells (c' * k)).toList.length = c' * k := by simp [madeCells]
  have hmck : m' * k ≤ c' * k := Nat.mul_le_mul_right _ (by omega)
  have hflat : Flat G (List.replicate m' z) k ((madeCells zv.cells (c' * k)).toList.take (m' * k)) := by
    refine ⟨by rw [List.length_take, hml, List.length_replicate]; omega, fun i x hx => ?_, fun u hu => ?_, fun i x j d hx hj => ?_⟩
    · rw [List.getElem?_replicate] at hx
      split at hx
      · cases hx; exact hzl
      · cases hx
    · obtain ⟨q, hq⟩ := List.mem_iff_getElem?.1 hu
      rw [List.getElem?_take] at hq
      split at hq
      · rename_i hql
        rw [hcell q (by omega)] at hq
        have hqz : q % k < z.length := by rw [hzl]; exact Nat.mod_lt _ k0
        exact oneD_ok (hzc.2 (q % k) _ u (List.getElem?_eq_getElem hqz) hq) (hz1 _ (List.getElem_mem hqz))
      · cases hq
    · rw [List.getElem?_replicate] at hx
      split at hx
      · rename_i hi
        cases hx
        have hjk : j < k := by rw [← hzl]; exact (List.getElem?_eq_some_iff.1 hj).1
        have hlt : i * k + j < m' * k := by
          have : (i + 1) * k ≤ m' * k := Nat.mul_le_mul_right _ hi
          rw [Nat.add_mul] at this; omega
        have h2 : (i * k + j) % k = j := by rw [Nat.mul_comm, Nat.mul_add_mod]; exact Nat.mod_eq_of_lt hjk
        have hjc : j < zv.cells.toList.length := by rw [Array.length_toList, hzs]; exact hjk
        refine ⟨zv.cells.toList[j], ?_, hzc.2 j d _ hj (List.getElem?_eq_getElem hjc)⟩
        rw [List.getElem?_take, if_pos hlt, hcell _ (by omega), h2, List.getElem?_eq_getElem hjc]
      · cases hx
  obtain ⟨G', hle, hrel, hnx, htau, hM⟩ := hr.fresh (w1 := w.alloc (.cells (madeCells zv.cells (c' * k)) e)) (madeCells zv.cells (c' * k)).toList e (m' * k) (by rw [hml]; exact hmck) (by show w.heap.push _ = w.heap.push _; congr 2) rfl rfl rfl
  refine ⟨_, _, G', _, _, hrun, hle, hrel, ?_, h _ (hr.nxT _ (Nat.le_refl _)) (by have := hr.nx0; omega)⟩
  have hl2 : (List.replicate m' z).length = m' := by simp
  have := VR.ofFlat (c := c') (t := G.nx) (hflat.mono hle) (fun j u hj => by
    rw [add_plain]
    rw [List.getElem?_take] at hj
    split at hj
    · rename_i hjl; exact hM j u hjl hj
    · cases hj) (by rw [hl2]; omega) (by simp only [maxLen]; omega) (fun _ => ⟨by rw [hnx]; exact Nat.lt_succ_self _, by rw [htau], by rw [htau, hl2], by rw [htau, hml]⟩)
  rw [hl2] at this
  exact this

/-- Bytes, as a row's elements. -/
def bytesD (l : List UInt8) : List (List D) := l.map fun b => [.v (.int .u8 (b.toNat : Int))]
@[simp] theorem bytesD_length (l : List UInt8) : (bytesD l).length = l.length := by simp [bytesD]
@[simp] theorem bytesD_append (l m : List UInt8) : bytesD (l ++ m) = bytesD l ++ bytesD m := by simp [bytesD]
@[simp] theorem bytesD_nil : bytesD [] = [] := rfl
theorem bytesD_getD (l : List UInt8) (k : Nat) (h : k < l.length) : (bytesD l).getD k [] = [.v (.int .u8 ((l[k]).toNat : Int))] := by
  rw [getD_in (by simpa using h)]; simp [bytesD]

/-- string(b). -/
theorem zp_toStr {t u e : TypeId} {x : Operand} {l : List UInt8} {tk : Nat} (hop : o.op = .convert t u x) (ht : P.underlying t = some (.slice e)) (he : P.underlying e = some (.int .u8)) (hu : P.underlying u = some .string)
    (hx : ev env x = some (.row (bytesD l) 1 tk)) : ZPure P o env (.v (.string ⟨l.toArray⟩)) := fun G n a her => by
  have hv := ev_ok her hx
  generalize hux : a.eval x = ux at hv
  refine ⟨_, .v _, fun w hw => ?_⟩
  have hrun : ∀ {v' w'}, (convert t u ux).run P w = .ok v' w' → (execOp a.eval o).run P w = .ok (.value v') w' := fun hq => by
    simp [execOp, hop, hux, hq]
  cases l with
  | nil =>
    cases hv with
    | rowNil => exact hrun (run_convert_bytes_nil w t e ht he 0 0 u hu)
    | row _ _ _ a1 nn c u1 hn hc hm63 hkk hcell h1 hvv htt =>
      have : nn = 0 := by simpa using hn.symm
      subst this
      have := run_convert_bytes_back (P := P) w t u e a1 c [] ht he hu (fun j hj => by simp at hj)
      exact hrun (by simpa using this)
  | cons b l =>
    cases hv with
    | row _ _ _ a1 nn c u1 hn hc hm63 hkk hcell h1 hvv htt =>
      have hn' : nn = (b :: l).length := by simpa using hn.symm
      subst hn'
      exact hrun (run_convert_bytes_back (P := P) w t u e a1 c (b :: l) ht he hu (fun j hj => by
        have h2 := hw _ _ (hcell j 0 hj (by omega))
        rw [Nat.mul_one, Nat.add_zero] at h2
        rw [h2]
        have h3 := hvv j [.v (.int .u8 ((b :: l)[j].toNat : Int))] 0 _ (by simp only [bytesD, List.getElem?_map, List.getElem?_eq_getElem hj, Option.map_some]) rfl
        rw [h3.eq_v]))

/-- A literal of bytes that came of a string: it may not be appended to in place any more. -/
theorem zv_conv_bytes {t e : TypeId} {x : Operand} {xs : List (List D)} {k tk : Nat} {K : D → St → Prop} (hop : o.op = .convert t t x) (ht : P.underlying t = some (.slice e)) (he : P.underlying e = some (.int .u8)) (hx : ev env x = some (.row xs k tk)) (hT : st.T tk = true)
    (hk : 0 < k) (hne : xs ≠ []) (h : K (.row xs k 0) (st.setT tk false)) : ZVal P w0 n o env st K := by
  intro G w a hr her
  have hv := ev_ok her hx
  generalize hux : a.eval x = ux at hv
  have htk0 : tk ≠ 0 := fun e0 => by rw [e0, hr.T0] at hT; cases hT
  cases hv with
  | rowNil => exact absurd rfl hne
  | row _ _ _ a1 nn c u1 hn hc hm63 hkk hcell h1 hvv htt =>
    obtain ⟨e1, e2, e3, e4, us, hf, hM⟩ := (VR.row (G := G) xs k tk a1 nn c u1 hn hc hm63 hkk hcell h1 hvv htt).flat
    obtain ⟨hlt, rfl, hused, htot⟩ := e4 htk0
    have hc0 : c ≠ 0 := by have : 0 < xs.length := List.length_pos_iff.2 hne; omega
    have htot0 : (G.tau tk).2.2 ≠ 0 := by rw [htot]; exact Nat.mul_ne_zero hc0 (by omega)
    obtain ⟨cur, ⟨e', fz0⟩, hcur, hcurlen, hfz0⟩ := hr.tk tk hT htot0
    simp only at hcur
    have hB := hr.tkB tk hT htot0
    have hbl : (G.tau tk).1 < w.heap.size := (Array.getElem?_eq_some_iff.1 hcur).1
    -- the world behind it
    let w1 := w.freeze ⟨(G.tau tk).1, cur.length, none⟩ 1
    have hw1 : ∀ q, q ≠ (G.tau tk).1 → w1.heap[q]? = w.heap[q]? := fun q hq => by
      simp only [w1, World.freeze]
      rw [if_neg (by decide)]
      simp [Array.getElem?_modify, Ne.symm hq]
    have hw2 : ∃ fr, w1.heap[(G.tau tk).1]? = some (.cells cur.toArray e' fr) := by
      simp only [w1, World.freeze]
      rw [if_neg (by decide)]
      simp [Array.getElem?_modify, hcur]
    obtain ⟨fr, hw2⟩ := hw2
    have hsz : w1.heap.size = w.heap.size := by simp only [w1, World.freeze]; rw [if_neg (by decide)]; simp
    have hcells : ∀ a, w1.cell? a = w.cell? a := fun a => by
      by_cases hb : a.block = (G.tau tk).1
      · simp only [World.cell?, hb, hw2, hcur]
      · exact cell_same (hw1 _ hb)
    have hrun : (execOp a.eval o).run P w = .ok (.value (.slice (some ⟨(G.tau tk).1, 0, none⟩) nn c)) w1 := by
      have hsh : w.shape? (G.tau tk).1 = some (e', cur.length) := by simp [World.shape?, hcur]
      simp [execOp, hop, hux, convert, run_underlying ht, run_underlying he, markStringish, hsh, w1]
    have hT' : ∀ q, (st.setT tk false).T q = true → q ≠ tk ∧ st.T q = true := fun q e5 => by
      by_cases hq : q = tk
      · simp [hq] at e5
      · simp [hq] at e5; exact ⟨hq, e5⟩
    refine ⟨_, w1, G, _, _, hrun, .refl G, ?_, VR.ofFlat' hf hM e1 e2 e3, h⟩
    exact {
      mem := fun a u hu => by rw [hcells]; exact hr.mem a u hu
      nxH := hr.nxH
      nxT := fun q hq => by
        have : q ≠ tk := by omega
        simp [this]; exact hr.nxT q hq
      nx0 := hr.nx0
      T0 := by simp; intro _; exact hr.T0
      ex := fun id cs e5 => by
        obtain ⟨c2, e6, q1, q2, q3, q4⟩ := hr.ex id cs e5
        exact ⟨c2, e6, (hw1 _ (hr.tkE tk id cs hT htot0 e5).symm).trans q1, q2, q3, q4⟩
      exM := hr.exM
      exB := hr.exB
      exI := hr.exI
      tk := fun q e5 e6 => by
        obtain ⟨hne2, e7⟩ := hT' q e5
        obtain ⟨c2, e8, q1, q2⟩ := hr.tk q e7 e6
        exact ⟨c2, e8, (hw1 _ (fun he => hne2 (hr.tkI q tk e7 hT e6 htot0 he))).trans q1, q2⟩
      tkM := fun q a u e5 => hr.tkM q a u (hT' q e5).2
      tkB := fun q e5 => hr.tkB q (hT' q e5).2
      tkI := fun q q' e5 e6 => hr.tkI q q' (hT' q e5).2 (hT' q' e6).2
      tkE := fun q id cs e5 => hr.tkE q id cs (hT' q e5).2
      mp := hr.mp.frame (.refl G) (maps_hold hcur (fun _ _ e => by cases e) hw1)
      below := ⟨by simp only [w1, World.freeze]; rw [if_neg (by decide)]; exact hr.below.os, by simp only [w1, World.freeze]; rw [if_neg (by decide)]; exact hr.below.tape,
        by simp only [w1, World.freeze]; rw [if_neg (by decide)]; exact hr.below.output, by rw [hsz]; exact hr.below.size, fun q hq => by rw [hw1 q (by omega)]; exact hr.below.block q hq⟩ }

/-! ### the least and the greatest of whole numbers -/
theorem run_min2 (k k' : IntKind) (x y : Int) (w : World) : (Builtin.min2 (.int k x) (.int k' y)).run P w = .ok (.int k (min x y)) w := by
  simp only [Builtin.min2, Sem.run_pure]
  congr 2
  split <;> omega
theorem run_max2 (k k' : IntKind) (x y : Int) (w : World) : (Builtin.max2 (.int k x) (.int k' y)).run P w = .ok (.int k (max x y)) w := by
  simp only [Builtin.max2, Sem.run_pure]
  congr 2
  split <;> omega
theorem zp_min {x y : Operand} {ts : Array TypeId} {k k' : IntKind} {a b r : Int} (hop : o.op = .call { callee := .builtin .min, args := #[x, y], argTypes := ts }) (hx : ev env x = some (.v (.int k a))) (hy : ev env y = some (.v (.int k' b))) (hr : min a b = r) : ZPure0 P o env (.v (.int k r)) := fun G n act he => by
  have e1 := (ev_ok he hx).eq_v
  have e2 := (ev_ok he hy).eq_v
  subst hr
  exact ⟨_, .v _, fun w => by simp [execOp, hop, e1, e2, resolve, invoke, builtin, Builtin.min_, run_min2]⟩
theorem zp_max {x y : Operand} {ts : Array TypeId} {k k' : IntKind} {a b r : Int} (hop : o.op = .call { callee := .builtin .max, args := #[x, y], argTypes := ts }) (hx : ev env x = some (.v (.int k a))) (hy : ev env y = some (.v (.int k' b))) (hr : max a b = r) : ZPure0 P o env (.v (.int k r)) := fun G n act he => by
  have e1 := (ev_ok he hx).eq_v
  have e2 := (ev_ok he hy).eq_v
  subst hr
  exact ⟨_, .v _, fun w => by simp [execOp, hop, e1, e2, resolve, invoke, builtin, Builtin.max_, run_max2]⟩

end
end Go.Proofs.Zm
/- The framework's ninth part: the rules in the form in which a walk uses them. -/
namespace Go.Proofs.Zm
open Go.RowKit
set_option linter.unusedVariables false

section
variable {P : Program} {w0 : World} {n : Nat} {env : Env} {st : St} {K : Env → St → Prop} {Q : ZPost}

theorem zo_end {ops : Array Oper} (h : K env st) : ZOps P w0 n ops [] (Zthen K Q) env st := zo_nil h
theorem zo_endB {ops : Array Oper} {id : Nat} (h : K env st) : ZOps P w0 n ops [] (Zblock id (Zthen K Q)) env st := zo_nil h
theorem zr_skipB {id : Nat} (h : K env st) : ZWp P w0 n .skip (Zblock id (Zthen K Q)) env st := zr_skip h
theorem zr_skip' (h : K env st) : ZWp P w0 n .skip (Zthen K Q) env st := zr_skip h

/-- A guard that is met. -/
theorem zo_yes {ops : Array Oper} {dst : Option Tmp} {op : Op} {ty : TypeId} {pos : String} {after : Array Edge} {j t : Nat} {want b : Bool} {rest : List Oper}
    (hj : (ops[j]?).bind (·.dst) = some t) (hb : zlook env t = some (.v (.bool b))) (hw : b = want)
    (h : ZOps P w0 n ops (⟨dst, op, ty, pos, after, none⟩ :: rest) Q env st) : ZOps P w0 n ops (⟨dst, op, ty, pos, after, some (j, want)⟩ :: rest) Q env st :=
  zo_guard hj hb (fun _ => h) (fun hn => absurd hw hn)
/-- An operation that reads no memory. -/
theorem zo_pure0 {ops : Array Oper} {o : Oper} {rest : List Oper} {t : Nat} {d : D} (hg : o.guard = none) (hd : o.dst = some t) (ht : t < n) (h : ZPure0 P o env d)
    (hk : ZOps P w0 n ops rest Q ((t, d) :: env) st) : ZOps P w0 n ops (o :: rest) Q env st := zo_pure hg hd ht h.pure hk
theorem zp_pick_t {o : Oper} {c x y : Operand} {b : Bool} {dx : D} (hop : o.op = .pick c x y) (hc : ev env c = some (.v (.bool b))) (hb : b = true) (hx : ev env x = some dx) : ZPure0 P o env dx := by subst hb; exact zp_pick_true hop hc hx
theorem zp_pick_f {o : Oper} {c x y : Operand} {b : Bool} {dy : D} (hop : o.op = .pick c x y) (hc : ev env c = some (.v (.bool b))) (hb : b = false) (hy : ev env y = some dy) : ZPure0 P o env dy := by subst hb; exact zp_pick_false hop hc hy

/-- Whole numbers of a kind. -/
theorem wrap_in64 {a : Int} (h1 : -9223372036854775808 ≤ a) (h2 : a ≤ 9223372036854775807) : IntKind.i64.wrap a = a := by
  rw [IntKind.wrap_i64]; omega
theorem zr_cond_t {c : Operand} {x y : Code} {b : Bool} (hc : ev env c = some (.v (.bool b))) (hb : b = true) (h : ZWp P w0 n x Q env st) : ZWp P w0 n (.cond c x y) Q env st :=
  zr_cond hc (fun _ => h) (fun h => by subst hb; cases h)
theorem zr_cond_f {c : Operand} {x y : Code} {b : Bool} (hc : ev env c = some (.v (.bool b))) (hb : b = false) (h : ZWp P w0 n y Q env st) : ZWp P w0 n (.cond c x y) Q env st :=
  zr_cond hc (fun h => by subst hb; cases h) (fun _ => h)

theorem zr_retZ {rs : List ResultVar} {K : D → St → Prop} {ds : List D} (hQ : Q .ret env st = ZRet P rs K .ret env st) (hr : ResD P rs env st ds) (h : K (resOf ds) st) : ZWp P w0 n .ret Q env st :=
  zr_ret (by rw [hQ]; exact ⟨ds, hr, h⟩)

/-- The literal nil, as a row with its right. -/
theorem zr_nil {c : Code} (t4 k : Nat) (h4 : zlook env t4 = some (.v (.slice none 0 0))) (h : ∀ t, st.T t = false → t ≠ 0 → ZWp P w0 n c Q ((t4, .row [] k t) :: env) (st.setT t true)) : ZWp P w0 n c Q env st := by
  intro G w a hr he hd
  obtain ⟨G', hle, hrel, hnx, _⟩ := hr.nilRight 0
  have hlt : ∃ u, a.tmps[t4]? = some u ∧ VR G' (.row [] k G.nx) u := by
    obtain ⟨u, hu, hv⟩ := he.at_ t4 _ h4
    exact ⟨u, hu, by rw [hv.eq_v]; exact .rowNil k G.nx (.inr (by rw [hnx]; exact Nat.lt_succ_self _))⟩
  refine Code.wp_mono (Outc.mono hle (fun _ _ _ h => h)) (h G.nx (hr.nxT _ (Nat.le_refl _)) (by have := hr.nx0; omega) G' w a hrel ⟨he.size, hrel.mp.gl, fun t d e => ?_⟩ hd)
  unfold zlook at e
  split at e
  · rename_i hk; subst hk; cases e; exact hlt
  · exact (he.mono hle).at_ t d e

theorem VR.notok {G : Gh} {xs : List (List D)} {k t : Nat} {u : Value} (h : VR G (.row xs k t) u) : VR G (.row xs k 0) u := by
  cases h with
  | rowNil => exact .rowNil k 0 (.inl rfl)
  | row _ _ _ a n c u hn hc hm63 hk hm h1 hv ht => exact .row xs k 0 a n c u hn hc hm63 hk hm h1 hv (fun h => absurd rfl h)

/-- A slice literal that is only read. -/
theorem zv_lit {o : Oper} {t e k by_ len : Nat} {z : List D} {xs : List Operand} {ds : List D} {K : D → St → Prop} (hop : o.op = .buildSlice t len (xs.zipIdx.map fun p => (p.2, p.1)).toArray) (hlen : xs.length = len)
    (he : ElemOk P e k by_ z) (ht : P.underlying t = some (.slice e)) (hx : evs env xs = some ds) (hk : ∀ d ∈ ds, (cellsD d).length = k ∧ ∀ c ∈ cellsD d, oneD c = true) (hsmall : len * k ≤ 2 ^ 24)
    (h : K (.row (ds.map cellsD) k 0) st) : ZVal P w0 n o env st K := by
  intro G w a hr her
  obtain ⟨v, w', G', d, st', h1, h2, h3, h4, t', h6, h7, rfl, rfl⟩ := zv_buildSlice (w0 := w0) (n := n) (st := st) (K := fun d s => ∃ t', st.T t' = false ∧ t' ≠ 0 ∧ d = .row (ds.map cellsD) k t' ∧ s = st.setT t' true) hop hlen he ht hx hk hsmall (fun t' a b => ⟨t', a, b, rfl, rfl⟩) G w a hr her
  refine ⟨v, w', G', _, st, h1, h2, h3.forget (fun _ _ e => e) (fun q e => ?_), h4.notok, h⟩
  by_cases hq : q = t' <;> simp [hq, e]

theorem zr_forget {c : Code} (st' : St) (hH : ∀ id cs, st'.H id = some cs → st.H id = some cs) (hT : ∀ t, st'.T t = true → st.T t = true) (h : ZWp P w0 n c Q env st') (hN : ∀ id m, st'.N id = some m → st.N id = some m := by exact fun _ _ e => e) : ZWp P w0 n c Q env st :=
  fun G w a h1 h2 h3 => h G w a (h1.forget hH hT hN) h2 h3

/-- The literal nil serves as a row of nothing. -/
inductive Ups : List D → List D → Prop where
  | nil : Ups [] []
  | same {d : D} {ds es : List D} (h : Ups ds es) : Ups (d :: ds) (d :: es)
  | nilrow {ds es : List D} (k : Nat) (h : Ups ds es) : Ups (.v (.slice none 0 0) :: ds) (.row [] k 0 :: es)
theorem Ups.refl : ∀ (ds : List D), Ups ds ds
  | [] => .nil
  | d :: ds => .same (Ups.refl ds)
theorem Ups.ok {G : Gh} {ds es : List D} (h : Ups ds es) : ∀ {us}, VRs G ds us → VRs G es us := by
  induction h with
  | nil => exact fun h => h
  | same h ih =>
    intro us hv
    cases us with
    | nil => have := hv.1; simp at this
    | cons u us => exact VRs.cons (hv.2 0 _ u rfl rfl) (ih ⟨by have := hv.1; simpa using this, fun j d' u' a b => hv.2 (j + 1) d' u' (by simpa using a) (by simpa using b)⟩)
  | nilrow k h ih =>
    intro us hv
    cases us with
    | nil => have := hv.1; simp at this
    | cons u us =>
      have h0 := (hv.2 0 _ u rfl rfl).eq_v
      subst h0
      exact VRs.cons (.rowNil k 0 (.inl rfl)) (ih ⟨by have := hv.1; simpa using this, fun j d' u' a b => hv.2 (j + 1) d' u' (by simpa using a) (by simpa using b)⟩)

theorem zop_callU {spec : ZSpec} {f : FuncId} {fn : Func} {o : Oper} {x : Operand} {as : List Operand} {ts : Array TypeId} {caps ds es : List D} {t : Nat}
    (hs : SoundF P f spec) (hf : P.funcs[f]? = some fn) (hname : (fn.name == "runtime.NumGoroutine") = false) (hb : fn.body.isSome = true)
    (hop : o.op = .call { callee := .value x, args := as.toArray, argTypes := ts }) (hd : o.dst = some t) (ht : t < n)
    (hx : ev env x = some (.fn f caps)) (ha : evs env as = some ds) (hu : Ups ds es)
    (h : spec (es ++ caps) st fun d st' => K ((t, d) :: env) st') : ZOp P w0 n o env st K := by
  intro G w a hr he hdf next Q' hn
  have hv := ev_ok he hx
  have hargs := hu.ok (evs_ok he ha)
  generalize hu : a.eval x = u at hv
  cases hv with
  | fn _ _ us hl hvs =>
    have hrun : (execOp a.eval o).run P w = .ok (.enter f ((as.map a.eval) ++ us).toArray) w := by
      have hen := enters hf hname hb (((as.map a.eval) ++ us).toArray) w
      unfold execOp
      simp only [hop]
      simp only [resolve, hu, Deferred.ofValue, invoke]
      simp only [Bind.bind, Sem.bind, pure]
      simpa using hen
    unfold Oper.wp
    rw [hrun, Oper.upon_enter]
    refine (hs w0 _ st _ h G w _ hr (hargs.append ⟨hl, hvs⟩)).mono fun e w' hq => ?_
    obtain ⟨v, d, st', G', rfl, hle, hrel, hv, hK⟩ := hq
    exact hn G' ((t, d) :: env) st' _ w' hle hrel (by simpa [Act.put, hd] using (he.mono hle).put ht hv) (by simpa [Act.put, hd] using hdf) hK (fun t' u h1 h2 => put_other h1 h2)

theorem zo_callU {spec : ZSpec} {f : FuncId} {fn : Func} {ops : Array Oper} {o : Oper} {rest : List Oper} {x : Operand} {as : List Operand} {ts : Array TypeId} {caps ds es : List D} {t : Nat}
    (hs : SoundF P f spec) (hf : P.funcs[f]? = some fn) (hname : (fn.name == "runtime.NumGoroutine") = false) (hb : fn.body.isSome = true) (hg : o.guard = none)
    (hop : o.op = .call { callee := .value x, args := as.toArray, argTypes := ts }) (hd : o.dst = some t) (ht : t < n)
    (hx : ev env x = some (.fn f caps)) (ha : evs env as = some ds) (hu : Ups ds es)
    (h : spec (es ++ caps) st fun d st' => ZOps P w0 n ops rest Q ((t, d) :: env) st') : ZOps P w0 n ops (o :: rest) Q env st :=
  zo_cons hg (zop_callU hs hf hname hb hop hd ht hx ha hu h)

/-- A variable of one cell. -/
theorem shape_one {t : TypeId} {d : TypeDesc} (hu : P.underlying t = some d) (hn : match d with | .struct _ | .array .. => False | _ => True) (hi : (P.info? t).map (·.size) = some 1) : shapeIs P t false 1 := by
  obtain ⟨i, h1, h2⟩ := Option.map_eq_some_iff.1 hi
  refine ⟨⟨i, h1, h2⟩, fun w => ?_, fun _ => rfl⟩
  cases d <;> first | exact hn.elim | simp [isAgg, run_underlying hu]

theorem zp_lenB {o : Oper} {t : TypeId} {e : TypeId} {x : Operand} {l : List UInt8} {k tk : Nat} (hop : o.op = .call { callee := .builtin .len, args := #[x], argTypes := #[t] }) (ht : P.underlying t = some (.slice e)) (hx : ev env x = some (.row (bytesD l) k tk)) :
    ZPure0 P o env (.v (.int .i64 (l.length : Nat))) := by
  have := zp_len (P := P) hop ht hx
  rwa [bytesD_length] at this

/-- What is known is known. -/
def Sub (env' env : Env) : Prop := ∀ t d, zlook env' t = some d → zlook env t = some d
theorem sub_nil (env : Env) : Sub [] env := fun t d h => by simp [zlook] at h
theorem sub_cons {r env : Env} {k : Nat} {d : D} (h : zlook env k = some d) (hs : Sub r env) : Sub ((k, d) :: r) env := fun t d' e => by
  unfold zlook at e
  split at e
  · rename_i hk; subst hk; cases e; exact h
  · exact hs t d' e

/-- A loop, told by some slots alone. -/
theorem zr_loopE {c : Code} (I : Nat → Env → St → Prop) (m0 : Nat) (env0 : Env) (hsub : Sub env0 env) (h0 : I m0 env0 st)
    (round : ∀ m env st, I m env st → ZWp P w0 n c (Zthen (fun env' st' => ∃ m' env2, m' < m ∧ I m' env2 st' ∧ Sub env2 env') Q) env st) : ZWp P w0 n (.loop c) Q env st := by
  refine zr_loop (fun m env st => ∃ env2, I m env2 st ∧ Sub env2 env) m0 ⟨env0, h0, hsub⟩ fun m env st ⟨env2, h1, h2⟩ => ?_
  refine ((round m env2 st h1).weaken h2).mono fun e env' st' hq => ?_
  cases e with
  | normal => obtain ⟨m', env3, a, b, c⟩ := hq; exact ⟨m', a, env3, b, c⟩
  | _ => exact hq

theorem wrap_inU64 {a : Int} (h1 : 0 ≤ a) (h2 : a ≤ 18446744073709551615) : IntKind.u64.wrap a = a := by
  rw [IntKind.wrap_u64]; omega
theorem wrap_u8 (a : Int) : IntKind.u8.wrap a = a % 256 := by rw [IntKind.wrap_u8]

end
end Go.Proofs.Zm
/- The framework's tenth part: rules by the operation's own form, for 'apply'. -/
namespace Go.Proofs.Zm
open Go.RowKit
set_option linter.unusedVariables false

section
variable {P : Program} {w0 : World} {n : Nat} {env : Env} {st : St} {Q : ZPost} {ops : Array Oper} {t : Nat} {rest : List Oper} {x y c : Operand} {t1 t2 ty : TypeId} {pos : String} {after : Array Edge}

theorem zs_move {d : D} (ht : Nat.ble (t + 1) n = true) (hx : ev env x = some d) (hk : ZOps P w0 n ops rest Q ((t, d) :: env) st) : ZOps P w0 n ops (⟨some t, .move x, ty, pos, after, none⟩ :: rest) Q env st :=
  zo_pure0 rfl rfl (Nat.le_of_ble_eq_true ht) (zp_move rfl hx) hk
theorem zs_assign {d : D} (ht : Nat.ble (t + 1) n = true) (hx : ev env x = some d) (hk : ZOps P w0 n ops rest Q ((t, d) :: env) st) : ZOps P w0 n ops (⟨some t, .assign x, ty, pos, after, none⟩ :: rest) Q env st :=
  zo_pure0 rfl rfl (Nat.le_of_ble_eq_true ht) (zp_assign rfl hx) hk
theorem zs_not {b : Bool} (ht : Nat.ble (t + 1) n = true) (hx : ev env x = some (.v (.bool b))) (hk : ZOps P w0 n ops rest Q ((t, .v (.bool (!b))) :: env) st) : ZOps P w0 n ops (⟨some t, .unOp .not t1 x, ty, pos, after, none⟩ :: rest) Q env st :=
  zo_pure0 rfl rfl (Nat.le_of_ble_eq_true ht) (zp_not rfl hx) hk
theorem zs_extract {i : Nat} {ds : List D} {d : D} (ht : Nat.ble (t + 1) n = true) (hx : ev env x = some (.tup ds)) (hd : ds[i]? = some d) (hk : ZOps P w0 n ops rest Q ((t, d) :: env) st) : ZOps P w0 n ops (⟨some t, .extract x i, ty, pos, after, none⟩ :: rest) Q env st :=
  zo_pure0 rfl rfl (Nat.le_of_ble_eq_true ht) (zp_extract rfl hx hd) hk
theorem zs_pick_t {b : Bool} {d : D} (ht : Nat.ble (t + 1) n = true) (hc : ev env c = some (.v (.bool b))) (hb : b = true) (hx : ev env x = some d) (hk : ZOps P w0 n ops rest Q ((t, d) :: env) st) : ZOps P w0 n ops (⟨some t, .pick c x y, ty, pos, after, none⟩ :: rest) Q env st :=
  zo_pure0 rfl rfl (Nat.le_of_ble_eq_true ht) (zp_pick_t rfl hc hb hx) hk
theorem zs_pick_f {b : Bool} {d : D} (ht : Nat.ble (t + 1) n = true) (hc : ev env c = some (.v (.bool b))) (hb : b = false) (hy : ev env y = some d) (hk : ZOps P w0 n ops rest Q ((t, d) :: env) st) : ZOps P w0 n ops (⟨some t, .pick c x y, ty, pos, after, none⟩ :: rest) Q env st :=
  zo_pure0 rfl rfl (Nat.le_of_ble_eq_true ht) (zp_pick_f rfl hc hb hy) hk
theorem zs_yes {dst : Option Tmp} {op : Op} {j t : Nat} {want b : Bool}
    (hj : (ops[j]?).bind (·.dst) = some t) (hb : zlook env t = some (.v (.bool b))) (hw : b = want)
    (h : ZOps P w0 n ops (⟨dst, op, ty, pos, after, none⟩ :: rest) Q env st) : ZOps P w0 n ops (⟨dst, op, ty, pos, after, some (j, want)⟩ :: rest) Q env st := zo_yes hj hb hw h
section
variable {k k' : IntKind} {a b r : Int}
theorem zs_lss (ht : Nat.ble (t + 1) n = true) (hx : ev env x = some (.v (.int k a))) (hy : ev env y = some (.v (.int k b))) (hk : ZOps P w0 n ops rest Q ((t, .v (.bool (decide (a < b)))) :: env) st) :
    ZOps P w0 n ops (⟨some t, .binOp .lss t1 x y t2, ty, pos, after, none⟩ :: rest) Q env st := zo_pure0 rfl rfl (Nat.le_of_ble_eq_true ht) (zp_lss rfl hx hy) hk
theorem zs_leq (ht : Nat.ble (t + 1) n = true) (hx : ev env x = some (.v (.int k a))) (hy : ev env y = some (.v (.int k b))) (hk : ZOps P w0 n ops rest Q ((t, .v (.bool (decide (a ≤ b)))) :: env) st) :
    ZOps P w0 n ops (⟨some t, .binOp .leq t1 x y t2, ty, pos, after, none⟩ :: rest) Q env st := zo_pure0 rfl rfl (Nat.le_of_ble_eq_true ht) (zp_leq rfl hx hy) hk
theorem zs_gtr (ht : Nat.ble (t + 1) n = true) (hx : ev env x = some (.v (.int k a))) (hy : ev env y = some (.v (.int k b))) (hk : ZOps P w0 n ops rest Q ((t, .v (.bool (decide (b < a)))) :: env) st) :
    ZOps P w0 n ops (⟨some t, .binOp .gtr t1 x y t2, ty, pos, after, none⟩ :: rest) Q env st := zo_pure0 rfl rfl (Nat.le_of_ble_eq_true ht) (zp_gtr rfl hx hy) hk
theorem zs_geq (ht : Nat.ble (t + 1) n = true) (hx : ev env x = some (.v (.int k a))) (hy : ev env y = some (.v (.int k b))) (hk : ZOps P w0 n ops rest Q ((t, .v (.bool (decide (b ≤ a)))) :: env) st) :
    ZOps P w0 n ops (⟨some t, .binOp .geq t1 x y t2, ty, pos, after, none⟩ :: rest) Q env st := zo_pure0 rfl rfl (Nat.le_of_ble_eq_true ht) (zp_geq rfl hx hy) hk
theorem zs_eql (ht : Nat.ble (t + 1) n = true) (hx : ev env x = some (.v (.int k a))) (hy : ev env y = some (.v (.int k b))) (hk : ZOps P w0 n ops rest Q ((t, .v (.bool (decide (a = b)))) :: env) st) :
    ZOps P w0 n ops (⟨some t, .binOp .eql t1 x y t2, ty, pos, after, none⟩ :: rest) Q env st := zo_pure0 rfl rfl (Nat.le_of_ble_eq_true ht) (zp_eql rfl hx hy) hk
theorem zs_neq (ht : Nat.ble (t + 1) n = true) (hx : ev env x = some (.v (.int k a))) (hy : ev env y = some (.v (.int k b))) (hk : ZOps P w0 n ops rest Q ((t, .v (.bool (decide (a ≠ b)))) :: env) st) :
    ZOps P w0 n ops (⟨some t, .binOp .neq t1 x y t2, ty, pos, after, none⟩ :: rest) Q env st := zo_pure0 rfl rfl (Nat.le_of_ble_eq_true ht) (zp_neq rfl hx hy) hk
theorem zs_add (ht : Nat.ble (t + 1) n = true) (hx : ev env x = some (.v (.int k a))) (hy : ev env y = some (.v (.int k b))) (hr : k.wrap (a + b) = r) (hk : ZOps P w0 n ops rest Q ((t, .v (.int k r)) :: env) st) :
    ZOps P w0 n ops (⟨some t, .binOp .add t1 x y t2, ty, pos, after, none⟩ :: rest) Q env st := zo_pure0 rfl rfl (Nat.le_of_ble_eq_true ht) (zp_add rfl hx hy hr) hk
theorem zs_sub (ht : Nat.ble (t + 1) n = true) (hx : ev env x = some (.v (.int k a))) (hy : ev env y = some (.v (.int k b))) (hr : k.wrap (a - b) = r) (hk : ZOps P w0 n ops rest Q ((t, .v (.int k r)) :: env) st) :
    ZOps P w0 n ops (⟨some t, .binOp .sub t1 x y t2, ty, pos, after, none⟩ :: rest) Q env st := zo_pure0 rfl rfl (Nat.le_of_ble_eq_true ht) (zp_sub rfl hx hy hr) hk
theorem zs_mul (ht : Nat.ble (t + 1) n = true) (hx : ev env x = some (.v (.int k a))) (hy : ev env y = some (.v (.int k b))) (hr : k.wrap (a * b) = r) (hk : ZOps P w0 n ops rest Q ((t, .v (.int k r)) :: env) st) :
    ZOps P w0 n ops (⟨some t, .binOp .mul t1 x y t2, ty, pos, after, none⟩ :: rest) Q env st := zo_pure0 rfl rfl (Nat.le_of_ble_eq_true ht) (zp_mul rfl hx hy hr) hk
theorem zs_quo (ht : Nat.ble (t + 1) n = true) (hx : ev env x = some (.v (.int k a))) (hy : ev env y = some (.v (.int k b))) (hb : b ≠ 0) (hr : k.wrap (a.tdiv b) = r) (hk : ZOps P w0 n ops rest Q ((t, .v (.int k r)) :: env) st) :
    ZOps P w0 n ops (⟨some t, .binOp .quo t1 x y t2, ty, pos, after, none⟩ :: rest) Q env st := zo_pure0 rfl rfl (Nat.le_of_ble_eq_true ht) (zp_quo rfl hx hy hb hr) hk
theorem zs_conv (ht : Nat.ble (t + 1) n = true) (hx : ev env x = some (.v (.int k a))) (ht1 : P.underlying t1 = some (.int k)) (hu : P.underlying t2 = some (.int k')) (hr : k'.wrap a = r) (hk : ZOps P w0 n ops rest Q ((t, .v (.int k' r)) :: env) st) :
    ZOps P w0 n ops (⟨some t, .convert t1 t2 x, ty, pos, after, none⟩ :: rest) Q env st := zo_pure0 rfl rfl (Nat.le_of_ble_eq_true ht) (zp_conv rfl hx ht1 hu hr) hk
end
theorem zs_len {e : TypeId} {xs : List (List D)} {k tk : Nat} (ht : Nat.ble (t + 1) n = true) (hx : ev env x = some (.row xs k tk)) (ht1 : P.underlying t1 = some (.slice e)) (hk : ZOps P w0 n ops rest Q ((t, .v (.int .i64 xs.length)) :: env) st) :
    ZOps P w0 n ops (⟨some t, .call { callee := .builtin .len, args := #[x], argTypes := #[t1] }, ty, pos, after, none⟩ :: rest) Q env st := zo_pure0 rfl rfl (Nat.le_of_ble_eq_true ht) (zp_len rfl ht1 hx) hk
theorem zs_lenB {e : TypeId} {l : List UInt8} {k tk : Nat} (ht : Nat.ble (t + 1) n = true) (hx : ev env x = some (.row (bytesD l) k tk)) (ht1 : P.underlying t1 = some (.slice e)) (hk : ZOps P w0 n ops rest Q ((t, .v (.int .i64 (l.length : Nat))) :: env) st) :
    ZOps P w0 n ops (⟨some t, .call { callee := .builtin .len, args := #[x], argTypes := #[t1] }, ty, pos, after, none⟩ :: rest) Q env st := zo_pure0 rfl rfl (Nat.le_of_ble_eq_true ht) (zp_lenB rfl ht1 hx) hk
theorem zs_len_nil {e : TypeId} {m c : Nat} (ht : Nat.ble (t + 1) n = true) (hx : ev env x = some (.v (.slice none m c))) (ht1 : P.underlying t1 = some (.slice e)) (hk : ZOps P w0 n ops rest Q ((t, .v (.int .i64 m)) :: env) st) :
    ZOps P w0 n ops (⟨some t, .call { callee := .builtin .len, args := #[x], argTypes := #[t1] }, ty, pos, after, none⟩ :: rest) Q env st := zo_pure0 rfl rfl (Nat.le_of_ble_eq_true ht) (zp_len_nil rfl ht1 hx) hk
end
end Go.Proofs.Zm
/- The framework's eleventh part: numbers by their bits; the entry from the row's text. -/
namespace Go.Proofs.Zm
open Go.RowKit
set_option linter.unusedVariables false

theorem ipow_le {k m : Nat} (h : k ≤ m) : (2 : Int) ^ k ≤ 2 ^ m := by
  have := Int.ofNat_le.2 (Nat.pow_le_pow_right (show 0 < 2 by decide) h)
  rwa [Int.natCast_pow, Int.natCast_pow] at this
/-- A mask of the lowest bits. -/
theorem and_mask {K : IntKind} (k : Nat) (hk : k < K.bits) (hK : K.bits ≤ 64) (hs : K.signed = true → k < K.bits - 1) (a m r : Int) (hm : m = 2 ^ k - 1) (hr : a % 2 ^ k = r) : K.wrap ((BitVec.ofInt K.bits a &&& BitVec.ofInt K.bits m).toNat : Int) = r := by
  subst hr
  have hm' : m = ((2 ^ k - 1 : Nat) : Int) := by
    rw [hm, Int.natCast_sub (Nat.one_le_two_pow), Int.natCast_pow]; rfl
  have e2 : BitVec.ofInt K.bits m = BitVec.ofNat K.bits (2 ^ k - 1) := by rw [hm']; exact BitVec.ofInt_natCast _ _
  have hp : (2 : Nat) ^ k < 2 ^ K.bits := Nat.pow_lt_pow_right (by decide) hk
  have hlt' : 2 ^ k - 1 < 2 ^ K.bits := Nat.lt_of_le_of_lt (Nat.sub_le _ _) hp
  rw [e2, BitVec.toNat_and, BitVec.toNat_ofNat, Nat.mod_eq_of_lt hlt', BitVec.toNat_ofInt, Nat.and_two_pow_sub_one_eq_mod]
  have hpos : (0 : Int) < 2 ^ K.bits := Int.pow_pos (by decide)
  have h0 := Int.emod_nonneg a (show ((2 : Int) ^ K.bits) ≠ 0 by omega)
  have hd : ((2 : Int) ^ k) ∣ 2 ^ K.bits := ⟨2 ^ (K.bits - k), by rw [← Int.pow_add, Nat.add_sub_cancel' (Nat.le_of_lt hk)]⟩
  have e3 : (((a % ((2 ^ K.bits : Nat) : Int)).toNat % 2 ^ k : Nat) : Int) = a % 2 ^ k := by
    have h0' : 0 ≤ a % ((2 ^ K.bits : Nat) : Int) := by rw [Int.natCast_pow]; exact h0
    rw [Int.natCast_emod, Int.toNat_of_nonneg h0', Int.natCast_pow, Int.natCast_pow]
    exact Int.emod_emod_of_dvd a hd
  rw [e3]
  have hposk : (0 : Int) < 2 ^ k := Int.pow_pos (by decide)
  have h1 := Int.emod_nonneg a (show ((2 : Int) ^ k) ≠ 0 by omega)
  have h2 := Int.emod_lt_of_pos a hposk
  have hlt : ((2 : Int) ^ k) ≤ 2 ^ (K.bits - 1) ∨ K.signed = false := by
    cases hsg : K.signed with
    | false => exact .inr rfl
    | true => exact .inl (ipow_le (by have := hs hsg; omega))
  have hlt2 : ((2 : Int) ^ k) ≤ 2 ^ K.bits := ipow_le (by omega)
  clear e2 e3 hm' hm hd hp hlt' h0 hpos
  generalize a % 2 ^ k = z at *
  generalize (2 : Int) ^ k = p at *
  cases K <;> simp [IntKind.wrap, IntKind.bits, IntKind.signed] at * <;> omega

/-- A call, from the row's text. -/
theorem entry {P : Program} {f : FuncId} {spec : ZSpec} (hs : SoundF P f spec) (W : World) (args : List D) (vals : List Value) (hv : VRs ⟨fun a => W.cell? a, fun _ => 0, fun _ => (0, 0, 0), 1⟩ args vals)
    (h : spec args ⟨fun _ => none, fun _ => false, fun _ => none⟩ fun d _ => d = .v (.bool true)) (hgl : ∀ g j v, (gdata g)[j]? = some v → W.cell? ((⟨g, 0, none⟩ : Addr).add j) = some v := by exact fun g j v h => by simp [gdata] at h) : Calls P f vals.toArray W fun e w' => e = .returned (.bool true) ∧ Below W.heap.size W w' := by
  refine (hs W args _ _ h ⟨fun a => W.cell? a, fun _ => 0, fun _ => (0, 0, 0), 1⟩ W vals ?_ hv).mono fun e w' hq => ?_
  · exact {
      mem := fun a u h => h
      nxH := fun _ _ => rfl
      nxT := fun _ _ => rfl
      nx0 := Nat.zero_lt_one
      T0 := rfl
      ex := fun id cs e => by cases e
      exM := fun id cs a u e => by cases e
      exB := fun id cs e => by cases e
      exI := fun id id' cs cs' e => by cases e
      tk := fun t e => by cases e
      tkM := fun t a u e => by cases e
      tkB := fun t e => by cases e
      tkI := fun t t' e => by cases e
      tkE := fun t id cs e => by cases e
      mp := ⟨fun _ _ => rfl, fun _ _ e => (by cases e), fun _ _ e => (by cases e), fun _ _ _ _ e => (by cases e), hgl⟩
      below := Below.refl _ _ }
  · obtain ⟨v, d, st', G', rfl, hle, hr, hv, rfl⟩ := hq
    exact ⟨by rw [hv.eq_v], hr.below⟩

end Go.Proofs.Zm
namespace Go.Proofs.Zm
open Go.RowKit
section
variable {P : Program} {w0 : World} {n : Nat} {env : Env} {st : St} {Q Q1 : ZPost}
end
end Go.Proofs.Zm
/- The framework's thirteenth part: regions that draw their order. -/
namespace Go.Proofs.Zm
open Go.RowKit
set_option linter.unusedVariables false

theorem wpOp_mono2 {P : Program} {ops : Array Oper} {Q Q' : Exit → Act → World → Prop} (hq : ∀ e a w, Q e a w → Q' e a w) {i : Nat} {K K' : Act → World → Prop} (hk : ∀ a w, K a w → K' a w) {a : Act} {w : World}
    (h : wpOp P ops Q i K a w) : wpOp P ops Q' i K' a w := by
  unfold wpOp at h ⊢
  cases ho : ops[i]? with
  | none => simp only [ho] at h ⊢; exact hk _ _ h
  | some o =>
    simp only [ho] at h ⊢
    split
    · rename_i hw
      rw [if_pos hw] at h
      rcases h with h | ⟨h1, a0, w1, h2⟩
      · left
        unfold Oper.wp at h ⊢
        generalize (execOp a.eval o).run P w = r at *
        cases r with
        | ok x w' =>
          cases x <;> simp only [Oper.upon] at h ⊢ <;> first
            | exact hk _ _ h
            | exact Rows.mono h (fun _ _ he => hk _ _ he)
            | (refine Calls.mono h (fun e w'' he => ?_)
               cases e with
                | returned v => exact hk _ _ he
                | panicked c => exact hq _ _ _ he
                | outgrown => obtain ⟨a1, w1, h1⟩ := he; exact ⟨a1, w1, hq _ _ _ h1⟩)
        | halt x w' => cases x <;> simp only [Oper.upon] at h ⊢ <;> first | exact hq _ _ _ h | exact h
      · exact .inr ⟨h1, a0, w1, hq _ _ _ h2⟩
    · rename_i hw
      rw [if_neg hw] at h
      exact hk _ _ h

theorem wpAnyH_mono {P : Program} {md : Region.Mode} {ops : Array Oper} {Q Q' : Exit → Act → World → Prop} {S S' : World → Prop} (hq : ∀ e a w, Q e a w → Q' e a w) (hs : ∀ w, S w → S' w) :
    ∀ (fuel : Nat) (listed : Array Bool) (a : Act) (w : World), wpAnyH P md ops Q S fuel listed a w → wpAnyH P md ops Q' S' fuel listed a w
  | 0, _, _, _, h => ⟨h.1, hq _ _ _ h.2⟩
  | fuel + 1, _, _, _, h => ⟨fun e => hq _ _ _ (h.1 e), fun i hi => wpOp_mono2 hq (fun a' w' h' => ⟨hs _ h'.1, wpAnyH_mono hq hs fuel _ a' w' h'.2⟩) (h.2 i hi)⟩

/-- What is known of memory holds. -/
def Gh.Holds (G : Gh) (w : World) : Prop := ∀ x u, G.M x = some u → w.cell? x = some u

/-- A region that draws its order, from here on. -/
def ZAny (P : Program) (w0 : World) (n : Nat) (ops : Array Oper) (Q : ZPost) (fuel : Nat) (listed : Array Bool) (env : Env) (st : St) : Prop :=
  ∀ G w a, Rel w0 G st w → ER G n env a.tmps → a.defers = [] → wpAnyH P .any ops (Outc w0 n Q G) G.Holds fuel listed a w

/-- An operation's guard: met, or not. -/
def guardIs (ops : Array Oper) (env : Env) (o : Oper) (b : Bool) : Prop :=
  match o.guard with
  | none => b = true
  | some (j, want) => ∃ t c, (ops[j]?).bind (·.dst) = some t ∧ zlook env t = some (.v (.bool c)) ∧ (c == want) = b

theorem guardIs_ok {G : Gh} {n : Nat} {ops : Array Oper} {env : Env} {o : Oper} {b : Bool} {a : Act} (he : ER G n env a.tmps) (h : guardIs ops env o b) : Region.wanted o (yielded ops a.tmps) = b := by
  unfold guardIs at h
  cases hg : o.guard with
  | none => rw [hg] at h; simp [Region.wanted, hg, h]
  | some p =>
    obtain ⟨j, want⟩ := p
    rw [hg] at h
    obtain ⟨t, c, h1, h2, h3⟩ := h
    have := yielded_of he h1 h2
    simp [Region.wanted, hg, this, h3]

section
variable {P : Program} {w0 : World} {n : Nat} {Q : ZPost} {env : Env} {st : St} {ops : Array Oper} {fuel : Nat} {listed : Array Bool}

theorem za_begin {id m : Nat} (hm : P.follows .mixedOrders = true) (hs : ops.size = m) (h : ZAny P w0 n ops Q m (Array.replicate m false) env st) : ZWp P w0 n (.region id ops true) Q env st := by
  intro G w a hr he hd
  subst hs
  exact wp_region_held hm (h G _ a (hr.drawn _) he hd)

/-- An operation that only reads may be taken first. -/
theorem za_take {i t : Nat} {oi : Oper} {d : D} (hi : ops[i]? = some oi) (hs : Region.noSelect ops = true) (hf : Region.free .any ops listed i = true) (hr : (Region.ready .any ops listed).contains i = true)
    (hg : guardIs ops env oi true) (hd : oi.dst = some t) (ht : Nat.ble (t + 1) n = true) (h : ZPure P oi env d) (hk : ZAny P w0 n ops Q fuel (listed.setIfInBounds i true) ((t, d) :: env) st) :
    ZAny P w0 n ops Q (fuel + 1) listed env st := by
  intro G w a hrel he hdf
  obtain ⟨v, hv, hrun⟩ := h G n a he
  refine wpAnyH_take hi hs hf hr (fun c a w h => h.elim) (.inl ⟨guardIs_ok he hg, fun w hw => hrun w hw⟩) hrel.mem ?_
  exact hk G w _ hrel (by simpa [Act.put, hd] using he.put (Nat.le_of_ble_eq_true ht) hv) (by simpa [Act.put, hd] using hdf)

/-- One of those that may come up comes up. -/
def ZOne (P : Program) (w0 : World) (n : Nat) (ops : Array Oper) (Q : ZPost) (fuel : Nat) (listed : Array Bool) (env : Env) (st : St) (i : Nat) : Prop :=
  ∀ G w a, Rel w0 G st w → ER G n env a.tmps → a.defers = [] → wpOp P ops (Outc w0 n Q G) i (fun a' w' => G.Holds w' ∧ wpAnyH P .any ops (Outc w0 n Q G) G.Holds fuel (listed.setIfInBounds i true) a' w') a w

theorem za_all {rs : List Nat} (hr : Region.ready .any ops listed = rs) (hne : rs ≠ []) (h : ∀ i ∈ rs, ZOne P w0 n ops Q fuel listed env st i) : ZAny P w0 n ops Q (fuel + 1) listed env st :=
  fun G w a h1 h2 h3 => wpAnyH_all hr hne fun i hi => h i hi G w a h1 h2 h3

theorem zone_op {i : Nat} {oi : Oper} (hi : ops[i]? = some oi) (hg : guardIs ops env oi true) (h : ZOp P w0 n oi env st (ZAny P w0 n ops Q fuel (listed.setIfInBounds i true))) : ZOne P w0 n ops Q fuel listed env st i := by
  intro G w a h1 h2 h3
  unfold wpOp
  simp only [hi, guardIs_ok h2 hg, if_true]
  left
  refine h G w a h1 h2 h3 _ _ fun G' env' st' a' w' hle hrel he hd hk _ => ⟨fun x u e => hrel.mem x u (hle.M x u e), ?_⟩
  exact wpAnyH_mono (Outc.mono hle (fun _ _ _ h => h)) (fun w hw x u e => hw x u (hle.M x u e)) _ _ _ _ (hk G' w' a' hrel he hd)

/-- The only one that may come up. -/
theorem za_one {i : Nat} {oi : Oper} (hr : Region.ready .any ops listed = [i]) (hi : ops[i]? = some oi) (hg : guardIs ops env oi true) (h : ZOp P w0 n oi env st (ZAny P w0 n ops Q fuel (listed.setIfInBounds i true))) : ZAny P w0 n ops Q (fuel + 1) listed env st :=
  za_all hr (by simp) fun j hj => by
    simp only [List.mem_singleton] at hj
    subst hj
    exact zone_op hi hg h
theorem za_one_val {i t : Nat} {oi : Oper} (hr : Region.ready .any ops listed = [i]) (hi : ops[i]? = some oi) (hg : guardIs ops env oi true) (hd : oi.dst = some t) (ht : Nat.ble (t + 1) n = true)
    (h : ZVal P w0 n oi env st fun d st' => ZAny P w0 n ops Q fuel (listed.setIfInBounds i true) ((t, d) :: env) st') : ZAny P w0 n ops Q (fuel + 1) listed env st :=
  za_one hr hi hg (h.op hd (Nat.le_of_ble_eq_true ht))

theorem za_done (hr : Region.ready .any ops listed = []) (h : Q .normal env st) : ZAny P w0 n ops Q fuel listed env st :=
  fun G w a h1 h2 h3 => wpAnyH_done hr ⟨G, env, st, .refl G, h1, h2, h3, h⟩ _

theorem za_forget (st' : St) (hH : ∀ id cs, st'.H id = some cs → st.H id = some cs) (hT : ∀ t, st'.T t = true → st.T t = true) (h : ZAny P w0 n ops Q fuel listed env st') (hN : ∀ id m, st'.N id = some m → st.N id = some m := by exact fun _ _ e => e) : ZAny P w0 n ops Q fuel listed env st :=
  fun G w a h1 h2 h3 => h G w a (h1.forget hH hT hN) h2 h3
theorem za_end {K : Env → St → Prop} {Q1 : ZPost} (hr : Region.ready .any ops listed = []) (h : K env st) : ZAny P w0 n ops (Zthen K Q1) fuel listed env st := za_done hr h

theorem g_none {o : Oper} (h : o.guard = none) : guardIs ops env o true := by unfold guardIs; rw [h]
theorem g_met {o : Oper} {j t : Nat} {want c : Bool} (h : o.guard = some (j, want)) (hj : (ops[j]?).bind (·.dst) = some t) (hz : zlook env t = some (.v (.bool c))) (hc : c = want) : guardIs ops env o true := by
  unfold guardIs; rw [h]; exact ⟨t, c, hj, hz, by simp [hc]⟩
theorem g_not {o : Oper} {j t : Nat} {want c : Bool} (h : o.guard = some (j, want)) (hj : (ops[j]?).bind (·.dst) = some t) (hz : zlook env t = some (.v (.bool c))) (hc : c = !want) : guardIs ops env o false := by
  unfold guardIs; rw [h]; exact ⟨t, c, hj, hz, by rw [hc]; cases want <;> rfl⟩
end
end Go.Proofs.Zm
/- The framework's twelfth part: what a row's text gives for its slices of bytes. -/
namespace Go.Proofs.Zm
open Go.RowKit Go.ChangeShapes Go.WideShapes
set_option linter.unusedVariables false
/-- A whole number of a row lies within its kind. -/
theorem wf_range {k : IntKind} {n : Int} (h : (Lit.int k n).wf = true) : k.min ≤ n ∧ n ≤ k.max := by
  simp [Lit.wf] at h; exact h
end Go.Proofs.Zm
/- The framework's fourteenth part: memory that only this call's values know: made, read, written, given away for reading. -/
namespace Go.Proofs.Zm
open Go.RowKit
set_option linter.unusedVariables false
set_option linter.unusedSimpArgs false

theorem below_set {w0 w w1 : World} {b : Nat} (h : Below w0.heap.size w0 w) (hb : w0.heap.size ≤ b) (hold : ∀ k, k ≠ b → w1.heap[k]? = w.heap[k]?) (hs : w.heap.size ≤ w1.heap.size) (ho : w1.os = w.os) (ht : w1.tape = w.tape) (hp : w1.output = w.output) : Below w0.heap.size w0 w1 :=
  ⟨ho.trans h.os, ht.trans h.tape, hp.trans h.output, Nat.le_trans h.size hs, fun k hk => (hold k (by omega)).trans (h.block k hk)⟩

section
variable {w0 : World} {G : Gh} {st : St} {w w1 : World}

/-- A new block, this call's own. -/
theorem Rel.own (h : Rel w0 G st w) (c : List Value) (cs : List D) (e : TypeId) (hl : cs.length ≤ c.length) (h1 : ∀ u ∈ c, u.oneCell' = true) (hv : ∀ (j : Nat) (d : D) (u : Value), cs[j]? = some d → c[j]? = some u → VR G d u)
    (hw : w1.heap = w.heap.push (.cells c.toArray e (0, 0))) (ho : w1.os = w.os) (ht : w1.tape = w.tape) (hp : w1.output = w.output) :
    ∃ G', G.le G' ∧ Rel w0 G' (st.setH G.nx (some cs)) w1 ∧ G'.nx = G.nx + 1 ∧ G'.rho G.nx = w.heap.size := by
  have hold : ∀ k, k < w.heap.size → w1.heap[k]? = w.heap[k]? := fun k hk => by
    rw [hw, Array.getElem?_push_lt hk, Array.getElem?_eq_getElem hk]
  have hnew : w1.heap[w.heap.size]? = some (.cells c.toArray e (0, 0)) := by rw [hw]; simp
  have hMb : ∀ a u, G.M a = some u → a.block < w.heap.size := fun a u hu => cell_lt (h.mem a u hu)
  let G' : Gh := { M := G.M, rho := fun i => if i = G.nx then w.heap.size else G.rho i, tau := G.tau, nx := G.nx + 1 }
  have hrn : G'.rho G.nx = w.heap.size := by simp [G']
  have hro : ∀ t, t ≠ G.nx → G'.rho t = G.rho t := fun t hne => by simp [G', hne]
  have hle : G.le G' := ⟨fun a u hu => hu, fun id hlt => hro id (Nat.ne_of_lt hlt), fun t hlt => rfl, Nat.le_succ _⟩
  refine ⟨G', hle, ?_, rfl, hrn⟩
  have hxb : ∀ id cs, st.H id = some cs → G.rho id < w.heap.size := fun id cs e1 => by
    obtain ⟨c', e', h1, _⟩ := h.ex id cs e1
    exact (Array.getElem?_eq_some_iff.1 h1).1
  have htb : ∀ t, st.T t = true → (G.tau t).2.2 ≠ 0 → (G.tau t).1 < w.heap.size := fun t e1 e2 => by
    obtain ⟨c', e', h1, _⟩ := h.tk t e1 e2
    exact (Array.getElem?_eq_some_iff.1 h1).1
  have hH : ∀ id cs', (st.setH G.nx (some cs)).H id = some cs' → (id = G.nx ∧ cs' = cs) ∨ (id ≠ G.nx ∧ st.H id = some cs') := fun id cs' e1 => by
    by_cases hi : id = G.nx
    · simp [hi] at e1; exact .inl ⟨hi, e1.symm⟩
    · simp [hi] at e1; exact .inr ⟨hi, e1⟩
  exact {
    mem := fun a u hu => by rw [cell_same (hold _ (hMb a u hu))]; exact h.mem a u hu
    nxH := fun id hi => by
      have : id ≠ G.nx := by simp [G'] at hi; omega
      simp [this]; exact h.nxH id (by simp [G'] at hi; omega)
    nxT := fun t hi => h.nxT t (by simp [G'] at hi; omega)
    nx0 := Nat.succ_pos _
    T0 := h.T0
    ex := fun id cs' e1 => by
      rcases hH id cs' e1 with ⟨rfl, rfl⟩ | ⟨hne, e2⟩
      · rw [hrn]; exact ⟨c, e, hnew, hl, h1, fun j d u a b => (hv j d u a b).mono hle⟩
      · obtain ⟨c', e', q1, q2, q3, q4⟩ := h.ex id cs' e2
        rw [hro id hne]
        exact ⟨c', e', (hold _ (hxb id cs' e2)).trans q1, q2, q3, fun j d u a b => (q4 j d u a b).mono hle⟩
    exM := fun id cs' a u e1 hu => by
      rcases hH id cs' e1 with ⟨rfl, rfl⟩ | ⟨hne, e2⟩
      · rw [hrn]; exact Nat.ne_of_lt (hMb a u hu)
      · rw [hro id hne]; exact h.exM id cs' a u e2 hu
    exB := fun id cs' e1 => by
      rcases hH id cs' e1 with ⟨rfl, rfl⟩ | ⟨hne, e2⟩
      · rw [hrn]; exact h.below.size
      · rw [hro id hne]; exact h.exB id cs' e2
    exI := fun id id' cs1 cs2 e1 e2 hb => by
      rcases hH id cs1 e1 with ⟨rfl, rfl⟩ | ⟨hne, e3⟩ <;> rcases hH id' cs2 e2 with ⟨rfl, rfl⟩ | ⟨hne', e4⟩
      · rfl
      · rw [hrn, hro id' hne'] at hb; have := hxb id' cs2 e4; omega
      · rw [hrn, hro id hne] at hb; have := hxb id cs1 e3; omega
      · rw [hro id hne, hro id' hne'] at hb; exact h.exI id id' cs1 cs2 e3 e4 hb
    tk := fun t e1 e2 => by
      obtain ⟨c', e', q1, q2⟩ := h.tk t e1 e2
      exact ⟨c', e', (hold _ (htb t e1 e2)).trans q1, q2⟩
    tkM := fun t a u e1 e2 hu hb => h.tkM t a u e1 e2 hu hb
    tkB := fun t e1 e2 => h.tkB t e1 e2
    tkI := fun t t' e1 e2 e3 e4 hb => h.tkI t t' e1 e2 e3 e4 hb
    tkE := fun t id cs' e1 e2 e3 => by
      rcases hH id cs' e3 with ⟨rfl, rfl⟩ | ⟨hne, e4⟩
      · rw [hrn]; exact Nat.ne_of_lt (htb t e1 e2)
      · rw [hro id hne]; exact h.tkE t id cs' e1 e2 e4
    mp := h.mp.frame hle (maps_push hw)
    below := below_push h.below hw ho ht hp }

/-- An own block's cells are others now. -/
theorem Rel.put (h : Rel w0 G st w) {id : Nat} {cs cs' : List D} (hH : st.H id = some cs) {c c' : List Value} {e e' : TypeId} (hc : w.heap[G.rho id]? = some (.cells c.toArray e (0, 0))) (hc' : w1.heap[G.rho id]? = some (.cells c'.toArray e' (0, 0)))
    (hl : cs'.length ≤ c'.length) (h1 : ∀ u ∈ c', u.oneCell' = true) (hv : ∀ (j : Nat) (d : D) (u : Value), cs'[j]? = some d → c'[j]? = some u → VR G d u)
    (hold : ∀ k, k ≠ G.rho id → w1.heap[k]? = w.heap[k]?) (hs : w.heap.size ≤ w1.heap.size) (ho : w1.os = w.os) (ht : w1.tape = w.tape) (hp : w1.output = w.output) : Rel w0 G (st.setH id (some cs')) w1 := by
  have hlt := h.nxle hH
  have hH' : ∀ i cs1, (st.setH id (some cs')).H i = some cs1 → (i = id ∧ cs1 = cs') ∨ (i ≠ id ∧ st.H i = some cs1) := fun i cs1 e1 => by
    by_cases hi : i = id
    · simp [hi] at e1; exact .inl ⟨hi, e1.symm⟩
    · simp [hi] at e1; exact .inr ⟨hi, e1⟩
  have hH2 : ∀ i cs1, (st.setH id (some cs')).H i = some cs1 → ∃ cs2, st.H i = some cs2 := fun i cs1 e1 => by
    rcases hH' i cs1 e1 with ⟨rfl, _⟩ | ⟨_, e2⟩
    · exact ⟨cs, hH⟩
    · exact ⟨cs1, e2⟩
  exact {
    mem := fun a u hu => by rw [cell_same (hold _ (h.exM id cs a u hH hu))]; exact h.mem a u hu
    nxH := fun i hi => by
      have : i ≠ id := by omega
      simp [this]; exact h.nxH i hi
    nxT := h.nxT
    nx0 := h.nx0
    T0 := h.T0
    ex := fun i cs1 e1 => by
      rcases hH' i cs1 e1 with ⟨rfl, rfl⟩ | ⟨hne, e2⟩
      · exact ⟨c', e', hc', hl, h1, hv⟩
      · obtain ⟨c2, e3, q1, q2, q3, q4⟩ := h.ex i cs1 e2
        exact ⟨c2, e3, (hold _ fun hb => hne (h.exI i id cs1 cs e2 hH hb)).trans q1, q2, q3, q4⟩
    exM := fun i cs1 a u e1 hu => by obtain ⟨cs2, e2⟩ := hH2 i cs1 e1; exact h.exM i cs2 a u e2 hu
    exB := fun i cs1 e1 => by obtain ⟨cs2, e2⟩ := hH2 i cs1 e1; exact h.exB i cs2 e2
    exI := fun i j cs1 cs2 e1 e2 hb => by obtain ⟨cs3, e3⟩ := hH2 i cs1 e1; obtain ⟨cs4, e4⟩ := hH2 j cs2 e2; exact h.exI i j cs3 cs4 e3 e4 hb
    tk := fun t e1 e2 => by
      obtain ⟨c2, e3, q1, q2⟩ := h.tk t e1 e2
      exact ⟨c2, e3, (hold _ (h.tkE t id cs e1 e2 hH)).trans q1, q2⟩
    tkM := h.tkM
    tkB := h.tkB
    tkI := h.tkI
    tkE := fun t i cs1 e1 e2 e3 => by obtain ⟨cs2, e4⟩ := hH2 i cs1 e3; exact h.tkE t i cs2 e1 e2 e4
    mp := h.mp.frame (.refl G) (maps_hold hc (fun _ _ e => by cases e) hold)
    below := below_set h.below (h.exB id cs hH) hold hs ho ht hp }

/-- An own block is given away for reading. -/
theorem Rel.freeze (h : Rel w0 G st w) {id : Nat} {cs : List D} (hH : st.H id = some cs) :
    ∃ G', G.le G' ∧ Rel w0 G' (st.setH id none) w ∧ G'.nx = G.nx ∧ ∃ c : List Value, cs.length ≤ c.length ∧ (∀ u ∈ c, u.oneCell' = true) ∧ (∀ (j : Nat) (d : D) (u : Value), cs[j]? = some d → c[j]? = some u → VR G' d u) ∧ (∀ j u, c[j]? = some u → G'.M ⟨G.rho id, j, none⟩ = some u) ∧ G'.rho = G.rho := by
  obtain ⟨c, e, hc, hl, h1, hv⟩ := h.ex id cs hH
  let G' : Gh := { M := fun a => if a.block = G.rho id then (if a.spot = none then c[a.off]? else none) else G.M a, rho := G.rho, tau := G.tau, nx := G.nx }
  have hMo : ∀ a, a.block ≠ G.rho id → G'.M a = G.M a := fun a hne => by simp [G', hne]
  have hle : G.le G' := ⟨fun a u hu => by rw [hMo a (h.exM id cs a u hH hu)]; exact hu, fun _ _ => rfl, fun _ _ => rfl, Nat.le_refl _⟩
  have hH' : ∀ i cs1, (st.setH id none).H i = some cs1 → i ≠ id ∧ st.H i = some cs1 := fun i cs1 e1 => by
    by_cases hi : i = id
    · simp [hi] at e1
    · simp [hi] at e1; exact ⟨hi, e1⟩
  refine ⟨G', hle, ?_, rfl, c, hl, h1, fun j d u a b => (hv j d u a b).mono hle, fun j u hj => by simp [G', hj], rfl⟩
  exact {
    mem := fun a u hu => by
      by_cases hb : a.block = G.rho id
      · simp only [G', hb, if_true] at hu
        split at hu
        · rename_i hs
          obtain ⟨b, off, spot⟩ := a
          simp only at hb hs hu
          subst hs
          subst hb
          rw [cell_heap hc]; exact hu
        · cases hu
      · rw [hMo a hb] at hu; exact h.mem a u hu
    nxH := fun i hi => by
      by_cases hid : i = id
      · simp [hid]
      · simp [hid]; exact h.nxH i hi
    nxT := h.nxT
    nx0 := h.nx0
    T0 := h.T0
    ex := fun i cs1 e1 => by
      obtain ⟨hne, e2⟩ := hH' i cs1 e1
      obtain ⟨c2, e3, q1, q2, q3, q4⟩ := h.ex i cs1 e2
      exact ⟨c2, e3, q1, q2, q3, fun j d u a b => (q4 j d u a b).mono hle⟩
    exM := fun i cs1 a u e1 hu => by
      obtain ⟨hne, e2⟩ := hH' i cs1 e1
      by_cases hb : a.block = G.rho id
      · rw [hb]; exact fun he => hne (h.exI i id cs1 cs e2 hH he.symm)
      · rw [hMo a hb] at hu; exact h.exM i cs1 a u e2 hu
    exB := fun i cs1 e1 => h.exB i cs1 (hH' i cs1 e1).2
    exI := fun i j cs1 cs2 e1 e2 hb => h.exI i j cs1 cs2 (hH' i cs1 e1).2 (hH' j cs2 e2).2 hb
    tk := h.tk
    tkM := fun t a u e1 e2 hu hb => by
      have hne := h.tkE t id cs e1 e2 hH
      rw [hMo a (by rw [hb]; exact hne)] at hu
      exact h.tkM t a u e1 e2 hu hb
    tkB := h.tkB
    tkI := h.tkI
    tkE := fun t i cs1 e1 e2 e3 => h.tkE t i cs1 e1 e2 (hH' i cs1 e3).2
    mp := h.mp.frame hle (fun _ _ _ e => e)
    below := h.below }
end
end Go.Proofs.Zm
/- The framework's fifteenth part: operations on memory that only this call's values know. -/
namespace Go.Proofs.Zm
open Go.RowKit
set_option linter.unusedVariables false
set_option linter.unusedSimpArgs false

theorem vrs_one {G : Gh} {ds : List D} {us : List Value} (h : VRs G ds us) (h1 : ∀ d ∈ ds, oneD d = true) : ∀ u ∈ us, u.oneCell' = true := fun u hu => by
  obtain ⟨j, hj⟩ := List.mem_iff_getElem?.1 hu
  have hlt : j < ds.length := by rw [h.1]; exact (List.getElem?_eq_some_iff.1 hj).1
  exact oneD_ok (h.2 j _ u (List.getElem?_eq_getElem hlt) hj) (h1 _ (List.getElem_mem hlt))

theorem St.setH_setH (s : St) (id : Nat) (a b : Option (List D)) : (s.setH id a).setH id b = s.setH id b := by
  unfold St.setH
  congr 1
  funext i
  by_cases hi : i = id <;> simp [hi]
theorem St.setH_none {s : St} {id : Nat} (h : s.H id = none) : s.setH id none = s := by
  unfold St.setH
  congr 1
  funext i
  by_cases hi : i = id
  · subst hi; simp [h]
  · simp [hi]
section
variable {P : Program} {w0 : World} {n : Nat} {env : Env} {st : St} {o : Oper} {K : D → St → Prop}

/-- A fresh name. -/
def Fresh (st : St) (id : Nat) : Prop := st.H id = none ∧ st.T id = false ∧ id ≠ 0
theorem Rel.freshName {G : Gh} {w : World} (h : Rel w0 G st w) : Fresh st G.nx := ⟨h.nxH _ (Nat.le_refl _), h.nxT _ (Nat.le_refl _), by have := h.nx0; omega⟩

/-- A new variable, at its type's zero value. -/
theorem zv_alloc {e k by_ : Nat} {z : List D} (hop : o.op = .alloc e) (he : ElemOk P e k by_ z) (hz1 : ∀ d ∈ z, oneD d = true) (h : ∀ id, Fresh st id → K (.ptr id 0) (st.setH id (some z))) : ZVal P w0 n o env st K := by
  intro G w a hr her
  obtain ⟨⟨i, zv, hi, hik, hby, hz, hzs, hzz⟩, k0, b0⟩ := he
  have hzc := cellsD_ok (VR.v (G := G) zv)
  rw [hzz] at hzc
  have hrun : (execOp a.eval o).run P w = .ok (.value (.pointer (some ⟨w.heap.size, 0, none⟩))) (w.alloc (.cells zv.cells e)) := by
    simp [execOp, hop, Instr.alloc, zeroValue, typeInfo, hi, hz, newVar, newRow]
  obtain ⟨G', hle, hrel, hnx, hrho⟩ := hr.own (w1 := w.alloc (.cells zv.cells e)) zv.cells.toList z e (by rw [hzc.1]; exact Nat.le_refl _) (vrs_one hzc hz1) hzc.2 rfl rfl rfl rfl
  refine ⟨_, _, G', _, _, hrun, hle, hrel, ?_, h _ hr.freshName⟩
  rw [← hrho]
  exact .ptr G.nx 0 (by rw [hnx]; exact Nat.lt_succ_self _)

/-- A new variable of this value. -/
theorem zv_box {e : TypeId} {x : Operand} {d : D} (hop : o.op = .box e x) (hx : ev env x = some d) (h1 : ∀ c ∈ cellsD d, oneD c = true) (h : ∀ id, Fresh st id → K (.ptr id 0) (st.setH id (some (cellsD d)))) : ZVal P w0 n o env st K := by
  intro G w a hr her
  have hv := cellsD_ok (ev_ok her hx)
  have hrun : (execOp a.eval o).run P w = .ok (.value (.pointer (some ⟨w.heap.size, 0, none⟩))) (w.alloc (.cells (a.eval x).cells e)) := by
    simp [execOp, hop, Instr.box, newVar, newRow]
  obtain ⟨G', hle, hrel, hnx, hrho⟩ := hr.own (w1 := w.alloc (.cells (a.eval x).cells e)) (a.eval x).cells.toList (cellsD d) e (by rw [hv.1]; exact Nat.le_refl _) (vrs_one hv h1) hv.2 rfl rfl rfl rfl
  refine ⟨_, _, G', _, _, hrun, hle, hrel, ?_, h _ hr.freshName⟩
  rw [← hrho]
  exact .ptr G.nx 0 (by rw [hnx]; exact Nat.lt_succ_self _)

/-- make([]T, m), with room for c: this call's own. -/
theorem zv_make_own {t e k by_ : Nat} {z : List D} {x y : Operand} {kx ky : IntKind} {m c : Int} (hop : o.op = .makeSlice t x y) (he : ElemOk P e k by_ z) (hz1 : ∀ d ∈ z, oneD d = true) (ht : P.underlying t = some (.slice e))
    (hx : ev env x = some (.v (.int kx m))) (hy : ev env y = some (.v (.int ky c))) (h0 : 0 ≤ m) (hmc : m ≤ c) (hb : by_ * c.toNat ≤ 281474976710656)
    (h : ∀ id, Fresh st id → K (.mrow id 0 m.toNat c.toNat) (st.setH id (some (List.replicate c.toNat z).flatten))) : ZVal P w0 n o env st K := by
  intro G w a hr her
  obtain ⟨⟨i, zv, hi, hik, hby, hz, hzs, hzz⟩, k0, b0⟩ := he
  have ex := (ev_ok her hx).eq_v
  have ey := (ev_ok her hy).eq_v
  obtain ⟨c', rfl⟩ := Int.eq_ofNat_of_zero_le (show 0 ≤ c by omega)
  obtain ⟨m', rfl⟩ := Int.eq_ofNat_of_zero_le h0
  simp only [Int.toNat_natCast] at hb h
  have hcb : c' ≤ 281474976710656 := Nat.le_trans (Nat.le_mul_of_pos_left _ b0) hb
  have hzc := cellsD_ok (VR.v (G := G) zv)
  rw [hzz] at hzc
  have hzl : z.length = k := by rw [hzc.1, Array.length_toList, hzs]
  have hrun0 := run_make (P := P) w t e i zv ht hi hz kx ky (m' : Int) (c' : Int) h0 hmc (by rw [hby, ← Int.natCast_mul]; omega) (by omega)
  simp only [Int.toNat_natCast, hik] at hrun0
  have hrun : (execOp a.eval o).run P w = .ok (.value (.slice (some ⟨w.heap.size, 0, none⟩) m' c')) (w.alloc (.cells (madeCells zv.cells (c' * k)) e)) := by
    simp only [execOp, hop, ex, ey, Sem.run_bind, hrun0]; rfl
  have hcell : ∀ q, q < c' * k → (madeCells zv.cells (c' * k)).toList[q]? = zv.cells.toList[q % k]? := fun q hq => by
    simp only [madeCells, Array.toList_map, Array.toList_range, List.getElem?_map, List.getElem?_range hq, Option.map_some]
    have hlt : q % zv.cells.size < zv.cells.size := Nat.mod_lt _ (by omega)
    rw [Array.getElem?_toList, ← hzs, Array.getElem?_eq_getElem hlt, getElem!_pos zv.cells _ hlt]
  have hml : (madeCells zv.cells (c' * k)).toList.length = c' * k := by simp [madeCells]
  have hfl : (List.replicate c' z).flatten.length = c' * k := by simp [List.length_flatten, hzl]
  have hfd : ∀ q, q < c' * k → (List.replicate c' z).flatten[q]? = z[q % k]? := by
    intro q hq
    clear hrun hrun0 hcell hml hfl h hmc hb hcb ey hy
    induction c' generalizing q with
    | zero => simp at hq
    | succ c' ih =>
      rw [List.replicate_succ, List.flatten_cons]
      by_cases hqk : q < k
      · rw [List.getElem?_append_left (by rw [hzl]; exact hqk), Nat.mod_eq_of_lt hqk]
      · rw [List.getElem?_append_right (by rw [hzl]; omega), hzl, ih (q - k) (by rw [Nat.succ_mul] at hq; omega)]
        congr 1
        rw [Nat.mod_eq_sub_mod (by omega : q ≥ k)]
  have hvr : ∀ (j : Nat) (d : D) (u : Value), (List.replicate c' z).flatten[j]? = some d → (madeCells zv.cells (c' * k)).toList[j]? = some u → VR G d u := fun j d u h1 h2 => by
    have hj : j < c' * k := by rw [← hfl]; exact (List.getElem?_eq_some_iff.1 h1).1
    rw [hfd j hj] at h1
    rw [hcell j hj] at h2
    exact hzc.2 _ d u h1 h2
  obtain ⟨G', hle, hrel, hnx, hrho⟩ := hr.own (w1 := w.alloc (.cells (madeCells zv.cells (c' * k)) e)) (madeCells zv.cells (c' * k)).toList (List.replicate c' z).flatten e (by rw [hfl, hml]; exact Nat.le_refl _)
    (fun u hu => by
      obtain ⟨q, hq⟩ := List.mem_iff_getElem?.1 hu
      have hql : q < c' * k := by rw [← hml]; exact (List.getElem?_eq_some_iff.1 hq).1
      rw [hcell q hql] at hq
      have hqz : q % k < z.length := by rw [hzl]; exact Nat.mod_lt _ k0
      exact oneD_ok (hzc.2 (q % k) _ u (List.getElem?_eq_getElem hqz) hq) (hz1 _ (List.getElem_mem hqz))) hvr (by show w.heap.push _ = w.heap.push _; congr 2) rfl rfl rfl
  refine ⟨_, _, G', _, _, hrun, hle, hrel, ?_, h _ hr.freshName⟩
  rw [← hrho]
  exact .mrow G.nx 0 m' c' (by rw [hnx]; exact Nat.lt_succ_self _) (by omega) (by simp only [maxLen]; omega)

/-- A store. -/
theorem zop_store {t : TypeId} {x y : Operand} {ag : Bool} {k id off : Nat} {cs : List D} {d : D} {K : Env → St → Prop} (hop : o.op = .store t x y) (hd : o.dst = none) (hs : shapeIs P t ag k) (hx : ev env x = some (.ptr id off)) (hH : st.H id = some cs) (hy : ev env y = some d)
    (hk : (cellsD d).length = k) (h1 : ∀ c ∈ cellsD d, oneD c = true) (hoff : off + k ≤ cs.length) (h : K env (st.setH id (some (cs.take off ++ cellsD d ++ cs.drop (off + k))))) : ZOp P w0 n o env st K := by
  intro G w a hr her hdf next Q hn
  have hvx := ev_ok her hx
  have hvy := cellsD_ok (ev_ok her hy)
  generalize hux : a.eval x = ux at hvx
  generalize huy : a.eval y = uy at hvy
  cases hvx with
  | ptr _ _ hid =>
    obtain ⟨⟨i, hi, hik⟩, _, _⟩ := hs
    obtain ⟨c, e, hc, hl, hc1, hcv⟩ := hr.ex id cs hH
    have hul : uy.cells.toList.length = k := by rw [← hvy.1, hk]
    have hu1 := vrs_one hvy h1
    have hst := run_storeCells_at (P := P) (G.rho id) off e uy.cells.toList 0 c.toArray w hc (by rw [hul]; simp; omega) hu1
    simp only [Nat.add_zero] at hst
    have hrun : (execOp a.eval o).run P w = .ok .skip (w.setRow (G.rho id) (c.take off ++ uy.cells.toList ++ c.drop (off + uy.cells.toList.length)).toArray) := by
      have hsz : uy.cells.size = i.size := by rw [← Array.length_toList, hul, hik]
      simp [execOp, hop, hux, huy, Instr.storeAt, Instr.sureAddr, storeVar, sizeOf, typeInfo, hi, hsz]
      simp at hst
      rw [hst]
      simp [hsz]
    unfold Oper.wp
    rw [hrun]
    have hrel := hr.put (w1 := w.setRow (G.rho id) (c.take off ++ uy.cells.toList ++ c.drop (off + uy.cells.toList.length)).toArray) (cs' := cs.take off ++ cellsD d ++ cs.drop (off + k)) hH hc (setRow_heap w _ c.toArray _ e _ hc)
      (by simp [hul, hk]; omega)
      (fun u hu => by
        simp only [List.mem_append] at hu
        rcases hu with (hu | hu) | hu
        · exact hc1 u (List.mem_of_mem_take hu)
        · exact hu1 u hu
        · exact hc1 u (List.mem_of_mem_drop hu))
      (fun j d' u a1 a2 => by
        by_cases hj1 : j < off
        · rw [List.append_assoc, List.getElem?_append_left (by simp; omega), List.getElem?_take, if_pos hj1] at a1
          rw [List.append_assoc, List.getElem?_append_left (by simp; omega), List.getElem?_take, if_pos hj1] at a2
          exact hcv j d' u a1 a2
        · by_cases hj2 : j < off + k
          · rw [List.getElem?_append_left (by simp [hk]; omega), List.getElem?_append_right (by simp; omega)] at a1
            rw [List.getElem?_append_left (by simp [hul]; omega), List.getElem?_append_right (by simp; omega)] at a2
            have e1 : (cs.take off).length = off := by simp; omega
            have e2 : (c.take off).length = off := by simp; omega
            rw [e1] at a1
            rw [e2] at a2
            exact hvy.2 _ d' u a1 a2
          · rw [List.getElem?_append_right (by simp [hk]; omega), List.getElem?_drop] at a1
            rw [List.getElem?_append_right (by simp [hul]; omega), List.getElem?_drop] at a2
            have e1 : (cs.take off ++ cellsD d).length = off + k := by simp [hk]; omega
            have e2 : (c.take off ++ uy.cells.toList).length = off + k := by rw [List.length_append, hul]; simp; omega
            rw [e1, Nat.add_sub_cancel' (by omega)] at a1
            rw [e2, hul, Nat.add_sub_cancel' (by omega)] at a2
            exact hcv j d' u a1 a2)
      (fun q hq => setRow_other w _ q _ hq) (by simp) rfl rfl rfl
    refine hn G env _ _ _ (.refl G) hrel (by simpa [Act.put, hd] using her) (by simpa [Act.put, hd] using hdf) h (fun t' u h2 h3 => put_other h2 h3)

/-- A load. -/
theorem zv_load_ptr {t : TypeId} {x : Operand} {id off : Nat} {cs : List D} {d : D} (hop : o.op = .load t x) (hs : shapeIs P t false 1) (hx : ev env x = some (.ptr id off)) (hH : st.H id = some cs) (hd : cs[off]? = some d) (h : K d st) : ZVal P w0 n o env st K := by
  intro G w a hr her
  have hvx := ev_ok her hx
  generalize hux : a.eval x = ux at hvx
  cases hvx with
  | ptr _ _ hid =>
    obtain ⟨c, e, hc, hl, hc1, hcv⟩ := hr.ex id cs hH
    have hlt : off < c.length := Nat.lt_of_lt_of_le (List.getElem?_eq_some_iff.1 hd).1 hl
    have hcell : w.cell? ⟨G.rho id, off, none⟩ = some c[off] := by rw [cell_heap hc]; exact List.getElem?_eq_getElem hlt
    refine ⟨c[off], w, G, d, st, ?_, .refl G, hr, hcv off d _ hd (List.getElem?_eq_getElem hlt), h⟩
    simp [execOp, hop, hux, Instr.loadAt, Instr.sureAddr, loadVar, hs.2.1 w, hcell]
theorem zv_load_ptr_agg {t : TypeId} {x : Operand} {id off k : Nat} {cs : List D} (hop : o.op = .load t x) (hs : shapeIs P t true k) (hx : ev env x = some (.ptr id off)) (hH : st.H id = some cs) (hk : off + k ≤ cs.length) (h : K (.agg ((cs.drop off).take k)) st) : ZVal P w0 n o env st K := by
  intro G w a hr her
  have hvx := ev_ok her hx
  generalize hux : a.eval x = ux at hvx
  cases hvx with
  | ptr _ _ hid =>
    obtain ⟨c, e, hc, hl, hc1, hcv⟩ := hr.ex id cs hH
    obtain ⟨⟨i, hi, hik⟩, hagg, _⟩ := hs
    have hcell : ∀ j, off + j < c.length → w.cell? ⟨G.rho id, off + j, none⟩ = c[off + j]? := fun j hj => cell_heap hc
    refine ⟨.agg ((c.drop off).take k).toArray, w, G, _, st, ?_, .refl G, hr, .agg _ _ (by simp; omega) (fun j d v a1 a2 => ?_), h⟩
    · have hl := run_loadCells_list (P := P) (w := w) ⟨G.rho id, off, none⟩ ((c.drop off).take k) (fun j v hj => by
        rw [List.getElem?_take] at hj
        split at hj
        · rename_i hjk
          rw [List.getElem?_drop] at hj
          have : (⟨G.rho id, off, none⟩ : Addr).add j = ⟨G.rho id, off + j, none⟩ := by unfold Addr.add; split <;> simp_all
          rw [this, cell_heap hc]; exact hj
        · cases hj)
      have hlen : ((c.drop off).take k).length = k := by simp; omega
      rw [hlen] at hl
      simp [execOp, hop, hux, Instr.loadAt, Instr.sureAddr, loadVar, hagg w, sizeOf, typeInfo, hi, hik, hl]
    · rw [List.getElem?_take] at a1 a2
      split at a1
      · rename_i hjk
        rw [if_pos hjk, List.getElem?_drop] at a2
        rw [List.getElem?_drop] at a1
        exact hcv _ d v a1 a2
      · cases a1

/-- An element's address. -/
theorem zp_index_mrow {t e : TypeId} {i : TypeInfo} {x y : Operand} {id off m c k : Nat} {ik : IntKind} {j : Int} (hop : o.op = .indexAddr t x y) (ht : P.underlying t = some (.slice e)) (hi : P.info? e = some i) (hk : i.size = k)
    (hx : ev env x = some (.mrow id off m c)) (hy : ev env y = some (.v (.int ik j))) (h0 : 0 ≤ j) (h1 : j < m) : ZPure0 P o env (.ptr id (off + j.toNat * k)) := fun G n a he => by
  have hv := ev_ok he hx
  have ey := (ev_ok he hy).eq_v
  generalize hu : a.eval x = u at hv
  cases hv with
  | mrow _ _ _ _ hid hc hm =>
    refine ⟨_, .ptr id (off + j.toNat * k) hid, fun w => ?_⟩
    have hlt : 0 ≤ j ∧ j < (m : Int) := ⟨h0, h1⟩
    have : (⟨G.rho id, off, none⟩ : Addr).add (j.toNat * k) = ⟨G.rho id, off + j.toNat * k, none⟩ := by unfold Addr.add; split <;> simp_all
    simp [execOp, hop, hu, ey, Instr.indexAt, asIntOf, run_underlying ht, hlt, sizeOf, typeInfo, hi, hk, this]

/-! ### given away for reading -/

/-- What becomes of a value. -/
inductive Frz (id : Nat) (cs : List D) : D → D → Prop where
  | same (d : D) : Frz id cs d d
  | ptr (off : Nat) : Frz id cs (.ptr id off) (.ref (cs.drop off))
  | mrow (off m c k : Nat) (xs : List (List D)) (hm : xs.length = m) (hk : ∀ x ∈ xs, x.length = k) (hf : (cs.drop off).take (m * k) = xs.flatten) : Frz id cs (.mrow id off m c) (.row xs k 0)

theorem flatten_get {k : Nat} : ∀ (xs : List (List D)) (i j : Nat) (x : List D) (d : D), (∀ x ∈ xs, x.length = k) → xs[i]? = some x → x[j]? = some d → xs.flatten[i * k + j]? = some d
  | [], i, j, x, d, _, h, _ => by simp at h
  | y :: ys, 0, j, x, d, hk, h, hj => by
    simp at h; subst h
    rw [List.flatten_cons, Nat.zero_mul, Nat.zero_add, List.getElem?_append_left (List.getElem?_eq_some_iff.1 hj).1]; exact hj
  | y :: ys, i + 1, j, x, d, hk, h, hj => by
    have hy := hk y (by simp)
    rw [List.flatten_cons, List.getElem?_append_right (by rw [hy, Nat.succ_mul]; omega), hy]
    have := flatten_get ys i j x d (fun x hx => hk x (by simp [hx])) (by simpa using h) hj
    rw [← this]
    congr 1
    rw [Nat.succ_mul]; omega

theorem Frz.ok {G G' : Gh} {id : Nat} {cs : List D} {c : List Value} {d d' : D} {u : Value} (h : Frz id cs d d') (hle : G.le G') (hrho : G'.rho = G.rho) (hl : cs.length ≤ c.length) (h1 : ∀ u ∈ c, u.oneCell' = true)
    (hv : ∀ (j : Nat) (d : D) (u : Value), cs[j]? = some d → c[j]? = some u → VR G' d u) (hM : ∀ j u, c[j]? = some u → G'.M ⟨G.rho id, j, none⟩ = some u) (hvr : VR G d u) : VR G' d' u := by
  cases h with
  | same => exact hvr.mono hle
  | ptr off =>
    cases hvr with
    | ptr _ _ hid =>
      refine .ref _ _ (fun j => c.getD (off + j) aCell) (fun j hj => ?_) (fun j d hj => ?_)
      · have hlt : off + j < c.length := by simp at hj; omega
        have : (⟨G.rho id, off, none⟩ : Addr).add j = ⟨G.rho id, off + j, none⟩ := by unfold Addr.add; split <;> simp_all
        rw [this, getD_in hlt]
        exact hM _ _ (List.getElem?_eq_getElem hlt)
      · rw [List.getElem?_drop] at hj
        have hlt : off + j < c.length := Nat.lt_of_lt_of_le (List.getElem?_eq_some_iff.1 hj).1 hl
        rw [getD_in hlt]
        exact hv _ d _ hj (List.getElem?_eq_getElem hlt)
  | mrow off m c2 k xs hm hk hf =>
    cases hvr with
    | mrow _ _ _ _ hid hc hm63 =>
      have hlen : xs.flatten.length = m * k := by
        rw [List.length_flatten, List.eq_replicate_of_mem (l := xs.map List.length) (a := k) (fun b hb => by obtain ⟨x, hx, rfl⟩ := List.mem_map.1 hb; exact hk x hx)]
        simp [hm]
      have hoff : m * k ≤ cs.length - off := by rw [← hlen, ← hf]; simp; omega
      have hcell : ∀ q, q < m * k → cs[off + q]? = xs.flatten[q]? := fun q hq => by
        rw [← hf, List.getElem?_take, if_pos hq, List.getElem?_drop]
      refine .row xs k 0 _ m c2 (fun i j => c.getD (off + (i * k + j)) aCell) hm hc hm63 (fun i x hx => hk x (List.mem_of_getElem? hx)) (fun i j hi hj => ?_) (fun i j => ?_) (fun i x j d hx hj => ?_) (fun h => absurd rfl h)
      · have hq : i * k + j < m * k := by
          have : (i + 1) * k ≤ m * k := Nat.mul_le_mul_right _ hi
          rw [Nat.add_mul] at this; omega
        have hlt : off + (i * k + j) < c.length := by omega
        have : (⟨G.rho id, off, none⟩ : Addr).add (i * k + j) = ⟨G.rho id, off + (i * k + j), none⟩ := by unfold Addr.add; split <;> simp_all
        rw [this, getD_in hlt]
        exact hM _ _ (List.getElem?_eq_getElem hlt)
      · rw [List.getD_eq_getElem?_getD]
        cases hg : c[off + (i * k + j)]? with
        | none => rfl
        | some u => exact h1 u (List.mem_of_getElem? hg)
      · have hg := flatten_get xs i j x d hk hx hj
        have hq : i * k + j < m * k := by rw [← hlen]; exact (List.getElem?_eq_some_iff.1 hg).1
        have hlt : off + (i * k + j) < c.length := by omega
        rw [getD_in hlt]
        exact hv _ d _ ((hcell _ hq).trans hg) (List.getElem?_eq_getElem hlt)

/-- Slots behind it. -/
def FrzE (id : Nat) (cs : List D) (env' env : Env) : Prop := ∀ t d', zlook env' t = some d' → ∃ d, zlook env t = some d ∧ Frz id cs d d'
theorem fz_nil {id cs env} : FrzE id cs [] env := fun t d h => by simp [zlook] at h
theorem fz_cons {id cs} {env r : Env} {k : Nat} {d d' : D} (h : zlook env k = some d) (hf : Frz id cs d d') (hs : FrzE id cs r env) : FrzE id cs ((k, d') :: r) env := fun t d2 e => by
  unfold zlook at e
  split at e
  · rename_i hk; subst hk; cases e; exact ⟨d, h, hf⟩
  · exact hs t d2 e
theorem FrzE.ok {G G' : Gh} {n id : Nat} {cs : List D} {c : List Value} {env env' : Env} {tmps : Array Value} (h : FrzE id cs env' env) (hle : G.le G') (hrho : G'.rho = G.rho) (hl : cs.length ≤ c.length) (h1 : ∀ u ∈ c, u.oneCell' = true)
    (hv : ∀ (j : Nat) (d : D) (u : Value), cs[j]? = some d → c[j]? = some u → VR G' d u) (hM : ∀ j u, c[j]? = some u → G'.M ⟨G.rho id, j, none⟩ = some u) (he : ER G n env tmps) : ER G' n env' tmps :=
  ⟨he.size, fun g j v q => hle.M _ _ (he.gl g j v q), fun t d' e => by
    obtain ⟨d, e1, e2⟩ := h t d' e
    obtain ⟨u, hu, hvr⟩ := he.at_ t d e1
    exact ⟨u, hu, e2.ok hle hrho hl h1 hv hM hvr⟩⟩

theorem zr_freeze {c : Code} {Q : ZPost} {id : Nat} {cs : List D} (env' : Env) (hH : st.H id = some cs) (hE : FrzE id cs env' env) (h : ZWp P w0 n c Q env' (st.setH id none)) : ZWp P w0 n c Q env st := by
  intro G w a hr he hd
  obtain ⟨G', hle, hrel, hnx, c', hl, h1, hv, hM, hrho⟩ := hr.freeze hH
  exact Code.wp_mono (Outc.mono hle (fun _ _ _ h => h)) (h G' w a hrel (hE.ok hle hrho hl h1 hv hM he) hd)
theorem zo_freeze {ops : Array Oper} {l : List Oper} {Q : ZPost} {id : Nat} {cs : List D} (env' : Env) (hH : st.H id = some cs) (hE : FrzE id cs env' env) (h : ZOps P w0 n ops l Q env' (st.setH id none)) : ZOps P w0 n ops l Q env st := by
  intro G w a hr he hd
  obtain ⟨G', hle, hrel, hnx, c', hl, h1, hv, hM, hrho⟩ := hr.freeze hH
  exact wpList_mono (Outc.mono hle (fun _ _ _ h => h)) (fun c a w h => h.elim) l a w (h G' w a hrel (hE.ok hle hrho hl h1 hv hM he) hd)

end
end Go.Proofs.Zm
/- The framework's sixteenth part: rows of this call's own that are made by literals and by append. -/
namespace Go.Proofs.Zm
open Go.RowKit
set_option linter.unusedVariables false
set_option linter.unusedSimpArgs false

theorem flatten_length {k : Nat} {xs : List (List D)} (hk : ∀ x ∈ xs, x.length = k) : xs.flatten.length = xs.length * k := by
  rw [List.length_flatten, List.eq_replicate_of_mem (l := xs.map List.length) (a := k) (fun b hb => by obtain ⟨x, hx, rfl⟩ := List.mem_map.1 hb; exact hk x hx)]
  simp
theorem Flat.flat {G : Gh} {xs : List (List D)} {k : Nat} {us : List Value} (h : Flat G xs k us) (k0 : 0 < k) : VRs G xs.flatten us := by
  have hk : ∀ x ∈ xs, x.length = k := fun x hx => by obtain ⟨i, hi⟩ := List.mem_iff_getElem?.1 hx; exact h.hk i x hi
  have hl := flatten_length hk
  refine ⟨by rw [hl, h.len], fun q d u h1 h2 => ?_⟩
  have hq : q < xs.length * k := by rw [← hl]; exact (List.getElem?_eq_some_iff.1 h1).1
  have hi : q / k < xs.length := Nat.div_lt_of_lt_mul (by rw [Nat.mul_comm]; exact hq)
  have hqq : q / k * k + q % k = q := by rw [Nat.mul_comm]; exact Nat.div_add_mod q k
  have hx := List.getElem?_eq_getElem hi
  have hj : q % k < xs[q / k].length := by rw [hk _ (List.getElem_mem hi)]; exact Nat.mod_lt _ k0
  have hg := flatten_get xs (q / k) (q % k) _ _ hk hx (List.getElem?_eq_getElem hj)
  rw [hqq, h1] at hg
  obtain ⟨u', hu, hv⟩ := h.vr (q / k) _ (q % k) _ hx (List.getElem?_eq_getElem hj)
  rw [hqq, h2] at hu
  cases hu
  cases hg
  exact hv

section
variable {P : Program} {w0 : World} {n : Nat} {env : Env} {st : St} {o : Oper} {K : D → St → Prop}

/-- A new block behind a draw, of old cells and new ones. -/
theorem grown_own {G : Gh} {w : World} (h : Rel w0 G st w) {e k cp m : Nat} {zv : Value} (k0 : 0 < k) (hzs : zv.cells.size = k) (olds news : List Value) (cs : List D) (hv : VRs G cs (olds ++ news)) (h1 : ∀ u ∈ olds ++ news, u.oneCell' = true) (hz1 : ∀ u ∈ zv.cells.toList, u.oneCell' = true)
    (hl : (olds ++ news).length = m * k) (hcp : m ≤ cp) (hcm : cp ≤ maxLen) :
    ∃ G', G.le G' ∧ Rel w0 G' (st.setH G.nx (some cs)) (w.drew.alloc (.cells (olds.toArray ++ news.toArray ++ Builtin.zeroCells zv.cells (cp - m)) e)) ∧ VR G' (.mrow G.nx 0 m cp) (.slice (some ⟨w.heap.size, 0, none⟩) m cp) := by
  let cl : List Value := olds ++ news ++ (Builtin.zeroCells zv.cells (cp - m)).toList
  have hzc : ∀ u ∈ (Builtin.zeroCells zv.cells (cp - m)).toList, u.oneCell' = true := fun u hu => by
    simp only [Builtin.zeroCells, Array.toList_map, Array.toList_range, List.mem_map, List.mem_range] at hu
    obtain ⟨q, hq, rfl⟩ := hu
    have hlt : q % zv.cells.size < zv.cells.size := Nat.mod_lt _ (by omega)
    rw [getElem!_pos zv.cells _ hlt]
    exact hz1 _ (by rw [Array.mem_toList_iff]; exact Array.getElem_mem hlt)
  obtain ⟨G', hle, hrel, hnx, hrho⟩ := (h.drawn (w.drawn + 1)).own (w1 := w.drew.alloc (.cells (olds.toArray ++ news.toArray ++ Builtin.zeroCells zv.cells (cp - m)) e)) cl cs e (by rw [hv.1]; simp only [cl]; simp) (fun u hu => by
      simp only [cl, List.mem_append] at hu
      rcases hu with hu | hu
      · exact h1 u (List.mem_append.2 hu)
      · exact hzc u hu) (fun j d u a b => by
      have hj : j < (olds ++ news).length := by rw [← hv.1]; exact (List.getElem?_eq_some_iff.1 a).1
      simp only [cl] at b
      rw [List.getElem?_append_left hj] at b
      exact hv.2 j d u a b) (by show w.heap.push _ = w.heap.push _; congr 2; simp [cl]) rfl rfl rfl
  refine ⟨G', hle, hrel, ?_⟩
  have : G'.rho G.nx = w.heap.size := hrho
  rw [← this]
  exact .mrow G.nx 0 m cp (by rw [hnx]; exact Nat.lt_succ_self _) hcp hcm

theorem zv_cells_one {z : List D} {zv : Value} (hzz : cellsD (.v zv) = z) (hz1 : ∀ d ∈ z, oneD d = true) : ∀ u ∈ zv.cells.toList, u.oneCell' = true := by
  have hzc := cellsD_ok (VR.v (G := ⟨fun _ => none, fun _ => 0, fun _ => (0, 0, 0), 0⟩) zv)
  rw [hzz] at hzc
  exact vrs_one hzc hz1

/-- A slice literal, this call's own. -/
theorem zv_buildSlice_own {t e k by_ len : Nat} {z : List D} {xs : List Operand} {ds : List D} (hop : o.op = .buildSlice t len (xs.zipIdx.map fun p => (p.2, p.1)).toArray) (hlen : xs.length = len)
    (he : ElemOk P e k by_ z) (ht : P.underlying t = some (.slice e)) (hx : evs env xs = some ds) (hk : ∀ d ∈ ds, (cellsD d).length = k ∧ ∀ c ∈ cellsD d, oneD c = true) (hsmall : len * k ≤ 2 ^ 24)
    (h : ∀ id, Fresh st id → K (.mrow id 0 len len) (st.setH id (some (ds.map cellsD).flatten))) : ZVal P w0 n o env st K := by
  intro G w a hr her
  obtain ⟨⟨i, zv, hi, hik, hby, hz, hzs, hzz⟩, k0, b0⟩ := he
  have hvs := evs_ok her hx
  have hdl : ds.length = len := by rw [hvs.1, List.length_map, hlen]
  have hcs : ∀ v ∈ xs.map a.eval, v.cells.size = k := fun v hv => by
    obtain ⟨j, hj⟩ := List.mem_iff_getElem?.1 hv
    have hlt : j < ds.length := by rw [hvs.1]; exact (List.getElem?_eq_some_iff.1 hj).1
    have := cellsD_ok (hvs.2 j _ v (List.getElem?_eq_getElem hlt) hj)
    rw [← Array.length_toList, ← this.1]; exact (hk _ (List.getElem_mem hlt)).1
  have hparts : ((xs.zipIdx.map fun p => (p.2, p.1)).toArray.map fun (p : Nat × Operand) => (p.1, a.eval p.2)).toList = ((xs.map a.eval).zipIdx 0).map fun p => (p.2, p.1) := by
    simp [List.zipIdx_map, Function.comp_def]
  have hcellsFlat : ∀ (ds : List D) (vs : List Value), VRs G ds vs → VRs G (ds.map cellsD).flatten (vs.flatMap (·.cells.toList)) := by
    intro ds
    induction ds with
    | nil => intro vs hv; have : vs = [] := List.eq_nil_of_length_eq_zero hv.1.symm; subst this; exact VRs.nil G
    | cons d ds ih =>
      intro vs hv
      cases vs with
      | nil => have := hv.1; simp at this
      | cons v vs =>
        have h1 := cellsD_ok (hv.2 0 d v rfl rfl)
        have h3 := ih vs ⟨by have := hv.1; simpa using this, fun j d' u' a b => hv.2 (j + 1) d' u' (by simpa using a) (by simpa using b)⟩
        simpa using h1.append h3
  have hflat := hcellsFlat ds _ hvs
  have hone : ∀ u ∈ (xs.map a.eval).flatMap (·.cells.toList), u.oneCell' = true := vrs_one hflat (fun c hc => by
    obtain ⟨l, hl, hcl⟩ := List.mem_flatten.1 hc
    obtain ⟨d, hd, rfl⟩ := List.mem_map.1 hl
    exact (hk d hd).2 c hcl)
  have hrun : (execOp a.eval o).run P w = .ok (.value (.slice (some ⟨w.heap.size, 0, none⟩) len len)) (w.alloc (.cells ((xs.map a.eval).flatMap (·.cells.toList)).toArray e)) := by
    by_cases hpos : len = 0
    · subst hpos
      have hx0 : xs = [] := List.eq_nil_of_length_eq_zero hlen
      subst hx0
      simp [execOp, hop, Instr.buildSlice, run_underlying ht, sizeOf, typeInfo, hi, Instr.fill, newRow, Array.eq_empty_of_size_eq_zero (show (Array.range 0).size = 0 by simp)]
    · have hpos : ¬ (len * k = 0) := Nat.mul_ne_zero hpos (by omega)
      have hfill := fill_all k (xs.map a.eval) 0 [] (((Array.range (len * k)).map (zv.cells[· % zv.cells.size]!)).toList) ((Array.range (len * k)).map (zv.cells[· % zv.cells.size]!)) hcs rfl (by simp) (by simp [hlen])
      have hsm : ¬ (len * i.size > 2 ^ 24) := by rw [hik]; omega
      have hb : (Instr.buildSlice t len ((xs.zipIdx.map fun p => (p.2, p.1)).toArray.map fun (p : Nat × Operand) => (p.1, a.eval p.2))).run P w = .ok (.slice (some ⟨w.heap.size, 0, none⟩) len len) (w.alloc (.cells ((xs.map a.eval).flatMap (·.cells.toList)).toArray e)) := by
        unfold Instr.buildSlice
        simp only [Sem.run_bind, run_underlying ht, Result.andThen_ok, sizeOf, typeInfo, run_program, hi, Sem.run_pure, hik]
        rw [if_neg (by omega)]
        simp only [Sem.run_bind, Sem.run_pure, Result.andThen_ok, if_neg hpos, zeroValue, typeInfo, run_program, hi, hz]
        rw [hparts, hfill]
        simp [newRow]
      simp only [execOp, hop, Sem.run_bind]
      rw [hb]; rfl
  obtain ⟨G', hle, hrel, hnx, hrho⟩ := hr.own (w1 := w.alloc (.cells ((xs.map a.eval).flatMap (·.cells.toList)).toArray e)) _ (ds.map cellsD).flatten e (by rw [hflat.1]; exact Nat.le_refl _) hone hflat.2 rfl rfl rfl rfl
  refine ⟨_, _, G', _, _, hrun, hle, hrel, ?_, h _ hr.freshName⟩
  rw [← hrho]
  have hmx : len ≤ maxLen := by
    have : len * 1 ≤ len * k := Nat.mul_le_mul_left _ k0
    simp only [maxLen]; omega
  exact .mrow G.nx 0 len len (by rw [hnx]; exact Nat.lt_succ_self _) (Nat.le_refl _) hmx

end
end Go.Proofs.Zm
/- The framework's seventeenth part: aggregates made, compared; pointers and nil; results that lie in memory; strings as bytes. -/
namespace Go.Proofs.Zm
open Go.RowKit
set_option linter.unusedVariables false
set_option linter.unusedSimpArgs false

/-- A struct's fields: where each begins, how many cells it has. -/
def structIs (P : Program) (t : TypeId) (pl : List (Nat × Nat)) : Prop :=
  ∃ fs : Array Field, P.underlying t = some (.struct fs) ∧ (fs.all fun f => (P.info? f.type).isSome) = true ∧ (fs.toList.map fun f => (f.offset, ((P.info? f.type).map (·.size)).getD 0)) = pl

theorem run_places {P : Program} (w : World) : ∀ (l : List Field), (∀ f ∈ l, (P.info? f.type).isSome = true) →
    (l.mapM (fun f => do pure (f.offset, ← sizeOf f.type)) : Sem (List (Nat × Nat))).run P w = .ok (l.map fun f => (f.offset, ((P.info? f.type).map (·.size)).getD 0)) w
  | [], _ => by simp
  | f :: l, h => by
    have hf := h f (by simp)
    obtain ⟨i, hi⟩ := Option.isSome_iff_exists.1 hf
    have ih := run_places (P := P) w l (fun g hg => h g (by simp [hg]))
    rw [List.mapM_cons]
    simp only [Sem.run_bind, sizeOf, typeInfo, run_program, hi, Sem.run_pure, Result.andThen_ok]
    have ih' : Sem.run P (List.mapM (fun f => do
          let __do_lift ← sizeOf f.type
          pure (f.offset, __do_lift)) l) w = .ok (l.map fun f => (f.offset, ((P.info? f.type).map (·.size)).getD 0)) w := ih
    simp only [sizeOf, typeInfo] at ih'
    rw [ih']
    simp [hi]

/-- Parts laid into cells. -/
def fillD (pl : List (Nat × Nat)) (cells : List D) : List (Nat × D) → Option (List D)
  | [] => some cells
  | (i, d) :: r => match pl[i]? with
    | none => none
    | some (off, size) => if (cellsD d).length = size ∧ off + size ≤ cells.length then fillD pl (cells.take off ++ cellsD d ++ cells.drop (off + size)) r else none

theorem fill_ok {G : Gh} {pl : List (Nat × Nat)} : ∀ (parts : List (Nat × D)) (vs : List (Nat × Value)) (cells : List D) (cv : Array Value) (out : List D), parts.map Prod.fst = vs.map Prod.fst → VRs G (parts.map Prod.snd) (vs.map Prod.snd) → VRs G cells cv.toList → fillD pl cells parts = some out →
    ∃ ov : Array Value, Instr.fill (pl.toArray[·]?) cv vs = some ov ∧ VRs G out ov.toList
  | [], vs, cells, cv, out, hi, hv, hc, hf => by
    have : vs = [] := by cases vs <;> simp_all
    subst this
    cases hf
    exact ⟨cv, rfl, hc⟩
  | (i, d) :: r, vs, cells, cv, out, hi, hv, hc, hf => by
    cases vs with
    | nil => simp at hi
    | cons p vs =>
      obtain ⟨i', u⟩ := p
      simp only [List.map_cons, List.cons.injEq] at hi
      obtain ⟨rfl, hi⟩ := hi
      unfold fillD at hf
      cases hp : pl[i]? with
      | none => rw [hp] at hf; cases hf
      | some q =>
        obtain ⟨off, size⟩ := q
        rw [hp] at hf
        simp only at hf
        split at hf
        · rename_i hcond
          have hu := cellsD_ok (hv.2 0 d u rfl rfl)
          have hul : u.cells.toList.length = size := by rw [← hu.1]; exact hcond.1
          have hcl : cv.size = cells.length := by rw [← Array.length_toList, hc.1]
          have hfold : u.cells.zipIdx.foldl (fun cs (p : Value × Nat) => cs.setIfInBounds (off + p.2) p.1) cv = (cv.toList.take off ++ u.cells.toList ++ cv.toList.drop (off + u.cells.toList.length)).toArray := by
            rw [← Array.foldl_toList, Array.toList_zipIdx, foldl_set _ 0 off cv (by rw [hul]; omega)]
            simp
          obtain ⟨ov, h1, h2⟩ := fill_ok r vs _ (cv.toList.take off ++ u.cells.toList ++ cv.toList.drop (off + u.cells.toList.length)).toArray out hi
            ⟨by have := hv.1; simpa using this, fun j d' u' a b => hv.2 (j + 1) d' u' (by simpa using a) (by simpa using b)⟩
            (by
              refine VRs.append (VRs.append ⟨by simp [hc.1], fun j d' u' a b => ?_⟩ hu) ⟨by simp [hc.1, hul], fun j d' u' a b => ?_⟩
              · rw [List.getElem?_take] at a b
                split at a
                · rename_i hj; rw [if_pos hj] at b; exact hc.2 j d' u' a b
                · cases a
              · rw [List.getElem?_drop] at a b
                rw [hul] at b
                exact hc.2 _ d' u' a b) hf
          refine ⟨ov, ?_, h2⟩
          unfold Instr.fill
          have hpl : pl.toArray[i]? = some (off, size) := by simpa using hp
          simp only [hpl]
          have hus : u.cells.size = size := by rw [← Array.length_toList]; exact hul
          rw [if_neg (by simp [hus]; omega), hfold]
          exact h1
        · cases hf

section
variable {P : Program} {w0 : World} {n : Nat} {env : Env} {st : St} {o : Oper} {K : D → St → Prop}

/-- A struct's value out of its parts. -/
theorem zp_build {t k by_ : Nat} {z out : List D} {pl : List (Nat × Nat)} {xs : List (Nat × Operand)} {ds : List D} (hop : o.op = .build t xs.toArray) (he : ElemOk P t k by_ z) (hs : structIs P t pl) (hx : evs env (xs.map Prod.snd) = some ds)
    (hf : fillD pl z ((xs.map Prod.fst).zip ds) = some out) : ZPure0 P o env (.agg out) := fun G n a her => by
  obtain ⟨⟨i, zv, hi, hik, hby, hz, hzs, hzz⟩, k0, b0⟩ := he
  obtain ⟨fs, hu, hall, hpl⟩ := hs
  have hvs := evs_ok her hx
  have hzc := cellsD_ok (VR.v (G := G) zv)
  rw [hzz] at hzc
  have hdl : ds.length = xs.length := by rw [hvs.1]; simp
  obtain ⟨ov, h1, h2⟩ := fill_ok (G := G) (pl := pl) ((xs.map Prod.fst).zip ds) (xs.map fun p => (p.1, a.eval p.2)) z zv.cells out
    (by rw [List.map_fst_zip (by simp [hdl])]; simp [Function.comp_def])
    (by rw [List.map_snd_zip (by simp [hdl])]; simpa [Function.comp_def] using hvs) hzc hf
  refine ⟨.agg ov, ?_, fun w => ?_⟩
  · have := VR.agg (G := G) out ov.toList h2.1 h2.2
    simpa using this
  · have hm : (fs.mapM fun f => do pure (f.offset, ← sizeOf f.type) : Sem (Array (Nat × Nat))).run P w = .ok pl.toArray w := by
      rw [← hpl, Array.mapM_eq_mapM_toList]
      refine (run_bind' (k := fun x => pure x.toArray) (run_places (P := P) w fs.toList (fun f hf => ?_))).trans rfl
      rw [Array.all_eq_true'] at hall
      exact hall f (by simpa using hf)
    have hb : (Instr.build t (xs.map fun p => (p.1, a.eval p.2)).toArray).run P w = .ok (.agg ov) w := by
      unfold Instr.build
      simp only [Sem.run_bind, zeroValue, typeInfo, run_program, hi, Sem.run_pure, Result.andThen_ok, hz, run_underlying hu]
      rw [hm]
      simp only [Result.andThen_ok]
      rw [h1]
      rfl
    simp only [execOp, hop, Sem.run_bind]
    have : (xs.toArray.map fun (p : Nat × Operand) => (p.1, a.eval p.2)) = (xs.map fun p => (p.1, a.eval p.2)).toArray := by simp
    rw [this, hb]; rfl

/-- A pointer that is one, and nil. -/
theorem zp_ptr_nil {op : BinOp} {t t' : TypeId} {x : Operand} {d : D} {r : Bool} (hop : o.op = .binOp op t x (.const (.pointer none)) t') (hx : ev env x = some d) (ht : P.underlying t = some (.pointer (P.pointee t)))
    (hr : (op = .eql ∧ r = false) ∨ (op = .neq ∧ r = true)) (hd : (∃ id off, d = .ptr id off) ∨ ∃ cs, d = .ref cs) : ZPure0 P o env (.v (.bool r)) := fun G n a her => by
  have hv := ev_ok her hx
  generalize hu : a.eval x = u at hv
  have ⟨q, hq⟩ : ∃ q, u = .pointer (some q) := by
    rcases hd with ⟨id, off, rfl⟩ | ⟨cs, rfl⟩
    · cases hv; exact ⟨_, rfl⟩
    · cases hv; exact ⟨_, rfl⟩
  subst hq
  refine ⟨_, .v _, fun w => ?_⟩
  have hg : (eqGuard op t x (.const (.pointer none)) (.pointer (some q)) (.pointer none)).run P w = .ok () w := by unfold eqGuard; cases op <;> simp
  have hc : a.eval (.const (.pointer none)) = .pointer none := rfl
  simp only [execOp, hop, hu, hc, Sem.run_bind, hg, Result.andThen_ok]
  rcases hr with ⟨rfl, rfl⟩ | ⟨rfl, rfl⟩
  · rw [run_eql_pointer_nil w t _ ht]; rfl
  · rw [run_neq_pointer_nil w t _ ht]; rfl
theorem resD_cell_agg {rs : List ResultVar} {a t id k : Nat} {cs ds : List D} (h : zlook env a = some (.ptr id 0)) (hs : shapeIs P t true k) (hH : st.H id = some cs) (hk : cs.length = k) (hr : ResD P rs env st ds) : ResD P (.cell a t :: rs) env st (.agg cs :: ds) := by
  intro w0 G n tmps w hrel he
  obtain ⟨us, hu, hrun⟩ := hr w0 G n tmps w hrel he
  obtain ⟨u, hu1, hv⟩ := he.at_ a _ h
  obtain ⟨⟨i, hi, hik⟩, hagg, _⟩ := hs
  cases hv with
  | ptr _ _ hid =>
    obtain ⟨c, e, hc, hl, hc1, hcv⟩ := hrel.ex id cs hH
    have hlen : (c.take k).length = k := by simp; omega
    have hld := run_loadCells_list (P := P) (w := w) ⟨G.rho id, 0, none⟩ (c.take k) (fun j v hj => by
      rw [List.getElem?_take] at hj
      split at hj
      · rw [add_plain, cell_heap hc]; exact hj
      · cases hj)
    rw [hlen] at hld
    refine ⟨.agg (c.take k).toArray :: us, VRs.cons (.agg _ _ (by rw [hlen, hk]) fun j d v a1 a2 => ?_) hu, ?_⟩
    · rw [List.getElem?_take] at a2
      split at a2
      · exact hcv j d v a1 a2
      · cases a2
    rw [List.mapM_cons]
    refine (run_bind' (w1 := w) (a := .agg (c.take k).toArray) ?_).trans ?_
    · simp [hu1, asAddr, loadVar, hagg w, sizeOf, typeInfo, hi, hik, hld]
    refine (run_bind' hrun).trans ?_
    rfl
end
end Go.Proofs.Zm
/- The framework's eighteenth part: new cells that are only read: boxes, bytes of strings. -/
namespace Go.Proofs.Zm
open Go.RowKit
set_option linter.unusedVariables false
set_option linter.unusedSimpArgs false

section
variable {w0 : World} {G : Gh} {st : St} {w w1 : World}

/-- A new block that is only read. -/
theorem Rel.news (h : Rel w0 G st w) (c : List Value) (e : TypeId) (fr : Nat × Nat) (hw : w1.heap = w.heap.push (.cells c.toArray e fr)) (ho : w1.os = w.os) (ht : w1.tape = w.tape) (hp : w1.output = w.output) :
    ∃ G', G.le G' ∧ Rel w0 G' st w1 ∧ G'.nx = G.nx ∧ ∀ j u, c[j]? = some u → G'.M ⟨w.heap.size, j, none⟩ = some u := by
  have hold : ∀ k, k < w.heap.size → w1.heap[k]? = w.heap[k]? := fun k hk => by
    rw [hw, Array.getElem?_push_lt hk, Array.getElem?_eq_getElem hk]
  have hnew : w1.heap[w.heap.size]? = some (.cells c.toArray e fr) := by rw [hw]; simp
  have hMb : ∀ a u, G.M a = some u → a.block < w.heap.size := fun a u hu => cell_lt (h.mem a u hu)
  let G' : Gh := { M := fun a => if a.block = w.heap.size then (if a.spot = none then c[a.off]? else none) else G.M a, rho := G.rho, tau := G.tau, nx := G.nx }
  have hMo : ∀ a, a.block ≠ w.heap.size → G'.M a = G.M a := fun a hne => by simp [G', hne]
  have hle : G.le G' := ⟨fun a u hu => by rw [hMo a (Nat.ne_of_lt (hMb a u hu))]; exact hu, fun _ _ => rfl, fun _ _ => rfl, Nat.le_refl _⟩
  have hxb : ∀ id cs, st.H id = some cs → G.rho id < w.heap.size := fun id cs e1 => by
    obtain ⟨c', e', h1, _⟩ := h.ex id cs e1
    exact (Array.getElem?_eq_some_iff.1 h1).1
  have htb : ∀ t, st.T t = true → (G.tau t).2.2 ≠ 0 → (G.tau t).1 < w.heap.size := fun t e1 e2 => by
    obtain ⟨c', e', h1, _⟩ := h.tk t e1 e2
    exact (Array.getElem?_eq_some_iff.1 h1).1
  refine ⟨G', hle, ?_, rfl, fun j u hj => by simp [G', hj]⟩
  exact {
    mem := fun a u hu => by
      by_cases hb : a.block = w.heap.size
      · simp only [G', hb, if_true] at hu
        split at hu
        · rename_i hs
          obtain ⟨b, off, spot⟩ := a
          simp only at hb hs hu
          subst hs
          subst hb
          rw [cell_heap hnew]; exact hu
        · cases hu
      · rw [hMo a hb] at hu
        rw [cell_same (hold _ (hMb a u hu))]
        exact h.mem a u hu
    nxH := h.nxH
    nxT := h.nxT
    nx0 := h.nx0
    T0 := h.T0
    ex := fun id cs e1 => by
      obtain ⟨c', e', h1, h2, h3, h4⟩ := h.ex id cs e1
      exact ⟨c', e', (hold _ (hxb id cs e1)).trans h1, h2, h3, fun j d u a b => (h4 j d u a b).mono hle⟩
    exM := fun id cs a u e1 hu => by
      by_cases hb : a.block = w.heap.size
      · rw [hb]; have := hxb id cs e1; exact fun he => by rw [show G'.rho id = G.rho id from rfl] at he; omega
      · rw [hMo a hb] at hu; exact h.exM id cs a u e1 hu
    exB := h.exB
    exI := h.exI
    tk := fun t e1 e2 => by
      obtain ⟨c', e', h1, h2⟩ := h.tk t e1 e2
      exact ⟨c', e', (hold _ (htb t e1 e2)).trans h1, h2⟩
    tkM := fun t a u e1 e2 hu hb => by
      have hlt := htb t e1 e2
      have hne : a.block ≠ w.heap.size := by
        rw [hb]; exact Nat.ne_of_lt hlt
      rw [hMo a hne] at hu
      exact h.tkM t a u e1 e2 hu hb
    tkB := h.tkB
    tkI := h.tkI
    tkE := h.tkE
    mp := h.mp.frame hle (maps_push hw)
    below := below_push h.below hw ho ht hp }
end
section
variable {P : Program} {w0 : World} {n : Nat} {env : Env} {st : St} {o : Oper} {K : D → St → Prop}

/-- A string, by its bytes. -/
abbrev strD (l : List UInt8) : D := .v (.string ⟨l.toArray⟩)

theorem bytearray_append (l m : List UInt8) : (⟨l.toArray⟩ : ByteArray) ++ ⟨m.toArray⟩ = ⟨(l ++ m).toArray⟩ := by
  apply ByteArray.ext
  simp
/-- Strings behind each other; a string's part. -/
theorem zp_strcat {t t' : TypeId} {x y : Operand} {l m : List UInt8} (hop : o.op = .binOp .add t x y t') (hx : ev env x = some (strD l)) (hy : ev env y = some (strD m)) (hs : l.length + m.length ≤ 9223372036854775807) : ZPure0 P o env (strD (l ++ m)) := by
  have := zp_str (P := P) (r := .string (⟨l.toArray⟩ ++ ⟨m.toArray⟩)) hop hx hy (.inr (.inr (.inr (.inr (.inr (.inr ⟨rfl, rfl, by simp [ByteArray.size]; omega⟩))))))
  rwa [bytearray_append] at this
theorem zp_streq {op : BinOp} {t t' : TypeId} {x y : Operand} {l m : List UInt8} {r : Bool} (hop : o.op = .binOp op t x y t') (hx : ev env x = some (strD l)) (hy : ev env y = some (strD m)) (hr : (op = .eql ∧ r = (l == m)) ∨ (op = .neq ∧ r = !(l == m))) : ZPure0 P o env (.v (.bool r)) := by
  refine zp_str hop hx hy ?_
  rcases hr with ⟨rfl, rfl⟩ | ⟨rfl, rfl⟩
  · exact .inl ⟨rfl, by simp⟩
  · exact .inr (.inl ⟨rfl, by simp⟩)

/-- A new variable that nobody writes. -/
theorem zv_boxRef {e : TypeId} {x : Operand} {d : D} (hop : o.op = .box e x) (hx : ev env x = some d) (h : K (.ref (cellsD d)) st) : ZVal P w0 n o env st K := by
  intro G w a hr her
  have hv := cellsD_ok (ev_ok her hx)
  have hrun : (execOp a.eval o).run P w = .ok (.value (.pointer (some ⟨w.heap.size, 0, none⟩))) (w.alloc (.cells (a.eval x).cells e)) := by
    simp [execOp, hop, Instr.box, newVar, newRow]
  obtain ⟨G', hle, hrel, hnx, hM⟩ := hr.news (w1 := w.alloc (.cells (a.eval x).cells e)) (a.eval x).cells.toList e (0, 0) rfl rfl rfl rfl
  refine ⟨_, _, G', _, st, hrun, hle, hrel, ?_, h⟩
  refine .ref _ _ (fun j => (a.eval x).cells.toList.getD j aCell) (fun j hj => ?_) (fun j d hj => ?_)
  · have hlt : j < (a.eval x).cells.toList.length := by rw [← hv.1]; exact hj
    rw [add_plain, getD_in hlt]
    exact hM j _ (List.getElem?_eq_getElem hlt)
  · have hlt : j < (a.eval x).cells.toList.length := by rw [← hv.1]; exact (List.getElem?_eq_some_iff.1 hj).1
    rw [getD_in hlt]
    exact (hv.2 j d _ hj (List.getElem?_eq_getElem hlt)).mono hle
end
end Go.Proofs.Zm
/- The framework's nineteenth part: own rows that are cut, grown by noughts, appended to in place; nil's capacity and cuts. -/
namespace Go.Proofs.Zm
open Go.RowKit
set_option linter.unusedVariables false
set_option linter.unusedSimpArgs false

section
variable {P : Program} {w0 : World} {n : Nat} {env : Env} {st : St} {o : Oper} {K : D → St → Prop}

theorem zp_cap_nil {t e : TypeId} {x : Operand} {m c : Nat} (hop : o.op = .call { callee := .builtin .cap, args := #[x], argTypes := #[t] }) (ht : P.underlying t = some (.slice e)) (hx : ev env x = some (.v (.slice none m c))) : ZPure0 P o env (.v (.int .i64 c)) := fun G n a he => by
  have hv := (ev_ok he hx).eq_v
  refine ⟨_, .v _, fun w => ?_⟩
  simp_all [execOp, resolve, invoke, builtin, Builtin.cap_, run_underlying ht, goInt]
theorem zp_cut_nil {t e : TypeId} {i : TypeInfo} {x : Operand} {lo hi : Option Operand} (hop : o.op = .slice t x lo hi none) (ht : P.underlying t = some (.slice e)) (hi' : P.info? e = some i)
    (hx : ev env x = some (.v (.slice none 0 0))) (hlo : evB env lo 0 0) (hhi : evB env hi 0 0) : ZPure0 P o env (.v (.slice none 0 0)) := fun G n a he => by
  have hu := (ev_ok he hx).eq_v
  refine ⟨_, .v _, fun w => ?_⟩
  have := run_cut (P := P) ht hi' none 0 0 _ _ 0 0 (evB_ok he hlo) (evB_ok he hhi) (Nat.le_refl _) (Nat.le_refl _) w
  simp only [execOp, hop, hu, Option.map_none, Sem.run_bind, this]
  rfl
theorem zp_cut_mrow {t e : TypeId} {i : TypeInfo} {x : Operand} {lo hi : Option Operand} {id off m c k l h : Nat} (hop : o.op = .slice t x lo hi none) (ht : P.underlying t = some (.slice e)) (hi' : P.info? e = some i) (hk : i.size = k)
    (hx : ev env x = some (.mrow id off m c)) (hlo : evB env lo 0 l) (hhi : evB env hi m h) (h1 : l ≤ h) (h2 : h ≤ c) (h3 : l = 0 ∨ l < c) : ZPure0 P o env (.mrow id (off + l * k) (h - l) (c - l)) := fun G n a he => by
  have hv := ev_ok he hx
  generalize hu : a.eval x = u at hv
  cases hv with
  | mrow _ _ _ _ hid hc hm =>
    refine ⟨_, .mrow id (off + l * k) (h - l) (c - l) hid (by omega) (by omega), fun w => ?_⟩
    have := run_cut (P := P) ht hi' (some ⟨G.rho id, off, none⟩) m c _ _ l h (evB_ok he hlo) (evB_ok he hhi) h1 h2 w
    simp only [execOp, hop, hu, Option.map_none, Sem.run_bind, this, hk]
    have hadd : (⟨G.rho id, off, none⟩ : Addr).add (l * k) = ⟨G.rho id, off + l * k, none⟩ := by unfold Addr.add; split <;> simp_all
    rcases h3 with rfl | h3
    · by_cases hc0 : c = 0
      · subst hc0
        simp [sliced]
      · simp [sliced]
        intro _
        simp [Addr.add]
    · have : ¬ (c - l = 0) := by omega
      simp [sliced, hadd]
      omega

/-- 'append([]T(nil), make([]T, m)...)': this call's own. -/
theorem zv_zeros_own {t ti e k by_ : Nat} {kk kx : IntKind} {z : List D} {s x : Operand} {m : Int} (hop : o.op = .call { callee := .builtin .append, args := #[s, x], argTypes := #[t, ti] })
    (he : ElemOk P e k by_ z) (hz1 : ∀ d ∈ z, oneD d = true) (ht : P.underlying t = some (.slice e)) (hti : P.underlying ti = some (.int kk)) (hs : ev env s = some (.v (.slice none 0 0))) (hx : ev env x = some (.v (.int kx m))) (h0 : 0 < m) (hb : m.toNat * by_ ≤ 140737488355328)
    (h : ∀ id c, Fresh st id → m.toNat ≤ c → K (.mrow id 0 m.toNat c) (st.setH id (some (List.replicate m.toNat z).flatten))) : ZVal P w0 n o env st K := by
  intro G w a hr her
  have hvs := (ev_ok her hs).eq_v
  have hvx := (ev_ok her hx).eq_v
  obtain ⟨⟨i, zv, hi, hk, hby, hz, hzs, hzz⟩, k0, b0⟩ := he
  obtain ⟨m', rfl⟩ := Int.eq_ofNat_of_zero_le (show 0 ≤ m by omega)
  simp only [Int.toNat_natCast] at hb h
  have hrun : ∀ {v' w'}, (Builtin.append_ #[t, ti] o.type #[.slice none 0 0, .int kx (m' : Int)]).run P w = .ok v' w' → (execOp a.eval o).run P w = .ok (.value v') w' := fun hq => by
    simp [execOp, hop, resolve, invoke, builtin, hvs, hvx, hq]
  have hmax : m' ≤ 140737488355328 := Nat.le_trans (Nat.le_mul_of_pos_right _ b0) hb
  have hzone := zv_cells_one hzz hz1
  have hzc := cellsD_ok (VR.v (G := G) zv)
  rw [hzz] at hzc
  have hzl : z.length = k := by rw [hzc.1, Array.length_toList, hzs]
  have hcell : ∀ q, q < m' * k → (Builtin.zeroCells zv.cells m').toList[q]? = zv.cells.toList[q % k]? := fun q hq => by
    rw [← hzs] at hq ⊢
    simp only [Builtin.zeroCells, Array.toList_map, Array.toList_range, List.getElem?_map, List.getElem?_range hq, Option.map_some]
    have hlt : q % zv.cells.size < zv.cells.size := Nat.mod_lt _ (by omega)
    rw [Array.getElem?_toList, Array.getElem?_eq_getElem hlt, getElem!_pos zv.cells _ hlt]
  have hzlen : (Builtin.zeroCells zv.cells m').toList.length = m' * k := by rw [Array.length_toList, size_zeroCells, hzs]
  have h1 : ∀ u ∈ (Builtin.zeroCells zv.cells m').toList, u.oneCell' = true := fun u hu => by
    obtain ⟨q, hq⟩ := List.mem_iff_getElem?.1 hu
    have hql : q < m' * k := by rw [← hzlen]; exact (List.getElem?_eq_some_iff.1 hq).1
    rw [hcell q hql] at hq
    exact hzone u (List.mem_of_getElem? hq)
  have hfl : (List.replicate m' z).flatten.length = m' * k := by simp [List.length_flatten, hzl]
  have hflat : VRs G (List.replicate m' z).flatten ([] ++ (Builtin.zeroCells zv.cells m').toList) := by
    refine ⟨by rw [List.nil_append, hfl, hzlen], fun q d u q1 q2 => ?_⟩
    have hq : q < m' * k := by rw [← hfl]; exact (List.getElem?_eq_some_iff.1 q1).1
    have hi' : q / k < m' := Nat.div_lt_of_lt_mul (by rw [Nat.mul_comm]; exact hq)
    have hqq : q / k * k + q % k = q := by rw [Nat.mul_comm]; exact Nat.div_add_mod q k
    have hqz : q % k < z.length := by rw [hzl]; exact Nat.mod_lt _ k0
    have hg := flatten_get (k := k) (List.replicate m' z) (q / k) (q % k) z z[q % k] (fun x hx => by rw [List.eq_of_mem_replicate hx]; exact hzl) (by rw [List.getElem?_replicate, if_pos hi']) (List.getElem?_eq_getElem hqz)
    rw [hqq, q1] at hg
    cases hg
    rw [List.nil_append, hcell q hq] at q2
    exact hzc.2 _ _ u (List.getElem?_eq_getElem hqz) q2
  have R := appRuns_zeros (w := w) (kx := kx) hi hk hby hz hzs k0 b0 ht hti o.type m' hb h1
  have hq := R.grow none 0 0 [] zv i hi hz (by simp [Builtin.firstCells, loadCells, loadCellsFrom]) (by omega) (by simpa using hb)
  have hge := grownCap_ge w m' 0 e
  have hcm := grownCap_le_maxLen w m' 0 e (by unfold maxLen; omega)
  simp only [Nat.zero_add] at hq
  obtain ⟨G', hle, hrel, hv⟩ := grown_own (e := e) (cp := grownCap w m' 0 e) (m := m') hr k0 hzs [] (Builtin.zeroCells zv.cells m').toList _ hflat (fun u hu => h1 u (by simpa using hu)) hzone (by simpa using hzlen) hge hcm
  exact ⟨_, _, G', _, _, hrun hq, hle, hrel, hv, h _ _ hr.freshName hge⟩

theorem St.setH_same {s : St} {id : Nat} {cs : List D} (h : s.H id = some cs) : s.setH id (some cs) = s := by
  unfold St.setH
  congr 1
  funext i
  by_cases hi : i = id
  · subst hi; simp [h]
  · simp [hi]

/-- 'append(s, x...)': s this call's own, with room. -/
theorem zv_append_room {t e k by_ tk id m c : Nat} {z : List D} {s x : Operand} {cs : List D} {ys : List (List D)} (hop : o.op = .call { callee := .builtin .append, args := #[s, x], argTypes := #[t, t] })
    (he : ElemOk P e k by_ z) (ht : P.underlying t = some (.slice e)) (hs : ev env s = some (.mrow id 0 m c)) (hH : st.H id = some cs) (hcs : (m + ys.length) * k ≤ cs.length) (hx : ev env x = some (.row ys k tk)) (hc : m + ys.length ≤ c)
    (h : K (.mrow id 0 (m + ys.length) c) (st.setH id (some (cs.take (m * k) ++ ys.flatten ++ cs.drop ((m + ys.length) * k))))) : ZVal P w0 n o env st K := by
  intro G w a hr her
  have hvs := ev_ok her hs
  have hvx := ev_ok her hx
  generalize hus : a.eval s = us at hvs
  generalize hux : a.eval x = ux at hvx
  have hrun : ∀ {v' w'}, (Builtin.append_ #[t, t] o.type #[us, ux]).run P w = .ok v' w' → (execOp a.eval o).run P w = .ok (.value v') w' := fun hq => by
    simp [execOp, hop, resolve, invoke, builtin, hus, hux, hq]
  have he' := he
  obtain ⟨⟨i, zv, hi, hk, hby, hz, hzs, hzz⟩, k0, b0⟩ := he
  cases hvs with
  | mrow _ _ _ _ hid hmc hm63 =>
    obtain ⟨cc, e', hcc, hl, hc1, hcv⟩ := hr.ex id cs hH
    have hmk : (m + ys.length) * k = m * k + ys.length * k := Nat.add_mul _ _ _
    cases hvx with
    | rowNil =>
      have hst : st.setH id (some (cs.take (m * k) ++ ([] : List (List D)).flatten ++ cs.drop ((m + ([] : List (List D)).length) * k))) = st := by
        simp only [List.flatten_nil, List.append_nil, List.length_nil, Nat.add_zero, List.take_append_drop]
        exact St.setH_same hH
      rw [hst] at h
      refine ⟨_, w, G, _, _, hrun (v' := .slice (some ⟨G.rho id, 0, none⟩) m c) ?_, .refl G, hr, ?_, h⟩
      · simp [Builtin.append_, run_underlying ht, sizeOf, typeInfo, hi, Builtin.lenOf, Builtin.firstCells, hmc, storeCells]
      · simpa using VR.mrow id 0 m c hid hmc hm63
    | row _ _ _ a2 nn c2 u hn hc2 hm63' hkk hcell h1 hvv htt =>
      obtain ⟨e1, e2, e3, e4, news, hf, hM⟩ := (VR.row (G := G) ys k tk a2 nn c2 u hn hc2 hm63' hkk hcell h1 hvv htt).flat
      have hff := hf.flat k0
      have R := appRuns_slice (w := w) he' ht o.type a2 ys.length c2 news hf.len (fun j u hj => hr.mem _ _ (hM j u hj)) hf.one
      have hq := R.room (G.rho id) m c cc.toArray e' (0, 0) hcc (Free.zero _) hc (by rw [hf.len]; simp; omega)
      rw [← e1] at hq
      have htl : (cc.take (m * k)).length = m * k := by rw [List.length_take]; omega
      have hrel := hr.put (w1 := w.setRow (G.rho id) (cc.take (m * k) ++ news ++ cc.drop (m * k + news.length)).toArray) (cs' := cs.take (m * k) ++ ys.flatten ++ cs.drop ((m + ys.length) * k)) hH hcc (setRow_heap w _ cc.toArray _ e' _ hcc)
        (by rw [List.length_append, List.length_append, List.length_append, List.length_append, htl, hff.1, hf.len, List.length_take, List.length_drop, List.length_drop]; omega)
        (fun u hu => by
          simp only [List.mem_append] at hu
          rcases hu with (hu | hu) | hu
          · exact hc1 u (List.mem_of_mem_take hu)
          · exact hf.one u hu
          · exact hc1 u (List.mem_of_mem_drop hu))
        (by
          have hv := VRs.append (G := G) (ds := cs.take (m * k)) (us := cc.take (m * k)) ⟨by rw [htl, List.length_take]; omega, fun j d u a b => by
            rw [List.getElem?_take] at a b
            split at a
            · rename_i hj; rw [if_pos hj] at b; exact hcv j d u a b
            · cases a⟩ hff
          intro j d u a b
          by_cases hj : j < (m + ys.length) * k
          · rw [List.getElem?_append_left (by rw [hv.1, List.length_append, htl, hf.len]; omega)] at a
            rw [List.getElem?_append_left (by rw [List.length_append, htl, hf.len]; omega)] at b
            exact hv.2 j d u a b
          · have el : (cs.take (m * k) ++ ys.flatten).length = (m + ys.length) * k := by rw [hv.1, List.length_append, htl, hf.len]; omega
            have er : (cc.take (m * k) ++ news).length = (m + ys.length) * k := by rw [List.length_append, htl, hf.len]; omega
            rw [List.getElem?_append_right (by rw [el]; omega), el, List.getElem?_drop, Nat.add_sub_cancel' (by omega)] at a
            rw [List.getElem?_append_right (by rw [er]; omega), er, List.getElem?_drop, hf.len, show m * k + ys.length * k + (j - (m + ys.length) * k) = j by omega] at b
            exact hcv j d u a b)
        (fun q hq => setRow_other w _ q _ hq) (by simp) rfl rfl rfl
      refine ⟨_, _, G, _, _, hrun (by simpa using hq), .refl G, hrel, ?_, h⟩
      have := VR.mrow (G := G) id 0 (m + nn) c hid (by omega) hm63
      rw [e1] at this
      rw [e1]; exact this
/-- A row that is handed back without its right. -/
theorem resD_row0 {rs : List ResultVar} {t k tk : Nat} {xs : List (List D)} {ds : List D} (h : zlook env t = some (.row xs k tk)) (hs : ResD P rs env st ds) : ResD P (.tmp t :: rs) env st (.row xs k 0 :: ds) := by
  intro w0 G n tmps w hr he
  obtain ⟨us, hu, hrun⟩ := hs w0 G n tmps w hr he
  obtain ⟨u, hu1, hv⟩ := he.at_ t _ h
  refine ⟨u :: us, VRs.cons hv.notok hu, ?_⟩
  rw [List.mapM_cons]
  refine (run_bind' (w1 := w) (a := u) (by simp [pure, Sem.run, hu1])).trans ?_
  refine (run_bind' hrun).trans ?_
  rfl
end
end Go.Proofs.Zm
/- The framework's twentieth part: rules for 'apply' on addresses, loads, stores, structs. -/
namespace Go.Proofs.Zm
open Go.RowKit
set_option linter.unusedVariables false

theorem St.setH_self (s : St) (id : Nat) (x : Option (List D)) : (s.setH id x).H id = x := by simp
theorem St.setH_ne {s : St} {id i : Nat} {x : Option (List D)} {cs : List D} (h : s.H i = some cs) (hne : i ≠ id) : (s.setH id x).H i = some cs := by simp [hne, h]
theorem St.setH_new {s : St} {id i : Nat} {x : Option (List D)} {cs : List D} (h : s.H i = some cs) (hf : Fresh s id) : (s.setH id x).H i = some cs := St.setH_ne h (fun e => by subst e; rw [hf.1] at h; cases h)

/-- What stood stands. -/
structure Ext (a b : St) : Prop where
  H : ∀ id cs, a.H id = some cs → b.H id = some cs
  T : ∀ t, a.T t = true → b.T t = true
  N : ∀ id m, a.N id = some m → b.N id = some m := by exact fun _ _ e => e
theorem Ext.refl (a : St) : Ext a a := ⟨fun _ _ h => h, fun _ h => h, fun _ _ h => h⟩
theorem Ext.setH {a b : St} (h : Ext a b) {id : Nat} (hid : a.H id = none) (x : Option (List D)) : Ext a (b.setH id x) :=
  ⟨fun i cs e => by
    by_cases hi : i = id
    · subst hi; rw [hid] at e; cases e
    · simp [hi]; exact h.H i cs e, h.T, h.N⟩
theorem Ext.none {a b : St} (h : Ext a b) {id : Nat} (hb : b.H id = none) : a.H id = none := by
  cases e : a.H id with
  | none => rfl
  | some cs => rw [h.H id cs e] at hb; cases hb
theorem Ext.fresh {a b : St} (h : Ext a b) {id : Nat} (hb : Fresh b id) (x : Option (List D)) : Ext a (b.setH id x) := h.setH (h.none hb.1) x
theorem Ext.trans {a b c : St} (h : Ext a b) (k : Ext b c) : Ext a c := ⟨fun i cs e => k.H i cs (h.H i cs e), fun t e => k.T t (h.T t e), fun i m e => k.N i m (h.N i m e)⟩

section
variable {P : Program} {w0 : World} {n : Nat} {env : Env} {st : St} {Q : ZPost} {ops : Array Oper} {t : Nat} {rest : List Oper} {x y c : Operand} {t1 t2 ty : TypeId} {pos : String} {after : Array Edge}

theorem zs_nilCheck_ptr {id off : Nat} (ht : Nat.ble (t + 1) n = true) (hx : ev env x = some (.ptr id off)) (hk : ZOps P w0 n ops rest Q ((t, .ptr id off) :: env) st) : ZOps P w0 n ops (⟨some t, .nilCheck x, ty, pos, after, none⟩ :: rest) Q env st :=
  zo_pure0 rfl rfl (Nat.le_of_ble_eq_true ht) (zp_nilCheck rfl hx (.inr ⟨_, _, rfl⟩)) hk
theorem zs_field_ptr {id q f off : Nat} (ht : Nat.ble (t + 1) n = true) (hx : ev env x = some (.ptr id q)) (hf : fieldIs P t1 f off) (hk : ZOps P w0 n ops rest Q ((t, .ptr id (q + off)) :: env) st) : ZOps P w0 n ops (⟨some t, .fieldAddr t1 x f, ty, pos, after, none⟩ :: rest) Q env st :=
  zo_pure0 rfl rfl (Nat.le_of_ble_eq_true ht) (zp_fieldAddr_ptr rfl hf hx) hk
theorem zs_field_ref {cs : List D} {f off : Nat} (ht : Nat.ble (t + 1) n = true) (hx : ev env x = some (.ref cs)) (hf : fieldIs P t1 f off) (hk : ZOps P w0 n ops rest Q ((t, .ref (cs.drop off)) :: env) st) : ZOps P w0 n ops (⟨some t, .fieldAddr t1 x f, ty, pos, after, none⟩ :: rest) Q env st :=
  zo_pure0 rfl rfl (Nat.le_of_ble_eq_true ht) (zp_fieldAddr_ref rfl hf hx) hk
theorem zs_load_ref {cs : List D} {d : D} (ht : Nat.ble (t + 1) n = true) (hx : ev env x = some (.ref cs)) (hs : shapeIs P t1 false 1) (hd : cs[0]? = some d) (hk : ZOps P w0 n ops rest Q ((t, d) :: env) st) : ZOps P w0 n ops (⟨some t, .load t1 x, ty, pos, after, none⟩ :: rest) Q env st :=
  zo_pure rfl rfl (Nat.le_of_ble_eq_true ht) (zp_load_ref rfl hs hx hd) hk
theorem zs_load_ptr {id off : Nat} {cs : List D} {d : D} (ht : Nat.ble (t + 1) n = true) (hx : ev env x = some (.ptr id off)) (hs : shapeIs P t1 false 1) (hH : st.H id = some cs) (hd : cs[off]? = some d) (hk : ZOps P w0 n ops rest Q ((t, d) :: env) st) :
    ZOps P w0 n ops (⟨some t, .load t1 x, ty, pos, after, none⟩ :: rest) Q env st :=
  zo_val rfl rfl (Nat.le_of_ble_eq_true ht) (zv_load_ptr rfl hs hx hH hd hk)
theorem zs_load_ptrA {id off k : Nat} {cs out : List D} (ht : Nat.ble (t + 1) n = true) (hx : ev env x = some (.ptr id off)) (hs : shapeIs P t1 true k) (hH : st.H id = some cs) (hl : off + k ≤ cs.length) (ho : (cs.drop off).take k = out) (hk : ZOps P w0 n ops rest Q ((t, .agg out) :: env) st) :
    ZOps P w0 n ops (⟨some t, .load t1 x, ty, pos, after, none⟩ :: rest) Q env st :=
  zo_val rfl rfl (Nat.le_of_ble_eq_true ht) (zv_load_ptr_agg rfl hs hx hH hl (by rw [ho]; exact hk))
theorem zs_store {ag : Bool} {k id off : Nat} {cs cs' : List D} {d : D} (hx : ev env x = some (.ptr id off)) (hy : ev env y = some d) (hs : shapeIs P t1 ag k) (hH : st.H id = some cs)
    (hl : (cellsD d).length = k) (h1 : ∀ c ∈ cellsD d, oneD c = true) (hoff : off + k ≤ cs.length) (hc : cs.take off ++ cellsD d ++ cs.drop (off + k) = cs') (hk : ZOps P w0 n ops rest Q env (st.setH id (some cs'))) :
    ZOps P w0 n ops (⟨none, .store t1 x y, ty, pos, after, none⟩ :: rest) Q env st :=
  zo_cons rfl (zop_store rfl rfl hs hx hH hy hl h1 hoff (by rw [hc]; exact hk))
theorem zs_build {k by_ : Nat} {z out : List D} {pl : List (Nat × Nat)} {xs : List (Nat × Operand)} {ds : List D} (ht : Nat.ble (t + 1) n = true) (he : ElemOk P t1 k by_ z) (hs : structIs P t1 pl) (hx : evs env (xs.map Prod.snd) = some ds)
    (hf : fillD pl z ((xs.map Prod.fst).zip ds) = some out) (hk : ZOps P w0 n ops rest Q ((t, .agg out) :: env) st) : ZOps P w0 n ops (⟨some t, .build t1 xs.toArray, ty, pos, after, none⟩ :: rest) Q env st :=
  zo_pure0 rfl rfl (Nat.le_of_ble_eq_true ht) (zp_build rfl he hs hx hf) hk
end

section
variable {P : Program} {w0 : World} {n : Nat} {env : Env} {st : St} {ops : Array Oper} {fuel : Nat} {listed : Array Bool}
theorem za_endB {K : Env → St → Prop} {Q1 : ZPost} {id : Nat} (hr : Region.ready .any ops listed = []) (h : K env st) : ZAny P w0 n ops (Zblock id (Zthen K Q1)) fuel listed env st := za_done hr h
end
section
variable {P : Program} {w0 : World} {n : Nat} {env : Env} {st : St} {Q : ZPost} {ops : Array Oper} {fuel : Nat} {listed : Array Bool}
end
section
variable {P : Program} {w0 : World} {n : Nat} {env : Env} {st : St} {Q Q1 : ZPost} {ops : Array Oper}
end
/-- A slot that was not told. -/
def undefE (env : Env) : Option Tmp → Env
  | some d => (d, .v undef) :: env
  | none => env
section
variable {P : Program} {w0 : World} {n : Nat} {env : Env} {st : St} {Q : ZPost} {ops : Array Oper}
theorem er_undef {G : Gh} {a : Act} {dst : Option Tmp} (he : ER G n env a.tmps) (ht : ∀ d, dst = some d → d < n) : ER G n (undefE env dst) (a.put dst undef).tmps := by
  cases dst with
  | none => exact he
  | some d => exact he.put (ht d rfl) (.v undef)
theorem zo_skipU {dst : Option Tmp} {op : Op} {ty : TypeId} {pos : String} {after : Array Edge} {j : Nat} {want : Bool} {rest : List Oper} (hd : (dst.all fun d => Nat.ble (d + 1) n) = true)
    (hw : ∀ (G : Gh) (a : Act), ER G n env a.tmps → Region.wanted (⟨dst, op, ty, pos, after, some (j, want)⟩ : Oper) (yielded ops a.tmps) = false)
    (h : ZOps P w0 n ops rest Q (undefE env dst) st) : ZOps P w0 n ops (⟨dst, op, ty, pos, after, some (j, want)⟩ :: rest) Q env st := by
  intro G w a h1 h2 h3
  unfold wpList
  rw [if_neg (by rw [hw G a h2]; simp)]
  refine h G w _ h1 (er_undef h2 fun d e => ?_) (by cases dst <;> simp [Act.put, h3])
  subst e
  exact Nat.le_of_ble_eq_true (by simpa using hd)
/-- A guard that is not met: the slot is told to be none. -/
theorem zs_noU {dst : Option Tmp} {op : Op} {ty : TypeId} {pos : String} {after : Array Edge} {j t : Nat} {want b : Bool} {rest : List Oper}
    (hj : (ops[j]?).bind (·.dst) = some t) (hb : zlook env t = some (.v (.bool b))) (hw : b = !want) (hd : (dst.all fun d => Nat.ble (d + 1) n) = true)
    (h : ZOps P w0 n ops rest Q (undefE env dst) st) : ZOps P w0 n ops (⟨dst, op, ty, pos, after, some (j, want)⟩ :: rest) Q env st :=
  zo_skipU hd (fun G a he => by
    have := yielded_of he hj hb
    subst hw
    simp [Region.wanted, this]) h
theorem g_undef {o : Oper} {j t : Nat} {want : Bool} (h : o.guard = some (j, want)) (hj : (ops[j]?).bind (·.dst) = some t) (hz : zlook env t = some (.v undef)) {G : Gh} {a : Act} (he : ER G n env a.tmps) : Region.wanted o (yielded ops a.tmps) = false := by
  obtain ⟨u, hu, hv⟩ := he.at_ t _ hz
  have e := hv.eq_v
  subst e
  simp [Region.wanted, h, yielded, hj, hu, undef]
end
/-- What follows, behind forgetting. -/
def KE (K : D → St → Prop) : D → St → Prop := fun d s => ∃ s', Ext s' s ∧ K d s'
theorem KE.mk {K : D → St → Prop} {d : D} {s : St} (s' : St) (he : Ext s' s) (h : K d s') : KE K d s := ⟨s', he, h⟩
/-- A function is as told, if its body is: what it made may be forgotten behind it. -/
theorem sound_ofE {P : Program} {f : FuncId} {fn : Func} {c : Code} {rs : List ResultVar} {spec : ZSpec} (hf : P.funcs[f]? = some fn) (hb : fn.body = some c) (hrs : fn.results = rs.toArray)
    (h : ∀ w0 args st K, spec args st K → args.length ≤ fn.ntmps ∧ ZWp P w0 fn.ntmps c (ZRet P rs (KE K)) (args.zipIdx.map fun p => (p.2, p.1)) st) : SoundF P f spec := by
  intro w0 args st K hs G w vals hr hv
  have := sound_of (spec := fun args' st' K' => args' = args ∧ st' = st ∧ K' = KE K) hf hb hrs (by
    rintro w0 args' st' K' ⟨rfl, rfl, rfl⟩
    exact h w0 _ _ K hs) w0 args st _ ⟨rfl, rfl, rfl⟩ G w vals hr hv
  refine this.mono fun e w' hq => ?_
  obtain ⟨v, d, st', G', rfl, hle, hrel, hv, s', hext, hk⟩ := hq
  exact ⟨v, d, s', G', rfl, hle, hrel.forget hext.H hext.T hext.N, hv, hk⟩
end Go.Proofs.Zm
/- The framework's twenty-first part: guarded plain operations as whole values, kept slots, loops and meeting ways by kept slots, calls by their own form. -/
namespace Go.Proofs.Zm
open Go.RowKit
set_option linter.unusedVariables false

/-- A value that is there only if b. -/
def gd (b : Bool) (d : D) : D := bif b then d else .v undef
theorem gd_t {b : Bool} {d : D} (h : b = true) : gd b d = d := by subst h; rfl
theorem gd_f {b : Bool} {d : D} (h : b = false) : gd b d = .v undef := by subst h; rfl
attribute [irreducible] gd

/-- Whether a guarded operation is wanted. -/
def GC (ops : Array Oper) (env : Env) (j : Nat) (want c : Bool) : Prop := ∀ (G : Gh) (n : Nat) (a : Act), ER G n env a.tmps → ∀ o : Oper, o.guard = some (j, want) → Region.wanted o (yielded ops a.tmps) = c
theorem GC.t {ops : Array Oper} {env : Env} {j t : Nat} {b : Bool} (hj : (ops[j]?).bind (·.dst) = some t) (hz : zlook env t = some (.v (.bool b))) : GC ops env j true b := fun G n a he o ho => by
  have := yielded_of he hj hz
  unfold Region.wanted; rw [ho]; simp only [this]; cases b <;> rfl
theorem GC.f {ops : Array Oper} {env : Env} {j t : Nat} {b : Bool} (hj : (ops[j]?).bind (·.dst) = some t) (hz : zlook env t = some (.v (.bool b))) : GC ops env j false (!b) := fun G n a he o ho => by
  have := yielded_of he hj hz
  unfold Region.wanted; rw [ho]; simp only [this]; cases b <;> rfl
theorem yielded_undef {G : Gh} {n : Nat} {env : Env} {ops : Array Oper} {j t : Nat} {a : Act} (he : ER G n env a.tmps) (hj : (ops[j]?).bind (·.dst) = some t) (hz : zlook env t = some (.v undef)) : yielded ops a.tmps j = none := by
  obtain ⟨u, hu, hv⟩ := he.at_ t _ hz
  have e := hv.eq_v
  subst e
  simp [yielded, hj, hu, undef]
/-- Operations that, guarded, may be taken as whole values. -/
def plainOp : Op → Bool
  | .move _ => true
  | .binOp b _ _ _ _ => match b with | .lss | .leq | .gtr | .geq | .eql | .neq | .add | .sub => true | _ => false
  | .unOp .not _ _ => true
  | .pick _ _ _ => true
  | .extract _ _ => true
  | .convert _ _ _ => true
  | .fieldAddr _ _ _ => true
  | .load _ _ => true
  | .nilCheck _ => true
  | .call c => match c.callee with | .builtin .len => true | _ => false
  | _ => false
def symR (ops : Array Oper) : Bool := ops.toList.all fun o => o.guard.isNone || plainOp o.op

section
variable {P : Program} {w0 : World} {n : Nat} {env : Env} {st : St} {Q Q1 : ZPost} {ops : Array Oper} {t : Nat} {rest : List Oper} {x y z : Operand} {t1 t2 ty : TypeId} {pos : String} {after : Array Edge}

theorem zs_gen {op : Op} {j : Nat} {want c : Bool} {d : D} (hs : symR ops = true) (hg : GC ops env j want c) (ht : Nat.ble (t + 1) n = true)
    (h : c = true → ∀ {K : Env → St → Prop}, K ((t, d) :: env) st → ZOp P w0 n ⟨some t, op, ty, pos, after, none⟩ env st K)
    (hk : ZOps P w0 n ops rest Q ((t, gd c d) :: env) st) : ZOps P w0 n ops (⟨some t, op, ty, pos, after, some (j, want)⟩ :: rest) Q env st := by
  cases c with
  | false =>
    rw [gd_f rfl] at hk
    exact zo_skipU (by simpa using ht) (fun G a he => hg G n a he _ rfl) hk
  | true =>
    rw [gd_t rfl] at hk
    have hz := zo_cons (ops := ops) (rest := rest) (Q := Q) (o := ⟨some t, op, ty, pos, after, none⟩) rfl (h rfl hk)
    intro G w a h1 h2 h3
    have := hz G w a h1 h2 h3
    unfold wpList at this ⊢
    rw [if_pos (by simp [Region.wanted])] at this
    rw [if_pos (hg G n a h2 _ rfl)]
    exact this
theorem ZPure0.opK {o : Oper} {d : D} {K : Env → St → Prop} (hd : o.dst = some t) (ht : t < n) (h : ZPure0 P o env d) (hk : K ((t, d) :: env) st) : ZOp P w0 n o env st K := ZVal.op hd ht (h.pure.val hk)
theorem ZPure.opK {o : Oper} {d : D} {K : Env → St → Prop} (hd : o.dst = some t) (ht : t < n) (h : ZPure P o env d) (hk : K ((t, d) :: env) st) : ZOp P w0 n o env st K := ZVal.op hd ht (h.val hk)

theorem zp_andB {o : Oper} {p q : Bool} (hop : o.op = .pick x y z) (hc : ev env x = some (.v (.bool p))) (hx : p = true → ev env y = some (.v (.bool q))) (hy : ev env z = some (.v (.bool false))) : ZPure0 P o env (.v (.bool (p && q))) := by
  cases p with
  | true => exact zp_pick_true hop hc (hx rfl)
  | false => exact zp_pick_false hop hc hy
theorem zp_orB {o : Oper} {p q : Bool} (hop : o.op = .pick x y z) (hc : ev env x = some (.v (.bool p))) (hx : ev env y = some (.v (.bool true))) (hy : (!p) = true → ev env z = some (.v (.bool q))) : ZPure0 P o env (.v (.bool (p || q))) := by
  cases p with
  | true => exact zp_pick_true hop hc hx
  | false => exact zp_pick_false hop hc (hy rfl)
theorem zs_and {p q : Bool} (ht : Nat.ble (t + 1) n = true) (hc : ev env x = some (.v (.bool p))) (hx : p = true → ev env y = some (.v (.bool q))) (hy : ev env z = some (.v (.bool false)))
    (hk : ZOps P w0 n ops rest Q ((t, .v (.bool (p && q))) :: env) st) : ZOps P w0 n ops (⟨some t, .pick x y z, ty, pos, after, none⟩ :: rest) Q env st := zo_pure0 rfl rfl (Nat.le_of_ble_eq_true ht) (zp_andB rfl hc hx hy) hk
theorem zs_orB {p q : Bool} (ht : Nat.ble (t + 1) n = true) (hc : ev env x = some (.v (.bool p))) (hx : ev env y = some (.v (.bool true))) (hy : (!p) = true → ev env z = some (.v (.bool q)))
    (hk : ZOps P w0 n ops rest Q ((t, .v (.bool (p || q))) :: env) st) : ZOps P w0 n ops (⟨some t, .pick x y z, ty, pos, after, none⟩ :: rest) Q env st := zo_pure0 rfl rfl (Nat.le_of_ble_eq_true ht) (zp_orB rfl hc hx hy) hk

theorem zs_g_move {d : D} {j : Nat} {want c : Bool} (hS : symR ops = true) (hg : GC ops env j want c) (ht : Nat.ble (t + 1) n = true)  (hx : c = true → ev env x = some d)
    (hk : ZOps P w0 n ops rest Q ((t, gd c (d)) :: env) st) : ZOps P w0 n ops (⟨some t, .move x, ty, pos, after, some (j, want)⟩ :: rest) Q env st :=
  zs_gen hS hg ht (fun hc _ hk' => (zp_move rfl (hx hc)).opK rfl (Nat.le_of_ble_eq_true ht) hk') hk
theorem zs_g_lss {k : IntKind} {a b : Int} {j : Nat} {want c : Bool} (hS : symR ops = true) (hg : GC ops env j want c) (ht : Nat.ble (t + 1) n = true)  (hx : c = true → ev env x = some (.v (.int k a))) (hy : c = true → ev env y = some (.v (.int k b)))
    (hk : ZOps P w0 n ops rest Q ((t, gd c (.v (.bool (decide (a < b))))) :: env) st) : ZOps P w0 n ops (⟨some t, .binOp .lss t1 x y t2, ty, pos, after, some (j, want)⟩ :: rest) Q env st :=
  zs_gen hS hg ht (fun hc _ hk' => (zp_lss rfl (hx hc) (hy hc)).opK rfl (Nat.le_of_ble_eq_true ht) hk') hk
theorem zs_g_leq {k : IntKind} {a b : Int} {j : Nat} {want c : Bool} (hS : symR ops = true) (hg : GC ops env j want c) (ht : Nat.ble (t + 1) n = true)  (hx : c = true → ev env x = some (.v (.int k a))) (hy : c = true → ev env y = some (.v (.int k b)))
    (hk : ZOps P w0 n ops rest Q ((t, gd c (.v (.bool (decide (a ≤ b))))) :: env) st) : ZOps P w0 n ops (⟨some t, .binOp .leq t1 x y t2, ty, pos, after, some (j, want)⟩ :: rest) Q env st :=
  zs_gen hS hg ht (fun hc _ hk' => (zp_leq rfl (hx hc) (hy hc)).opK rfl (Nat.le_of_ble_eq_true ht) hk') hk
theorem zs_g_geq {k : IntKind} {a b : Int} {j : Nat} {want c : Bool} (hS : symR ops = true) (hg : GC ops env j want c) (ht : Nat.ble (t + 1) n = true)  (hx : c = true → ev env x = some (.v (.int k a))) (hy : c = true → ev env y = some (.v (.int k b)))
    (hk : ZOps P w0 n ops rest Q ((t, gd c (.v (.bool (decide (b ≤ a))))) :: env) st) : ZOps P w0 n ops (⟨some t, .binOp .geq t1 x y t2, ty, pos, after, some (j, want)⟩ :: rest) Q env st :=
  zs_gen hS hg ht (fun hc _ hk' => (zp_geq rfl (hx hc) (hy hc)).opK rfl (Nat.le_of_ble_eq_true ht) hk') hk
theorem zs_g_eql {k : IntKind} {a b : Int} {j : Nat} {want c : Bool} (hS : symR ops = true) (hg : GC ops env j want c) (ht : Nat.ble (t + 1) n = true)  (hx : c = true → ev env x = some (.v (.int k a))) (hy : c = true → ev env y = some (.v (.int k b)))
    (hk : ZOps P w0 n ops rest Q ((t, gd c (.v (.bool (decide (a = b))))) :: env) st) : ZOps P w0 n ops (⟨some t, .binOp .eql t1 x y t2, ty, pos, after, some (j, want)⟩ :: rest) Q env st :=
  zs_gen hS hg ht (fun hc _ hk' => (zp_eql rfl (hx hc) (hy hc)).opK rfl (Nat.le_of_ble_eq_true ht) hk') hk
theorem zs_g_lenB {e : TypeId} {l : List UInt8} {k tk : Nat} {j : Nat} {want c : Bool} (hS : symR ops = true) (hg : GC ops env j want c) (ht : Nat.ble (t + 1) n = true) (ht1 : P.underlying t1 = some (.slice e)) (hx : c = true → ev env x = some (.row (bytesD l) k tk))
    (hk : ZOps P w0 n ops rest Q ((t, gd c (.v (.int .i64 (l.length : Nat)))) :: env) st) : ZOps P w0 n ops (⟨some t, .call { callee := .builtin .len, args := #[x], argTypes := #[t1] }, ty, pos, after, some (j, want)⟩ :: rest) Q env st :=
  zs_gen hS hg ht (fun hc _ hk' => (zp_lenB rfl ht1 (hx hc)).opK rfl (Nat.le_of_ble_eq_true ht) hk') hk
theorem zs_g_field_ref {cs : List D} {f off : Nat} {j : Nat} {want c : Bool} (hS : symR ops = true) (hg : GC ops env j want c) (ht : Nat.ble (t + 1) n = true)  (hx : c = true → ev env x = some (.ref cs)) (hf : c = true → fieldIs P t1 f off)
    (hk : ZOps P w0 n ops rest Q ((t, gd c (.ref (cs.drop off))) :: env) st) : ZOps P w0 n ops (⟨some t, .fieldAddr t1 x f, ty, pos, after, some (j, want)⟩ :: rest) Q env st :=
  zs_gen hS hg ht (fun hc _ hk' => (zp_fieldAddr_ref rfl (hf hc) (hx hc)).opK rfl (Nat.le_of_ble_eq_true ht) hk') hk
theorem zs_g_load_ref {cs : List D} {d : D} {j : Nat} {want c : Bool} (hS : symR ops = true) (hg : GC ops env j want c) (ht : Nat.ble (t + 1) n = true)  (hx : c = true → ev env x = some (.ref cs)) (hs : c = true → shapeIs P t1 false 1) (hd : c = true → cs[0]? = some d)
    (hk : ZOps P w0 n ops rest Q ((t, gd c (d)) :: env) st) : ZOps P w0 n ops (⟨some t, .load t1 x, ty, pos, after, some (j, want)⟩ :: rest) Q env st :=
  zs_gen hS hg ht (fun hc _ hk' => (zp_load_ref rfl (hs hc) (hx hc) (hd hc)).opK rfl (Nat.le_of_ble_eq_true ht) hk') hk

/-- Kept slots. -/
def Keep (env : Env) (ks : List Nat) (env1 : Env) : Prop := Sub env1 env
theorem keep_nil : Keep env [] [] := sub_nil env
theorem keep_cons {k : Nat} {ks : List Nat} {d : D} {r : Env} (h : zlook env k = some d) (hs : Keep env ks r) : Keep env (k :: ks) ((k, d) :: r) := sub_cons h hs
theorem Sub.append {e1 e2 env : Env} (h1 : Sub e1 env) (h2 : Sub e2 env) : Sub (e1 ++ e2) env := by
  induction e1 with
  | nil => exact h2
  | cons p r ih =>
    obtain ⟨k, d⟩ := p
    intro t d' e
    have e0 := e
    unfold Sub at h1
    by_cases hk : k = t
    · subst hk
      have : d = d' := by simpa [zlook] using e
      subst this
      exact h1 k d (by simp [zlook])
    · have e' : zlook (r ++ e2) t = some d' := by simpa [zlook, hk] using e
      clear e0
      -- what the rest tells: of r or of e2
      have key : ∀ r : Env, zlook (r ++ e2) t = some d' → zlook r t = some d' ∨ zlook e2 t = some d' := by
        intro r
        induction r with
        | nil => intro h; exact .inr h
        | cons q r ihr =>
          obtain ⟨k2, d2⟩ := q
          intro h
          by_cases hk2 : k2 = t
          · left; simpa [zlook, hk2] using h
          · rcases ihr (by simpa [zlook, hk2] using h) with h | h
            · left; simpa [zlook, hk2] using h
            · exact .inr h
      rcases key r e' with h | h
      · exact h1 t d' (by simpa [zlook, hk] using h)
      · exact h2 t d' h

/-- A loop: what is told anew each round (J), and slots that are kept. -/
theorem zr_loopK {c : Code} (ks : List Nat) (J : Nat → Env → St → Prop) (m0 : Nat) (e0 : Env) {env1 : Env} (hk : Keep env ks env1) (h0 : J m0 e0 st) (h0s : Sub e0 env)
    (round : ∀ m e st, J m e st → ZWp P w0 n c (Zthen (fun env' st' => ∃ m' e', m' < m ∧ J m' e' st' ∧ Sub e' env' ∧ Sub env1 env') Q) (e ++ env1) st) : ZWp P w0 n (.loop c) Q env st := by
  refine zr_loopE (fun m env s => ∃ e, J m e s ∧ env = e ++ env1) m0 (e0 ++ env1) (Sub.append h0s hk) ⟨e0, h0, rfl⟩ ?_
  rintro m env s ⟨e, hJ, rfl⟩
  refine (round m e s hJ).mono fun x env' st' hq => ?_
  cases x with
  | normal => obtain ⟨m', e', h1, h2, h3, h4⟩ := hq; exact ⟨m', e' ++ env1, h1, ⟨e', h2, rfl⟩, Sub.append h3 h4⟩
  | _ => exact hq
/-- Ways that meet. -/
theorem zr_cutK {c y : Code} (ks : List Nat) (J : Env → St → Prop) {env1 : Env} (hk : Keep env ks env1) (h : ZWp P w0 n c (Zthen (fun env' st' => ∃ e, J e st' ∧ Sub e env' ∧ Sub env1 env') Q1) env st)
    (h2 : ∀ e st, J e st → ZWp P w0 n y Q (e ++ env1) st) : ZWp P w0 n c (Zthen (ZWp P w0 n y Q) Q1) env st := by
  refine h.mono fun x env' st' hq => ?_
  cases x with
  | normal => obtain ⟨e, h3, h4, h5⟩ := hq; exact (h2 e _ h3).weaken (Sub.append h4 h5)
  | _ => exact hq
theorem zo_cutK {l : List Oper} {y : Code} (ks : List Nat) (J : Env → St → Prop) {env1 : Env} (hk : Keep env ks env1) (h : ZOps P w0 n ops l (Zthen (fun env' st' => ∃ e, J e st' ∧ Sub e env' ∧ Sub env1 env') Q1) env st)
    (h2 : ∀ e st, J e st → ZWp P w0 n y Q (e ++ env1) st) : ZOps P w0 n ops l (Zthen (ZWp P w0 n y Q) Q1) env st := by
  intro G w a q1 q2 q3
  refine wpList_mono (Outc.mono (.refl G) fun x env' st' hq => ?_) (fun c a w h => h.elim) l a w (h G w a q1 q2 q3)
  cases x with
  | normal => obtain ⟨e, h3, h4, h5⟩ := hq; exact (h2 e _ h3).weaken (Sub.append h4 h5)
  | _ => exact hq
/-- A function that may be called. -/
def Callable (P : Program) (f : FuncId) : Prop := ∃ fn, P.funcs[f]? = some fn ∧ (fn.name == "runtime.NumGoroutine") = false ∧ fn.body.isSome = true
theorem callable {P : Program} {f : FuncId} (h : (P.funcs[f]?).map (fun fn => ((fn.name == "runtime.NumGoroutine"), fn.body.isSome)) = some (false, true)) : Callable P f := by
  obtain ⟨fn, hf, he⟩ := Option.map_eq_some_iff.1 h
  simp only [Prod.mk.injEq] at he
  exact ⟨fn, hf, he.1, he.2⟩
theorem zs_call {spec : ZSpec} {f : FuncId} {as : List Operand} {ts : Array TypeId} {ds es : List D} (hs : SoundF P f spec) (hc : Callable P f) (ht : Nat.ble (t + 1) n = true) (ha : evs env as = some ds) (hu : Ups ds es)
    (h : spec es st fun d st' => ZOps P w0 n ops rest Q ((t, d) :: env) st') : ZOps P w0 n ops (⟨some t, .call { callee := .value (.func f), args := as.toArray, argTypes := ts }, ty, pos, after, none⟩ :: rest) Q env st := by
  obtain ⟨fn, h1, h2, h3⟩ := hc
  exact zo_callU hs h1 h2 h3 rfl rfl rfl (Nat.le_of_ble_eq_true ht) rfl ha hu (by rw [List.append_nil]; exact h)

/-- A mask of the lowest bits; a shift to the right. -/
theorem zs_mask {k : IntKind} {a m p : Int} (e : Nat) (ht : Nat.ble (t + 1) n = true) (hx : ev env x = some (.v (.int k a))) (hm : m = 2 ^ e - 1) (hp : (2 : Int) ^ e = p) (hk1 : e < k.bits) (hK : k.bits ≤ 64) (hs : k.signed = true → e < k.bits - 1)
    (hk : ZOps P w0 n ops rest Q ((t, .v (.int k (a % p))) :: env) st) : ZOps P w0 n ops (⟨some t, .binOp .and t1 x (.const (.int k m)) t2, ty, pos, after, none⟩ :: rest) Q env st := by
  subst hp
  exact zo_pure0 rfl rfl (Nat.le_of_ble_eq_true ht) (zp_and rfl hx rfl (and_mask e hk1 hK hs a m _ hm rfl)) hk
theorem zs_shr {k k' : IntKind} {a b p : Int} (ht : Nat.ble (t + 1) n = true) (hx : ev env x = some (.v (.int k a))) (hb : 0 ≤ b) (hp : (2 : Int) ^ min b.toNat k.bits = p) (hp0 : 0 ≤ p)
    (hk : ZOps P w0 n ops rest Q ((t, .v (.int k (a / p))) :: env) st) : ZOps P w0 n ops (⟨some t, .binOp .shr t1 x (.const (.int k' b)) t2, ty, pos, after, none⟩ :: rest) Q env st := by
  subst hp
  exact zo_pure0 rfl rfl (Nat.le_of_ble_eq_true ht) (zp_shr rfl hx rfl hb (Int.fdiv_eq_ediv_of_nonneg a hp0)) hk

end
end Go.Proofs.Zm
/- The framework's twenty-second part: variables that are written once, memory given away with kept slots, pointers and nil by the operation's form. -/
namespace Go.Proofs.Zm
open Go.RowKit
set_option linter.unusedVariables false

section
variable {P : Program} {w0 : World} {n : Nat} {env : Env} {st : St} {Q Q1 : ZPost} {ops : Array Oper} {t : Nat} {rest : List Oper} {x y z : Operand} {t1 t2 ty ty2 : TypeId} {pos pos2 : String} {after after2 : Array Edge}

/-- A variable that is written once, at its beginning. -/
theorem zs_allocRef {k by_ : Nat} {zz : List D} {d : D} {ag : Bool} (he : ElemOk P t1 k by_ zz) (hz1 : ∀ d ∈ zz, oneD d = true) (hs : shapeIs P t1 ag k) (ht : Nat.ble (t + 1) n = true) (hy : ∀ a : Nat, ev ((t, .ptr a 0) :: env) y = some d) (hk : (cellsD d).length = k) (h1 : ∀ c ∈ cellsD d, oneD c = true)
    (h : ZOps P w0 n ops rest Q ((t, .ref (cellsD d)) :: env) st) :
    ZOps P w0 n ops (⟨some t, .alloc t1, ty, pos, after, none⟩ :: ⟨none, .store t1 (.tmp t) y, ty2, pos2, after2, none⟩ :: rest) Q env st := by
  have hzl : zz.length = k := by
    obtain ⟨i, zv, _, _, _, _, hz, rfl⟩ := he.ex
    have := (cellsD_ok (VR.v (G := ⟨fun _ => none, fun _ => 0, fun _ => (0, 0, 0), 1⟩) zv)).1
    rw [this]; simpa using hz
  refine zo_val rfl rfl (Nat.le_of_ble_eq_true ht) (zv_alloc rfl he hz1 fun a ha => ?_)
  refine zs_store (id := a) (off := 0) (ag := ag) (k := k) (cs' := cellsD d) (by simp [ev, zlook]) (hy a) hs (St.setH_self _ _ _) hk h1 (by omega) ?_ ?_
  · simp [hzl, hk]
  rw [St.setH_setH]
  refine zo_freeze (id := a) ((t, .ref (cellsD d)) :: env) (St.setH_self _ _ _) ?_ ?_
  · intro s d' e
    unfold zlook at e
    split at e
    · rename_i hts; subst hts; cases e
      exact ⟨.ptr a 0, by simp [zlook], Frz.ptr 0⟩
    · rename_i hts
      exact ⟨d', by simp [zlook, hts, e], .same _⟩
  rw [St.setH_setH, St.setH_none ha.1]
  exact h

/-- Memory that is given away for reading, by kept slots. -/
def FrzK (id : Nat) (cs : List D) (env : Env) (ks : List Nat) (env' : Env) : Prop := FrzE id cs env' env
/-- Pointers and nil. -/
theorem zs_peq_ptr {id off : Nat} (ht : Nat.ble (t + 1) n = true) (hx : ev env x = some (.ptr id off)) (ht1 : P.underlying t1 = some (.pointer (P.pointee t1))) (hk : ZOps P w0 n ops rest Q ((t, .v (.bool false)) :: env) st) :
    ZOps P w0 n ops (⟨some t, .binOp .eql t1 x (.const (.pointer none)) t2, ty, pos, after, none⟩ :: rest) Q env st := zo_pure0 rfl rfl (Nat.le_of_ble_eq_true ht) (zp_ptr_nil rfl hx ht1 (.inl ⟨rfl, rfl⟩) (.inl ⟨_, _, rfl⟩)) hk
end
end Go.Proofs.Zm
