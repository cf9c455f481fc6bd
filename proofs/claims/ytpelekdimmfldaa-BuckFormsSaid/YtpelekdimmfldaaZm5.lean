/- The framework's fifth part: rows that are read, addresses, aggregates. -/
import Derived.Test.YtpelekdimmfldaaZm4
import Derived.Laws.Slices
import Derived.Lib.ConvBytes
namespace Go.Proofs.Zm
open Go.RowKit
set_option linter.unusedVariables false
set_option linter.unusedSimpArgs false

section
variable {P : Program} {env : Env} {o : Oper}

/-- A bound of a cut: none, or a whole number. -/
def isBound (v : Option Value) (dflt : Nat) (l : Nat) : Prop := (v = none ∧ l = dflt) ∨ ∃ k, v = some (.int k (l : Int))

theorem run_cut {t e : TypeId} {i : TypeInfo} (ht : P.underlying t = some (.slice e)) (hi : P.info? e = some i) (base : Option Addr) (len cap : Nat) (lo hi' : Option Value) (l h : Nat)
    (hlo : isBound lo 0 l) (hhi : isBound hi' len h) (h1 : l ≤ h) (h2 : h ≤ cap) (w : World) :
    (Instr.sliceAt t (.slice base len cap) lo hi' none).run P w = .ok (sliced base l h cap i.size) w := by
  have hb1 : ∀ (v : Value) k, v = .int k (h : Int) → (Instr.sliceBound v cap .sliceAcap).run P w = .ok h w := by
    rintro v k rfl
    have : (0 : Int) ≤ h ∧ (h : Int) ≤ cap := ⟨by omega, by omega⟩
    simp [Instr.sliceBound, asIntOf, this]
  have hb2 : ∀ (v : Value) k, v = .int k (l : Int) → (Instr.sliceBound v h .sliceB).run P w = .ok l w := by
    rintro v k rfl
    have : (0 : Int) ≤ l ∧ (l : Int) ≤ h := ⟨by omega, by omega⟩
    simp [Instr.sliceBound, asIntOf, this]
  have hbs : (Instr.sliceBounds true len cap lo hi' none).run P w = .ok (l, h, cap) w := by
    rcases hlo with ⟨rfl, rfl⟩ | ⟨k1, rfl⟩ <;> rcases hhi with ⟨rfl, rfl⟩ | ⟨k2, rfl⟩
    · simp [Instr.sliceBounds]
    · simp [Instr.sliceBounds, hb1 _ k2 rfl]
    · simp [Instr.sliceBounds, hb2 _ k1 rfl]
    · simp [Instr.sliceBounds, hb1 _ k2 rfl, hb2 _ k1 rfl]
  have hs : (sizeOf e).run P w = .ok i.size w := by simp [sizeOf, typeInfo, hi]
  simp only [Instr.sliceAt, Sem.run_bind, run_underlying ht, Result.andThen_ok]
  simp only [Instr.slice, Sem.run_bind, run_underlying ht, Result.andThen_ok, hbs, hs]
  rfl

/-- A bound's operand: its value is 'l'. -/
def evB (env : Env) : Option Operand → Nat → Nat → Prop
  | none, dflt, l => l = dflt
  | some x, _, l => ∃ k, ev env x = some (.v (.int k (l : Int)))
theorem evB_ok {G : Gh} {n} {a : Act} (he : ER G n env a.tmps) {x : Option Operand} {dflt l : Nat} (h : evB env x dflt l) : isBound (x.map a.eval) dflt l := by
  cases x with
  | none => exact .inl ⟨rfl, h⟩
  | some x =>
    obtain ⟨k, hk⟩ := h
    exact .inr ⟨k, by simp [(ev_ok he hk).eq_v]⟩

theorem sliced_row {G : Gh} {xs : List (List D)} {k tk : Nat} {u : Value} (h : VR G (.row xs k tk) u) (l m : Nat) (hl : l ≤ m) (hm : m ≤ xs.length) :
    ∃ base len cap, u = .slice base len cap ∧ len = xs.length ∧ m ≤ cap ∧ VR G (.row ((xs.take m).drop l) k 0) (sliced base l m cap k) := by
  cases h with
  | rowNil =>
    refine ⟨none, 0, 0, rfl, rfl, by simpa using hm, ?_⟩
    have : m = 0 := by simpa using hm
    subst this
    have : l = 0 := by omega
    subst this
    simpa [sliced] using VR.rowNil k 0 (.inl rfl)
  | row _ _ _ a n c u hn hc hm63 hk hcell h1 hv ht =>
    refine ⟨some a, n, c, rfl, hn.symm, by omega, ?_⟩
    have hrow := VR.row (G := G) xs k tk a n c u hn hc hm63 hk hcell h1 hv ht
    have hcut := hrow.cut l m (c - l) hl (by omega) (by omega) (by omega)
    by_cases hcl : c = l
    · subst hcl
      simp only [sliced, if_true]
      exact hcut a (fun h => by omega)
    · simp only [sliced, if_neg hcl, Option.map_some]
      exact hcut (a.add (l * k)) (fun _ => rfl)

theorem zp_cut {t e : TypeId} {i : TypeInfo} {x : Operand} {lo hi : Option Operand} {xs : List (List D)} {k tk l m : Nat} (hop : o.op = .slice t x lo hi none) (ht : P.underlying t = some (.slice e)) (hi' : P.info? e = some i) (hk : i.size = k)
    (hx : ev env x = some (.row xs k tk)) (hlo : evB env lo 0 l) (hhi : evB env hi xs.length m) (h1 : l ≤ m) (h2 : m ≤ xs.length) : ZPure0 P o env (.row ((xs.take m).drop l) k 0) := fun G n a he => by
  obtain ⟨base, len, cap, hu, hlen, hcap, hv⟩ := sliced_row (ev_ok he hx) l m h1 h2
  subst hlen
  refine ⟨_, hv, fun w => ?_⟩
  have hrun := run_cut ht hi' base xs.length cap (lo.map a.eval) (hi.map a.eval) l m (evB_ok he hlo) (evB_ok he hhi) h1 hcap w
  rw [hk] at hrun
  simp only [execOp, hop, hu, Option.map_none]
  simp only [Sem.run_bind, hrun, Result.andThen_ok, Sem.run_pure]

theorem zp_cut_str {t : TypeId} {x : Operand} {lo hi : Option Operand} {s : ByteArray} {l m : Nat} (hop : o.op = .slice t x lo hi none) (ht : P.underlying t = some .string)
    (hx : ev env x = some (.v (.string s))) (hlo : evB env lo 0 l) (hhi : evB env hi s.size m) (h1 : l ≤ m) (h2 : m ≤ s.size) : ZPure0 P o env (.v (.string (s.extract l m))) := fun G n a he => by
  have hu := (ev_ok he hx).eq_v
  refine ⟨_, .v _, fun w => ?_⟩
  have hb1 : ∀ (v : Value) k, v = .int k (m : Int) → (Instr.sliceBound v s.size .sliceAlen).run P w = .ok m w := by
    rintro v k rfl
    have : (0 : Int) ≤ m ∧ (m : Int) ≤ s.size := ⟨by omega, by omega⟩
    simp [Instr.sliceBound, asIntOf, this]
  have hb2 : ∀ (v : Value) k, v = .int k (l : Int) → (Instr.sliceBound v m .sliceB).run P w = .ok l w := by
    rintro v k rfl
    have : (0 : Int) ≤ l ∧ (l : Int) ≤ m := ⟨by omega, by omega⟩
    simp [Instr.sliceBound, asIntOf, this]
  have hbs : (Instr.sliceBounds false s.size s.size (lo.map a.eval) (hi.map a.eval) none).run P w = .ok (l, m, s.size) w := by
    rcases evB_ok he hlo with ⟨h1, h2⟩ | ⟨k1, h1⟩ <;> rcases evB_ok he hhi with ⟨h3, h4⟩ | ⟨k2, h3⟩ <;> rw [h1, h3]
    · simp [Instr.sliceBounds, h2, h4]
    · simp [Instr.sliceBounds, hb1 _ k2 rfl, h2]
    · simp [Instr.sliceBounds, hb2 _ k1 rfl, h4]; subst h4; simp [hb2 _ k1 rfl]
    · simp [Instr.sliceBounds, hb1 _ k2 rfl, hb2 _ k1 rfl]
  simp only [execOp, hop, hu, Option.map_none]
  simp [Instr.sliceAt, Instr.slice, run_underlying ht, hbs]

theorem getD_in {α : Type} {xs : List α} {j : Nat} {d : α} (h : j < xs.length) : xs.getD j d = xs[j] := by
  rw [List.getD_eq_getElem?_getD, List.getElem?_eq_getElem h]; rfl

theorem zp_indexAddr {t e : TypeId} {i : TypeInfo} {x y : Operand} {xs : List (List D)} {k tk : Nat} {ik : IntKind} {j : Int} (hop : o.op = .indexAddr t x y) (ht : P.underlying t = some (.slice e)) (hi : P.info? e = some i) (hk : i.size = k)
    (hx : ev env x = some (.row xs k tk)) (hy : ev env y = some (.v (.int ik j))) (h0 : 0 ≤ j) (h1 : j < xs.length) : ZPure0 P o env (.ref (xs.getD j.toNat [])) := fun G n a he => by
  have hv := ev_ok he hx
  have ey := (ev_ok he hy).eq_v
  generalize hu : a.eval x = u at hv
  cases hv with
  | rowNil => simp at h1; omega
  | row _ _ _ b len c u hn hc hm63 hk' hcell h1' hvv htk =>
    have hj : j.toNat < xs.length := by omega
    refine ⟨.pointer (some (b.add (j.toNat * k))), .ref _ _ (fun q => u j.toNat q) ?_ ?_, fun w => ?_⟩
    · intro q hq
      rw [Addr.add_add]
      rw [getD_in hj, hk' j.toNat _ (List.getElem?_eq_getElem hj)] at hq
      exact hcell _ _ (by omega) hq
    · intro q d hq
      rw [getD_in hj] at hq
      exact hvv _ _ _ _ (List.getElem?_eq_getElem hj) hq
    · have hlt : 0 ≤ j ∧ j < (len : Int) := ⟨h0, by omega⟩
      simp [execOp, hop, hu, ey, Instr.indexAt, asIntOf, run_underlying ht, hlt, sizeOf, typeInfo, hi, hk]

theorem zp_nilCheck {x : Operand} {d : D} (hop : o.op = .nilCheck x) (hx : ev env x = some d) (hd : (∃ cs, d = .ref cs) ∨ (∃ id off, d = .ptr id off)) : ZPure0 P o env d := fun G n a he => by
  have hv := ev_ok he hx
  refine ⟨_, hv, fun w => ?_⟩
  generalize hu : a.eval x = u at hv
  rcases hd with ⟨cs, rfl⟩ | ⟨id, off, rfl⟩ <;> cases hv <;> simp [execOp, hop, hu]

/-- Where a struct's field lies. -/
def fieldIs (P : Program) (t f off : Nat) : Prop := ∃ fs fd i, P.underlying t = some (.struct fs) ∧ fs[f]? = some fd ∧ fd.offset = off ∧ P.info? fd.type = some i ∧ i.size ≠ 0

theorem run_fieldAt {t f off : Nat} (h : fieldIs P t f off) (a : Addr) (w : World) : (Instr.fieldAt t (.pointer (some a)) f).run P w = .ok (.pointer (some (a.add off))) w := by
  obtain ⟨fs, fd, i, h1, h2, rfl, h4, h5⟩ := h
  simp [Instr.fieldAt, run_underlying h1, h2, Instr.sureAddr, fieldPlace, sizeOf, typeInfo, h4, h5]

theorem zp_fieldAddr_ref {t f off : Nat} {x : Operand} {cs : List D} (hop : o.op = .fieldAddr t x f) (hf : fieldIs P t f off) (hx : ev env x = some (.ref cs)) : ZPure0 P o env (.ref (cs.drop off)) := fun G n a he => by
  have hv := ev_ok he hx
  generalize hu : a.eval x = u at hv
  cases hv with
  | ref _ b u hm hvv =>
    refine ⟨.pointer (some (b.add off)), .ref _ _ (fun j => u (off + j)) (fun j hj => ?_) (fun j d hj => ?_), fun w => ?_⟩
    · rw [Addr.add_add]; exact hm _ (by simp at hj; omega)
    · rw [List.getElem?_drop] at hj; exact hvv _ _ hj
    · simp [execOp, hop, hu, run_fieldAt hf]
theorem zp_fieldAddr_ptr {t f off : Nat} {x : Operand} {id q : Nat} (hop : o.op = .fieldAddr t x f) (hf : fieldIs P t f off) (hx : ev env x = some (.ptr id q)) : ZPure0 P o env (.ptr id (q + off)) := fun G n a he => by
  have hv := ev_ok he hx
  generalize hu : a.eval x = u at hv
  cases hv with
  | ptr _ _ hid =>
    refine ⟨_, .ptr id (q + off) hid, fun w => ?_⟩
    have : (⟨G.rho id, q, none⟩ : Addr).add off = ⟨G.rho id, q + off, none⟩ := by unfold Addr.add; split <;> simp_all
    simp [execOp, hop, hu, run_fieldAt hf, this]

/-- How a type's variables lie in memory: one cell, or so many. -/
def shapeIs (P : Program) (t : TypeId) (agg : Bool) (k : Nat) : Prop := (∃ i, P.info? t = some i ∧ i.size = k) ∧ (∀ w : World, (isAgg t).run P w = .ok agg w) ∧ (agg = false → k = 1)

theorem zp_load_ref {t : TypeId} {x : Operand} {cs : List D} {d : D} (hop : o.op = .load t x) (hs : shapeIs P t false 1) (hx : ev env x = some (.ref cs)) (hd : cs[0]? = some d) : ZPure P o env d := fun G n a he => by
  have hv := ev_ok he hx
  generalize hu : a.eval x = u at hv
  cases hv with
  | ref _ b u hm hvv =>
    refine ⟨u 0, hvv 0 d hd, fun w hw => ?_⟩
    have h0 := hw _ _ (hm 0 (by cases cs <;> simp_all))
    have : b.add 0 = b := by simp [Addr.add]
    rw [this] at h0
    simp [execOp, hop, hu, Instr.loadAt, Instr.sureAddr, loadVar, hs.2.1 w, h0]
theorem zp_load_ref_agg {t : TypeId} {x : Operand} {cs : List D} {k : Nat} (hop : o.op = .load t x) (hs : shapeIs P t true k) (hx : ev env x = some (.ref cs)) (hk : k ≤ cs.length) : ZPure P o env (.agg (cs.take k)) := fun G n a he => by
  have hv := ev_ok he hx
  generalize hu : a.eval x = u at hv
  cases hv with
  | ref _ b u hm hvv =>
    obtain ⟨⟨i, hi, hik⟩, hagg, _⟩ := hs
    refine ⟨.agg ((List.range k).map u).toArray, .agg _ _ (by simp; omega) (fun j d v h1 h2 => ?_), fun w hw => ?_⟩
    · rw [List.getElem?_take] at h1
      split at h1
      · rename_i hj
        rw [List.getElem?_map, List.getElem?_range hj] at h2
        cases h2
        exact hvv j d h1
      · cases h1
    · have hl := run_loadCells (P := P) (w := w) b k u (fun j hj => hw _ _ (hm j (by omega)))
      simp [execOp, hop, hu, Instr.loadAt, Instr.sureAddr, loadVar, hagg w, sizeOf, typeInfo, hi, hik, hl]

/-- A value's cells. -/
def cellsD : D → List D
  | .agg cs => cs
  | .v (.agg cs) => cs.toList.map .v
  | d => [d]
theorem cellsD_ok {G : Gh} {d : D} {u : Value} (h : VR G d u) : VRs G (cellsD d) u.cells.toList := by
  cases h with
  | agg cs us hl hv => exact ⟨by simpa [cellsD, Value.cells] using hl, by simpa [cellsD, Value.cells] using hv⟩
  | v =>
    cases u with
    | agg cs =>
      refine ⟨by simp [cellsD, Value.cells], fun i d u h1 h2 => ?_⟩
      simp only [cellsD, Value.cells, List.getElem?_map] at h1 h2
      rw [h2] at h1
      cases h1
      exact .v u
    | _ => exact VRs.cons (.v _) (VRs.nil G)
  | row xs k t a n c u hn hc hm63 hk hm h1 hv ht => exact VRs.cons (.row xs k t a n c u hn hc hm63 hk hm h1 hv ht) (VRs.nil G)
  | rowNil k t ht => exact VRs.cons (.rowNil k t ht) (VRs.nil G)
  | ref cs a u hm hv => exact VRs.cons (.ref cs a u hm hv) (VRs.nil G)
  | tup cs us hl hv => exact VRs.cons (.tup cs us hl hv) (VRs.nil G)
  | ptr id off hid => exact VRs.cons (.ptr id off hid) (VRs.nil G)
  | mrow id off n c hid hc hm => exact VRs.cons (.mrow id off n c hid hc hm) (VRs.nil G)
  | fn f caps us hl hv => exact VRs.cons (.fn f caps us hl hv) (VRs.nil G)
  | iface t d u hv => exact VRs.cons (.iface t d u hv) (VRs.nil G)

/-- One cell. -/
def oneD : D → Bool
  | .v x => x.oneCell'
  | .agg _ | .tup _ => false
  | _ => true
theorem oneD_ok {G : Gh} {d : D} {u : Value} (h : VR G d u) (h1 : oneD d = true) : u.oneCell' = true := by cases h <;> first | exact h1 | rfl | (simp [oneD] at h1; done)

theorem zp_extract {x : Operand} {i : Nat} {ds : List D} {d : D} (hop : o.op = .extract x i) (hx : ev env x = some (.tup ds)) (hd : ds[i]? = some d) : ZPure0 P o env d := fun G n a he => by
  have hv := ev_ok he hx
  generalize hu : a.eval x = u at hv
  cases hv with
  | tup _ us hl hvv =>
    have hlt : i < us.length := by rw [← hl]; exact (List.getElem?_eq_some_iff.1 hd).1
    refine ⟨us[i], hvv i d _ hd (List.getElem?_eq_getElem hlt), fun w => ?_⟩
    simp [execOp, hop, hu, Instr.extract, hlt]

theorem zp_makeFunc {f : FuncId} {first caps : Array Operand} {ds : List D} (hop : o.op = .makeFunc (.func f) first caps) (h0 : first = #[]) (hc : evs env caps.toList = some ds) : ZPure0 P o env (.fn f ds) := fun G n a he => by
  subst h0
  have hv := evs_ok he hc
  refine ⟨_, .fn f ds _ hv.1 hv.2, fun w => ?_⟩
  simp [execOp, hop, Instr.makeFunc]
  rw [← Array.toList_map]

end
end Go.Proofs.Zm
