/- The framework's ninth part: the rules in the form in which a walk uses them. -/
import Derived.Test.YtpelekdimmfldaaZm8
namespace Go.Proofs.Zm
open Go.RowKit
set_option linter.unusedVariables false

section
variable {P : Program} {w0 : World} {n : Nat} {env : Env} {st : St} {K : Env → St → Prop} {Q : ZPost}

theorem zo_end {ops : Array Oper} (h : K env st) : ZOps P w0 n ops [] (Zthen K Q) env st := zo_nil h
theorem zo_endB {ops : Array Oper} {id : Nat} (h : K env st) : ZOps P w0 n ops [] (Zblock id (Zthen K Q)) env st := zo_nil h
theorem zo_endBB {ops : Array Oper} {id id2 : Nat} (h : K env st) : ZOps P w0 n ops [] (Zblock id (Zblock id2 (Zthen K Q))) env st := zo_nil h
theorem zr_skipB {id : Nat} (h : K env st) : ZWp P w0 n .skip (Zblock id (Zthen K Q)) env st := zr_skip h
theorem zr_skip' (h : K env st) : ZWp P w0 n .skip (Zthen K Q) env st := zr_skip h

/-- A guard that is met. -/
theorem zo_yes {ops : Array Oper} {dst : Option Tmp} {op : Op} {ty : TypeId} {pos : String} {after : Array Edge} {j t : Nat} {want b : Bool} {rest : List Oper}
    (hj : (ops[j]?).bind (·.dst) = some t) (hb : zlook env t = some (.v (.bool b))) (hw : b = want)
    (h : ZOps P w0 n ops (⟨dst, op, ty, pos, after, none⟩ :: rest) Q env st) : ZOps P w0 n ops (⟨dst, op, ty, pos, after, some (j, want)⟩ :: rest) Q env st :=
  zo_guard hj hb (fun _ => h) (fun hn => absurd hw hn)
/-- A guard that is not met. -/
theorem zo_no {ops : Array Oper} {dst : Option Tmp} {op : Op} {ty : TypeId} {pos : String} {after : Array Edge} {j t : Nat} {want b : Bool} {rest : List Oper}
    (hj : (ops[j]?).bind (·.dst) = some t) (hb : zlook env t = some (.v (.bool b))) (hw : b = !want)
    (h : ZOps P w0 n ops rest Q (dropE env dst) st) : ZOps P w0 n ops (⟨dst, op, ty, pos, after, some (j, want)⟩ :: rest) Q env st :=
  zo_guard hj hb (fun hy => by subst hy; cases b <;> simp at hw) (fun _ => h)

/-- An operation that reads no memory. -/
theorem zo_pure0 {ops : Array Oper} {o : Oper} {rest : List Oper} {t : Nat} {d : D} (hg : o.guard = none) (hd : o.dst = some t) (ht : t < n) (h : ZPure0 P o env d)
    (hk : ZOps P w0 n ops rest Q ((t, d) :: env) st) : ZOps P w0 n ops (o :: rest) Q env st := zo_pure hg hd ht h.pure hk
theorem zp_pick_t {o : Oper} {c x y : Operand} {b : Bool} {dx : D} (hop : o.op = .pick c x y) (hc : ev env c = some (.v (.bool b))) (hb : b = true) (hx : ev env x = some dx) : ZPure0 P o env dx := by subst hb; exact zp_pick_true hop hc hx
theorem zp_pick_f {o : Oper} {c x y : Operand} {b : Bool} {dy : D} (hop : o.op = .pick c x y) (hc : ev env c = some (.v (.bool b))) (hb : b = false) (hy : ev env y = some dy) : ZPure0 P o env dy := by subst hb; exact zp_pick_false hop hc hy

theorem zr_ret' {rs : List ResultVar} {K : D → St → Prop} {ds : List D} {d : D} (hr : ResD P rs env st ds) (hd : resOf ds = d) (h : K d st) : ZWp P w0 n .ret (ZRet P rs K) env st :=
  zr_ret ⟨ds, hr, by rw [hd]; exact h⟩

/-- Whole numbers of a kind. -/
theorem wrap_in64 {a : Int} (h1 : -9223372036854775808 ≤ a) (h2 : a ≤ 9223372036854775807) : IntKind.i64.wrap a = a := by
  rw [IntKind.wrap_i64]; omega
theorem zr_cond_t {c : Operand} {x y : Code} {b : Bool} (hc : ev env c = some (.v (.bool b))) (hb : b = true) (h : ZWp P w0 n x Q env st) : ZWp P w0 n (.cond c x y) Q env st :=
  zr_cond hc (fun _ => h) (fun h => by subst hb; cases h)
theorem zr_cond_f {c : Operand} {x y : Code} {b : Bool} (hc : ev env c = some (.v (.bool b))) (hb : b = false) (h : ZWp P w0 n y Q env st) : ZWp P w0 n (.cond c x y) Q env st :=
  zr_cond hc (fun h => by subst hb; cases h) (fun _ => h)

theorem zr_retZ {rs : List ResultVar} {K : D → St → Prop} {ds : List D} (hQ : Q .ret env st = ZRet P rs K .ret env st) (hr : ResD P rs env st ds) (h : K (resOf ds) st) : ZWp P w0 n .ret Q env st :=
  zr_ret (by rw [hQ]; exact ⟨ds, hr, h⟩)

/-- The literal nil, as a row with its right. -/
theorem zr_nil {c : Code} (t4 k : Nat) (h4 : zlook env t4 = some (.v (.slice none 0 0))) (h : ∀ t, st.T t = false → t ≠ 0 → ZWp P w0 n c Q ((t4, .row [] k t) :: env) (st.setT t true)) : ZWp P w0 n c Q env st := by
  intro G w a hr he hd
  obtain ⟨G', hle, hrel, hnx, _⟩ := hr.nilRight 0
  have hlt : ∃ u, a.tmps[t4]? = some u ∧ VR G' (.row [] k G.nx) u := by
    obtain ⟨u, hu, hv⟩ := he.at_ t4 _ h4
    exact ⟨u, hu, by rw [hv.eq_v]; exact .rowNil k G.nx (.inr (by rw [hnx]; exact Nat.lt_succ_self _))⟩
  refine Code.wp_mono (Outc.mono hle (fun _ _ _ h => h)) (h G.nx (hr.nxT _ (Nat.le_refl _)) (by have := hr.nx0; omega) G' w a hrel ⟨he.size, fun t d e => ?_⟩ hd)
  unfold zlook at e
  split at e
  · rename_i hk; subst hk; cases e; exact hlt
  · exact (he.mono hle).at_ t d e

theorem VR.notok {G : Gh} {xs : List (List D)} {k t : Nat} {u : Value} (h : VR G (.row xs k t) u) : VR G (.row xs k 0) u := by
  cases h with
  | rowNil => exact .rowNil k 0 (.inl rfl)
  | row _ _ _ a n c u hn hc hm63 hk hm h1 hv ht => exact .row xs k 0 a n c u hn hc hm63 hk hm h1 hv (fun h => absurd rfl h)

/-- A slice literal that is only read. -/
theorem zv_lit {o : Oper} {t e k by_ len : Nat} {z : List D} {xs : List Operand} {ds : List D} {K : D → St → Prop} (hop : o.op = .buildSlice t len (xs.zipIdx.map fun p => (p.2, p.1)).toArray) (hlen : xs.length = len)
    (he : ElemOk P e k by_ z) (ht : P.underlying t = some (.slice e)) (hx : evs env xs = some ds) (hk : ∀ d ∈ ds, (cellsD d).length = k ∧ ∀ c ∈ cellsD d, oneD c = true) (hsmall : len * k ≤ 2 ^ 24)
    (h : K (.row (ds.map cellsD) k 0) st) : ZVal P w0 n o env st K := by
  intro G w a hr her
  obtain ⟨v, w', G', d, st', h1, h2, h3, h4, t', h6, h7, rfl, rfl⟩ := zv_buildSlice (w0 := w0) (n := n) (st := st) (K := fun d s => ∃ t', st.T t' = false ∧ t' ≠ 0 ∧ d = .row (ds.map cellsD) k t' ∧ s = st.setT t' true) hop hlen he ht hx hk hsmall (fun t' a b => ⟨t', a, b, rfl, rfl⟩) G w a hr her
  refine ⟨v, w', G', _, st, h1, h2, h3.forget (fun _ _ e => e) (fun q e => ?_), h4.notok, h⟩
  by_cases hq : q = t' <;> simp [hq, e]

/-- What is known of the state may be forgotten. -/
theorem zo_forget {ops : Array Oper} {l : List Oper} (st' : St) (hH : ∀ id cs, st'.H id = some cs → st.H id = some cs) (hT : ∀ t, st'.T t = true → st.T t = true) (h : ZOps P w0 n ops l Q env st') : ZOps P w0 n ops l Q env st :=
  fun G w a h1 h2 h3 => h G w a (h1.forget hH hT) h2 h3
theorem zr_forget {c : Code} (st' : St) (hH : ∀ id cs, st'.H id = some cs → st.H id = some cs) (hT : ∀ t, st'.T t = true → st.T t = true) (h : ZWp P w0 n c Q env st') : ZWp P w0 n c Q env st :=
  fun G w a h1 h2 h3 => h G w a (h1.forget hH hT) h2 h3

/-- The literal nil serves as a row of nothing. -/
inductive Ups : List D → List D → Prop where
  | nil : Ups [] []
  | same {d : D} {ds es : List D} (h : Ups ds es) : Ups (d :: ds) (d :: es)
  | nilrow {ds es : List D} (k : Nat) (h : Ups ds es) : Ups (.v (.slice none 0 0) :: ds) (.row [] k 0 :: es)
theorem Ups.refl : ∀ (ds : List D), Ups ds ds
  | [] => .nil
  | d :: ds => .same (Ups.refl ds)
theorem Ups.ok {G : Gh} {ds es : List D} (h : Ups ds es) : ∀ {us}, VRs G ds us → VRs G es us := by
  induction h with
  | nil => exact fun h => h
  | same h ih =>
    intro us hv
    cases us with
    | nil => have := hv.1; simp at this
    | cons u us => exact VRs.cons (hv.2 0 _ u rfl rfl) (ih ⟨by have := hv.1; simpa using this, fun j d' u' a b => hv.2 (j + 1) d' u' (by simpa using a) (by simpa using b)⟩)
  | nilrow k h ih =>
    intro us hv
    cases us with
    | nil => have := hv.1; simp at this
    | cons u us =>
      have h0 := (hv.2 0 _ u rfl rfl).eq_v
      subst h0
      exact VRs.cons (.rowNil k 0 (.inl rfl)) (ih ⟨by have := hv.1; simpa using this, fun j d' u' a b => hv.2 (j + 1) d' u' (by simpa using a) (by simpa using b)⟩)

theorem zop_callU {spec : ZSpec} {f : FuncId} {fn : Func} {o : Oper} {x : Operand} {as : List Operand} {ts : Array TypeId} {caps ds es : List D} {t : Nat}
    (hs : SoundF P f spec) (hf : P.funcs[f]? = some fn) (hname : (fn.name == "runtime.NumGoroutine") = false) (hb : fn.body.isSome = true)
    (hop : o.op = .call { callee := .value x, args := as.toArray, argTypes := ts }) (hd : o.dst = some t) (ht : t < n)
    (hx : ev env x = some (.fn f caps)) (ha : evs env as = some ds) (hu : Ups ds es)
    (h : spec (es ++ caps) st fun d st' => K ((t, d) :: env) st') : ZOp P w0 n o env st K := by
  intro G w a hr he hdf next Q' hn
  have hv := ev_ok he hx
  have hargs := hu.ok (evs_ok he ha)
  generalize hu : a.eval x = u at hv
  cases hv with
  | fn _ _ us hl hvs =>
    have hrun : (execOp a.eval o).run P w = .ok (.enter f ((as.map a.eval) ++ us).toArray) w := by
      have hen := enters hf hname hb (((as.map a.eval) ++ us).toArray) w
      unfold execOp
      simp only [hop]
      simp only [resolve, hu, Deferred.ofValue, invoke]
      simp only [Bind.bind, Sem.bind, pure]
      simpa using hen
    unfold Oper.wp
    rw [hrun, Oper.upon_enter]
    refine (hs w0 _ st _ h G w _ hr (hargs.append ⟨hl, hvs⟩)).mono fun e w' hq => ?_
    obtain ⟨v, d, st', G', rfl, hle, hrel, hv, hK⟩ := hq
    exact hn G' ((t, d) :: env) st' _ w' hle hrel (by simpa [Act.put, hd] using (he.mono hle).put ht hv) (by simpa [Act.put, hd] using hdf) hK (fun t' u h1 h2 => put_other h1 h2)

theorem zo_callU {spec : ZSpec} {f : FuncId} {fn : Func} {ops : Array Oper} {o : Oper} {rest : List Oper} {x : Operand} {as : List Operand} {ts : Array TypeId} {caps ds es : List D} {t : Nat}
    (hs : SoundF P f spec) (hf : P.funcs[f]? = some fn) (hname : (fn.name == "runtime.NumGoroutine") = false) (hb : fn.body.isSome = true) (hg : o.guard = none)
    (hop : o.op = .call { callee := .value x, args := as.toArray, argTypes := ts }) (hd : o.dst = some t) (ht : t < n)
    (hx : ev env x = some (.fn f caps)) (ha : evs env as = some ds) (hu : Ups ds es)
    (h : spec (es ++ caps) st fun d st' => ZOps P w0 n ops rest Q ((t, d) :: env) st') : ZOps P w0 n ops (o :: rest) Q env st :=
  zo_cons hg (zop_callU hs hf hname hb hop hd ht hx ha hu h)

/-- A variable of one cell. -/
theorem shape_one {t : TypeId} {d : TypeDesc} (hu : P.underlying t = some d) (hn : match d with | .struct _ | .array .. => False | _ => True) (hi : (P.info? t).map (·.size) = some 1) : shapeIs P t false 1 := by
  obtain ⟨i, h1, h2⟩ := Option.map_eq_some_iff.1 hi
  refine ⟨⟨i, h1, h2⟩, fun w => ?_, fun _ => rfl⟩
  cases d <;> first | exact hn.elim | simp [isAgg, run_underlying hu]

/-- An element of a row of bytes. -/
theorem zp_idxB {o : Oper} {t e : TypeId} {x y : Operand} {l : List UInt8} {tk : Nat} {ik : IntKind} {j : Nat} (hop : o.op = .indexAddr t x y) (ht : P.underlying t = some (.slice e)) (hi : (P.info? e).map (·.size) = some 1)
    (hx : ev env x = some (.row (bytesD l) 1 tk)) (hy : ev env y = some (.v (.int ik (j : Int)))) (h1 : j < l.length) : ZPure0 P o env (.ref [.v (.int .u8 ((l.getD j 0).toNat : Int))]) := by
  obtain ⟨i, hi, hk⟩ := Option.map_eq_some_iff.1 hi
  have := zp_indexAddr (P := P) hop ht hi hk hx hy (by omega) (by simpa using h1)
  simp only [Int.toNat_natCast] at this
  rw [bytesD_getD l j h1] at this
  rw [getD_in h1]
  exact this

theorem zp_lenB {o : Oper} {t : TypeId} {e : TypeId} {x : Operand} {l : List UInt8} {k tk : Nat} (hop : o.op = .call { callee := .builtin .len, args := #[x], argTypes := #[t] }) (ht : P.underlying t = some (.slice e)) (hx : ev env x = some (.row (bytesD l) k tk)) :
    ZPure0 P o env (.v (.int .i64 (l.length : Nat))) := by
  have := zp_len (P := P) hop ht hx
  rwa [bytesD_length] at this

/-- A cut of a row of bytes. -/
theorem zp_cutB {o : Oper} {t e : TypeId} {x : Operand} {lo hi : Option Operand} {bs : List UInt8} {tk l m : Nat} (hop : o.op = .slice t x lo hi none) (ht : P.underlying t = some (.slice e)) (hi' : (P.info? e).map (·.size) = some 1)
    (hx : ev env x = some (.row (bytesD bs) 1 tk)) (hlo : evB env lo 0 l) (hhi : evB env hi bs.length m) (h1 : l ≤ m) (h2 : m ≤ bs.length) : ZPure0 P o env (.row (bytesD ((bs.take m).drop l)) 1 0) := by
  obtain ⟨i, hi, hk⟩ := Option.map_eq_some_iff.1 hi'
  have := zp_cut (P := P) hop ht hi hk hx hlo (by simpa using hhi) h1 (by simpa using h2)
  rwa [bytesD_take, bytesD_drop] at this

/-- A literal of which some may be nil. -/
theorem zv_litU {o : Oper} {t e k by_ len : Nat} {z : List D} {xs : List Operand} {ds es : List D} {K : D → St → Prop} (hop : o.op = .buildSlice t len (xs.zipIdx.map fun p => (p.2, p.1)).toArray) (hlen : xs.length = len)
    (he : ElemOk P e k by_ z) (ht : P.underlying t = some (.slice e)) (hx : evs env xs = some ds) (hu : Ups ds es) (hk : ∀ d ∈ es, (cellsD d).length = k ∧ ∀ c ∈ cellsD d, oneD c = true) (hk0 : ∀ d ∈ ds, (cellsD d).length = k ∧ ∀ c ∈ cellsD d, oneD c = true) (hsmall : len * k ≤ 2 ^ 24)
    (h : K (.row (es.map cellsD) k 0) st) : ZVal P w0 n o env st K := by
  intro G w a hr her
  obtain ⟨v, w', G', d, st', h1, h2, h3, h4, hd, hs⟩ := zv_lit (w0 := w0) (n := n) (st := st) (K := fun d s => d = .row (ds.map cellsD) k 0 ∧ s = st) hop hlen he ht hx hk0 hsmall ⟨rfl, rfl⟩ G w a hr her
  subst hd; subst hs
  refine ⟨v, w', G', _, st', h1, h2, h3, ?_, h⟩
  -- element by element
  have key : ∀ {ds es : List D}, Ups ds es → ds.length = es.length ∧ ∀ (i : Nat) (d e : D), ds[i]? = some d → es[i]? = some e → (d = e ∨ (d = .v (.slice none 0 0) ∧ ∃ k, e = .row [] k 0)) := by
    intro ds es hu
    induction hu with
    | nil => exact ⟨rfl, fun i d e h => by simp at h⟩
    | same h ih =>
      refine ⟨by simp [ih.1], fun i d e h1 h2 => ?_⟩
      cases i with
      | zero => simp at h1 h2; exact .inl (h1.symm.trans h2)
      | succ i => exact ih.2 i d e (by simpa using h1) (by simpa using h2)
    | nilrow k h ih =>
      refine ⟨by simp [ih.1], fun i d e h1 h2 => ?_⟩
      cases i with
      | zero => simp at h1 h2; exact .inr ⟨h1.symm, k, h2.symm⟩
      | succ i => exact ih.2 i d e (by simpa using h1) (by simpa using h2)
  obtain ⟨hlen2, hel⟩ := key hu
  generalize hxd : ds.map cellsD = xd at h4
  have hxl : xd.length = es.length := by rw [← hxd, List.length_map, hlen2]
  cases h4 with
  | rowNil =>
    have : es = [] := List.eq_nil_of_length_eq_zero (by rw [← hxl]; rfl)
    subst this
    exact .rowNil k 0 (.inl rfl)
  | row _ _ _ aa nn c u hn hc hm63 hkk hm h1' hv ht' =>
    refine .row _ _ _ aa nn c u (by rw [List.length_map, ← hxl]; exact hn) hc hm63 (fun i x hx => ?_) hm h1' (fun i x j d hx hj => ?_) (fun h => absurd rfl h)
    · rw [List.getElem?_map] at hx
      obtain ⟨e, he, rfl⟩ := Option.map_eq_some_iff.1 hx
      exact (hk e (List.mem_of_getElem? he)).1
    · rw [List.getElem?_map] at hx
      obtain ⟨e, he, rfl⟩ := Option.map_eq_some_iff.1 hx
      have hi : i < ds.length := by rw [hlen2]; exact (List.getElem?_eq_some_iff.1 he).1
      rcases hel i _ e (List.getElem?_eq_getElem hi) he with h | ⟨h, k', rfl⟩
      · exact hv i (cellsD ds[i]) j d (by rw [← hxd, List.getElem?_map, List.getElem?_eq_getElem hi]; rfl) (by rw [h]; exact hj)
      · have hd : d = .row [] k' 0 ∧ j = 0 := by
          cases j with
          | zero => simp [cellsD] at hj; exact ⟨hj.symm, rfl⟩
          | succ j => simp [cellsD] at hj
        obtain ⟨rfl, rfl⟩ := hd
        have := hv i (cellsD ds[i]) 0 (.v (.slice none 0 0)) (by rw [← hxd, List.getElem?_map, List.getElem?_eq_getElem hi]; rfl) (by rw [h]; rfl)
        rw [this.eq_v]
        exact .rowNil k' 0 (.inl rfl)

/-- What is known is known. -/
def Sub (env' env : Env) : Prop := ∀ t d, zlook env' t = some d → zlook env t = some d
theorem sub_nil (env : Env) : Sub [] env := fun t d h => by simp [zlook] at h
theorem sub_cons {r env : Env} {k : Nat} {d : D} (h : zlook env k = some d) (hs : Sub r env) : Sub ((k, d) :: r) env := fun t d' e => by
  unfold zlook at e
  split at e
  · rename_i hk; subst hk; cases e; exact h
  · exact hs t d' e

/-- A loop, told by some slots alone. -/
theorem zr_loopE {c : Code} (I : Nat → Env → St → Prop) (m0 : Nat) (env0 : Env) (hsub : Sub env0 env) (h0 : I m0 env0 st)
    (round : ∀ m env st, I m env st → ZWp P w0 n c (Zthen (fun env' st' => ∃ m' env2, m' < m ∧ I m' env2 st' ∧ Sub env2 env') Q) env st) : ZWp P w0 n (.loop c) Q env st := by
  refine zr_loop (fun m env st => ∃ env2, I m env2 st ∧ Sub env2 env) m0 ⟨env0, h0, hsub⟩ fun m env st ⟨env2, h1, h2⟩ => ?_
  refine ((round m env2 st h1).weaken h2).mono fun e env' st' hq => ?_
  cases e with
  | normal => obtain ⟨m', env3, a, b, c⟩ := hq; exact ⟨m', a, env3, b, c⟩
  | _ => exact hq

theorem wrap_inU64 {a : Int} (h1 : 0 ≤ a) (h2 : a ≤ 18446744073709551615) : IntKind.u64.wrap a = a := by
  rw [IntKind.wrap_u64]; omega
theorem wrap_u8 (a : Int) : IntKind.u8.wrap a = a % 256 := by rw [IntKind.wrap_u8]

end
end Go.Proofs.Zm
