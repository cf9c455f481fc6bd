/- The framework's twentieth part: rules for 'apply' on addresses, loads, stores, structs. -/
import Derived.Test.YtpelekdimmfldaaZm19
namespace Go.Proofs.Zm
open Go.RowKit
set_option linter.unusedVariables false

theorem St.setH_self (s : St) (id : Nat) (x : Option (List D)) : (s.setH id x).H id = x := by simp
theorem St.setH_ne {s : St} {id i : Nat} {x : Option (List D)} {cs : List D} (h : s.H i = some cs) (hne : i ≠ id) : (s.setH id x).H i = some cs := by simp [hne, h]
theorem St.setH_new {s : St} {id i : Nat} {x : Option (List D)} {cs : List D} (h : s.H i = some cs) (hf : Fresh s id) : (s.setH id x).H i = some cs := St.setH_ne h (fun e => by subst e; rw [hf.1] at h; cases h)

/-- What stood stands. -/
structure Ext (a b : St) : Prop where
  H : ∀ id cs, a.H id = some cs → b.H id = some cs
  T : ∀ t, a.T t = true → b.T t = true
theorem Ext.refl (a : St) : Ext a a := ⟨fun _ _ h => h, fun _ h => h⟩
theorem Ext.setH {a b : St} (h : Ext a b) {id : Nat} (hid : a.H id = none) (x : Option (List D)) : Ext a (b.setH id x) :=
  ⟨fun i cs e => by
    by_cases hi : i = id
    · subst hi; rw [hid] at e; cases e
    · simp [hi]; exact h.H i cs e, h.T⟩
theorem Ext.none {a b : St} (h : Ext a b) {id : Nat} (hb : b.H id = none) : a.H id = none := by
  cases e : a.H id with
  | none => rfl
  | some cs => rw [h.H id cs e] at hb; cases hb
theorem Ext.fresh {a b : St} (h : Ext a b) {id : Nat} (hb : Fresh b id) (x : Option (List D)) : Ext a (b.setH id x) := h.setH (h.none hb.1) x
theorem Ext.setT {a b : St} (h : Ext a b) (t : Nat) : Ext a (b.setT t true) := ⟨h.H, fun i e => by
  by_cases hi : i = t <;> simp [hi]
  exact h.T i e⟩
theorem Ext.trans {a b c : St} (h : Ext a b) (k : Ext b c) : Ext a c := ⟨fun i cs e => k.H i cs (h.H i cs e), fun t e => k.T t (h.T t e)⟩

section
variable {P : Program} {w0 : World} {n : Nat} {env : Env} {st : St} {Q : ZPost} {ops : Array Oper} {t : Nat} {rest : List Oper} {x y c : Operand} {t1 t2 ty : TypeId} {pos : String} {after : Array Edge}

theorem zr_ext {c : Code} (st' : St) (he : Ext st' st) (h : ZWp P w0 n c Q env st') : ZWp P w0 n c Q env st := zr_forget st' he.H he.T h
theorem zo_ext {l : List Oper} (st' : St) (he : Ext st' st) (h : ZOps P w0 n ops l Q env st') : ZOps P w0 n ops l Q env st := zo_forget st' he.H he.T h

theorem zs_nilCheck_ptr {id off : Nat} (ht : Nat.ble (t + 1) n = true) (hx : ev env x = some (.ptr id off)) (hk : ZOps P w0 n ops rest Q ((t, .ptr id off) :: env) st) : ZOps P w0 n ops (⟨some t, .nilCheck x, ty, pos, after, none⟩ :: rest) Q env st :=
  zo_pure0 rfl rfl (Nat.le_of_ble_eq_true ht) (zp_nilCheck rfl hx (.inr ⟨_, _, rfl⟩)) hk
theorem zs_nilCheck_ref {cs : List D} (ht : Nat.ble (t + 1) n = true) (hx : ev env x = some (.ref cs)) (hk : ZOps P w0 n ops rest Q ((t, .ref cs) :: env) st) : ZOps P w0 n ops (⟨some t, .nilCheck x, ty, pos, after, none⟩ :: rest) Q env st :=
  zo_pure0 rfl rfl (Nat.le_of_ble_eq_true ht) (zp_nilCheck rfl hx (.inl ⟨_, rfl⟩)) hk
theorem zs_field_ptr {id q f off : Nat} (ht : Nat.ble (t + 1) n = true) (hx : ev env x = some (.ptr id q)) (hf : fieldIs P t1 f off) (hk : ZOps P w0 n ops rest Q ((t, .ptr id (q + off)) :: env) st) : ZOps P w0 n ops (⟨some t, .fieldAddr t1 x f, ty, pos, after, none⟩ :: rest) Q env st :=
  zo_pure0 rfl rfl (Nat.le_of_ble_eq_true ht) (zp_fieldAddr_ptr rfl hf hx) hk
theorem zs_field_ref {cs : List D} {f off : Nat} (ht : Nat.ble (t + 1) n = true) (hx : ev env x = some (.ref cs)) (hf : fieldIs P t1 f off) (hk : ZOps P w0 n ops rest Q ((t, .ref (cs.drop off)) :: env) st) : ZOps P w0 n ops (⟨some t, .fieldAddr t1 x f, ty, pos, after, none⟩ :: rest) Q env st :=
  zo_pure0 rfl rfl (Nat.le_of_ble_eq_true ht) (zp_fieldAddr_ref rfl hf hx) hk
theorem zs_load_ref {cs : List D} {d : D} (ht : Nat.ble (t + 1) n = true) (hx : ev env x = some (.ref cs)) (hs : shapeIs P t1 false 1) (hd : cs[0]? = some d) (hk : ZOps P w0 n ops rest Q ((t, d) :: env) st) : ZOps P w0 n ops (⟨some t, .load t1 x, ty, pos, after, none⟩ :: rest) Q env st :=
  zo_pure rfl rfl (Nat.le_of_ble_eq_true ht) (zp_load_ref rfl hs hx hd) hk
theorem zs_load_refA {k : Nat} {cs : List D} (ht : Nat.ble (t + 1) n = true) (hx : ev env x = some (.ref cs)) (hs : shapeIs P t1 true k) (hl : Nat.ble k cs.length = true) (hk : ZOps P w0 n ops rest Q ((t, .agg (cs.take k)) :: env) st) : ZOps P w0 n ops (⟨some t, .load t1 x, ty, pos, after, none⟩ :: rest) Q env st :=
  zo_pure rfl rfl (Nat.le_of_ble_eq_true ht) (zp_load_ref_agg rfl hs hx (Nat.le_of_ble_eq_true hl)) hk
theorem zs_load_ptr {id off : Nat} {cs : List D} {d : D} (ht : Nat.ble (t + 1) n = true) (hx : ev env x = some (.ptr id off)) (hs : shapeIs P t1 false 1) (hH : st.H id = some cs) (hd : cs[off]? = some d) (hk : ZOps P w0 n ops rest Q ((t, d) :: env) st) :
    ZOps P w0 n ops (⟨some t, .load t1 x, ty, pos, after, none⟩ :: rest) Q env st :=
  zo_val rfl rfl (Nat.le_of_ble_eq_true ht) (zv_load_ptr rfl hs hx hH hd hk)
theorem zs_load_ptrA {id off k : Nat} {cs out : List D} (ht : Nat.ble (t + 1) n = true) (hx : ev env x = some (.ptr id off)) (hs : shapeIs P t1 true k) (hH : st.H id = some cs) (hl : off + k ≤ cs.length) (ho : (cs.drop off).take k = out) (hk : ZOps P w0 n ops rest Q ((t, .agg out) :: env) st) :
    ZOps P w0 n ops (⟨some t, .load t1 x, ty, pos, after, none⟩ :: rest) Q env st :=
  zo_val rfl rfl (Nat.le_of_ble_eq_true ht) (zv_load_ptr_agg rfl hs hx hH hl (by rw [ho]; exact hk))
theorem zs_store {ag : Bool} {k id off : Nat} {cs cs' : List D} {d : D} (hx : ev env x = some (.ptr id off)) (hy : ev env y = some d) (hs : shapeIs P t1 ag k) (hH : st.H id = some cs)
    (hl : (cellsD d).length = k) (h1 : ∀ c ∈ cellsD d, oneD c = true) (hoff : off + k ≤ cs.length) (hc : cs.take off ++ cellsD d ++ cs.drop (off + k) = cs') (hk : ZOps P w0 n ops rest Q env (st.setH id (some cs'))) :
    ZOps P w0 n ops (⟨none, .store t1 x y, ty, pos, after, none⟩ :: rest) Q env st :=
  zo_cons rfl (zop_store rfl rfl hs hx hH hy hl h1 hoff (by rw [hc]; exact hk))
theorem zs_build {k by_ : Nat} {z out : List D} {pl : List (Nat × Nat)} {xs : List (Nat × Operand)} {ds : List D} (ht : Nat.ble (t + 1) n = true) (he : ElemOk P t1 k by_ z) (hs : structIs P t1 pl) (hx : evs env (xs.map Prod.snd) = some ds)
    (hf : fillD pl z ((xs.map Prod.fst).zip ds) = some out) (hk : ZOps P w0 n ops rest Q ((t, .agg out) :: env) st) : ZOps P w0 n ops (⟨some t, .build t1 xs.toArray, ty, pos, after, none⟩ :: rest) Q env st :=
  zo_pure0 rfl rfl (Nat.le_of_ble_eq_true ht) (zp_build rfl he hs hx hf) hk
end

section
variable {P : Program} {w0 : World} {n : Nat} {env : Env} {st : St} {ops : Array Oper} {fuel : Nat} {listed : Array Bool}
theorem za_endB {K : Env → St → Prop} {Q1 : ZPost} {id : Nat} (hr : Region.ready .any ops listed = []) (h : K env st) : ZAny P w0 n ops (Zblock id (Zthen K Q1)) fuel listed env st := za_done hr h
theorem za_endBB {K : Env → St → Prop} {Q1 : ZPost} {id id2 : Nat} (hr : Region.ready .any ops listed = []) (h : K env st) : ZAny P w0 n ops (Zblock id (Zblock id2 (Zthen K Q1))) fuel listed env st := za_done hr h
end
theorem zop_storeC {P : Program} {w0 : World} {n : Nat} {env : Env} {st : St} {o : Oper} {t : TypeId} {x y : Operand} {ag : Bool} {k id off : Nat} {cs cs' : List D} {d : D} {K : Env → St → Prop} (hop : o.op = .store t x y) (hd : o.dst = none) (hs : shapeIs P t ag k) (hx : ev env x = some (.ptr id off)) (hH : st.H id = some cs) (hy : ev env y = some d)
    (hk : (cellsD d).length = k) (h1 : ∀ c ∈ cellsD d, oneD c = true) (hoff : off + k ≤ cs.length) (hc : cs.take off ++ cellsD d ++ cs.drop (off + k) = cs') (h : K env (st.setH id (some cs'))) : ZOp P w0 n o env st K :=
  zop_store hop hd hs hx hH hy hk h1 hoff (by rw [hc]; exact h)
section
variable {P : Program} {w0 : World} {n : Nat} {env : Env} {st : St} {Q : ZPost} {ops : Array Oper} {fuel : Nat} {listed : Array Bool}
theorem za_all2 {i j : Nat} (hr : Region.ready .any ops listed = [i, j]) (h1 : ZOne P w0 n ops Q fuel listed env st i) (h2 : ZOne P w0 n ops Q fuel listed env st j) : ZAny P w0 n ops Q (fuel + 1) listed env st :=
  za_all hr (by simp) fun q hq => by
    simp only [List.mem_cons, List.not_mem_nil, or_false] at hq
    rcases hq with rfl | rfl
    · exact h1
    · exact h2
theorem za_all3 {i j k : Nat} (hr : Region.ready .any ops listed = [i, j, k]) (h1 : ZOne P w0 n ops Q fuel listed env st i) (h2 : ZOne P w0 n ops Q fuel listed env st j) (h3 : ZOne P w0 n ops Q fuel listed env st k) : ZAny P w0 n ops Q (fuel + 1) listed env st :=
  za_all hr (by simp) fun q hq => by
    simp only [List.mem_cons, List.not_mem_nil, or_false] at hq
    rcases hq with rfl | rfl | rfl
    · exact h1
    · exact h2
    · exact h3
end
section
variable {P : Program} {w0 : World} {n : Nat} {env : Env} {st : St} {Q Q1 : ZPost} {ops : Array Oper}
/-- Ways within a region that meet behind it: what is known there, told once. -/
theorem zo_cut {l : List Oper} {y : Code} (env1 : Env) (st1 : St) (h : ZOps P w0 n ops l (Zthen (fun env' st' => Sub env1 env' ∧ st' = st1) Q1) env st) (h2 : ZWp P w0 n y Q env1 st1) : ZOps P w0 n ops l (Zthen (ZWp P w0 n y Q) Q1) env st := by
  intro G w a q1 q2 q3
  refine wpList_mono (Outc.mono (.refl G) fun e env' st' hq => ?_) (fun c a w h => h.elim) l a w (h G w a q1 q2 q3)
  cases e with
  | normal => obtain ⟨h3, rfl⟩ := hq; exact h2.weaken h3
  | _ => exact hq
end
/-- A slot that was not told. -/
def undefE (env : Env) : Option Tmp → Env
  | some d => (d, .v undef) :: env
  | none => env
section
variable {P : Program} {w0 : World} {n : Nat} {env : Env} {st : St} {Q : ZPost} {ops : Array Oper}
theorem er_undef {G : Gh} {a : Act} {dst : Option Tmp} (he : ER G n env a.tmps) (ht : ∀ d, dst = some d → d < n) : ER G n (undefE env dst) (a.put dst undef).tmps := by
  cases dst with
  | none => exact he
  | some d => exact he.put (ht d rfl) (.v undef)
theorem zo_skipU {dst : Option Tmp} {op : Op} {ty : TypeId} {pos : String} {after : Array Edge} {j : Nat} {want : Bool} {rest : List Oper} (hd : (dst.all fun d => Nat.ble (d + 1) n) = true)
    (hw : ∀ (G : Gh) (a : Act), ER G n env a.tmps → Region.wanted (⟨dst, op, ty, pos, after, some (j, want)⟩ : Oper) (yielded ops a.tmps) = false)
    (h : ZOps P w0 n ops rest Q (undefE env dst) st) : ZOps P w0 n ops (⟨dst, op, ty, pos, after, some (j, want)⟩ :: rest) Q env st := by
  intro G w a h1 h2 h3
  unfold wpList
  rw [if_neg (by rw [hw G a h2]; simp)]
  refine h G w _ h1 (er_undef h2 fun d e => ?_) (by cases dst <;> simp [Act.put, h3])
  subst e
  exact Nat.le_of_ble_eq_true (by simpa using hd)
/-- A guard that is not met: the slot is told to be none. -/
theorem zs_noU {dst : Option Tmp} {op : Op} {ty : TypeId} {pos : String} {after : Array Edge} {j t : Nat} {want b : Bool} {rest : List Oper}
    (hj : (ops[j]?).bind (·.dst) = some t) (hb : zlook env t = some (.v (.bool b))) (hw : b = !want) (hd : (dst.all fun d => Nat.ble (d + 1) n) = true)
    (h : ZOps P w0 n ops rest Q (undefE env dst) st) : ZOps P w0 n ops (⟨dst, op, ty, pos, after, some (j, want)⟩ :: rest) Q env st :=
  zo_skipU hd (fun G a he => by
    have := yielded_of he hj hb
    subst hw
    simp [Region.wanted, this]) h
/-- A guard on what was not told. -/
theorem zs_undef {dst : Option Tmp} {op : Op} {ty : TypeId} {pos : String} {after : Array Edge} {j t : Nat} {want : Bool} {rest : List Oper}
    (hj : (ops[j]?).bind (·.dst) = some t) (hb : zlook env t = some (.v undef)) (hd : (dst.all fun d => Nat.ble (d + 1) n) = true)
    (h : ZOps P w0 n ops rest Q (undefE env dst) st) : ZOps P w0 n ops (⟨dst, op, ty, pos, after, some (j, want)⟩ :: rest) Q env st :=
  zo_skipU hd (fun G a he => by
    obtain ⟨u, hu, hv⟩ := he.at_ t _ hb
    have e := hv.eq_v
    subst e
    simp [Region.wanted, yielded, hj, hu, undef]) h
theorem g_undef {o : Oper} {j t : Nat} {want : Bool} (h : o.guard = some (j, want)) (hj : (ops[j]?).bind (·.dst) = some t) (hz : zlook env t = some (.v undef)) {G : Gh} {a : Act} (he : ER G n env a.tmps) : Region.wanted o (yielded ops a.tmps) = false := by
  obtain ⟨u, hu, hv⟩ := he.at_ t _ hz
  have e := hv.eq_v
  subst e
  simp [Region.wanted, h, yielded, hj, hu, undef]
/-- What is not wanted may be taken first. -/
theorem za_notU {fuel : Nat} {listed : Array Bool} {i : Nat} {oi : Oper} (hi : ops[i]? = some oi) (hs : Region.noSelect ops = true) (hf : Region.free .any ops listed i = true) (hr : (Region.ready .any ops listed).contains i = true)
    (hg : guardIs ops env oi false ∨ ∃ j t want, oi.guard = some (j, want) ∧ (ops[j]?).bind (·.dst) = some t ∧ zlook env t = some (.v undef)) (hd : (oi.dst.all fun d => Nat.ble (d + 1) n) = true)
    (hk : ZAny P w0 n ops Q fuel (listed.setIfInBounds i true) (undefE env oi.dst) st) : ZAny P w0 n ops Q (fuel + 1) listed env st := by
  intro G w a hrel he hdf
  have hw : Region.wanted oi (yielded ops a.tmps) = false := by
    rcases hg with hg | ⟨j, t, want, h1, h2, h3⟩
    · exact guardIs_ok he hg
    · exact g_undef h1 h2 h3 he
  refine wpAnyH_take hi hs hf hr (v := undef) (fun c a w h => h.elim) (.inr ⟨hw, rfl⟩) hrel.mem ?_
  refine hk G w _ hrel (er_undef he fun d e => ?_) (by cases h : oi.dst <;> simp [Act.put, hdf])
  rw [e] at hd
  exact Nat.le_of_ble_eq_true (by simpa using hd)
end
/-- What follows, behind forgetting. -/
def KE (K : D → St → Prop) : D → St → Prop := fun d s => ∃ s', Ext s' s ∧ K d s'
theorem KE.mk {K : D → St → Prop} {d : D} {s : St} (s' : St) (he : Ext s' s) (h : K d s') : KE K d s := ⟨s', he, h⟩
/-- A function is as told, if its body is: what it made may be forgotten behind it. -/
theorem sound_ofE {P : Program} {f : FuncId} {fn : Func} {c : Code} {rs : List ResultVar} {spec : ZSpec} (hf : P.funcs[f]? = some fn) (hb : fn.body = some c) (hrs : fn.results = rs.toArray)
    (h : ∀ w0 args st K, spec args st K → args.length ≤ fn.ntmps ∧ ZWp P w0 fn.ntmps c (ZRet P rs (KE K)) (args.zipIdx.map fun p => (p.2, p.1)) st) : SoundF P f spec := by
  intro w0 args st K hs G w vals hr hv
  have := sound_of (spec := fun args' st' K' => args' = args ∧ st' = st ∧ K' = KE K) hf hb hrs (by
    rintro w0 args' st' K' ⟨rfl, rfl, rfl⟩
    exact h w0 _ _ K hs) w0 args st _ ⟨rfl, rfl, rfl⟩ G w vals hr hv
  refine this.mono fun e w' hq => ?_
  obtain ⟨v, d, st', G', rfl, hle, hrel, hv, s', hext, hk⟩ := hq
  exact ⟨v, d, s', G', rfl, hle, hrel.forget hext.H hext.T, hv, hk⟩
end Go.Proofs.Zm
