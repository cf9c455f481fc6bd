/- The framework's twenty-fifth part: regions that draw their order, beside own memory that stands through them (B). -/
import Derived.Test.YtpelekdimmfldaaZm24
namespace Go.Proofs.Zm
open Go.RowKit
set_option linter.unusedVariables false

/-- Abstract values that stand for one value alone. -/
def exactD : D → Bool
  | .v _ | .ptr _ _ | .mrow _ _ _ _ => true
  | _ => false
theorem exact_eq {G : Gh} {d : D} {u v : Value} (h : exactD d = true) (h1 : VR G d u) (h2 : VR G d v) : u = v := by
  cases d <;> first | (simp [exactD] at h; done) | (cases h1; cases h2; rfl)

/-- Own memory that stands. -/
def BOwn (B : List (Nat × List D)) (st : St) : Prop := ∀ p ∈ B, st.H p.1 = some p.2
def BH (G : Gh) (B : List (Nat × List D)) (w : World) : Prop := ∀ p ∈ B, p.1 < G.nx ∧ ∀ j d, p.2[j]? = some d → exactD d = true → ∃ u, w.cell? ⟨G.rho p.1, j, none⟩ = some u ∧ VR G d u
theorem BOwn.ext {B : List (Nat × List D)} {st st' : St} (h : BOwn B st) (he : Ext st st') : BOwn B st' := fun p hp => he.H _ _ (h p hp)
theorem BOwn.nil (st : St) : BOwn [] st := fun p hp => by cases hp
theorem BOwn.cons {B : List (Nat × List D)} {st : St} {id : Nat} {cs : List D} (h : st.H id = some cs) (hB : BOwn B st) : BOwn ((id, cs) :: B) st := fun p hp => by
  rcases List.mem_cons.1 hp with rfl | hp
  · exact h
  · exact hB p hp
theorem BOwn.holds {B : List (Nat × List D)} {w0 w : World} {G : Gh} {st : St} (hb : BOwn B st) (h : Rel w0 G st w) : BH G B w := fun p hp => by
  have e := hb p hp
  refine ⟨h.nxle e, fun j d hj _ => ?_⟩
  obtain ⟨c, t, hc, hl, _, hv⟩ := h.ex _ _ e
  have hlt : j < c.length := Nat.lt_of_lt_of_le (List.getElem?_eq_some_iff.1 hj).1 hl
  exact ⟨c[j], by rw [cell_heap hc]; exact List.getElem?_eq_getElem hlt, hv j d _ hj (List.getElem?_eq_getElem hlt)⟩
theorem BH.back {B : List (Nat × List D)} {G G' : Gh} {w w1 : World} (hle : G.le G') (h0 : BH G B w1) (h : BH G' B w) : BH G B w := fun p hp => by
  obtain ⟨h1, h2⟩ := h0 p hp
  obtain ⟨h3, h4⟩ := h p hp
  refine ⟨h1, fun j d hj hd => ?_⟩
  obtain ⟨u, hu, hv⟩ := h4 j d hj hd
  obtain ⟨v, _, hv0⟩ := h2 j d hj hd
  rw [hle.rho _ h1] at hu
  have := exact_eq hd (hv0.mono hle) hv
  subst this
  exact ⟨v, hu, hv0⟩

/-- A region that draws its order, from here on. -/
def ZAnyB (P : Program) (w0 : World) (n : Nat) (ops : Array Oper) (Q : ZPost) (B : List (Nat × List D)) (fuel : Nat) (listed : Array Bool) (env : Env) (st : St) : Prop :=
  ∀ G w a, Rel w0 G st w → ER G n env a.tmps → a.defers = [] → wpAnyH P .any ops (Outc w0 n Q G) (fun w => G.Holds w ∧ BH G B w) fuel listed a w
def ZB (P : Program) (w0 : World) (n : Nat) (ops : Array Oper) (Q : ZPost) (B : List (Nat × List D)) (fuel : Nat) (listed : Array Bool) (env : Env) (st : St) : Prop := BOwn B st ∧ ZAnyB P w0 n ops Q B fuel listed env st

/-- An operation that only reads what stands. -/
def ZPureB (P : Program) (B : List (Nat × List D)) (o : Oper) (env : Env) (d : D) : Prop :=
  ∀ G n (a : Act), ER G n env a.tmps → (∃ w, BH G B w) → ∃ v, VR G d v ∧ ∀ w : World, G.Holds w → BH G B w → (execOp a.eval o).run P w = .ok (.value v) w
theorem ZPureB.of {P : Program} {B : List (Nat × List D)} {o : Oper} {env : Env} {d : D} (h : ZPure P o env d) : ZPureB P B o env d := fun G n a he _ =>
  let ⟨v, hv, hr⟩ := h G n a he; ⟨v, hv, fun w hw _ => hr w hw⟩
theorem zpb_load {P : Program} {B : List (Nat × List D)} {o : Oper} {env : Env} {t : TypeId} {x : Operand} {id off : Nat} {cs : List D} {d : D} (hop : o.op = .load t x) (hs : shapeIs P t false 1) (hx : ev env x = some (.ptr id off)) (hm : (id, cs) ∈ B) (hd : cs[off]? = some d) (he : exactD d = true) : ZPureB P B o env d := by
  intro G n a her ⟨w1, hB⟩
  have hvx := ev_ok her hx
  generalize hux : a.eval x = ux at hvx
  cases hvx with
  | ptr _ _ hid =>
    obtain ⟨u, _, hv⟩ := (hB _ hm).2 off d hd he
    refine ⟨u, hv, fun w _ hw => ?_⟩
    obtain ⟨u', hcell, hv'⟩ := (hw _ hm).2 off d hd he
    have := exact_eq he hv hv'
    subst this
    simp only at hcell
    simp [execOp, hop, hux, Instr.loadAt, Instr.sureAddr, loadVar, hs.2.1 w, hcell]
theorem zpb_load_agg {P : Program} {B : List (Nat × List D)} {o : Oper} {env : Env} {t : TypeId} {x : Operand} {id off k : Nat} {cs ds : List D} (hop : o.op = .load t x) (hs : shapeIs P t true k) (hx : ev env x = some (.ptr id off)) (hm : (id, cs) ∈ B) (hk : (cs.drop off).take k = ds) (hl : ds.length = k) (he : ∀ d ∈ ds, exactD d = true) : ZPureB P B o env (.agg ds) := by
  intro G n a her ⟨w1, hB⟩
  have hvx := ev_ok her hx
  generalize hux : a.eval x = ux at hvx
  have hget : ∀ j d, ds[j]? = some d → cs[off + j]? = some d := fun j d hj => by
    rw [← hk, List.getElem?_take] at hj
    split at hj
    · rw [List.getElem?_drop] at hj; exact hj
    · cases hj
  cases hvx with
  | ptr _ _ hid =>
    obtain ⟨us, hus⟩ : ∃ us : List Value, us.length = k ∧ ∀ j d, ds[j]? = some d → ∃ u, us[j]? = some u ∧ VR G d u ∧ w1.cell? ⟨G.rho id, off + j, none⟩ = some u := by
      refine ⟨(List.range k).map fun j => (w1.cell? ⟨G.rho id, off + j, none⟩).getD aCell, by simp, fun j d hj => ?_⟩
      have hjk : j < k := by rw [← hl]; exact (List.getElem?_eq_some_iff.1 hj).1
      obtain ⟨u, hc, hv⟩ := (hB _ hm).2 (off + j) d (hget j d hj) (he d (List.mem_of_getElem? hj))
      simp only at hc
      exact ⟨u, by rw [List.getElem?_map, List.getElem?_range hjk]; simp [hc], hv, hc⟩
    obtain ⟨hul, hus⟩ := hus
    refine ⟨.agg us.toArray, .agg ds us (by rw [hl, hul]) (fun j d u a1 a2 => ?_), fun w _ hw => ?_⟩
    · obtain ⟨u', h1, h2, _⟩ := hus j d a1
      rw [a2] at h1; cases h1; exact h2
    · obtain ⟨⟨i, hi, hik⟩, hagg, _⟩ := hs
      have hl2 := run_loadCells_list (P := P) (w := w) ⟨G.rho id, off, none⟩ us (fun j v hj => by
        have hjk : j < ds.length := by rw [hl, ← hul]; exact (List.getElem?_eq_some_iff.1 hj).1
        have hdj := List.getElem?_eq_getElem hjk
        obtain ⟨u', h1, h2, _⟩ := hus j _ hdj
        rw [hj] at h1; cases h1
        obtain ⟨u2, hcell, hv2⟩ := (hw _ hm).2 (off + j) _ (hget j _ hdj) (he _ (List.mem_of_getElem? hdj))
        have := exact_eq (he _ (List.mem_of_getElem? hdj)) h2 hv2
        subst this
        have : (⟨G.rho id, off, none⟩ : Addr).add j = ⟨G.rho id, off + j, none⟩ := by unfold Addr.add; split <;> simp_all
        rw [this]; exact hcell)
      rw [hul] at hl2
      simp [execOp, hop, hux, Instr.loadAt, Instr.sureAddr, loadVar, hagg w, sizeOf, typeInfo, hi, hik, hl2]

section
variable {P : Program} {w0 : World} {n : Nat} {Q Q1 : ZPost} {env : Env} {st : St} {ops : Array Oper} {fuel : Nat} {listed : Array Bool} {B : List (Nat × List D)}

theorem zb_begin {id m : Nat} (B : List (Nat × List D)) (hm : P.follows .mixedOrders = true) (hs : ops.size = m) (hB : BOwn B st) (h : ZAnyB P w0 n ops Q B m (Array.replicate m false) env st) : ZWp P w0 n (.region id ops true) Q env st := by
  intro G w a hr he hd
  subst hs
  exact wp_region_held hm (h G _ a (hr.drawn _) he hd)
theorem zb_take {i t : Nat} {oi : Oper} {d : D} (hi : ops[i]? = some oi) (hs : Region.noSelect ops = true) (hf : Region.free .any ops listed i = true) (hr : (Region.ready .any ops listed).contains i = true)
    (hg : guardIs ops env oi true) (hd : oi.dst = some t) (ht : Nat.ble (t + 1) n = true) (hB : BOwn B st) (h : ZPureB P B oi env d) (hk : ZAnyB P w0 n ops Q B fuel (listed.setIfInBounds i true) ((t, d) :: env) st) :
    ZAnyB P w0 n ops Q B (fuel + 1) listed env st := by
  intro G w a hrel he hdf
  have hbh := hB.holds hrel
  obtain ⟨v, hv, hrun⟩ := h G n a he ⟨w, hbh⟩
  refine wpAnyH_take hi hs hf hr (fun c a w h => h.elim) (.inl ⟨guardIs_ok he hg, fun w hw => hrun w hw.1 hw.2⟩) ⟨hrel.mem, hbh⟩ ?_
  exact hk G w _ hrel (by simpa [Act.put, hd] using he.put (Nat.le_of_ble_eq_true ht) hv) (by simpa [Act.put, hd] using hdf)
theorem zb_notU {i : Nat} {oi : Oper} (hi : ops[i]? = some oi) (hs : Region.noSelect ops = true) (hf : Region.free .any ops listed i = true) (hr : (Region.ready .any ops listed).contains i = true)
    (hg : guardIs ops env oi false ∨ ∃ j t want, oi.guard = some (j, want) ∧ (ops[j]?).bind (·.dst) = some t ∧ zlook env t = some (.v undef)) (hd : (oi.dst.all fun d => Nat.ble (d + 1) n) = true) (hB : BOwn B st)
    (hk : ZAnyB P w0 n ops Q B fuel (listed.setIfInBounds i true) (undefE env oi.dst) st) : ZAnyB P w0 n ops Q B (fuel + 1) listed env st := by
  intro G w a hrel he hdf
  have hw : Region.wanted oi (yielded ops a.tmps) = false := by
    rcases hg with hg | ⟨j, t, want, h1, h2, h3⟩
    · exact guardIs_ok he hg
    · exact g_undef h1 h2 h3 he
  refine wpAnyH_take hi hs hf hr (v := undef) (fun c a w h => h.elim) (.inr ⟨hw, rfl⟩) ⟨hrel.mem, hB.holds hrel⟩ ?_
  refine hk G w _ hrel (er_undef he fun d e => ?_) (by cases h : oi.dst <;> simp [Act.put, hdf])
  rw [e] at hd
  exact Nat.le_of_ble_eq_true (by simpa using hd)

def ZOneB (P : Program) (w0 : World) (n : Nat) (ops : Array Oper) (Q : ZPost) (B : List (Nat × List D)) (fuel : Nat) (listed : Array Bool) (env : Env) (st : St) (i : Nat) : Prop :=
  ∀ G w a, Rel w0 G st w → ER G n env a.tmps → a.defers = [] → wpOp P ops (Outc w0 n Q G) i (fun a' w' => (G.Holds w' ∧ BH G B w') ∧ wpAnyH P .any ops (Outc w0 n Q G) (fun w => G.Holds w ∧ BH G B w) fuel (listed.setIfInBounds i true) a' w') a w
theorem zb_all {rs : List Nat} (hr : Region.ready .any ops listed = rs) (hne : rs ≠ []) (h : ∀ i ∈ rs, ZOneB P w0 n ops Q B fuel listed env st i) : ZAnyB P w0 n ops Q B (fuel + 1) listed env st :=
  fun G w a h1 h2 h3 => wpAnyH_all hr hne fun i hi => h i hi G w a h1 h2 h3
theorem zoneB_op {i : Nat} {oi : Oper} (hi : ops[i]? = some oi) (hg : guardIs ops env oi true) (hB : BOwn B st) (h : ZOp P w0 n oi env st (ZB P w0 n ops Q B fuel (listed.setIfInBounds i true))) : ZOneB P w0 n ops Q B fuel listed env st i := by
  intro G w a h1 h2 h3
  unfold wpOp
  simp only [hi, guardIs_ok h2 hg, if_true]
  left
  have hbh := hB.holds h1
  refine h G w a h1 h2 h3 _ _ fun G' env' st' a' w' hle hrel he hd hk _ => ⟨⟨fun x u e => hrel.mem x u (hle.M x u e), BH.back hle hbh (hk.1.holds hrel)⟩, ?_⟩
  exact wpAnyH_mono (Outc.mono hle (fun _ _ _ h => h)) (fun w hw => ⟨fun x u e => hw.1 x u (hle.M x u e), BH.back hle hbh hw.2⟩) _ _ _ _ (hk.2 G' w' a' hrel he hd)
theorem zb_one {i : Nat} {oi : Oper} (hr : Region.ready .any ops listed = [i]) (hi : ops[i]? = some oi) (hg : guardIs ops env oi true) (hB : BOwn B st) (h : ZOp P w0 n oi env st (ZB P w0 n ops Q B fuel (listed.setIfInBounds i true))) : ZAnyB P w0 n ops Q B (fuel + 1) listed env st :=
  zb_all hr (by simp) fun j hj => by
    simp only [List.mem_singleton] at hj
    subst hj
    exact zoneB_op hi hg hB h
theorem zb_one_val {i t : Nat} {oi : Oper} (hr : Region.ready .any ops listed = [i]) (hi : ops[i]? = some oi) (hg : guardIs ops env oi true) (hd : oi.dst = some t) (ht : Nat.ble (t + 1) n = true) (hB : BOwn B st)
    (h : ZVal P w0 n oi env st fun d st' => ZB P w0 n ops Q B fuel (listed.setIfInBounds i true) ((t, d) :: env) st') : ZAnyB P w0 n ops Q B (fuel + 1) listed env st :=
  zb_one hr hi hg hB (h.op hd (Nat.le_of_ble_eq_true ht))
theorem zb_all2 {i j : Nat} (hr : Region.ready .any ops listed = [i, j]) (h1 : ZOneB P w0 n ops Q B fuel listed env st i) (h2 : ZOneB P w0 n ops Q B fuel listed env st j) : ZAnyB P w0 n ops Q B (fuel + 1) listed env st :=
  zb_all hr (by simp) fun q hq => by
    simp only [List.mem_cons, List.not_mem_nil, or_false] at hq
    rcases hq with rfl | rfl
    · exact h1
    · exact h2
theorem zb_all3 {i j k : Nat} (hr : Region.ready .any ops listed = [i, j, k]) (h1 : ZOneB P w0 n ops Q B fuel listed env st i) (h2 : ZOneB P w0 n ops Q B fuel listed env st j) (h3 : ZOneB P w0 n ops Q B fuel listed env st k) : ZAnyB P w0 n ops Q B (fuel + 1) listed env st :=
  zb_all hr (by simp) fun q hq => by
    simp only [List.mem_cons, List.not_mem_nil, or_false] at hq
    rcases hq with rfl | rfl | rfl
    · exact h1
    · exact h2
    · exact h3
theorem zb_done (hr : Region.ready .any ops listed = []) (h : Q .normal env st) : ZAnyB P w0 n ops Q B fuel listed env st :=
  fun G w a h1 h2 h3 => wpAnyH_done hr ⟨G, env, st, .refl G, h1, h2, h3, h⟩ _
theorem zb_end {K : Env → St → Prop} (hr : Region.ready .any ops listed = []) (h : K env st) : ZAnyB P w0 n ops (Zthen K Q1) B fuel listed env st := zb_done hr h
theorem zb_endB {K : Env → St → Prop} {id : Nat} (hr : Region.ready .any ops listed = []) (h : K env st) : ZAnyB P w0 n ops (Zblock id (Zthen K Q1)) B fuel listed env st := zb_done hr h
theorem zb_endBB {K : Env → St → Prop} {id id2 : Nat} (hr : Region.ready .any ops listed = []) (h : K env st) : ZAnyB P w0 n ops (Zblock id (Zblock id2 (Zthen K Q1))) B fuel listed env st := zb_done hr h
/-- What stands need not stand any more. -/
theorem zb_forget (st' : St) (he : Ext st' st) (h : ZAnyB P w0 n ops Q B fuel listed env st') : ZAnyB P w0 n ops Q B fuel listed env st :=
  fun G w a h1 h2 h3 => h G w a (h1.forget he.H he.T) h2 h3
end

theorem ZB.forget {P : Program} {w0 : World} {n : Nat} {Q : ZPost} {env : Env} {st : St} {ops : Array Oper} {fuel : Nat} {listed : Array Bool} {B : List (Nat × List D)} (st' : St) (he : Ext st' st) (h : ZB P w0 n ops Q B fuel listed env st') : ZB P w0 n ops Q B fuel listed env st :=
  ⟨h.1.ext he, zb_forget st' he h.2⟩
/-- What stood at the beginning may be owned, too. -/
theorem Sep.borrow {st0 st : St} {L : List (Option Nat × List D)} (h : Sep st0 st L) {p : Nat} {cs : List D} (hp : st0.H p = some cs) : Sep (st0.setH p none) st ((some p, cs) :: L) where
  ext := ⟨fun i c e => h.ext.H i c (by
    by_cases hi : i = p
    · subst hi; simp at e
    · simpa [hi] using e), fun t e => h.ext.T t e⟩
  own := fun i c hm => by
    rcases List.mem_cons.1 hm with e | hm
    · cases e; exact h.ext.H _ _ hp
    · exact h.own i c hm
  new := fun i c hm => by
    rcases List.mem_cons.1 hm with e | hm
    · cases e; simp
    · have := h.new i c hm
      by_cases hi : i = p
      · subst hi; simp
      · simp [hi, this]
  apart := by
    rw [List.filterMap_cons]
    simp only
    refine List.nodup_cons.2 ⟨fun hm => ?_, h.apart⟩
    obtain ⟨c, hc⟩ := Sep.mem_ids hm
    rw [h.new _ _ hc] at hp
    cases hp
section
variable {P : Program} {w0 : World} {n : Nat} {Q Q1 : ZPost} {env : Env} {st : St} {id id2 : Nat} {K : Env → St → Prop}
/-- Leaving blocks. -/
theorem zr_exH (h : K env st) : ZWp P w0 n (.exit id) (Zblock id (Zthen K Q)) env st := zr_exit (by simp only [Zblock, if_true]; exact h)
theorem zr_exHB (h : K env st) : ZWp P w0 n (.exit id) (Zblock id (Zblock id2 (Zthen K Q))) env st := zr_exit (by simp only [Zblock, if_true]; exact h)
theorem zr_exTH (h : K env st) {K2 : Env → St → Prop} : ZWp P w0 n (.exit id) (Zthen K2 (Zblock id (Zthen K Q))) env st := zr_exit (by simp only [Zthen, Zblock, if_true]; exact h)
theorem zr_exTHB (h : K env st) {K2 : Env → St → Prop} : ZWp P w0 n (.exit id) (Zthen K2 (Zblock id (Zblock id2 (Zthen K Q)))) env st := zr_exit (by simp only [Zthen, Zblock, if_true]; exact h)
theorem zr_exTTH (h : K env st) {K2 K3 : Env → St → Prop} : ZWp P w0 n (.exit id) (Zthen K3 (Zthen K2 (Zblock id (Zthen K Q)))) env st := zr_exit (by simp only [Zthen, Zblock, if_true]; exact h)
theorem zr_exTBH {id3 : Nat} {K3 : Env → St → Prop} (hn : Nat.beq id id3 = false) (h : K env st) {K2 : Env → St → Prop} : ZWp P w0 n (.exit id) (Zthen K2 (Zblock id3 (Zthen K3 (Zblock id (Zthen K Q))))) env st := zr_exit (by
  have : id ≠ id3 := fun e => by subst e; simp at hn
  simp only [Zthen, Zblock, if_true, if_neg this]; exact h)
end
/-- Elements, with the names of their places left out. -/
theorem zp_imrow0 {P : Program} {env : Env} {o : Oper} {t e k id m c j' : Nat} {x y : Operand} {ik : IntKind} {j : Int} (hop : o.op = .indexAddr t x y) (ht : P.underlying t = some (.slice e)) (hi : ∃ i, P.info? e = some i ∧ i.size = k)
    (hx : ev env x = some (.mrow id 0 m c)) (hy : ev env y = some (.v (.int ik j))) (h0 : 0 ≤ j) (h1 : j < m) (ej : j.toNat = j') : ZPure0 P o env (.ptr id (j' * k)) := by
  subst ej
  obtain ⟨i, h2, h3⟩ := hi
  have := zp_index_mrow (P := P) hop ht h2 h3 hx hy h0 h1
  rwa [Nat.zero_add] at this
theorem zp_imrow1 {P : Program} {env : Env} {o : Oper} {t e id m c j' : Nat} {x y : Operand} {ik : IntKind} {j : Int} (hop : o.op = .indexAddr t x y) (ht : P.underlying t = some (.slice e)) (hi : ∃ i, P.info? e = some i ∧ i.size = 1)
    (hx : ev env x = some (.mrow id 0 m c)) (hy : ev env y = some (.v (.int ik j))) (h0 : 0 ≤ j) (h1 : j < m) (ej : j.toNat = j') : ZPure0 P o env (.ptr id j') := by
  have := zp_imrow0 (P := P) hop ht hi hx hy h0 h1 ej
  rwa [Nat.mul_one] at this
theorem zp_iB {P : Program} {env : Env} {o : Oper} {t e tk j' : Nat} {l : List UInt8} {x y : Operand} {ik : IntKind} {j : Int} (hop : o.op = .indexAddr t x y) (ht : P.underlying t = some (.slice e)) (hi : ∃ i, P.info? e = some i ∧ i.size = 1)
    (hx : ev env x = some (.row (bytesD l) 1 tk)) (hy : ev env y = some (.v (.int ik j))) (h0 : 0 ≤ j) (h1 : j < (l.length : Nat)) (ej : j.toNat = j') : ZPure0 P o env (.ref [.v (.int .u8 ((l.getD j' 0).toNat : Int))]) := by
  subst ej
  obtain ⟨i, h2, h3⟩ := hi
  obtain ⟨q, rfl⟩ := Int.eq_ofNat_of_zero_le h0
  rw [Int.toNat_natCast]
  exact zp_idxB hop ht (Option.map_eq_some_iff.2 ⟨i, h2, h3⟩) hx hy (by omega)
theorem zp_irow {P : Program} {env : Env} {o : Oper} {t e tk k j' : Nat} {xs : List (List D)} {x y : Operand} {ik : IntKind} {j : Int} (hop : o.op = .indexAddr t x y) (ht : P.underlying t = some (.slice e)) (hi : ∃ i, P.info? e = some i ∧ i.size = k)
    (hx : ev env x = some (.row xs k tk)) (hy : ev env y = some (.v (.int ik j))) (h0 : 0 ≤ j) (h1 : j < (xs.length : Nat)) (ej : j.toNat = j') : ZPure0 P o env (.ref (xs.getD j' [])) := by
  subst ej
  obtain ⟨i, h2, h3⟩ := hi
  exact zp_indexAddr hop ht h2 h3 hx hy h0 h1
end Go.Proofs.Zm
