/- The framework's twenty-sixth part: what a row's text gives for its arguments of any plain shape (numbers, bools, strings, structs, slices of such). -/
import Derived.Test.YtpelekdimmfldaaZm12
import Derived.Test.YtpelekdimmfldaaZm25
import Derived.ChangeArms
namespace Go.Proofs.Zm
open Go.RowKit Go.ChangeShapes Go.WideShapes
set_option linter.unusedVariables false

/-- How a cell reads. -/
inductive Cs where
  | int (k : IntKind)
  | bool
  | float
  | str
  | slice (es : List Cs)

mutual
/-- A type's cells read so. -/
inductive HasSh (P : Program) : TypeId → List Cs → Prop where
  | int {t : TypeId} {k : IntKind} (h : P.underlying t = some (.int k)) : HasSh P t [.int k]
  | bool {t : TypeId} (h : P.underlying t = some .bool) : HasSh P t [.bool]
  | float {t : TypeId} (h : P.underlying t = some (.float .f64)) : HasSh P t [.float]
  | str {t : TypeId} (h : P.underlying t = some .string) : HasSh P t [.str]
  | slice {t e : TypeId} {es : List Cs} (h : P.underlying t = some (.slice e)) (he : HasSh P e es) (hc : P.cellsOf e = es.length) : HasSh P t [.slice es]
  | struct {t : TypeId} {fs : Array Field} {ss : List Cs} (h : P.underlying t = some (.struct fs)) (hf : HasShF P fs.toList 0 ss) (hc : P.cellsOf t = ss.length) : HasSh P t ss
inductive HasShF (P : Program) : List Field → Nat → List Cs → Prop where
  | nil {off : Nat} : HasShF P [] off []
  | cons {f : Field} {fs : List Field} {off : Nat} {ss rest : List Cs} (h : HasSh P f.type ss) (ho : f.offset = off) (hc : P.cellsOf f.type = ss.length) (hr : HasShF P fs (off + ss.length) rest) : HasShF P (f :: fs) off (ss ++ rest)
end

/-- What such a cell's abstract value is. -/
inductive CellOk : Cs → D → Prop where
  | int {k : IntKind} {n : Int} (h0 : k.min ≤ n) (h1 : n ≤ k.max) : CellOk (.int k) (.v (.int k n))
  | bool (b : Bool) : CellOk .bool (.v (.bool b))
  | float {b : Nat} (h : (Lit.float .f64 b).wf = true) : CellOk .float (.v (.float .f64 b))
  | str {s : ByteArray} (h : s.size ≤ maxLen) : CellOk .str (.v (.string s))
  | slice {es : List Cs} {xs : List (List D)} (hl : xs.length ≤ maxLen) (hx : ∀ (i : Nat) (x : List D), xs[i]? = some x → x.length = es.length) (hj : ∀ (i j : Nat) (x : List D) (s : Cs) (d : D), xs[i]? = some x → es[j]? = some s → x[j]? = some d → CellOk s d) : CellOk (.slice es) (.row xs es.length 0)

def CellsOk (ss : List Cs) (ds : List D) : Prop := ds.length = ss.length ∧ ∀ (j : Nat) (s : Cs) (d : D), ss[j]? = some s → ds[j]? = some d → CellOk s d
theorem CellsOk.append {a b : List Cs} {x y : List D} (h : CellsOk a x) (k : CellsOk b y) : CellsOk (a ++ b) (x ++ y) := by
  refine ⟨by rw [List.length_append, List.length_append, h.1, k.1], fun j s d h1 h2 => ?_⟩
  by_cases hj : j < a.length
  · rw [List.getElem?_append_left hj] at h1
    rw [List.getElem?_append_left (by rw [h.1]; exact hj)] at h2
    exact h.2 j s d h1 h2
  · rw [List.getElem?_append_right (by omega)] at h1
    rw [List.getElem?_append_right (by rw [h.1]; omega), h.1] at h2
    exact k.2 _ s d h1 h2
theorem CellsOk.one {s : Cs} {d : D} (h : CellOk s d) : CellsOk [s] [d] := ⟨rfl, fun j s' d' h1 h2 => by
  cases j with
  | zero => cases h1; cases h2; exact h
  | succ j => simp at h1⟩
theorem cellOk_one {s : Cs} {d : D} (h : CellOk s d) : oneD d = true := by cases h <;> rfl

abbrev GW (W : World) : Gh := ⟨fun a => W.cell? a, fun _ => 0, fun _ => (0, 0, 0), 1⟩

/-- What is read. -/
theorem read_cells {H : Type} {enc : TypeId × Value → H} {P : Program} {W : World} {base : Nat} {spare : Nat → Bool} {held : Bool} : ∀ (fuel : Nat) (t : TypeId) (ss : List Cs) (cs : List Value) (x : DataW H × List MemPlace), HasSh P t ss →
    DataW.trod enc P W base spare held fuel t cs = some x → ∃ ds, CellsOk ss ds ∧ VRs (GW W) ds cs := by
  intro fuel
  induction fuel with
  | zero => intro t ss cs x _ h; simp [DataW.trod] at h
  | succ n ih =>
    intro t ss cs x hs h
    cases hs with
    | int hu =>
      obtain ⟨m, rfl, _, hw⟩ := DataW.trod_int hu h
      have := wf_range hw
      exact ⟨_, CellsOk.one (.int this.1 this.2), VRs.cons (.v _) (VRs.nil _)⟩
    | bool hu =>
      obtain ⟨b, rfl, _⟩ := DataW.trod_bool hu h
      exact ⟨_, CellsOk.one (.bool b), VRs.cons (.v _) (VRs.nil _)⟩
    | float hu =>
      have hb : ∃ b, cs = [.float .f64 b] ∧ (Lit.float .f64 b).wf = true := by
        unfold DataW.trod at h
        rw [hu] at h
        split at h <;> simp_all
      obtain ⟨b, rfl, hw⟩ := hb
      exact ⟨_, CellsOk.one (.float hw), VRs.cons (.v _) (VRs.nil _)⟩
    | str hu =>
      obtain ⟨s, rfl, _, hl⟩ := DataW.trod_string hu h
      exact ⟨_, CellsOk.one (.str hl), VRs.cons (.v _) (VRs.nil _)⟩
    | @slice _ e es hu he hc =>
      rcases DataW.trod_slice hu h with ⟨rfl, _⟩ | ⟨a, len, cap, elems, rest, n', hn, rfl, _, _, hl, hm, hel, hget, _, _⟩
      · refine ⟨[.row [] es.length 0], CellsOk.one (.slice (Nat.zero_le _) (fun i x h => by simp at h) (fun i j x s d h => by simp at h)), VRs.cons (.rowNil _ 0 (.inl rfl)) (VRs.nil _)⟩
      · have hn' : n' = n := by omega
        subst hn'
        have hall : ∀ i, i < len → ∃ ds : List D, CellsOk es ds ∧ ∃ us : List Value, us.length = es.length ∧ VRs (GW W) ds us ∧ ∀ j, j < es.length → W.cell? ((a.add (i * es.length)).add j) = us[j]? := fun i hi => by
          have hg := hget i hi
          rw [hc, List.getElem?_eq_getElem (by omega)] at hg
          obtain ⟨us, h1, h2⟩ := Option.bind_eq_some_iff.1 hg
          obtain ⟨_, h3, h4⟩ := World.cells?_some h1
          obtain ⟨ds, h5, h6⟩ := ih e es us _ he h2
          exact ⟨ds, h5, us, h3, h6, h4⟩
        obtain ⟨f, hf⟩ : ∃ f : Nat → List D, ∀ i, i < len → CellsOk es (f i) ∧ ∃ us : List Value, us.length = es.length ∧ VRs (GW W) (f i) us ∧ ∀ j, j < es.length → W.cell? ((a.add (i * es.length)).add j) = us[j]? := by
          classical
          refine ⟨fun i => if hi : i < len then Classical.choose (hall i hi) else [], fun i hi => ?_⟩
          simp only [dif_pos hi]
          exact Classical.choose_spec (hall i hi)
        obtain ⟨g, hg⟩ : ∃ g : Nat → List Value, ∀ i, i < len → (g i).length = es.length ∧ VRs (GW W) (f i) (g i) ∧ ∀ j, j < es.length → W.cell? ((a.add (i * es.length)).add j) = (g i)[j]? := by
          classical
          refine ⟨fun i => if hi : i < len then Classical.choose (hf i hi).2 else [], fun i hi => ?_⟩
          simp only [dif_pos hi]
          exact Classical.choose_spec (hf i hi).2
        have hget' : ∀ (i : Nat) (x : List D), ((List.range len).map f)[i]? = some x → i < len ∧ x = f i := fun i x hx => by
          rw [List.getElem?_map] at hx
          obtain ⟨q, hq, rfl⟩ := Option.map_eq_some_iff.1 hx
          have hi : i < len := by have := (List.getElem?_eq_some_iff.1 hq).1; simpa using this
          rw [List.getElem?_range hi] at hq
          cases hq
          exact ⟨hi, rfl⟩
        refine ⟨[.row ((List.range len).map f) es.length 0], CellsOk.one (.slice (by simp; omega) (fun i x hx => ?_) (fun i j x s d hx h1 h2 => ?_)), VRs.cons ?_ (VRs.nil _)⟩
        · obtain ⟨hi, rfl⟩ := hget' i x hx
          exact (hf i hi).1.1
        · obtain ⟨hi, rfl⟩ := hget' i x hx
          exact (hf i hi).1.2 j s d h1 h2
        · refine .row _ es.length 0 a len cap (fun i j => if i < len ∧ j < es.length then (g i).getD j aCell else aCell) (by simp) hl hm (fun i x hx => ?_) (fun i j hi hj => ?_) (fun i j => ?_) (fun i x j d hx hd => ?_) (fun h => absurd rfl h)
          · obtain ⟨hi, rfl⟩ := hget' i x hx
            exact (hf i hi).1.1
          · obtain ⟨h1, h2, h3⟩ := hg i hi
            have h4 := h3 j hj
            rw [Addr.add_add] at h4
            simp only [hi, hj, and_self, if_true]
            show W.cell? _ = _
            rw [h4, getD_in (by omega)]
            exact List.getElem?_eq_getElem (by omega)
          · split
            · rename_i hij
              obtain ⟨h1, h2, h3⟩ := hg i hij.1
              obtain ⟨h5, h6⟩ := (hf i hij.1).1
              have hjf : j < (f i).length := by rw [h5]; exact hij.2
              rw [getD_in (by omega)]
              exact oneD_ok (h2.2 j _ _ (List.getElem?_eq_getElem hjf) (List.getElem?_eq_getElem (by omega))) (cellOk_one (h6 j _ _ (List.getElem?_eq_getElem hij.2) (List.getElem?_eq_getElem hjf)))
            · rfl
          · obtain ⟨hi, rfl⟩ := hget' i x hx
            obtain ⟨h1, h2, h3⟩ := hg i hi
            have hjl : j < es.length := by rw [← (hf i hi).1.1]; exact (List.getElem?_eq_some_iff.1 hd).1
            simp only [hi, hjl, and_self, if_true]
            rw [getD_in (by omega)]
            exact h2.2 j d _ hd (List.getElem?_eq_getElem (by omega))
    | @struct _ fs _ hu hf hc =>
      obtain ⟨xs, n', hn, _, hl, hxl, hget⟩ := DataW.trod_struct hu h
      have hn' : n' = n := by omega
      subst hn'
      rw [hc] at hl
      have key : ∀ (fl : List Field) (off i0 : Nat) (ss : List Cs), HasShF P fl off ss → off + ss.length ≤ cs.length → (∀ (i : Nat) (f : Field), fl[i]? = some f → ∃ y, DataW.trod enc P W base spare held n' f.type ((cs.drop f.offset).take (P.cellsOf f.type)) = some y) →
          ∃ ds, CellsOk ss ds ∧ VRs (GW W) ds ((cs.drop off).take ss.length) := by
        intro fl
        induction fl with
        | nil =>
          intro off i0 ss hsf hle _
          cases hsf
          exact ⟨[], ⟨rfl, fun j s d h => by simp at h⟩, by simpa using VRs.nil _⟩
        | cons f fl ihf =>
          intro off i0 ss hsf hle hy
          cases hsf with
          | @cons _ _ _ s1 rest hsh ho hcc hr =>
            rw [List.length_append] at hle
            obtain ⟨y, hy0⟩ := hy 0 f rfl
            rw [ho, hcc] at hy0
            obtain ⟨d1, h1, h2⟩ := ih f.type s1 _ y hsh hy0
            obtain ⟨d2, h3, h4⟩ := ihf (off + s1.length) (i0 + 1) rest hr (by omega) (fun i f' hf' => hy (i + 1) f' (by simpa using hf'))
            refine ⟨d1 ++ d2, h1.append h3, ?_⟩
            have e : (cs.drop off).take (s1 ++ rest).length = (cs.drop off).take s1.length ++ (cs.drop (off + s1.length)).take rest.length := by
              rw [List.length_append, List.take_add, List.drop_drop]
            rw [e]
            exact h2.append h4
      obtain ⟨ds, h1, h2⟩ := key fs.toList 0 0 ss hf (by omega) (fun i f hf' => by
        have hf2 : fs[i]? = some f := by simpa using hf'
        have hi : i < fs.size := (Array.getElem?_eq_some_iff.1 hf2).1
        exact ⟨xs[i]'(by omega), by rw [hget i f hf2]; exact List.getElem?_eq_getElem (by omega)⟩)
      rw [List.drop_zero, ← hl, List.take_length] at h2
      exact ⟨ds, h1, h2⟩

/-- Rows told by what they are made of. -/
theorem map_choose {α : Type} (f : α → List D) (p : α → Prop) (xs : List (List D)) (h : ∀ (i : Nat) (x : List D), xs[i]? = some x → ∃ a, x = f a ∧ p a) : ∃ l : List α, xs = l.map f ∧ ∀ a ∈ l, p a := by
  induction xs with
  | nil => exact ⟨[], rfl, fun a ha => by cases ha⟩
  | cons x xs ih =>
    obtain ⟨a, rfl, ha⟩ := h 0 x rfl
    obtain ⟨l, rfl, hl⟩ := ih (fun i x hx => h (i + 1) x (by simpa using hx))
    exact ⟨a :: l, rfl, fun b hb => by
      rcases List.mem_cons.1 hb with rfl | hb
      · exact ha
      · exact hl b hb⟩
theorem CellOk.toInt {k : IntKind} {d : D} (h : CellOk (.int k) d) : ∃ n, d = .v (.int k n) ∧ k.min ≤ n ∧ n ≤ k.max := by cases h with | int h0 h1 => exact ⟨_, rfl, h0, h1⟩
theorem CellOk.toBool {d : D} (h : CellOk .bool d) : ∃ b, d = .v (.bool b) := by cases h with | bool b => exact ⟨b, rfl⟩
theorem CellOk.toFloat {d : D} (h : CellOk .float d) : ∃ b, d = .v (.float .f64 b) ∧ (Lit.float .f64 b).wf = true := by cases h with | float hb => exact ⟨_, rfl, hb⟩
theorem CellOk.toRow {es : List Cs} {d : D} (h : CellOk (.slice es) d) : ∃ xs, d = .row xs es.length 0 ∧ xs.length ≤ maxLen ∧ ∀ (i : Nat) (x : List D), xs[i]? = some x → CellsOk es x := by
  cases h with
  | slice hl hx hj => exact ⟨_, rfl, hl, fun i x h => ⟨hx i x h, fun j s d h1 h2 => hj i j x s d h h1 h2⟩⟩
theorem CellsOk.cons {s : Cs} {ss : List Cs} {x : List D} (h : CellsOk (s :: ss) x) : ∃ d ds, x = d :: ds ∧ CellOk s d ∧ CellsOk ss ds := by
  obtain ⟨hl, hc⟩ := h
  cases x with
  | nil => simp at hl
  | cons d ds => exact ⟨d, ds, rfl, hc 0 s d rfl rfl, ⟨by simpa using hl, fun j s' d' h1 h2 => hc (j + 1) s' d' (by simpa using h1) (by simpa using h2)⟩⟩
theorem CellsOk.nil {x : List D} (h : CellsOk [] x) : x = [] := List.length_eq_zero_iff.1 h.1
theorem CellOk.toBytes {d : D} (h : CellOk (.slice [.int .u8]) d) : ∃ l : List UInt8, d = .row (bytesD l) 1 0 ∧ l.length ≤ maxLen := by
  obtain ⟨xs, rfl, hl, hx⟩ := h.toRow
  obtain ⟨l, rfl, _⟩ := map_choose (fun b : UInt8 => [.v (.int .u8 (b.toNat : Int))]) (fun _ => True) xs (fun i x h => by
    obtain ⟨d, ds, rfl, h1, h2⟩ := (hx i x h).cons
    obtain rfl := h2.nil
    obtain ⟨n, rfl, h3, h4⟩ := h1.toInt
    simp [IntKind.min, IntKind.max, IntKind.signed, IntKind.bits] at h3 h4
    exact ⟨UInt8.ofNat n.toNat, by simp; omega, trivial⟩)
  exact ⟨l, rfl, by simpa using hl⟩
/-- A slice of a row: how long it is at most. -/
theorem row_len {H : Type} {enc : TypeId × Value → H} {P : Program} {W : World} {base : Nat} {held : Bool} {t e : TypeId} {a : Option Addr} {len cap : Nat} {d : DataW H} {ps : List MemPlace} {ts : List TypeId} {ds : List (DataW H)} {j : Nat}
    (hsz : (DataW.weightsEach P ts ds).all (· ≤ reachBytes) = true) (ht : ts[j]? = some t) (hd : ds[j]? = some d) (hu : P.underlying t = some (.slice e)) (hB : 0 < P.bytesOf e)
    (h : DataW.Trod enc P W base (fun _ => true) held t (.slice a len cap) d ps) : len ≤ 140737488351232 := by
  obtain ⟨fuel, hf⟩ := h
  rcases DataW.trod_slice hu hf with ⟨hcs, _⟩ | ⟨a', len', cap', elems, rest, n', _, hcs, hx, _, hl, _, hel, _⟩
  · simp [Value.cells] at hcs
    omega
  · simp [Value.cells] at hcs
    obtain ⟨rfl, rfl, rfl⟩ := hcs
    obtain ⟨hx, _⟩ := Prod.mk.inj hx
    subst hx
    have z := sized_slice hsz ht hd hu
    simp only [reachBytes, List.length_map] at z
    have : len ≤ (elems.length + rest.length) * P.bytesOf e := by
      rw [hel]
      exact Nat.le_trans (Nat.le_add_right _ _) (Nat.le_mul_of_pos_right _ hB)
    omega
theorem vr_row_len {G : Gh} {xs : List (List D)} {k t : Nat} {a : Option Addr} {n c : Nat} (h : VR G (.row xs k t) (.slice a n c)) : xs.length = n := by
  cases h with
  | row _ _ _ a n c u hn => exact hn
  | rowNil => rfl
end Go.Proofs.Zm
