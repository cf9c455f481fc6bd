/- The framework's twenty-fourth part: owned rows given away for reading; elements and cuts of rows by the operation's form. -/
import Derived.Test.YtpelekdimmfldaaZm23
namespace Go.Proofs.Zm
open Go.RowKit
set_option linter.unusedVariables false

/-- Slots behind an owned row's giving away. -/
def FzO (ob : Option Nat) (m c : Nat) (xs : List (List D)) (k : Nat) (env : Env) (ks : List Nat) (env1 : Env) : Prop :=
  ∀ t d', zlook env1 t = some d' → ∃ d, zlook env t = some d ∧ (d' = d ∨ (d = orow ob m c ∧ d' = .row xs k 0))
section
variable {ob : Option Nat} {m c : Nat} {xs : List (List D)} {k : Nat} {env : Env}
theorem fzo_nil : FzO ob m c xs k env [] [] := fun t d h => by simp [zlook] at h
theorem fzo_cons {s : Nat} {ks : List Nat} {d d' : D} {r : Env} (h : zlook env s = some d) (hd : d' = d ∨ (d = orow ob m c ∧ d' = .row xs k 0)) (hs : FzO ob m c xs k env ks r) : FzO ob m c xs k env (s :: ks) ((s, d') :: r) := fun t d2 e => by
  unfold zlook at e
  split at e
  · rename_i hk; subst hk; cases e; exact ⟨d, h, hd⟩
  · exact hs t d2 e
theorem fzo_row {s : Nat} {ks : List Nat} {r : Env} (h : zlook env s = some (orow ob m c)) (hs : FzO ob m c xs k env ks r) : FzO ob m c xs k env (s :: ks) ((s, .row xs k 0) :: r) := fzo_cons h (.inr ⟨rfl, rfl⟩) hs
theorem fzo_same {s : Nat} {ks : List Nat} {d : D} {r : Env} (h : zlook env s = some d) (hs : FzO ob m c xs k env ks r) : FzO ob m c xs k env (s :: ks) ((s, d) :: r) := fzo_cons h (.inl rfl) hs
theorem fzo_skip {s : Nat} {ks : List Nat} {r : Env} (hs : FzO ob m c xs k env ks r) : FzO ob m c xs k env (s :: ks) r := hs
end

section
variable {P : Program} {w0 : World} {n : Nat} {env : Env} {st st0 : St} {Q Q1 : ZPost} {ops : Array Oper} {t : Nat} {rest : List Oper} {x y z : Operand} {t1 t2 ty : TypeId} {pos : String} {after : Array Edge}

theorem flatten_len {k : Nat} (xs : List (List D)) (hk : ∀ x ∈ xs, x.length = k) : xs.flatten.length = xs.length * k := flatten_length hk

/-- What is known of an owned row, given away for reading. -/
theorem sfreeze_main {G : Gh} {w : World} {ob : Option Nat} {full cells : List D} {k m c i : Nat} {L : List (Option Nat × List D)} {tmps : Array Value} {ks : List Nat} {env1 : Env} (xs : List (List D)) (k0 : 0 < k) (hS : Sep st0 st L) (hi : L[i]? = some (ob, full)) (hg : GRow ob full k m c cells)
    (hx : xs.flatten = cells) (hk : ∀ x ∈ xs, x.length = k) (hE : FzO ob m c xs k env ks env1) (hr : Rel w0 G st w) (he : ER G n env tmps) :
    ∃ G' st', G.le G' ∧ Rel w0 G' st' w ∧ ER G' n env1 tmps ∧ Sep st0 st' (L.eraseIdx i) := by
  have hxl : xs.length = m := by
    have h1 := flatten_len xs hk
    rw [hx, hg.length] at h1
    exact (Nat.eq_of_mul_eq_mul_right k0 h1).symm
  cases ob with
  | some id =>
    have hH := hS.at_ hi
    obtain ⟨G', hle, hrel, hnx, c', hl, h1, hv, hM, hrho⟩ := hr.freeze hH
    refine ⟨G', _, hle, hrel, ?_, hS.drop hi⟩
    have hfe : FrzE id full env1 env := fun s d' e => by
      obtain ⟨d, h1, h2⟩ := hE s d' e
      refine ⟨d, h1, ?_⟩
      rcases h2 with rfl | ⟨rfl, rfl⟩
      · exact .same _
      · exact Frz.mrow 0 m c k xs hxl hk (by rw [List.drop_zero, hg.cells, hx])
    exact hfe.ok hle hrho hl h1 hv hM he
  | none =>
    refine ⟨G, st, .refl G, hr, ⟨he.size, fun s d' e => ?_⟩, hS.erase i⟩
    obtain ⟨d, h1, h2⟩ := hE s d' e
    obtain ⟨u, hu, hv⟩ := he.at_ s d h1
    refine ⟨u, hu, ?_⟩
    rcases h2 with rfl | ⟨rfl, rfl⟩
    · exact hv
    · have hm : m = 0 := by have := hg.nil rfl; have := hg.room; omega
      rw [hm] at hxl
      have : xs = [] := List.length_eq_zero_iff.1 hxl
      subst this
      have := hv.eq_v
      subst this
      exact .rowNil k 0 (.inl rfl)
theorem zr_sfreeze {cd : Code} (i : Nat) {ob : Option Nat} {full cells : List D} {k m c : Nat} {L : List (Option Nat × List D)} {env1 : Env} (ks : List Nat) (xs : List (List D)) (k0 : 0 < k) (hS : Sep st0 st L) (hi : L[i]? = some (ob, full)) (hg : GRow ob full k m c cells)
    (hx : xs.flatten = cells) (hk : ∀ x ∈ xs, x.length = k) (hE : FzO ob m c xs k env ks env1) (h : ∀ st', Sep st0 st' (L.eraseIdx i) → ZWp P w0 n cd Q env1 st') : ZWp P w0 n cd Q env st := by
  intro G w a hr he hd
  obtain ⟨G', st', hle, hr', he', hS'⟩ := sfreeze_main xs k0 hS hi hg hx hk hE hr he
  exact Code.wp_mono (Outc.mono hle (fun _ _ _ h => h)) (h st' hS' G' w a hr' he' hd)
theorem zo_sfreeze {l : List Oper} (i : Nat) {ob : Option Nat} {full cells : List D} {k m c : Nat} {L : List (Option Nat × List D)} {env1 : Env} (ks : List Nat) (xs : List (List D)) (k0 : 0 < k) (hS : Sep st0 st L) (hi : L[i]? = some (ob, full)) (hg : GRow ob full k m c cells)
    (hx : xs.flatten = cells) (hk : ∀ x ∈ xs, x.length = k) (hE : FzO ob m c xs k env ks env1) (h : ∀ st', Sep st0 st' (L.eraseIdx i) → ZOps P w0 n ops l Q env1 st') : ZOps P w0 n ops l Q env st := by
  intro G w a hr he hd
  obtain ⟨G', st', hle, hr', he', hS'⟩ := sfreeze_main xs k0 hS hi hg hx hk hE hr he
  exact wpList_mono (Outc.mono hle (fun _ _ _ h => h)) (fun c a w h => h.elim) l a w (h st' hS' G' w a hr' he' hd)

/-- The literal nil, as an owned row. -/
theorem zr_snil {cd : Code} (s : Nat) (h : zlook env s = some (.v (.slice none 0 0))) (hk : ZWp P w0 n cd Q ((s, orow none 0 0) :: env) st) : ZWp P w0 n cd Q env st :=
  hk.weaken fun t d e => by
    unfold zlook at e
    split at e
    · rename_i hs; subst hs; cases e; exact h
    · exact e

/-- Bytes as cells. -/
def byteC (l : List UInt8) : List D := l.map fun b => .v (.int .u8 (b.toNat : Int))
theorem bytesD_flat (l : List UInt8) : (bytesD l).flatten = byteC l := by
  induction l with
  | nil => rfl
  | cons b l ih => simp only [bytesD, List.map_cons, List.flatten_cons, byteC] at ih ⊢; rw [ih]; rfl
theorem byteC_append (l m : List UInt8) : byteC (l ++ m) = byteC l ++ byteC m := by simp [byteC]
theorem byteC_length (l : List UInt8) : (byteC l).length = l.length := by simp [byteC]
theorem bytesD_one (l : List UInt8) : ∀ x ∈ bytesD l, x.length = 1 := fun x hx => by
  obtain ⟨b, _, rfl⟩ := List.mem_map.1 hx; rfl

/-- Elements. -/
theorem zs_index_mrow {j' : Nat} {e k id off m c : Nat} {ik : IntKind} {j : Int} (ht : Nat.ble (t + 1) n = true) (hx : ev env x = some (.mrow id off m c)) (hy : ev env y = some (.v (.int ik j))) (ht1 : P.underlying t1 = some (.slice e)) (hi : ∃ i, P.info? e = some i ∧ i.size = k) (h0 : 0 ≤ j) (h1 : j < m)
    (ej : j.toNat = j') (hk : ZOps P w0 n ops rest Q ((t, .ptr id (off + j' * k)) :: env) st) : ZOps P w0 n ops (⟨some t, .indexAddr t1 x y, ty, pos, after, none⟩ :: rest) Q env st := by
  subst ej
  obtain ⟨i, hi1, hi2⟩ := hi
  exact zo_pure0 rfl rfl (Nat.le_of_ble_eq_true ht) (zp_index_mrow rfl ht1 hi1 hi2 hx hy h0 h1) hk
theorem zs_index_mrow0 {j' : Nat} {e k id m c : Nat} {ik : IntKind} {j : Int} (ht : Nat.ble (t + 1) n = true) (hx : ev env x = some (.mrow id 0 m c)) (hy : ev env y = some (.v (.int ik j))) (ht1 : P.underlying t1 = some (.slice e)) (hi : ∃ i, P.info? e = some i ∧ i.size = k) (h0 : 0 ≤ j) (h1 : j < m)
    (ej : j.toNat = j') (hk : ZOps P w0 n ops rest Q ((t, .ptr id (j' * k)) :: env) st) : ZOps P w0 n ops (⟨some t, .indexAddr t1 x y, ty, pos, after, none⟩ :: rest) Q env st := by
  subst ej
  obtain ⟨i, hi1, hi2⟩ := hi
  have := zp_index_mrow (P := P) (o := ⟨some t, .indexAddr t1 x y, ty, pos, after, none⟩) rfl ht1 hi1 hi2 hx hy h0 h1
  rw [Nat.zero_add] at this
  exact zo_pure0 rfl rfl (Nat.le_of_ble_eq_true ht) this hk
theorem zs_index_mrow1 {j' : Nat} {e id m c : Nat} {ik : IntKind} {j : Int} (ht : Nat.ble (t + 1) n = true) (hx : ev env x = some (.mrow id 0 m c)) (hy : ev env y = some (.v (.int ik j))) (ht1 : P.underlying t1 = some (.slice e)) (hi : ∃ i, P.info? e = some i ∧ i.size = 1) (h0 : 0 ≤ j) (h1 : j < m)
    (ej : j.toNat = j') (hk : ZOps P w0 n ops rest Q ((t, .ptr id j') :: env) st) : ZOps P w0 n ops (⟨some t, .indexAddr t1 x y, ty, pos, after, none⟩ :: rest) Q env st := by
  subst ej
  obtain ⟨i, hi1, hi2⟩ := hi
  have := zp_index_mrow (P := P) (o := ⟨some t, .indexAddr t1 x y, ty, pos, after, none⟩) rfl ht1 hi1 hi2 hx hy h0 h1
  rw [Nat.zero_add, Nat.mul_one] at this
  exact zo_pure0 rfl rfl (Nat.le_of_ble_eq_true ht) this hk
theorem zs_idxB {j' : Nat} {e tk : Nat} {l : List UInt8} {ik : IntKind} {j : Int} (ht : Nat.ble (t + 1) n = true) (hx : ev env x = some (.row (bytesD l) 1 tk)) (hy : ev env y = some (.v (.int ik j))) (ht1 : P.underlying t1 = some (.slice e)) (hi : ∃ i, P.info? e = some i ∧ i.size = 1) (h0 : 0 ≤ j) (h1 : j < (l.length : Nat))
    (ej : j.toNat = j') (hk : ZOps P w0 n ops rest Q ((t, .ref [.v (.int .u8 ((l.getD j' 0).toNat : Int))]) :: env) st) : ZOps P w0 n ops (⟨some t, .indexAddr t1 x y, ty, pos, after, none⟩ :: rest) Q env st := by
  subst ej
  obtain ⟨i, hi1, hi2⟩ := hi
  obtain ⟨q, rfl⟩ := Int.eq_ofNat_of_zero_le h0
  rw [Int.toNat_natCast] at hk
  exact zo_pure0 rfl rfl (Nat.le_of_ble_eq_true ht) (zp_idxB rfl ht1 (Option.map_eq_some_iff.2 ⟨i, hi1, hi2⟩) hx hy (by omega)) hk
theorem zs_idx {j' : Nat} {e tk k : Nat} {xs : List (List D)} {ik : IntKind} {j : Int} (ht : Nat.ble (t + 1) n = true) (hx : ev env x = some (.row xs k tk)) (hy : ev env y = some (.v (.int ik j))) (ht1 : P.underlying t1 = some (.slice e)) (hi : ∃ i, P.info? e = some i ∧ i.size = k) (h0 : 0 ≤ j) (h1 : j < (xs.length : Nat))
    (ej : j.toNat = j') (hk : ZOps P w0 n ops rest Q ((t, .ref (xs.getD j' [])) :: env) st) : ZOps P w0 n ops (⟨some t, .indexAddr t1 x y, ty, pos, after, none⟩ :: rest) Q env st := by
  subst ej
  obtain ⟨i, hi1, hi2⟩ := hi
  exact zo_pure0 rfl rfl (Nat.le_of_ble_eq_true ht) (zp_indexAddr rfl ht1 hi1 hi2 hx hy h0 h1) hk

/-- Cuts of bytes, of strings, of rows. -/
theorem zs_cutB {a' b' : Nat} {e tk : Nat} {l : List UInt8} {lo hi : Operand} {k1 k2 : IntKind} {a b : Int} (ht : Nat.ble (t + 1) n = true) (hx : ev env x = some (.row (bytesD l) 1 tk)) (ht1 : P.underlying t1 = some (.slice e)) (hi' : ∃ i, P.info? e = some i ∧ i.size = 1) (hl : ev env lo = some (.v (.int k1 a))) (hh : ev env hi = some (.v (.int k2 b)))
    (h0 : 0 ≤ a) (h1 : a ≤ b) (h2 : b ≤ (l.length : Nat)) (ea : a.toNat = a') (eb : b.toNat = b') (hk : ZOps P w0 n ops rest Q ((t, .row (bytesD ((l.take b').drop a')) 1 0) :: env) st) : ZOps P w0 n ops (⟨some t, .slice t1 x (some lo) (some hi) none, ty, pos, after, none⟩ :: rest) Q env st := by
  subst ea eb
  obtain ⟨i, hi1, hi2⟩ := hi'
  exact zo_pure0 rfl rfl (Nat.le_of_ble_eq_true ht) (zp_cutB rfl ht1 (Option.map_eq_some_iff.2 ⟨i, hi1, hi2⟩) hx ⟨k1, by rw [hl]; congr; omega⟩ ⟨k2, by rw [hh]; congr; omega⟩ (by omega) (by omega)) hk
theorem zs_cutBlo {a' : Nat} {e tk : Nat} {l : List UInt8} {lo : Operand} {k1 : IntKind} {a : Int} (ht : Nat.ble (t + 1) n = true) (hx : ev env x = some (.row (bytesD l) 1 tk)) (ht1 : P.underlying t1 = some (.slice e)) (hi' : ∃ i, P.info? e = some i ∧ i.size = 1) (hl : ev env lo = some (.v (.int k1 a)))
    (h0 : 0 ≤ a) (h2 : a ≤ (l.length : Nat)) (ea : a.toNat = a') (hk : ZOps P w0 n ops rest Q ((t, .row (bytesD (l.drop a')) 1 0) :: env) st) : ZOps P w0 n ops (⟨some t, .slice t1 x (some lo) none none, ty, pos, after, none⟩ :: rest) Q env st := by
  subst ea
  obtain ⟨i, hi1, hi2⟩ := hi'
  have := zp_cutB (P := P) (env := env) (o := ⟨some t, .slice t1 x (some lo) none none, ty, pos, after, none⟩) (l := a.toNat) (m := l.length) rfl ht1 (Option.map_eq_some_iff.2 ⟨i, hi1, hi2⟩) hx ⟨k1, by rw [hl]; congr; omega⟩ rfl (by omega) (by omega)
  rw [List.take_length] at this
  exact zo_pure0 rfl rfl (Nat.le_of_ble_eq_true ht) this hk
theorem zs_cutBhi {b' : Nat} {e tk : Nat} {l : List UInt8} {hi : Operand} {k2 : IntKind} {b : Int} (ht : Nat.ble (t + 1) n = true) (hx : ev env x = some (.row (bytesD l) 1 tk)) (ht1 : P.underlying t1 = some (.slice e)) (hi' : ∃ i, P.info? e = some i ∧ i.size = 1) (hh : ev env hi = some (.v (.int k2 b)))
    (h0 : 0 ≤ b) (h2 : b ≤ (l.length : Nat)) (eb : b.toNat = b') (hk : ZOps P w0 n ops rest Q ((t, .row (bytesD (l.take b')) 1 0) :: env) st) : ZOps P w0 n ops (⟨some t, .slice t1 x none (some hi) none, ty, pos, after, none⟩ :: rest) Q env st := by
  subst eb
  obtain ⟨i, hi1, hi2⟩ := hi'
  have := zp_cutB (P := P) (env := env) (o := ⟨some t, .slice t1 x none (some hi) none, ty, pos, after, none⟩) (l := 0) (m := b.toNat) rfl ht1 (Option.map_eq_some_iff.2 ⟨i, hi1, hi2⟩) hx rfl ⟨k2, by rw [hh]; congr; omega⟩ (by omega) (by omega)
  rw [List.drop_zero] at this
  exact zo_pure0 rfl rfl (Nat.le_of_ble_eq_true ht) this hk
theorem zs_cut {a' b' : Nat} {e tk k : Nat} {xs : List (List D)} {lo hi : Operand} {k1 k2 : IntKind} {a b : Int} (ht : Nat.ble (t + 1) n = true) (hx : ev env x = some (.row xs k tk)) (ht1 : P.underlying t1 = some (.slice e)) (hi' : ∃ i, P.info? e = some i ∧ i.size = k) (hl : ev env lo = some (.v (.int k1 a))) (hh : ev env hi = some (.v (.int k2 b)))
    (h0 : 0 ≤ a) (h1 : a ≤ b) (h2 : b ≤ (xs.length : Nat)) (ea : a.toNat = a') (eb : b.toNat = b') (hk : ZOps P w0 n ops rest Q ((t, .row ((xs.take b').drop a') k 0) :: env) st) : ZOps P w0 n ops (⟨some t, .slice t1 x (some lo) (some hi) none, ty, pos, after, none⟩ :: rest) Q env st := by
  subst ea eb
  obtain ⟨i, hi1, hi2⟩ := hi'
  exact zo_pure0 rfl rfl (Nat.le_of_ble_eq_true ht) (zp_cut rfl ht1 hi1 hi2 hx ⟨k1, by rw [hl]; congr; omega⟩ ⟨k2, by rw [hh]; congr; omega⟩ (by omega) (by omega)) hk
theorem zs_cutlo {a' : Nat} {e tk k : Nat} {xs : List (List D)} {lo : Operand} {k1 : IntKind} {a : Int} (ht : Nat.ble (t + 1) n = true) (hx : ev env x = some (.row xs k tk)) (ht1 : P.underlying t1 = some (.slice e)) (hi' : ∃ i, P.info? e = some i ∧ i.size = k) (hl : ev env lo = some (.v (.int k1 a)))
    (h0 : 0 ≤ a) (h2 : a ≤ (xs.length : Nat)) (ea : a.toNat = a') (hk : ZOps P w0 n ops rest Q ((t, .row (xs.drop a') k 0) :: env) st) : ZOps P w0 n ops (⟨some t, .slice t1 x (some lo) none none, ty, pos, after, none⟩ :: rest) Q env st := by
  subst ea
  obtain ⟨i, hi1, hi2⟩ := hi'
  have := zp_cut (P := P) (env := env) (o := ⟨some t, .slice t1 x (some lo) none none, ty, pos, after, none⟩) (l := a.toNat) (m := xs.length) rfl ht1 hi1 hi2 hx ⟨k1, by rw [hl]; congr; omega⟩ rfl (by omega) (by omega)
  rw [List.take_length] at this
  exact zo_pure0 rfl rfl (Nat.le_of_ble_eq_true ht) this hk
theorem zs_cuthi {b' : Nat} {e tk k : Nat} {xs : List (List D)} {hi : Operand} {k2 : IntKind} {b : Int} (ht : Nat.ble (t + 1) n = true) (hx : ev env x = some (.row xs k tk)) (ht1 : P.underlying t1 = some (.slice e)) (hi' : ∃ i, P.info? e = some i ∧ i.size = k) (hh : ev env hi = some (.v (.int k2 b)))
    (h0 : 0 ≤ b) (h2 : b ≤ (xs.length : Nat)) (eb : b.toNat = b') (hk : ZOps P w0 n ops rest Q ((t, .row (xs.take b') k 0) :: env) st) : ZOps P w0 n ops (⟨some t, .slice t1 x none (some hi) none, ty, pos, after, none⟩ :: rest) Q env st := by
  subst eb
  obtain ⟨i, hi1, hi2⟩ := hi'
  have := zp_cut (P := P) (env := env) (o := ⟨some t, .slice t1 x none (some hi) none, ty, pos, after, none⟩) (l := 0) (m := b.toNat) rfl ht1 hi1 hi2 hx rfl ⟨k2, by rw [hh]; congr; omega⟩ (by omega) (by omega)
  rw [List.drop_zero] at this
  exact zo_pure0 rfl rfl (Nat.le_of_ble_eq_true ht) this hk
/-- Own memory, under a guard. -/
theorem zs_g_load_ptr {id off : Nat} {cs : List D} {d : D} {j : Nat} {want c : Bool} (hS : symR ops = true) (hg : GC ops env j want c) (ht : Nat.ble (t + 1) n = true) (hx : c = true → ev env x = some (.ptr id off)) (hs : c = true → shapeIs P t1 false 1) (hH : c = true → st.H id = some cs) (hd : c = true → cs[off]? = some d)
    (hk : ZOps P w0 n ops rest Q ((t, gd c d) :: env) st) : ZOps P w0 n ops (⟨some t, .load t1 x, ty, pos, after, some (j, want)⟩ :: rest) Q env st :=
  zs_gen hS hg ht (fun hc _ hk' => ZVal.op rfl (Nat.le_of_ble_eq_true ht) (zv_load_ptr rfl (hs hc) (hx hc) (hH hc) (hd hc) hk')) hk
theorem zs_g_len_mrow {e id off m cp : Nat} {j : Nat} {want c : Bool} (hS : symR ops = true) (hg : GC ops env j want c) (ht : Nat.ble (t + 1) n = true) (ht1 : P.underlying t1 = some (.slice e)) (hx : c = true → ev env x = some (.mrow id off m cp))
    (hk : ZOps P w0 n ops rest Q ((t, gd c (.v (.int .i64 (m : Nat)))) :: env) st) : ZOps P w0 n ops (⟨some t, .call { callee := .builtin .len, args := #[x], argTypes := #[t1] }, ty, pos, after, some (j, want)⟩ :: rest) Q env st :=
  zs_gen hS hg ht (fun hc _ hk' => (zp_len_mrow rfl ht1 (hx hc)).opK rfl (Nat.le_of_ble_eq_true ht) hk') hk
/-- The literal nil, cut from its beginning on. -/
theorem zs_len_orow {e : TypeId} {ob : Option Nat} {m c : Nat} (ht : Nat.ble (t + 1) n = true) (hx : ev env x = some (orow ob m c)) (hm : ob = none → m = 0) (ht1 : P.underlying t1 = some (.slice e)) (hk : ZOps P w0 n ops rest Q ((t, .v (.int .i64 (m : Nat))) :: env) st) :
    ZOps P w0 n ops (⟨some t, .call { callee := .builtin .len, args := #[x], argTypes := #[t1] }, ty, pos, after, none⟩ :: rest) Q env st := by
  cases ob with
  | some id => exact zo_pure0 rfl rfl (Nat.le_of_ble_eq_true ht) (zp_len_mrow rfl ht1 hx) hk
  | none =>
    have := hm rfl; subst this
    exact zo_pure0 rfl rfl (Nat.le_of_ble_eq_true ht) (zp_len_nil rfl ht1 hx) hk
end
/-- What is owned beside what is owned. -/
theorem Sep.trans {st0 st st' : St} {L L' : List (Option Nat × List D)} (h : Sep st0 st L) (h' : Sep st st' L') : Sep st0 st' (L' ++ L) where
  ext := h.ext.trans h'.ext
  own := fun id cs hm => by
    rcases List.mem_append.1 hm with hm | hm
    · exact h'.own id cs hm
    · exact h'.ext.H _ _ (h.own id cs hm)
  new := fun id cs hm => by
    rcases List.mem_append.1 hm with hm | hm
    · exact h.ext.none (h'.new id cs hm)
    · exact h.new id cs hm
  apart := by
    rw [List.filterMap_append]
    refine List.nodup_append.2 ⟨h'.apart, h.apart, fun a ha b hb e => ?_⟩
    subst e
    obtain ⟨c1, h1⟩ := Sep.mem_ids ha
    obtain ⟨c2, h2⟩ := Sep.mem_ids hb
    have e1 := h'.new _ _ h1
    rw [h.own _ _ h2] at e1
    cases e1
theorem Sep.ne {st0 st : St} {L : List (Option Nat × List D)} (h : Sep st0 st L) {i j a b : Nat} {ca cb : List D} (hi : L[i]? = some (some a, ca)) (hj : L[j]? = some (some b, cb)) (hij : i ≠ j) : a ≠ b := fun e => by
  subst e
  obtain ⟨_, h2, h3, _⟩ := ids_split L i a ca hi h.apart
  have hm : (some a, cb) ∈ L.eraseIdx i := List.mem_eraseIdx_iff_getElem?.2 ⟨j, Ne.symm hij, hj⟩
  exact (h3 a cb hm).2 rfl
theorem Ext.setT' {a b : St} (h : Ext a b) {t : Nat} (ht : b.T t = false) (x : Bool) : Ext a (b.setT t x) := ⟨fun i cs e => h.H i cs e, fun i e => by
  have := h.T i e
  by_cases hi : i = t
  · subst hi; rw [ht] at this; cases this
  · simp [hi, this]⟩
/-- Arguments as slots. -/
def argE : Nat → List D → Env
  | _, [] => []
  | k, d :: ds => (k, d) :: argE (k + 1) ds
theorem argE_eq : ∀ (k : Nat) (ds : List D), (ds.zipIdx k).map (fun p => (p.2, p.1)) = argE k ds
  | _, [] => rfl
  | k, d :: ds => by rw [List.zipIdx_cons, List.map_cons, argE_eq (k + 1) ds]; rfl
theorem sound_ofA {P : Program} {f : FuncId} {fn : Func} {c : Code} {rs : List ResultVar} {spec : ZSpec} (hf : P.funcs[f]? = some fn) (hb : fn.body = some c) (hrs : fn.results = rs.toArray)
    (h : ∀ w0 args st K, spec args st K → args.length ≤ fn.ntmps ∧ ZWp P w0 fn.ntmps c (ZRet P rs (KE K)) (argE 0 args) st) : SoundF P f spec :=
  sound_ofE hf hb hrs fun w0 args st K hs => by rw [argE_eq]; exact h w0 args st K hs
theorem GRow.nil0 {o : Option Nat} {full : List D} {k m c : Nat} {cells : List D} (h : GRow o full k m c cells) : o = none → m = 0 := fun e => by have := h.nil e; have := h.room; omega
end Go.Proofs.Zm
