/- A part of the proof of PosmBounds: walks of the functions that it reaches. No condition. -/
import Derived.Test.YtpelekdimmfldaaZtPoC
namespace Go.Proofs.ZtLe
open Go.RowKit Go.Proofs Go.Proofs.Zm
set_option linter.unusedVariables false
set_option linter.unusedSimpArgs false
set_option maxHeartbeats 20000000
attribute [local irreducible] ZWp ZOps ZPure ZPure0 ZVal ZOp SoundF

/-! ### posm.Map -/
abbrev PL := List (Int × Int)
def posC (l : PL) : List D := l.flatMap fun p => [.v (.int .i64 p.1), .v (.int .u64 p.2)]
theorem posC_length (l : PL) : (posC l).length = l.length * 2 := by
  induction l with
  | nil => rfl
  | cons p l ih => simp only [posC, List.flatMap_cons, List.length_append, List.length_cons] at ih ⊢; rw [ih]; simp; omega
theorem posC_replicate (k : Nat) : (List.replicate k ([.v (.int .i64 0), .v (.int .u64 0)] : List D)).flatten = posC (List.replicate k (0, 0)) := by
  induction k with
  | zero => rfl
  | succ k ih => rw [List.replicate_succ, List.replicate_succ, List.flatten_cons, ih]; rfl
theorem posC_get (l : PL) (i : Nat) (h : i < l.length) : (posC l)[i * 2]? = some (.v (.int .i64 (l.getD i (0, 0)).1)) ∧ (posC l)[i * 2 + 1]? = some (.v (.int .u64 (l.getD i (0, 0)).2)) := by
  induction l generalizing i with
  | nil => simp at h
  | cons p l ih =>
    cases i with
    | zero => exact ⟨rfl, rfl⟩
    | succ i =>
      have := ih i (by simpa using h)
      refine ⟨?_, ?_⟩
      · rw [show (i + 1) * 2 = i * 2 + 1 + 1 by omega]; exact this.1
      · rw [show (i + 1) * 2 + 1 = i * 2 + 1 + 1 + 1 by omega]; exact this.2
theorem posC_take (l : PL) (i : Nat) : (posC l).take (i * 2) = posC (l.take i) := by
  induction l generalizing i with
  | nil => simp [posC]
  | cons p l ih =>
    cases i with
    | zero => rfl
    | succ i => rw [show (i + 1) * 2 = i * 2 + 1 + 1 by omega]; simp only [posC, List.flatMap_cons, List.take_succ_cons, List.cons_append, List.nil_append] at ih ⊢; rw [ih]
theorem posC_drop (l : PL) (i : Nat) : (posC l).drop (i * 2) = posC (l.drop i) := by
  induction l generalizing i with
  | nil => simp [posC]
  | cons p l ih =>
    cases i with
    | zero => rfl
    | succ i => rw [show (i + 1) * 2 = i * 2 + 1 + 1 by omega]; simp only [posC, List.flatMap_cons, List.drop_succ_cons, List.cons_append, List.nil_append] at ih ⊢; rw [ih]
theorem posC_append (l m : PL) : posC (l ++ m) = posC l ++ posC m := by simp [posC]
theorem posC_set (l : PL) (i : Nat) (h : i < l.length) (a b : Int) : (posC l).take (i * 2) ++ [D.v (.int .i64 a), D.v (.int .u64 b)] ++ (posC l).drop (i * 2 + 2) = posC (l.set i (a, b)) := by
  rw [show i * 2 + 2 = (i + 1) * 2 by omega, posC_take, posC_drop, List.set_eq_take_append_cons_drop, if_pos h, posC_append]
  simp [posC]
theorem posC_at (l : PL) (i : Nat) (h : i < l.length) : ((posC l).drop (i * 2)).take 2 = [D.v (.int .i64 (l.getD i (0, 0)).1), D.v (.int .u64 (l.getD i (0, 0)).2)] := by
  rw [posC_drop, List.drop_eq_getElem_cons h, getD_in h]; rfl

/-- Where a map lies. -/
structure MapAt (st : St) (p r : Nat) (l : PL) : Prop where
  ne : p ≠ r
  hp : st.H p = some [.mrow r 0 l.length l.length]
  hr : st.H r = some (posC l)
theorem MapAt.new {st : St} {p r : Nat} {l : PL} (h : MapAt st p r l) {id : Nat} (hf : Fresh st id) (x : Option (List D)) : MapAt (st.setH id x) p r l := ⟨h.ne, St.setH_new h.hp hf, St.setH_new h.hr hf⟩
theorem MapAt.set {st : St} {p r : Nat} {l : PL} (h : MapAt st p r l) (l' : PL) (hl : l'.length = l.length) : MapAt (st.setH r (some (posC l'))) p r l' := ⟨h.ne, by rw [hl]; exact St.setH_ne h.hp h.ne, St.setH_self _ _ _⟩

/-! ### New -/
def newN (n : Int) : Nat := (min (max n 0) 10000).toNat
def newSpec : ZSpec := fun args st K => ∃ n : Int, args = [.v (.int .i64 n)] ∧ ∀ p r, Fresh st r → Fresh (st.setH r (some (posC (List.replicate (newN n) (0, 0))))) p →
  K (.ptr p 0) ((st.setH r (some (posC (List.replicate (newN n) (0, 0))))).setH p (some [.mrow r 0 (newN n) (newN n)]))
theorem new_at (st : St) (p r : Nat) (l : PL) (h1 : Fresh st r) (h2 : Fresh (st.setH r (some (posC l))) p) : MapAt ((st.setH r (some (posC l))).setH p (some [.mrow r 0 l.length l.length])) p r l := by
  have hne : p ≠ r := fun e => by subst e; have := h2.1; simp at this
  exact ⟨hne, St.setH_self _ _ _, St.setH_ne (St.setH_self _ _ _) (Ne.symm hne)⟩
theorem new_snd : SoundF Try.prog 27 newSpec := by
  refine sound_of Try.func27 rfl Try.results27 ?_
  rintro w0 args st K ⟨n, rfl, hK⟩
  rw [Try.ntmps27]; refine ⟨by simp, ?_⟩
  (repeat (first | ((with_reducible apply zr_seq)) | ((with_reducible apply zr_region); (try simp only [List.append_eq, List.cons_append, List.nil_append])) | ((with_reducible apply zo_end)) | ((with_reducible apply zs_move); (exact rfl); (exact rfl)) | ((with_reducible apply zs_assign); (exact rfl); (exact rfl))))
  (try ((with_reducible apply zs_yes); exact rfl; exact rfl; (first | assumption | exact rfl))); refine zo_pure0 rfl rfl (by decide) (zp_max rfl rfl rfl (r := max n 0) rfl) ?_
  (try ((with_reducible apply zs_yes); exact rfl; exact rfl; (first | assumption | exact rfl))); refine zo_pure0 rfl rfl (by decide) (zp_min rfl rfl rfl (r := ((newN n : Nat) : Int)) (by unfold newN; omega)) ?_
  have hn : newN n ≤ 10000 := by unfold newN; omega
  (try ((with_reducible apply zs_yes); exact rfl; exact rfl; (first | assumption | exact rfl))); refine zo_val rfl rfl (by decide) (zv_make_own rfl el_Pos (by simp [oneD, Value.oneCell']) (by first | exact Try.underlying22 | exact Try.underlying47 | exact Try.underlying50 | exact Try.underlying59 | exact Try.underlying61 | exact Try.underlying73 | exact Try.underlying74 | exact Try.underlying78) rfl rfl (by omega) (by omega) (by omega) fun r hr => ?_)
  rw [Int.toNat_natCast, posC_replicate]
  refine zs_build (xs := [(0, .tmp 6)]) rfl el_Map st_Map rfl rfl ?_
  (try ((with_reducible apply zs_yes); exact rfl; exact rfl; (first | assumption | exact rfl))); refine zo_val rfl rfl (by decide) (zv_box rfl rfl (by simp [cellsD, oneD]) fun p hp => ?_)
  (repeat (first | ((with_reducible apply zo_end)) | ((with_reducible apply zs_assign); (exact rfl); (exact rfl))))
  refine zr_retZ rfl (resD_tmp rfl (resD_nil _ _ _)) ?_
  exact hK p r hr hp

/-! ### has -/
def hasM (l : PL) (id : Int) : Bool := decide (1 ≤ id ∧ id ≤ (l.length : Nat))
def hasSpec : ZSpec := fun args st K => ∃ (p r : Nat) (l : PL) (id : Int), args = [.ptr p 0, .v (.int .i64 id)] ∧ MapAt st p r l ∧ K (.v (.bool (hasM l id))) st
theorem has_snd : SoundF Try.prog 51 hasSpec := by
  refine sound_of Try.func51 rfl Try.results51 ?_
  rintro w0 args st K ⟨p, r, l, id, rfl, hM, hK⟩
  rw [Try.ntmps51]; refine ⟨by simp, ?_⟩
  have hp := hM.hp
  unfold hasM at hK
  (repeat (first | ((with_reducible apply zr_seq)) | ((with_reducible apply zr_region); (try simp only [List.append_eq, List.cons_append, List.nil_append])) | ((with_reducible apply zo_end)) | ((with_reducible apply zs_move); (exact rfl); (exact rfl)) | ((with_reducible apply zs_assign); (exact rfl); (exact rfl)) | ((with_reducible apply zs_geq); (exact rfl); (exact rfl); (exact rfl))))
  by_cases h1 : 1 ≤ id
  · have g1 : decide (1 ≤ id) = true := decide_eq_true h1
    (repeat (first | ((with_reducible apply zs_yes); (exact rfl); (exact rfl); (first | assumption | exact rfl)) | ((with_reducible apply zs_move); (exact rfl); (exact rfl)) | ((with_reducible apply zs_nilCheck_ptr); (exact rfl); (exact rfl)) | ((with_reducible apply zs_field_ptr); (exact rfl); (exact rfl); (first | exact fld_Pos_0 | exact fld_Pos_1 | exact fld_Map_0)) | ((with_reducible apply zs_load_ptr); (exact rfl); (exact rfl); (first | exact sh_Poss | exact sh_Int | exact sh_U64 | exact sh_Row | exact sh_Bool); (first | assumption | exact St.setH_self _ _ _); (exact rfl))))
    (try ((with_reducible apply zs_yes); exact rfl; exact rfl; (first | assumption | exact rfl))); refine zo_pure0 rfl rfl (by decide) (zp_len_mrow rfl (by first | exact Try.underlying22 | exact Try.underlying47 | exact Try.underlying50 | exact Try.underlying59 | exact Try.underlying61 | exact Try.underlying73 | exact Try.underlying74 | exact Try.underlying78) rfl) ?_
    (repeat (first | ((with_reducible apply zo_end)) | ((with_reducible apply zs_yes); (exact rfl); (exact rfl); (first | assumption | exact rfl)) | ((with_reducible apply zs_assign); (exact rfl); (exact rfl)) | ((with_reducible apply zs_leq); (exact rfl); (exact rfl); (exact rfl)) | ((with_reducible apply zs_pick_t); (exact rfl); (exact rfl); (first | assumption | exact rfl); (exact rfl))))
    refine zr_retZ rfl (resD_tmp rfl (resD_nil _ _ _)) ?_
    simpa [resOf, h1] using hK
  · have g1 : decide (1 ≤ id) = false := decide_eq_false h1
    (repeat (first | ((with_reducible apply zo_end)) | ((with_reducible apply zs_noU); (exact rfl); (exact rfl); (first | assumption | exact rfl | (simp only [Bool.not_false, Bool.not_true]; assumption)); (exact rfl)) | ((with_reducible apply zs_assign); (exact rfl); (exact rfl)) | ((with_reducible apply zs_pick_f); (exact rfl); (exact rfl); (first | assumption | exact rfl); (exact rfl))))
    refine zr_retZ rfl (resD_tmp rfl (resD_nil _ _ _)) ?_
    simpa [resOf, h1] using hK

/-! ### Clear -/
def clearM (l : PL) (id : Int) : PL := if hasM l id = true then l.set (id - 1).toNat (0, 0) else l
@[simp] theorem clearM_length (l : PL) (id : Int) : (clearM l id).length = l.length := by unfold clearM; split <;> simp
theorem hasM_true {l : PL} {id : Int} (h : hasM l id = true) : 1 ≤ id ∧ id ≤ (l.length : Nat) := of_decide_eq_true h
theorem hasM_false {l : PL} {id : Int} (h : hasM l id = false) : ¬ (1 ≤ id ∧ id ≤ (l.length : Nat)) := of_decide_eq_false h
def clearSpec : ZSpec := fun args st K => ∃ (p r : Nat) (l : PL) (id : Int), args = [.ptr p 0, .v (.int .i64 id)] ∧ -9223372036854775808 ≤ id ∧ id ≤ 9223372036854775807 ∧ MapAt st p r l ∧ K (.tup []) (st.setH r (some (posC (clearM l id))))
theorem clear_snd : SoundF Try.prog 31 clearSpec := by
  refine sound_of Try.func31 rfl Try.results31 ?_
  rintro w0 args st K ⟨p, r, l, id, rfl, hi0, hi1, hM, hK⟩
  rw [Try.ntmps31]; refine ⟨by simp, ?_⟩
  have hp := hM.hp
  have hr := hM.hr
  obtain ⟨iP, hiP, hkP⟩ := ii_Pos
  unfold clearM at hK
  (repeat (first | ((with_reducible apply zr_seq)) | ((with_reducible apply zr_region); (try simp only [List.append_eq, List.cons_append, List.nil_append])) | ((with_reducible apply zs_move); (exact rfl); (exact rfl))))
  (try ((with_reducible apply zs_yes); exact rfl; exact rfl; (first | assumption | exact rfl))); refine zo_callU has_snd Try.func51 (by kernel_rfl) rfl rfl rfl rfl (by decide) rfl rfl (by first | exact Ups.nilrow 1 (Ups.nilrow 1 (Ups.nilrow 1 (Ups.refl _))) | exact Ups.nilrow 1 (Ups.nilrow 1 (Ups.refl _)) | exact Ups.same (Ups.nilrow 1 (Ups.nilrow 1 (Ups.refl _))) | exact Ups.nilrow 1 (Ups.same (Ups.nilrow 1 (Ups.refl _))) | exact Ups.nilrow 1 (Ups.refl _) | exact Ups.same (Ups.nilrow 1 (Ups.refl _)) | exact Ups.same (Ups.same (Ups.nilrow 1 (Ups.refl _))) | exact Ups.refl _) ?_
  refine ⟨p, r, l, id, rfl, hM, ?_⟩
  cases hh : hasM l id
  · (repeat (first | ((with_reducible apply zo_end)) | ((with_reducible apply zr_cond_f); (exact rfl); (first | assumption | exact rfl))))
    rw [hh, if_neg (by simp), St.setH_same hr] at hK
    exact zr_skip ⟨[], resD_nil _ _ _, hK⟩
  · have hb := hasM_true hh
    (repeat (first | ((with_reducible apply zr_region); (try simp only [List.append_eq, List.cons_append, List.nil_append])) | ((with_reducible apply zo_end)) | ((with_reducible apply zs_move); (exact rfl); (exact rfl)) | ((with_reducible apply zs_sub); (exact rfl); (exact rfl); (exact rfl); (exact wrap_in64 (by omega) (by omega))) | ((with_reducible apply zr_cond_t); (exact rfl); (first | assumption | exact rfl)) | ((with_reducible apply zs_nilCheck_ptr); (exact rfl); (exact rfl)) | ((with_reducible apply zs_field_ptr); (exact rfl); (exact rfl); (first | exact fld_Pos_0 | exact fld_Pos_1 | exact fld_Map_0)) | ((with_reducible apply zs_load_ptr); (exact rfl); (exact rfl); (first | exact sh_Poss | exact sh_Int | exact sh_U64 | exact sh_Row | exact sh_Bool); (first | assumption | exact St.setH_self _ _ _); (exact rfl)) | ((with_reducible apply zs_build); (exact rfl); (first | exact el_Pos | exact el_Map); (first | exact st_Pos | exact st_Map); (exact rfl); (exact rfl))))
    (try ((with_reducible apply zs_yes); exact rfl; exact rfl; (first | assumption | exact rfl))); refine zo_pure0 rfl rfl (by decide) (zp_index_mrow rfl (by first | exact Try.underlying22 | exact Try.underlying47 | exact Try.underlying50 | exact Try.underlying59 | exact Try.underlying61 | exact Try.underlying73 | exact Try.underlying74 | exact Try.underlying78) hiP hkP rfl rfl (by omega) (by omega)) ?_
    rw [show 0 + (id - 1).toNat * 2 = (id - 1).toNat * 2 by omega]
    have hset := posC_set l (id - 1).toNat (by omega) 0 0
    refine zs_store rfl rfl sh_Pos hr rfl (by simp [cellsD, oneD, Value.oneCell']) (by rw [posC_length]; omega) hset ?_
    skip
    rw [hh, if_pos rfl] at hK
    exact zo_nil ⟨[], resD_nil _ _ _, hK⟩

/-! ### Get -/
def getM (l : PL) (id : Int) : Option (Int × Int) := if hasM l id = true ∧ (l.getD (id - 1).toNat (0, 0)).1 ≠ 0 then some ((l.getD (id - 1).toNat (0, 0)).1 - 1, (l.getD (id - 1).toNat (0, 0)).2) else none
def posD (p : Int × Int) : D := .agg [.v (.int .i64 p.1), .v (.int .u64 p.2)]
def getMSpec : ZSpec := fun args st K => ∃ (p r : Nat) (l : PL) (id : Int), args = [.ptr p 0, .v (.int .i64 id)] ∧ -9223372036854775808 ≤ id ∧ id ≤ 9223372036854775807 ∧ (∀ q ∈ l, 0 ≤ q.1 ∧ q.1 ≤ 65536) ∧ MapAt st p r l ∧
  K (.tup [posD ((getM l id).getD (0, 0)), .v (.bool (getM l id).isSome)]) st
theorem getM_snd : SoundF Try.prog 29 getMSpec := by
  refine sound_ofE Try.func29 rfl Try.results29 ?_
  rintro w0 args st K ⟨p, r, l, id, rfl, hi0, hi1, hl, hM, hK⟩
  rw [Try.ntmps29]; refine ⟨by simp, ?_⟩
  obtain ⟨iP, hiP, hkP⟩ := ii_Pos
  unfold getM at hK
  (repeat (first | ((with_reducible apply zr_seq)) | ((with_reducible apply zr_region); (try simp only [List.append_eq, List.cons_append, List.nil_append]))))
  (try ((with_reducible apply zs_yes); exact rfl; exact rfl; (first | assumption | exact rfl))); refine zo_val rfl rfl (by decide) (zv_alloc rfl el_Pos (by simp [oneD, Value.oneCell']) fun a ha => ?_)
  have hMa := hM.new ha (some [.v (.int .i64 0), .v (.int .u64 0)])
  have hext := (Ext.refl st).fresh ha (some [.v (.int .i64 0), .v (.int .u64 0)])
  have hp := hMa.hp
  have hr := hMa.hr
  have han := (Ext.refl st).none ha.1
  (repeat (first | ((with_reducible apply zr_seq)) | ((with_reducible apply zr_region); (try simp only [List.append_eq, List.cons_append, List.nil_append])) | ((with_reducible apply zo_end)) | ((with_reducible apply zs_move); (exact rfl); (exact rfl)) | ((with_reducible apply zs_assign); (exact rfl); (exact rfl))))
  (try ((with_reducible apply zs_yes); exact rfl; exact rfl; (first | assumption | exact rfl))); refine zo_callU has_snd Try.func51 (by kernel_rfl) rfl rfl rfl rfl (by decide) rfl rfl (by first | exact Ups.nilrow 1 (Ups.nilrow 1 (Ups.nilrow 1 (Ups.refl _))) | exact Ups.nilrow 1 (Ups.nilrow 1 (Ups.refl _)) | exact Ups.same (Ups.nilrow 1 (Ups.nilrow 1 (Ups.refl _))) | exact Ups.nilrow 1 (Ups.same (Ups.nilrow 1 (Ups.refl _))) | exact Ups.nilrow 1 (Ups.refl _) | exact Ups.same (Ups.nilrow 1 (Ups.refl _)) | exact Ups.same (Ups.same (Ups.nilrow 1 (Ups.refl _))) | exact Ups.refl _) ?_
  refine ⟨p, r, l, id, rfl, hMa, ?_⟩
  cases hh : hasM l id
  · rw [hh, if_neg (by simp)] at hK
    (repeat (first | ((with_reducible apply zr_seq)) | ((with_reducible apply zr_region); (try simp only [List.append_eq, List.cons_append, List.nil_append])) | ((with_reducible apply zo_end)) | ((with_reducible apply zs_noU); (exact rfl); (exact rfl); (first | assumption | exact rfl | (simp only [Bool.not_false, Bool.not_true]; assumption)); (exact rfl)) | ((with_reducible apply zs_move); (exact rfl); (exact rfl)) | ((with_reducible apply zs_not); (exact rfl); (exact rfl)) | ((with_reducible apply zs_pick_t); (exact rfl); (exact rfl); (first | assumption | exact rfl); (exact rfl)) | ((with_reducible apply zr_cond_t); (exact rfl); (first | assumption | exact rfl)) | ((with_reducible apply zs_build); (exact rfl); (first | exact el_Pos | exact el_Map); (first | exact st_Pos | exact st_Map); (exact rfl); (exact rfl))))
    refine zs_store rfl rfl sh_Pos (St.setH_self _ _ _) rfl (by simp [cellsD, oneD, Value.oneCell']) (by simp [cellsD]) rfl ?_
    rw [St.setH_setH]
    (repeat (first | ((with_reducible apply zo_end)) | ((with_reducible apply zs_assign); (exact rfl); (exact rfl))))
    refine zr_retZ (rs := [.cell 4 41, .tmp 5]) rfl (resD_cell_agg rfl sh_Pos (St.setH_self _ _ _) rfl (resD_tmp rfl (resD_nil _ _ _))) ?_
    exact KE.mk st ((Ext.refl st).setH han _) hK
  have hb := hasM_true hh
  have hlt : (id - 1).toNat < l.length := by omega
  have hg := posC_get l (id - 1).toNat hlt
  have hmem : l.getD (id - 1).toNat (0, 0) ∈ l := by rw [getD_in hlt]; exact List.getElem_mem hlt
  have hq := hl _ hmem
  have hat := posC_at l (id - 1).toNat hlt
  rw [hh] at hK
  generalize l.getD (id - 1).toNat (0, 0) = q at *
  (repeat (first | ((with_reducible apply zs_yes); (exact rfl); (exact rfl); (first | assumption | exact rfl)) | ((with_reducible apply zs_move); (exact rfl); (exact rfl)) | ((with_reducible apply zs_not); (exact rfl); (exact rfl)) | ((with_reducible apply zs_sub); (exact rfl); (exact rfl); (exact rfl); (exact wrap_in64 (by omega) (by omega))) | ((with_reducible apply zs_nilCheck_ptr); (exact rfl); (exact rfl)) | ((with_reducible apply zs_field_ptr); (exact rfl); (exact rfl); (first | exact fld_Pos_0 | exact fld_Pos_1 | exact fld_Map_0)) | ((with_reducible apply zs_load_ptr); (exact rfl); (exact rfl); (first | exact sh_Poss | exact sh_Int | exact sh_U64 | exact sh_Row | exact sh_Bool); (first | assumption | exact St.setH_self _ _ _); (exact rfl))))
  (try ((with_reducible apply zs_yes); exact rfl; exact rfl; (first | assumption | exact rfl))); refine zo_pure0 rfl rfl (by decide) (zp_index_mrow rfl (by first | exact Try.underlying22 | exact Try.underlying47 | exact Try.underlying50 | exact Try.underlying59 | exact Try.underlying61 | exact Try.underlying73 | exact Try.underlying74 | exact Try.underlying78) hiP hkP rfl rfl (by omega) (by omega)) ?_
  rw [show 0 + (id - 1).toNat * 2 = (id - 1).toNat * 2 by omega]
  (repeat (first | ((with_reducible apply zs_yes); (exact rfl); (exact rfl); (first | assumption | exact rfl)) | ((with_reducible apply zs_field_ptr); (exact rfl); (exact rfl); (first | exact fld_Pos_0 | exact fld_Pos_1 | exact fld_Map_0))))
  (try ((with_reducible apply zs_yes); exact rfl; exact rfl; (first | assumption | exact rfl))); refine zo_val rfl rfl (by decide) (zv_load_ptr rfl sh_Int rfl hr hg.1 ?_)
  (repeat (first | ((with_reducible apply zo_end)) | ((with_reducible apply zs_yes); (exact rfl); (exact rfl); (first | assumption | exact rfl)) | ((with_reducible apply zs_eql); (exact rfl); (exact rfl); (exact rfl)) | ((with_reducible apply zs_pick_f); (exact rfl); (exact rfl); (first | assumption | exact rfl); (exact rfl))))
  by_cases h0 : q.1 = 0
  · have g0 : decide (q.1 = 0) = true := decide_eq_true h0
    rw [if_neg (by simp [h0])] at hK
    (repeat (first | ((with_reducible apply zr_seq)) | ((with_reducible apply zr_region); (try simp only [List.append_eq, List.cons_append, List.nil_append])) | ((with_reducible apply zr_cond_t); (exact rfl); (first | assumption | exact rfl)) | ((with_reducible apply zs_build); (exact rfl); (first | exact el_Pos | exact el_Map); (first | exact st_Pos | exact st_Map); (exact rfl); (exact rfl))))
    refine zs_store rfl rfl sh_Pos (St.setH_self _ _ _) rfl (by simp [cellsD, oneD, Value.oneCell']) (by simp [cellsD]) rfl ?_
    rw [St.setH_setH]
    (repeat (first | ((with_reducible apply zo_end)) | ((with_reducible apply zs_assign); (exact rfl); (exact rfl))))
    refine zr_retZ (rs := [.cell 4 41, .tmp 5]) rfl (resD_cell_agg rfl sh_Pos (St.setH_self _ _ _) rfl (resD_tmp rfl (resD_nil _ _ _))) ?_
    exact KE.mk st ((Ext.refl st).setH han _) hK
  have g0 : decide (q.1 = 0) = false := decide_eq_false h0
  rw [if_pos ⟨rfl, h0⟩] at hK
  (repeat (first | ((with_reducible apply zr_seq)) | ((with_reducible apply zr_region); (try simp only [List.append_eq, List.cons_append, List.nil_append])) | ((with_reducible apply zs_move); (exact rfl); (exact rfl)) | ((with_reducible apply zs_sub); (exact rfl); (exact rfl); (exact rfl); (exact wrap_in64 (by omega) (by omega))) | ((with_reducible apply zr_cond_f); (exact rfl); (first | assumption | exact rfl)) | ((with_reducible apply zr_skip')) | ((with_reducible apply zs_nilCheck_ptr); (exact rfl); (exact rfl)) | ((with_reducible apply zs_field_ptr); (exact rfl); (exact rfl); (first | exact fld_Pos_0 | exact fld_Pos_1 | exact fld_Map_0)) | ((with_reducible apply zs_load_ptr); (exact rfl); (exact rfl); (first | exact sh_Poss | exact sh_Int | exact sh_U64 | exact sh_Row | exact sh_Bool); (first | assumption | exact St.setH_self _ _ _); (exact rfl))))
  (try ((with_reducible apply zs_yes); exact rfl; exact rfl; (first | assumption | exact rfl))); refine zo_pure0 rfl rfl (by decide) (zp_index_mrow rfl (by first | exact Try.underlying22 | exact Try.underlying47 | exact Try.underlying50 | exact Try.underlying59 | exact Try.underlying61 | exact Try.underlying73 | exact Try.underlying74 | exact Try.underlying78) hiP hkP rfl rfl (by omega) (by omega)) ?_
  rw [show 0 + (id - 1).toNat * 2 = (id - 1).toNat * 2 by omega]
  refine zs_load_ptrA rfl rfl sh_Pos hr (by rw [posC_length]; omega) hat ?_
  (try ((with_reducible apply zs_yes); exact rfl; exact rfl; (first | assumption | exact rfl))); refine zo_val rfl rfl (by decide) (zv_alloc rfl el_Pos (by simp [oneD, Value.oneCell']) fun b hb2 => ?_)
  refine zs_store rfl rfl sh_Pos (St.setH_self _ _ _) rfl (by simp [cellsD, oneD, Value.oneCell']) (by simp [cellsD]) rfl ?_
  rw [St.setH_setH]
  (repeat (first | ((with_reducible apply zr_seq)) | ((with_reducible apply zr_region); (try simp only [List.append_eq, List.cons_append, List.nil_append])) | ((with_reducible apply zo_end)) | ((with_reducible apply zs_sub); (exact rfl); (exact rfl); (exact rfl); (exact wrap_in64 (by omega) (by omega))) | ((with_reducible apply zs_field_ptr); (exact rfl); (exact rfl); (first | exact fld_Pos_0 | exact fld_Pos_1 | exact fld_Map_0)) | ((with_reducible apply zs_load_ptr); (exact rfl); (exact rfl); (first | exact sh_Poss | exact sh_Int | exact sh_U64 | exact sh_Row | exact sh_Bool); (first | assumption | exact St.setH_self _ _ _); (exact rfl))))
  refine zs_store rfl rfl sh_Int (St.setH_self _ _ _) rfl (by simp [cellsD, oneD, Value.oneCell']) (by simp [cellsD]) rfl ?_
  rw [St.setH_setH]
  (repeat (first | ((with_reducible apply zr_seq)) | ((with_reducible apply zr_region); (try simp only [List.append_eq, List.cons_append, List.nil_append])) | ((with_reducible apply zo_end))))
  refine zs_load_ptrA rfl rfl sh_Pos (St.setH_self _ _ _) (by simp [cellsD]) rfl ?_
  have hab : a ≠ b := fun e => by subst e; have := hb2.1; simp at this
  refine zs_store rfl rfl sh_Pos (St.setH_ne (St.setH_self _ _ _) hab) rfl (by simp [cellsD, oneD, Value.oneCell']) (by simp [cellsD]) rfl ?_
  (repeat (first | ((with_reducible apply zo_end)) | ((with_reducible apply zs_assign); (exact rfl); (exact rfl))))
  refine zr_retZ (rs := [.cell 4 41, .tmp 5]) rfl (resD_cell_agg rfl sh_Pos (St.setH_self _ _ _) rfl (resD_tmp rfl (resD_nil _ _ _))) ?_
  exact KE.mk st (((hext.setH (hext.none hb2.1) _).setH han _)) hK

/-! ### Set -/
def okM (l : PL) (id leaf : Int) : Bool := decide (hasM l id = true ∧ 0 ≤ leaf ∧ leaf ≤ 65535)
def setM (l : PL) (id leaf draw : Int) : PL := if okM l id leaf = true then l.set (id - 1).toNat (leaf + 1, draw) else l
@[simp] theorem setM_length (l : PL) (id leaf draw : Int) : (setM l id leaf draw).length = l.length := by unfold setM; split <;> simp
def setMSpec : ZSpec := fun args st K => ∃ (p r : Nat) (l : PL) (id leaf draw : Int), args = [.ptr p 0, .v (.int .i64 id), posD (leaf, draw)] ∧ -9223372036854775808 ≤ id ∧ id ≤ 9223372036854775807 ∧ MapAt st p r l ∧
  K (.v (.bool (okM l id leaf))) (st.setH r (some (posC (setM l id leaf draw))))
theorem setM_snd : SoundF Try.prog 28 setMSpec := by
  refine sound_ofE Try.func28 rfl Try.results28 ?_
  rintro w0 args st K ⟨p, r, l, id, leaf, draw, rfl, hi0, hi1, hM, hK⟩
  rw [Try.ntmps28]; refine ⟨by simp, ?_⟩
  obtain ⟨iP, hiP, hkP⟩ := ii_Pos
  unfold posD
  (repeat (first | ((with_reducible apply zr_seq)) | ((with_reducible apply zr_region); (try simp only [List.append_eq, List.cons_append, List.nil_append]))))
  (try ((with_reducible apply zs_yes); exact rfl; exact rfl; (first | assumption | exact rfl))); refine zo_val rfl rfl (by decide) (zv_box rfl rfl (by simp [cellsD, oneD, Value.oneCell']) fun b hb => ?_)
  have hMb := hM.new hb (some (cellsD (.agg [.v (.int .i64 leaf), .v (.int .u64 draw)])))
  have hbn := (Ext.refl st).none hb.1
  have hr := hM.hr
  (repeat (first | ((with_reducible apply zr_seq)) | ((with_reducible apply zr_region); (try simp only [List.append_eq, List.cons_append, List.nil_append])) | ((with_reducible apply zo_end)) | ((with_reducible apply zs_move); (exact rfl); (exact rfl)) | ((with_reducible apply zs_assign); (exact rfl); (exact rfl))))
  (try ((with_reducible apply zs_yes); exact rfl; exact rfl; (first | assumption | exact rfl))); refine zo_callU has_snd Try.func51 (by kernel_rfl) rfl rfl rfl rfl (by decide) rfl rfl (by first | exact Ups.nilrow 1 (Ups.nilrow 1 (Ups.nilrow 1 (Ups.refl _))) | exact Ups.nilrow 1 (Ups.nilrow 1 (Ups.refl _)) | exact Ups.same (Ups.nilrow 1 (Ups.nilrow 1 (Ups.refl _))) | exact Ups.nilrow 1 (Ups.same (Ups.nilrow 1 (Ups.refl _))) | exact Ups.nilrow 1 (Ups.refl _) | exact Ups.same (Ups.nilrow 1 (Ups.refl _)) | exact Ups.same (Ups.same (Ups.nilrow 1 (Ups.refl _))) | exact Ups.refl _) ?_
  refine ⟨p, r, l, id, rfl, hMb, ?_⟩
  have no : okM l id leaf = false → KE K (.v (.bool false)) (st.setH b (some (cellsD (.agg [.v (.int .i64 leaf), .v (.int .u64 draw)])))) := fun h => by
    rw [h] at hK
    unfold setM at hK
    rw [h, if_neg (by simp), St.setH_same hr] at hK
    exact KE.mk st ((Ext.refl st).setH hbn _) hK
  cases hh : hasM l id
  · (repeat (first | ((with_reducible apply zr_seq)) | ((with_reducible apply zr_region); (try simp only [List.append_eq, List.cons_append, List.nil_append])) | ((with_reducible apply zo_end)) | ((with_reducible apply zs_noU); (exact rfl); (exact rfl); (first | assumption | exact rfl | (simp only [Bool.not_false, Bool.not_true]; assumption)); (exact rfl)) | ((with_reducible apply zs_move); (exact rfl); (exact rfl)) | ((with_reducible apply zs_assign); (exact rfl); (exact rfl)) | ((with_reducible apply zs_not); (exact rfl); (exact rfl)) | ((with_reducible apply zs_pick_t); (exact rfl); (exact rfl); (first | assumption | exact rfl); (exact rfl)) | ((with_reducible apply zr_cond_t); (exact rfl); (first | assumption | exact rfl))))
    refine zr_retZ rfl (resD_tmp rfl (resD_nil _ _ _)) ?_
    exact no (by unfold okM; rw [hh]; simp)
  have hbnd := hasM_true hh
  (repeat (first | ((with_reducible apply zs_yes); (exact rfl); (exact rfl); (first | assumption | exact rfl)) | ((with_reducible apply zs_move); (exact rfl); (exact rfl)) | ((with_reducible apply zs_lss); (exact rfl); (exact rfl); (exact rfl)) | ((with_reducible apply zs_not); (exact rfl); (exact rfl)) | ((with_reducible apply zs_pick_f); (exact rfl); (exact rfl); (first | assumption | exact rfl); (exact rfl)) | ((with_reducible apply zs_field_ptr); (exact rfl); (exact rfl); (first | exact fld_Pos_0 | exact fld_Pos_1 | exact fld_Map_0)) | ((with_reducible apply zs_load_ptr); (exact rfl); (exact rfl); (first | exact sh_Poss | exact sh_Int | exact sh_U64 | exact sh_Row | exact sh_Bool); (first | assumption | exact St.setH_self _ _ _); (exact rfl))))
  by_cases h0 : leaf < 0
  · have g0 : decide (leaf < 0) = true := decide_eq_true h0
    (repeat (first | ((with_reducible apply zr_seq)) | ((with_reducible apply zr_region); (try simp only [List.append_eq, List.cons_append, List.nil_append])) | ((with_reducible apply zo_end)) | ((with_reducible apply zs_noU); (exact rfl); (exact rfl); (first | assumption | exact rfl | (simp only [Bool.not_false, Bool.not_true]; assumption)); (exact rfl)) | ((with_reducible apply zs_assign); (exact rfl); (exact rfl)) | ((with_reducible apply zs_pick_t); (exact rfl); (exact rfl); (first | assumption | exact rfl); (exact rfl)) | ((with_reducible apply zr_cond_t); (exact rfl); (first | assumption | exact rfl))))
    refine zr_retZ rfl (resD_tmp rfl (resD_nil _ _ _)) ?_
    exact no (by unfold okM; exact decide_eq_false (by omega))
  have g0 : decide (leaf < 0) = false := decide_eq_false h0
  (repeat (first | ((with_reducible apply zo_end)) | ((with_reducible apply zs_yes); (exact rfl); (exact rfl); (first | assumption | exact rfl)) | ((with_reducible apply zs_gtr); (exact rfl); (exact rfl); (exact rfl)) | ((with_reducible apply zs_pick_f); (exact rfl); (exact rfl); (first | assumption | exact rfl); (exact rfl)) | ((with_reducible apply zs_field_ptr); (exact rfl); (exact rfl); (first | exact fld_Pos_0 | exact fld_Pos_1 | exact fld_Map_0)) | ((with_reducible apply zs_load_ptr); (exact rfl); (exact rfl); (first | exact sh_Poss | exact sh_Int | exact sh_U64 | exact sh_Row | exact sh_Bool); (first | assumption | exact St.setH_self _ _ _); (exact rfl))))
  by_cases h1 : 65535 < leaf
  · have g1 : decide (65535 < leaf) = true := decide_eq_true h1
    (repeat (first | ((with_reducible apply zr_seq)) | ((with_reducible apply zr_region); (try simp only [List.append_eq, List.cons_append, List.nil_append])) | ((with_reducible apply zo_end)) | ((with_reducible apply zs_assign); (exact rfl); (exact rfl)) | ((with_reducible apply zr_cond_t); (exact rfl); (first | assumption | exact rfl))))
    refine zr_retZ rfl (resD_tmp rfl (resD_nil _ _ _)) ?_
    exact no (by unfold okM; exact decide_eq_false (by omega))
  have g1 : decide (65535 < leaf) = false := decide_eq_false h1
  have hok : okM l id leaf = true := by unfold okM; exact decide_eq_true ⟨hh, by omega, by omega⟩
  (repeat (first | ((with_reducible apply zr_seq)) | ((with_reducible apply zr_region); (try simp only [List.append_eq, List.cons_append, List.nil_append])) | ((with_reducible apply zs_add); (exact rfl); (exact rfl); (exact rfl); (exact wrap_in64 (by omega) (by omega))) | ((with_reducible apply zr_cond_f); (exact rfl); (first | assumption | exact rfl)) | ((with_reducible apply zr_skip')) | ((with_reducible apply zs_field_ptr); (exact rfl); (exact rfl); (first | exact fld_Pos_0 | exact fld_Pos_1 | exact fld_Map_0)) | ((with_reducible apply zs_load_ptr); (exact rfl); (exact rfl); (first | exact sh_Poss | exact sh_Int | exact sh_U64 | exact sh_Row | exact sh_Bool); (first | assumption | exact St.setH_self _ _ _); (exact rfl))))
  refine zs_store rfl rfl sh_Int (St.setH_self _ _ _) rfl (by simp [cellsD, oneD, Value.oneCell']) (by simp [cellsD]) rfl ?_
  rw [St.setH_setH]
  (repeat (first | ((with_reducible apply zr_seq)) | ((with_reducible apply zo_end))))
  refine zr_freeze (id := b) [(0, .ptr p 0), (1, .v (.int .i64 id)), (5, .ref [.v (.int .i64 (leaf + 1)), .v (.int .u64 draw)])] (St.setH_self _ _ _) (fz_cons rfl (.same _) (fz_cons rfl (.same _) (fz_cons rfl (.ptr 0) fz_nil))) ?_
  rw [St.setH_setH, St.setH_none hbn]
  have hp := hM.hp
  refine za_begin (m := 9) (by kernel_rfl) rfl ?_
  refine za_take (i := 0) rfl (by kernel_rfl) (by kernel_rfl) (by kernel_rfl) (by first | exact g_none rfl | exact g_met rfl rfl rfl (by first | assumption | rfl)) rfl rfl (ZPure0.pure (zp_move rfl rfl)) ?_
  refine za_take (i := 1) rfl (by kernel_rfl) (by kernel_rfl) (by kernel_rfl) (by first | exact g_none rfl | exact g_met rfl rfl rfl (by first | assumption | rfl)) rfl rfl (ZPure0.pure (zp_nilCheck rfl rfl (by first | exact .inr ⟨_, _, rfl⟩ | exact .inl ⟨_, rfl⟩))) ?_
  refine za_take (i := 2) rfl (by kernel_rfl) (by kernel_rfl) (by kernel_rfl) (by first | exact g_none rfl | exact g_met rfl rfl rfl (by first | assumption | rfl)) rfl rfl (by first | exact ZPure0.pure (zp_fieldAddr_ptr rfl (by first | exact fld_Pos_0 | exact fld_Pos_1 | exact fld_Map_0) rfl) | exact ZPure0.pure (zp_fieldAddr_ref rfl (by first | exact fld_Pos_0 | exact fld_Pos_1 | exact fld_Map_0) rfl)) ?_
  refine za_take (i := 4) rfl (by kernel_rfl) (by kernel_rfl) (by kernel_rfl) (by first | exact g_none rfl | exact g_met rfl rfl rfl (by first | assumption | rfl)) rfl rfl (ZPure0.pure (zp_move rfl rfl)) ?_
  refine za_take (i := 5) rfl (by kernel_rfl) (by kernel_rfl) (by kernel_rfl) (by first | exact g_none rfl | exact g_met rfl rfl rfl (by first | assumption | rfl)) rfl rfl (ZPure0.pure (zp_sub rfl rfl rfl (wrap_in64 (by omega) (by omega)))) ?_
  refine za_take (i := 6) rfl (by kernel_rfl) (by kernel_rfl) (by kernel_rfl) (by first | exact g_none rfl | exact g_met rfl rfl rfl (by first | assumption | rfl)) rfl rfl (zp_load_ref_agg rfl sh_Pos rfl (by simp)) ?_
  refine za_one_val (i := 3) (by kernel_rfl) rfl (by first | exact g_none rfl | exact g_met rfl rfl rfl (by first | assumption | rfl)) rfl rfl (zv_load_ptr rfl sh_Poss rfl hp rfl ?_)
  refine za_take (i := 7) rfl (by kernel_rfl) (by kernel_rfl) (by kernel_rfl) (by first | exact g_none rfl | exact g_met rfl rfl rfl (by first | assumption | rfl)) rfl rfl (ZPure0.pure (zp_index_mrow rfl (by first | exact Try.underlying22 | exact Try.underlying47 | exact Try.underlying50 | exact Try.underlying59 | exact Try.underlying61 | exact Try.underlying73 | exact Try.underlying74 | exact Try.underlying78) hiP hkP rfl rfl (by omega) (by omega))) ?_
  rw [show 0 + (id - 1).toNat * 2 = (id - 1).toNat * 2 by omega]
  refine za_one (i := 8) (by kernel_rfl) rfl (by first | exact g_none rfl | exact g_met rfl rfl rfl (by first | assumption | rfl)) (zop_store rfl rfl sh_Pos rfl hr rfl rfl (by simp [cellsD, oneD, Value.oneCell']) (by rw [posC_length]; omega) ?_)
  have hset := posC_set l (id - 1).toNat (by omega) (leaf + 1) draw
  simp only [List.take, cellsD]
  rw [hset]
  first | refine za_end (by kernel_rfl) ?_ | refine za_endB (by kernel_rfl) ?_ | refine za_endBB (by kernel_rfl) ?_
  (repeat (first | ((with_reducible apply zr_seq)) | ((with_reducible apply zr_region); (try simp only [List.append_eq, List.cons_append, List.nil_append])) | ((with_reducible apply zo_end)) | ((with_reducible apply zs_assign); (exact rfl); (exact rfl))))
  refine zr_retZ rfl (resD_tmp rfl (resD_nil _ _ _)) ?_
  rw [hok] at hK
  unfold setM at hK
  rw [hok, if_pos rfl] at hK
  exact KE.mk _ (Ext.refl _) hK
end Go.Proofs.ZtLe
