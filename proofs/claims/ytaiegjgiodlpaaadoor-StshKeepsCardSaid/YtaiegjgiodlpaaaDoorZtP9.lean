/- A part of the proof of StshKeeps: walks of the functions that it reaches. No condition. -/
import Derived.Test.YtaiegjgiodlpaaaDoorZtP8
import Derived.Test.YtaiegjgiodlpaaaDoorZmAuto
import Derived.Test.YtaiegjgiodlpaaaDoorZmP2
import Derived.Test.YtaiegjgiodlpaaaDoorZtP6
namespace Go.Proofs.ZtLe
open Go.RowKit Go.Proofs Go.Proofs.Zm
set_option linter.unusedVariables false
set_option linter.unusedSimpArgs false
set_option maxHeartbeats 20000000
set_option maxRecDepth 100000
attribute [local irreducible] ZWp ZOps ZPure ZPure0 ZVal ZOp SoundF

/-! ### StshKeeps -/
def snD (cs : List CellV) : List (Int × D) := cs.map fun c => (c.1, .v (.int .i64 (c.2.1 + 1)))
theorem lkI_snD (k : Int) : ∀ cs : List CellV, (lkI (snD cs) k).getD (.v (.int .i64 0)) = .v (.int .i64 (match findC cs k with | some c => c.2.1 + 1 | none => 0))
  | [] => rfl
  | c :: r => by
    show ((if c.1 = k then some (D.v (.int .i64 (c.2.1 + 1))) else lkI (snD r) k).getD _) = _
    unfold findC
    by_cases h : c.1 = k
    · rw [if_pos h, if_pos h]; rfl
    · rw [if_neg h, if_neg h]; exact lkI_snD k r
theorem delI_snD (k : Int) : ∀ cs : List CellV, delI (snD cs) k = snD (delC cs k)
  | [] => rfl
  | c :: r => by
    show (if c.1 = k then snD r else (c.1, D.v (.int .i64 (c.2.1 + 1))) :: delI (snD r) k) = _
    unfold delC
    split
    · rfl
    · rw [delI_snD k r]; rfl
theorem setI_snD (x : CellV) : ∀ cs : List CellV, setI (snD cs) x.1 (.v (.int .i64 (x.2.1 + 1))) = snD (setC cs x)
  | [] => rfl
  | c :: r => by
    show (if c.1 = x.1 then (c.1, D.v (.int .i64 (x.2.1 + 1))) :: snD r else (c.1, D.v (.int .i64 (c.2.1 + 1))) :: setI (snD r) x.1 (.v (.int .i64 (x.2.1 + 1)))) = _
    unfold setC
    split
    · rename_i h; rw [h]; rfl
    · rw [setI_snD x r]; rfl
@[simp] theorem snD_len (cs : List CellV) : (snD cs).length = cs.length := by simp [snD]
theorem un_sn : Tryd.prog.underlying 40 = some (.map 3 3) := by kernel_rfl
theorem int_zero : ∃ i, Tryd.prog.info? 3 = some i ∧ i.zero = some (.int .i64 0) := by
  have h : (Tryd.prog.info? 3).bind (·.zero) = some (.int .i64 0) := by kernel_rfl
  obtain ⟨i, h1, h2⟩ := Option.bind_eq_some_iff.1 h
  exact ⟨i, h1, h2⟩
/-! a base state without an own row -/
def lendS (s : St) (o : Option Nat) : St := match o with
  | none => s
  | some id => s.setH id none
theorem Sep_lend {s : St} {o : Option Nat} {full : List D} (h : ∀ id, o = some id → s.H id = some full) : Zm.Sep (lendS s o) s [(o, full)] := by
  cases o with
  | none => exact (Sep.nil s).addNone full
  | some id => exact (Sep.nil s).borrow (h id rfl)
theorem lendS_H {s : St} {o : Option Nat} {i : Nat} (h : o ≠ some i) : (lendS s o).H i = s.H i := by
  cases o with
  | none => rfl
  | some id => show (if i = id then _ else _) = _; rw [if_neg (fun e => h (by rw [e]))]
theorem lendS_N (s : St) (o : Option Nat) : (lendS s o).N = s.N := by cases o <;> rfl
theorem Ext_lend {st s : St} {o : Option Nat} (h : Ext st s) (hn : ∀ id, o = some id → st.H id = none) : Ext st (lendS s o) := by
  cases o with
  | none => exact h
  | some id => exact h.setH (hn id rfl) none
def low (c : CellV) : CellV := (c.1, c.2.1 % 8, c.2.2)
def lw (i : Nat) (T : List CellV) : List CellV := (T.take i).map low ++ T.drop i
theorem lw_split {T : List CellV} {i : Nat} (h : i < T.length) : ∃ m B, T[i]? = some m ∧ lw i T = (T.take i).map low ++ m :: B ∧ lw (i + 1) T = (T.take i).map low ++ low m :: B ∧ T.length = i + 1 + B.length ∧ ((T.take i).map low).length = i := by
  refine ⟨T[i], T.drop (i + 1), List.getElem?_eq_getElem h, ?_, ?_, ?_, ?_⟩
  · unfold lw; rw [List.drop_eq_getElem_cons h]
  · unfold lw; rw [List.take_succ_eq_append_getElem h, List.map_append, List.append_assoc]; rfl
  · rw [List.length_drop]; omega
  · rw [List.length_map, List.length_take]; omega
theorem okC_low {c : CellV} {s : Int} (h : okC c s = true) : okC (low c) s = true := by
  have hb := okC_bounds h
  unfold okC low
  simp only [Bool.and_eq_true, decide_eq_true_eq]
  omega
def csAt (i : Nat) (T : List CellV) : List CellV := ((T.take i).map low).foldl setC []
theorem csAt_succ {T : List CellV} {i : Nat} {m : CellV} (h : T[i]? = some m) : csAt (i + 1) T = setC (csAt i T) (low m) := by
  obtain ⟨hlt, rfl⟩ := List.getElem?_eq_some_iff.1 h
  unfold csAt
  rw [List.take_succ_eq_append_getElem hlt, List.map_append, List.foldl_append]; rfl
theorem cellLA {P S : List D} {m : CellV} {j : Nat} (h : P.length = j) : ((P ++ (cellD m ++ S)).drop j).take 3 = cellD m := by
  subst h
  rw [List.drop_left]; rfl
def keepsSpec : ZSpec := fun args st K => ∃ (raw : List CellV) (leaf z : Int) (tk : Nat), args = [.row (cellR raw) 3 tk, .v (.int .i64 leaf), .v (.int .i64 z)] ∧ raw.length ≤ 4611686018427387904 ∧ K (.v (.bool true)) st
theorem keeps_snd : SoundF Tryd.prog 4 keepsSpec := by
  refine sound_ofA Tryd.func4 rfl Tryd.results4 ?_
  rintro w0 args st K ⟨raw, leaf, z, tk, rfl, hl, hK⟩
  rw [Tryd.ntmps4]; refine ⟨by simp, ?_⟩
  have hS := Sep.nil st
  obtain ⟨zi, hzi, hzz⟩ := int_zero
  (repeat (first | ((with_reducible apply zr_seq)) | ((with_reducible apply zr_region); (try simp only [List.append_eq, List.cons_append, List.nil_append])) | ((with_reducible apply zo_end)) | ((with_reducible apply zs_move); (exact rfl); (exact rfl)) | ((with_reducible apply zs_assign); (exact rfl); (exact rfl)) | ((with_reducible apply zs_call few_snd cl_12); (exact rfl); (exact rfl); ((try simp only [List.append_nil]); first | exact Ups.nilrow 1 (Ups.nilrow 1 (Ups.nilrow 1 (Ups.refl _))) | exact Ups.nilrow 1 (Ups.nilrow 1 (Ups.refl _)) | exact Ups.same (Ups.nilrow 1 (Ups.nilrow 1 (Ups.refl _))) | exact Ups.nilrow 1 (Ups.same (Ups.nilrow 1 (Ups.refl _))) | exact Ups.nilrow 1 (Ups.refl _) | exact Ups.same (Ups.nilrow 1 (Ups.refl _)) | exact Ups.same (Ups.same (Ups.nilrow 1 (Ups.refl _))) | exact Ups.refl _))))
  refine ⟨raw, tk, rfl, hl, ?_⟩
  refine (show ZOps _ _ _ _ _ _ _ _ from ?_)
  (repeat (first | ((with_reducible apply zo_end)) | ((with_reducible apply zs_not); (exact rfl); (exact rfl))))
  cases hfew : fewB raw with
  | false =>
    (repeat (first | ((with_reducible apply zr_seq)) | ((with_reducible apply zr_region); (try simp only [List.append_eq, List.cons_append, List.nil_append])) | ((with_reducible apply zr_cond_t); (exact rfl); (first | assumption | exact rfl)) | ((with_reducible apply zs_call awake15_snd cl_11); (exact rfl); (exact rfl); ((try simp only [List.append_nil]); first | exact Ups.nilrow 1 (Ups.nilrow 1 (Ups.nilrow 1 (Ups.refl _))) | exact Ups.nilrow 1 (Ups.nilrow 1 (Ups.refl _)) | exact Ups.same (Ups.nilrow 1 (Ups.nilrow 1 (Ups.refl _))) | exact Ups.nilrow 1 (Ups.same (Ups.nilrow 1 (Ups.refl _))) | exact Ups.nilrow 1 (Ups.refl _) | exact Ups.same (Ups.nilrow 1 (Ups.refl _)) | exact Ups.same (Ups.same (Ups.nilrow 1 (Ups.refl _))) | exact Ups.refl _))))
    refine ⟨rfl, ?_⟩
    (repeat (first | ((with_reducible apply zo_end)) | ((with_reducible apply zs_assign); (exact rfl); (exact rfl)) | ((with_reducible apply zr_retZ); (exact rfl); (repeat (first | exact resD_nil _ _ _ | ((with_reducible apply resD_tmp); (exact rfl)) | ((with_reducible apply resD_cell_agg); (exact rfl); (exact sh_of rfl); (first | assumption | exact St.setH_self _ _ _ | exact Sep.at_ (i := 0) zq17 rfl | exact Sep.at_ (i := 1) zq17 rfl | exact Sep.at_ (i := 2) zq17 rfl | exact Sep.at_ (i := 3) zq17 rfl | exact Sep.at_ (i := 4) zq17 rfl | exact Sep.at_ (i := 5) zq17 rfl | exact Sep.at_ (i := 6) zq17 rfl); (exact rfl)) | ((with_reducible apply resD_cell); (exact rfl); (exact sh_of rfl); (first | assumption | exact St.setH_self _ _ _ | exact Sep.at_ (i := 0) zq17 rfl | exact Sep.at_ (i := 1) zq17 rfl | exact Sep.at_ (i := 2) zq17 rfl | exact Sep.at_ (i := 3) zq17 rfl | exact Sep.at_ (i := 4) zq17 rfl | exact Sep.at_ (i := 5) zq17 rfl | exact Sep.at_ (i := 6) zq17 rfl); (exact rfl)))); (simp only [resOf]))))
    exact KE.mk st (Ext.refl _) hK
  | true =>
    (repeat (first | ((with_reducible apply zr_seq)) | ((with_reducible apply zr_region); (try simp only [List.append_eq, List.cons_append, List.nil_append])) | ((with_reducible apply zs_move); (exact rfl); (exact rfl)) | ((with_reducible apply zr_cond_f); (exact rfl); (first | assumption | exact rfl)) | ((with_reducible apply zr_skip')) | ((with_reducible apply zs_call tame_own cl_13); (exact rfl); (exact rfl); ((try simp only [List.append_nil]); first | exact Ups.nilrow 1 (Ups.nilrow 1 (Ups.nilrow 1 (Ups.refl _))) | exact Ups.nilrow 1 (Ups.nilrow 1 (Ups.refl _)) | exact Ups.same (Ups.nilrow 1 (Ups.nilrow 1 (Ups.refl _))) | exact Ups.nilrow 1 (Ups.same (Ups.nilrow 1 (Ups.refl _))) | exact Ups.nilrow 1 (Ups.refl _) | exact Ups.same (Ups.nilrow 1 (Ups.refl _)) | exact Ups.same (Ups.same (Ups.nilrow 1 (Ups.refl _))) | exact Ups.refl _))))
    refine ⟨raw, tk, 20, 2, rfl, hl, by omega, by omega, fun o c full s0 hS0 hg => ?_⟩
    have hT := tame_ok raw 20 2
    have hTl := tame_length raw 20 2
    generalize tame raw 20 2 = T at *
    refine (show ZOps _ _ _ _ _ _ _ _ from ?_)
    (repeat (first | ((with_reducible apply zr_seq)) | ((with_reducible apply zr_region); (try simp only [List.append_eq, List.cons_append, List.nil_append])) | ((with_reducible apply zo_end)) | ((with_reducible apply zs_assign); (exact rfl); (exact rfl)) | ((with_reducible apply zs_call snew_snd cl_6); (exact rfl); (exact rfl); ((try simp only [List.append_nil]); first | exact Ups.nilrow 1 (Ups.nilrow 1 (Ups.nilrow 1 (Ups.refl _))) | exact Ups.nilrow 1 (Ups.nilrow 1 (Ups.refl _)) | exact Ups.same (Ups.nilrow 1 (Ups.nilrow 1 (Ups.refl _))) | exact Ups.nilrow 1 (Ups.same (Ups.nilrow 1 (Ups.refl _))) | exact Ups.nilrow 1 (Ups.refl _) | exact Ups.same (Ups.nilrow 1 (Ups.refl _)) | exact Ups.same (Ups.same (Ups.nilrow 1 (Ups.refl _))) | exact Ups.refl _))))
    refine ⟨_, _, rfl, fun s id s1 hE1 hs hn hI => ?_⟩
    rw [show (min (max (30 : Int) 0) 10000) = 30 from rfl, show (min (max (2 : Int) 0) 60000) = 2 from rfl] at hI
    refine (show ZOps _ _ _ _ _ _ _ _ from ?_)
    (repeat (first | ((with_reducible apply zr_seq)) | ((with_reducible apply zr_region); (try simp only [List.append_eq, List.cons_append, List.nil_append])) | ((with_reducible apply zo_end)) | ((with_reducible apply zs_move); (exact rfl); (exact rfl)) | ((with_reducible apply zs_assign); (exact rfl); (exact rfl)) | ((with_reducible apply zr_cond_f); (exact rfl); (first | assumption | exact rfl)) | ((with_reducible apply zr_skip')) | ((with_reducible apply zs_peq_ptr); (exact rfl); (exact rfl); (exact un_ptr rfl))))
    (try ((with_reducible apply zs_yes); exact rfl; exact rfl; (first | assumption | exact rfl))); refine zo_val rfl rfl (by decide) (zv_makeMap rfl fun i2 hi2 => ?_)
    have hne : i2 ≠ id := fun e => by
      have h1 := hi2.1
      rw [e, hI.n] at h1; cases h1
    have hE0 : Ext st s1 := hS0.ext.trans hE1
    have hn0 : st.N id = none := hS0.ext.noneN hn
    have hn2 : st.N i2 = none := hE0.noneN hi2.1
    have hso : o ≠ some s := fun e => by
      have h1 := hS0.own s full (by rw [e]; exact .head _)
      rw [hs] at h1; cases h1
    have hon : ∀ q, o = some q → st.H q = none := fun q e => hS0.new q full (by rw [e]; exact .head _)
    have hE2 := hE0.setNew hn2 (some (mapI .i64 (snD [])))
    have hI2 : IsStsh (s1.setN i2 (some (mapI .i64 (snD [])))) s id ⟨30, 2, []⟩ := hI.other hne _
    have hrow : ∀ q, o = some q → (s1.setN i2 (some (mapI .i64 (snD [])))).H q = some full := fun q e => hE1.H q full (hS0.own q full (by rw [e]; exact .head _))
    have ht2 : (s1.setN i2 (some (mapI .i64 (snD [])))).N i2 = some (mapI .i64 (snD [])) := setN_self _ _ _
    rw [show (some [] : Option (List (Value × D))) = some (mapI .i64 (snD [])) from rfl]
    generalize s1.setN i2 (some (mapI .i64 (snD []))) = s2 at *
    have hL0 := Sep_lend hrow
    have hEb : Ext st (lendS s2 o) := Ext_lend hE2 hon
    have hIb : IsStsh (lendS s2 o) s id ⟨30, 2, []⟩ := ⟨by rw [lendS_H hso]; exact hI2.h, by rw [lendS_N]; exact hI2.n⟩
    have htb : (lendS s2 o).N i2 = some (mapI .i64 (snD [])) := by rw [lendS_N]; exact ht2
    generalize lendS s2 o = sb at *
    have hok0 : StOk ⟨30, 2, []⟩ := ⟨(by decide : (0 : Int) ≤ 30), (by decide : (30 : Int) ≤ 10000), (by decide : (0 : Int) ≤ 2), (by decide : (2 : Int) ≤ 60000), (by decide : (0 : Int) ≤ 30), fun c h => (by cases h), List.Pairwise.nil⟩
    clear hE0 hE1 hI hi2 hS0 hS hE2 hI2 ht2 hrow
    have hT20 : T.length ≤ 20 := by omega
    (repeat (first | ((with_reducible apply zr_seq)) | ((with_reducible apply zr_region); (try simp only [List.append_eq, List.cons_append, List.nil_append])) | ((with_reducible apply zo_end)) | ((with_reducible apply zs_assign); (exact rfl); (exact rfl)) | ((with_reducible apply zr_block))))
    refine zr_loopK [1, 2, 7, 8, 9] (fun m e s' => ∃ (i : Nat) (sb : St) (f : List D), m + i = T.length ∧ e = [(10, .v (.int .i64 (i : Nat)))] ∧ Zm.Sep sb s' [(o, f)] ∧ GRow o f 3 T.length c (cellR (lw i T)).flatten ∧ Ext st sb ∧ IsStsh sb s id ⟨30, 2, csAt i T⟩ ∧ sb.N i2 = some (mapI .i64 (snD (csAt i T))) ∧ StOk ⟨30, 2, csAt i T⟩ ∧ (csAt i T).length ≤ i) T.length _ zq8
      ⟨0, sb, full, by simp, rfl, hL0, hg, hEb, hIb, htb, hok0, Nat.le_refl _⟩ zq10 ?_
    clear hL0 hEb hIb htb hg hok0
    rintro m e s' ⟨i, sb, f, hm, rfl, hS, hg, hE, hI, ht, hok, hci⟩
    (repeat (first | ((with_reducible apply zr_seq)) | ((with_reducible apply zr_region); (try simp only [List.append_eq, List.cons_append, List.nil_append])) | ((with_reducible apply zo_end)) | ((with_reducible apply zs_move); (exact rfl); (exact rfl)) | ((with_reducible apply zs_lss); (exact rfl); (exact rfl); (exact rfl)) | ((with_reducible apply zs_len_orow); (exact rfl); (exact rfl); (first | exact GRow.nil0 zq17); (exact un_sl rfl))))
    (first | refine zr_cond rfl (fun h => ?_) (fun h => ?_) | refine zs_split rfl rfl (fun h => ?_) (fun h => ?_)) <;> have h' := h <;> (try simp only [decide_eq_true_eq, decide_eq_false_iff_not, Bool.and_eq_true, Bool.or_eq_true, Bool.and_eq_false_iff, Bool.or_eq_false_iff, Bool.not_eq_true', Bool.not_eq_false', Bool.not_eq_true, Bool.not_eq_false, Int.not_le, Int.not_lt, Classical.not_not, Decidable.not_not, ne_eq, beq_iff_eq, bne_iff_ne] at h')
    · obtain ⟨mc, B, hmi, e0, e1, hAB, hA⟩ := lw_split (show i < T.length by omega)
      have hmo : okC mc 2 = true := List.all_eq_true.1 hT mc (List.mem_of_getElem? hmi)
      have hcs := csAt_succ hmi
      rw [e0] at hg
      obtain ⟨P, S, rfl, hP, hgn⟩ := growC_split (by rw [hA]; exact hAB) hg
      rw [hA] at hP
      obtain ⟨r, rfl⟩ : ∃ r, o = some r := by
        cases o with
        | none => have := hg.nil rfl; have := hg.room; omega
        | some r => exact ⟨r, rfl⟩
      (repeat (first | ((with_reducible apply zr_seq)) | ((with_reducible apply zr_region); (try simp only [List.append_eq, List.cons_append, List.nil_append])) | ((with_reducible apply zs_move); (exact rfl); (exact rfl)) | ((with_reducible apply zr_block)) | ((with_reducible apply zr_skip')) | ((with_reducible apply zs_field_ptr); (exact rfl); (exact rfl); (exact fld_of rfl)) | ((with_reducible apply zs_index_mrow0); (exact rfl); (exact rfl); (exact rfl); (exact un_sl rfl); (exact ii_of rfl); (first | omega | (simp only [List.length_map, List.length_take, List.length_drop, List.length_append, List.length_cons, List.length_nil, List.length_replicate, rowR_length, intR_length, msgR_length, pairR_length, cellR_length]; omega) | decide); (first | omega | (simp only [List.length_map, List.length_take, List.length_drop, List.length_append, List.length_cons, List.length_nil, List.length_replicate, rowR_length, intR_length, msgR_length, pairR_length, cellR_length]; omega) | decide); (first | (with_reducible exact Int.toNat_natCast _) | (simp only [Int.reduceToNat]; exact rfl) | exact rfl))))
      refine zs_load_ptr rfl rfl zq15 (hS.at_ (i := 0) rfl) (cellL1 (by omega)) ?_
      (repeat (first | ((with_reducible apply zs_field_ptr); (exact rfl); (exact rfl); (exact fld_of rfl)) | ((with_reducible apply (zs_mask (p := 8) 3)); (exact rfl); (exact rfl); (exact rfl); (exact rfl); (decide); (decide); (decide)) | ((with_reducible apply zs_index_mrow0); (exact rfl); (exact rfl); (exact rfl); (exact un_sl rfl); (exact ii_of rfl); (first | omega | (simp only [List.length_map, List.length_take, List.length_drop, List.length_append, List.length_cons, List.length_nil, List.length_replicate, rowR_length, intR_length, msgR_length, pairR_length, cellR_length]; omega) | decide); (first | omega | (simp only [List.length_map, List.length_take, List.length_drop, List.length_append, List.length_cons, List.length_nil, List.length_replicate, rowR_length, intR_length, msgR_length, pairR_length, cellR_length]; omega) | decide); (first | (with_reducible exact Int.toNat_natCast _) | (simp only [Int.reduceToNat]; exact rfl) | exact rfl))))
      refine zs_sstore (i := 0) rfl rfl zq15 hS rfl rfl (by simp [cellsD, oneD, Value.oneCell']) (by simp only [cellsD, List.length_append, List.length_cons, List.length_nil]; simp [cellD]; omega) (cellS1 _ (by omega)) fun s4 hS => ?_
      rw [show (mc.1, mc.2.1 % 8, mc.2.2) = low mc from rfl] at hS
      (repeat (first | ((with_reducible apply zr_seq)) | ((with_reducible apply zr_region); (try simp only [List.append_eq, List.cons_append, List.nil_append])) | ((with_reducible apply zo_end)) | ((with_reducible apply zs_move); (exact rfl); (exact rfl)) | ((with_reducible apply zs_index_mrow0); (exact rfl); (exact rfl); (exact rfl); (exact un_sl rfl); (exact ii_of rfl); (first | omega | (simp only [List.length_map, List.length_take, List.length_drop, List.length_append, List.length_cons, List.length_nil, List.length_replicate, rowR_length, intR_length, msgR_length, pairR_length, cellR_length]; omega) | decide); (first | omega | (simp only [List.length_map, List.length_take, List.length_drop, List.length_append, List.length_cons, List.length_nil, List.length_replicate, rowR_length, intR_length, msgR_length, pairR_length, cellR_length]; omega) | decide); (first | (with_reducible exact Int.toNat_natCast _) | (simp only [Int.reduceToNat]; exact rfl) | exact rfl))))
      refine zs_load_ptrA rfl rfl zq15 (hS.at_ (i := 0) rfl) (by simp only [List.length_append]; simp [cellD]; omega) (cellLA (m := low mc) (by omega)) ?_
      have hput : sputB ⟨30, 2, csAt i T⟩ (low mc) = true := by
        unfold sputB
        rw [okC_low hmo, decide_eq_true (show ((csAt i T).length : Int) < 30 by omega), Bool.or_true]; rfl
      have hok3 := hok.put hput
      have hlen3 : (setC (csAt i T) (low mc)).length ≤ i + 1 := by rw [setC_length]; split <;> omega
      rw [← hcs] at hok3 hlen3
      (repeat (first | ((with_reducible apply zs_call sput2_snd cl_8); (exact rfl); (exact rfl); ((try simp only [List.append_nil]); first | exact Ups.nilrow 1 (Ups.nilrow 1 (Ups.nilrow 1 (Ups.refl _))) | exact Ups.nilrow 1 (Ups.nilrow 1 (Ups.refl _)) | exact Ups.same (Ups.nilrow 1 (Ups.nilrow 1 (Ups.refl _))) | exact Ups.nilrow 1 (Ups.same (Ups.nilrow 1 (Ups.refl _))) | exact Ups.nilrow 1 (Ups.refl _) | exact Ups.same (Ups.nilrow 1 (Ups.refl _)) | exact Ups.same (Ups.same (Ups.nilrow 1 (Ups.refl _))) | exact Ups.refl _))))
      refine ⟨s, id, ⟨30, 2, csAt i T⟩, low mc, _, rfl, .refl _, ⟨hS.ext.H s _ hI.h, hS.ext.N id _ hI.n⟩, hok, ?_⟩
      rw [hput, if_pos rfl, ← hcs]
      have hI3 := hI.set (csAt (i + 1) T)
      have hE3 := hE.setNew hn0 (some (mapI .i64 (stD (csAt (i + 1) T))))
      have ht3 : (sb.setN id (some (mapI .i64 (stD (csAt (i + 1) T))))).N i2 = some (mapI .i64 (snD (csAt i T))) := by show (if i2 = id then _ else _) = _; rw [if_neg hne]; exact ht
      replace hS := hS.reN id (some (mapI .i64 (stD (csAt (i + 1) T))))
      refine (show ZOps _ _ _ _ _ _ _ _ from ?_)
      generalize sb.setN id (some (mapI .i64 (stD (csAt (i + 1) T)))) = sb3 at *
      generalize s4.setN id (some (mapI .i64 (stD (csAt (i + 1) T)))) = s5 at *
      (repeat (first | ((with_reducible apply zo_end)) | ((with_reducible apply zs_not); (exact rfl); (exact rfl)) | ((with_reducible apply zr_cond_f); (exact rfl); (first | assumption | exact rfl)) | ((with_reducible apply zr_skip'))))
      refine zc_begin (m := 13) ([(r, P ++ (cellD (low mc) ++ S))]) [] zq18 rfl ?_
      refine zc_take0 (i := 0) rfl zq18 zq18 zq18 zq18 zq12 rfl rfl (ZPure0.pure (zp_move rfl rfl)) ?_
      refine zc_take0 (i := 1) rfl zq18 zq18 zq18 zq18 zq12 rfl rfl (ZPure0.pure (zp_move rfl rfl)) ?_
      refine zc_take0 (i := 2) rfl zq18 zq18 zq18 zq18 zq12 rfl rfl (ZPure0.pure (zp_move rfl rfl)) ?_
      refine zc_take0 (i := 3) rfl zq18 zq18 zq18 zq18 zq12 rfl rfl zq0 ?_
      refine zc_take0 (i := 4) rfl zq18 zq18 zq18 zq18 zq12 rfl rfl zq7 ?_
      refine zc_take0 (i := 6) rfl zq18 zq18 zq18 zq18 zq12 rfl rfl (ZPure0.pure (zp_move rfl rfl)) ?_
      refine zc_take0 (i := 7) rfl zq18 zq18 zq18 zq18 zq12 rfl rfl (ZPure0.pure (zp_move rfl rfl)) ?_
      refine zc_take0 (i := 8) rfl zq18 zq18 zq18 zq18 zq12 rfl rfl zq0 ?_
      refine zc_take0 (i := 9) rfl zq18 zq18 zq18 zq18 zq12 rfl rfl zq7 ?_
      skip
      have hlow : 0 ≤ (low mc).2.1 ∧ (low mc).2.1 ≤ 7 := by unfold low; simp only; omega
      refine zc_take (i := 5) rfl zq18 zq18 zq18 zq18 zq18 zq18 zq12 rfl rfl (zpb_load rfl zq15 rfl (.head _) (cellL0 (m := low mc) (by omega)) rfl) ?_
      skip
      refine zc_take (i := 10) rfl zq18 zq18 zq18 zq18 zq18 zq18 zq12 rfl rfl (zpb_load rfl zq15 rfl (.head _) (cellL1 (m := low mc) (by omega)) rfl) ?_
      refine zc_take0 (i := 11) rfl zq18 zq18 zq18 zq18 zq12 rfl rfl (ZPure0.pure (zp_add rfl rfl rfl zq13)) ?_
      skip
      refine zc_one (i := 12) (fun _ => by first | assumption | (repeat (first | exact BOwn.nil _ | refine BOwn.cons zq3 ?_))) zq18 rfl zq12 (zop_mapSet rfl rfl un_sn (un_int rfl) rfl rfl rfl (hS.ext.N i2 _ ht3) ?_)
      rw [setI_snD (low mc), ← hcs]
      have hI4 := hI3.other hne (some (mapI .i64 (snD (csAt (i + 1) T))))
      have hE4 := hE3.setNew hn2 (some (mapI .i64 (snD (csAt (i + 1) T))))
      have ht4 := setN_self sb3 i2 (some (mapI .i64 (snD (csAt (i + 1) T))))
      replace hS := hS.reN i2 (some (mapI .i64 (snD (csAt (i + 1) T))))
      refine zc_endB (fun _ => by first | assumption | (repeat (first | exact BOwn.nil _ | refine BOwn.cons zq3 ?_))) zq18 ?_
      (repeat (first | ((with_reducible apply zr_region); (try simp only [List.append_eq, List.cons_append, List.nil_append])) | ((with_reducible apply zo_end)) | ((with_reducible apply zs_move); (exact rfl); (exact rfl)) | ((with_reducible apply zs_assign); (exact rfl); (exact rfl)) | ((with_reducible apply zs_add); (exact rfl); (exact rfl); (exact rfl); (first | (with_reducible assumption) | exact wrap_in64 (by omega) (by omega)))))
      exact ⟨m - 1, _, by omega, ⟨i + 1, _, _, by omega, rfl, hS, by rw [e1]; exact hgn _, hE4, hI4, ht4, hok3, hlen3⟩, zq10, zq10⟩
    · have hiT : i = T.length := by omega
      subst hiT
      have hIs : IsStsh s' s id ⟨30, 2, csAt T.length T⟩ := ⟨hS.ext.H s _ hI.h, hS.ext.N id _ hI.n⟩
      have hts := hS.ext.N i2 _ ht
      have hEs := hE.trans hS.ext
      generalize csAt T.length T = cs0 at *
      clear hS hg hI ht hE hm
      (repeat (first | ((with_reducible apply zr_seq)) | ((with_reducible apply zr_region); (try simp only [List.append_eq, List.cons_append, List.nil_append])) | ((with_reducible apply zo_end)) | ((with_reducible apply zs_move); (exact rfl); (exact rfl)) | ((with_reducible apply zs_assign); (exact rfl); (exact rfl)) | ((with_reducible apply zs_add); (exact rfl); (exact rfl); (exact rfl); (first | (with_reducible assumption) | exact wrap_in64 (by omega) (by omega))) | (with_reducible refine zr_exit ?_; simp only [Zthen, Zblock, ↓reduceIte]) | ((with_reducible apply (zs_mask (p := 8) 3)); (exact rfl); (exact rfl); (exact rfl); (exact rfl); (decide); (decide); (decide)) | ((with_reducible apply (zs_mask (p := 4) 2)); (exact rfl); (exact rfl); (exact rfl); (exact rfl); (decide); (decide); (decide)) | ((with_reducible apply zs_call slen_snd cl_9); (exact rfl); (exact rfl); ((try simp only [List.append_nil]); first | exact Ups.nilrow 1 (Ups.nilrow 1 (Ups.nilrow 1 (Ups.refl _))) | exact Ups.nilrow 1 (Ups.nilrow 1 (Ups.refl _)) | exact Ups.same (Ups.nilrow 1 (Ups.nilrow 1 (Ups.refl _))) | exact Ups.nilrow 1 (Ups.same (Ups.nilrow 1 (Ups.refl _))) | exact Ups.nilrow 1 (Ups.refl _) | exact Ups.same (Ups.nilrow 1 (Ups.refl _)) | exact Ups.same (Ups.same (Ups.nilrow 1 (Ups.refl _))) | exact Ups.refl _))))
      refine ⟨s, id, _, rfl, hIs, ?_⟩
      refine (show ZOps _ _ _ _ _ _ _ _ from ?_)
      (repeat (first | ((with_reducible apply zr_seq)) | ((with_reducible apply zr_region); (try simp only [List.append_eq, List.cons_append, List.nil_append])) | ((with_reducible apply zo_end)) | ((with_reducible apply zs_move); (exact rfl); (exact rfl)) | ((with_reducible apply zs_assign); (exact rfl); (exact rfl))))
      (try ((with_reducible apply zs_yes); exact rfl; exact rfl; (first | assumption | exact rfl))); refine zo_val rfl rfl (by decide) (zv_mapLen rfl un_sn rfl hts ?_)
      rw [mapI_len, snD_len]
      have hln : decide (((StshV.mk 30 2 cs0).cs.length : Int) ≠ (cs0.length : Int)) = false := by simp
      (repeat (first | ((with_reducible apply zr_seq)) | ((with_reducible apply zr_region); (try simp only [List.append_eq, List.cons_append, List.nil_append])) | ((with_reducible apply zo_end)) | ((with_reducible apply zs_assign); (exact rfl); (exact rfl)) | ((with_reducible apply zs_neq); (exact rfl); (exact rfl); (exact rfl)) | ((with_reducible apply zr_cond_f); (exact rfl); (first | assumption | exact rfl)) | ((with_reducible apply zr_block)) | ((with_reducible apply zr_skip'))))
      obtain ⟨lf, hlf⟩ : ∃ lf, lf = leaf % 8 := ⟨_, rfl⟩
      have hlb : 0 ≤ lf ∧ lf ≤ 7 := by omega
      obtain ⟨zz, hzz2⟩ : ∃ zz, zz = z % 4 + 1 := ⟨_, rfl⟩
      have hzb : 1 ≤ zz ∧ zz ≤ 4 := by omega
      rw [← hlf, ← hzz2]
      clear hlf hzz2
      refine zr_loopK [1, 2, 8, 9] (fun m e s' => ∃ (cs : List CellV), m ≤ 4 ∧ e = [(11, .v (.int .i64 (cs.length : Nat))), (12, .v (.int .i64 ((m : Int) - 1)))] ∧ Ext st s' ∧ IsStsh s' s id ⟨30, 2, cs⟩ ∧ s'.N i2 = some (mapI .i64 (snD cs)) ∧ StOk ⟨30, 2, cs⟩) 4 _ zq8
        ⟨cs0, Nat.le_refl _, rfl, hEs, hIs, hts, hok⟩ zq10 ?_
      clear hEs hIs hts hok hci hln
      rintro m e s' ⟨cs, hm4, rfl, hE, hI, ht, hok⟩
      (repeat (first | ((with_reducible apply zr_seq)) | ((with_reducible apply zr_region); (try simp only [List.append_eq, List.cons_append, List.nil_append])) | ((with_reducible apply zo_end)) | ((with_reducible apply zs_move); (exact rfl); (exact rfl)) | ((with_reducible apply zs_geq); (exact rfl); (exact rfl); (exact rfl))))
      (first | refine zr_cond rfl (fun h => ?_) (fun h => ?_) | refine zs_split rfl rfl (fun h => ?_) (fun h => ?_)) <;> have h' := h <;> (try simp only [decide_eq_true_eq, decide_eq_false_iff_not, Bool.and_eq_true, Bool.or_eq_true, Bool.and_eq_false_iff, Bool.or_eq_false_iff, Bool.not_eq_true', Bool.not_eq_false', Bool.not_eq_true, Bool.not_eq_false, Int.not_le, Int.not_lt, Classical.not_not, Decidable.not_not, ne_eq, beq_iff_eq, bne_iff_ne] at h')
      · obtain ⟨lv, hlv⟩ : ∃ lv, lv = (m : Int) - 1 := ⟨_, rfl⟩
        have hlvb : 0 ≤ lv ∧ lv ≤ 3 := by omega
        rw [← hlv]
        have hat := at8 hlb hlvb
        obtain ⟨new, hev⟩ := evOut_ok (z := zz) hat hok.nd
        have ho : (evOut 8 lf lv zz cs).1 = new := by rw [hev.out]; rfl
        (repeat (first | ((with_reducible apply zr_seq)) | ((with_reducible apply zr_region); (try simp only [List.append_eq, List.cons_append, List.nil_append])) | ((with_reducible apply zs_move); (exact rfl); (exact rfl)) | ((with_reducible apply zr_block)) | ((with_reducible apply zr_skip')) | ((with_reducible apply zs_call evict_snd cl_14); (exact rfl); (exact rfl); ((try simp only [List.append_nil]); first | exact Ups.nilrow 1 (Ups.nilrow 1 (Ups.nilrow 1 (Ups.refl _))) | exact Ups.nilrow 1 (Ups.nilrow 1 (Ups.refl _)) | exact Ups.same (Ups.nilrow 1 (Ups.nilrow 1 (Ups.refl _))) | exact Ups.nilrow 1 (Ups.same (Ups.nilrow 1 (Ups.refl _))) | exact Ups.nilrow 1 (Ups.refl _) | exact Ups.same (Ups.nilrow 1 (Ups.refl _)) | exact Ups.same (Ups.same (Ups.nilrow 1 (Ups.refl _))) | exact Ups.refl _))))
        refine ⟨s, id, ⟨30, 2, cs⟩, 8, lf, lv, zz, rfl, hI, hok, ?_⟩
        rw [ho, hev.rest]
        have hI3 := hI.set (delAll cs new)
        have hE3 := hE.setNew hn0 (some (mapI .i64 (stD (delAll cs new))))
        have ht3 : (s'.setN id (some (mapI .i64 (stD (delAll cs new))))).N i2 = some (mapI .i64 (snD cs)) := by show (if i2 = id then _ else _) = _; rw [if_neg hne]; exact ht
        have hok3 : StOk ⟨30, 2, delAll cs new⟩ := StOk.delAll hok
        have hfew2 : ((new.length : Nat) : Int) ≤ zz := by have := hev.few (by simp; omega); rw [ho] at this; exact this
        have hnl : (delAll cs new).length + new.length = cs.length := hev.takes.len
        have hroom : (cs.length : Int) ≤ 30 := hok.room
        refine (show ZOps _ _ _ _ _ _ _ _ from ?_)
        generalize s'.setN id (some (mapI .i64 (stD (delAll cs new)))) = s3 at *
        have hrl : (cellR new).length = new.length := cellR_length new
        have g1 : decide (zz < ((cellR new).length : Nat)) = false := decide_eq_false (by rw [hrl]; omega)
        (repeat (first | ((with_reducible apply zr_seq)) | ((with_reducible apply zr_region); (try simp only [List.append_eq, List.cons_append, List.nil_append])) | ((with_reducible apply zo_end)) | ((with_reducible apply zs_move); (exact rfl); (exact rfl)) | ((with_reducible apply zs_assign); (exact rfl); (exact rfl)) | ((with_reducible apply zs_gtr); (exact rfl); (exact rfl); (exact rfl)) | ((with_reducible apply zs_sub); (exact rfl); (exact rfl); (exact rfl); (first | (with_reducible assumption) | exact wrap_in64 (by omega) (by omega))) | ((with_reducible apply zs_len); (exact rfl); (exact rfl); (exact un_sl rfl)) | ((with_reducible apply zr_cond_f); (exact rfl); (first | assumption | exact rfl)) | ((with_reducible apply zr_block)) | ((with_reducible apply zr_skip'))))
        rw [show (cs.length : Int) - ((cellR new).length : Nat) = ((delAll cs new).length : Nat) by omega]
        refine zr_loopK [1, 2, 8, 9, 11, 12, 13] (fun m e s' => ∃ (i : Nat), m + i = new.length ∧ e = [(14, .v (.int .i64 (i : Nat)))] ∧ Ext st s' ∧ IsStsh s' s id ⟨30, 2, delAll cs new⟩ ∧ s'.N i2 = some (mapI .i64 (snD (delAll cs (new.take i))))) new.length _ zq8
          ⟨0, by simp, rfl, hE3, hI3, ht3⟩ zq10 ?_
        clear hE3 hI3 ht3 hE hI ht
        rintro m2 e s' ⟨i, hm2, rfl, hE, hI, ht⟩
        (repeat (first | ((with_reducible apply zr_seq)) | ((with_reducible apply zr_region); (try simp only [List.append_eq, List.cons_append, List.nil_append])) | ((with_reducible apply zo_end)) | ((with_reducible apply zs_move); (exact rfl); (exact rfl)) | ((with_reducible apply zs_lss); (exact rfl); (exact rfl); (exact rfl)) | ((with_reducible apply zs_len); (exact rfl); (exact rfl); (exact un_sl rfl))))
        (first | refine zr_cond rfl (fun h2 => ?_) (fun h2 => ?_) | refine zs_split rfl rfl (fun h2 => ?_) (fun h2 => ?_)) <;> have h2' := h2 <;> (try simp only [decide_eq_true_eq, decide_eq_false_iff_not, Bool.and_eq_true, Bool.or_eq_true, Bool.and_eq_false_iff, Bool.or_eq_false_iff, Bool.not_eq_true', Bool.not_eq_false', Bool.not_eq_true, Bool.not_eq_false, Int.not_le, Int.not_lt, Classical.not_not, Decidable.not_not, ne_eq, beq_iff_eq, bne_iff_ne] at h2')
        · have hlt : i < new.length := by omega
          have hcg := cellR_getD new i hlt
          have hni : new[i]? = some (new.getD i zc) := by rw [getD_in hlt, List.getElem?_eq_getElem hlt]
          have hnm : new.getD i zc ∈ new := List.mem_of_getElem? hni
          have hfa := hev.takes.at hni
          have hme := hev.meet _ hnm
          have hsn := Takes.snoc (cs := cs) hni
          have hb2 := okC_bounds ((StOk.delAll (new := new.take i) hok).all _ (findC_id hfa).2)
          have hprev : ∀ j, i = j + 1 → (cellR new).getD j [] = cellD (new.getD j zc) ∧ (new.getD j zc).1 < (new.getD i zc).1 := fun j hj => by
            have hj2 : j < new.length := by omega
            refine ⟨cellR_getD new j hj2, ?_⟩
            have hp : (new.map (·.1)).Pairwise (· < ·) := (sortI_lt hok.nd).sublist hev.sub
            have h3 := List.pairwise_iff_getElem.1 hp j i (by simpa using hj2) (by simpa using hlt) (by omega)
            rw [getD_in hj2, getD_in hlt]
            simpa using h3
          generalize new.getD i zc = cv at *
          (repeat (first | ((with_reducible apply zr_seq)) | ((with_reducible apply zr_block)) | ((with_reducible apply zr_skip'))))
          refine zc_begin (m := 43) ([]) [] zq18 rfl ?_
          refine zc_take0 (i := 0) rfl zq18 zq18 zq18 zq18 zq12 rfl rfl (ZPure0.pure (zp_move rfl rfl)) ?_
          refine zc_take0 (i := 1) rfl zq18 zq18 zq18 zq18 zq12 rfl rfl (ZPure0.pure (zp_move rfl rfl)) ?_
          refine zc_take0 (i := 2) rfl zq18 zq18 zq18 zq18 zq12 rfl rfl (ZPure0.pure (zp_move rfl rfl)) ?_
          refine zc_take0 (i := 3) rfl zq18 zq18 zq18 zq18 zq12 rfl rfl zq0 ?_
          refine zc_take0 (i := 4) rfl zq18 zq18 zq18 zq18 zq12 rfl rfl zq7 ?_
          refine zc_take0 (i := 5) rfl zq18 zq18 zq18 zq18 zq12 rfl rfl (zp_load_ref rfl zq15 rfl rfl) ?_
          refine zc_take0 (i := 7) rfl zq18 zq18 zq18 zq18 zq12 rfl rfl (ZPure0.pure (zp_move rfl rfl)) ?_
          refine zc_take0 (i := 8) rfl zq18 zq18 zq18 zq18 zq12 rfl rfl (ZPure0.pure (zp_move rfl rfl)) ?_
          refine zc_take0 (i := 9) rfl zq18 zq18 zq18 zq18 zq12 rfl rfl zq0 ?_
          refine zc_take0 (i := 10) rfl zq18 zq18 zq18 zq18 zq12 rfl rfl zq7 ?_
          refine zc_take0 (i := 11) rfl zq18 zq18 zq18 zq18 zq12 rfl rfl (zp_load_ref rfl zq15 rfl rfl) ?_
          refine zc_take0 (i := 12) rfl zq18 zq18 zq18 zq18 zq12 rfl rfl (ZPure0.pure (zp_add rfl rfl rfl zq13)) ?_
          skip
          refine zc_one_val (i := 6) (fun _ => by first | assumption | (repeat (first | exact BOwn.nil _ | refine BOwn.cons zq3 ?_))) zq18 rfl zq12 rfl rfl (zv_look rfl un_sn (un_int rfl) hzi hzz (fun _ => .v _) rfl rfl ht ?_)
          rw [lkI_snD, hfa]
          simp only
          refine zc_take0 (i := 13) rfl zq18 zq18 zq18 zq18 zq12 rfl rfl (ZPure0.pure (zp_neq rfl rfl rfl)) ?_
          refine zc_take0 (i := 14) rfl zq18 zq18 zq18 zq18 zq12 rfl rfl (ZPure0.pure (zp_move rfl rfl)) ?_
          skip
          rw [show decide (cv.2.1 + 1 ≠ cv.2.1 + 1) = false by simp]
          refine zc_take0 (i := 15) rfl zq18 zq18 zq18 zq18 zq12 rfl rfl (ZPure0.pure (zp_move rfl rfl)) ?_
          refine zc_take0 (i := 16) rfl zq18 zq18 zq18 zq18 zq12 rfl rfl (ZPure0.pure (zp_move rfl rfl)) ?_
          refine zc_take0 (i := 17) rfl zq18 zq18 zq18 zq18 zq12 rfl rfl zq0 ?_
          refine zc_take0 (i := 18) rfl zq18 zq18 zq18 zq18 zq12 rfl rfl zq7 ?_
          refine zc_take0 (i := 19) rfl zq18 zq18 zq18 zq18 zq12 rfl rfl (zp_load_ref rfl zq15 rfl rfl) ?_
          refine zc_take0 (i := 20) rfl zq18 zq18 zq18 zq18 zq12 rfl rfl (ZPure0.pure (zp_move rfl rfl)) ?_
          refine zc_take0 (i := 22) rfl zq18 zq18 zq18 zq18 zq12 rfl rfl (ZPure0.pure (zp_move rfl rfl)) ?_
          skip
          refine zc_one (i := 21) (fun _ => by first | assumption | (repeat (first | exact BOwn.nil _ | refine BOwn.cons zq3 ?_))) zq18 rfl zq12 (zop_callQ rmeet_pf cl_15 rfl rfl (by decide) rfl rfl zq9 ?_ ?_)
          · trivial
          rw [meet_eq]
          refine zc_take0 (i := 23) rfl zq18 zq18 zq18 zq18 zq12 rfl rfl (ZPure0.pure (zp_lss rfl rfl rfl)) ?_
          refine zc_take0 (i := 24) rfl zq18 zq18 zq18 zq18 zq12 rfl rfl zq6 ?_
          refine zc_take0 (i := 25) rfl zq18 zq18 zq18 zq18 zq12 rfl rfl (ZPure0.pure (zp_move rfl rfl)) ?_
          skip
          rw [show decide (meetL 8 cv.2.1 lf < lv) = false from decide_eq_false (by omega)]
          skip
          rcases Nat.eq_zero_or_pos i with hi0 | hip
          · subst hi0
            refine zc_take0 (i := 26) rfl zq18 zq18 zq18 zq18 zq12 rfl rfl (ZPure0.pure (zp_move rfl rfl)) ?_
            refine zc_take0 (i := 27) rfl zq18 zq18 zq18 zq18 zq12 rfl rfl (ZPure0.pure (zp_gtr rfl rfl rfl)) ?_
            refine zc_take0 (i := 28) rfl zq18 zq18 zq18 zq18 zq12 rfl rfl (ZPure0.pure (zp_move rfl rfl)) ?_
            refine zc_notU (i := 29) rfl zq18 zq18 zq18 zq18 zq5 rfl ?_
            refine zc_notU (i := 30) rfl zq18 zq18 zq18 zq18 zq5 rfl ?_
            refine zc_notU (i := 31) rfl zq18 zq18 zq18 zq18 zq5 rfl ?_
            refine zc_notU (i := 32) rfl zq18 zq18 zq18 zq18 zq5 rfl ?_
            refine zc_notU (i := 33) rfl zq18 zq18 zq18 zq18 zq5 rfl ?_
            refine zc_notU (i := 34) rfl zq18 zq18 zq18 zq18 zq5 rfl ?_
            refine zc_notU (i := 35) rfl zq18 zq18 zq18 zq18 zq5 rfl ?_
            refine zc_notU (i := 36) rfl zq18 zq18 zq18 zq18 zq5 rfl ?_
            refine zc_notU (i := 37) rfl zq18 zq18 zq18 zq18 zq5 rfl ?_
            refine zc_notU (i := 38) rfl zq18 zq18 zq18 zq18 zq5 rfl ?_
            refine zc_notU (i := 39) rfl zq18 zq18 zq18 zq18 zq5 rfl ?_
            refine zc_notU (i := 40) rfl zq18 zq18 zq18 zq18 zq5 rfl ?_
            refine zc_take0 (i := 41) rfl zq18 zq18 zq18 zq18 zq12 rfl rfl zq6 ?_
            refine zc_take0 (i := 42) rfl zq18 zq18 zq18 zq18 zq12 rfl rfl zq6 ?_
            refine zc_end (fun _ => by first | assumption | (repeat (first | exact BOwn.nil _ | refine BOwn.cons zq3 ?_))) zq18 ?_
            (repeat (first | ((with_reducible apply zr_region); (try simp only [List.append_eq, List.cons_append, List.nil_append])) | ((with_reducible apply zs_move); (exact rfl); (exact rfl)) | ((with_reducible apply zr_cond_f); (exact rfl); (first | assumption | exact rfl)) | ((with_reducible apply zr_skip')) | ((with_reducible apply zs_field_ref); (exact rfl); (exact rfl); (exact fld_of rfl)) | ((with_reducible apply zs_load_ref); (exact rfl); (exact rfl); (exact sh_of rfl); (exact rfl)) | ((with_reducible apply zs_idxE); (exact rfl); (exact rfl); (exact rfl); (exact un_sl rfl); (exact ii_of rfl); (first | omega | (simp only [List.length_map, List.length_take, List.length_drop, List.length_append, List.length_cons, List.length_nil, List.length_replicate, rowR_length, intR_length, msgR_length, pairR_length, cellR_length]; omega) | decide); (first | omega | (simp only [List.length_map, List.length_take, List.length_drop, List.length_append, List.length_cons, List.length_nil, List.length_replicate, rowR_length, intR_length, msgR_length, pairR_length, cellR_length]; omega) | decide); (first | (with_reducible exact Int.toNat_natCast _) | (simp only [Int.reduceToNat]; exact rfl) | exact rfl); (assumption))))
            refine zo_cons rfl (zop_mapDel rfl rfl un_sn (un_int rfl) rfl rfl ht ?_)
            rw [delI_snD, hsn]
            (repeat (first | ((with_reducible apply zr_region); (try simp only [List.append_eq, List.cons_append, List.nil_append])) | ((with_reducible apply zo_end)) | ((with_reducible apply zo_endB)) | ((with_reducible apply zs_move); (exact rfl); (exact rfl)) | ((with_reducible apply zs_assign); (exact rfl); (exact rfl)) | ((with_reducible apply zs_add); (exact rfl); (exact rfl); (exact rfl); (first | (with_reducible assumption) | exact wrap_in64 (by omega) (by omega)))))
            exact ⟨m2 - 1, _, by omega, ⟨0 + 1, by omega, rfl, hE.setNew hn2 _, hI.other hne _, setN_self _ _ _⟩, zq10, zq10⟩
          · obtain ⟨j, rfl⟩ : ∃ j, i = j + 1 := ⟨i - 1, by omega⟩
            obtain ⟨hpg, hpl⟩ := hprev j rfl
            skip
            refine zc_take0 (i := 26) rfl zq18 zq18 zq18 zq18 zq12 rfl rfl (ZPure0.pure (zp_move rfl rfl)) ?_
            refine zc_take0 (i := 27) rfl zq18 zq18 zq18 zq18 zq12 rfl rfl (ZPure0.pure (zp_gtr rfl rfl rfl)) ?_
            refine zc_take0 (i := 28) rfl zq18 zq18 zq18 zq18 zq12 rfl rfl (ZPure0.pure (zp_move rfl rfl)) ?_
            skip
            rw [show decide ((0 : Int) < ((j + 1 : Nat) : Int)) = true from decide_eq_true (by omega)]
            refine zc_take0 (i := 29) rfl zq18 zq18 zq18 zq18 zq12 rfl rfl (ZPure0.pure (zp_move rfl rfl)) ?_
            refine zc_take0 (i := 30) rfl zq18 zq18 zq18 zq18 zq12 rfl rfl (ZPure0.pure (zp_move rfl rfl)) ?_
            refine zc_take0 (i := 31) rfl zq18 zq18 zq18 zq18 zq12 rfl rfl (ZPure0.pure (zp_sub rfl rfl rfl zq13)) ?_
            refine zc_take0 (i := 35) rfl zq18 zq18 zq18 zq18 zq12 rfl rfl (ZPure0.pure (zp_move rfl rfl)) ?_
            refine zc_take0 (i := 36) rfl zq18 zq18 zq18 zq18 zq12 rfl rfl (ZPure0.pure (zp_move rfl rfl)) ?_
            refine zc_take0 (i := 37) rfl zq18 zq18 zq18 zq18 zq12 rfl rfl zq0 ?_
            refine zc_take0 (i := 38) rfl zq18 zq18 zq18 zq18 zq12 rfl rfl zq7 ?_
            refine zc_take0 (i := 39) rfl zq18 zq18 zq18 zq18 zq12 rfl rfl (zp_load_ref rfl zq15 rfl rfl) ?_
            skip
            rw [show (((j + 1 : Nat) : Int) - 1) = ((j : Nat) : Int) by omega]
            have g4 : decide (cv.1 ≤ (new.getD j zc).1) = false := decide_eq_false (by omega)
            refine zc_take0 (i := 32) rfl zq18 zq18 zq18 zq18 zq12 rfl rfl zq0 ?_
            refine zc_take0 (i := 33) rfl zq18 zq18 zq18 zq18 zq12 rfl rfl zq7 ?_
            refine zc_take0 (i := 34) rfl zq18 zq18 zq18 zq18 zq12 rfl rfl (zp_load_ref rfl zq15 rfl rfl) ?_
            refine zc_take0 (i := 40) rfl zq18 zq18 zq18 zq18 zq12 rfl rfl (ZPure0.pure (zp_geq rfl rfl rfl)) ?_
            refine zc_take0 (i := 41) rfl zq18 zq18 zq18 zq18 zq12 rfl rfl zq6 ?_
            refine zc_take0 (i := 42) rfl zq18 zq18 zq18 zq18 zq12 rfl rfl zq6 ?_
            refine zc_end (fun _ => by first | assumption | (repeat (first | exact BOwn.nil _ | refine BOwn.cons zq3 ?_))) zq18 ?_
            (repeat (first | ((with_reducible apply zr_region); (try simp only [List.append_eq, List.cons_append, List.nil_append])) | ((with_reducible apply zs_move); (exact rfl); (exact rfl)) | ((with_reducible apply zr_cond_f); (exact rfl); (first | assumption | exact rfl)) | ((with_reducible apply zr_skip')) | ((with_reducible apply zs_field_ref); (exact rfl); (exact rfl); (exact fld_of rfl)) | ((with_reducible apply zs_load_ref); (exact rfl); (exact rfl); (exact sh_of rfl); (exact rfl)) | ((with_reducible apply zs_idxE); (exact rfl); (exact rfl); (exact rfl); (exact un_sl rfl); (exact ii_of rfl); (first | omega | (simp only [List.length_map, List.length_take, List.length_drop, List.length_append, List.length_cons, List.length_nil, List.length_replicate, rowR_length, intR_length, msgR_length, pairR_length, cellR_length]; omega) | decide); (first | omega | (simp only [List.length_map, List.length_take, List.length_drop, List.length_append, List.length_cons, List.length_nil, List.length_replicate, rowR_length, intR_length, msgR_length, pairR_length, cellR_length]; omega) | decide); (first | (with_reducible exact Int.toNat_natCast _) | (simp only [Int.reduceToNat]; exact rfl) | exact rfl); (assumption))))
            refine zo_cons rfl (zop_mapDel rfl rfl un_sn (un_int rfl) rfl rfl ht ?_)
            rw [delI_snD, hsn]
            (repeat (first | ((with_reducible apply zr_region); (try simp only [List.append_eq, List.cons_append, List.nil_append])) | ((with_reducible apply zo_end)) | ((with_reducible apply zo_endB)) | ((with_reducible apply zs_move); (exact rfl); (exact rfl)) | ((with_reducible apply zs_assign); (exact rfl); (exact rfl)) | ((with_reducible apply zs_add); (exact rfl); (exact rfl); (exact rfl); (first | (with_reducible assumption) | exact wrap_in64 (by omega) (by omega)))))
            exact ⟨m2 - 1, _, by omega, ⟨j + 1 + 1, by omega, rfl, hE.setNew hn2 _, hI.other hne _, setN_self _ _ _⟩, zq10, zq10⟩
        · have hin : i = new.length := by omega
          rw [hin, List.take_length] at ht
          have hev2 := hev.all
          rw [ho] at hev2
          (repeat (first | ((with_reducible apply zr_seq)) | ((with_reducible apply zr_region); (try simp only [List.append_eq, List.cons_append, List.nil_append])) | ((with_reducible apply zo_end)) | ((with_reducible apply zs_move); (exact rfl); (exact rfl)) | ((with_reducible apply zs_lss); (exact rfl); (exact rfl); (exact rfl)) | ((with_reducible apply zs_len); (exact rfl); (exact rfl); (exact un_sl rfl)) | (with_reducible refine zr_exit ?_; simp only [Zthen, Zblock, ↓reduceIte])))
          by_cases hfull : (new.length : Int) < zz
          · have g5 : decide (((cellR new).length : Int) < zz) = true := decide_eq_true (by rw [hrl]; omega)
            (repeat (first | ((with_reducible apply zr_seq)) | ((with_reducible apply zr_region); (try simp only [List.append_eq, List.cons_append, List.nil_append])) | ((with_reducible apply zs_move); (exact rfl); (exact rfl)) | ((with_reducible apply zr_cond_t); (exact rfl); (first | assumption | exact rfl)) | ((with_reducible apply zs_call ids_snd cl_16); (exact rfl); (exact rfl); ((try simp only [List.append_nil]); first | exact Ups.nilrow 1 (Ups.nilrow 1 (Ups.nilrow 1 (Ups.refl _))) | exact Ups.nilrow 1 (Ups.nilrow 1 (Ups.refl _)) | exact Ups.same (Ups.nilrow 1 (Ups.nilrow 1 (Ups.refl _))) | exact Ups.nilrow 1 (Ups.same (Ups.nilrow 1 (Ups.refl _))) | exact Ups.nilrow 1 (Ups.refl _) | exact Ups.same (Ups.nilrow 1 (Ups.refl _)) | exact Ups.same (Ups.same (Ups.nilrow 1 (Ups.refl _))) | exact Ups.refl _))))
            refine ⟨s, id, ⟨30, 2, delAll cs new⟩, rfl, hI, hok3, ?_⟩
            simp only
            have hidm : ∀ k ∈ sortI ((delAll cs new).map (·.1)), k ∈ (delAll cs new).map (·.1) := fun k hk => sortI_mem.1 hk
            have hil : (sortI ((delAll cs new).map (·.1))).length = (delAll cs new).length := by rw [sortI_length, List.length_map]
            generalize sortI ((delAll cs new).map (·.1)) = ids at *
            have hirl : (intR ids).length = ids.length := intR_length ids
            refine (show ZOps _ _ _ _ _ _ _ _ from ?_)
            (repeat (first | ((with_reducible apply zr_seq)) | ((with_reducible apply zr_region); (try simp only [List.append_eq, List.cons_append, List.nil_append])) | ((with_reducible apply zo_end)) | ((with_reducible apply zs_assign); (exact rfl); (exact rfl)) | ((with_reducible apply zr_block))))
            refine zr_loopK [1, 2, 8, 9, 11, 12, 15] (fun m e s'' => ∃ (i : Nat), m + i = ids.length ∧ e = [(16, .v (.int .i64 (i : Nat)))] ∧ s'' = s') ids.length _ zq8 ⟨0, by simp, rfl, rfl⟩ zq10 ?_
            rintro m3 e s'' ⟨i3, hm3, rfl, rfl⟩
            (repeat (first | ((with_reducible apply zr_seq)) | ((with_reducible apply zr_region); (try simp only [List.append_eq, List.cons_append, List.nil_append])) | ((with_reducible apply zo_end)) | ((with_reducible apply zs_move); (exact rfl); (exact rfl)) | ((with_reducible apply zs_lss); (exact rfl); (exact rfl); (exact rfl)) | ((with_reducible apply zs_len); (exact rfl); (exact rfl); (exact un_sl rfl))))
            (first | refine zr_cond rfl (fun h3 => ?_) (fun h3 => ?_) | refine zs_split rfl rfl (fun h3 => ?_) (fun h3 => ?_)) <;> have h3' := h3 <;> (try simp only [decide_eq_true_eq, decide_eq_false_iff_not, Bool.and_eq_true, Bool.or_eq_true, Bool.and_eq_false_iff, Bool.or_eq_false_iff, Bool.not_eq_true', Bool.not_eq_false', Bool.not_eq_true, Bool.not_eq_false, Int.not_le, Int.not_lt, Classical.not_not, Decidable.not_not, ne_eq, beq_iff_eq, bne_iff_ne] at h3')
            · have hlt3 : i3 < ids.length := by omega
              have hkg : (intR ids).getD i3 [] = [.v (.int .i64 (ids.getD i3 0))] := by unfold intR; rw [List.getD_eq_getElem?_getD, List.getElem?_map, List.getElem?_eq_getElem hlt3, getD_in hlt3]; rfl
              have hki : ids.getD i3 0 ∈ (delAll cs new).map (·.1) := hidm _ (by rw [getD_in hlt3]; exact List.getElem_mem hlt3)
              generalize ids.getD i3 0 = k at *
              obtain ⟨cv, hcm, hcf, hck⟩ := findC_some hki
              have hnn : ∀ c ∈ new, k ≠ c.1 := fun c hc e => not_mem_delAll hok.nd hc (by rw [← e]; exact hki)
              have hnm := hev2 hfull k (sortI_mem.2 (mem_delAll hki)) hnn
              rw [← findC_delAll hnn, hcf] at hnm
              simp only [Option.getD_some] at hnm
              have hcb := okC_bounds (hok3.all cv hcm)
              have g6 : decide (lv ≤ rmeetL 8 (cv.2.1 + 1 - 1) lf) = false := by rw [show cv.2.1 + 1 - 1 = cv.2.1 by omega, meet_eq]; exact decide_eq_false hnm
              (repeat (first | ((with_reducible apply zr_seq)) | ((with_reducible apply zr_region); (try simp only [List.append_eq, List.cons_append, List.nil_append])) | ((with_reducible apply zs_move); (exact rfl); (exact rfl)) | ((with_reducible apply zr_block)) | ((with_reducible apply zr_skip')) | ((with_reducible apply zs_load_ref); (exact rfl); (exact rfl); (exact sh_of rfl); (exact rfl)) | ((with_reducible apply zs_idxE); (exact rfl); (exact rfl); (exact rfl); (exact un_sl rfl); (exact ii_of rfl); (first | omega | (simp only [List.length_map, List.length_take, List.length_drop, List.length_append, List.length_cons, List.length_nil, List.length_replicate, rowR_length, intR_length, msgR_length, pairR_length, cellR_length]; omega) | decide); (first | omega | (simp only [List.length_map, List.length_take, List.length_drop, List.length_append, List.length_cons, List.length_nil, List.length_replicate, rowR_length, intR_length, msgR_length, pairR_length, cellR_length]; omega) | decide); (first | (with_reducible exact Int.toNat_natCast _) | (simp only [Int.reduceToNat]; exact rfl) | exact rfl); (assumption))))
              (try ((with_reducible apply zs_yes); exact rfl; exact rfl; (first | assumption | exact rfl))); refine zo_val rfl rfl (by decide) (zv_look rfl un_sn (un_int rfl) hzi hzz (fun _ => .v _) rfl rfl ht ?_)
              rw [lkI_snD, hcf]
              simp only
              (repeat (first | ((with_reducible apply zr_region); (try simp only [List.append_eq, List.cons_append, List.nil_append])) | ((with_reducible apply zo_end)) | ((with_reducible apply zs_move); (exact rfl); (exact rfl)) | ((with_reducible apply zs_assign); (exact rfl); (exact rfl)) | ((with_reducible apply zs_geq); (exact rfl); (exact rfl); (exact rfl)) | ((with_reducible apply zs_add); (exact rfl); (exact rfl); (exact rfl); (first | (with_reducible assumption) | exact wrap_in64 (by omega) (by omega))) | ((with_reducible apply zs_sub); (exact rfl); (exact rfl); (exact rfl); (first | (with_reducible assumption) | exact wrap_in64 (by omega) (by omega))) | ((with_reducible apply zr_cond_f); (exact rfl); (first | assumption | exact rfl)) | ((with_reducible apply zr_skipB)) | ((with_reducible apply (zs_callQ rmeet_pf cl_15)); (exact rfl); (exact rfl); ((repeat (first | exact DLes.nil | (apply DLes.cons; first | exact DLe.refl _ | exact DLe.nilB | exact DLe.nilR | exact DLe.nilI)))); (first | exact trivial | assumption | ((repeat' (with_reducible refine And.intro ?_ ?_)) <;> first | assumption | omega | exact trivial | (simp; done) | (simp; omega))))))
              exact ⟨m3 - 1, _, by omega, ⟨i3 + 1, by omega, rfl, rfl⟩, zq10, zq10⟩
            · (repeat (first | ((with_reducible apply zr_region); (try simp only [List.append_eq, List.cons_append, List.nil_append])) | ((with_reducible apply zo_end)) | ((with_reducible apply zs_move); (exact rfl); (exact rfl)) | ((with_reducible apply zs_assign); (exact rfl); (exact rfl)) | ((with_reducible apply zs_sub); (exact rfl); (exact rfl); (exact rfl); (first | (with_reducible assumption) | exact wrap_in64 (by omega) (by omega))) | (with_reducible refine zr_exit ?_; simp only [Zthen, Zblock, ↓reduceIte])))
              exact ⟨m - 1, _, by omega, ⟨delAll cs new, by omega, rfl, hE, hI, ht, hok3⟩, sub_cons rfl (sub_cons (by rw [show (((m - 1 : Nat) : Int) - 1) = lv - 1 by omega]; rfl) zq10), zq10⟩
          · have g5 : decide (((cellR new).length : Int) < zz) = false := decide_eq_false (by rw [hrl]; omega)
            (repeat (first | ((with_reducible apply zr_region); (try simp only [List.append_eq, List.cons_append, List.nil_append])) | ((with_reducible apply zo_end)) | ((with_reducible apply zs_move); (exact rfl); (exact rfl)) | ((with_reducible apply zs_assign); (exact rfl); (exact rfl)) | ((with_reducible apply zs_sub); (exact rfl); (exact rfl); (exact rfl); (first | (with_reducible assumption) | exact wrap_in64 (by omega) (by omega))) | ((with_reducible apply zr_cond_f); (exact rfl); (first | assumption | exact rfl)) | ((with_reducible apply zr_skipB))))
            exact ⟨m - 1, _, by omega, ⟨delAll cs new, by omega, rfl, hE, hI, ht, hok3⟩, sub_cons rfl (sub_cons (by rw [show (((m - 1 : Nat) : Int) - 1) = lv - 1 by omega]; rfl) zq10), zq10⟩
      · (repeat (first | ((with_reducible apply zr_seq)) | ((with_reducible apply zr_region); (try simp only [List.append_eq, List.cons_append, List.nil_append])) | ((with_reducible apply zs_move); (exact rfl); (exact rfl)) | (with_reducible refine zr_exit ?_; simp only [Zthen, Zblock, ↓reduceIte]) | ((with_reducible apply zs_call slen_snd cl_9); (exact rfl); (exact rfl); ((try simp only [List.append_nil]); first | exact Ups.nilrow 1 (Ups.nilrow 1 (Ups.nilrow 1 (Ups.refl _))) | exact Ups.nilrow 1 (Ups.nilrow 1 (Ups.refl _)) | exact Ups.same (Ups.nilrow 1 (Ups.nilrow 1 (Ups.refl _))) | exact Ups.nilrow 1 (Ups.same (Ups.nilrow 1 (Ups.refl _))) | exact Ups.nilrow 1 (Ups.refl _) | exact Ups.same (Ups.nilrow 1 (Ups.refl _)) | exact Ups.same (Ups.same (Ups.nilrow 1 (Ups.refl _))) | exact Ups.refl _))))
        refine ⟨s, id, _, rfl, hI, ?_⟩
        have g7 : decide (((StshV.mk 30 2 cs).cs.length : Int) = ((cs.length : Nat) : Int)) = true := by simp
        refine (show ZOps _ _ _ _ _ _ _ _ from ?_)
        (repeat (first | ((with_reducible apply zs_yes); (exact rfl); (exact rfl); (first | assumption | exact rfl)) | ((with_reducible apply zs_move); (exact rfl); (exact rfl)) | ((with_reducible apply zs_eql); (exact rfl); (exact rfl); (exact rfl))))
        (try ((with_reducible apply zs_yes); exact rfl; exact rfl; (first | assumption | exact rfl))); refine zo_val rfl rfl (by decide) (zv_mapLen rfl un_sn rfl ht ?_)
        rw [mapI_len, snD_len]
        (repeat (first | ((with_reducible apply zs_yes); (exact rfl); (exact rfl); (first | assumption | exact rfl)) | ((with_reducible apply zs_move); (exact rfl); (exact rfl)) | ((with_reducible apply zs_eql); (exact rfl); (exact rfl); (exact rfl)) | ((with_reducible apply zs_pick_t); (exact rfl); (exact rfl); (first | assumption | exact rfl); (exact rfl)) | ((with_reducible apply zs_call awake15_snd cl_11); (exact rfl); (exact rfl); ((try simp only [List.append_nil]); first | exact Ups.nilrow 1 (Ups.nilrow 1 (Ups.nilrow 1 (Ups.refl _))) | exact Ups.nilrow 1 (Ups.nilrow 1 (Ups.refl _)) | exact Ups.same (Ups.nilrow 1 (Ups.nilrow 1 (Ups.refl _))) | exact Ups.nilrow 1 (Ups.same (Ups.nilrow 1 (Ups.refl _))) | exact Ups.nilrow 1 (Ups.refl _) | exact Ups.same (Ups.nilrow 1 (Ups.refl _)) | exact Ups.same (Ups.same (Ups.nilrow 1 (Ups.refl _))) | exact Ups.refl _))))
        refine ⟨rfl, ?_⟩
        refine (show ZOps _ _ _ _ _ _ _ _ from ?_)
        rw [show decide (((cs.length : Nat) : Int) = ((cs.length : Nat) : Int)) = true by simp]
        (repeat (first | ((with_reducible apply zo_end)) | ((with_reducible apply zs_assign); (exact rfl); (exact rfl)) | ((with_reducible apply zs_pick_t); (exact rfl); (exact rfl); (first | assumption | exact rfl); (exact rfl)) | ((with_reducible apply zr_retZ); (exact rfl); (repeat (first | exact resD_nil _ _ _ | ((with_reducible apply resD_tmp); (exact rfl)) | ((with_reducible apply resD_cell_agg); (exact rfl); (exact sh_of rfl); (first | assumption | exact St.setH_self _ _ _ | exact Sep.at_ (i := 0) zq17 rfl | exact Sep.at_ (i := 1) zq17 rfl | exact Sep.at_ (i := 2) zq17 rfl | exact Sep.at_ (i := 3) zq17 rfl | exact Sep.at_ (i := 4) zq17 rfl | exact Sep.at_ (i := 5) zq17 rfl | exact Sep.at_ (i := 6) zq17 rfl); (exact rfl)) | ((with_reducible apply resD_cell); (exact rfl); (exact sh_of rfl); (first | assumption | exact St.setH_self _ _ _ | exact Sep.at_ (i := 0) zq17 rfl | exact Sep.at_ (i := 1) zq17 rfl | exact Sep.at_ (i := 2) zq17 rfl | exact Sep.at_ (i := 3) zq17 rfl | exact Sep.at_ (i := 4) zq17 rfl | exact Sep.at_ (i := 5) zq17 rfl | exact Sep.at_ (i := 6) zq17 rfl); (exact rfl)))); (simp only [resOf]))))
        exact KE.mk st hE hK
end Go.Proofs.ZtLe
namespace Go.Proofs.ZtLe
open Go.RowKit Go.Proofs Go.Proofs.Zm
set_option linter.unusedVariables false
set_option maxHeartbeats 20000000
set_option maxRecDepth 100000
attribute [local irreducible] ZWp ZOps ZPure ZPure0 ZVal ZOp SoundF

/-! ### a law's arguments -/
theorem cells_of {d : D} (h : CellOk (.slice [.int .i64, .int .i64, .slice [.int .u8]]) d) : ∃ l : List CellV, d = .row (cellR l) 3 0 ∧ ∀ c ∈ l, -9223372036854775808 ≤ c.1 ∧ c.1 ≤ 9223372036854775807 ∧ -9223372036854775808 ≤ c.2.1 ∧ c.2.1 ≤ 9223372036854775807 := by
  obtain ⟨xs, rfl, hl, hx⟩ := h.toRow
  obtain ⟨l, rfl, hp⟩ := map_choose cellD (fun c => -9223372036854775808 ≤ c.1 ∧ c.1 ≤ 9223372036854775807 ∧ -9223372036854775808 ≤ c.2.1 ∧ c.2.1 ≤ 9223372036854775807) xs (fun i x h => by
    obtain ⟨d1, x1, rfl, h1, k1⟩ := (hx i x h).cons
    obtain ⟨d2, x2, rfl, h2, k2⟩ := k1.cons
    obtain ⟨d3, x3, rfl, h3, k3⟩ := k2.cons
    obtain rfl := k3.nil
    obtain ⟨n1, rfl, a1, b1⟩ := h1.toInt
    obtain ⟨n2, rfl, a2, b2⟩ := h2.toInt
    obtain ⟨b, rfl, _⟩ := h3.toBytes
    simp [IntKind.min, IntKind.max, IntKind.signed, IntKind.bits] at a1 b1 a2 b2
    exact ⟨(n1, n2, b), rfl, by simp only; omega⟩)
  exact ⟨l, rfl, hp⟩
end Go.Proofs.ZtLe
