/- A part of the proof of StshRooms: walks of the functions that it reaches. No condition. -/
import Derived.Test.YtaiegjgiodlpaaaDoorZtStM
import Derived.Test.YtaiegjgiodlpaaaDoorZmAuto
import Derived.Test.YtaiegjgiodlpaaaDoorZmP2
import Derived.Test.YtaiegjgiodlpaaaDoorZtP5
namespace Go.Proofs.ZtLe
open Go.RowKit Go.Proofs Go.Proofs.Zm
set_option linter.unusedVariables false
set_option linter.unusedSimpArgs false
set_option maxHeartbeats 20000000
set_option maxRecDepth 100000
attribute [local irreducible] ZWp ZOps ZPure ZPure0 ZVal ZOp SoundF

/-! ### StshRooms -/
def thD (cs : List CellV) : List (Int × D) := cs.map fun c => (c.1, .v (.bool true))
theorem lkI_thD (k : Int) : ∀ cs : List CellV, (lkI (thD cs) k).getD (.v (.bool false)) = .v (.bool (findC cs k).isSome)
  | [] => rfl
  | c :: r => by
    show ((if c.1 = k then some (D.v (.bool true)) else lkI (thD r) k).getD _) = _
    unfold findC
    split
    · rfl
    · exact lkI_thD k r
theorem delI_thD (k : Int) : ∀ cs : List CellV, delI (thD cs) k = thD (delC cs k)
  | [] => rfl
  | c :: r => by
    show (if c.1 = k then thD r else (c.1, D.v (.bool true)) :: delI (thD r) k) = _
    unfold delC
    split
    · rfl
    · rw [delI_thD k r]; rfl
theorem setI_thD (x : CellV) : ∀ cs : List CellV, setI (thD cs) x.1 (.v (.bool true)) = thD (setC cs x)
  | [] => rfl
  | c :: r => by
    show (if c.1 = x.1 then (c.1, D.v (.bool true)) :: thD r else (c.1, D.v (.bool true)) :: setI (thD r) x.1 (.v (.bool true))) = _
    unfold setC
    split
    · rename_i h; rw [h]; rfl
    · rw [setI_thD x r]; rfl
@[simp] theorem thD_len (cs : List CellV) : (thD cs).length = cs.length := by simp [thD]
theorem un_th : Tryd.prog.underlying 25 = some (.map 3 4) := by kernel_rfl
theorem bool_zero : ∃ i, Tryd.prog.info? 4 = some i ∧ i.zero = some (.bool false) := by
  have h : (Tryd.prog.info? 4).bind (·.zero) = some (.bool false) := by kernel_rfl
  obtain ⟨i, h1, h2⟩ := Option.bind_eq_some_iff.1 h
  exact ⟨i, h1, h2⟩
theorem setC_mem {x : CellV} : ∀ {cs : List CellV} {c : CellV}, c ∈ setC cs x → c = x ∨ c ∈ cs
  | [], c, h => by
    rcases List.mem_cons.1 h with h | h
    · exact .inl h
    · cases h
  | d :: r, c, h => by
    unfold setC at h
    split at h
    · rcases List.mem_cons.1 h with h | h
      · exact .inl h
      · exact .inr (.tail _ h)
    · rcases List.mem_cons.1 h with h | h
      · exact .inr (by rw [h]; exact .head _)
      · rcases setC_mem h with h | h
        · exact .inl h
        · exact .inr (.tail _ h)
theorem setC_length {x : CellV} : ∀ cs : List CellV, (setC cs x).length = if (findC cs x.1).isSome then cs.length else cs.length + 1
  | [] => rfl
  | d :: r => by
    unfold setC findC
    split
    · rfl
    · simp only [List.length_cons]; rw [setC_length r]; split <;> rfl
theorem setC_nd {x : CellV} : ∀ {cs : List CellV}, cs.Pairwise (fun a b => a.1 ≠ b.1) → (setC cs x).Pairwise (fun a b => a.1 ≠ b.1)
  | [], _ => List.pairwise_singleton _ _
  | d :: r, h => by
    obtain ⟨h1, h2⟩ := List.pairwise_cons.1 h
    unfold setC
    split
    · rename_i e; exact List.pairwise_cons.2 ⟨fun c hc => by rw [← e]; exact h1 c hc, h2⟩
    · rename_i e
      refine List.pairwise_cons.2 ⟨fun c hc => ?_, setC_nd h2⟩
      rcases setC_mem hc with rfl | hc
      · exact e
      · exact h1 c hc
theorem StOk.put {v : StshV} (h : StOk v) {c : CellV} (hp : sputB v c = true) : StOk ⟨v.most, v.size, setC v.cs c⟩ := by
  unfold sputB at hp
  simp only [Bool.and_eq_true, Bool.or_eq_true, decide_eq_true_eq] at hp
  refine ⟨h.m0, h.m1, h.s0, h.s1, ?_, fun d hd => ?_, setC_nd h.nd⟩
  · show ((setC v.cs c).length : Int) ≤ v.most
    have := h.room
    rw [setC_length]
    split
    · omega
    · rename_i e
      rcases hp.2 with q | q
      · exact absurd q e
      · omega
  · rcases setC_mem hd with rfl | hd
    · exact hp.1
    · exact h.all d hd
theorem sput2_snd : SoundF Tryd.prog 8 fun args st K => ∃ (s id : Nat) (v : StshV) (c : CellV) (d : D), args = [.ptr s 0, d] ∧ DLe d (.agg (cellD c)) ∧ IsStsh st s id v ∧ StOk v ∧
    K (.v (.bool (sputB v c))) (if sputB v c then st.setN id (some (mapI .i64 (stD (setC v.cs c)))) else st) :=
  sput_snd.args.weaken fun args st K ⟨s, id, v, c, d, h1, h2, h3, h4, h5⟩ => ⟨_, by rw [h1]; exact .cons (.refl _) (.cons h2 .nil), s, id, v, c, rfl, h3, h4, h5⟩
theorem IsStsh.other {st : St} {s id i2 : Nat} {v : StshV} (h : IsStsh st s id v) (hne : i2 ≠ id) (x : Option (List (Value × D))) : IsStsh (st.setN i2 x) s id v := ⟨h.h, by show (if id = i2 then _ else _) = _; rw [if_neg (Ne.symm hne)]; exact h.n⟩
theorem sputB_no {v : StshV} {c : CellV} (h : okC c v.size = false) : sputB v c = false := by unfold sputB; rw [h]; rfl
theorem nilCell (a b : Int) : DLe (.agg [.v (.int .i64 a), .v (.int .i64 b), .v (.slice none 0 0)]) (.agg (cellD (a, b, []))) := .agg (.cons (.refl _) (.cons (.refl _) (.cons (.nil 1) .nil)))
def roomsSpec : ZSpec := fun args st K => ∃ (most : Int) (l : List Int) (tk : Nat), args = [.v (.int .i64 most), .row (intR l) 1 tk] ∧ l.length ≤ 4611686018427387904 ∧ K (.v (.bool true)) st
theorem rooms_snd : SoundF Tryd.prog 3 roomsSpec := by
  refine sound_ofA Tryd.func3 rfl Tryd.results3 ?_
  rintro w0 args st K ⟨most, l, tk, rfl, hl, hK⟩
  rw [Tryd.ntmps3]; refine ⟨by simp, ?_⟩
  have hS := Sep.nil st
  obtain ⟨zi, hzi, hzz⟩ := bool_zero
  (repeat (first | ((with_reducible apply zr_seq)) | ((with_reducible apply zr_region); (try simp only [List.append_eq, List.cons_append, List.nil_append])) | ((with_reducible apply zo_end)) | ((with_reducible apply zs_move); (exact rfl); (exact rfl)) | ((with_reducible apply zs_assign); (exact rfl); (exact rfl)) | ((with_reducible apply (zs_mask (p := 8) 3)); (exact rfl); (exact rfl); (exact rfl); (exact rfl); (decide); (decide); (decide)) | ((with_reducible apply zs_call snew_snd cl_6); (exact rfl); (exact rfl); ((try simp only [List.append_nil]); first | exact Ups.nilrow 1 (Ups.nilrow 1 (Ups.nilrow 1 (Ups.refl _))) | exact Ups.nilrow 1 (Ups.nilrow 1 (Ups.refl _)) | exact Ups.same (Ups.nilrow 1 (Ups.nilrow 1 (Ups.refl _))) | exact Ups.nilrow 1 (Ups.same (Ups.nilrow 1 (Ups.refl _))) | exact Ups.nilrow 1 (Ups.refl _) | exact Ups.same (Ups.nilrow 1 (Ups.refl _)) | exact Ups.same (Ups.same (Ups.nilrow 1 (Ups.refl _))) | exact Ups.refl _))))
  refine ⟨_, _, rfl, fun s id s1 hE hs hn hI => ?_⟩
  rw [show (min (max (most % 8 : Int) 0) 10000) = most % 8 by omega, show (min (max (1 : Int) 0) 60000) = 1 from rfl] at hI
  obtain ⟨mo, hmo⟩ : ∃ mo, mo = most % 8 := ⟨_, rfl⟩
  have hm0 : 0 ≤ mo ∧ mo ≤ 7 := by omega
  rw [← hmo] at hI ⊢
  (repeat (first | ((with_reducible apply zr_seq)) | ((with_reducible apply zr_region); (try simp only [List.append_eq, List.cons_append, List.nil_append])) | ((with_reducible apply zo_end)) | ((with_reducible apply zs_move); (exact rfl); (exact rfl)) | ((with_reducible apply zs_assign); (exact rfl); (exact rfl)) | ((with_reducible apply zr_cond_f); (exact rfl); (first | assumption | exact rfl)) | ((with_reducible apply zr_skip')) | ((with_reducible apply zs_peq_ptr); (exact rfl); (exact rfl); (exact un_ptr rfl))))
  (try ((with_reducible apply zs_yes); exact rfl; exact rfl; (first | assumption | exact rfl))); refine zo_val rfl rfl (by decide) (zv_makeMap rfl fun i2 hi2 => ?_)
  have hne : i2 ≠ id := fun e => by
    have h1 := hi2.1
    rw [e, hI.n] at h1; cases h1
  have hn2 : st.N i2 = none := hE.noneN hi2.1
  have hE2 := hE.setNew hn2 (some (mapI .i64 (thD [])))
  have hI2 : IsStsh (s1.setN i2 (some (mapI .i64 (thD [])))) s id ⟨mo, 1, []⟩ := ⟨hI.h, by show (if id = i2 then _ else _) = _; rw [if_neg (Ne.symm hne)]; exact hI.n⟩
  have ht2 : (s1.setN i2 (some (mapI .i64 (thD [])))).N i2 = some (mapI .i64 (thD [])) := setN_self _ _ _
  rw [show (some [] : Option (List (Value × D))) = some (mapI .i64 (thD [])) from rfl]
  generalize s1.setN i2 (some (mapI .i64 (thD []))) = s2 at *
  have hok0 : StOk ⟨mo, 1, []⟩ := ⟨hm0.1, by show mo ≤ 10000; omega, (by decide : (0 : Int) ≤ 1), (by decide : (1 : Int) ≤ 60000), hm0.1, fun c h => (by cases h), List.Pairwise.nil⟩
  clear hE hI hi2
  (repeat (first | ((with_reducible apply zr_seq)) | ((with_reducible apply zr_region); (try simp only [List.append_eq, List.cons_append, List.nil_append])) | ((with_reducible apply zo_end)) | ((with_reducible apply zs_assign); (exact rfl); (exact rfl)) | ((with_reducible apply zr_block))))
  refine zr_loopK [0, 1, 5, 6] (fun m e s' => ∃ (i : Nat) (cs : List CellV), m + i = l.length ∧ e = [(7, .v (.int .i64 (i : Nat)))] ∧ Ext st s' ∧ IsStsh s' s id ⟨mo, 1, cs⟩ ∧ s'.N i2 = some (mapI .i64 (thD cs)) ∧ StOk ⟨mo, 1, cs⟩) l.length _ zq8
    ⟨0, [], by simp, rfl, hE2, hI2, ht2, hok0⟩ zq10 ?_
  rintro m e s' ⟨i, cs, hm, rfl, hE, hI, ht, hok⟩
  replace hS := Sep.nil s'
  (repeat (first | ((with_reducible apply zr_seq)) | ((with_reducible apply zr_region); (try simp only [List.append_eq, List.cons_append, List.nil_append])) | ((with_reducible apply zo_end)) | ((with_reducible apply zs_move); (exact rfl); (exact rfl)) | ((with_reducible apply zs_lss); (exact rfl); (exact rfl); (exact rfl)) | ((with_reducible apply zs_len); (exact rfl); (exact rfl); (exact un_sl rfl)) | ((with_reducible apply zs_and); (exact rfl); (exact rfl); (intro hp_; first | exact congrArg some (gd_t hp_) | exact rfl); (exact rfl)) | ((with_reducible apply (zs_h_move [82, 83, 84, 85, 88, 89, 90, 91, 92, 95, 96, 97, 98, 99, 102, 103, 104, 105, 106, 107, 108])); (exact rfl); (first | exact GC.t rfl rfl | exact GC.f rfl rfl | exact GC.gt rfl rfl | exact GC.gf rfl rfl); (exact rfl); (intro hc_; first | exact congrArg some (gd_t hc_) | exact congrArg some (gd_t (band_l hc_)) | exact congrArg some (gd_t (band_l (band_l hc_))) | exact rfl)) | ((with_reducible apply (zs_h_lss [82, 83, 84, 85, 88, 89, 90, 91, 92, 95, 96, 97, 98, 99, 102, 103, 104, 105, 106, 107, 108])); (exact rfl); (first | exact GC.t rfl rfl | exact GC.f rfl rfl | exact GC.gt rfl rfl | exact GC.gf rfl rfl); (exact rfl); (intro hc_; first | exact congrArg some (gd_t hc_) | exact congrArg some (gd_t (band_l hc_)) | exact congrArg some (gd_t (band_l (band_l hc_))) | exact rfl); (intro hc_; first | exact congrArg some (gd_t hc_) | exact congrArg some (gd_t (band_l hc_)) | exact congrArg some (gd_t (band_l (band_l hc_))) | exact rfl))))
  (first | refine zr_cond rfl (fun h => ?_) (fun h => ?_) | refine zs_split rfl rfl (fun h => ?_) (fun h => ?_)) <;> have h' := h <;> (try simp only [decide_eq_true_eq, decide_eq_false_iff_not, Bool.and_eq_true, Bool.or_eq_true, Bool.and_eq_false_iff, Bool.or_eq_false_iff, Bool.not_eq_true', Bool.not_eq_false', Bool.not_eq_true, Bool.not_eq_false, Int.not_le, Int.not_lt, Classical.not_not, Decidable.not_not, ne_eq, beq_iff_eq, bne_iff_ne] at h')
  · rw [intR_length] at h'
    have hlt : i < l.length := by omega
    have hkg : (intR l).getD i [] = [.v (.int .i64 (l.getD i 0))] := by unfold intR; rw [List.getD_eq_getElem?_getD, List.getElem?_map, List.getElem?_eq_getElem hlt, getD_in hlt]; rfl
    have hrl : (intR l).length = l.length := intR_length l
    generalize l.getD i 0 = x at *
    (repeat (first | ((with_reducible apply zr_seq)) | ((with_reducible apply zr_region); (try simp only [List.append_eq, List.cons_append, List.nil_append])) | ((with_reducible apply zo_end)) | ((with_reducible apply zs_move); (exact rfl); (exact rfl)) | ((with_reducible apply zs_assign); (exact rfl); (exact rfl)) | ((with_reducible apply zs_eql); (exact rfl); (exact rfl); (exact rfl)) | ((with_reducible apply zs_add); (exact rfl); (exact rfl); (exact rfl); (first | (with_reducible assumption) | exact wrap_in64 (by omega) (by omega))) | ((with_reducible apply zr_block)) | ((with_reducible apply zr_skip')) | ((with_reducible apply zs_load_ref); (exact rfl); (exact rfl); (exact sh_of rfl); (exact rfl)) | ((with_reducible apply (zs_mask (p := 16) 4)); (exact rfl); (exact rfl); (exact rfl); (exact rfl); (decide); (decide); (decide)) | ((with_reducible apply (zs_mask (p := 4) 2)); (exact rfl); (exact rfl); (exact rfl); (exact rfl); (decide); (decide); (decide)) | ((with_reducible apply (zs_shr (p := 16))); (exact rfl); (exact rfl); (decide); (exact rfl); (decide)) | ((with_reducible apply zs_idxE); (exact rfl); (exact rfl); (exact rfl); (exact un_sl rfl); (exact ii_of rfl); (first | omega | (simp only [List.length_map, List.length_take, List.length_drop, List.length_append, List.length_cons, List.length_nil, List.length_replicate, rowR_length, intR_length, msgR_length, pairR_length, cellR_length]; omega) | decide); (first | omega | (simp only [List.length_map, List.length_take, List.length_drop, List.length_append, List.length_cons, List.length_nil, List.length_replicate, rowR_length, intR_length, msgR_length, pairR_length, cellR_length]; omega) | decide); (first | (with_reducible exact Int.toNat_natCast _) | (simp only [Int.reduceToNat]; exact rfl) | exact rfl); (assumption))))
    (try rw [hkg])
    skip
    obtain ⟨k, hk⟩ : ∃ k, k = x % 16 + 1 := ⟨_, rfl⟩
    have hkb : 1 ≤ k ∧ k ≤ 16 := by omega
    rw [← hk]
    refine zr_cutK [0, 1, 5, 6, 7, 8] (fun e s' => ∃ cs : List CellV, e = [] ∧ Ext st s' ∧ IsStsh s' s id ⟨mo, 1, cs⟩ ∧ s'.N i2 = some (mapI .i64 (thD cs)) ∧ StOk ⟨mo, 1, cs⟩) zq8 ?_ ?_
    · by_cases hb : x / 16 % 4 = 0
      · have g1 : decide (x / 16 % 4 = 0) = true := decide_eq_true hb
        rw [g1]
        (repeat (first | ((with_reducible apply zr_seq)) | ((with_reducible apply zr_region); (try simp only [List.append_eq, List.cons_append, List.nil_append])) | ((with_reducible apply zs_move); (exact rfl); (exact rfl)) | ((with_reducible apply zr_cond_t); (exact rfl); (first | assumption | exact rfl)) | ((with_reducible apply zs_call take_snd cl_7); (exact rfl); (exact rfl); ((try simp only [List.append_nil]); first | exact Ups.nilrow 1 (Ups.nilrow 1 (Ups.nilrow 1 (Ups.refl _))) | exact Ups.nilrow 1 (Ups.nilrow 1 (Ups.refl _)) | exact Ups.same (Ups.nilrow 1 (Ups.nilrow 1 (Ups.refl _))) | exact Ups.nilrow 1 (Ups.same (Ups.nilrow 1 (Ups.refl _))) | exact Ups.nilrow 1 (Ups.refl _) | exact Ups.same (Ups.nilrow 1 (Ups.refl _)) | exact Ups.same (Ups.same (Ups.nilrow 1 (Ups.refl _))) | exact Ups.refl _))))
        refine ⟨s, id, ⟨mo, 1, cs⟩, k, rfl, hI, ?_⟩
        have hI3 := hI.set (delC cs k)
        have hE3 := hE.setNew hn (some (mapI .i64 (stD (delC cs k))))
        have ht3 : (s'.setN id (some (mapI .i64 (stD (delC cs k))))).N i2 = some (mapI .i64 (thD cs)) := by show (if i2 = id then _ else _) = _; rw [if_neg hne]; exact ht
        have hok3 := hok.del k
        refine (show ZOps _ _ _ _ _ _ _ _ from ?_)
        generalize s'.setN id (some (mapI .i64 (stD (delC cs k)))) = s3 at *
        clear hS
        have hS := Sep.nil s3
        have hf : ((findC cs k).isSome != (findC cs k).isSome) = false := by simp
        (repeat (first | ((with_reducible apply zr_seq)) | ((with_reducible apply zr_region); (try simp only [List.append_eq, List.cons_append, List.nil_append])) | ((with_reducible apply zo_end)) | ((with_reducible apply zs_move); (exact rfl); (exact rfl)) | ((with_reducible apply zs_assign); (exact rfl); (exact rfl)) | ((with_reducible apply zs_extract); (exact rfl); (exact rfl); (exact rfl)) | ((with_reducible apply (zs_allocRef (t := 9))); (exact el_of rfl); (simp [oneD, Value.oneCell']); (exact sh_of rfl); (exact rfl); (intro _; exact rfl); (exact rfl); (simp [cellsD, oneD, Value.oneCell', msgD, nodeD, pairD, cellD]))))
        (try ((with_reducible apply zs_yes); exact rfl; exact rfl; (first | assumption | exact rfl))); refine zo_val rfl rfl (by decide) (zv_look rfl un_th (un_int rfl) hzi hzz (fun _ => .v _) rfl rfl (hS.ext.N i2 _ ht3) ?_)
        rw [lkI_thD]
        (repeat (first | ((with_reducible apply zr_region); (try simp only [List.append_eq, List.cons_append, List.nil_append])) | ((with_reducible apply zo_end)) | ((with_reducible apply zs_move); (exact rfl); (exact rfl)) | ((with_reducible apply zr_cond_f); (exact rfl); (first | assumption | exact rfl)) | ((with_reducible apply zr_skip')) | ((with_reducible apply zs_bne); (exact rfl); (exact rfl); (exact rfl); (exact Tryd.underlying4))))
        refine zo_cons rfl (zop_mapDel rfl rfl un_th (un_int rfl) rfl rfl (hS.ext.N i2 _ ht3) ?_)
        rw [delI_thD]
        (repeat (first | ((with_reducible apply zo_end))))
        exact ⟨_, ⟨delC cs k, rfl, hE3.setNew hn2 _, IsStsh.other hI3 hne _, setN_self _ _ _, hok3⟩, zq10, zq10⟩
      · have g1 : decide (x / 16 % 4 = 0) = false := decide_eq_false hb
        rw [g1]
        (repeat (first | ((with_reducible apply zr_seq)) | ((with_reducible apply zr_region); (try simp only [List.append_eq, List.cons_append, List.nil_append])) | ((with_reducible apply zs_move); (exact rfl); (exact rfl)) | ((with_reducible apply zr_cond_f); (exact rfl); (first | assumption | exact rfl))))
        (try ((with_reducible apply zs_yes); exact rfl; exact rfl; (first | assumption | exact rfl))); refine zo_pure0 rfl rfl (by decide) (zp_conv rfl rfl (by exact un_int rfl) (by exact un_int rfl) (wrap_u8 _)) ?_
        (repeat (first | ((with_reducible apply zs_build); (exact rfl); (exact el_of rfl); (exact st_of rfl); (exact rfl); (first | (simp only [fillD, cellsD, cells_orow, List.take_zero, List.take_succ_cons, List.take_nil, List.drop_succ_cons, List.drop_zero, List.drop_nil, List.nil_append, List.cons_append, List.append_nil, Nat.zero_add, Nat.reduceAdd, List.length_cons, List.length_nil]; exact rfl) | ((repeat (apply fillD_cons; exact rfl; (first | exact rfl | simp [cells_orow]); (exact Nat.le_of_ble_eq_true rfl); (simp only [cells_orow, cD_int, cD_bool, cD_float, cD_nil, cD_ptr0, cD_str, cD_row, cD_mrow, cD_ptr, cD_ref, cD_fn, cD_agg, List.take_zero, List.take_succ_cons, List.take_nil, List.drop_succ_cons, List.drop_zero, List.drop_nil, List.nil_append, List.cons_append, List.append_nil, Nat.zero_add, Nat.reduceAdd]; exact rfl))); exact rfl) | exact rfl)) | ((with_reducible apply (zs_lit (t := 60) [.tmp 59])); (exact rfl); (exact rfl); (exact rfl); (exact rfl); (exact un_sl rfl); (exact el_of rfl); (simp only [List.map_cons, List.map_nil, cellsD]; exact rfl); ((repeat (first | exact lit_nil | (apply lit_cons; exact rfl; (repeat (first | exact one_nil | (apply one_cons; (first | exact rfl | exact one_orow _ _ _)))))))); (decide)) | ((with_reducible apply zs_call sput2_snd cl_8); (exact rfl); (exact rfl); ((try simp only [List.append_nil]); first | exact Ups.nilrow 1 (Ups.nilrow 1 (Ups.nilrow 1 (Ups.refl _))) | exact Ups.nilrow 1 (Ups.nilrow 1 (Ups.refl _)) | exact Ups.same (Ups.nilrow 1 (Ups.nilrow 1 (Ups.refl _))) | exact Ups.nilrow 1 (Ups.same (Ups.nilrow 1 (Ups.refl _))) | exact Ups.nilrow 1 (Ups.refl _) | exact Ups.same (Ups.nilrow 1 (Ups.refl _)) | exact Ups.same (Ups.same (Ups.nilrow 1 (Ups.refl _))) | exact Ups.refl _))))
        refine ⟨s, id, ⟨mo, 1, cs⟩, (k, (i : Nat), [UInt8.ofNat ((i : Int) % 256).toNat]), _, rfl, by rw [byte1]; exact .refl _, hI, hok, ?_⟩
        have hput : sputB ⟨mo, 1, cs⟩ (k, (i : Nat), [UInt8.ofNat ((i : Int) % 256).toNat]) = ((findC cs k).isSome || decide ((cs.length : Int) < mo)) := by
          unfold sputB okC
          simp only [List.length_cons, List.length_nil]
          rw [decide_eq_true (show 1 ≤ k by omega), decide_eq_true (show k ≤ 2147483647 by omega), decide_eq_true (show (0 : Int) ≤ (i : Nat) by omega), decide_eq_true (show ((i : Nat) : Int) ≤ 2147483647 by omega)]
          rfl
        have hcv1 : (k, (i : Int), [UInt8.ofNat ((i : Int) % 256).toNat]).1 = k := rfl
        generalize (k, (i : Int), [UInt8.ofNat ((i : Int) % 256).toNat]) = cv at *
        cases hsm : (findC cs k).isSome with
        | true =>
          have hpt : sputB ⟨mo, 1, cs⟩ cv = true := by rw [hput, hsm]; rfl
          rw [hpt, if_pos rfl]
          have hI3 := hI.set (setC cs cv)
          have hE3 := hE.setNew hn (some (mapI .i64 (stD (setC cs cv))))
          have ht3 : (s'.setN id (some (mapI .i64 (stD (setC cs cv))))).N i2 = some (mapI .i64 (thD cs)) := by show (if i2 = id then _ else _) = _; rw [if_neg hne]; exact ht
          have hok3 := hok.put hpt
          refine (show ZOps _ _ _ _ _ _ _ _ from ?_)
          generalize s'.setN id (some (mapI .i64 (stD (setC cs cv)))) = s3 at *
          clear hS
          have hS := Sep.nil s3
          (repeat (first | ((with_reducible apply zr_seq)) | ((with_reducible apply zr_region); (try simp only [List.append_eq, List.cons_append, List.nil_append])) | ((with_reducible apply zo_end)) | ((with_reducible apply zs_move); (exact rfl); (exact rfl)) | ((with_reducible apply zs_assign); (exact rfl); (exact rfl))))
          (try ((with_reducible apply zs_yes); exact rfl; exact rfl; (first | assumption | exact rfl))); refine zo_val rfl rfl (by decide) (zv_look rfl un_th (un_int rfl) hzi hzz (fun _ => .v _) rfl rfl (hS.ext.N i2 _ ht3) ?_)
          rw [lkI_thD, hsm]
          (repeat (first | ((with_reducible apply zr_seq)) | ((with_reducible apply zr_region); (try simp only [List.append_eq, List.cons_append, List.nil_append])) | ((with_reducible apply zo_end)) | ((with_reducible apply zs_noU); (exact rfl); (exact rfl); (first | assumption | exact rfl | (simp only [Bool.not_false, Bool.not_true]; assumption)); (exact rfl)) | ((with_reducible apply zs_move); (exact rfl); (exact rfl)) | ((with_reducible apply zs_pick_t); (exact rfl); (exact rfl); (first | assumption | exact rfl); (exact rfl)) | ((with_reducible apply zr_cond_t); (exact rfl); (first | assumption | exact rfl)) | ((with_reducible apply zr_cond_f); (exact rfl); (first | assumption | exact rfl)) | ((with_reducible apply zr_skip')) | ((with_reducible apply zs_bne); (exact rfl); (exact rfl); (exact rfl); (exact Tryd.underlying4))))
          refine zo_cons rfl (zop_mapSet rfl rfl un_th (un_int rfl) rfl rfl rfl (hS.ext.N i2 _ ht3) ?_)
          rw [show setI (thD cs) k (.v (.bool true)) = thD (setC cs cv) by rw [← hcv1]; exact setI_thD cv cs]
          (repeat (first | ((with_reducible apply zo_end))))
          exact ⟨_, ⟨_, rfl, hE3.setNew hn2 _, IsStsh.other hI3 hne _, setN_self _ _ _, hok3⟩, zq10, zq10⟩
        | false =>
          by_cases hlm : (cs.length : Int) < mo
          · have hpt : sputB ⟨mo, 1, cs⟩ cv = true := by rw [hput, hsm, decide_eq_true hlm]; rfl
            have gl : decide ((cs.length : Int) < mo) = true := decide_eq_true hlm
            rw [hpt, if_pos rfl]
            have hI3 := hI.set (setC cs cv)
            have hE3 := hE.setNew hn (some (mapI .i64 (stD (setC cs cv))))
            have ht3 : (s'.setN id (some (mapI .i64 (stD (setC cs cv))))).N i2 = some (mapI .i64 (thD cs)) := by show (if i2 = id then _ else _) = _; rw [if_neg hne]; exact ht
            have hok3 := hok.put hpt
            refine (show ZOps _ _ _ _ _ _ _ _ from ?_)
            generalize s'.setN id (some (mapI .i64 (stD (setC cs cv)))) = s3 at *
            clear hS
            have hS := Sep.nil s3
            (repeat (first | ((with_reducible apply zr_seq)) | ((with_reducible apply zr_region); (try simp only [List.append_eq, List.cons_append, List.nil_append])) | ((with_reducible apply zo_end)) | ((with_reducible apply zs_move); (exact rfl); (exact rfl)) | ((with_reducible apply zs_assign); (exact rfl); (exact rfl))))
            (try ((with_reducible apply zs_yes); exact rfl; exact rfl; (first | assumption | exact rfl))); refine zo_val rfl rfl (by decide) (zv_look rfl un_th (un_int rfl) hzi hzz (fun _ => .v _) rfl rfl (hS.ext.N i2 _ ht3) ?_)
            rw [lkI_thD, hsm]
            (repeat (first | ((with_reducible apply zs_yes); (exact rfl); (exact rfl); (first | assumption | exact rfl)) | ((with_reducible apply zs_move); (exact rfl); (exact rfl))))
            (try ((with_reducible apply zs_yes); exact rfl; exact rfl; (first | assumption | exact rfl))); refine zo_val rfl rfl (by decide) (zv_mapLen rfl un_th rfl (hS.ext.N i2 _ ht3) ?_)
            rw [mapI_len, thD_len]
            (repeat (first | ((with_reducible apply zo_end)) | ((with_reducible apply zs_yes); (exact rfl); (exact rfl); (first | assumption | exact rfl)) | ((with_reducible apply zs_move); (exact rfl); (exact rfl)) | ((with_reducible apply zs_lss); (exact rfl); (exact rfl); (exact rfl)) | ((with_reducible apply zs_pick_f); (exact rfl); (exact rfl); (first | assumption | exact rfl); (exact rfl)) | ((with_reducible apply zs_bne); (exact rfl); (exact rfl); (exact rfl); (exact Tryd.underlying4))))
            rw [gl]
            (repeat (first | ((with_reducible apply zr_seq)) | ((with_reducible apply zr_region); (try simp only [List.append_eq, List.cons_append, List.nil_append])) | ((with_reducible apply zo_end)) | ((with_reducible apply zs_move); (exact rfl); (exact rfl)) | ((with_reducible apply zr_cond_t); (exact rfl); (first | assumption | exact rfl)) | ((with_reducible apply zr_cond_f); (exact rfl); (first | assumption | exact rfl)) | ((with_reducible apply zr_skip'))))
            refine zo_cons rfl (zop_mapSet rfl rfl un_th (un_int rfl) rfl rfl rfl (hS.ext.N i2 _ ht3) ?_)
            rw [show setI (thD cs) k (.v (.bool true)) = thD (setC cs cv) by rw [← hcv1]; exact setI_thD cv cs]
            (repeat (first | ((with_reducible apply zo_end))))
            exact ⟨_, ⟨_, rfl, hE3.setNew hn2 _, IsStsh.other hI3 hne _, setN_self _ _ _, hok3⟩, zq10, zq10⟩
          · have hpt : sputB ⟨mo, 1, cs⟩ cv = false := by rw [hput, hsm, decide_eq_false hlm]; rfl
            have gl : decide ((cs.length : Int) < mo) = false := decide_eq_false hlm
            rw [hpt, if_neg Bool.false_ne_true]
            refine (show ZOps _ _ _ _ _ _ _ _ from ?_)
            (repeat (first | ((with_reducible apply zr_seq)) | ((with_reducible apply zr_region); (try simp only [List.append_eq, List.cons_append, List.nil_append])) | ((with_reducible apply zo_end)) | ((with_reducible apply zs_move); (exact rfl); (exact rfl)) | ((with_reducible apply zs_assign); (exact rfl); (exact rfl))))
            (try ((with_reducible apply zs_yes); exact rfl; exact rfl; (first | assumption | exact rfl))); refine zo_val rfl rfl (by decide) (zv_look rfl un_th (un_int rfl) hzi hzz (fun _ => .v _) rfl rfl (hS.ext.N i2 _ ht) ?_)
            rw [lkI_thD, hsm]
            (repeat (first | ((with_reducible apply zs_yes); (exact rfl); (exact rfl); (first | assumption | exact rfl)) | ((with_reducible apply zs_move); (exact rfl); (exact rfl))))
            (try ((with_reducible apply zs_yes); exact rfl; exact rfl; (first | assumption | exact rfl))); refine zo_val rfl rfl (by decide) (zv_mapLen rfl un_th rfl (hS.ext.N i2 _ ht) ?_)
            rw [mapI_len, thD_len]
            (repeat (first | ((with_reducible apply zo_end)) | ((with_reducible apply zs_yes); (exact rfl); (exact rfl); (first | assumption | exact rfl)) | ((with_reducible apply zs_move); (exact rfl); (exact rfl)) | ((with_reducible apply zs_lss); (exact rfl); (exact rfl); (exact rfl)) | ((with_reducible apply zs_pick_f); (exact rfl); (exact rfl); (first | assumption | exact rfl); (exact rfl)) | ((with_reducible apply zs_bne); (exact rfl); (exact rfl); (exact rfl); (exact Tryd.underlying4))))
            rw [gl]
            (repeat (first | ((with_reducible apply zr_seq)) | ((with_reducible apply zr_region); (try simp only [List.append_eq, List.cons_append, List.nil_append])) | ((with_reducible apply zo_end)) | ((with_reducible apply zs_move); (exact rfl); (exact rfl)) | ((with_reducible apply zr_cond_f); (exact rfl); (first | assumption | exact rfl)) | ((with_reducible apply zr_skip'))))
            exact ⟨_, ⟨_, rfl, hE, hI, ht, hok⟩, zq10, zq10⟩
    rintro e s' ⟨cs, rfl, hE, hI, ht, hok⟩
    (repeat (first | ((with_reducible apply zr_seq)) | ((with_reducible apply zr_region); (try simp only [List.append_eq, List.cons_append, List.nil_append])) | ((with_reducible apply zs_move); (exact rfl); (exact rfl)) | ((with_reducible apply zs_build); (exact rfl); (exact el_of rfl); (exact st_of rfl); (exact rfl); (first | (simp only [fillD, cellsD, cells_orow, List.take_zero, List.take_succ_cons, List.take_nil, List.drop_succ_cons, List.drop_zero, List.drop_nil, List.nil_append, List.cons_append, List.append_nil, Nat.zero_add, Nat.reduceAdd, List.length_cons, List.length_nil]; exact rfl) | ((repeat (apply fillD_cons; exact rfl; (first | exact rfl | simp [cells_orow]); (exact Nat.le_of_ble_eq_true rfl); (simp only [cells_orow, cD_int, cD_bool, cD_float, cD_nil, cD_ptr0, cD_str, cD_row, cD_mrow, cD_ptr, cD_ref, cD_fn, cD_agg, List.take_zero, List.take_succ_cons, List.take_nil, List.drop_succ_cons, List.drop_zero, List.drop_nil, List.nil_append, List.cons_append, List.append_nil, Nat.zero_add, Nat.reduceAdd]; exact rfl))); exact rfl) | exact rfl)) | ((with_reducible apply zs_call sput2_snd cl_8); (exact rfl); (exact rfl); ((try simp only [List.append_nil]); first | exact Ups.nilrow 1 (Ups.nilrow 1 (Ups.nilrow 1 (Ups.refl _))) | exact Ups.nilrow 1 (Ups.nilrow 1 (Ups.refl _)) | exact Ups.same (Ups.nilrow 1 (Ups.nilrow 1 (Ups.refl _))) | exact Ups.nilrow 1 (Ups.same (Ups.nilrow 1 (Ups.refl _))) | exact Ups.nilrow 1 (Ups.refl _) | exact Ups.same (Ups.nilrow 1 (Ups.refl _)) | exact Ups.same (Ups.same (Ups.nilrow 1 (Ups.refl _))) | exact Ups.refl _))))
    refine ⟨s, id, ⟨mo, 1, cs⟩, (k, 0, []), _, rfl, nilCell _ _, hI, hok, ?_⟩
    rw [sputB_no (by unfold okC; simp), if_neg Bool.false_ne_true]
    refine (show ZOps _ _ _ _ _ _ _ _ from ?_)
    (repeat (first | ((with_reducible apply zs_yes); (exact rfl); (exact rfl); (first | assumption | exact rfl)) | ((with_reducible apply zs_move); (exact rfl); (exact rfl)) | ((with_reducible apply zs_build); (exact rfl); (exact el_of rfl); (exact st_of rfl); (exact rfl); (first | (simp only [fillD, cellsD, cells_orow, List.take_zero, List.take_succ_cons, List.take_nil, List.drop_succ_cons, List.drop_zero, List.drop_nil, List.nil_append, List.cons_append, List.append_nil, Nat.zero_add, Nat.reduceAdd, List.length_cons, List.length_nil]; exact rfl) | ((repeat (apply fillD_cons; exact rfl; (first | exact rfl | simp [cells_orow]); (exact Nat.le_of_ble_eq_true rfl); (simp only [cells_orow, cD_int, cD_bool, cD_float, cD_nil, cD_ptr0, cD_str, cD_row, cD_mrow, cD_ptr, cD_ref, cD_fn, cD_agg, List.take_zero, List.take_succ_cons, List.take_nil, List.drop_succ_cons, List.drop_zero, List.drop_nil, List.nil_append, List.cons_append, List.append_nil, Nat.zero_add, Nat.reduceAdd]; exact rfl))); exact rfl) | exact rfl)) | ((with_reducible apply (zs_lit (t := 83) [.const (.int .u8 1)])); (exact rfl); (exact rfl); (exact rfl); (exact rfl); (exact un_sl rfl); (exact el_of rfl); (simp only [List.map_cons, List.map_nil, cellsD]; exact rfl); ((repeat (first | exact lit_nil | (apply lit_cons; exact rfl; (repeat (first | exact one_nil | (apply one_cons; (first | exact rfl | exact one_orow _ _ _)))))))); (decide)) | ((with_reducible apply zs_call sput2_snd cl_8); (exact rfl); (exact rfl); ((try simp only [List.append_nil]); first | exact Ups.nilrow 1 (Ups.nilrow 1 (Ups.nilrow 1 (Ups.refl _))) | exact Ups.nilrow 1 (Ups.nilrow 1 (Ups.refl _)) | exact Ups.same (Ups.nilrow 1 (Ups.nilrow 1 (Ups.refl _))) | exact Ups.nilrow 1 (Ups.same (Ups.nilrow 1 (Ups.refl _))) | exact Ups.nilrow 1 (Ups.refl _) | exact Ups.same (Ups.nilrow 1 (Ups.refl _)) | exact Ups.same (Ups.same (Ups.nilrow 1 (Ups.refl _))) | exact Ups.refl _))))
    refine ⟨s, id, ⟨mo, 1, cs⟩, (0, 0, [1]), _, rfl, .refl _, hI, hok, ?_⟩
    rw [sputB_no (by unfold okC; simp), if_neg Bool.false_ne_true]
    refine (show ZOps _ _ _ _ _ _ _ _ from ?_)
    (repeat (first | ((with_reducible apply zs_yes); (exact rfl); (exact rfl); (first | assumption | exact rfl)) | ((with_reducible apply zs_move); (exact rfl); (exact rfl)) | ((with_reducible apply zs_pick_f); (exact rfl); (exact rfl); (first | assumption | exact rfl); (exact rfl)) | ((with_reducible apply zs_build); (exact rfl); (exact el_of rfl); (exact st_of rfl); (exact rfl); (first | (simp only [fillD, cellsD, cells_orow, List.take_zero, List.take_succ_cons, List.take_nil, List.drop_succ_cons, List.drop_zero, List.drop_nil, List.nil_append, List.cons_append, List.append_nil, Nat.zero_add, Nat.reduceAdd, List.length_cons, List.length_nil]; exact rfl) | ((repeat (apply fillD_cons; exact rfl; (first | exact rfl | simp [cells_orow]); (exact Nat.le_of_ble_eq_true rfl); (simp only [cells_orow, cD_int, cD_bool, cD_float, cD_nil, cD_ptr0, cD_str, cD_row, cD_mrow, cD_ptr, cD_ref, cD_fn, cD_agg, List.take_zero, List.take_succ_cons, List.take_nil, List.drop_succ_cons, List.drop_zero, List.drop_nil, List.nil_append, List.cons_append, List.append_nil, Nat.zero_add, Nat.reduceAdd]; exact rfl))); exact rfl) | exact rfl)) | ((with_reducible apply (zs_lit (t := 90) [.const (.int .u8 1)])); (exact rfl); (exact rfl); (exact rfl); (exact rfl); (exact un_sl rfl); (exact el_of rfl); (simp only [List.map_cons, List.map_nil, cellsD]; exact rfl); ((repeat (first | exact lit_nil | (apply lit_cons; exact rfl; (repeat (first | exact one_nil | (apply one_cons; (first | exact rfl | exact one_orow _ _ _)))))))); (decide)) | ((with_reducible apply zs_call sput2_snd cl_8); (exact rfl); (exact rfl); ((try simp only [List.append_nil]); first | exact Ups.nilrow 1 (Ups.nilrow 1 (Ups.nilrow 1 (Ups.refl _))) | exact Ups.nilrow 1 (Ups.nilrow 1 (Ups.refl _)) | exact Ups.same (Ups.nilrow 1 (Ups.nilrow 1 (Ups.refl _))) | exact Ups.nilrow 1 (Ups.same (Ups.nilrow 1 (Ups.refl _))) | exact Ups.nilrow 1 (Ups.refl _) | exact Ups.same (Ups.nilrow 1 (Ups.refl _)) | exact Ups.same (Ups.same (Ups.nilrow 1 (Ups.refl _))) | exact Ups.refl _))))
    refine ⟨s, id, ⟨mo, 1, cs⟩, (k, -1, [1]), _, rfl, .refl _, hI, hok, ?_⟩
    rw [sputB_no (by unfold okC; simp), if_neg Bool.false_ne_true]
    refine (show ZOps _ _ _ _ _ _ _ _ from ?_)
    (repeat (first | ((with_reducible apply zs_yes); (exact rfl); (exact rfl); (first | assumption | exact rfl)) | ((with_reducible apply zs_move); (exact rfl); (exact rfl)) | ((with_reducible apply zs_pick_f); (exact rfl); (exact rfl); (first | assumption | exact rfl); (exact rfl)) | ((with_reducible apply zs_call slen_snd cl_9); (exact rfl); (exact rfl); ((try simp only [List.append_nil]); first | exact Ups.nilrow 1 (Ups.nilrow 1 (Ups.nilrow 1 (Ups.refl _))) | exact Ups.nilrow 1 (Ups.nilrow 1 (Ups.refl _)) | exact Ups.same (Ups.nilrow 1 (Ups.nilrow 1 (Ups.refl _))) | exact Ups.nilrow 1 (Ups.same (Ups.nilrow 1 (Ups.refl _))) | exact Ups.nilrow 1 (Ups.refl _) | exact Ups.same (Ups.nilrow 1 (Ups.refl _)) | exact Ups.same (Ups.same (Ups.nilrow 1 (Ups.refl _))) | exact Ups.refl _))))
    refine ⟨s, id, ⟨mo, 1, cs⟩, rfl, hI, ?_⟩
    refine (show ZOps _ _ _ _ _ _ _ _ from ?_)
    (repeat (first | ((with_reducible apply zs_yes); (exact rfl); (exact rfl); (first | assumption | exact rfl)) | ((with_reducible apply zs_move); (exact rfl); (exact rfl))))
    (try ((with_reducible apply zs_yes); exact rfl; exact rfl; (first | assumption | exact rfl))); refine zo_val rfl rfl (by decide) (zv_mapLen rfl un_th rfl ht ?_)
    rw [mapI_len, thD_len]
    have hln : decide (((StshV.mk mo 1 cs).cs.length : Int) ≠ (cs.length : Int)) = false := by simp
    (repeat (first | ((with_reducible apply zs_yes); (exact rfl); (exact rfl); (first | assumption | exact rfl)) | ((with_reducible apply zs_move); (exact rfl); (exact rfl)) | ((with_reducible apply zs_neq); (exact rfl); (exact rfl); (exact rfl)) | ((with_reducible apply zs_pick_f); (exact rfl); (exact rfl); (first | assumption | exact rfl); (exact rfl)) | ((with_reducible apply zs_call sstate_snd cl_10); (exact rfl); (exact rfl); ((try simp only [List.append_nil]); first | exact Ups.nilrow 1 (Ups.nilrow 1 (Ups.nilrow 1 (Ups.refl _))) | exact Ups.nilrow 1 (Ups.nilrow 1 (Ups.refl _)) | exact Ups.same (Ups.nilrow 1 (Ups.nilrow 1 (Ups.refl _))) | exact Ups.nilrow 1 (Ups.same (Ups.nilrow 1 (Ups.refl _))) | exact Ups.nilrow 1 (Ups.refl _) | exact Ups.same (Ups.nilrow 1 (Ups.refl _)) | exact Ups.same (Ups.same (Ups.nilrow 1 (Ups.refl _))) | exact Ups.refl _))))
    refine ⟨s, id, ⟨mo, 1, cs⟩, rfl, hI, hok, ?_⟩
    have hsl : decide (((stB ⟨mo, 1, cs⟩).length : Int) ≠ 4 + 9 * mo) = false := by
      have h1 := stB_len hok
      simp only at h1
      exact decide_eq_false (fun q => q (by omega))
    refine (show ZOps _ _ _ _ _ _ _ _ from ?_)
    (repeat (first | ((with_reducible apply zr_region); (try simp only [List.append_eq, List.cons_append, List.nil_append])) | ((with_reducible apply zo_end)) | ((with_reducible apply zs_yes); (exact rfl); (exact rfl); (first | assumption | exact rfl)) | ((with_reducible apply zs_move); (exact rfl); (exact rfl)) | ((with_reducible apply zs_assign); (exact rfl); (exact rfl)) | ((with_reducible apply zs_neq); (exact rfl); (exact rfl); (exact rfl)) | ((with_reducible apply zs_pick_f); (exact rfl); (exact rfl); (first | assumption | exact rfl); (exact rfl)) | ((with_reducible apply zs_add); (exact rfl); (exact rfl); (exact rfl); (first | (with_reducible assumption) | exact wrap_in64 (by omega) (by omega))) | ((with_reducible apply zs_lenB); (exact rfl); (exact rfl); (exact un_sl rfl)) | ((with_reducible apply zr_cond_f); (exact rfl); (first | assumption | exact rfl)) | ((with_reducible apply zr_skipB)) | ((with_reducible apply zs_mul); (exact rfl); (exact rfl); (exact rfl); (first | (with_reducible assumption) | exact wrap_in64 (by omega) (by omega)))))
    exact ⟨m - 1, _, by omega, ⟨i + 1, cs, by omega, rfl, hE, hI, ht, hok⟩, zq10, zq10⟩
  · (repeat (first | ((with_reducible apply zr_seq)) | ((with_reducible apply zr_region); (try simp only [List.append_eq, List.cons_append, List.nil_append])) | (with_reducible refine zr_exit ?_; simp only [Zthen, Zblock, ↓reduceIte]) | ((with_reducible apply zs_call awake15_snd cl_11); (exact rfl); (exact rfl); ((try simp only [List.append_nil]); first | exact Ups.nilrow 1 (Ups.nilrow 1 (Ups.nilrow 1 (Ups.refl _))) | exact Ups.nilrow 1 (Ups.nilrow 1 (Ups.refl _)) | exact Ups.same (Ups.nilrow 1 (Ups.nilrow 1 (Ups.refl _))) | exact Ups.nilrow 1 (Ups.same (Ups.nilrow 1 (Ups.refl _))) | exact Ups.nilrow 1 (Ups.refl _) | exact Ups.same (Ups.nilrow 1 (Ups.refl _)) | exact Ups.same (Ups.same (Ups.nilrow 1 (Ups.refl _))) | exact Ups.refl _))))
    refine ⟨rfl, ?_⟩
    (repeat (first | ((with_reducible apply zo_end)) | ((with_reducible apply zs_assign); (exact rfl); (exact rfl)) | ((with_reducible apply zr_retZ); (exact rfl); (repeat (first | exact resD_nil _ _ _ | ((with_reducible apply resD_tmp); (exact rfl)) | ((with_reducible apply resD_cell_agg); (exact rfl); (exact sh_of rfl); (first | assumption | exact St.setH_self _ _ _ | exact Sep.at_ (i := 0) zq14 rfl | exact Sep.at_ (i := 1) zq14 rfl | exact Sep.at_ (i := 2) zq14 rfl | exact Sep.at_ (i := 3) zq14 rfl | exact Sep.at_ (i := 4) zq14 rfl | exact Sep.at_ (i := 5) zq14 rfl | exact Sep.at_ (i := 6) zq14 rfl); (exact rfl)) | ((with_reducible apply resD_cell); (exact rfl); (exact sh_of rfl); (first | assumption | exact St.setH_self _ _ _ | exact Sep.at_ (i := 0) zq14 rfl | exact Sep.at_ (i := 1) zq14 rfl | exact Sep.at_ (i := 2) zq14 rfl | exact Sep.at_ (i := 3) zq14 rfl | exact Sep.at_ (i := 4) zq14 rfl | exact Sep.at_ (i := 5) zq14 rfl | exact Sep.at_ (i := 6) zq14 rfl); (exact rfl)))); (simp only [resOf]))))
    exact KE.mk st hE hK
end Go.Proofs.ZtLe
namespace Go.Proofs.ZtLe
open Go.RowKit Go.Proofs Go.Proofs.Zm
set_option linter.unusedVariables false
set_option maxHeartbeats 20000000
set_option maxRecDepth 100000
attribute [local irreducible] ZWp ZOps ZPure ZPure0 ZVal ZOp SoundF

/-! ### a law's arguments -/
theorem ints_of {d : D} (h : CellOk (.slice [.int .i64]) d) : ∃ l : List Int, d = .row (intR l) 1 0 ∧ True := by
  obtain ⟨xs, rfl, hl, hx⟩ := h.toRow
  obtain ⟨l, rfl, _⟩ := map_choose (fun b : Int => [.v (.int .i64 b)]) (fun _ => True) xs (fun i x h => by
    obtain ⟨d, ds, rfl, h1, h2⟩ := (hx i x h).cons
    obtain rfl := h2.nil
    obtain ⟨n, rfl, h3, h4⟩ := h1.toInt
    exact ⟨n, rfl, trivial⟩)
  exact ⟨l, rfl, trivial⟩
end Go.Proofs.ZtLe
