/- A part of the proof of LeafRoom: walks of the functions that it reaches. No condition. -/
import Derived.Test.YtocpidlgcakldaaZtLfA
import Derived.Test.YtocpidlgcakldaaZtMeF
import Derived.Test.YtocpidlgcakldaaZtMeP
import Derived.Test.YtocpidlgcakldaaZmAuto
namespace Go.Proofs.ZtLe
open Go.RowKit Go.Proofs Go.Proofs.Zm
set_option linter.unusedVariables false
set_option linter.unusedSimpArgs false
set_option maxHeartbeats 20000000
set_option maxRecDepth 100000
attribute [local irreducible] ZWp ZOps ZPure ZPure0 ZVal ZOp SoundF

/-! ### leaf.Build, leaf.Take -/
def lnodesR (l : List NodeV) : List (List D) := l.map nodeD
@[simp] theorem lnodesR_length (l : List NodeV) : (lnodesR l).length = l.length := by simp [lnodesR]
theorem lnodesR_five (l : List NodeV) : ∀ x ∈ lnodesR l, x.length = 5 := fun x hx => by
  obtain ⟨c, _, rfl⟩ := List.mem_map.1 hx; rfl
theorem lnodesR_append (l m : List NodeV) : lnodesR (l ++ m) = lnodesR l ++ lnodesR m := by simp [lnodesR]
theorem pairR_take (k : Nat) (l : List PairV) : List.take k (pairR l) = pairR (l.take k) := by unfold pairR; rw [List.map_take]
theorem pairR_drop (k : Nat) (l : List PairV) : List.drop k (pairR l) = pairR (l.drop k) := by unfold pairR; rw [List.map_drop]
def leavesL (h : Nat) (p : List PairV) (k : Nat) : List NodeV := (chunksL h p k).map leafN
theorem leavesL_succ (h : Nat) (p : List PairV) (k : Nat) : leavesL h p (k + 1) = leavesL h p k ++ [leafN (chunkL h p k)] := by unfold leavesL; rw [chunksL_succ, List.map_append]; rfl
theorem leavesL_length (h : Nat) (p : List PairV) (k : Nat) : (leavesL h p k).length = k := by unfold leavesL; rw [List.length_map, chunksL_length]
theorem lbuild_own : SoundF Try.prog 30 fun args st K => ∃ (c : CfgV) (h : Nat) (p : List PairV) (tp : Nat), args = [.agg (cfgD c), .row (pairR p) 2 tp] ∧ (0 ≤ c.l ∧ c.l ≤ 1000000 ∧ 0 ≤ c.c ∧ c.c ≤ 1000000) ∧ (c.l + c.c + 1) / 2 = (h : Int) ∧ 1 ≤ h ∧ p.length ≤ 2147483648 ∧ (∀ q ∈ p, PB q) ∧
    ∀ o q f st', Sep st st' [(o, f)] → GRow o f 5 (cntF p.length h) q (lnodesR (leavesL h p (cntF p.length h))).flatten → K (orow o (cntF p.length h) q) st' := by
  refine sound_ofA Try.func30 rfl Try.results30 ?_
  rintro w0 args st K ⟨c, h, p, tp, rfl, hcl, hh, hh1, hp, hpb, hK⟩
  rw [Try.ntmps30]; refine ⟨by simp, ?_⟩
  refine zr_as 1 (.row (pairR p) 2 0) rfl zq8 ?_
  have hS := Sep.nil st
  have hr0 : (pairR p).length = p.length := pairR_length _
  have hmx : max ((c.l + c.c + 1) / 2) 1 = (h : Int) := by omega
  obtain ⟨hc1, hc2⟩ := (show h ≤ 1000001 ∧ True from ⟨by omega, trivial⟩)
  (repeat (first | ((with_reducible apply zr_seq)) | ((with_reducible apply zr_region); (try simp only [List.append_eq, List.cons_append, List.nil_append])) | ((with_reducible apply zo_end)) | ((with_reducible apply zs_assign); (exact rfl); (exact rfl)) | ((with_reducible apply zr_block)) | ((with_reducible apply zs_load_refAll); (exact rfl); (exact rfl); (exact sh_of rfl); (exact rfl)) | ((with_reducible apply (zs_boxRef (t := 2))); (exact rfl); (exact rfl)) | ((with_reducible apply (zs_callQ half_pf cl_67)); (exact rfl); (exact rfl); ((repeat (first | exact DLes.nil | (apply DLes.cons; first | exact DLe.refl _ | exact DLe.nilB | exact DLe.nilR | exact DLe.nilI)))); (first | exact trivial | assumption | ((repeat' (with_reducible refine And.intro ?_ ?_)) <;> first | assumption | omega | exact trivial | (simp; done) | (simp; omega)))) | ((with_reducible apply zs_max); (exact rfl); (exact rfl); (exact rfl); (first | (with_reducible assumption) | exact rfl))))
  replace hS := hS.addNone []
  obtain ⟨N, hN⟩ : ∃ N, N = cntF p.length h := ⟨_, rfl⟩
  have hN1 := cntF_pos p.length h
  have hNb := cntF_bnd p.length h hh1
  rw [← hN] at hK hN1 hNb
  refine zr_loopK [5] (fun m e s => ∃ i o q f, m + i = N ∧ i < N ∧ e = [(1, .row (pairR (p.drop (i * h))) 2 0), (6, orow o i q)] ∧ Zm.Sep st s [(o, f)] ∧ GRow o f 5 i q (lnodesR (leavesL h p i)).flatten) N _ zq22 ⟨0, none, 0, [], by simp, by omega, by simp only [Nat.zero_mul, List.drop_zero]; rfl, hS, GRow.empty 5⟩ zq26 ?_
  rintro m e s ⟨i, o, q, f, hm, hi, rfl, hS, hg⟩
  have hr1 : (pairR (p.drop (i * h))).length = p.length - i * h := by rw [pairR_length, List.length_drop]
  have hlt := cntF_lt (n := p.length) (i := i) hh1
  rw [← hN] at hlt
  (repeat (first | ((with_reducible apply zr_seq)) | ((with_reducible apply zr_region); (try simp only [List.append_eq, List.cons_append, List.nil_append])) | ((with_reducible apply zo_end)) | ((with_reducible apply zs_move); (exact rfl); (exact rfl)) | ((with_reducible apply zs_gtr); (exact rfl); (exact rfl); (exact rfl)) | ((with_reducible apply zs_len); (exact rfl); (exact rfl); (exact un_sl rfl))))
  have hof : (chunkL h p i).length ≤ 2147483648 ∧ ∀ q ∈ chunkL h p i, PB q := ⟨by unfold chunkL; rw [List.length_take, List.length_drop]; omega, fun q hq => hpb q (chunk_mem hq)⟩
  (first | refine zr_cond rfl (fun h1 => ?_) (fun h1 => ?_) | refine zs_split rfl rfl (fun h1 => ?_) (fun h1 => ?_)) <;> have h1' := h1 <;> (try simp only [decide_eq_true_eq, decide_eq_false_iff_not, Bool.and_eq_true, Bool.or_eq_true, Bool.and_eq_false_iff, Bool.or_eq_false_iff, Bool.not_eq_true', Bool.not_eq_false', Bool.not_eq_true, Bool.not_eq_false, Int.not_le, Int.not_lt, Classical.not_not, Decidable.not_not, ne_eq, beq_iff_eq, bne_iff_ne] at h1')
  · have e2 : List.drop h (pairR (List.drop (i * h) p)) = pairR (List.drop ((i + 1) * h) p) := by rw [pairR_drop, List.drop_drop, Nat.succ_mul]
    have e1 : List.take h (pairR (List.drop (i * h) p)) = pairR (chunkL h p i) := pairR_take _ _
    (repeat (first | ((with_reducible apply zr_seq)) | ((with_reducible apply zr_region); (try simp only [List.append_eq, List.cons_append, List.nil_append])) | ((with_reducible apply zs_move); (exact rfl); (exact rfl)) | ((with_reducible apply zr_block)) | ((with_reducible apply zr_skip')) | ((with_reducible apply zs_cuthi); (exact rfl); (exact rfl); (exact un_sl rfl); (exact ii_of rfl); (exact rfl); (first | omega | (simp only [List.length_map, List.length_take, List.length_drop, List.length_append, List.length_cons, List.length_nil, List.length_replicate, rowR_length, intR_length, msgR_length, pairR_length, lnodesR_length]; omega) | decide); (first | omega | (simp only [List.length_map, List.length_take, List.length_drop, List.length_append, List.length_cons, List.length_nil, List.length_replicate, rowR_length, intR_length, msgR_length, pairR_length, lnodesR_length]; omega) | decide); (first | (with_reducible exact Int.toNat_natCast _) | (simp only [Int.reduceToNat]; exact rfl) | exact rfl))))
    rw [e1]
    (repeat (first | ((with_reducible apply zr_region); (try simp only [List.append_eq, List.cons_append, List.nil_append])) | ((with_reducible apply zo_end)) | ((with_reducible apply zo_endB)) | ((with_reducible apply zs_move); (exact rfl); (exact rfl)) | ((with_reducible apply zs_assign); (exact rfl); (exact rfl)) | ((with_reducible apply zs_cutlo); (exact rfl); (exact rfl); (exact un_sl rfl); (exact ii_of rfl); (exact rfl); (first | omega | (simp only [List.length_map, List.length_take, List.length_drop, List.length_append, List.length_cons, List.length_nil, List.length_replicate, rowR_length, intR_length, msgR_length, pairR_length, lnodesR_length]; omega) | decide); (first | omega | (simp only [List.length_map, List.length_take, List.length_drop, List.length_append, List.length_cons, List.length_nil, List.length_replicate, rowR_length, intR_length, msgR_length, pairR_length, lnodesR_length]; omega) | decide); (first | (with_reducible exact Int.toNat_natCast _) | (simp only [Int.reduceToNat]; exact rfl) | exact rfl)) | ((with_reducible apply (zs_callQ of_pf cl_40)); (exact rfl); (exact rfl); ((repeat (first | exact DLes.nil | (apply DLes.cons; first | exact DLe.refl _ | exact DLe.nilB | exact DLe.nilR | exact DLe.nilI)))); (first | exact trivial | assumption | ((repeat' (with_reducible refine And.intro ?_ ?_)) <;> first | assumption | omega | exact trivial | (simp; done) | (simp; omega)))) | ((with_reducible apply (zs_lit (t := 19) [.tmp 18])); (exact rfl); (exact rfl); (exact rfl); (exact rfl); (exact un_sl rfl); (exact el_of rfl); (simp only [List.map_cons, List.map_nil, cellsD]; exact rfl); ((repeat (first | exact lit_nil | (apply lit_cons; exact rfl; (repeat (first | exact one_nil | (apply one_cons; (first | exact rfl | exact one_orow _ _ _)))))))); (decide)) | ((with_reducible apply (zs_sapp (i := 0))); (exact rfl); (exact rfl); (exact rfl); (exact un_sl rfl); (exact el_of rfl); (simp [oneD, Value.oneCell']); (assumption); (exact rfl); (assumption); (simp only [List.length_map, List.length_cons, List.length_nil, List.length_take, List.length_drop, List.length_append, rowR_length, intR_length, msgR_length, pairR_length, lnodesR_length]; omega); (intro o1 c1 f1 sS hS hg); (try simp only [List.set_cons_zero, List.set_cons_succ] at hS))))
    rw [e2]
    refine ⟨m - 1, _, by omega, ⟨i + 1, o1, c1, f1, by omega, by omega, rfl, hS, ?_⟩, zq26, zq26⟩
    rw [leavesL_succ, lnodesR_append, List.flatten_append]
    exact hg
  · have e : p.drop (i * h) = chunkL h p i := (List.take_of_length_le (by rw [List.length_drop]; omega)).symm
    have hiN : i + 1 = N := by omega
    rw [e]
    (repeat (first | ((with_reducible apply zr_seq)) | ((with_reducible apply zr_region); (try simp only [List.append_eq, List.cons_append, List.nil_append])) | ((with_reducible apply zo_end)) | ((with_reducible apply zs_move); (exact rfl); (exact rfl)) | ((with_reducible apply zs_assign); (exact rfl); (exact rfl)) | (with_reducible refine zr_exit ?_; simp only [Zthen, Zblock, ↓reduceIte]) | ((with_reducible apply (zs_callQ of_pf cl_40)); (exact rfl); (exact rfl); ((repeat (first | exact DLes.nil | (apply DLes.cons; first | exact DLe.refl _ | exact DLe.nilB | exact DLe.nilR | exact DLe.nilI)))); (first | exact trivial | assumption | ((repeat' (with_reducible refine And.intro ?_ ?_)) <;> first | assumption | omega | exact trivial | (simp; done) | (simp; omega)))) | ((with_reducible apply (zs_lit (t := 27) [.tmp 26])); (exact rfl); (exact rfl); (exact rfl); (exact rfl); (exact un_sl rfl); (exact el_of rfl); (simp only [List.map_cons, List.map_nil, cellsD]; exact rfl); ((repeat (first | exact lit_nil | (apply lit_cons; exact rfl; (repeat (first | exact one_nil | (apply one_cons; (first | exact rfl | exact one_orow _ _ _)))))))); (decide)) | ((with_reducible apply (zs_sapp (i := 0))); (exact rfl); (exact rfl); (exact rfl); (exact un_sl rfl); (exact el_of rfl); (simp [oneD, Value.oneCell']); (assumption); (exact rfl); (assumption); (simp only [List.length_map, List.length_cons, List.length_nil, List.length_take, List.length_drop, List.length_append, rowR_length, intR_length, msgR_length, pairR_length, lnodesR_length]; omega); (intro o1 c1 f1 sS hS hg); (try simp only [List.set_cons_zero, List.set_cons_succ] at hS)) | ((with_reducible apply zr_retZ); (exact rfl); (repeat (first | exact resD_nil _ _ _ | ((with_reducible apply resD_tmp); (exact rfl)) | ((with_reducible apply resD_cell_agg); (exact rfl); (exact sh_of rfl); (first | assumption | exact St.setH_self _ _ _ | exact Sep.at_ (i := 0) zq40 rfl | exact Sep.at_ (i := 1) zq40 rfl | exact Sep.at_ (i := 2) zq40 rfl | exact Sep.at_ (i := 3) zq40 rfl | exact Sep.at_ (i := 4) zq40 rfl | exact Sep.at_ (i := 5) zq40 rfl | exact Sep.at_ (i := 6) zq40 rfl); (exact rfl)) | ((with_reducible apply resD_cell); (exact rfl); (exact sh_of rfl); (first | assumption | exact St.setH_self _ _ _ | exact Sep.at_ (i := 0) zq40 rfl | exact Sep.at_ (i := 1) zq40 rfl | exact Sep.at_ (i := 2) zq40 rfl | exact Sep.at_ (i := 3) zq40 rfl | exact Sep.at_ (i := 4) zq40 rfl | exact Sep.at_ (i := 5) zq40 rfl | exact Sep.at_ (i := 6) zq40 rfl); (exact rfl)))); (simp only [resOf]))))
    subst hiN
    exact KE.mk _ (Ext.refl _) (hK _ _ _ _ hS (by rw [leavesL_succ, lnodesR_append, List.flatten_append]; exact hg))
theorem lbuild_pf {c : CfgV} {h : Nat} {p : List PairV} {tp : Nat} (hh : ((0 ≤ c.l ∧ c.l ≤ 1000000 ∧ 0 ≤ c.c ∧ c.c ≤ 1000000) ∧ (c.l + c.c + 1) / 2 = (h : Int) ∧ 1 ≤ h) ∧ p.length ≤ 2147483648 ∧ ∀ q ∈ p, PB q) : PureF Try.prog 30 [.agg (cfgD c), .row (pairR p) 2 tp] (.row (lnodesR (leavesL h p (cntF p.length h))) 5 0) :=
  PureF.ofOwn fun st K hK => ⟨_, lbuild_own, c, h, p, tp, rfl, hh.1.1, hh.1.2.1, hh.1.2.2, hh.2.1, hh.2.2, fun o q f st' hS hg => by
    obtain ⟨e1, k1⟩ := OR.mk_ok (by decide) hg rfl (lnodesR_five _)
    refine hK [⟨o, f, 5, q, lnodesR (leavesL h p (cntF p.length h))⟩] st' _ hS (fun r hr => ?_) fun G hr => ?_
    · simp only [List.mem_cons, List.not_mem_nil, or_false] at hr
      subst hr; assumption
    · have r1 := hr _ (.head _)
      unfold OR.own OR.row at r1
      simp only at r1
      rw [e1] at r1
      exact r1⟩
theorem PairsV.lpb {p : List PairV} (h : PairsV p) : ∀ q ∈ p, PB q := fun q hq => by
  have := h.b q hq
  exact ⟨by omega, by omega⟩
theorem MsgsV.lmb {l : List MsgV} (h : MsgsV l) : ∀ m ∈ l, MB m := fun q hq => by
  have := (h.b q hq).2
  exact ⟨by omega, by omega⟩
theorem lapply_len (p : List PairV) (l : List MsgV) : (applyL p l).length ≤ p.length + l.length := by
  induction l generalizing p with
  | nil => simp [applyL]
  | cons m l ih =>
    have h1 := ih (oneL p m)
    have h2 := oneL_len p m
    show (applyL (oneL p m) l).length ≤ _
    rw [List.length_cons]
    omega
theorem lapply_pb {p : List PairV} {l : List MsgV} (hp : ∀ q ∈ p, PB q) (hm : ∀ m ∈ l, MB m) : ∀ q ∈ applyL p l, PB q := by
  induction l generalizing p with
  | nil => exact hp
  | cons m l ih => exact ih (oneL_pb hp (hm m (by simp))) fun q hq => hm q (by simp [hq])
def takeA (L : Nat) (a : List PairV) : NodeV := if a.length ≤ L then leafN a else leafN (a.take ((a.length + 1) / 2))
def takeB (L : Nat) (a : List PairV) : NodeV := if a.length ≤ L then noNode else leafN (a.drop ((a.length + 1) / 2))
def takeP (L : Nat) (a : List PairV) : Bs := if a.length ≤ L then [] else (a.getD ((a.length + 1) / 2) ([], [])).1
def takeD0 (L : Nat) (a : List PairV) : D := if a.length ≤ L then .tup [.agg (nodeD (leafN a)), .agg [.v (.bool false), .v (.slice none 0 0), .v (.slice none 0 0), .v (.slice none 0 0), .v (.slice none 0 0)], .v (.slice none 0 0), .v (.bool false)]
  else .tup [.agg (nodeD (leafN (a.take ((a.length + 1) / 2)))), .agg (nodeD (leafN (a.drop ((a.length + 1) / 2)))), .row (bytesD (a.getD ((a.length + 1) / 2) ([], [])).1) 1 0, .v (.bool true)]
theorem take0_pf {c : CfgV} {L : Nat} {p : List PairV} {l : List MsgV} {tl : Nat} (h : (c.l = (L : Int) ∧ 1 ≤ L) ∧ p.length ≤ 1000000 ∧ l.length ≤ 1000000 ∧ Srt (keysP p) ∧ (∀ q ∈ p, PB q) ∧ ∀ m ∈ l, MB m) : PureF Try.prog 34 [.agg (cfgD c), .agg (nodeD (leafN p)), .row (msgR l) 3 tl] (takeD0 L (applyL p l)) := by
  refine pure_of Try.func34 rfl Try.results34 (by rw [Try.ntmps34]; simp) (fun w0 st K hK => ?_); rw [Try.ntmps34]
  obtain ⟨⟨hL, hL1⟩, hp, hl, hps, hpb, hlb⟩ := h
  refine zr_as 2 (.row (msgR l) 3 0) rfl zq8 ?_
  have hS := Sep.nil st
  have hap : p.length ≤ 1000000 ∧ l.length ≤ 1000000 ∧ Srt (keysP p) ∧ (∀ q ∈ p, PB q) ∧ ∀ m ∈ l, MB m := ⟨hp, hl, hps, hpb, hlb⟩
  have hpp : p.length ≤ 2147483648 ∧ ∀ q ∈ p, PB q := ⟨by omega, hpb⟩
  have hwl := lapply_len p l
  have hwb := lapply_pb hpb hlb
  (repeat (first | ((with_reducible apply zr_seq)) | ((with_reducible apply zr_region); (try simp only [List.append_eq, List.cons_append, List.nil_append])) | ((with_reducible apply zo_end)) | ((with_reducible apply zs_move); (exact rfl); (exact rfl)) | ((with_reducible apply zs_assign); (exact rfl); (exact rfl)) | ((with_reducible apply zs_leq); (exact rfl); (exact rfl); (exact rfl)) | ((with_reducible apply zs_len); (exact rfl); (exact rfl); (exact un_sl rfl)) | ((with_reducible apply zs_field_ref); (exact rfl); (exact rfl); (exact fld_of rfl)) | ((with_reducible apply zs_load_ref); (exact rfl); (exact rfl); (exact sh_of rfl); (exact rfl)) | ((with_reducible apply zs_load_refAll); (exact rfl); (exact rfl); (exact sh_of rfl); (exact rfl)) | ((with_reducible apply (zs_boxRef (t := 3))); (exact rfl); (exact rfl)) | ((with_reducible apply (zs_boxRef (t := 4))); (exact rfl); (exact rfl)) | ((with_reducible apply (zs_callQ lpairs_pf cl_31)); (exact rfl); (exact rfl); ((repeat (first | exact DLes.nil | (apply DLes.cons; first | exact DLe.refl _ | exact DLe.nilB | exact DLe.nilR | exact DLe.nilI)))); (first | exact trivial | assumption | ((repeat' (with_reducible refine And.intro ?_ ?_)) <;> first | assumption | omega | exact trivial | (simp; done) | (simp; omega)))) | ((with_reducible apply (zs_callQ apply_pf cl_70)); (exact rfl); (exact rfl); ((repeat (first | exact DLes.nil | (apply DLes.cons; first | exact DLe.refl _ | exact DLe.nilB | exact DLe.nilR | exact DLe.nilI)))); (first | exact trivial | assumption | ((repeat' (with_reducible refine And.intro ?_ ?_)) <;> first | assumption | omega | exact trivial | (simp; done) | (simp; omega)))) | ((with_reducible apply (zs_salloc (t := 6))); (exact rfl); (exact el_of rfl); (simp [oneD, Value.oneCell']); (assumption); (intro a6 sS hS)) | ((with_reducible apply (zs_salloc (t := 7))); (exact rfl); (exact el_of rfl); (simp [oneD, Value.oneCell']); (assumption); (intro a7 sS hS))))
  generalize applyL p l = a at *
  have hr0 : (pairR a).length = a.length := pairR_length _
  have hof : a.length ≤ 2147483648 ∧ ∀ q ∈ a, PB q := ⟨by omega, hwb⟩
  (first | refine zr_cond rfl (fun h1 => ?_) (fun h1 => ?_) | refine zs_split rfl rfl (fun h1 => ?_) (fun h1 => ?_)) <;> have h1' := h1 <;> (try simp only [decide_eq_true_eq, decide_eq_false_iff_not, Bool.and_eq_true, Bool.or_eq_true, Bool.and_eq_false_iff, Bool.or_eq_false_iff, Bool.not_eq_true', Bool.not_eq_false', Bool.not_eq_true, Bool.not_eq_false, Int.not_le, Int.not_lt, Classical.not_not, Decidable.not_not, ne_eq, beq_iff_eq, bne_iff_ne] at h1')
  · have hle : a.length ≤ L := by omega
    rw [takeD0, if_pos hle] at hK
    (repeat (first | ((with_reducible apply (zs_sstore (i := 1))); (exact rfl); (exact rfl); (exact sh_of rfl); (assumption); (exact rfl); (first | exact rfl | (simp [cells_orow])); ((try rw [cells_orow]); (repeat (first | exact one_nil | (apply one_cons; (first | exact rfl | exact one_orow _ _ _))))); (first | exact Nat.le_of_ble_eq_true rfl | omega | (focus (simp [cellsD, msgD, nodeD, pairD, cfgD]; done))); (first | (simp only [cells_orow, cD_int, cD_bool, cD_float, cD_nil, cD_ptr0, cD_str, cD_row, cD_mrow, cD_ptr, cD_ref, cD_fn, cD_agg, List.take_zero, List.take_succ_cons, List.take_nil, List.drop_succ_cons, List.drop_zero, List.drop_nil, List.nil_append, List.cons_append, List.append_nil, Nat.zero_add, Nat.reduceAdd]; exact rfl) | exact rfl); (intro sS hS); (try simp only [List.set_cons_zero, List.set_cons_succ] at hS)) | ((with_reducible apply (zs_sstore (i := 0))); (exact rfl); (exact rfl); (exact sh_of rfl); (assumption); (exact rfl); (first | exact rfl | (simp [cells_orow])); ((try rw [cells_orow]); (repeat (first | exact one_nil | (apply one_cons; (first | exact rfl | exact one_orow _ _ _))))); (first | exact Nat.le_of_ble_eq_true rfl | omega | (focus (simp [cellsD, msgD, nodeD, pairD, cfgD]; done))); (first | (simp only [cells_orow, cD_int, cD_bool, cD_float, cD_nil, cD_ptr0, cD_str, cD_row, cD_mrow, cD_ptr, cD_ref, cD_fn, cD_agg, List.take_zero, List.take_succ_cons, List.take_nil, List.drop_succ_cons, List.drop_zero, List.drop_nil, List.nil_append, List.cons_append, List.append_nil, Nat.zero_add, Nat.reduceAdd]; exact rfl) | exact rfl); (intro sS hS); (try simp only [List.set_cons_zero, List.set_cons_succ] at hS)) | ((with_reducible apply zr_seq)) | ((with_reducible apply zr_region); (try simp only [List.append_eq, List.cons_append, List.nil_append])) | ((with_reducible apply zo_end)) | ((with_reducible apply zs_move); (exact rfl); (exact rfl)) | ((with_reducible apply zs_assign); (exact rfl); (exact rfl)) | ((with_reducible apply zs_build); (exact rfl); (exact el_of rfl); (exact st_of rfl); (exact rfl); (first | (simp only [fillD, cellsD, cells_orow, List.take_zero, List.take_succ_cons, List.take_nil, List.drop_succ_cons, List.drop_zero, List.drop_nil, List.nil_append, List.cons_append, List.append_nil, Nat.zero_add, Nat.reduceAdd, List.length_cons, List.length_nil]; exact rfl) | ((repeat (apply fillD_cons; exact rfl; (first | exact rfl | simp [cells_orow]); (exact Nat.le_of_ble_eq_true rfl); (simp only [cells_orow, cD_int, cD_bool, cD_float, cD_nil, cD_ptr0, cD_str, cD_row, cD_mrow, cD_ptr, cD_ref, cD_fn, cD_agg, List.take_zero, List.take_succ_cons, List.take_nil, List.drop_succ_cons, List.drop_zero, List.drop_nil, List.nil_append, List.cons_append, List.append_nil, Nat.zero_add, Nat.reduceAdd]; exact rfl))); exact rfl) | exact rfl)) | ((with_reducible apply (zs_callQ of_pf cl_40)); (exact rfl); (exact rfl); ((repeat (first | exact DLes.nil | (apply DLes.cons; first | exact DLe.refl _ | exact DLe.nilB | exact DLe.nilR | exact DLe.nilI)))); (first | exact trivial | assumption | ((repeat' (with_reducible refine And.intro ?_ ?_)) <;> first | assumption | omega | exact trivial | (simp; done) | (simp; omega)))) | ((with_reducible apply zr_retZ); (exact rfl); (repeat (first | exact resD_nil _ _ _ | ((with_reducible apply resD_tmp); (exact rfl)) | ((with_reducible apply resD_cell_agg); (exact rfl); (exact sh_of rfl); (first | assumption | exact St.setH_self _ _ _ | exact Sep.at_ (i := 0) zq40 rfl | exact Sep.at_ (i := 1) zq40 rfl | exact Sep.at_ (i := 2) zq40 rfl | exact Sep.at_ (i := 3) zq40 rfl | exact Sep.at_ (i := 4) zq40 rfl | exact Sep.at_ (i := 5) zq40 rfl | exact Sep.at_ (i := 6) zq40 rfl); (exact rfl)) | ((with_reducible apply resD_cell); (exact rfl); (exact sh_of rfl); (first | assumption | exact St.setH_self _ _ _ | exact Sep.at_ (i := 0) zq40 rfl | exact Sep.at_ (i := 1) zq40 rfl | exact Sep.at_ (i := 2) zq40 rfl | exact Sep.at_ (i := 3) zq40 rfl | exact Sep.at_ (i := 4) zq40 rfl | exact Sep.at_ (i := 5) zq40 rfl | exact Sep.at_ (i := 6) zq40 rfl); (exact rfl)))); (simp only [resOf]))))
    exact KE.mk _ hS.ext hK
  · have hle : ¬ a.length ≤ L := by omega
    rw [takeD0, if_neg hle] at hK
    obtain ⟨k, hk⟩ : ∃ k, k = (a.length + 1) / 2 := ⟨_, rfl⟩
    rw [← hk] at hK
    have hq : IntKind.i64.wrap ((((pairR a).length : Nat) + 1 : Int).tdiv 2) = (k : Int) := by
      rw [hr0, Int.tdiv_eq_ediv_of_nonneg (by omega), wrap_in64 (by omega) (by omega)]; omega
    obtain ⟨q, hqk, _, _, hqg⟩ := eltP (l := a) (i := k) (by omega)
    have hqd : a.getD k ([], []) = q := by rw [List.getD_eq_getElem?_getD, hqk]; rfl
    rw [hqd] at hK
    obtain ⟨hq1, hq2⟩ := hwb q (List.mem_of_getElem? hqk)
    have hof1 : (a.take k).length ≤ 2147483648 ∧ ∀ q ∈ a.take k, PB q := ⟨by rw [List.length_take]; omega, fun q hq => hwb q (List.mem_of_mem_take hq)⟩
    have hof2 : (a.drop k).length ≤ 2147483648 ∧ ∀ q ∈ a.drop k, PB q := ⟨by rw [List.length_drop]; omega, fun q hq => hwb q (List.mem_of_mem_drop hq)⟩
    (repeat (first | ((with_reducible apply zr_seq)) | ((with_reducible apply zr_region); (try simp only [List.append_eq, List.cons_append, List.nil_append])) | ((with_reducible apply zo_end)) | ((with_reducible apply zs_move); (exact rfl); (exact rfl)) | ((with_reducible apply zs_assign); (exact rfl); (exact rfl)) | ((with_reducible apply zs_add); (exact rfl); (exact rfl); (exact rfl); (first | (with_reducible assumption) | exact wrap_in64 (by omega) (by omega))) | ((with_reducible apply zs_len); (exact rfl); (exact rfl); (exact un_sl rfl)) | ((with_reducible apply zr_skip')) | ((with_reducible apply zs_quo); (exact rfl); (exact rfl); (exact rfl); (decide); ((with_reducible assumption)))))
    refine zc_begin (m := 18) ([(a6, [.v (.bool false), .v (.slice none 0 0), .v (.slice none 0 0), .v (.slice none 0 0), .v (.slice none 0 0)]), (a7, [.v (.bool false), .v (.slice none 0 0), .v (.slice none 0 0), .v (.slice none 0 0), .v (.slice none 0 0)])]) [14, 15] zq41 rfl ?_
    refine zc_take0 (i := 0) rfl zq41 zq41 zq41 zq41 zq29 rfl rfl (ZPure0.pure (zp_move rfl rfl)) ?_
    refine zc_take0 (i := 1) rfl zq41 zq41 zq41 zq41 zq29 rfl rfl (ZPure0.pure (zp_move rfl rfl)) ?_
    first | (refine zc_take0 (i := 2) rfl zq41 zq41 zq41 zq41 zq29 rfl rfl (ZPure0.pure (zp_cBhi rfl zq39 zq37 rfl rfl zq10 zq10 zq27 )) ?_) | (refine zc_take0 (i := 2) rfl zq41 zq41 zq41 zq41 zq29 rfl rfl (ZPure0.pure (zp_cRhi rfl zq39 zq37 rfl rfl zq10 zq10 zq27 )) ?_) | (refine zc_take0 (i := 2) rfl zq41 zq41 zq41 zq41 zq29 rfl rfl (ZPure0.pure (zp_cMhi rfl zq39 zq37 rfl rfl zq10 zq10 zq27 )) ?_)
    refine zc_take0 (i := 4) rfl zq41 zq41 zq41 zq41 zq29 rfl rfl (ZPure0.pure (zp_move rfl rfl)) ?_
    refine zc_take0 (i := 5) rfl zq41 zq41 zq41 zq41 zq29 rfl rfl (ZPure0.pure (zp_move rfl rfl)) ?_
    first | (refine zc_take0 (i := 6) rfl zq41 zq41 zq41 zq41 zq29 rfl rfl (ZPure0.pure (zp_cBlo rfl zq39 zq37 rfl rfl zq10 zq10 zq27 )) ?_) | (refine zc_take0 (i := 6) rfl zq41 zq41 zq41 zq41 zq29 rfl rfl (ZPure0.pure (zp_cRlo rfl zq39 zq37 rfl rfl zq10 zq10 zq27 )) ?_) | (refine zc_take0 (i := 6) rfl zq41 zq41 zq41 zq41 zq29 rfl rfl (ZPure0.pure (zp_cMlo rfl zq39 zq37 rfl rfl zq10 zq10 zq10 (by first | (left; omega) | (right; omega) | (left; decide) | (right; simp only [List.length_map, rowR_length, intR_length, msgR_length, pairR_length, lnodesR_length]; omega)) zq27)) ?_) | (refine zc_take0 (i := 6) rfl zq41 zq41 zq41 zq41 zq29 rfl rfl (ZPure0.pure (zp_cME rfl zq39 zq37 rfl rfl zq10 zq10 )) ?_)
    refine zc_take0 (i := 8) rfl zq41 zq41 zq41 zq41 zq29 rfl rfl (ZPure0.pure (zp_move rfl rfl)) ?_
    refine zc_take0 (i := 9) rfl zq41 zq41 zq41 zq41 zq29 rfl rfl (ZPure0.pure (zp_move rfl rfl)) ?_
    refine zc_take0 (i := 10) rfl zq41 zq41 zq41 zq41 zq29 rfl rfl zq0 ?_
    refine zc_take0 (i := 11) rfl zq41 zq41 zq41 zq41 zq29 rfl rfl zq20 ?_
    first | (refine zc_take0 (i := 12) rfl zq41 zq41 zq41 zq41 zq29 rfl rfl (zp_load_ref rfl zq38 rfl rfl) ?_) | (refine zc_take0 (i := 12) rfl zq41 zq41 zq41 zq41 zq29 rfl rfl (zp_load_refAll rfl zq38 rfl rfl) ?_) | (refine zc_take (i := 12) rfl zq41 zq41 zq41 zq41 zq41 zq41 zq29 rfl rfl (zpb_load rfl zq38 rfl (.head _) rfl zq33) ?_) | (refine zc_take (i := 12) rfl zq41 zq41 zq41 zq41 zq41 zq41 zq29 rfl rfl (zpb_load rfl zq38 rfl (.tail _ (.head _)) rfl zq33) ?_) | (refine zc_take (i := 12) rfl zq41 zq41 zq41 zq41 zq41 zq41 zq29 rfl rfl (zpb_load rfl zq38 rfl (.tail _ (.tail _ (.head _))) rfl zq33) ?_) | (refine zc_take (i := 12) rfl zq41 zq41 zq41 zq41 zq41 zq41 zq29 rfl rfl (zpb_load_agg rfl zq38 rfl (.head _) rfl rfl zq32) ?_) | (refine zc_take (i := 12) rfl zq41 zq41 zq41 zq41 zq41 zq41 zq29 rfl rfl (zpb_load_agg rfl zq38 rfl (.tail _ (.head _)) rfl rfl zq32) ?_) | (refine zc_take (i := 12) rfl zq41 zq41 zq41 zq41 zq41 zq41 zq29 rfl rfl (zpb_load_agg rfl zq38 rfl (.tail _ (.tail _ (.head _))) rfl rfl zq32) ?_)
    skip
    rw [pairR_take, pairR_drop]
    refine zc_one (i := 3) (fun _ => by first | assumption | (repeat (first | exact BOwn.nil _ | refine BOwn.cons zq7 ?_))) zq41 rfl zq29 (zop_callQ of_pf cl_40 rfl rfl (by decide) rfl rfl zq23 zq15 ?_)
    refine zc_one (i := 7) (fun _ => by first | assumption | (repeat (first | exact BOwn.nil _ | refine BOwn.cons zq7 ?_))) zq41 rfl zq29 (zop_callQ of_pf cl_40 rfl rfl (by decide) rfl rfl zq23 zq15 ?_)
    refine zc_one (i := 13) (fun _ => by first | assumption | (repeat (first | exact BOwn.nil _ | refine BOwn.cons zq7 ?_))) zq41 rfl zq29 (zop_callQ clone_pf cl_68 rfl rfl (by decide) rfl rfl zq23 zq15 ?_)
    first | (refine zc_one (i := 14) (fun _ => by first | assumption | (repeat (first | exact BOwn.nil _ | refine BOwn.cons zq7 ?_))) zq41 rfl zq29 (zop_sstore (i := 0) rfl rfl rfl rfl zq38 zq40 rfl zq34 zq25 zq28 zq6 fun sS hS => ?_)) | (refine zc_one (i := 14) (fun _ => by first | assumption | (repeat (first | exact BOwn.nil _ | refine BOwn.cons zq7 ?_))) zq41 rfl zq29 (zop_sstore (i := 1) rfl rfl rfl rfl zq38 zq40 rfl zq34 zq25 zq28 zq6 fun sS hS => ?_)) | (refine zc_one (i := 14) (fun _ => by first | assumption | (repeat (first | exact BOwn.nil _ | refine BOwn.cons zq7 ?_))) zq41 rfl zq29 (zop_sstore (i := 2) rfl rfl rfl rfl zq38 zq40 rfl zq34 zq25 zq28 zq6 fun sS hS => ?_)) | (refine zc_one (i := 14) (fun _ => by first | assumption | (repeat (first | exact BOwn.nil _ | refine BOwn.cons zq7 ?_))) zq41 rfl zq29 (zop_sstore (i := 3) rfl rfl rfl rfl zq38 zq40 rfl zq34 zq25 zq28 zq6 fun sS hS => ?_)) | (refine zc_one (i := 14) (fun _ => by first | assumption | (repeat (first | exact BOwn.nil _ | refine BOwn.cons zq7 ?_))) zq41 rfl zq29 (zop_sstore (i := 4) rfl rfl rfl rfl zq38 zq40 rfl zq34 zq25 zq28 zq6 fun sS hS => ?_)) | (refine zc_one (i := 14) (fun _ => by first | assumption | (repeat (first | exact BOwn.nil _ | refine BOwn.cons zq7 ?_))) zq41 rfl zq29 (zop_sstore (i := 5) rfl rfl rfl rfl zq38 zq40 rfl zq34 zq25 zq28 zq6 fun sS hS => ?_))
    (try simp only [List.set_cons_zero, List.set_cons_succ] at hS)
    first | (refine zc_one (i := 15) (fun hcl_ => absurd hcl_ (by decide)) zq41 rfl zq29 (zop_sstore (i := 0) rfl rfl rfl rfl zq38 zq40 rfl zq34 zq25 zq28 zq6 fun sS hS => ?_)) | (refine zc_one (i := 15) (fun hcl_ => absurd hcl_ (by decide)) zq41 rfl zq29 (zop_sstore (i := 1) rfl rfl rfl rfl zq38 zq40 rfl zq34 zq25 zq28 zq6 fun sS hS => ?_)) | (refine zc_one (i := 15) (fun hcl_ => absurd hcl_ (by decide)) zq41 rfl zq29 (zop_sstore (i := 2) rfl rfl rfl rfl zq38 zq40 rfl zq34 zq25 zq28 zq6 fun sS hS => ?_)) | (refine zc_one (i := 15) (fun hcl_ => absurd hcl_ (by decide)) zq41 rfl zq29 (zop_sstore (i := 3) rfl rfl rfl rfl zq38 zq40 rfl zq34 zq25 zq28 zq6 fun sS hS => ?_)) | (refine zc_one (i := 15) (fun hcl_ => absurd hcl_ (by decide)) zq41 rfl zq29 (zop_sstore (i := 4) rfl rfl rfl rfl zq38 zq40 rfl zq34 zq25 zq28 zq6 fun sS hS => ?_)) | (refine zc_one (i := 15) (fun hcl_ => absurd hcl_ (by decide)) zq41 rfl zq29 (zop_sstore (i := 5) rfl rfl rfl rfl zq38 zq40 rfl zq34 zq25 zq28 zq6 fun sS hS => ?_))
    (try simp only [List.set_cons_zero, List.set_cons_succ] at hS)
    refine zc_take0 (i := 16) rfl zq41 zq41 zq41 zq41 zq29 rfl rfl (ZPure0.pure (zp_assign rfl rfl)) ?_
    refine zc_take0 (i := 17) rfl zq41 zq41 zq41 zq41 zq29 rfl rfl (ZPure0.pure (zp_assign rfl rfl)) ?_
    first | refine zc_end (fun hcl_ => absurd hcl_ (by decide)) zq41 ?_ | refine zc_endB (fun hcl_ => absurd hcl_ (by decide)) zq41 ?_ | refine zc_endBB (fun hcl_ => absurd hcl_ (by decide)) zq41 ?_ | refine zc_done (fun hcl_ => absurd hcl_ (by decide)) zq41 ?_
    (repeat (first | ((with_reducible apply zr_retZ); (exact rfl); (repeat (first | exact resD_nil _ _ _ | ((with_reducible apply resD_tmp); (exact rfl)) | ((with_reducible apply resD_cell_agg); (exact rfl); (exact sh_of rfl); (first | assumption | exact St.setH_self _ _ _ | exact Sep.at_ (i := 0) zq40 rfl | exact Sep.at_ (i := 1) zq40 rfl | exact Sep.at_ (i := 2) zq40 rfl | exact Sep.at_ (i := 3) zq40 rfl | exact Sep.at_ (i := 4) zq40 rfl | exact Sep.at_ (i := 5) zq40 rfl | exact Sep.at_ (i := 6) zq40 rfl); (exact rfl)) | ((with_reducible apply resD_cell); (exact rfl); (exact sh_of rfl); (first | assumption | exact St.setH_self _ _ _ | exact Sep.at_ (i := 0) zq40 rfl | exact Sep.at_ (i := 1) zq40 rfl | exact Sep.at_ (i := 2) zq40 rfl | exact Sep.at_ (i := 3) zq40 rfl | exact Sep.at_ (i := 4) zq40 rfl | exact Sep.at_ (i := 5) zq40 rfl | exact Sep.at_ (i := 6) zq40 rfl); (exact rfl)))); (simp only [resOf]))))
    exact KE.mk _ hS.ext hK
theorem take_le (L : Nat) (a : List PairV) : DLe (takeD0 L a) (.tup [.agg (nodeD (takeA L a)), .agg (nodeD (takeB L a)), .row (bytesD (takeP L a)) 1 0, .v (.bool (decide (L < a.length)))]) := by
  unfold takeD0 takeA takeB takeP
  by_cases h : a.length ≤ L
  · rw [if_pos h, if_pos h, if_pos h, if_pos h, decide_eq_false (by omega)]
    exact DLe.tup (.cons (.refl _) (.cons (DLe.agg (.cons (.refl _) (.cons DLe.nilR (.cons DLe.nilR (.cons DLe.nilI (.cons (DLe.nil 3) .nil)))))) (.cons DLe.nilB (.cons (.refl _) .nil))))
  · rw [if_neg h, if_neg h, if_neg h, if_neg h, decide_eq_true (by omega)]
    exact .refl _
theorem take_pf {c : CfgV} {L : Nat} {p : List PairV} {l : List MsgV} {tl : Nat} (h : (c.l = (L : Int) ∧ 1 ≤ L) ∧ p.length ≤ 1000000 ∧ l.length ≤ 1000000 ∧ Srt (keysP p) ∧ (∀ q ∈ p, PB q) ∧ ∀ m ∈ l, MB m) : PureF Try.prog 34 [.agg (cfgD c), .agg (nodeD (leafN p)), .row (msgR l) 3 tl]
    (.tup [.agg (nodeD (takeA L (applyL p l))), .agg (nodeD (takeB L (applyL p l))), .row (bytesD (takeP L (applyL p l))) 1 0, .v (.bool (decide (L < (applyL p l).length)))]) := (take0_pf h).le (take_le L _)
end Go.Proofs.ZtLe
