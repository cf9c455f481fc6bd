/- A part of the proof of LeafTells: walks of the functions that it reaches. No condition. -/
import Derived.Test.YtocpidlgcakldaaZtPoC
import Derived.Test.YtocpidlgcakldaaZtCl
import Derived.Test.YtocpidlgcakldaaZmP2
import Derived.Test.YtocpidlgcakldaaZmAuto
namespace Go.Proofs.ZtLe
open Go.RowKit Go.Proofs Go.Proofs.Zm
set_option linter.unusedVariables false
set_option linter.unusedSimpArgs false
set_option maxHeartbeats 20000000
set_option maxRecDepth 100000
attribute [local irreducible] ZWp ZOps ZPure ZPure0 ZVal ZOp SoundF
theorem el_U8 : ElemOk Try.prog 5 1 1 [.v (.int .u8 0)] := el_of rfl
/-! ### values -/
abbrev MsgV := Int × Bs × Bs
def msgD (m : MsgV) : List D := [.v (.int .i64 m.1), .row (bytesD m.2.1) 1 0, .row (bytesD m.2.2) 1 0]
def msgR (l : List MsgV) : List (List D) := l.map msgD
abbrev PairV := Bs × Bs
def pairD (p : PairV) : List D := [.row (bytesD p.1) 1 0, .row (bytesD p.2) 1 0]
def pairR (l : List PairV) : List (List D) := l.map pairD
structure NodeV where
  leaf : Bool
  keys : List Bs
  vals : List Bs
  kids : List Int
  msgs : List MsgV
deriving DecidableEq
def nodeD (n : NodeV) : List D := [.v (.bool n.leaf), .row (rowR n.keys) 1 0, .row (rowR n.vals) 1 0, .row (intR n.kids) 1 0, .row (msgR n.msgs) 3 0]
def noNode : NodeV := ⟨false, [], [], [], []⟩
@[simp] theorem msgR_length (l : List MsgV) : (msgR l).length = l.length := by simp [msgR]
@[simp] theorem pairR_length (l : List PairV) : (pairR l).length = l.length := by simp [pairR]
theorem msgR_three (l : List MsgV) : ∀ x ∈ msgR l, x.length = 3 := fun x hx => by
  obtain ⟨c, _, rfl⟩ := List.mem_map.1 hx; rfl
theorem pairR_two (l : List PairV) : ∀ x ∈ pairR l, x.length = 2 := fun x hx => by
  obtain ⟨c, _, rfl⟩ := List.mem_map.1 hx; rfl
theorem msgR_append (l m : List MsgV) : msgR (l ++ m) = msgR l ++ msgR m := by simp [msgR]
theorem pairR_append (l m : List PairV) : pairR (l ++ m) = pairR l ++ pairR m := by simp [pairR]
theorem eltM {l : List MsgV} {i : Nat} (h : i < l.length) : ∃ c, l[i]? = some c ∧ l.take (i + 1) = l.take i ++ [c] ∧ l.drop i = c :: l.drop (i + 1) ∧ (msgR l).getD i [] = msgD c := by
  obtain ⟨c, h1, h2, h3, h4⟩ := elt h; exact ⟨c, h1, h2, h3, h4 _⟩
theorem eltP {l : List PairV} {i : Nat} (h : i < l.length) : ∃ c, l[i]? = some c ∧ l.take (i + 1) = l.take i ++ [c] ∧ l.drop i = c :: l.drop (i + 1) ∧ (pairR l).getD i [] = pairD c := by
  obtain ⟨c, h1, h2, h3, h4⟩ := elt h; exact ⟨c, h1, h2, h3, h4 _⟩

/-! ### bytes in order -/
theorem ext_cmp : ExtIs Try.prog 101 Extern.BytealgCompare.compare := ⟨_, Try.func101, by kernel_rfl, by kernel_rfl, by kernel_rfl, by kernel_rfl⟩
theorem compare_pf {l m : Bs} {tk tm : Nat} (h : True) : PureF Try.prog 88 [.row (bytesD l) 1 tk, .row (bytesD m) 1 tm] (.v (.int .i64 (Lib.compareBytes l m))) := by
  refine pure_of Try.func88 rfl Try.results88 (by rw [Try.ntmps88]; simp) (fun w0 st K hK => ?_); rw [Try.ntmps88]
  (repeat (first | ((with_reducible apply zr_seq)) | ((with_reducible apply zr_region); (try simp only [List.append_eq, List.cons_append, List.nil_append])) | ((with_reducible apply zo_end)) | ((with_reducible apply zs_move); (exact rfl); (exact rfl)) | ((with_reducible apply zs_assign); (exact rfl); (exact rfl))))
  (try ((with_reducible apply zs_yes); exact rfl; exact rfl; (first | assumption | exact rfl))); refine zo_pure rfl rfl (by decide) (zp_compare rfl ext_cmp rfl rfl) ?_
  (repeat (first | ((with_reducible apply zo_end)) | ((with_reducible apply zs_assign); (exact rfl); (exact rfl)) | ((with_reducible apply zr_retZ); (exact rfl); (repeat (first | exact resD_nil _ _ _ | ((with_reducible apply resD_tmp); (exact rfl)) | ((with_reducible apply resD_cell_agg); (exact rfl); (exact sh_of rfl); (first | assumption | exact St.setH_self _ _ _); (exact rfl)) | ((with_reducible apply resD_cell); (exact rfl); (exact sh_of rfl); (first | assumption | exact St.setH_self _ _ _); (exact rfl)))); (simp only [resOf]))))
  exact KE.mk _ (Ext.refl _) hK
theorem rless_pf {l m : Bs} {tk tm : Nat} (h : True) : PureF Try.prog 57 [.row (bytesD l) 1 tk, .row (bytesD m) 1 tm] (.v (.bool (lt l m))) := by
  refine pure_of Try.func57 rfl Try.results57 (by rw [Try.ntmps57]; simp) (fun w0 st K hK => ?_); rw [Try.ntmps57]
  (repeat (first | ((with_reducible apply zr_seq)) | ((with_reducible apply zr_region); (try simp only [List.append_eq, List.cons_append, List.nil_append])) | ((with_reducible apply zo_end)) | ((with_reducible apply zs_move); (exact rfl); (exact rfl)) | ((with_reducible apply zs_assign); (exact rfl); (exact rfl)) | ((with_reducible apply zs_strlss); (exact rfl); (exact rfl); (exact rfl)) | ((with_reducible apply zs_toStr); (exact rfl); (exact rfl); (exact un_sl rfl); (exact Try.underlying5); (exact Try.underlying9)) | ((with_reducible apply zr_retZ); (exact rfl); (repeat (first | exact resD_nil _ _ _ | ((with_reducible apply resD_tmp); (exact rfl)) | ((with_reducible apply resD_cell_agg); (exact rfl); (exact sh_of rfl); (first | assumption | exact St.setH_self _ _ _); (exact rfl)) | ((with_reducible apply resD_cell); (exact rfl); (exact sh_of rfl); (first | assumption | exact St.setH_self _ _ _); (exact rfl)))); (simp only [resOf]))))
  exact KE.mk _ (Ext.refl _) hK
theorem same_pf {l m : Bs} {tk tm : Nat} (h : True) : PureF Try.prog 19 [.row (bytesD l) 1 tk, .row (bytesD m) 1 tm] (.v (.bool (l == m))) := PureF.of same_snd fun st K hK => ⟨_, _, _, _, rfl, hK⟩
theorem samem_pf {a b : MsgV} (h : True) : PureF Try.prog 20 [.agg (msgD a), .agg (msgD b)] (.v (.bool (decide (a = b)))) := by
  refine pure_of Try.func20 rfl Try.results20 (by rw [Try.ntmps20]; simp) (fun w0 st K hK => ?_); rw [Try.ntmps20]
  (repeat (first | ((with_reducible apply zr_seq)) | ((with_reducible apply zr_region); (try simp only [List.append_eq, List.cons_append, List.nil_append])) | ((with_reducible apply zo_end)) | ((with_reducible apply zs_move); (exact rfl); (exact rfl)) | ((with_reducible apply zs_assign); (exact rfl); (exact rfl)) | ((with_reducible apply zs_eql); (exact rfl); (exact rfl); (exact rfl)) | ((with_reducible apply zs_field_ref); (exact rfl); (exact rfl); (exact fld_of rfl)) | ((with_reducible apply zs_load_ref); (exact rfl); (exact rfl); (exact sh_of rfl); (exact rfl)) | ((with_reducible apply zs_and); (exact rfl); (exact rfl); (intro hp_; first | exact congrArg some (gd_t hp_) | exact rfl); (exact rfl)) | ((with_reducible apply (zs_boxRef (t := 2))); (exact rfl); (exact rfl)) | ((with_reducible apply (zs_boxRef (t := 3))); (exact rfl); (exact rfl)) | ((with_reducible apply (zs_h_field_ref [])); (exact rfl); (first | exact GC.t rfl rfl | exact GC.f rfl rfl | exact GC.gt rfl rfl | exact GC.gf rfl rfl); (exact rfl); (intro hc_; first | exact congrArg some (gd_t hc_) | exact congrArg some (gd_t (band_l hc_)) | exact congrArg some (gd_t (band_l (band_l hc_))) | exact rfl); (intro _; exact fld_of rfl)) | ((with_reducible apply (zs_h_load_ref [])); (exact rfl); (first | exact GC.t rfl rfl | exact GC.f rfl rfl | exact GC.gt rfl rfl | exact GC.gf rfl rfl); (exact rfl); (intro hc_; first | exact congrArg some (gd_t hc_) | exact congrArg some (gd_t (band_l hc_)) | exact congrArg some (gd_t (band_l (band_l hc_))) | exact rfl); (intro _; exact sh_of rfl); (intro _; exact rfl)) | ((with_reducible apply (zs_h_callQ [] same_pf cl_19)); (exact rfl); (first | exact GC.t rfl rfl | exact GC.f rfl rfl | exact GC.gt rfl rfl | exact GC.gf rfl rfl); (exact rfl); (intro hc_; (repeat ((with_reducible apply evs_cons); (first | exact congrArg some (gd_t hc_) | exact congrArg some (gd_t (band_l hc_)) | exact rfl))); exact evs_nil); ((repeat (first | exact DLes.nil | (apply DLes.cons; first | exact DLe.refl _ | exact DLe.nilB | exact DLe.nilR | exact DLe.nilI)))); (intro hc_; first | exact trivial | assumption | ((try simp only [Bool.and_eq_true, decide_eq_true_eq, Bool.not_eq_true'] at hc_); (repeat' (with_reducible refine And.intro ?_ ?_)) <;> first | assumption | omega | exact trivial | (simp; done) | (simp; omega)))) | ((with_reducible apply zr_retZ); (exact rfl); (repeat (first | exact resD_nil _ _ _ | ((with_reducible apply resD_tmp); (exact rfl)) | ((with_reducible apply resD_cell_agg); (exact rfl); (exact sh_of rfl); (first | assumption | exact St.setH_self _ _ _); (exact rfl)) | ((with_reducible apply resD_cell); (exact rfl); (exact sh_of rfl); (first | assumption | exact St.setH_self _ _ _); (exact rfl)))); (simp only [resOf]))))
  have e : (decide (a.1 = b.1) && (a.2.1 == b.2.1) && (a.2.2 == b.2.2)) = decide (a = b) := by
    obtain ⟨a1, a2, a3⟩ := a
    obtain ⟨b1, b2, b3⟩ := b
    simp [Prod.mk.injEq, bs_beq, Bool.and_assoc]
  refine KE.mk _ (Ext.refl _) ?_
  rw [e]
  exact hK
/-! ### rows, compared -/
theorem sameI_pf {a b : List Int} {ta tb : Nat} (h : a.length ≤ 4611686018427387904) : PureF Try.prog 63 [.row (intR a) 1 ta, .row (intR b) 1 tb] (.v (.bool (decide (a = b)))) := by
  refine pure_of Try.func63 rfl Try.results63 (by rw [Try.ntmps63]; simp) (fun w0 st K hK => ?_); rw [Try.ntmps63]
  have hra : (intR a).length = a.length := intR_length a
  have hrb : (intR b).length = b.length := intR_length b
  (repeat (first | ((with_reducible apply zr_seq)) | ((with_reducible apply zr_region); (try simp only [List.append_eq, List.cons_append, List.nil_append])) | ((with_reducible apply zo_end)) | ((with_reducible apply zs_move); (exact rfl); (exact rfl)) | ((with_reducible apply zs_assign); (exact rfl); (exact rfl)) | ((with_reducible apply zs_neq); (exact rfl); (exact rfl); (exact rfl)) | ((with_reducible apply zs_len); (exact rfl); (exact rfl); (exact un_sl rfl))))
  (first | refine zr_cond rfl (fun h1 => ?_) (fun h1 => ?_) | refine zs_split rfl rfl (fun h1 => ?_) (fun h1 => ?_)) <;> have h1' := h1 <;> (try simp only [decide_eq_true_eq, decide_eq_false_iff_not, Bool.and_eq_true, Bool.or_eq_true, Bool.and_eq_false_iff, Bool.or_eq_false_iff, Bool.not_eq_true', Bool.not_eq_false', Bool.not_eq_true, Bool.not_eq_false, Int.not_le, Int.not_lt, Classical.not_not, Decidable.not_not, ne_eq, beq_iff_eq, bne_iff_ne] at h1')
  · rw [show decide (a = b) = false from decide_eq_false fun e => by rw [e] at h1'; exact h1' rfl] at hK
    (repeat (first | ((with_reducible apply zr_seq)) | ((with_reducible apply zr_region); (try simp only [List.append_eq, List.cons_append, List.nil_append])) | ((with_reducible apply zo_end)) | ((with_reducible apply zs_assign); (exact rfl); (exact rfl)) | ((with_reducible apply zr_retZ); (exact rfl); (repeat (first | exact resD_nil _ _ _ | ((with_reducible apply resD_tmp); (exact rfl)) | ((with_reducible apply resD_cell_agg); (exact rfl); (exact sh_of rfl); (first | assumption | exact St.setH_self _ _ _); (exact rfl)) | ((with_reducible apply resD_cell); (exact rfl); (exact sh_of rfl); (first | assumption | exact St.setH_self _ _ _); (exact rfl)))); (simp only [resOf]))))
    exact KE.mk _ (Ext.refl _) hK
  (repeat (first | ((with_reducible apply zr_seq)) | ((with_reducible apply zr_region); (try simp only [List.append_eq, List.cons_append, List.nil_append])) | ((with_reducible apply zo_end)) | ((with_reducible apply zs_assign); (exact rfl); (exact rfl)) | ((with_reducible apply zr_block)) | ((with_reducible apply zr_skip'))))
  refine zr_loopK [0, 1] (fun m e s => ∃ i : Nat, m + i = a.length ∧ e = [(5, .v (.int .i64 (i : Nat)))] ∧ a.take i = b.take i ∧ s = st) a.length _ zq23 ⟨0, by simp, rfl, rfl, rfl⟩ zq27 ?_
  rintro m e s ⟨i, hm, rfl, htk, rfl⟩
  (repeat (first | ((with_reducible apply zr_seq)) | ((with_reducible apply zr_region); (try simp only [List.append_eq, List.cons_append, List.nil_append])) | ((with_reducible apply zo_end)) | ((with_reducible apply zs_move); (exact rfl); (exact rfl)) | ((with_reducible apply zs_lss); (exact rfl); (exact rfl); (exact rfl)) | ((with_reducible apply zs_len); (exact rfl); (exact rfl); (exact un_sl rfl))))
  (first | refine zr_cond rfl (fun h2 => ?_) (fun h2 => ?_) | refine zs_split rfl rfl (fun h2 => ?_) (fun h2 => ?_)) <;> have h2' := h2 <;> (try simp only [decide_eq_true_eq, decide_eq_false_iff_not, Bool.and_eq_true, Bool.or_eq_true, Bool.and_eq_false_iff, Bool.or_eq_false_iff, Bool.not_eq_true', Bool.not_eq_false', Bool.not_eq_true, Bool.not_eq_false, Int.not_le, Int.not_lt, Classical.not_not, Decidable.not_not, ne_eq, beq_iff_eq, bne_iff_ne] at h2')
  · obtain ⟨ca, ha1, ha2, _, hca⟩ := eltI (l := a) (i := i) (by omega)
    obtain ⟨cb, hb1, hb2, _, hcb⟩ := eltI (l := b) (i := i) (by omega)
    have hsu := take_succ_eq ha1 hb1 htk
    (repeat (first | ((with_reducible apply zr_seq)) | ((with_reducible apply zr_block)) | ((with_reducible apply zr_skip'))))
    refine za_begin (m := 9) zq43 rfl ?_
    refine za_take (i := 0) rfl zq43 zq43 zq43 zq31 rfl rfl (ZPure0.pure (zp_move rfl rfl)) ?_
    refine za_take (i := 1) rfl zq43 zq43 zq43 zq31 rfl rfl (ZPure0.pure (zp_move rfl rfl)) ?_
    refine za_take (i := 2) rfl zq43 zq43 zq43 zq31 rfl rfl zq1 ?_
    refine za_take (i := 3) rfl zq43 zq43 zq43 zq31 rfl rfl zq29 ?_
    refine za_take (i := 4) rfl zq43 zq43 zq43 zq31 rfl rfl (ZPure0.pure (zp_move rfl rfl)) ?_
    refine za_take (i := 5) rfl zq43 zq43 zq43 zq31 rfl rfl (ZPure0.pure (zp_move rfl rfl)) ?_
    refine za_take (i := 6) rfl zq43 zq43 zq43 zq31 rfl rfl zq1 ?_
    refine za_take (i := 7) rfl zq43 zq43 zq43 zq31 rfl rfl zq29 ?_
    refine za_take (i := 8) rfl zq43 zq43 zq43 zq31 rfl rfl (ZPure0.pure (zp_neq rfl rfl rfl)) ?_
    first | refine za_end zq43 ?_ | refine za_endB zq43 ?_ | refine za_endBB zq43 ?_ | refine za_done zq43 ?_
    skip
    (first | refine zr_cond rfl (fun h3 => ?_) (fun h3 => ?_) | refine zs_split rfl rfl (fun h3 => ?_) (fun h3 => ?_)) <;> have h3' := h3 <;> (try simp only [decide_eq_true_eq, decide_eq_false_iff_not, Bool.and_eq_true, Bool.or_eq_true, Bool.and_eq_false_iff, Bool.or_eq_false_iff, Bool.not_eq_true', Bool.not_eq_false', Bool.not_eq_true, Bool.not_eq_false, Int.not_le, Int.not_lt, Classical.not_not, Decidable.not_not, ne_eq, beq_iff_eq, bne_iff_ne] at h3')
    · rw [show decide (a = b) = false from decide_eq_false (ne_of_elt ha1 hb1 h3')] at hK
      (repeat (first | ((with_reducible apply zr_seq)) | ((with_reducible apply zr_region); (try simp only [List.append_eq, List.cons_append, List.nil_append])) | ((with_reducible apply zo_end)) | ((with_reducible apply zs_assign); (exact rfl); (exact rfl)) | ((with_reducible apply zr_retZ); (exact rfl); (repeat (first | exact resD_nil _ _ _ | ((with_reducible apply resD_tmp); (exact rfl)) | ((with_reducible apply resD_cell_agg); (exact rfl); (exact sh_of rfl); (first | assumption | exact St.setH_self _ _ _); (exact rfl)) | ((with_reducible apply resD_cell); (exact rfl); (exact sh_of rfl); (first | assumption | exact St.setH_self _ _ _); (exact rfl)))); (simp only [resOf]))))
      exact KE.mk _ (Ext.refl _) hK
    · (repeat (first | ((with_reducible apply zr_region); (try simp only [List.append_eq, List.cons_append, List.nil_append])) | ((with_reducible apply zo_end)) | ((with_reducible apply zs_move); (exact rfl); (exact rfl)) | ((with_reducible apply zs_assign); (exact rfl); (exact rfl)) | ((with_reducible apply zs_add); (exact rfl); (exact rfl); (exact rfl); (first | (with_reducible assumption) | exact wrap_in64 (by omega) (by omega))) | ((with_reducible apply zr_skipB))))
      exact ⟨m - 1, _, by omega, ⟨i + 1, by omega, rfl, hsu.2 h3', rfl⟩, zq27, zq27⟩
  · rw [show decide (a = b) = true from decide_eq_true (eq_of_takes htk (by omega) (by omega))] at hK
    (repeat (first | ((with_reducible apply zr_seq)) | ((with_reducible apply zr_region); (try simp only [List.append_eq, List.cons_append, List.nil_append])) | ((with_reducible apply zo_end)) | ((with_reducible apply zs_assign); (exact rfl); (exact rfl)) | (with_reducible refine zr_exit ?_; simp only [Zthen, Zblock, ↓reduceIte]) | ((with_reducible apply zr_retZ); (exact rfl); (repeat (first | exact resD_nil _ _ _ | ((with_reducible apply resD_tmp); (exact rfl)) | ((with_reducible apply resD_cell_agg); (exact rfl); (exact sh_of rfl); (first | assumption | exact St.setH_self _ _ _); (exact rfl)) | ((with_reducible apply resD_cell); (exact rfl); (exact sh_of rfl); (first | assumption | exact St.setH_self _ _ _); (exact rfl)))); (simp only [resOf]))))
    exact KE.mk _ (Ext.refl _) hK
theorem sameMs_pf {a b : List MsgV} {ta tb : Nat} (h : a.length ≤ 4611686018427387904) : PureF Try.prog 64 [.row (msgR a) 3 ta, .row (msgR b) 3 tb] (.v (.bool (decide (a = b)))) := by
  refine pure_of Try.func64 rfl Try.results64 (by rw [Try.ntmps64]; simp) (fun w0 st K hK => ?_); rw [Try.ntmps64]
  have hra : (msgR a).length = a.length := msgR_length a
  have hrb : (msgR b).length = b.length := msgR_length b
  (repeat (first | ((with_reducible apply zr_seq)) | ((with_reducible apply zr_region); (try simp only [List.append_eq, List.cons_append, List.nil_append])) | ((with_reducible apply zo_end)) | ((with_reducible apply zs_move); (exact rfl); (exact rfl)) | ((with_reducible apply zs_assign); (exact rfl); (exact rfl)) | ((with_reducible apply zs_neq); (exact rfl); (exact rfl); (exact rfl)) | ((with_reducible apply zs_len); (exact rfl); (exact rfl); (exact un_sl rfl))))
  (first | refine zr_cond rfl (fun h1 => ?_) (fun h1 => ?_) | refine zs_split rfl rfl (fun h1 => ?_) (fun h1 => ?_)) <;> have h1' := h1 <;> (try simp only [decide_eq_true_eq, decide_eq_false_iff_not, Bool.and_eq_true, Bool.or_eq_true, Bool.and_eq_false_iff, Bool.or_eq_false_iff, Bool.not_eq_true', Bool.not_eq_false', Bool.not_eq_true, Bool.not_eq_false, Int.not_le, Int.not_lt, Classical.not_not, Decidable.not_not, ne_eq, beq_iff_eq, bne_iff_ne] at h1')
  · rw [show decide (a = b) = false from decide_eq_false fun e => by rw [e] at h1'; exact h1' rfl] at hK
    (repeat (first | ((with_reducible apply zr_seq)) | ((with_reducible apply zr_region); (try simp only [List.append_eq, List.cons_append, List.nil_append])) | ((with_reducible apply zo_end)) | ((with_reducible apply zs_assign); (exact rfl); (exact rfl)) | ((with_reducible apply zr_retZ); (exact rfl); (repeat (first | exact resD_nil _ _ _ | ((with_reducible apply resD_tmp); (exact rfl)) | ((with_reducible apply resD_cell_agg); (exact rfl); (exact sh_of rfl); (first | assumption | exact St.setH_self _ _ _); (exact rfl)) | ((with_reducible apply resD_cell); (exact rfl); (exact sh_of rfl); (first | assumption | exact St.setH_self _ _ _); (exact rfl)))); (simp only [resOf]))))
    exact KE.mk _ (Ext.refl _) hK
  (repeat (first | ((with_reducible apply zr_seq)) | ((with_reducible apply zr_region); (try simp only [List.append_eq, List.cons_append, List.nil_append])) | ((with_reducible apply zo_end)) | ((with_reducible apply zs_assign); (exact rfl); (exact rfl)) | ((with_reducible apply zr_block)) | ((with_reducible apply zr_skip'))))
  refine zr_loopK [0, 1] (fun m e s => ∃ i : Nat, m + i = a.length ∧ e = [(5, .v (.int .i64 (i : Nat)))] ∧ a.take i = b.take i ∧ s = st) a.length _ zq23 ⟨0, by simp, rfl, rfl, rfl⟩ zq27 ?_
  rintro m e s ⟨i, hm, rfl, htk, rfl⟩
  (repeat (first | ((with_reducible apply zr_seq)) | ((with_reducible apply zr_region); (try simp only [List.append_eq, List.cons_append, List.nil_append])) | ((with_reducible apply zo_end)) | ((with_reducible apply zs_move); (exact rfl); (exact rfl)) | ((with_reducible apply zs_lss); (exact rfl); (exact rfl); (exact rfl)) | ((with_reducible apply zs_len); (exact rfl); (exact rfl); (exact un_sl rfl))))
  (first | refine zr_cond rfl (fun h2 => ?_) (fun h2 => ?_) | refine zs_split rfl rfl (fun h2 => ?_) (fun h2 => ?_)) <;> have h2' := h2 <;> (try simp only [decide_eq_true_eq, decide_eq_false_iff_not, Bool.and_eq_true, Bool.or_eq_true, Bool.and_eq_false_iff, Bool.or_eq_false_iff, Bool.not_eq_true', Bool.not_eq_false', Bool.not_eq_true, Bool.not_eq_false, Int.not_le, Int.not_lt, Classical.not_not, Decidable.not_not, ne_eq, beq_iff_eq, bne_iff_ne] at h2')
  · obtain ⟨ca, ha1, ha2, _, hca⟩ := eltM (l := a) (i := i) (by omega)
    obtain ⟨cb, hb1, hb2, _, hcb⟩ := eltM (l := b) (i := i) (by omega)
    have hsu := take_succ_eq ha1 hb1 htk
    (repeat (first | ((with_reducible apply zr_seq)) | ((with_reducible apply zr_block)) | ((with_reducible apply zr_skip'))))
    refine za_begin (m := 10) zq43 rfl ?_
    refine za_take (i := 0) rfl zq43 zq43 zq43 zq31 rfl rfl (ZPure0.pure (zp_move rfl rfl)) ?_
    refine za_take (i := 1) rfl zq43 zq43 zq43 zq31 rfl rfl (ZPure0.pure (zp_move rfl rfl)) ?_
    refine za_take (i := 2) rfl zq43 zq43 zq43 zq31 rfl rfl zq1 ?_
    refine za_take (i := 3) rfl zq43 zq43 zq43 zq31 rfl rfl zq29 ?_
    refine za_take (i := 4) rfl zq43 zq43 zq43 zq31 rfl rfl (ZPure0.pure (zp_move rfl rfl)) ?_
    refine za_take (i := 5) rfl zq43 zq43 zq43 zq31 rfl rfl (ZPure0.pure (zp_move rfl rfl)) ?_
    refine za_take (i := 6) rfl zq43 zq43 zq43 zq31 rfl rfl zq1 ?_
    refine za_take (i := 7) rfl zq43 zq43 zq43 zq31 rfl rfl zq29 ?_
    refine za_one (i := 8) zq43 rfl zq31 (zop_callQ samem_pf cl_20 rfl rfl (by decide) rfl rfl zq24 zq16 ?_)
    refine za_take (i := 9) rfl zq43 zq43 zq43 zq31 rfl rfl (ZPure0.pure (zp_not rfl rfl)) ?_
    first | refine za_end zq43 ?_ | refine za_endB zq43 ?_ | refine za_endBB zq43 ?_ | refine za_done zq43 ?_
    skip
    (first | refine zr_cond rfl (fun h3 => ?_) (fun h3 => ?_) | refine zs_split rfl rfl (fun h3 => ?_) (fun h3 => ?_)) <;> have h3' := h3 <;> (try simp only [decide_eq_true_eq, decide_eq_false_iff_not, Bool.and_eq_true, Bool.or_eq_true, Bool.and_eq_false_iff, Bool.or_eq_false_iff, Bool.not_eq_true', Bool.not_eq_false', Bool.not_eq_true, Bool.not_eq_false, Int.not_le, Int.not_lt, Classical.not_not, Decidable.not_not, ne_eq, beq_iff_eq, bne_iff_ne] at h3')
    · rw [show decide (a = b) = false from decide_eq_false (ne_of_elt ha1 hb1 (by simpa using h3'))] at hK
      (repeat (first | ((with_reducible apply zr_seq)) | ((with_reducible apply zr_region); (try simp only [List.append_eq, List.cons_append, List.nil_append])) | ((with_reducible apply zo_end)) | ((with_reducible apply zs_assign); (exact rfl); (exact rfl)) | ((with_reducible apply zr_retZ); (exact rfl); (repeat (first | exact resD_nil _ _ _ | ((with_reducible apply resD_tmp); (exact rfl)) | ((with_reducible apply resD_cell_agg); (exact rfl); (exact sh_of rfl); (first | assumption | exact St.setH_self _ _ _); (exact rfl)) | ((with_reducible apply resD_cell); (exact rfl); (exact sh_of rfl); (first | assumption | exact St.setH_self _ _ _); (exact rfl)))); (simp only [resOf]))))
      exact KE.mk _ (Ext.refl _) hK
    · (repeat (first | ((with_reducible apply zr_region); (try simp only [List.append_eq, List.cons_append, List.nil_append])) | ((with_reducible apply zo_end)) | ((with_reducible apply zs_move); (exact rfl); (exact rfl)) | ((with_reducible apply zs_assign); (exact rfl); (exact rfl)) | ((with_reducible apply zs_add); (exact rfl); (exact rfl); (exact rfl); (first | (with_reducible assumption) | exact wrap_in64 (by omega) (by omega))) | ((with_reducible apply zr_skipB))))
      exact ⟨m - 1, _, by omega, ⟨i + 1, by omega, rfl, hsu.2 (by simpa using h3'), rfl⟩, zq27, zq27⟩
  · rw [show decide (a = b) = true from decide_eq_true (eq_of_takes htk (by omega) (by omega))] at hK
    (repeat (first | ((with_reducible apply zr_seq)) | ((with_reducible apply zr_region); (try simp only [List.append_eq, List.cons_append, List.nil_append])) | ((with_reducible apply zo_end)) | ((with_reducible apply zs_assign); (exact rfl); (exact rfl)) | (with_reducible refine zr_exit ?_; simp only [Zthen, Zblock, ↓reduceIte]) | ((with_reducible apply zr_retZ); (exact rfl); (repeat (first | exact resD_nil _ _ _ | ((with_reducible apply resD_tmp); (exact rfl)) | ((with_reducible apply resD_cell_agg); (exact rfl); (exact sh_of rfl); (first | assumption | exact St.setH_self _ _ _); (exact rfl)) | ((with_reducible apply resD_cell); (exact rfl); (exact sh_of rfl); (first | assumption | exact St.setH_self _ _ _); (exact rfl)))); (simp only [resOf]))))
    exact KE.mk _ (Ext.refl _) hK
theorem sameR_pf {a b : List Bs} {ta tb : Nat} (h : a.length ≤ 4611686018427387904) : PureF Try.prog 62 [.row (rowR a) 1 ta, .row (rowR b) 1 tb] (.v (.bool (decide (a = b)))) := by
  refine pure_of Try.func62 rfl Try.results62 (by rw [Try.ntmps62]; simp) (fun w0 st K hK => ?_); rw [Try.ntmps62]
  have hra : (rowR a).length = a.length := rowR_length a
  have hrb : (rowR b).length = b.length := rowR_length b
  (repeat (first | ((with_reducible apply zr_seq)) | ((with_reducible apply zr_region); (try simp only [List.append_eq, List.cons_append, List.nil_append])) | ((with_reducible apply zo_end)) | ((with_reducible apply zs_move); (exact rfl); (exact rfl)) | ((with_reducible apply zs_assign); (exact rfl); (exact rfl)) | ((with_reducible apply zs_neq); (exact rfl); (exact rfl); (exact rfl)) | ((with_reducible apply zs_len); (exact rfl); (exact rfl); (exact un_sl rfl))))
  (first | refine zr_cond rfl (fun h1 => ?_) (fun h1 => ?_) | refine zs_split rfl rfl (fun h1 => ?_) (fun h1 => ?_)) <;> have h1' := h1 <;> (try simp only [decide_eq_true_eq, decide_eq_false_iff_not, Bool.and_eq_true, Bool.or_eq_true, Bool.and_eq_false_iff, Bool.or_eq_false_iff, Bool.not_eq_true', Bool.not_eq_false', Bool.not_eq_true, Bool.not_eq_false, Int.not_le, Int.not_lt, Classical.not_not, Decidable.not_not, ne_eq, beq_iff_eq, bne_iff_ne] at h1')
  · rw [show decide (a = b) = false from decide_eq_false fun e => by rw [e] at h1'; exact h1' rfl] at hK
    (repeat (first | ((with_reducible apply zr_seq)) | ((with_reducible apply zr_region); (try simp only [List.append_eq, List.cons_append, List.nil_append])) | ((with_reducible apply zo_end)) | ((with_reducible apply zs_assign); (exact rfl); (exact rfl)) | ((with_reducible apply zr_retZ); (exact rfl); (repeat (first | exact resD_nil _ _ _ | ((with_reducible apply resD_tmp); (exact rfl)) | ((with_reducible apply resD_cell_agg); (exact rfl); (exact sh_of rfl); (first | assumption | exact St.setH_self _ _ _); (exact rfl)) | ((with_reducible apply resD_cell); (exact rfl); (exact sh_of rfl); (first | assumption | exact St.setH_self _ _ _); (exact rfl)))); (simp only [resOf]))))
    exact KE.mk _ (Ext.refl _) hK
  (repeat (first | ((with_reducible apply zr_seq)) | ((with_reducible apply zr_region); (try simp only [List.append_eq, List.cons_append, List.nil_append])) | ((with_reducible apply zo_end)) | ((with_reducible apply zs_assign); (exact rfl); (exact rfl)) | ((with_reducible apply zr_block)) | ((with_reducible apply zr_skip'))))
  refine zr_loopK [0, 1] (fun m e s => ∃ i : Nat, m + i = a.length ∧ e = [(5, .v (.int .i64 (i : Nat)))] ∧ a.take i = b.take i ∧ s = st) a.length _ zq23 ⟨0, by simp, rfl, rfl, rfl⟩ zq27 ?_
  rintro m e s ⟨i, hm, rfl, htk, rfl⟩
  (repeat (first | ((with_reducible apply zr_seq)) | ((with_reducible apply zr_region); (try simp only [List.append_eq, List.cons_append, List.nil_append])) | ((with_reducible apply zo_end)) | ((with_reducible apply zs_move); (exact rfl); (exact rfl)) | ((with_reducible apply zs_lss); (exact rfl); (exact rfl); (exact rfl)) | ((with_reducible apply zs_len); (exact rfl); (exact rfl); (exact un_sl rfl))))
  (first | refine zr_cond rfl (fun h2 => ?_) (fun h2 => ?_) | refine zs_split rfl rfl (fun h2 => ?_) (fun h2 => ?_)) <;> have h2' := h2 <;> (try simp only [decide_eq_true_eq, decide_eq_false_iff_not, Bool.and_eq_true, Bool.or_eq_true, Bool.and_eq_false_iff, Bool.or_eq_false_iff, Bool.not_eq_true', Bool.not_eq_false', Bool.not_eq_true, Bool.not_eq_false, Int.not_le, Int.not_lt, Classical.not_not, Decidable.not_not, ne_eq, beq_iff_eq, bne_iff_ne] at h2')
  · obtain ⟨ca, ha1, ha2, _, hca⟩ := eltK (l := a) (i := i) (by omega)
    obtain ⟨cb, hb1, hb2, _, hcb⟩ := eltK (l := b) (i := i) (by omega)
    have hsu := take_succ_eq ha1 hb1 htk
    (repeat (first | ((with_reducible apply zr_seq)) | ((with_reducible apply zr_block)) | ((with_reducible apply zr_skip'))))
    refine za_begin (m := 10) zq43 rfl ?_
    refine za_take (i := 0) rfl zq43 zq43 zq43 zq31 rfl rfl (ZPure0.pure (zp_move rfl rfl)) ?_
    refine za_take (i := 1) rfl zq43 zq43 zq43 zq31 rfl rfl (ZPure0.pure (zp_move rfl rfl)) ?_
    refine za_take (i := 2) rfl zq43 zq43 zq43 zq31 rfl rfl zq1 ?_
    refine za_take (i := 3) rfl zq43 zq43 zq43 zq31 rfl rfl zq29 ?_
    refine za_take (i := 4) rfl zq43 zq43 zq43 zq31 rfl rfl (ZPure0.pure (zp_move rfl rfl)) ?_
    refine za_take (i := 5) rfl zq43 zq43 zq43 zq31 rfl rfl (ZPure0.pure (zp_move rfl rfl)) ?_
    refine za_take (i := 6) rfl zq43 zq43 zq43 zq31 rfl rfl zq1 ?_
    refine za_take (i := 7) rfl zq43 zq43 zq43 zq31 rfl rfl zq29 ?_
    refine za_one (i := 8) zq43 rfl zq31 (zop_callQ same_pf cl_19 rfl rfl (by decide) rfl rfl zq24 zq16 ?_)
    refine za_take (i := 9) rfl zq43 zq43 zq43 zq31 rfl rfl (ZPure0.pure (zp_not rfl rfl)) ?_
    first | refine za_end zq43 ?_ | refine za_endB zq43 ?_ | refine za_endBB zq43 ?_ | refine za_done zq43 ?_
    skip
    (first | refine zr_cond rfl (fun h3 => ?_) (fun h3 => ?_) | refine zs_split rfl rfl (fun h3 => ?_) (fun h3 => ?_)) <;> have h3' := h3 <;> (try simp only [decide_eq_true_eq, decide_eq_false_iff_not, Bool.and_eq_true, Bool.or_eq_true, Bool.and_eq_false_iff, Bool.or_eq_false_iff, Bool.not_eq_true', Bool.not_eq_false', Bool.not_eq_true, Bool.not_eq_false, Int.not_le, Int.not_lt, Classical.not_not, Decidable.not_not, ne_eq, beq_iff_eq, bne_iff_ne] at h3')
    · rw [show decide (a = b) = false from decide_eq_false (ne_of_elt ha1 hb1 (by simpa using h3'))] at hK
      (repeat (first | ((with_reducible apply zr_seq)) | ((with_reducible apply zr_region); (try simp only [List.append_eq, List.cons_append, List.nil_append])) | ((with_reducible apply zo_end)) | ((with_reducible apply zs_assign); (exact rfl); (exact rfl)) | ((with_reducible apply zr_retZ); (exact rfl); (repeat (first | exact resD_nil _ _ _ | ((with_reducible apply resD_tmp); (exact rfl)) | ((with_reducible apply resD_cell_agg); (exact rfl); (exact sh_of rfl); (first | assumption | exact St.setH_self _ _ _); (exact rfl)) | ((with_reducible apply resD_cell); (exact rfl); (exact sh_of rfl); (first | assumption | exact St.setH_self _ _ _); (exact rfl)))); (simp only [resOf]))))
      exact KE.mk _ (Ext.refl _) hK
    · (repeat (first | ((with_reducible apply zr_region); (try simp only [List.append_eq, List.cons_append, List.nil_append])) | ((with_reducible apply zo_end)) | ((with_reducible apply zs_move); (exact rfl); (exact rfl)) | ((with_reducible apply zs_assign); (exact rfl); (exact rfl)) | ((with_reducible apply zs_add); (exact rfl); (exact rfl); (exact rfl); (first | (with_reducible assumption) | exact wrap_in64 (by omega) (by omega))) | ((with_reducible apply zr_skipB))))
      exact ⟨m - 1, _, by omega, ⟨i + 1, by omega, rfl, hsu.2 (by simpa using h3'), rfl⟩, zq27, zq27⟩
  · rw [show decide (a = b) = true from decide_eq_true (eq_of_takes htk (by omega) (by omega))] at hK
    (repeat (first | ((with_reducible apply zr_seq)) | ((with_reducible apply zr_region); (try simp only [List.append_eq, List.cons_append, List.nil_append])) | ((with_reducible apply zo_end)) | ((with_reducible apply zs_assign); (exact rfl); (exact rfl)) | (with_reducible refine zr_exit ?_; simp only [Zthen, Zblock, ↓reduceIte]) | ((with_reducible apply zr_retZ); (exact rfl); (repeat (first | exact resD_nil _ _ _ | ((with_reducible apply resD_tmp); (exact rfl)) | ((with_reducible apply resD_cell_agg); (exact rfl); (exact sh_of rfl); (first | assumption | exact St.setH_self _ _ _); (exact rfl)) | ((with_reducible apply resD_cell); (exact rfl); (exact sh_of rfl); (first | assumption | exact St.setH_self _ _ _); (exact rfl)))); (simp only [resOf]))))
    exact KE.mk _ (Ext.refl _) hK
/-- A node whose lists are not beyond all bounds. -/
def NB (n : NodeV) : Prop := n.keys.length ≤ 4611686018427387904 ∧ n.vals.length ≤ 4611686018427387904 ∧ n.kids.length ≤ 4611686018427387904 ∧ n.msgs.length ≤ 4611686018427387904
theorem sameN_pf {a b : NodeV} (h : NB a) : PureF Try.prog 27 [.agg (nodeD a), .agg (nodeD b)] (.v (.bool (decide (a = b)))) := by
  obtain ⟨h1, h2, h3, h4⟩ := h
  refine pure_of Try.func27 rfl Try.results27 (by rw [Try.ntmps27]; simp) (fun w0 st K hK => ?_); rw [Try.ntmps27]
  (repeat (first | ((with_reducible apply zr_seq)) | ((with_reducible apply zr_region); (try simp only [List.append_eq, List.cons_append, List.nil_append])) | ((with_reducible apply zo_end)) | ((with_reducible apply zs_move); (exact rfl); (exact rfl)) | ((with_reducible apply zs_assign); (exact rfl); (exact rfl)) | ((with_reducible apply zs_field_ref); (exact rfl); (exact rfl); (exact fld_of rfl)) | ((with_reducible apply zs_load_ref); (exact rfl); (exact rfl); (exact sh_of rfl); (exact rfl)) | ((with_reducible apply zs_beq); (exact rfl); (exact rfl); (exact rfl); (exact Try.underlying4)) | ((with_reducible apply zs_and); (exact rfl); (exact rfl); (intro hp_; first | exact congrArg some (gd_t hp_) | exact rfl); (exact rfl)) | ((with_reducible apply (zs_boxRef (t := 2))); (exact rfl); (exact rfl)) | ((with_reducible apply (zs_boxRef (t := 3))); (exact rfl); (exact rfl)) | ((with_reducible apply (zs_h_field_ref [])); (exact rfl); (first | exact GC.t rfl rfl | exact GC.f rfl rfl | exact GC.gt rfl rfl | exact GC.gf rfl rfl); (exact rfl); (intro hc_; first | exact congrArg some (gd_t hc_) | exact congrArg some (gd_t (band_l hc_)) | exact congrArg some (gd_t (band_l (band_l hc_))) | exact rfl); (intro _; exact fld_of rfl)) | ((with_reducible apply (zs_h_load_ref [])); (exact rfl); (first | exact GC.t rfl rfl | exact GC.f rfl rfl | exact GC.gt rfl rfl | exact GC.gf rfl rfl); (exact rfl); (intro hc_; first | exact congrArg some (gd_t hc_) | exact congrArg some (gd_t (band_l hc_)) | exact congrArg some (gd_t (band_l (band_l hc_))) | exact rfl); (intro _; exact sh_of rfl); (intro _; exact rfl)) | ((with_reducible apply (zs_h_callQ [] sameR_pf cl_62)); (exact rfl); (first | exact GC.t rfl rfl | exact GC.f rfl rfl | exact GC.gt rfl rfl | exact GC.gf rfl rfl); (exact rfl); (intro hc_; (repeat ((with_reducible apply evs_cons); (first | exact congrArg some (gd_t hc_) | exact congrArg some (gd_t (band_l hc_)) | exact rfl))); exact evs_nil); ((repeat (first | exact DLes.nil | (apply DLes.cons; first | exact DLe.refl _ | exact DLe.nilB | exact DLe.nilR | exact DLe.nilI)))); (intro hc_; first | exact trivial | assumption | ((try simp only [Bool.and_eq_true, decide_eq_true_eq, Bool.not_eq_true'] at hc_); (repeat' (with_reducible refine And.intro ?_ ?_)) <;> first | assumption | omega | exact trivial | (simp; done) | (simp; omega)))) | ((with_reducible apply (zs_h_callQ [] sameMs_pf cl_64)); (exact rfl); (first | exact GC.t rfl rfl | exact GC.f rfl rfl | exact GC.gt rfl rfl | exact GC.gf rfl rfl); (exact rfl); (intro hc_; (repeat ((with_reducible apply evs_cons); (first | exact congrArg some (gd_t hc_) | exact congrArg some (gd_t (band_l hc_)) | exact rfl))); exact evs_nil); ((repeat (first | exact DLes.nil | (apply DLes.cons; first | exact DLe.refl _ | exact DLe.nilB | exact DLe.nilR | exact DLe.nilI)))); (intro hc_; first | exact trivial | assumption | ((try simp only [Bool.and_eq_true, decide_eq_true_eq, Bool.not_eq_true'] at hc_); (repeat' (with_reducible refine And.intro ?_ ?_)) <;> first | assumption | omega | exact trivial | (simp; done) | (simp; omega)))) | ((with_reducible apply (zs_h_callQ [] sameI_pf cl_63)); (exact rfl); (first | exact GC.t rfl rfl | exact GC.f rfl rfl | exact GC.gt rfl rfl | exact GC.gf rfl rfl); (exact rfl); (intro hc_; (repeat ((with_reducible apply evs_cons); (first | exact congrArg some (gd_t hc_) | exact congrArg some (gd_t (band_l hc_)) | exact rfl))); exact evs_nil); ((repeat (first | exact DLes.nil | (apply DLes.cons; first | exact DLe.refl _ | exact DLe.nilB | exact DLe.nilR | exact DLe.nilI)))); (intro hc_; first | exact trivial | assumption | ((try simp only [Bool.and_eq_true, decide_eq_true_eq, Bool.not_eq_true'] at hc_); (repeat' (with_reducible refine And.intro ?_ ?_)) <;> first | assumption | omega | exact trivial | (simp; done) | (simp; omega)))) | ((with_reducible apply zr_retZ); (exact rfl); (repeat (first | exact resD_nil _ _ _ | ((with_reducible apply resD_tmp); (exact rfl)) | ((with_reducible apply resD_cell_agg); (exact rfl); (exact sh_of rfl); (first | assumption | exact St.setH_self _ _ _); (exact rfl)) | ((with_reducible apply resD_cell); (exact rfl); (exact sh_of rfl); (first | assumption | exact St.setH_self _ _ _); (exact rfl)))); (simp only [resOf]))))
  have e : ((a.leaf == b.leaf) && decide (a.keys = b.keys) && decide (a.vals = b.vals) && decide (a.kids = b.kids) && decide (a.msgs = b.msgs)) = decide (a = b) := by
    obtain ⟨a1, a2, a3, a4, a5⟩ := a
    obtain ⟨b1, b2, b3, b4, b5⟩ := b
    cases a1 <;> cases b1 <;> simp [Bool.and_assoc]
  refine KE.mk _ (Ext.refl _) ?_
  rw [e]
  exact hK
end Go.Proofs.ZtLe
