/- A part of the proof of NodeBack: walks of the functions that it reaches. No condition. -/
import Derived.Test.YtocpidlgcakldaaZtP3
import Derived.Test.YtocpidlgcakldaaZmP2
import Derived.Test.YtocpidlgcakldaaZmAuto
namespace Go.Proofs.ZtLe
open Go.RowKit Go.Proofs Go.Proofs.Zm
set_option linter.unusedVariables false
set_option linter.unusedSimpArgs false
set_option maxHeartbeats 20000000
set_option maxRecDepth 100000
attribute [local irreducible] ZWp ZOps ZPure ZPure0 ZVal ZOp SoundF
/-! ### values -/
abbrev MsgV := Int × Bs × Bs
def msgD (m : MsgV) : List D := [.v (.int .i64 m.1), .row (bytesD m.2.1) 1 0, .row (bytesD m.2.2) 1 0]
def msgR (l : List MsgV) : List (List D) := l.map msgD
abbrev PairV := Bs × Bs
def pairD (p : PairV) : List D := [.row (bytesD p.1) 1 0, .row (bytesD p.2) 1 0]
def pairR (l : List PairV) : List (List D) := l.map pairD
structure NodeV where
  leaf : Bool
  keys : List Bs
  vals : List Bs
  kids : List Int
  msgs : List MsgV
deriving DecidableEq
def nodeD (n : NodeV) : List D := [.v (.bool n.leaf), .row (rowR n.keys) 1 0, .row (rowR n.vals) 1 0, .row (intR n.kids) 1 0, .row (msgR n.msgs) 3 0]
def noNode : NodeV := ⟨false, [], [], [], []⟩
@[simp] theorem msgR_length (l : List MsgV) : (msgR l).length = l.length := by simp [msgR]
@[simp] theorem pairR_length (l : List PairV) : (pairR l).length = l.length := by simp [pairR]
theorem msgR_three (l : List MsgV) : ∀ x ∈ msgR l, x.length = 3 := fun x hx => by
  obtain ⟨c, _, rfl⟩ := List.mem_map.1 hx; rfl
theorem pairR_two (l : List PairV) : ∀ x ∈ pairR l, x.length = 2 := fun x hx => by
  obtain ⟨c, _, rfl⟩ := List.mem_map.1 hx; rfl
theorem msgR_append (l m : List MsgV) : msgR (l ++ m) = msgR l ++ msgR m := by simp [msgR]
theorem pairR_append (l m : List PairV) : pairR (l ++ m) = pairR l ++ pairR m := by simp [pairR]
theorem eltM {l : List MsgV} {i : Nat} (h : i < l.length) : ∃ c, l[i]? = some c ∧ l.take (i + 1) = l.take i ++ [c] ∧ l.drop i = c :: l.drop (i + 1) ∧ (msgR l).getD i [] = msgD c := by
  obtain ⟨c, h1, h2, h3, h4⟩ := elt h; exact ⟨c, h1, h2, h3, h4 _⟩
/-! ### bytes in order -/
theorem ext_cmp : ExtIs Try.prog 101 Extern.BytealgCompare.compare := ⟨_, Try.func101, by kernel_rfl, by kernel_rfl, by kernel_rfl, by kernel_rfl⟩
theorem compare_pf {l m : Bs} {tk tm : Nat} (h : True) : PureF Try.prog 88 [.row (bytesD l) 1 tk, .row (bytesD m) 1 tm] (.v (.int .i64 (Lib.compareBytes l m))) := by
  refine pure_of Try.func88 rfl Try.results88 (by rw [Try.ntmps88]; simp) (fun w0 st K hK => ?_); rw [Try.ntmps88]
  (repeat (first | ((with_reducible apply zr_seq)) | ((with_reducible apply zr_region); (try simp only [List.append_eq, List.cons_append, List.nil_append])) | ((with_reducible apply zo_end)) | ((with_reducible apply zs_move); (exact rfl); (exact rfl)) | ((with_reducible apply zs_assign); (exact rfl); (exact rfl))))
  (try ((with_reducible apply zs_yes); exact rfl; exact rfl; (first | assumption | exact rfl))); refine zo_pure rfl rfl (by decide) (zp_compare rfl ext_cmp rfl rfl) ?_
  (repeat (first | ((with_reducible apply zo_end)) | ((with_reducible apply zs_assign); (exact rfl); (exact rfl)) | ((with_reducible apply zr_retZ); (exact rfl); (repeat (first | exact resD_nil _ _ _ | ((with_reducible apply resD_tmp); (exact rfl)) | ((with_reducible apply resD_cell_agg); (exact rfl); (exact sh_of rfl); (first | assumption | exact St.setH_self _ _ _); (exact rfl)) | ((with_reducible apply resD_cell); (exact rfl); (exact sh_of rfl); (first | assumption | exact St.setH_self _ _ _); (exact rfl)))); (simp only [resOf]))))
  exact KE.mk _ (Ext.refl _) hK
theorem rless_pf {l m : Bs} {tk tm : Nat} (h : True) : PureF Try.prog 57 [.row (bytesD l) 1 tk, .row (bytesD m) 1 tm] (.v (.bool (lt l m))) := by
  refine pure_of Try.func57 rfl Try.results57 (by rw [Try.ntmps57]; simp) (fun w0 st K hK => ?_); rw [Try.ntmps57]
  (repeat (first | ((with_reducible apply zr_seq)) | ((with_reducible apply zr_region); (try simp only [List.append_eq, List.cons_append, List.nil_append])) | ((with_reducible apply zo_end)) | ((with_reducible apply zs_move); (exact rfl); (exact rfl)) | ((with_reducible apply zs_assign); (exact rfl); (exact rfl)) | ((with_reducible apply zs_strlss); (exact rfl); (exact rfl); (exact rfl)) | ((with_reducible apply zs_toStr); (exact rfl); (exact rfl); (exact un_sl rfl); (exact Try.underlying5); (exact Try.underlying9)) | ((with_reducible apply zr_retZ); (exact rfl); (repeat (first | exact resD_nil _ _ _ | ((with_reducible apply resD_tmp); (exact rfl)) | ((with_reducible apply resD_cell_agg); (exact rfl); (exact sh_of rfl); (first | assumption | exact St.setH_self _ _ _); (exact rfl)) | ((with_reducible apply resD_cell); (exact rfl); (exact sh_of rfl); (first | assumption | exact St.setH_self _ _ _); (exact rfl)))); (simp only [resOf]))))
  exact KE.mk _ (Ext.refl _) hK
theorem same_pf {l m : Bs} {tk tm : Nat} (h : True) : PureF Try.prog 19 [.row (bytesD l) 1 tk, .row (bytesD m) 1 tm] (.v (.bool (l == m))) := PureF.of same_snd fun st K hK => ⟨_, _, _, _, rfl, hK⟩
theorem samem_pf {a b : MsgV} (h : True) : PureF Try.prog 20 [.agg (msgD a), .agg (msgD b)] (.v (.bool (decide (a = b)))) := by
  refine pure_of Try.func20 rfl Try.results20 (by rw [Try.ntmps20]; simp) (fun w0 st K hK => ?_); rw [Try.ntmps20]
  (repeat (first | ((with_reducible apply zr_seq)) | ((with_reducible apply zr_region); (try simp only [List.append_eq, List.cons_append, List.nil_append])) | ((with_reducible apply zo_end)) | ((with_reducible apply zs_move); (exact rfl); (exact rfl)) | ((with_reducible apply zs_assign); (exact rfl); (exact rfl)) | ((with_reducible apply zs_eql); (exact rfl); (exact rfl); (exact rfl)) | ((with_reducible apply zs_field_ref); (exact rfl); (exact rfl); (exact fld_of rfl)) | ((with_reducible apply zs_load_ref); (exact rfl); (exact rfl); (exact sh_of rfl); (exact rfl)) | ((with_reducible apply zs_and); (exact rfl); (exact rfl); (intro hp_; first | exact congrArg some (gd_t hp_) | exact rfl); (exact rfl)) | ((with_reducible apply (zs_boxRef (t := 2))); (exact rfl); (exact rfl)) | ((with_reducible apply (zs_boxRef (t := 3))); (exact rfl); (exact rfl)) | ((with_reducible apply (zs_h_field_ref [])); (exact rfl); (first | exact GC.t rfl rfl | exact GC.f rfl rfl | exact GC.gt rfl rfl | exact GC.gf rfl rfl); (exact rfl); (intro hc_; first | exact congrArg some (gd_t hc_) | exact congrArg some (gd_t (band_l hc_)) | exact congrArg some (gd_t (band_l (band_l hc_))) | exact rfl); (intro _; exact fld_of rfl)) | ((with_reducible apply (zs_h_load_ref [])); (exact rfl); (first | exact GC.t rfl rfl | exact GC.f rfl rfl | exact GC.gt rfl rfl | exact GC.gf rfl rfl); (exact rfl); (intro hc_; first | exact congrArg some (gd_t hc_) | exact congrArg some (gd_t (band_l hc_)) | exact congrArg some (gd_t (band_l (band_l hc_))) | exact rfl); (intro _; exact sh_of rfl); (intro _; exact rfl)) | ((with_reducible apply (zs_h_callQ [] same_pf cl_19)); (exact rfl); (first | exact GC.t rfl rfl | exact GC.f rfl rfl | exact GC.gt rfl rfl | exact GC.gf rfl rfl); (exact rfl); (intro hc_; (repeat ((with_reducible apply evs_cons); (first | exact congrArg some (gd_t hc_) | exact congrArg some (gd_t (band_l hc_)) | exact rfl))); exact evs_nil); ((repeat (first | exact DLes.nil | (apply DLes.cons; first | exact DLe.refl _ | exact DLe.nilB | exact DLe.nilR | exact DLe.nilI)))); (intro hc_; first | exact trivial | assumption | ((try simp only [Bool.and_eq_true, decide_eq_true_eq, Bool.not_eq_true'] at hc_); (repeat' (with_reducible refine And.intro ?_ ?_)) <;> first | assumption | omega | exact trivial | (simp; done) | (simp; omega)))) | ((with_reducible apply zr_retZ); (exact rfl); (repeat (first | exact resD_nil _ _ _ | ((with_reducible apply resD_tmp); (exact rfl)) | ((with_reducible apply resD_cell_agg); (exact rfl); (exact sh_of rfl); (first | assumption | exact St.setH_self _ _ _); (exact rfl)) | ((with_reducible apply resD_cell); (exact rfl); (exact sh_of rfl); (first | assumption | exact St.setH_self _ _ _); (exact rfl)))); (simp only [resOf]))))
  have e : (decide (a.1 = b.1) && (a.2.1 == b.2.1) && (a.2.2 == b.2.2)) = decide (a = b) := by
    obtain ⟨a1, a2, a3⟩ := a
    obtain ⟨b1, b2, b3⟩ := b
    simp [Prod.mk.injEq, bs_beq, Bool.and_assoc]
  refine KE.mk _ (Ext.refl _) ?_
  rw [e]
  exact hK
/-! ### rows, compared -/
theorem sameI_pf {a b : List Int} {ta tb : Nat} (h : a.length ≤ 4611686018427387904) : PureF Try.prog 63 [.row (intR a) 1 ta, .row (intR b) 1 tb] (.v (.bool (decide (a = b)))) := by
  refine pure_of Try.func63 rfl Try.results63 (by rw [Try.ntmps63]; simp) (fun w0 st K hK => ?_); rw [Try.ntmps63]
  have hra : (intR a).length = a.length := intR_length a
  have hrb : (intR b).length = b.length := intR_length b
  (repeat (first | ((with_reducible apply zr_seq)) | ((with_reducible apply zr_region); (try simp only [List.append_eq, List.cons_append, List.nil_append])) | ((with_reducible apply zo_end)) | ((with_reducible apply zs_move); (exact rfl); (exact rfl)) | ((with_reducible apply zs_assign); (exact rfl); (exact rfl)) | ((with_reducible apply zs_neq); (exact rfl); (exact rfl); (exact rfl)) | ((with_reducible apply zs_len); (exact rfl); (exact rfl); (exact un_sl rfl))))
  (first | refine zr_cond rfl (fun h1 => ?_) (fun h1 => ?_) | refine zs_split rfl rfl (fun h1 => ?_) (fun h1 => ?_)) <;> have h1' := h1 <;> (try simp only [decide_eq_true_eq, decide_eq_false_iff_not, Bool.and_eq_true, Bool.or_eq_true, Bool.and_eq_false_iff, Bool.or_eq_false_iff, Bool.not_eq_true', Bool.not_eq_false', Bool.not_eq_true, Bool.not_eq_false, Int.not_le, Int.not_lt, Classical.not_not, Decidable.not_not, ne_eq, beq_iff_eq, bne_iff_ne] at h1')
  · rw [show decide (a = b) = false from decide_eq_false fun e => by rw [e] at h1'; exact h1' rfl] at hK
    (repeat (first | ((with_reducible apply zr_seq)) | ((with_reducible apply zr_region); (try simp only [List.append_eq, List.cons_append, List.nil_append])) | ((with_reducible apply zo_end)) | ((with_reducible apply zs_assign); (exact rfl); (exact rfl)) | ((with_reducible apply zr_retZ); (exact rfl); (repeat (first | exact resD_nil _ _ _ | ((with_reducible apply resD_tmp); (exact rfl)) | ((with_reducible apply resD_cell_agg); (exact rfl); (exact sh_of rfl); (first | assumption | exact St.setH_self _ _ _); (exact rfl)) | ((with_reducible apply resD_cell); (exact rfl); (exact sh_of rfl); (first | assumption | exact St.setH_self _ _ _); (exact rfl)))); (simp only [resOf]))))
    exact KE.mk _ (Ext.refl _) hK
  (repeat (first | ((with_reducible apply zr_seq)) | ((with_reducible apply zr_region); (try simp only [List.append_eq, List.cons_append, List.nil_append])) | ((with_reducible apply zo_end)) | ((with_reducible apply zs_assign); (exact rfl); (exact rfl)) | ((with_reducible apply zr_block)) | ((with_reducible apply zr_skip'))))
  refine zr_loopK [0, 1] (fun m e s => ∃ i : Nat, m + i = a.length ∧ e = [(5, .v (.int .i64 (i : Nat)))] ∧ a.take i = b.take i ∧ s = st) a.length _ zq19 ⟨0, by simp, rfl, rfl, rfl⟩ zq21 ?_
  rintro m e s ⟨i, hm, rfl, htk, rfl⟩
  (repeat (first | ((with_reducible apply zr_seq)) | ((with_reducible apply zr_region); (try simp only [List.append_eq, List.cons_append, List.nil_append])) | ((with_reducible apply zo_end)) | ((with_reducible apply zs_move); (exact rfl); (exact rfl)) | ((with_reducible apply zs_lss); (exact rfl); (exact rfl); (exact rfl)) | ((with_reducible apply zs_len); (exact rfl); (exact rfl); (exact un_sl rfl))))
  (first | refine zr_cond rfl (fun h2 => ?_) (fun h2 => ?_) | refine zs_split rfl rfl (fun h2 => ?_) (fun h2 => ?_)) <;> have h2' := h2 <;> (try simp only [decide_eq_true_eq, decide_eq_false_iff_not, Bool.and_eq_true, Bool.or_eq_true, Bool.and_eq_false_iff, Bool.or_eq_false_iff, Bool.not_eq_true', Bool.not_eq_false', Bool.not_eq_true, Bool.not_eq_false, Int.not_le, Int.not_lt, Classical.not_not, Decidable.not_not, ne_eq, beq_iff_eq, bne_iff_ne] at h2')
  · obtain ⟨ca, ha1, ha2, _, hca⟩ := eltI (l := a) (i := i) (by omega)
    obtain ⟨cb, hb1, hb2, _, hcb⟩ := eltI (l := b) (i := i) (by omega)
    have hsu := take_succ_eq ha1 hb1 htk
    (repeat (first | ((with_reducible apply zr_seq)) | ((with_reducible apply zr_block)) | ((with_reducible apply zr_skip'))))
    refine za_begin (m := 9) zq36 rfl ?_
    refine za_take (i := 0) rfl zq36 zq36 zq36 zq26 rfl rfl (ZPure0.pure (zp_move rfl rfl)) ?_
    refine za_take (i := 1) rfl zq36 zq36 zq36 zq26 rfl rfl (ZPure0.pure (zp_move rfl rfl)) ?_
    refine za_take (i := 2) rfl zq36 zq36 zq36 zq26 rfl rfl zq0 ?_
    refine za_take (i := 3) rfl zq36 zq36 zq36 zq26 rfl rfl zq23 ?_
    refine za_take (i := 4) rfl zq36 zq36 zq36 zq26 rfl rfl (ZPure0.pure (zp_move rfl rfl)) ?_
    refine za_take (i := 5) rfl zq36 zq36 zq36 zq26 rfl rfl (ZPure0.pure (zp_move rfl rfl)) ?_
    refine za_take (i := 6) rfl zq36 zq36 zq36 zq26 rfl rfl zq0 ?_
    refine za_take (i := 7) rfl zq36 zq36 zq36 zq26 rfl rfl zq23 ?_
    refine za_take (i := 8) rfl zq36 zq36 zq36 zq26 rfl rfl (ZPure0.pure (zp_neq rfl rfl rfl)) ?_
    refine za_end zq36 ?_
    skip
    (first | refine zr_cond rfl (fun h3 => ?_) (fun h3 => ?_) | refine zs_split rfl rfl (fun h3 => ?_) (fun h3 => ?_)) <;> have h3' := h3 <;> (try simp only [decide_eq_true_eq, decide_eq_false_iff_not, Bool.and_eq_true, Bool.or_eq_true, Bool.and_eq_false_iff, Bool.or_eq_false_iff, Bool.not_eq_true', Bool.not_eq_false', Bool.not_eq_true, Bool.not_eq_false, Int.not_le, Int.not_lt, Classical.not_not, Decidable.not_not, ne_eq, beq_iff_eq, bne_iff_ne] at h3')
    · rw [show decide (a = b) = false from decide_eq_false (ne_of_elt ha1 hb1 h3')] at hK
      (repeat (first | ((with_reducible apply zr_seq)) | ((with_reducible apply zr_region); (try simp only [List.append_eq, List.cons_append, List.nil_append])) | ((with_reducible apply zo_end)) | ((with_reducible apply zs_assign); (exact rfl); (exact rfl)) | ((with_reducible apply zr_retZ); (exact rfl); (repeat (first | exact resD_nil _ _ _ | ((with_reducible apply resD_tmp); (exact rfl)) | ((with_reducible apply resD_cell_agg); (exact rfl); (exact sh_of rfl); (first | assumption | exact St.setH_self _ _ _); (exact rfl)) | ((with_reducible apply resD_cell); (exact rfl); (exact sh_of rfl); (first | assumption | exact St.setH_self _ _ _); (exact rfl)))); (simp only [resOf]))))
      exact KE.mk _ (Ext.refl _) hK
    · (repeat (first | ((with_reducible apply zr_region); (try simp only [List.append_eq, List.cons_append, List.nil_append])) | ((with_reducible apply zo_end)) | ((with_reducible apply zs_move); (exact rfl); (exact rfl)) | ((with_reducible apply zs_assign); (exact rfl); (exact rfl)) | ((with_reducible apply zs_add); (exact rfl); (exact rfl); (exact rfl); (first | (with_reducible assumption) | exact wrap_in64 (by omega) (by omega))) | ((with_reducible apply zr_skipB))))
      exact ⟨m - 1, _, by omega, ⟨i + 1, by omega, rfl, hsu.2 h3', rfl⟩, zq21, zq21⟩
  · rw [show decide (a = b) = true from decide_eq_true (eq_of_takes htk (by omega) (by omega))] at hK
    (repeat (first | ((with_reducible apply zr_seq)) | ((with_reducible apply zr_region); (try simp only [List.append_eq, List.cons_append, List.nil_append])) | ((with_reducible apply zo_end)) | ((with_reducible apply zs_assign); (exact rfl); (exact rfl)) | (with_reducible refine zr_exit ?_; simp only [Zthen, Zblock, ↓reduceIte]) | ((with_reducible apply zr_retZ); (exact rfl); (repeat (first | exact resD_nil _ _ _ | ((with_reducible apply resD_tmp); (exact rfl)) | ((with_reducible apply resD_cell_agg); (exact rfl); (exact sh_of rfl); (first | assumption | exact St.setH_self _ _ _); (exact rfl)) | ((with_reducible apply resD_cell); (exact rfl); (exact sh_of rfl); (first | assumption | exact St.setH_self _ _ _); (exact rfl)))); (simp only [resOf]))))
    exact KE.mk _ (Ext.refl _) hK
theorem sameMs_pf {a b : List MsgV} {ta tb : Nat} (h : a.length ≤ 4611686018427387904) : PureF Try.prog 64 [.row (msgR a) 3 ta, .row (msgR b) 3 tb] (.v (.bool (decide (a = b)))) := by
  refine pure_of Try.func64 rfl Try.results64 (by rw [Try.ntmps64]; simp) (fun w0 st K hK => ?_); rw [Try.ntmps64]
  have hra : (msgR a).length = a.length := msgR_length a
  have hrb : (msgR b).length = b.length := msgR_length b
  (repeat (first | ((with_reducible apply zr_seq)) | ((with_reducible apply zr_region); (try simp only [List.append_eq, List.cons_append, List.nil_append])) | ((with_reducible apply zo_end)) | ((with_reducible apply zs_move); (exact rfl); (exact rfl)) | ((with_reducible apply zs_assign); (exact rfl); (exact rfl)) | ((with_reducible apply zs_neq); (exact rfl); (exact rfl); (exact rfl)) | ((with_reducible apply zs_len); (exact rfl); (exact rfl); (exact un_sl rfl))))
  (first | refine zr_cond rfl (fun h1 => ?_) (fun h1 => ?_) | refine zs_split rfl rfl (fun h1 => ?_) (fun h1 => ?_)) <;> have h1' := h1 <;> (try simp only [decide_eq_true_eq, decide_eq_false_iff_not, Bool.and_eq_true, Bool.or_eq_true, Bool.and_eq_false_iff, Bool.or_eq_false_iff, Bool.not_eq_true', Bool.not_eq_false', Bool.not_eq_true, Bool.not_eq_false, Int.not_le, Int.not_lt, Classical.not_not, Decidable.not_not, ne_eq, beq_iff_eq, bne_iff_ne] at h1')
  · rw [show decide (a = b) = false from decide_eq_false fun e => by rw [e] at h1'; exact h1' rfl] at hK
    (repeat (first | ((with_reducible apply zr_seq)) | ((with_reducible apply zr_region); (try simp only [List.append_eq, List.cons_append, List.nil_append])) | ((with_reducible apply zo_end)) | ((with_reducible apply zs_assign); (exact rfl); (exact rfl)) | ((with_reducible apply zr_retZ); (exact rfl); (repeat (first | exact resD_nil _ _ _ | ((with_reducible apply resD_tmp); (exact rfl)) | ((with_reducible apply resD_cell_agg); (exact rfl); (exact sh_of rfl); (first | assumption | exact St.setH_self _ _ _); (exact rfl)) | ((with_reducible apply resD_cell); (exact rfl); (exact sh_of rfl); (first | assumption | exact St.setH_self _ _ _); (exact rfl)))); (simp only [resOf]))))
    exact KE.mk _ (Ext.refl _) hK
  (repeat (first | ((with_reducible apply zr_seq)) | ((with_reducible apply zr_region); (try simp only [List.append_eq, List.cons_append, List.nil_append])) | ((with_reducible apply zo_end)) | ((with_reducible apply zs_assign); (exact rfl); (exact rfl)) | ((with_reducible apply zr_block)) | ((with_reducible apply zr_skip'))))
  refine zr_loopK [0, 1] (fun m e s => ∃ i : Nat, m + i = a.length ∧ e = [(5, .v (.int .i64 (i : Nat)))] ∧ a.take i = b.take i ∧ s = st) a.length _ zq19 ⟨0, by simp, rfl, rfl, rfl⟩ zq21 ?_
  rintro m e s ⟨i, hm, rfl, htk, rfl⟩
  (repeat (first | ((with_reducible apply zr_seq)) | ((with_reducible apply zr_region); (try simp only [List.append_eq, List.cons_append, List.nil_append])) | ((with_reducible apply zo_end)) | ((with_reducible apply zs_move); (exact rfl); (exact rfl)) | ((with_reducible apply zs_lss); (exact rfl); (exact rfl); (exact rfl)) | ((with_reducible apply zs_len); (exact rfl); (exact rfl); (exact un_sl rfl))))
  (first | refine zr_cond rfl (fun h2 => ?_) (fun h2 => ?_) | refine zs_split rfl rfl (fun h2 => ?_) (fun h2 => ?_)) <;> have h2' := h2 <;> (try simp only [decide_eq_true_eq, decide_eq_false_iff_not, Bool.and_eq_true, Bool.or_eq_true, Bool.and_eq_false_iff, Bool.or_eq_false_iff, Bool.not_eq_true', Bool.not_eq_false', Bool.not_eq_true, Bool.not_eq_false, Int.not_le, Int.not_lt, Classical.not_not, Decidable.not_not, ne_eq, beq_iff_eq, bne_iff_ne] at h2')
  · obtain ⟨ca, ha1, ha2, _, hca⟩ := eltM (l := a) (i := i) (by omega)
    obtain ⟨cb, hb1, hb2, _, hcb⟩ := eltM (l := b) (i := i) (by omega)
    have hsu := take_succ_eq ha1 hb1 htk
    (repeat (first | ((with_reducible apply zr_seq)) | ((with_reducible apply zr_block)) | ((with_reducible apply zr_skip'))))
    refine za_begin (m := 10) zq36 rfl ?_
    refine za_take (i := 0) rfl zq36 zq36 zq36 zq26 rfl rfl (ZPure0.pure (zp_move rfl rfl)) ?_
    refine za_take (i := 1) rfl zq36 zq36 zq36 zq26 rfl rfl (ZPure0.pure (zp_move rfl rfl)) ?_
    refine za_take (i := 2) rfl zq36 zq36 zq36 zq26 rfl rfl zq0 ?_
    refine za_take (i := 3) rfl zq36 zq36 zq36 zq26 rfl rfl zq23 ?_
    refine za_take (i := 4) rfl zq36 zq36 zq36 zq26 rfl rfl (ZPure0.pure (zp_move rfl rfl)) ?_
    refine za_take (i := 5) rfl zq36 zq36 zq36 zq26 rfl rfl (ZPure0.pure (zp_move rfl rfl)) ?_
    refine za_take (i := 6) rfl zq36 zq36 zq36 zq26 rfl rfl zq0 ?_
    refine za_take (i := 7) rfl zq36 zq36 zq36 zq26 rfl rfl zq23 ?_
    refine za_one (i := 8) zq36 rfl zq26 (zop_callQ samem_pf cl_20 rfl rfl (by decide) rfl rfl (by (repeat (first | exact DLes.nil | (apply DLes.cons; first | exact DLe.refl _ | exact DLe.nilB | exact DLe.nilR | exact DLe.nilI)))) zq13 ?_)
    refine za_take (i := 9) rfl zq36 zq36 zq36 zq26 rfl rfl (ZPure0.pure (zp_not rfl rfl)) ?_
    refine za_end zq36 ?_
    skip
    (first | refine zr_cond rfl (fun h3 => ?_) (fun h3 => ?_) | refine zs_split rfl rfl (fun h3 => ?_) (fun h3 => ?_)) <;> have h3' := h3 <;> (try simp only [decide_eq_true_eq, decide_eq_false_iff_not, Bool.and_eq_true, Bool.or_eq_true, Bool.and_eq_false_iff, Bool.or_eq_false_iff, Bool.not_eq_true', Bool.not_eq_false', Bool.not_eq_true, Bool.not_eq_false, Int.not_le, Int.not_lt, Classical.not_not, Decidable.not_not, ne_eq, beq_iff_eq, bne_iff_ne] at h3')
    · rw [show decide (a = b) = false from decide_eq_false (ne_of_elt ha1 hb1 (by simpa using h3'))] at hK
      (repeat (first | ((with_reducible apply zr_seq)) | ((with_reducible apply zr_region); (try simp only [List.append_eq, List.cons_append, List.nil_append])) | ((with_reducible apply zo_end)) | ((with_reducible apply zs_assign); (exact rfl); (exact rfl)) | ((with_reducible apply zr_retZ); (exact rfl); (repeat (first | exact resD_nil _ _ _ | ((with_reducible apply resD_tmp); (exact rfl)) | ((with_reducible apply resD_cell_agg); (exact rfl); (exact sh_of rfl); (first | assumption | exact St.setH_self _ _ _); (exact rfl)) | ((with_reducible apply resD_cell); (exact rfl); (exact sh_of rfl); (first | assumption | exact St.setH_self _ _ _); (exact rfl)))); (simp only [resOf]))))
      exact KE.mk _ (Ext.refl _) hK
    · (repeat (first | ((with_reducible apply zr_region); (try simp only [List.append_eq, List.cons_append, List.nil_append])) | ((with_reducible apply zo_end)) | ((with_reducible apply zs_move); (exact rfl); (exact rfl)) | ((with_reducible apply zs_assign); (exact rfl); (exact rfl)) | ((with_reducible apply zs_add); (exact rfl); (exact rfl); (exact rfl); (first | (with_reducible assumption) | exact wrap_in64 (by omega) (by omega))) | ((with_reducible apply zr_skipB))))
      exact ⟨m - 1, _, by omega, ⟨i + 1, by omega, rfl, hsu.2 (by simpa using h3'), rfl⟩, zq21, zq21⟩
  · rw [show decide (a = b) = true from decide_eq_true (eq_of_takes htk (by omega) (by omega))] at hK
    (repeat (first | ((with_reducible apply zr_seq)) | ((with_reducible apply zr_region); (try simp only [List.append_eq, List.cons_append, List.nil_append])) | ((with_reducible apply zo_end)) | ((with_reducible apply zs_assign); (exact rfl); (exact rfl)) | (with_reducible refine zr_exit ?_; simp only [Zthen, Zblock, ↓reduceIte]) | ((with_reducible apply zr_retZ); (exact rfl); (repeat (first | exact resD_nil _ _ _ | ((with_reducible apply resD_tmp); (exact rfl)) | ((with_reducible apply resD_cell_agg); (exact rfl); (exact sh_of rfl); (first | assumption | exact St.setH_self _ _ _); (exact rfl)) | ((with_reducible apply resD_cell); (exact rfl); (exact sh_of rfl); (first | assumption | exact St.setH_self _ _ _); (exact rfl)))); (simp only [resOf]))))
    exact KE.mk _ (Ext.refl _) hK
theorem sameR_pf {a b : List Bs} {ta tb : Nat} (h : a.length ≤ 4611686018427387904) : PureF Try.prog 62 [.row (rowR a) 1 ta, .row (rowR b) 1 tb] (.v (.bool (decide (a = b)))) := by
  refine pure_of Try.func62 rfl Try.results62 (by rw [Try.ntmps62]; simp) (fun w0 st K hK => ?_); rw [Try.ntmps62]
  have hra : (rowR a).length = a.length := rowR_length a
  have hrb : (rowR b).length = b.length := rowR_length b
  (repeat (first | ((with_reducible apply zr_seq)) | ((with_reducible apply zr_region); (try simp only [List.append_eq, List.cons_append, List.nil_append])) | ((with_reducible apply zo_end)) | ((with_reducible apply zs_move); (exact rfl); (exact rfl)) | ((with_reducible apply zs_assign); (exact rfl); (exact rfl)) | ((with_reducible apply zs_neq); (exact rfl); (exact rfl); (exact rfl)) | ((with_reducible apply zs_len); (exact rfl); (exact rfl); (exact un_sl rfl))))
  (first | refine zr_cond rfl (fun h1 => ?_) (fun h1 => ?_) | refine zs_split rfl rfl (fun h1 => ?_) (fun h1 => ?_)) <;> have h1' := h1 <;> (try simp only [decide_eq_true_eq, decide_eq_false_iff_not, Bool.and_eq_true, Bool.or_eq_true, Bool.and_eq_false_iff, Bool.or_eq_false_iff, Bool.not_eq_true', Bool.not_eq_false', Bool.not_eq_true, Bool.not_eq_false, Int.not_le, Int.not_lt, Classical.not_not, Decidable.not_not, ne_eq, beq_iff_eq, bne_iff_ne] at h1')
  · rw [show decide (a = b) = false from decide_eq_false fun e => by rw [e] at h1'; exact h1' rfl] at hK
    (repeat (first | ((with_reducible apply zr_seq)) | ((with_reducible apply zr_region); (try simp only [List.append_eq, List.cons_append, List.nil_append])) | ((with_reducible apply zo_end)) | ((with_reducible apply zs_assign); (exact rfl); (exact rfl)) | ((with_reducible apply zr_retZ); (exact rfl); (repeat (first | exact resD_nil _ _ _ | ((with_reducible apply resD_tmp); (exact rfl)) | ((with_reducible apply resD_cell_agg); (exact rfl); (exact sh_of rfl); (first | assumption | exact St.setH_self _ _ _); (exact rfl)) | ((with_reducible apply resD_cell); (exact rfl); (exact sh_of rfl); (first | assumption | exact St.setH_self _ _ _); (exact rfl)))); (simp only [resOf]))))
    exact KE.mk _ (Ext.refl _) hK
  (repeat (first | ((with_reducible apply zr_seq)) | ((with_reducible apply zr_region); (try simp only [List.append_eq, List.cons_append, List.nil_append])) | ((with_reducible apply zo_end)) | ((with_reducible apply zs_assign); (exact rfl); (exact rfl)) | ((with_reducible apply zr_block)) | ((with_reducible apply zr_skip'))))
  refine zr_loopK [0, 1] (fun m e s => ∃ i : Nat, m + i = a.length ∧ e = [(5, .v (.int .i64 (i : Nat)))] ∧ a.take i = b.take i ∧ s = st) a.length _ zq19 ⟨0, by simp, rfl, rfl, rfl⟩ zq21 ?_
  rintro m e s ⟨i, hm, rfl, htk, rfl⟩
  (repeat (first | ((with_reducible apply zr_seq)) | ((with_reducible apply zr_region); (try simp only [List.append_eq, List.cons_append, List.nil_append])) | ((with_reducible apply zo_end)) | ((with_reducible apply zs_move); (exact rfl); (exact rfl)) | ((with_reducible apply zs_lss); (exact rfl); (exact rfl); (exact rfl)) | ((with_reducible apply zs_len); (exact rfl); (exact rfl); (exact un_sl rfl))))
  (first | refine zr_cond rfl (fun h2 => ?_) (fun h2 => ?_) | refine zs_split rfl rfl (fun h2 => ?_) (fun h2 => ?_)) <;> have h2' := h2 <;> (try simp only [decide_eq_true_eq, decide_eq_false_iff_not, Bool.and_eq_true, Bool.or_eq_true, Bool.and_eq_false_iff, Bool.or_eq_false_iff, Bool.not_eq_true', Bool.not_eq_false', Bool.not_eq_true, Bool.not_eq_false, Int.not_le, Int.not_lt, Classical.not_not, Decidable.not_not, ne_eq, beq_iff_eq, bne_iff_ne] at h2')
  · obtain ⟨ca, ha1, ha2, _, hca⟩ := eltK (l := a) (i := i) (by omega)
    obtain ⟨cb, hb1, hb2, _, hcb⟩ := eltK (l := b) (i := i) (by omega)
    have hsu := take_succ_eq ha1 hb1 htk
    (repeat (first | ((with_reducible apply zr_seq)) | ((with_reducible apply zr_block)) | ((with_reducible apply zr_skip'))))
    refine za_begin (m := 10) zq36 rfl ?_
    refine za_take (i := 0) rfl zq36 zq36 zq36 zq26 rfl rfl (ZPure0.pure (zp_move rfl rfl)) ?_
    refine za_take (i := 1) rfl zq36 zq36 zq36 zq26 rfl rfl (ZPure0.pure (zp_move rfl rfl)) ?_
    refine za_take (i := 2) rfl zq36 zq36 zq36 zq26 rfl rfl zq0 ?_
    refine za_take (i := 3) rfl zq36 zq36 zq36 zq26 rfl rfl zq23 ?_
    refine za_take (i := 4) rfl zq36 zq36 zq36 zq26 rfl rfl (ZPure0.pure (zp_move rfl rfl)) ?_
    refine za_take (i := 5) rfl zq36 zq36 zq36 zq26 rfl rfl (ZPure0.pure (zp_move rfl rfl)) ?_
    refine za_take (i := 6) rfl zq36 zq36 zq36 zq26 rfl rfl zq0 ?_
    refine za_take (i := 7) rfl zq36 zq36 zq36 zq26 rfl rfl zq23 ?_
    refine za_one (i := 8) zq36 rfl zq26 (zop_callQ same_pf cl_19 rfl rfl (by decide) rfl rfl (by (repeat (first | exact DLes.nil | (apply DLes.cons; first | exact DLe.refl _ | exact DLe.nilB | exact DLe.nilR | exact DLe.nilI)))) zq13 ?_)
    refine za_take (i := 9) rfl zq36 zq36 zq36 zq26 rfl rfl (ZPure0.pure (zp_not rfl rfl)) ?_
    refine za_end zq36 ?_
    skip
    (first | refine zr_cond rfl (fun h3 => ?_) (fun h3 => ?_) | refine zs_split rfl rfl (fun h3 => ?_) (fun h3 => ?_)) <;> have h3' := h3 <;> (try simp only [decide_eq_true_eq, decide_eq_false_iff_not, Bool.and_eq_true, Bool.or_eq_true, Bool.and_eq_false_iff, Bool.or_eq_false_iff, Bool.not_eq_true', Bool.not_eq_false', Bool.not_eq_true, Bool.not_eq_false, Int.not_le, Int.not_lt, Classical.not_not, Decidable.not_not, ne_eq, beq_iff_eq, bne_iff_ne] at h3')
    · rw [show decide (a = b) = false from decide_eq_false (ne_of_elt ha1 hb1 (by simpa using h3'))] at hK
      (repeat (first | ((with_reducible apply zr_seq)) | ((with_reducible apply zr_region); (try simp only [List.append_eq, List.cons_append, List.nil_append])) | ((with_reducible apply zo_end)) | ((with_reducible apply zs_assign); (exact rfl); (exact rfl)) | ((with_reducible apply zr_retZ); (exact rfl); (repeat (first | exact resD_nil _ _ _ | ((with_reducible apply resD_tmp); (exact rfl)) | ((with_reducible apply resD_cell_agg); (exact rfl); (exact sh_of rfl); (first | assumption | exact St.setH_self _ _ _); (exact rfl)) | ((with_reducible apply resD_cell); (exact rfl); (exact sh_of rfl); (first | assumption | exact St.setH_self _ _ _); (exact rfl)))); (simp only [resOf]))))
      exact KE.mk _ (Ext.refl _) hK
    · (repeat (first | ((with_reducible apply zr_region); (try simp only [List.append_eq, List.cons_append, List.nil_append])) | ((with_reducible apply zo_end)) | ((with_reducible apply zs_move); (exact rfl); (exact rfl)) | ((with_reducible apply zs_assign); (exact rfl); (exact rfl)) | ((with_reducible apply zs_add); (exact rfl); (exact rfl); (exact rfl); (first | (with_reducible assumption) | exact wrap_in64 (by omega) (by omega))) | ((with_reducible apply zr_skipB))))
      exact ⟨m - 1, _, by omega, ⟨i + 1, by omega, rfl, hsu.2 (by simpa using h3'), rfl⟩, zq21, zq21⟩
  · rw [show decide (a = b) = true from decide_eq_true (eq_of_takes htk (by omega) (by omega))] at hK
    (repeat (first | ((with_reducible apply zr_seq)) | ((with_reducible apply zr_region); (try simp only [List.append_eq, List.cons_append, List.nil_append])) | ((with_reducible apply zo_end)) | ((with_reducible apply zs_assign); (exact rfl); (exact rfl)) | (with_reducible refine zr_exit ?_; simp only [Zthen, Zblock, ↓reduceIte]) | ((with_reducible apply zr_retZ); (exact rfl); (repeat (first | exact resD_nil _ _ _ | ((with_reducible apply resD_tmp); (exact rfl)) | ((with_reducible apply resD_cell_agg); (exact rfl); (exact sh_of rfl); (first | assumption | exact St.setH_self _ _ _); (exact rfl)) | ((with_reducible apply resD_cell); (exact rfl); (exact sh_of rfl); (first | assumption | exact St.setH_self _ _ _); (exact rfl)))); (simp only [resOf]))))
    exact KE.mk _ (Ext.refl _) hK
/-- A node whose lists are not beyond all bounds. -/
def NB (n : NodeV) : Prop := n.keys.length ≤ 4611686018427387904 ∧ n.vals.length ≤ 4611686018427387904 ∧ n.kids.length ≤ 4611686018427387904 ∧ n.msgs.length ≤ 4611686018427387904
theorem sameN_pf {a b : NodeV} (h : NB a) : PureF Try.prog 27 [.agg (nodeD a), .agg (nodeD b)] (.v (.bool (decide (a = b)))) := by
  obtain ⟨h1, h2, h3, h4⟩ := h
  refine pure_of Try.func27 rfl Try.results27 (by rw [Try.ntmps27]; simp) (fun w0 st K hK => ?_); rw [Try.ntmps27]
  (repeat (first | ((with_reducible apply zr_seq)) | ((with_reducible apply zr_region); (try simp only [List.append_eq, List.cons_append, List.nil_append])) | ((with_reducible apply zo_end)) | ((with_reducible apply zs_move); (exact rfl); (exact rfl)) | ((with_reducible apply zs_assign); (exact rfl); (exact rfl)) | ((with_reducible apply zs_field_ref); (exact rfl); (exact rfl); (exact fld_of rfl)) | ((with_reducible apply zs_load_ref); (exact rfl); (exact rfl); (exact sh_of rfl); (exact rfl)) | ((with_reducible apply zs_beq); (exact rfl); (exact rfl); (exact rfl); (exact Try.underlying4)) | ((with_reducible apply zs_and); (exact rfl); (exact rfl); (intro hp_; first | exact congrArg some (gd_t hp_) | exact rfl); (exact rfl)) | ((with_reducible apply (zs_boxRef (t := 2))); (exact rfl); (exact rfl)) | ((with_reducible apply (zs_boxRef (t := 3))); (exact rfl); (exact rfl)) | ((with_reducible apply (zs_h_field_ref [])); (exact rfl); (first | exact GC.t rfl rfl | exact GC.f rfl rfl | exact GC.gt rfl rfl | exact GC.gf rfl rfl); (exact rfl); (intro hc_; first | exact congrArg some (gd_t hc_) | exact congrArg some (gd_t (band_l hc_)) | exact congrArg some (gd_t (band_l (band_l hc_))) | exact rfl); (intro _; exact fld_of rfl)) | ((with_reducible apply (zs_h_load_ref [])); (exact rfl); (first | exact GC.t rfl rfl | exact GC.f rfl rfl | exact GC.gt rfl rfl | exact GC.gf rfl rfl); (exact rfl); (intro hc_; first | exact congrArg some (gd_t hc_) | exact congrArg some (gd_t (band_l hc_)) | exact congrArg some (gd_t (band_l (band_l hc_))) | exact rfl); (intro _; exact sh_of rfl); (intro _; exact rfl)) | ((with_reducible apply (zs_h_callQ [] sameR_pf cl_62)); (exact rfl); (first | exact GC.t rfl rfl | exact GC.f rfl rfl | exact GC.gt rfl rfl | exact GC.gf rfl rfl); (exact rfl); (intro hc_; (repeat ((with_reducible apply evs_cons); (first | exact congrArg some (gd_t hc_) | exact congrArg some (gd_t (band_l hc_)) | exact rfl))); exact evs_nil); ((repeat (first | exact DLes.nil | (apply DLes.cons; first | exact DLe.refl _ | exact DLe.nilB | exact DLe.nilR | exact DLe.nilI)))); (intro hc_; first | exact trivial | assumption | ((try simp only [Bool.and_eq_true, decide_eq_true_eq, Bool.not_eq_true'] at hc_); (repeat' (with_reducible refine And.intro ?_ ?_)) <;> first | assumption | omega | exact trivial | (simp; done) | (simp; omega)))) | ((with_reducible apply (zs_h_callQ [] sameMs_pf cl_64)); (exact rfl); (first | exact GC.t rfl rfl | exact GC.f rfl rfl | exact GC.gt rfl rfl | exact GC.gf rfl rfl); (exact rfl); (intro hc_; (repeat ((with_reducible apply evs_cons); (first | exact congrArg some (gd_t hc_) | exact congrArg some (gd_t (band_l hc_)) | exact rfl))); exact evs_nil); ((repeat (first | exact DLes.nil | (apply DLes.cons; first | exact DLe.refl _ | exact DLe.nilB | exact DLe.nilR | exact DLe.nilI)))); (intro hc_; first | exact trivial | assumption | ((try simp only [Bool.and_eq_true, decide_eq_true_eq, Bool.not_eq_true'] at hc_); (repeat' (with_reducible refine And.intro ?_ ?_)) <;> first | assumption | omega | exact trivial | (simp; done) | (simp; omega)))) | ((with_reducible apply (zs_h_callQ [] sameI_pf cl_63)); (exact rfl); (first | exact GC.t rfl rfl | exact GC.f rfl rfl | exact GC.gt rfl rfl | exact GC.gf rfl rfl); (exact rfl); (intro hc_; (repeat ((with_reducible apply evs_cons); (first | exact congrArg some (gd_t hc_) | exact congrArg some (gd_t (band_l hc_)) | exact rfl))); exact evs_nil); ((repeat (first | exact DLes.nil | (apply DLes.cons; first | exact DLe.refl _ | exact DLe.nilB | exact DLe.nilR | exact DLe.nilI)))); (intro hc_; first | exact trivial | assumption | ((try simp only [Bool.and_eq_true, decide_eq_true_eq, Bool.not_eq_true'] at hc_); (repeat' (with_reducible refine And.intro ?_ ?_)) <;> first | assumption | omega | exact trivial | (simp; done) | (simp; omega)))) | ((with_reducible apply zr_retZ); (exact rfl); (repeat (first | exact resD_nil _ _ _ | ((with_reducible apply resD_tmp); (exact rfl)) | ((with_reducible apply resD_cell_agg); (exact rfl); (exact sh_of rfl); (first | assumption | exact St.setH_self _ _ _); (exact rfl)) | ((with_reducible apply resD_cell); (exact rfl); (exact sh_of rfl); (first | assumption | exact St.setH_self _ _ _); (exact rfl)))); (simp only [resOf]))))
  have e : ((a.leaf == b.leaf) && decide (a.keys = b.keys) && decide (a.vals = b.vals) && decide (a.kids = b.kids) && decide (a.msgs = b.msgs)) = decide (a = b) := by
    obtain ⟨a1, a2, a3, a4, a5⟩ := a
    obtain ⟨b1, b2, b3, b4, b5⟩ := b
    cases a1 <;> cases b1 <;> simp [Bool.and_assoc]
  refine KE.mk _ (Ext.refl _) ?_
  rw [e]
  exact hK
end Go.Proofs.ZtLe
namespace Go.Proofs.ZtLe
open Go.RowKit Go.Proofs Go.Proofs.Zm
set_option linter.unusedVariables false
set_option linter.unusedSimpArgs false
set_option maxHeartbeats 20000000
set_option maxRecDepth 100000
attribute [local irreducible] ZWp ZOps ZPure ZPure0 ZVal ZOp SoundF

/-! ### slices.Clone -/
/-! ### places among keys -/
end Go.Proofs.ZtLe
namespace Go.Proofs.ZtLe
open Go.RowKit Go.Proofs Go.Proofs.Zm
set_option linter.unusedVariables false
set_option linter.unusedSimpArgs false
set_option maxHeartbeats 20000000
set_option maxRecDepth 100000
attribute [local irreducible] ZWp ZOps ZPure ZPure0 ZVal ZOp SoundF

/-! ### inne.Span -/
/-- Keys that are not beyond all bounds. -/
def KB (l : List Bs) : Prop := l.length ≤ 2147483648 ∧ ∀ b ∈ l, b.length ≤ 2147483648
theorem KB.at {l : List Bs} (h : KB l) {i : Nat} {c : Bs} (hc : l[i]? = some c) : c.length ≤ 2147483648 := h.2 _ (List.mem_of_getElem? hc)
def loL (l : List Bs) (k : Nat) : Bs := if k = 0 then [] else l.getD (k - 1) []
def hiL (l : List Bs) (k : Nat) : Bs := l.getD k []
theorem getD_of {α : Type} {l : List α} {i : Nat} {c z : α} (h : l[i]? = some c) : l.getD i z = c := by rw [List.getD_eq_getElem?_getD, h]; rfl
/-! ### the document's way -/
end Go.Proofs.ZtLe
namespace Go.Proofs.ZtLe
open Go.RowKit Go.Proofs Go.Proofs.Zm
set_option linter.unusedVariables false
set_option linter.unusedSimpArgs false
set_option maxHeartbeats 20000000
set_option maxRecDepth 100000
attribute [local irreducible] ZWp ZOps ZPure ZPure0 ZVal ZOp SoundF

/-! ### mesg.Still, inne.still -/
def MB (m : MsgV) : Prop := m.2.1.length ≤ 2147483648 ∧ m.2.2.length ≤ 2147483648
/-- A node whose lists and texts are small. -/
structure NodeB (n : NodeV) : Prop where
  keys : KB n.keys
  vals : KB n.vals
  kids : n.kids.length ≤ 2147483648
  msgs : n.msgs.length ≤ 2147483648
  msg : ∀ m ∈ n.msgs, MB m
def stillOwn : ZSpec := fun args st K => ∃ n : NodeV, args = [.agg (nodeD n)] ∧ NodeB n ∧ ∀ o1 c1 f1 o2 c2 f2 o3 c3 f3 o4 c4 f4 st', Sep st st' [(o1, f1), (o2, f2), (o3, f3), (o4, f4)] → GRow o1 f1 1 n.keys.length c1 (rowR n.keys).flatten →
  GRow o2 f2 1 n.vals.length c2 (rowR n.vals).flatten → GRow o3 f3 3 n.msgs.length c3 (msgR n.msgs).flatten → GRow o4 f4 1 n.kids.length c4 (intR n.kids).flatten →
  K (.agg [.v (.bool n.leaf), orow o1 n.keys.length c1, orow o2 n.vals.length c2, orow o4 n.kids.length c4, orow o3 n.msgs.length c3]) st'
end Go.Proofs.ZtLe
namespace Go.Proofs.ZtLe
open Go.RowKit Go.Proofs Go.Proofs.Zm
set_option linter.unusedVariables false
set_option linter.unusedSimpArgs false
set_option maxHeartbeats 20000000
set_option maxRecDepth 100000
attribute [local irreducible] ZWp ZOps ZPure ZPure0 ZVal ZOp SoundF

/-! ### slices.Insert -/
def insSpec (k : Nat) : ZSpec := fun args st K => ∃ (o : Option Nat) (n c i idv : Nat) (full cells x : List D), args = [orow o n c, .v (.int .i64 (i : Nat)), .mrow idv 0 1 1] ∧ i ≤ n ∧ n ≤ 2147483648 ∧ x.length = k ∧ OwnA st [(o, full), (some idv, x)] ∧ GRow o full k n c cells ∧
  ∀ o' c' full' st', Sep (bareL st [(o, full), (some idv, x)]) st' [(o', full')] → GRow o' full' k (n + 1) c' (cells.take (i * k) ++ x ++ cells.drop (i * k)) → K (orow o' (n + 1) c') st'
end Go.Proofs.ZtLe
namespace Go.Proofs.ZtLe
open Go.RowKit Go.Proofs Go.Proofs.Zm
set_option linter.unusedVariables false
set_option linter.unusedSimpArgs false
set_option maxHeartbeats 20000000
set_option maxRecDepth 100000
attribute [local irreducible] ZWp ZOps ZPure ZPure0 ZVal ZOp SoundF

/-! ### slices.Insert of whole numbers, of pairs -/
end Go.Proofs.ZtLe
namespace Go.Proofs.ZtLe
open Go.RowKit Go.Proofs Go.Proofs.Zm
set_option linter.unusedVariables false
set_option linter.unusedSimpArgs false
set_option maxHeartbeats 20000000
set_option maxRecDepth 100000
attribute [local irreducible] ZWp ZOps ZPure ZPure0 ZVal ZOp SoundF

/-! ### slices.Delete of pairs -/
def delSpec (k : Nat) : ZSpec := fun args st K => ∃ (o : Option Nat) (n c i j : Nat) (full cells : List D), args = [orow o n c, .v (.int .i64 (i : Nat)), .v (.int .i64 (j : Nat))] ∧ i < j ∧ j ≤ n ∧ n ≤ 2147483648 ∧ OwnA st [(o, full)] ∧ GRow o full k n c cells ∧
  ∀ o' c' full' st', Sep (bareL st [(o, full)]) st' [(o', full')] → GRow o' full' k (i + (n - j)) c' (cells.take (i * k) ++ cells.drop (j * k)) → K (orow o' (i + (n - j)) c') st'
end Go.Proofs.ZtLe
namespace Go.Proofs.ZtLe
open Go.RowKit Go.Proofs Go.Proofs.Zm
set_option linter.unusedVariables false
set_option linter.unusedSimpArgs false
set_option maxHeartbeats 20000000
set_option maxRecDepth 100000
attribute [local irreducible] ZWp ZOps ZPure ZPure0 ZVal ZOp SoundF

/-! ### inne.still, given away -/

/-! ### inne.Heavy -/
/-- How many messages a kid has. -/
def cntK (keys : List Bs) (l : List MsgV) (k : Nat) : Nat := (l.filter fun m => wayL keys m.2.1 == k).length
def cntL (keys : List Bs) (l : List MsgV) (N : Nat) : List D := (List.range N).map fun k => .v (.int .i64 (cntK keys l k : Nat))
theorem cntL_length (keys : List Bs) (l : List MsgV) (N : Nat) : (cntL keys l N).length = N := by simp [cntL]
theorem cntL_get {keys : List Bs} {l : List MsgV} {N k : Nat} (h : k < N) : (cntL keys l N)[k]? = some (.v (.int .i64 (cntK keys l k : Nat))) := by
  unfold cntL; rw [List.getElem?_map, List.getElem?_range h]; rfl
theorem cntK_app (keys : List Bs) (l : List MsgV) (m : MsgV) (k : Nat) : cntK keys (l ++ [m]) k = cntK keys l k + if wayL keys m.2.1 = k then 1 else 0 := by
  unfold cntK
  rw [List.filter_append, List.length_append]
  by_cases h : wayL keys m.2.1 = k <;> simp [h]
def bestL (f : Nat → Nat) (N : Nat) : Nat := (List.range N).foldl (fun b i => if f b < f i then i else b) 0
theorem bestL_succ (f : Nat → Nat) (i : Nat) : bestL f (i + 1) = if f (bestL f i) < f i then i else bestL f i := by
  unfold bestL; rw [List.range_succ, List.foldl_append]; rfl
def heavyL (n : NodeV) : Nat := bestL (cntK n.keys n.msgs) (n.keys.length + 1)
/-! ### inne.Chunk -/
/-- The first messages of a kid, at most so many, and the rest. -/
def mineL (keys : List Bs) (k most : Nat) (l : List MsgV) : List MsgV × List MsgV := l.foldl (fun p m => if p.1.length < most ∧ wayL keys m.2.1 = k then (p.1 ++ [m], p.2) else (p.1, p.2 ++ [m])) ([], [])
theorem mineL_app (keys : List Bs) (k most : Nat) (l : List MsgV) (m : MsgV) : mineL keys k most (l ++ [m]) = if (mineL keys k most l).1.length < most ∧ wayL keys m.2.1 = k then ((mineL keys k most l).1 ++ [m], (mineL keys k most l).2) else ((mineL keys k most l).1, (mineL keys k most l).2 ++ [m]) := by
  unfold mineL; rw [List.foldl_append]; rfl
theorem rev_ind {α : Type} {p : List α → Prop} (h0 : p []) (h1 : ∀ l a, p l → p (l ++ [a])) (l : List α) : p l := by
  have key : ∀ (n : Nat) (l : List α), l.length = n → p l := by
    intro n
    induction n with
    | zero => intro l hl; rw [List.length_eq_zero_iff.1 hl]; exact h0
    | succ n ih =>
      intro l hl
      have hne : l ≠ [] := fun e => by subst e; cases hl
      rw [← List.dropLast_concat_getLast hne]
      exact h1 _ _ (ih _ (by rw [List.length_dropLast]; omega))
  exact key _ l rfl
def chunkOwn : ZSpec := fun args st K => ∃ (n : NodeV) (k most : Nat), args = [.agg (nodeD n), .v (.int .i64 (k : Nat)), .v (.int .i64 (most : Nat))] ∧ NodeB n ∧ Srt n.keys ∧ ∀ o c f o2 c2 f2 st', Sep st st' [(o, f), (o2, f2)] → GRow o f 3 (mineL n.keys k most n.msgs).1.length c (msgR (mineL n.keys k most n.msgs).1).flatten → GRow o2 f2 3 (mineL n.keys k most n.msgs).2.length c2 (msgR (mineL n.keys k most n.msgs).2).flatten →
  K (.tup [.agg [.v (.bool n.leaf), .row (rowR n.keys) 1 0, .row (rowR n.vals) 1 0, .row (intR n.kids) 1 0, orow o2 (mineL n.keys k most n.msgs).2.length c2], orow o (mineL n.keys k most n.msgs).1.length c]) st'
end Go.Proofs.ZtLe
namespace Go.Proofs.ZtLe
open Go.RowKit Go.Proofs Go.Proofs.Zm
set_option linter.unusedVariables false
set_option linter.unusedSimpArgs false
set_option maxHeartbeats 20000000
set_option maxRecDepth 100000
attribute [local irreducible] ZWp ZOps ZPure ZPure0 ZVal ZOp SoundF

/-! ### inne.Grow -/
def insAt {α : Type} (l : List α) (k : Nat) (x : α) : List α := l.take k ++ [x] ++ l.drop k
def growN (n : NodeV) (k : Nat) (p : Bs) (id : Int) : NodeV := { n with keys := insAt n.keys k p, kids := insAt n.kids (k + 1) id }
theorem flat_take1 {α : Type} (f : α → D) (l : List α) (i : Nat) : ((l.map fun a => [f a]).flatten).take (i * 1) = ((l.take i).map fun a => [f a]).flatten := by
  rw [Nat.mul_one]
  simp only [← List.flatMap_def]
  rw [show (fun a => [f a]) = (fun a => List.singleton (f a)) from rfl]
  simp [List.flatMap_singleton', List.singleton, List.map_take, ← List.map_eq_flatMap]
theorem flat_drop1 {α : Type} (f : α → D) (l : List α) (i : Nat) : ((l.map fun a => [f a]).flatten).drop (i * 1) = ((l.drop i).map fun a => [f a]).flatten := by
  rw [Nat.mul_one]
  simp only [← List.flatMap_def]
  simp [List.map_drop, ← List.map_eq_flatMap]
def growOwn : ZSpec := fun args st K => ∃ (n : NodeV) (k tk : Nat) (p : Bs) (id : Int), args = [.agg (nodeD n), .v (.int .i64 (k : Nat)), .row (bytesD p) 1 tk, .v (.int .i64 id)] ∧ NodeB n ∧ k ≤ n.keys.length ∧ k + 1 ≤ n.kids.length ∧ p.length ≤ 2147483648 ∧
  ∀ o1 c1 f1 o2 c2 f2 o3 c3 f3 o4 c4 f4 st', Sep st st' [(o1, f1), (o2, f2), (o3, f3), (o4, f4)] → GRow o1 f1 1 (n.keys.length + 1) c1 (rowR (insAt n.keys k p)).flatten →
  GRow o2 f2 1 n.vals.length c2 (rowR n.vals).flatten → GRow o3 f3 3 n.msgs.length c3 (msgR n.msgs).flatten → GRow o4 f4 1 (n.kids.length + 1) c4 (intR (insAt n.kids (k + 1) id)).flatten →
  K (.agg [.v (.bool n.leaf), orow o1 (n.keys.length + 1) c1, orow o2 n.vals.length c2, orow o4 (n.kids.length + 1) c4, orow o3 n.msgs.length c3]) st'
end Go.Proofs.ZtLe
namespace Go.Proofs.ZtLe
open Go.RowKit Go.Proofs Go.Proofs.Zm
set_option linter.unusedVariables false
set_option linter.unusedSimpArgs false
set_option maxHeartbeats 20000000
set_option maxRecDepth 100000
attribute [local irreducible] ZWp ZOps ZPure ZPure0 ZVal ZOp SoundF

/-! ### Configs -/
structure CfgV where
  keyMax : Int
  valMax : Int
  c : Int
  f : Int
  m : Int
  l : Int
  e : Int
  maxKeys : Int
  z : Int
  fill : Nat
def cfgD (c : CfgV) : List D := [.v (.int .i64 c.keyMax), .v (.int .i64 c.valMax), .v (.int .i64 c.c), .v (.int .i64 c.f), .v (.int .i64 c.m), .v (.int .i64 c.l), .v (.int .i64 c.e), .v (.int .i64 c.maxKeys), .v (.int .i64 c.z), .v (.float .f64 c.fill)]

/-! ### inne.Split -/
def zeroN : List D := [.v (.bool false), .v (.slice none 0 0), .v (.slice none 0 0), .v (.slice none 0 0), .v (.slice none 0 0)]
/-- Whether a node is split. -/
def splits (F : Int) (n : NodeV) : Bool := decide (F < (n.kids.length : Int)) && decide (n.keys.length + 1 = n.kids.length) && decide (2 ≤ n.kids.length)
def halfOf (n : NodeV) : Nat := (n.kids.length + 1) / 2
def pivotOf (n : NodeV) : Bs := n.keys.getD (halfOf n - 1) []
def leftOf (n : NodeV) : NodeV := ⟨false, n.keys.take (halfOf n - 1), [], n.kids.take (halfOf n), n.msgs.filter fun m => lt m.2.1 (pivotOf n)⟩
def rightOf (n : NodeV) : NodeV := ⟨false, n.keys.drop (halfOf n), [], n.kids.drop (halfOf n), n.msgs.filter fun m => !lt m.2.1 (pivotOf n)⟩
def splitOwn : ZSpec := fun args st K => ∃ (c : CfgV) (n : NodeV), args = [.agg (cfgD c), .agg (nodeD n)] ∧ NodeB n ∧ (splits c.f n = false → K (.tup [.agg (nodeD n), .agg zeroN, .v (.slice none 0 0), .v (.bool false)]) st) ∧
  (splits c.f n = true → ∀ o1 c1 f1 o2 c2 f2 st', Sep st st' [(o1, f1), (o2, f2)] → GRow o1 f1 3 (leftOf n).msgs.length c1 (msgR (leftOf n).msgs).flatten → GRow o2 f2 3 (rightOf n).msgs.length c2 (msgR (rightOf n).msgs).flatten →
    K (.tup [.agg [.v (.bool false), .row (rowR (leftOf n).keys) 1 0, .v (.slice none 0 0), .row (intR (leftOf n).kids) 1 0, orow o1 (leftOf n).msgs.length c1],
      .agg [.v (.bool false), .row (rowR (rightOf n).keys) 1 0, .v (.slice none 0 0), .row (intR (rightOf n).kids) 1 0, orow o2 (rightOf n).msgs.length c2], .row (bytesD (pivotOf n)) 1 0, .v (.bool true)]) st')
/-- What a split node is. -/
def splitD (F : Int) (n : NodeV) : D := if splits F n = true then .tup [.agg (nodeD (leftOf n)), .agg (nodeD (rightOf n)), .row (bytesD (pivotOf n)) 1 0, .v (.bool true)] else .tup [.agg (nodeD n), .agg (nodeD noNode), .row (bytesD []) 1 0, .v (.bool false)]
end Go.Proofs.ZtLe
