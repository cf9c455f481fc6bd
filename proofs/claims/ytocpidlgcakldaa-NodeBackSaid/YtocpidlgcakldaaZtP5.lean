/- A part of the proof of NodeBack: walks of the functions that it reaches. No condition. -/
import Derived.Test.YtocpidlgcakldaaZtP4
import Derived.Test.YtocpidlgcakldaaZmP2
import Derived.Test.YtocpidlgcakldaaZmAuto
namespace Go.Proofs.ZtLe
open Go.RowKit Go.Proofs Go.Proofs.Zm
set_option linter.unusedVariables false
set_option linter.unusedSimpArgs false
set_option maxHeartbeats 20000000
set_option maxRecDepth 100000
attribute [local irreducible] ZWp ZOps ZPure ZPure0 ZVal ZOp SoundF

/-! ### floats -/
theorem ext_from : ExtIs Try.prog 95 Extern.MathFloatBits.float64frombits := ⟨_, Try.func95, by kernel_rfl, by kernel_rfl, by kernel_rfl, by kernel_rfl⟩
theorem ext_bits : ExtIs Try.prog 82 Extern.MathFloatBits.float64bits := ⟨_, Try.func82, by kernel_rfl, by kernel_rfl, by kernel_rfl, by kernel_rfl⟩
theorem one_ps {b : Nat} (h : b < 18446744073709551616) : PureS Try.prog 83 [.v (.float .f64 b)] (fun d => ∃ r, d = .v (.float .f64 r) ∧ r < 18446744073709551616) := by
  refine sound_ofA Try.func83 rfl Try.results83 ?_
  rintro w0 args st K ⟨rfl, hK⟩
  rw [Try.ntmps83]; refine ⟨by simp, ?_⟩
  (repeat (first | ((with_reducible apply zr_seq)) | ((with_reducible apply zr_region); (try simp only [List.append_eq, List.cons_append, List.nil_append])) | ((with_reducible apply zo_end)) | ((with_reducible apply zs_move); (exact rfl); (exact rfl)) | ((with_reducible apply zs_assign); (exact rfl); (exact rfl))))
  (try ((with_reducible apply zs_yes); exact rfl; exact rfl; (first | assumption | exact rfl))); refine zo_pure0 rfl rfl (by decide) (zp_fneq rfl rfl rfl) ?_
  (repeat (first | ((with_reducible apply zo_end))))
  (first | refine zr_cond rfl (fun h1 => ?_) (fun h1 => ?_) | refine zs_split rfl rfl (fun h1 => ?_) (fun h1 => ?_)) <;> have h1' := h1 <;> (try simp only [decide_eq_true_eq, decide_eq_false_iff_not, Bool.and_eq_true, Bool.or_eq_true, Bool.and_eq_false_iff, Bool.or_eq_false_iff, Bool.not_eq_true', Bool.not_eq_false', Bool.not_eq_true, Bool.not_eq_false, Int.not_le, Int.not_lt, Classical.not_not, Decidable.not_not, ne_eq, beq_iff_eq, bne_iff_ne] at h1')
  · (repeat (first | ((with_reducible apply zr_seq)) | ((with_reducible apply zr_region); (try simp only [List.append_eq, List.cons_append, List.nil_append]))))
    (try ((with_reducible apply zs_yes); exact rfl; exact rfl; (first | assumption | exact rfl))); refine zo_pure0 rfl rfl (by decide) (zp_f64from rfl ext_from rfl) ?_
    (repeat (first | ((with_reducible apply zo_end)) | ((with_reducible apply zs_assign); (exact rfl); (exact rfl)) | ((with_reducible apply zr_retZ); (exact rfl); (repeat (first | exact resD_nil _ _ _ | ((with_reducible apply resD_tmp); (exact rfl)) | ((with_reducible apply resD_cell_agg); (exact rfl); (exact sh_of rfl); (first | assumption | exact St.setH_self _ _ _ | exact Sep.at_ (i := 0) zq35 rfl | exact Sep.at_ (i := 1) zq35 rfl | exact Sep.at_ (i := 2) zq35 rfl | exact Sep.at_ (i := 3) zq35 rfl | exact Sep.at_ (i := 4) zq35 rfl | exact Sep.at_ (i := 5) zq35 rfl | exact Sep.at_ (i := 6) zq35 rfl); (exact rfl)) | ((with_reducible apply resD_cell); (exact rfl); (exact sh_of rfl); (first | assumption | exact St.setH_self _ _ _ | exact Sep.at_ (i := 0) zq35 rfl | exact Sep.at_ (i := 1) zq35 rfl | exact Sep.at_ (i := 2) zq35 rfl | exact Sep.at_ (i := 3) zq35 rfl | exact Sep.at_ (i := 4) zq35 rfl | exact Sep.at_ (i := 5) zq35 rfl | exact Sep.at_ (i := 6) zq35 rfl); (exact rfl)))); (simp only [resOf]))))
    exact KE.mk st (Ext.refl _) (hK _ ⟨_, rfl, by decide⟩)
  · (repeat (first | ((with_reducible apply zr_seq)) | ((with_reducible apply zr_region); (try simp only [List.append_eq, List.cons_append, List.nil_append])) | ((with_reducible apply zo_end)) | ((with_reducible apply zs_move); (exact rfl); (exact rfl)) | ((with_reducible apply zs_assign); (exact rfl); (exact rfl)) | ((with_reducible apply zr_skip')) | ((with_reducible apply zr_retZ); (exact rfl); (repeat (first | exact resD_nil _ _ _ | ((with_reducible apply resD_tmp); (exact rfl)) | ((with_reducible apply resD_cell_agg); (exact rfl); (exact sh_of rfl); (first | assumption | exact St.setH_self _ _ _ | exact Sep.at_ (i := 0) zq35 rfl | exact Sep.at_ (i := 1) zq35 rfl | exact Sep.at_ (i := 2) zq35 rfl | exact Sep.at_ (i := 3) zq35 rfl | exact Sep.at_ (i := 4) zq35 rfl | exact Sep.at_ (i := 5) zq35 rfl | exact Sep.at_ (i := 6) zq35 rfl); (exact rfl)) | ((with_reducible apply resD_cell); (exact rfl); (exact sh_of rfl); (first | assumption | exact St.setH_self _ _ _ | exact Sep.at_ (i := 0) zq35 rfl | exact Sep.at_ (i := 1) zq35 rfl | exact Sep.at_ (i := 2) zq35 rfl | exact Sep.at_ (i := 3) zq35 rfl | exact Sep.at_ (i := 4) zq35 rfl | exact Sep.at_ (i := 5) zq35 rfl | exact Sep.at_ (i := 6) zq35 rfl); (exact rfl)))); (simp only [resOf]))))
    exact KE.mk st (Ext.refl _) (hK _ ⟨_, rfl, h⟩)
theorem rput_pf {n : Int} {k : Int} (h : 0 ≤ n ∧ n < 18446744073709551616) : PureF Try.prog 56 [.v (.int .u64 n), .v (.int .i64 k)] (.row (bytesD (putB n k)) 1 0) :=
  PureF.ofOwn fun st K hK => ⟨_, rput_snd, n, k, rfl, h.1, h.2, fun t ht ht0 => hK [] _ _ ⟨(Ext.refl _).setT t, fun _ _ h => (by cases h), fun _ _ h => (by cases h), List.nodup_nil⟩ (fun r hr => by simp at hr) fun G hr u hu => hu.notok⟩
theorem bytes_ps {b : Nat} (h : b < 18446744073709551616) : PureS Try.prog 55 [.v (.float .f64 b)] (fun d => ∃ l : Bs, d = .row (bytesD l) 1 0 ∧ l.length = 8) := by
  refine sound_ofA Try.func55 rfl Try.results55 ?_
  rintro w0 args st K ⟨rfl, hK⟩
  rw [Try.ntmps55]; refine ⟨by simp, ?_⟩
  (repeat (first | ((with_reducible apply zr_seq)) | ((with_reducible apply zr_region); (try simp only [List.append_eq, List.cons_append, List.nil_append])) | ((with_reducible apply zo_end)) | ((with_reducible apply zs_move); (exact rfl); (exact rfl)) | ((with_reducible apply zs_assign); (exact rfl); (exact rfl))))
  (try ((with_reducible apply zs_yes); exact rfl; exact rfl; (first | assumption | exact rfl))); refine zo_callU (one_ps h) Try.func83 zq36 rfl rfl rfl rfl (by decide) rfl rfl zq3 ?_
  refine ⟨rfl, fun d hd => ?_⟩
  obtain ⟨r, rfl, hr⟩ := hd
  skip
  (try ((with_reducible apply zs_yes); exact rfl; exact rfl; (first | assumption | exact rfl))); refine zo_pure0 rfl rfl (by decide) (zp_f64bits rfl ext_bits rfl) ?_
  (repeat (first | ((with_reducible apply zo_end)) | ((with_reducible apply zs_assign); (exact rfl); (exact rfl)) | ((with_reducible apply (zs_callQ rput_pf cl_56)); (exact rfl); (exact rfl); ((repeat (first | exact DLes.nil | (apply DLes.cons; first | exact DLe.refl _ | exact DLe.nilB | exact DLe.nilR | exact DLe.nilI)))); (first | exact trivial | assumption | ((repeat' (with_reducible refine And.intro ?_ ?_)) <;> first | assumption | omega | exact trivial | (simp; done) | (simp; omega)))) | ((with_reducible apply zr_retZ); (exact rfl); (repeat (first | exact resD_nil _ _ _ | ((with_reducible apply resD_tmp); (exact rfl)) | ((with_reducible apply resD_cell_agg); (exact rfl); (exact sh_of rfl); (first | assumption | exact St.setH_self _ _ _ | exact Sep.at_ (i := 0) zq35 rfl | exact Sep.at_ (i := 1) zq35 rfl | exact Sep.at_ (i := 2) zq35 rfl | exact Sep.at_ (i := 3) zq35 rfl | exact Sep.at_ (i := 4) zq35 rfl | exact Sep.at_ (i := 5) zq35 rfl | exact Sep.at_ (i := 6) zq35 rfl); (exact rfl)) | ((with_reducible apply resD_cell); (exact rfl); (exact sh_of rfl); (first | assumption | exact St.setH_self _ _ _ | exact Sep.at_ (i := 0) zq35 rfl | exact Sep.at_ (i := 1) zq35 rfl | exact Sep.at_ (i := 2) zq35 rfl | exact Sep.at_ (i := 3) zq35 rfl | exact Sep.at_ (i := 4) zq35 rfl | exact Sep.at_ (i := 5) zq35 rfl | exact Sep.at_ (i := 6) zq35 rfl); (exact rfl)))); (simp only [resOf]))))
  have hq : 0 ≤ (r : Int) ∧ (r : Int) < 18446744073709551616 := by omega
  skip
  exact KE.mk st (Ext.refl _) (hK _ ⟨_, rfl, by simp [putB, put_length]⟩)
/-! ### dumbwaiterlaw18.Key -/
def keySpec : ZSpec := fun args st K => ∃ (n most : Int), args = [.v (.int .i64 n), .v (.int .i64 most)] ∧ 0 ≤ most ∧ most ≤ 4611686018427387904 ∧ ∀ (l : Bs) t, l.length ≤ 2 → (l.length : Int) ≤ most → st.T t = false → t ≠ 0 → K (.row (bytesD l) 1 t) (st.setT t true)
theorem key_snd : SoundF Try.prog 54 keySpec := by
  refine sound_ofA Try.func54 rfl Try.results54 ?_
  rintro w0 args st K ⟨n, most, rfl, h0, h1, hK⟩
  rw [Try.ntmps54]; refine ⟨by simp, ?_⟩
  (repeat (first | ((with_reducible apply zr_seq)) | ((with_reducible apply zr_region); (try simp only [List.append_eq, List.cons_append, List.nil_append])) | ((with_reducible apply zo_end)) | ((with_reducible apply zs_move); (exact rfl); (exact rfl)) | ((with_reducible apply zs_assign); (exact rfl); (exact rfl)) | ((with_reducible apply (zs_mask (p := 8) 3)); (exact rfl); (exact rfl); (exact rfl); (exact rfl); (decide); (decide); (decide)) | ((with_reducible apply zs_idx); (exact rfl); (exact rfl); (exact rfl); (exact un_sl rfl); (exact ii_of rfl); (first | omega | (simp only [List.length_map, List.length_take, List.length_drop, List.length_append, List.length_cons, List.length_nil, List.length_replicate, rowR_length, intR_length, msgR_length, pairR_length]; omega) | decide); (first | omega | (simp only [List.length_map, List.length_take, List.length_drop, List.length_append, List.length_cons, List.length_nil, List.length_replicate, rowR_length, intR_length, msgR_length, pairR_length]; omega) | decide); (first | (with_reducible exact Int.toNat_natCast _) | (simp only [Int.reduceToNat]; exact rfl) | exact rfl)) | ((with_reducible apply (zs_lit (t := 6) [.const (.string { data := #[] }), .const (.string { data := #[97] }), .const (.string { data := #[98] }), .const (.string { data := #[97, 98] }), .const (.string { data := #[97, 97] }), .const (.string { data := #[99] }), .const (.string { data := #[97, 0] }), .const (.string { data := #[255] })])); (exact rfl); (exact rfl); (exact rfl); (exact rfl); (exact un_sl rfl); (exact el_of rfl); (simp only [List.map_cons, List.map_nil, cellsD]; exact rfl); ((repeat (first | exact lit_nil | (apply lit_cons; exact rfl; (repeat (first | exact one_nil | (apply one_cons; (first | exact rfl | exact one_orow _ _ _)))))))); (decide))))
  obtain ⟨l, hl, hbg⟩ : ∃ l : Bs, l.length ≤ 2 ∧ ([[D.v (Value.string { data := #[] })], [D.v (Value.string { data := #[97] })], [D.v (Value.string { data := #[98] })], [D.v (Value.string { data := #[97, 98] })], [D.v (Value.string { data := #[97, 97] })], [D.v (Value.string { data := #[99] })], [D.v (Value.string { data := #[97, 0] })], [D.v (Value.string { data := #[255] })]] : List (List D)).getD (n % 8).toNat [] = [strD l] := by
    have h8 : (n % 8).toNat < 8 := by omega
    generalize (n % 8).toNat = q at *
    match q, h8 with
    | 0, _ => exact ⟨[], by decide, rfl⟩
    | 1, _ => exact ⟨[97], by decide, rfl⟩
    | 2, _ => exact ⟨[98], by decide, rfl⟩
    | 3, _ => exact ⟨[97, 98], by decide, rfl⟩
    | 4, _ => exact ⟨[97, 97], by decide, rfl⟩
    | 5, _ => exact ⟨[99], by decide, rfl⟩
    | 6, _ => exact ⟨[97, 0], by decide, rfl⟩
    | 7, _ => exact ⟨[255], by decide, rfl⟩
  rw [hbg]
  (repeat (first | ((with_reducible apply zr_seq)) | ((with_reducible apply zr_region); (try simp only [List.append_eq, List.cons_append, List.nil_append])) | ((with_reducible apply zo_end)) | ((with_reducible apply zs_move); (exact rfl); (exact rfl)) | ((with_reducible apply zs_assign); (exact rfl); (exact rfl)) | ((with_reducible apply zs_load_ref); (exact rfl); (exact rfl); (exact sh_of rfl); (exact rfl)) | ((with_reducible apply zs_strlen); (exact rfl); (exact rfl); (exact Try.underlying9)) | ((with_reducible apply zs_min); (exact rfl); (exact rfl); (exact rfl); (first | (with_reducible assumption) | exact rfl))))
  generalize hm : min (l.length : Int) most = m
  obtain ⟨c, rfl⟩ := Int.eq_ofNat_of_zero_le (show 0 ≤ m by omega)
  (try ((with_reducible apply zs_yes); exact rfl; exact rfl; (first | assumption | exact rfl))); refine zo_pure0 rfl rfl (by decide) (zp_strcut rfl Try.underlying9 rfl (l := 0) (m := c) rfl ⟨_, rfl⟩ (by omega) (by omega)) ?_
  skip
  (try ((with_reducible apply zs_yes); exact rfl; exact rfl; (first | assumption | exact rfl))); refine zo_val rfl rfl (by decide) (zv_strBytesT rfl Try.underlying9 zq34 Try.underlying5 rfl (by simp; omega) fun t ht ht0 => ?_)
  (repeat (first | ((with_reducible apply zo_end)) | ((with_reducible apply zs_assign); (exact rfl); (exact rfl)) | ((with_reducible apply zr_retZ); (exact rfl); (repeat (first | exact resD_nil _ _ _ | ((with_reducible apply resD_tmp); (exact rfl)) | ((with_reducible apply resD_cell_agg); (exact rfl); (exact sh_of rfl); (first | assumption | exact St.setH_self _ _ _ | exact Sep.at_ (i := 0) zq35 rfl | exact Sep.at_ (i := 1) zq35 rfl | exact Sep.at_ (i := 2) zq35 rfl | exact Sep.at_ (i := 3) zq35 rfl | exact Sep.at_ (i := 4) zq35 rfl | exact Sep.at_ (i := 5) zq35 rfl | exact Sep.at_ (i := 6) zq35 rfl); (exact rfl)) | ((with_reducible apply resD_cell); (exact rfl); (exact sh_of rfl); (first | assumption | exact St.setH_self _ _ _ | exact Sep.at_ (i := 0) zq35 rfl | exact Sep.at_ (i := 1) zq35 rfl | exact Sep.at_ (i := 2) zq35 rfl | exact Sep.at_ (i := 3) zq35 rfl | exact Sep.at_ (i := 4) zq35 rfl | exact Sep.at_ (i := 5) zq35 rfl | exact Sep.at_ (i := 6) zq35 rfl); (exact rfl)))); (simp only [resOf]))))
  exact KE.mk _ (Ext.refl _) (hK _ t (by simp; omega) (by simp; omega) ht ht0)

end Go.Proofs.ZtLe
namespace Go.Proofs.ZtLe
open Go.RowKit Go.Proofs Go.Proofs.Zm
set_option linter.unusedVariables false
set_option linter.unusedSimpArgs false
set_option maxHeartbeats 20000000
set_option maxRecDepth 100000
attribute [local irreducible] ZWp ZOps ZPure ZPure0 ZVal ZOp SoundF

/-! ### numbers that are added -/
def bytesN (b : Nat) : Bs := putB (oneN b : Nat) 8
def ofN (l : Bs) : Nat := if l.length = 8 then oneN (get l).toNat else 0
theorem bytesN_length (b : Nat) : (bytesN b).length = 8 := by simp [bytesN, putB, put_length]
theorem put_pf {n : Int} {k : Int} (h : 0 ≤ n ∧ n < 18446744073709551616) : PureF Try.prog 44 [.v (.int .u64 n), .v (.int .i64 k)] (.row (bytesD (putB n k)) 1 0) :=
  PureF.ofOwn fun st K hK => ⟨_, put_snd, n, k, rfl, h.1, h.2, fun t ht ht0 => hK [] _ _ ⟨(Ext.refl _).setT t, fun _ _ h => (by cases h), fun _ _ h => (by cases h), List.nodup_nil⟩ (fun r hr => by simp at hr) fun G hr u hu => hu.notok⟩
theorem get_pf {l : Bs} {tk : Nat} (h : l.length ≤ 140737488355328) : PureF Try.prog 59 [.row (bytesD l) 1 tk] (.v (.int .u64 (get l))) := PureF.of get_snd fun st K hK => ⟨_, _, rfl, h, hK⟩
/-! ### mesg.Fold, mesg.Of and the document's -/
def stepM (s : Bs × Bool) (m : MsgV) : Bs × Bool := if m.1 = 1 then (m.2.2, true) else if m.1 = 2 then ([], false) else if m.1 = 3 then (bytesN (addN (ofN s.1) (ofN m.2.2)), true) else s
def foldM (v : Bs) (there : Bool) (l : List MsgV) : Bs × Bool := l.foldl stepM ((if there = true then v else []), there)
theorem foldM_snoc (v : Bs) (there : Bool) (l : List MsgV) (m : MsgV) : foldM v there (l ++ [m]) = stepM (foldM v there l) m := by unfold foldM; rw [List.foldl_append]; rfl
end Go.Proofs.ZtLe
namespace Go.Proofs.ZtLe
open Go.RowKit Go.Proofs Go.Proofs.Zm
set_option linter.unusedVariables false
set_option linter.unusedSimpArgs false
set_option maxHeartbeats 20000000
set_option maxRecDepth 100000
attribute [local irreducible] ZWp ZOps ZPure ZPure0 ZVal ZOp SoundF

/-! ### mesg.Fold -/
end Go.Proofs.ZtLe
namespace Go.Proofs.ZtLe
open Go.RowKit Go.Proofs Go.Proofs.Zm
set_option linter.unusedVariables false
set_option linter.unusedSimpArgs false
set_option maxHeartbeats 20000000
set_option maxRecDepth 100000
attribute [local irreducible] ZWp ZOps ZPure ZPure0 ZVal ZOp SoundF

/-! ### bytes.Equal, mesg.Of, the pairs' order -/
theorem equal_pf {l m : Bs} {tk tm : Nat} (h : True) : PureF Try.prog 61 [.row (bytesD l) 1 tk, .row (bytesD m) 1 tm] (.v (.bool (l == m))) := by
  refine pure_of Try.func61 rfl Try.results61 (by rw [Try.ntmps61]; simp) (fun w0 st K hK => ?_); rw [Try.ntmps61]
  (repeat (first | ((with_reducible apply zr_seq)) | ((with_reducible apply zr_region); (try simp only [List.append_eq, List.cons_append, List.nil_append])) | ((with_reducible apply zo_end)) | ((with_reducible apply zs_move); (exact rfl); (exact rfl)) | ((with_reducible apply zs_assign); (exact rfl); (exact rfl)) | ((with_reducible apply zs_streq); (exact rfl); (exact rfl); (exact rfl)) | ((with_reducible apply zs_toStr); (exact rfl); (exact rfl); (exact un_sl rfl); (exact Try.underlying5); (exact Try.underlying9)) | ((with_reducible apply zr_retZ); (exact rfl); (repeat (first | exact resD_nil _ _ _ | ((with_reducible apply resD_tmp); (exact rfl)) | ((with_reducible apply resD_cell_agg); (exact rfl); (exact sh_of rfl); (first | assumption | exact St.setH_self _ _ _ | exact Sep.at_ (i := 0) zq35 rfl | exact Sep.at_ (i := 1) zq35 rfl | exact Sep.at_ (i := 2) zq35 rfl | exact Sep.at_ (i := 3) zq35 rfl | exact Sep.at_ (i := 4) zq35 rfl | exact Sep.at_ (i := 5) zq35 rfl | exact Sep.at_ (i := 6) zq35 rfl); (exact rfl)) | ((with_reducible apply resD_cell); (exact rfl); (exact sh_of rfl); (first | assumption | exact St.setH_self _ _ _ | exact Sep.at_ (i := 0) zq35 rfl | exact Sep.at_ (i := 1) zq35 rfl | exact Sep.at_ (i := 2) zq35 rfl | exact Sep.at_ (i := 3) zq35 rfl | exact Sep.at_ (i := 4) zq35 rfl | exact Sep.at_ (i := 5) zq35 rfl | exact Sep.at_ (i := 6) zq35 rfl); (exact rfl)))); (simp only [resOf]))))
  exact KE.mk _ (Ext.refl _) hK
def isOf (key : Bs) (m : MsgV) : Bool := decide (1 ≤ m.1) && decide (m.1 ≤ 3) && (m.2.1 == key)
def ofL (key : Bs) (l : List MsgV) : List MsgV := l.filter (isOf key)
end Go.Proofs.ZtLe
namespace Go.Proofs.ZtLe
open Go.RowKit Go.Proofs Go.Proofs.Zm
set_option linter.unusedVariables false
set_option linter.unusedSimpArgs false
set_option maxHeartbeats 20000000
set_option maxRecDepth 100000
attribute [local irreducible] ZWp ZOps ZPure ZPure0 ZVal ZOp SoundF

/-! ### pairs in own memory -/
def keysP (ps : List PairV) : List Bs := ps.map (·.1)
theorem keysP_length (ps : List PairV) : (keysP ps).length = ps.length := by simp [keysP]
theorem pairR_flat_length (l : List PairV) : (pairR l).flatten.length = l.length * 2 := by
  rw [flatten_len (pairR l) (pairR_two l), pairR_length]
end Go.Proofs.ZtLe
namespace Go.Proofs.ZtLe
open Go.RowKit Go.Proofs Go.Proofs.Zm
set_option linter.unusedVariables false
set_option linter.unusedSimpArgs false
set_option maxHeartbeats 20000000
set_option maxRecDepth 100000
attribute [local irreducible] ZWp ZOps ZPure ZPure0 ZVal ZOp SoundF

/-! ### mesg.one -/
def thereP (ps : List PairV) (k : Bs) : Bool := decide ((keysP ps)[cnt (keysP ps) k]? = some k)
def wasP (ps : List PairV) (k : Bs) : Bs := if thereP ps k = true then (ps.getD (cnt (keysP ps) k) ([], [])).2 else []
def oneL (ps : List PairV) (m : MsgV) : List PairV :=
  let r := foldM (wasP ps m.2.1) (thereP ps m.2.1) [m]
  let i := cnt (keysP ps) m.2.1
  if thereP ps m.2.1 = true then (if r.2 = true then ps.set i (m.2.1, r.1) else ps.take i ++ ps.drop (i + 1)) else if r.2 = true then ps.take i ++ (m.2.1, r.1) :: ps.drop i else ps
theorem thereP_get {ps : List PairV} {k : Bs} (h : thereP ps k = true) : ∃ v, ps[cnt (keysP ps) k]? = some (k, v) := by
  unfold thereP at h
  have h := of_decide_eq_true h
  unfold keysP at h ⊢
  rw [List.getElem?_map] at h
  obtain ⟨⟨a, v⟩, h1, h2⟩ := Option.map_eq_some_iff.1 h
  simp only at h2
  subst h2
  exact ⟨v, h1⟩
theorem pf_take {l : List PairV} {i : Nat} (h : i ≤ l.length) : (pairR l).flatten.take (i * 2) = (pairR (l.take i)).flatten ∧ (pairR l).flatten.drop (i * 2) = (pairR (l.drop i)).flatten := by
  have e : pairR l = pairR (l.take i) ++ pairR (l.drop i) := by rw [← pairR_append, List.take_append_drop]
  have e3 : (pairR (l.take i)).flatten.length = i * 2 := by rw [pairR_flat_length, List.length_take, Nat.min_eq_left h]
  rw [e, List.flatten_append, List.take_left' e3, List.drop_left' e3]
  exact ⟨rfl, rfl⟩
def PB (p : PairV) : Prop := p.1.length ≤ 2147483648 ∧ p.2.length ≤ 2147483648
def oneOwn : ZSpec := fun args st K => ∃ (o : Option Nat) (c : Nat) (full : List D) (ps : List PairV) (m : MsgV), args = [orow o ps.length c, .agg (msgD m)] ∧ OwnA st [(o, full)] ∧ GRow o full 2 ps.length c (pairR ps).flatten ∧ Srt (keysP ps) ∧ ps.length ≤ 2147483647 ∧ (∀ p ∈ ps, PB p) ∧ MB m ∧
  ∀ o' c' f' st', Sep (bareL st [(o, full)]) st' [(o', f')] → GRow o' f' 2 (oneL ps m).length c' (pairR (oneL ps m)).flatten → K (orow o' (oneL ps m).length c') st'
end Go.Proofs.ZtLe
