/- A part of the proof of StshKeeps: walks of the functions that it reaches. No condition. -/
import Derived.Test.YtaiegjgiodlpaaaDoorZtP4
import Derived.Test.YtaiegjgiodlpaaaDoorZmP2
import Derived.Test.YtaiegjgiodlpaaaDoorZmAuto
namespace Go.Proofs.ZtLe
open Go.RowKit Go.Proofs Go.Proofs.Zm
set_option linter.unusedVariables false
set_option linter.unusedSimpArgs false
set_option maxHeartbeats 20000000
set_option maxRecDepth 100000
attribute [local irreducible] ZWp ZOps ZPure ZPure0 ZVal ZOp SoundF

/-! ### how many bits a number needs -/
def bl (x : Nat) : Nat := bif decide (x = 0) then 0 else x.log2 + 1
theorem of_all256 {s : ByteArray} (h : ((List.range 256).all fun v => s.data[v]? == some (UInt8.ofNat (bl v))) = true) {v : Nat} (hv : v < 256) : s.data[((v : Nat) : Int).toNat]? = some (UInt8.ofNat (bl v)) := by
  have := List.all_eq_true.1 h v (List.mem_range.2 hv)
  rw [Int.toNat_natCast]
  exact eq_of_beq this
theorem bl_lt {x k : Nat} : bl x ≤ k ↔ x < 2 ^ k := by
  unfold bl
  by_cases h : x = 0
  · subst h
    simp only [decide_true, Bool.cond_true, Nat.zero_le, true_iff]
    exact Nat.pow_pos (by decide)
  · rw [decide_eq_false h, Bool.cond_false, ← Nat.log2_lt h]
    omega
theorem bl_div {x : Nat} (h : 256 ≤ x) : bl x = bl (x / 256) + 8 := by
  have h1 : ∀ k, bl x ≤ k + 8 ↔ bl (x / 256) ≤ k := fun k => by
    rw [bl_lt, bl_lt, Nat.div_lt_iff_lt_mul (by decide), Nat.pow_add]
  have h8 : ¬ bl x ≤ 7 := fun q => by have := bl_lt.1 q; omega
  have a := (h1 (bl (x / 256))).2 (Nat.le_refl _)
  have b := (h1 (bl x - 8)).1 (by omega)
  omega
theorem bl_16 {x : Nat} (h : x < 65536) : bl x ≤ 16 := bl_lt.2 h
theorem len64_pf {x : Nat} (h : x < 65536) : PureF Tryd.prog 61 [.v (.int .u64 (x : Nat))] (.v (.int .i64 (bl x : Nat))) := by
  refine pure_of Tryd.func61 rfl Tryd.results61 (by rw [Tryd.ntmps61]; simp) (fun w0 st K hK => ?_); rw [Tryd.ntmps61]
  have hS := Sep.nil st
  have g1 : decide (4294967296 ≤ ((x : Nat) : Int)) = false := decide_eq_false (by omega)
  have g2 : decide (65536 ≤ ((x : Nat) : Int)) = false := decide_eq_false (by omega)
  have hb := bl_16 h
  by_cases h3 : 256 ≤ x
  · have g3 : decide (256 ≤ ((x : Nat) : Int)) = true := decide_eq_true (by omega)
    have e := bl_div h3
    have hy : x / 256 < 256 := by omega
    obtain ⟨v, hv⟩ : ∃ v, v = x / 256 := ⟨_, rfl⟩
    rw [← hv] at e hy
    have ev_ : ((UInt8.ofNat (bl v)).toNat : Nat) = bl v := UInt8.toNat_ofNat_of_lt' (by show bl v < 256; omega)
    have hw : IntKind.u8.wrap ((v : Nat) : Int) = (v : Nat) := by simp [IntKind.wrap, IntKind.bits, IntKind.signed]; omega
    have hd : ((x : Nat) : Int) / 256 = (v : Nat) := by omega
    (repeat (first | ((with_reducible apply zr_seq)) | ((with_reducible apply zr_region); (try simp only [List.append_eq, List.cons_append, List.nil_append])) | ((with_reducible apply zo_end)) | ((with_reducible apply zs_move); (exact rfl); (exact rfl)) | ((with_reducible apply zs_assign); (exact rfl); (exact rfl)) | ((with_reducible apply zs_geq); (exact rfl); (exact rfl); (exact rfl)) | ((with_reducible apply zs_add); (exact rfl); (exact rfl); (exact rfl); (first | (with_reducible assumption) | exact wrap_in64 (by omega) (by omega))) | ((with_reducible apply zr_cond_t); (exact rfl); (first | assumption | exact rfl)) | ((with_reducible apply zr_cond_f); (exact rfl); (first | assumption | exact rfl)) | ((with_reducible apply zr_skip')) | ((with_reducible apply (zs_shr (p := 256))); (exact rfl); (exact rfl); (decide); (exact rfl); (decide))))
    rw [hd]
    (repeat (first | ((with_reducible apply zs_conv); (exact rfl); (exact rfl); (exact un_int rfl); (exact un_int rfl); (first | first | (with_reducible assumption) | exact wrap_in64 (by omega) (by omega) | exact wrap_inU64 (by omega) (by omega)))))
    (try ((with_reducible apply zs_yes); exact rfl; exact rfl; (first | assumption | exact rfl))); refine zo_pure0 rfl rfl (by decide) (zp_strByte rfl Tryd.underlying9 rfl rfl (by omega) (by exact of_all256 zq18 hy)) ?_
    rw [ev_]
    (repeat (first | ((with_reducible apply zo_end)) | ((with_reducible apply zs_assign); (exact rfl); (exact rfl)) | ((with_reducible apply zs_add); (exact rfl); (exact rfl); (exact rfl); (first | (with_reducible assumption) | exact wrap_in64 (by omega) (by omega))) | ((with_reducible apply zs_conv); (exact rfl); (exact rfl); (exact un_int rfl); (exact un_int rfl); (first | first | (with_reducible assumption) | exact wrap_in64 (by omega) (by omega) | exact wrap_inU64 (by omega) (by omega))) | ((with_reducible apply zr_retZ); (exact rfl); (repeat (first | exact resD_nil _ _ _ | ((with_reducible apply resD_tmp); (exact rfl)) | ((with_reducible apply resD_cell_agg); (exact rfl); (exact sh_of rfl); (first | assumption | exact St.setH_self _ _ _ | exact Sep.at_ (i := 0) zq17 rfl | exact Sep.at_ (i := 1) zq17 rfl | exact Sep.at_ (i := 2) zq17 rfl | exact Sep.at_ (i := 3) zq17 rfl | exact Sep.at_ (i := 4) zq17 rfl | exact Sep.at_ (i := 5) zq17 rfl | exact Sep.at_ (i := 6) zq17 rfl); (exact rfl)) | ((with_reducible apply resD_cell); (exact rfl); (exact sh_of rfl); (first | assumption | exact St.setH_self _ _ _ | exact Sep.at_ (i := 0) zq17 rfl | exact Sep.at_ (i := 1) zq17 rfl | exact Sep.at_ (i := 2) zq17 rfl | exact Sep.at_ (i := 3) zq17 rfl | exact Sep.at_ (i := 4) zq17 rfl | exact Sep.at_ (i := 5) zq17 rfl | exact Sep.at_ (i := 6) zq17 rfl); (exact rfl)))); (simp only [resOf]))))
    rw [show ((0 : Int) + 8 + ((bl v : Nat) : Int)) = ((bl x : Nat) : Int) by omega]
    exact KE.mk st hS.ext hK
  · have g3 : decide (256 ≤ ((x : Nat) : Int)) = false := decide_eq_false (by omega)
    have ev_ : ((UInt8.ofNat (bl x)).toNat : Nat) = bl x := UInt8.toNat_ofNat_of_lt' (by show bl x < 256; omega)
    have hw : IntKind.u8.wrap ((x : Nat) : Int) = (x : Nat) := by simp [IntKind.wrap, IntKind.bits, IntKind.signed]; omega
    (repeat (first | ((with_reducible apply zr_seq)) | ((with_reducible apply zr_region); (try simp only [List.append_eq, List.cons_append, List.nil_append])) | ((with_reducible apply zo_end)) | ((with_reducible apply zs_move); (exact rfl); (exact rfl)) | ((with_reducible apply zs_assign); (exact rfl); (exact rfl)) | ((with_reducible apply zs_geq); (exact rfl); (exact rfl); (exact rfl)) | ((with_reducible apply zs_conv); (exact rfl); (exact rfl); (exact un_int rfl); (exact un_int rfl); (first | first | (with_reducible assumption) | exact wrap_in64 (by omega) (by omega) | exact wrap_inU64 (by omega) (by omega))) | ((with_reducible apply zr_cond_f); (exact rfl); (first | assumption | exact rfl)) | ((with_reducible apply zr_skip'))))
    (try ((with_reducible apply zs_yes); exact rfl; exact rfl; (first | assumption | exact rfl))); refine zo_pure0 rfl rfl (by decide) (zp_strByte rfl Tryd.underlying9 rfl rfl (by omega) (by exact of_all256 zq18 (by omega))) ?_
    rw [ev_]
    (repeat (first | ((with_reducible apply zo_end)) | ((with_reducible apply zs_assign); (exact rfl); (exact rfl)) | ((with_reducible apply zs_add); (exact rfl); (exact rfl); (exact rfl); (first | (with_reducible assumption) | exact wrap_in64 (by omega) (by omega))) | ((with_reducible apply zs_conv); (exact rfl); (exact rfl); (exact un_int rfl); (exact un_int rfl); (first | first | (with_reducible assumption) | exact wrap_in64 (by omega) (by omega) | exact wrap_inU64 (by omega) (by omega))) | ((with_reducible apply zr_retZ); (exact rfl); (repeat (first | exact resD_nil _ _ _ | ((with_reducible apply resD_tmp); (exact rfl)) | ((with_reducible apply resD_cell_agg); (exact rfl); (exact sh_of rfl); (first | assumption | exact St.setH_self _ _ _ | exact Sep.at_ (i := 0) zq17 rfl | exact Sep.at_ (i := 1) zq17 rfl | exact Sep.at_ (i := 2) zq17 rfl | exact Sep.at_ (i := 3) zq17 rfl | exact Sep.at_ (i := 4) zq17 rfl | exact Sep.at_ (i := 5) zq17 rfl | exact Sep.at_ (i := 6) zq17 rfl); (exact rfl)) | ((with_reducible apply resD_cell); (exact rfl); (exact sh_of rfl); (first | assumption | exact St.setH_self _ _ _ | exact Sep.at_ (i := 0) zq17 rfl | exact Sep.at_ (i := 1) zq17 rfl | exact Sep.at_ (i := 2) zq17 rfl | exact Sep.at_ (i := 3) zq17 rfl | exact Sep.at_ (i := 4) zq17 rfl | exact Sep.at_ (i := 5) zq17 rfl | exact Sep.at_ (i := 6) zq17 rfl); (exact rfl)))); (simp only [resOf]))))
    rw [Int.zero_add]
    exact KE.mk st hS.ext hK
theorem len_pf {x : Nat} (h : x < 65536) : PureF Tryd.prog 48 [.v (.int .u64 (x : Nat))] (.v (.int .i64 (bl x : Nat))) := by
  refine pure_of Tryd.func48 rfl Tryd.results48 (by rw [Tryd.ntmps48]; simp) (fun w0 st K hK => ?_); rw [Tryd.ntmps48]
  have hS := Sep.nil st
  (repeat (first | ((with_reducible apply zr_seq)) | ((with_reducible apply zr_region); (try simp only [List.append_eq, List.cons_append, List.nil_append])) | ((with_reducible apply zo_end)) | ((with_reducible apply zs_move); (exact rfl); (exact rfl)) | ((with_reducible apply zs_assign); (exact rfl); (exact rfl)) | ((with_reducible apply zr_cond_f); (exact rfl); (first | assumption | exact rfl)) | ((with_reducible apply zr_skip')) | ((with_reducible apply (zs_callQ len64_pf cl_61)); (exact rfl); (exact rfl); ((repeat (first | exact DLes.nil | (apply DLes.cons; first | exact DLe.refl _ | exact DLe.nilB | exact DLe.nilR | exact DLe.nilI)))); (first | exact trivial | assumption | ((repeat' (with_reducible refine And.intro ?_ ?_)) <;> first | assumption | omega | exact trivial | (simp; done) | (simp; omega)))) | ((with_reducible apply zr_retZ); (exact rfl); (repeat (first | exact resD_nil _ _ _ | ((with_reducible apply resD_tmp); (exact rfl)) | ((with_reducible apply resD_cell_agg); (exact rfl); (exact sh_of rfl); (first | assumption | exact St.setH_self _ _ _ | exact Sep.at_ (i := 0) zq17 rfl | exact Sep.at_ (i := 1) zq17 rfl | exact Sep.at_ (i := 2) zq17 rfl | exact Sep.at_ (i := 3) zq17 rfl | exact Sep.at_ (i := 4) zq17 rfl | exact Sep.at_ (i := 5) zq17 rfl | exact Sep.at_ (i := 6) zq17 rfl); (exact rfl)) | ((with_reducible apply resD_cell); (exact rfl); (exact sh_of rfl); (first | assumption | exact St.setH_self _ _ _ | exact Sep.at_ (i := 0) zq17 rfl | exact Sep.at_ (i := 1) zq17 rfl | exact Sep.at_ (i := 2) zq17 rfl | exact Sep.at_ (i := 3) zq17 rfl | exact Sep.at_ (i := 4) zq17 rfl | exact Sep.at_ (i := 5) zq17 rfl | exact Sep.at_ (i := 6) zq17 rfl); (exact rfl)))); (simp only [resOf]))))
  exact KE.mk st hS.ext hK
/-- The deepest level at which two ways have one bucket. -/
def hasB (n l : Int) : Bool := leavesB n && decide (0 ≤ l) && decide (l < n)
def meetL (n a b : Int) : Int := bif hasB n a && hasB n b then ((depthL n : Nat) : Int) - (bl (a.toNat ^^^ b.toNat) : Nat) else -1
theorem bxor_small {a b : Nat} (ha : a < 65536) (hb : b < 65536) : IntKind.i64.wrap ((BitVec.ofInt IntKind.i64.bits (a : Int) ^^^ BitVec.ofInt IntKind.i64.bits (b : Int)).toNat : Int) = ((a ^^^ b : Nat) : Int) := by
  have h1 : a ^^^ b < 2 ^ 16 := Nat.xor_lt_two_pow (by omega) (by omega)
  rw [BitVec.ofInt_natCast, BitVec.ofInt_natCast, BitVec.toNat_xor, BitVec.toNat_ofNat, BitVec.toNat_ofNat, Nat.mod_eq_of_lt (Nat.lt_trans ha (by decide)), Nat.mod_eq_of_lt (Nat.lt_trans hb (by decide))]
  exact wrap_in64 (by omega) (by omega)
theorem meet_pf {n a b : Int} (h : True) : PureF Tryd.prog 33 [.v (.int .i64 n), .v (.int .i64 a), .v (.int .i64 b)] (.v (.int .i64 (meetL n a b))) := by
  refine pure_of Tryd.func33 rfl Tryd.results33 (by rw [Tryd.ntmps33]; simp) (fun w0 st K hK => ?_); rw [Tryd.ntmps33]
  have hS := Sep.nil st
  cases h1 : (hasB n a && hasB n b)
  · have e : meetL n a b = -1 := by unfold meetL; rw [h1]; rfl
    rw [e] at hK
    cases h2 : hasB n a
    · have g1 : (!(leavesB n && decide (0 ≤ a) && decide (a < n))) = true := by show (!hasB n a) = true; rw [h2]; rfl
      (repeat (first | ((with_reducible apply zr_seq)) | ((with_reducible apply zr_region); (try simp only [List.append_eq, List.cons_append, List.nil_append])) | ((with_reducible apply zo_end)) | ((with_reducible apply zs_noU); (exact rfl); (exact rfl); (first | assumption | exact rfl | (simp only [Bool.not_false, Bool.not_true]; assumption)); (exact rfl)) | ((with_reducible apply zs_move); (exact rfl); (exact rfl)) | ((with_reducible apply zs_assign); (exact rfl); (exact rfl)) | ((with_reducible apply zs_not); (exact rfl); (exact rfl)) | ((with_reducible apply zs_pick_t); (exact rfl); (exact rfl); (first | assumption | exact rfl); (exact rfl)) | ((with_reducible apply zr_cond_t); (exact rfl); (first | assumption | exact rfl)) | ((with_reducible apply (zs_callQ phas_pf cl_47)); (exact rfl); (exact rfl); ((repeat (first | exact DLes.nil | (apply DLes.cons; first | exact DLe.refl _ | exact DLe.nilB | exact DLe.nilR | exact DLe.nilI)))); (first | exact trivial | assumption | ((repeat' (with_reducible refine And.intro ?_ ?_)) <;> first | assumption | omega | exact trivial | (simp; done) | (simp; omega)))) | ((with_reducible apply zr_retZ); (exact rfl); (repeat (first | exact resD_nil _ _ _ | ((with_reducible apply resD_tmp); (exact rfl)) | ((with_reducible apply resD_cell_agg); (exact rfl); (exact sh_of rfl); (first | assumption | exact St.setH_self _ _ _ | exact Sep.at_ (i := 0) zq17 rfl | exact Sep.at_ (i := 1) zq17 rfl | exact Sep.at_ (i := 2) zq17 rfl | exact Sep.at_ (i := 3) zq17 rfl | exact Sep.at_ (i := 4) zq17 rfl | exact Sep.at_ (i := 5) zq17 rfl | exact Sep.at_ (i := 6) zq17 rfl); (exact rfl)) | ((with_reducible apply resD_cell); (exact rfl); (exact sh_of rfl); (first | assumption | exact St.setH_self _ _ _ | exact Sep.at_ (i := 0) zq17 rfl | exact Sep.at_ (i := 1) zq17 rfl | exact Sep.at_ (i := 2) zq17 rfl | exact Sep.at_ (i := 3) zq17 rfl | exact Sep.at_ (i := 4) zq17 rfl | exact Sep.at_ (i := 5) zq17 rfl | exact Sep.at_ (i := 6) zq17 rfl); (exact rfl)))); (simp only [resOf]))))
      exact KE.mk st hS.ext hK
    · have g1 : (!(leavesB n && decide (0 ≤ a) && decide (a < n))) = false := by show (!hasB n a) = false; rw [h2]; rfl
      have g2 : (!(leavesB n && decide (0 ≤ b) && decide (b < n))) = true := by show (!hasB n b) = true; rw [h2, Bool.true_and] at h1; rw [h1]; rfl
      (repeat (first | ((with_reducible apply zr_seq)) | ((with_reducible apply zr_region); (try simp only [List.append_eq, List.cons_append, List.nil_append])) | ((with_reducible apply zo_end)) | ((with_reducible apply zs_yes); (exact rfl); (exact rfl); (first | assumption | exact rfl)) | ((with_reducible apply zs_move); (exact rfl); (exact rfl)) | ((with_reducible apply zs_assign); (exact rfl); (exact rfl)) | ((with_reducible apply zs_not); (exact rfl); (exact rfl)) | ((with_reducible apply zs_pick_f); (exact rfl); (exact rfl); (first | assumption | exact rfl); (exact rfl)) | ((with_reducible apply zr_cond_t); (exact rfl); (first | assumption | exact rfl)) | ((with_reducible apply (zs_callQ phas_pf cl_47)); (exact rfl); (exact rfl); ((repeat (first | exact DLes.nil | (apply DLes.cons; first | exact DLe.refl _ | exact DLe.nilB | exact DLe.nilR | exact DLe.nilI)))); (first | exact trivial | assumption | ((repeat' (with_reducible refine And.intro ?_ ?_)) <;> first | assumption | omega | exact trivial | (simp; done) | (simp; omega)))) | ((with_reducible apply zr_retZ); (exact rfl); (repeat (first | exact resD_nil _ _ _ | ((with_reducible apply resD_tmp); (exact rfl)) | ((with_reducible apply resD_cell_agg); (exact rfl); (exact sh_of rfl); (first | assumption | exact St.setH_self _ _ _ | exact Sep.at_ (i := 0) zq17 rfl | exact Sep.at_ (i := 1) zq17 rfl | exact Sep.at_ (i := 2) zq17 rfl | exact Sep.at_ (i := 3) zq17 rfl | exact Sep.at_ (i := 4) zq17 rfl | exact Sep.at_ (i := 5) zq17 rfl | exact Sep.at_ (i := 6) zq17 rfl); (exact rfl)) | ((with_reducible apply resD_cell); (exact rfl); (exact sh_of rfl); (first | assumption | exact St.setH_self _ _ _ | exact Sep.at_ (i := 0) zq17 rfl | exact Sep.at_ (i := 1) zq17 rfl | exact Sep.at_ (i := 2) zq17 rfl | exact Sep.at_ (i := 3) zq17 rfl | exact Sep.at_ (i := 4) zq17 rfl | exact Sep.at_ (i := 5) zq17 rfl | exact Sep.at_ (i := 6) zq17 rfl); (exact rfl)))); (simp only [resOf]))))
      exact KE.mk st hS.ext hK
  · have e : meetL n a b = ((depthL n : Nat) : Int) - (bl (a.toNat ^^^ b.toNat) : Nat) := by unfold meetL; rw [h1]; rfl
    rw [e] at hK
    rw [Bool.and_eq_true] at h1
    obtain ⟨h2, h3⟩ := h1
    have g1 : (!(leavesB n && decide (0 ≤ a) && decide (a < n))) = false := by show (!hasB n a) = false; rw [h2]; rfl
    have g2 : (!(leavesB n && decide (0 ≤ b) && decide (b < n))) = false := by show (!hasB n b) = false; rw [h3]; rfl
    unfold hasB at h2 h3
    simp only [Bool.and_eq_true, decide_eq_true_eq] at h2 h3
    have hn := leavesB_t h2.1.1
    have hd := depthL_le n
    obtain ⟨A, hA⟩ : ∃ A : Nat, a = (A : Int) := ⟨a.toNat, by omega⟩
    obtain ⟨B, hB⟩ : ∃ B : Nat, b = (B : Int) := ⟨b.toNat, by omega⟩
    have hx : IntKind.i64.wrap ((BitVec.ofInt IntKind.i64.bits a ^^^ BitVec.ofInt IntKind.i64.bits b).toNat : Int) = ((A ^^^ B : Nat) : Int) := by rw [hA, hB]; exact bxor_small (by omega) (by omega)
    have hx2 : A ^^^ B < 65536 := Nat.xor_lt_two_pow (n := 16) (by omega) (by omega)
    have hbl := bl_16 hx2
    rw [show a.toNat ^^^ b.toNat = A ^^^ B by rw [hA, hB]; rfl] at hK
    (repeat (first | ((with_reducible apply zr_seq)) | ((with_reducible apply zr_region); (try simp only [List.append_eq, List.cons_append, List.nil_append])) | ((with_reducible apply zo_end)) | ((with_reducible apply zs_yes); (exact rfl); (exact rfl); (first | assumption | exact rfl)) | ((with_reducible apply zs_move); (exact rfl); (exact rfl)) | ((with_reducible apply zs_assign); (exact rfl); (exact rfl)) | ((with_reducible apply zs_not); (exact rfl); (exact rfl)) | ((with_reducible apply zs_pick_f); (exact rfl); (exact rfl); (first | assumption | exact rfl); (exact rfl)) | ((with_reducible apply zr_cond_f); (exact rfl); (first | assumption | exact rfl)) | ((with_reducible apply zr_skip')) | ((with_reducible apply (zs_callQ phas_pf cl_47)); (exact rfl); (exact rfl); ((repeat (first | exact DLes.nil | (apply DLes.cons; first | exact DLe.refl _ | exact DLe.nilB | exact DLe.nilR | exact DLe.nilI)))); (first | exact trivial | assumption | ((repeat' (with_reducible refine And.intro ?_ ?_)) <;> first | assumption | omega | exact trivial | (simp; done) | (simp; omega)))) | ((with_reducible apply (zs_callQ depth_pf cl_46)); (exact rfl); (exact rfl); ((repeat (first | exact DLes.nil | (apply DLes.cons; first | exact DLe.refl _ | exact DLe.nilB | exact DLe.nilR | exact DLe.nilI)))); (first | exact trivial | assumption | ((repeat' (with_reducible refine And.intro ?_ ?_)) <;> first | assumption | omega | exact trivial | (simp; done) | (simp; omega))))))
    (try ((with_reducible apply zs_yes); exact rfl; exact rfl; (first | assumption | exact rfl))); refine zo_pure0 rfl rfl (by decide) (zp_xor rfl rfl rfl hx) ?_
    (repeat (first | ((with_reducible apply zo_end)) | ((with_reducible apply zs_assign); (exact rfl); (exact rfl)) | ((with_reducible apply zs_sub); (exact rfl); (exact rfl); (exact rfl); (first | (with_reducible assumption) | exact wrap_in64 (by omega) (by omega))) | ((with_reducible apply zs_conv); (exact rfl); (exact rfl); (exact un_int rfl); (exact un_int rfl); (first | first | (with_reducible assumption) | exact wrap_in64 (by omega) (by omega) | exact wrap_inU64 (by omega) (by omega))) | ((with_reducible apply (zs_callQ len_pf cl_48)); (exact rfl); (exact rfl); ((repeat (first | exact DLes.nil | (apply DLes.cons; first | exact DLe.refl _ | exact DLe.nilB | exact DLe.nilR | exact DLe.nilI)))); (first | exact trivial | assumption | ((repeat' (with_reducible refine And.intro ?_ ?_)) <;> first | assumption | omega | exact trivial | (simp; done) | (simp; omega)))) | ((with_reducible apply zr_retZ); (exact rfl); (repeat (first | exact resD_nil _ _ _ | ((with_reducible apply resD_tmp); (exact rfl)) | ((with_reducible apply resD_cell_agg); (exact rfl); (exact sh_of rfl); (first | assumption | exact St.setH_self _ _ _ | exact Sep.at_ (i := 0) zq17 rfl | exact Sep.at_ (i := 1) zq17 rfl | exact Sep.at_ (i := 2) zq17 rfl | exact Sep.at_ (i := 3) zq17 rfl | exact Sep.at_ (i := 4) zq17 rfl | exact Sep.at_ (i := 5) zq17 rfl | exact Sep.at_ (i := 6) zq17 rfl); (exact rfl)) | ((with_reducible apply resD_cell); (exact rfl); (exact sh_of rfl); (first | assumption | exact St.setH_self _ _ _ | exact Sep.at_ (i := 0) zq17 rfl | exact Sep.at_ (i := 1) zq17 rfl | exact Sep.at_ (i := 2) zq17 rfl | exact Sep.at_ (i := 3) zq17 rfl | exact Sep.at_ (i := 4) zq17 rfl | exact Sep.at_ (i := 5) zq17 rfl | exact Sep.at_ (i := 6) zq17 rfl); (exact rfl)))); (simp only [resOf]))))
    exact KE.mk st hS.ext hK
/-! ### both find the same level -/
theorem div_eq_xor {A B k : Nat} : A / 2 ^ k = B / 2 ^ k ↔ bl (A ^^^ B) ≤ k := by
  rw [bl_lt, ← Nat.shiftRight_eq_div_pow, ← Nat.shiftRight_eq_div_pow]
  have h1 : (A ^^^ B) >>> k = (A >>> k) ^^^ (B >>> k) := Nat.shiftRight_xor_distrib
  have h2 : A ^^^ B < 2 ^ k ↔ (A ^^^ B) >>> k = 0 := by
    rw [Nat.shiftRight_eq_div_pow]
    exact ⟨fun h => Nat.div_eq_of_lt h, fun h => by
      rcases Nat.div_eq_zero_iff.1 h with q | q
      · exact absurd q (Nat.pos_iff_ne_zero.1 (Nat.pow_pos (by decide)))
      · exact q⟩
  rw [h2, h1]
  exact ⟨fun h => by rw [h, Nat.xor_self], fun h => by have := congrArg (· ^^^ (B >>> k)) h; simpa only [Nat.xor_assoc, Nat.xor_self, Nat.xor_zero, Nat.zero_xor] using this⟩
theorem onL_no {n a : Int} (h : hasB n a = false) : onL n a = [] := by
  have : ∀ v : Int, atOk n a v = false := fun v => by
    unfold hasB at h
    unfold atOk
    cases h1 : leavesB n
    · rfl
    · rw [h1, Bool.true_and] at h
      rw [h]; rfl
  unfold onL onTo
  rw [List.filter_eq_nil_iff.2 (fun x _ => by rw [this]; simp)]
  rfl
theorem onL_at {n a : Int} (h : hasB n a = true) : onL n a = (List.range (depthL n + 1)).map fun (i : Nat) => (2 : Int) ^ i - 1 + a / 2 ^ (depthL n - i) := by
  have hok : ∀ i ∈ List.range (depthL n + 1), atOk n a (i : Nat) = true := fun i hi => by
    have hi := List.mem_range.1 hi
    unfold hasB at h
    unfold atOk
    simp only [Bool.and_eq_true, decide_eq_true_eq] at h ⊢
    exact ⟨⟨h.1.1, h.1.2, h.2⟩, by omega, by omega⟩
  unfold onL onTo
  rw [List.filter_eq_self.2 hok]
  refine List.map_congr_left fun i hi => ?_
  have hi' := List.mem_range.1 hi
  unfold atL
  rw [hok i hi, Bool.cond_true, Int.toNat_natCast, show (((depthL n : Nat) : Int) - (i : Nat)).toNat = depthL n - i by omega]
theorem meet_eq (n a b : Int) : rmeetL n a b = meetL n a b := by
  unfold rmeetL
  cases h1 : (hasB n a && hasB n b)
  · have e : meetL n a b = -1 := by unfold meetL; rw [h1]; rfl
    have h0 : min (onL n a).length (onL n b).length = 0 := by
      cases h2 : hasB n a
      · rw [onL_no h2]; simp
      · rw [h2, Bool.true_and] at h1
        rw [onL_no h1]; simp
    rw [e, h0]; rfl
  · rw [Bool.and_eq_true] at h1
    obtain ⟨h2, h3⟩ := h1
    have e : meetL n a b = ((depthL n : Nat) : Int) - (bl (a.toNat ^^^ b.toNat) : Nat) := by unfold meetL; rw [h2, h3]; rfl
    rw [e, onL_at h2, onL_at h3, List.length_map, List.length_map, List.length_range, Nat.min_self]
    unfold hasB at h2 h3
    simp only [Bool.and_eq_true, decide_eq_true_eq] at h2 h3
    obtain ⟨q1, q2, q3, q4⟩ := leavesB_t h2.1.1
    have hdl : depthL n = lvD n := by unfold depthL; rw [h2.1.1]; rfl
    obtain ⟨d, hd⟩ : ∃ d, d = depthL n := ⟨_, rfl⟩
    rw [← hd]
    obtain ⟨A, hA⟩ : ∃ A : Nat, a = (A : Int) := ⟨a.toNat, by omega⟩
    obtain ⟨B, hB⟩ : ∃ B : Nat, b = (B : Int) := ⟨b.toNat, by omega⟩
    subst hA hB
    simp only [Int.toNat_natCast]
    have e2 : ∀ k : Nat, (2 : Int) ^ k = ((2 ^ k : Nat) : Int) := fun k => by simp
    have hA2 : A < 2 ^ d := by rw [hd, hdl]; have := h2.2; rw [q2, e2] at this; omega
    have hB2 : B < 2 ^ d := by rw [hd, hdl]; have := h3.2; rw [q2, e2] at this; omega
    have hbl : bl (A ^^^ B) ≤ d := bl_lt.2 (Nat.xor_lt_two_pow hA2 hB2)
    have key : ∀ i : Nat, i ≤ d + 1 → meetR ((List.range (d + 1)).map fun (i : Nat) => (2 : Int) ^ i - 1 + (A : Int) / 2 ^ (d - i)) ((List.range (d + 1)).map fun (i : Nat) => (2 : Int) ^ i - 1 + (B : Int) / 2 ^ (d - i)) i = min ((i : Int) - 1) ((d : Int) - (bl (A ^^^ B) : Nat)) := by
      intro i
      induction i with
      | zero => intro _; rw [meetR]; omega
      | succ i ih =>
        intro hi
        have ih := ih (by omega)
        have hg : ∀ C : Nat, ((List.range (d + 1)).map fun (i : Nat) => (2 : Int) ^ i - 1 + (C : Int) / 2 ^ (d - i)).getD i 0 = (2 : Int) ^ i - 1 + (C : Int) / 2 ^ (d - i) := fun C => by
          rw [List.getD_eq_getElem?_getD, List.getElem?_map, List.getElem?_range (by omega)]; rfl
        rw [meetR, hg, hg, ih]
        have hq : ∀ C : Nat, (C : Int) / 2 ^ (d - i) = ((C / 2 ^ (d - i) : Nat) : Int) := fun C => by rw [e2]; omega
        have hdx := div_eq_xor (A := A) (B := B) (k := d - i)
        by_cases hh : A / 2 ^ (d - i) = B / 2 ^ (d - i)
        · have := hdx.1 hh
          rw [decide_eq_true (by rw [hq, hq, hh]), Bool.cond_true]
          omega
        · have hno : ¬ bl (A ^^^ B) ≤ d - i := fun q => hh (hdx.2 q)
          rw [decide_eq_false (fun q => hh (by rw [hq, hq] at q; omega)), Bool.cond_false]
          omega
    rw [key (d + 1) (Nat.le_refl _)]
    omega
end Go.Proofs.ZtLe
namespace Go.Proofs.ZtLe
open Go.RowKit Go.Proofs Go.Proofs.Zm
set_option linter.unusedVariables false
set_option linter.unusedSimpArgs false
set_option maxHeartbeats 20000000
set_option maxRecDepth 100000
attribute [local irreducible] ZWp ZOps ZPure ZPure0 ZVal ZOp SoundF

/-! ### a stash: its room, its cells in its map's own order -/
structure StshV where
  most : Int
  size : Int
  cs : List CellV
def stD (cs : List CellV) : List (Int × D) := cs.map fun c => (c.1, .agg (cellD c))
structure IsStsh (st : St) (s id : Nat) (v : StshV) : Prop where
  h : st.H s = some [.v (.int .i64 v.most), .v (.int .i64 v.size), .mp id]
  n : st.N id = some (mapI .i64 (stD v.cs))
theorem un_cells : Tryd.prog.underlying 57 = some (.map 3 29) := by kernel_rfl
@[simp] theorem stD_len (cs : List CellV) : (stD cs).length = cs.length := by simp [stD]
theorem mapI_len (kk : IntKind) (l : List (Int × D)) : (mapI kk l).length = l.length := by simp [mapI]
theorem slen_snd : SoundF Tryd.prog 9 fun args st K => ∃ (s id : Nat) (v : StshV), args = [.ptr s 0] ∧ IsStsh st s id v ∧ K (.v (.int .i64 (v.cs.length : Nat))) st := by
  refine sound_ofA Tryd.func9 rfl Tryd.results9 ?_
  rintro w0 args st K ⟨s, id, v, rfl, ⟨hH, hN⟩, hK⟩
  rw [Tryd.ntmps9]; refine ⟨by simp, ?_⟩
  have hS := Sep.nil st
  (repeat (first | ((with_reducible apply zr_seq)) | ((with_reducible apply zr_region); (try simp only [List.append_eq, List.cons_append, List.nil_append])) | ((with_reducible apply zo_end)) | ((with_reducible apply zs_move); (exact rfl); (exact rfl)) | ((with_reducible apply zs_assign); (exact rfl); (exact rfl)) | ((with_reducible apply zs_nilCheck_ptr); (exact rfl); (exact rfl)) | ((with_reducible apply zs_field_ptr); (exact rfl); (exact rfl); (exact fld_of rfl)) | ((with_reducible apply zs_load_ptr); (exact rfl); (exact rfl); (exact sh_of rfl); (first | assumption | exact St.setH_self _ _ _ | exact Sep.at_ (i := 0) zq17 rfl | exact Sep.at_ (i := 1) zq17 rfl | exact Sep.at_ (i := 2) zq17 rfl | exact Sep.at_ (i := 3) zq17 rfl | exact Sep.at_ (i := 4) zq17 rfl | exact Sep.at_ (i := 5) zq17 rfl | exact Sep.at_ (i := 6) zq17 rfl); (first | exact rfl | assumption))))
  (try ((with_reducible apply zs_yes); exact rfl; exact rfl; (first | assumption | exact rfl))); refine zo_val rfl rfl (by decide) (zv_mapLen rfl un_cells rfl hN ?_)
  rw [mapI_len, stD_len]
  (repeat (first | ((with_reducible apply zo_end)) | ((with_reducible apply zs_assign); (exact rfl); (exact rfl)) | ((with_reducible apply zr_retZ); (exact rfl); (repeat (first | exact resD_nil _ _ _ | ((with_reducible apply resD_tmp); (exact rfl)) | ((with_reducible apply resD_cell_agg); (exact rfl); (exact sh_of rfl); (first | assumption | exact St.setH_self _ _ _ | exact Sep.at_ (i := 0) zq17 rfl | exact Sep.at_ (i := 1) zq17 rfl | exact Sep.at_ (i := 2) zq17 rfl | exact Sep.at_ (i := 3) zq17 rfl | exact Sep.at_ (i := 4) zq17 rfl | exact Sep.at_ (i := 5) zq17 rfl | exact Sep.at_ (i := 6) zq17 rfl); (exact rfl)) | ((with_reducible apply resD_cell); (exact rfl); (exact sh_of rfl); (first | assumption | exact St.setH_self _ _ _ | exact Sep.at_ (i := 0) zq17 rfl | exact Sep.at_ (i := 1) zq17 rfl | exact Sep.at_ (i := 2) zq17 rfl | exact Sep.at_ (i := 3) zq17 rfl | exact Sep.at_ (i := 4) zq17 rfl | exact Sep.at_ (i := 5) zq17 rfl | exact Sep.at_ (i := 6) zq17 rfl); (exact rfl)))); (simp only [resOf]))))
  exact KE.mk st hS.ext hK
theorem snew_snd : SoundF Tryd.prog 6 fun args st K => ∃ (most size : Int), args = [.v (.int .i64 most), .v (.int .i64 size)] ∧
    ∀ s id st', Ext st st' → st.H s = none → st.N id = none → IsStsh st' s id ⟨min (max most 0) 10000, min (max size 0) 60000, []⟩ → K (.ptr s 0) st' := by
  refine sound_ofA Tryd.func6 rfl Tryd.results6 ?_
  rintro w0 args st K ⟨most, size, rfl, hK⟩
  rw [Tryd.ntmps6]; refine ⟨by simp, ?_⟩
  (repeat (first | ((with_reducible apply zr_seq)) | ((with_reducible apply zr_region); (try simp only [List.append_eq, List.cons_append, List.nil_append])) | ((with_reducible apply zo_end)) | ((with_reducible apply zs_move); (exact rfl); (exact rfl)) | ((with_reducible apply zs_assign); (exact rfl); (exact rfl)) | ((with_reducible apply zs_min); (exact rfl); (exact rfl); (exact rfl); (first | (with_reducible assumption) | exact rfl)) | ((with_reducible apply zs_max); (exact rfl); (exact rfl); (exact rfl); (first | (with_reducible assumption) | exact rfl))))
  (try ((with_reducible apply zs_yes); exact rfl; exact rfl; (first | assumption | exact rfl))); refine zo_val rfl rfl (by decide) (zv_makeMap rfl fun id hid => ?_)
  have hE : Ext st (st.setN id (some [])) := (Ext.refl st).setNew hid.1 _
  have hS := Sep.nil (st.setN id (some []))
  (repeat (first | ((with_reducible apply zo_end)) | ((with_reducible apply zs_assign); (exact rfl); (exact rfl)) | ((with_reducible apply zs_build); (exact rfl); (exact el_of rfl); (exact st_of rfl); (exact rfl); (first | (simp only [fillD, cellsD, cells_orow, List.take_zero, List.take_succ_cons, List.take_nil, List.drop_succ_cons, List.drop_zero, List.drop_nil, List.nil_append, List.cons_append, List.append_nil, Nat.zero_add, Nat.reduceAdd, List.length_cons, List.length_nil]; exact rfl) | ((repeat (apply fillD_cons; exact rfl; (first | exact rfl | simp [cells_orow]); (exact Nat.le_of_ble_eq_true rfl); (simp only [cells_orow, cD_int, cD_bool, cD_float, cD_nil, cD_ptr0, cD_str, cD_row, cD_mrow, cD_ptr, cD_ref, cD_fn, cD_agg, List.take_zero, List.take_succ_cons, List.take_nil, List.drop_succ_cons, List.drop_zero, List.drop_nil, List.nil_append, List.cons_append, List.append_nil, Nat.zero_add, Nat.reduceAdd]; exact rfl))); exact rfl) | exact rfl)) | ((with_reducible apply (zs_sbox (t := 13))); (exact rfl); (exact rfl); (focus (simp [cellsD, oneD, Value.oneCell', msgD, nodeD, pairD, cellD]; done)); (assumption); (intro a13 sS hS)) | ((with_reducible apply zr_retZ); (exact rfl); (repeat (first | exact resD_nil _ _ _ | ((with_reducible apply resD_tmp); (exact rfl)) | ((with_reducible apply resD_cell_agg); (exact rfl); (exact sh_of rfl); (first | assumption | exact St.setH_self _ _ _ | exact Sep.at_ (i := 0) zq17 rfl | exact Sep.at_ (i := 1) zq17 rfl | exact Sep.at_ (i := 2) zq17 rfl | exact Sep.at_ (i := 3) zq17 rfl | exact Sep.at_ (i := 4) zq17 rfl | exact Sep.at_ (i := 5) zq17 rfl | exact Sep.at_ (i := 6) zq17 rfl); (exact rfl)) | ((with_reducible apply resD_cell); (exact rfl); (exact sh_of rfl); (first | assumption | exact St.setH_self _ _ _ | exact Sep.at_ (i := 0) zq17 rfl | exact Sep.at_ (i := 1) zq17 rfl | exact Sep.at_ (i := 2) zq17 rfl | exact Sep.at_ (i := 3) zq17 rfl | exact Sep.at_ (i := 4) zq17 rfl | exact Sep.at_ (i := 5) zq17 rfl | exact Sep.at_ (i := 6) zq17 rfl); (exact rfl)))); (simp only [resOf]))))
  exact KE.mk _ (Ext.refl _) (hK a13 id sS (hE.trans hS.ext) (hS.new a13 _ (.head _)) hid.1 ⟨hS.at_ (i := 0) rfl, hS.ext.N id [] (setN_self st id _)⟩)
end Go.Proofs.ZtLe
namespace Go.Proofs.ZtLe
open Go.RowKit Go.Proofs Go.Proofs.Zm
set_option linter.unusedVariables false
set_option linter.unusedSimpArgs false
set_option maxHeartbeats 20000000
set_option maxRecDepth 100000
attribute [local irreducible] ZWp ZOps ZPure ZPure0 ZVal ZOp SoundF

/-! ### a cell that is taken -/
def findC : List CellV → Int → Option CellV
  | [], _ => none
  | c :: r, k => if c.1 = k then some c else findC r k
def delC : List CellV → Int → List CellV
  | [], _ => []
  | c :: r, k => if c.1 = k then r else c :: delC r k
theorem lkI_stD (k : Int) : ∀ cs : List CellV, lkI (stD cs) k = (findC cs k).map fun c => .agg (cellD c)
  | [] => rfl
  | c :: r => by
    show (if c.1 = k then some (D.agg (cellD c)) else lkI (stD r) k) = _
    unfold findC
    split
    · rfl
    · exact lkI_stD k r
theorem delI_stD (k : Int) : ∀ cs : List CellV, delI (stD cs) k = stD (delC cs k)
  | [] => rfl
  | c :: r => by
    show (if c.1 = k then stD r else (c.1, D.agg (cellD c)) :: delI (stD r) k) = _
    unfold delC
    split
    · rfl
    · rw [delI_stD k r]; rfl
abbrev zeroCell : D := .agg [.v (.int .i64 0), .v (.int .i64 0), .v (.slice none 0 0)]
theorem cell_zero : ∃ i, Tryd.prog.info? 29 = some i ∧ i.zero = some (.agg #[.int .i64 0, .int .i64 0, .slice none 0 0]) := by
  have h : (Tryd.prog.info? 29).bind (·.zero) = some (.agg #[.int .i64 0, .int .i64 0, .slice none 0 0]) := by kernel_rfl
  obtain ⟨i, h1, h2⟩ := Option.bind_eq_some_iff.1 h
  exact ⟨i, h1, h2⟩
theorem zeroCell_ok (G : Gh) : VR G zeroCell (.agg #[.int .i64 0, .int .i64 0, .slice none 0 0]) :=
  .agg _ [.int .i64 0, .int .i64 0, .slice none 0 0] rfl fun j d u a b => by
    match j with
    | 0 => cases a; cases b; exact .v _
    | 1 => cases a; cases b; exact .v _
    | 2 => cases a; cases b; exact .v _
    | j + 3 => simp at a
theorem stake_snd : SoundF Tryd.prog 7 fun args st K => ∃ (s id : Nat) (v : StshV) (k : Int), args = [.ptr s 0, .v (.int .i64 k)] ∧ IsStsh st s id v ∧
    ∀ d, DLe d (.tup [.agg (cellD ((findC v.cs k).getD (0, 0, []))), .v (.bool (findC v.cs k).isSome)]) → K d (st.setN id (some (mapI .i64 (stD (delC v.cs k))))) := by
  refine sound_ofA Tryd.func7 rfl Tryd.results7 ?_
  rintro w0 args st K ⟨s, id, v, k, rfl, ⟨hH, hN⟩, hK⟩
  rw [Tryd.ntmps7]; refine ⟨by simp, ?_⟩
  have hS := Sep.nil st
  obtain ⟨zi, hzi, hzz⟩ := cell_zero
  (repeat (first | ((with_reducible apply zr_seq)) | ((with_reducible apply zr_region); (try simp only [List.append_eq, List.cons_append, List.nil_append])) | ((with_reducible apply zo_end)) | ((with_reducible apply zs_move); (exact rfl); (exact rfl)) | ((with_reducible apply zs_assign); (exact rfl); (exact rfl)) | ((with_reducible apply zs_nilCheck_ptr); (exact rfl); (exact rfl)) | ((with_reducible apply zs_field_ptr); (exact rfl); (exact rfl); (exact fld_of rfl)) | ((with_reducible apply (zs_salloc (t := 4))); (exact rfl); (exact el_of rfl); (simp [oneD, Value.oneCell']); (assumption); (intro a4 sS hS))))
  have hH2 := hS.ext.H s _ hH
  have hN2 := hS.ext.N id _ hN
  (repeat (first | ((with_reducible apply zs_move); (exact rfl); (exact rfl)) | ((with_reducible apply zs_load_ptr); (exact rfl); (exact rfl); (exact sh_of rfl); (first | assumption | exact St.setH_self _ _ _ | exact Sep.at_ (i := 0) zq17 rfl | exact Sep.at_ (i := 1) zq17 rfl | exact Sep.at_ (i := 2) zq17 rfl | exact Sep.at_ (i := 3) zq17 rfl | exact Sep.at_ (i := 4) zq17 rfl | exact Sep.at_ (i := 5) zq17 rfl | exact Sep.at_ (i := 6) zq17 rfl); (first | exact rfl | assumption))))
  refine zo_cutK [0, 1, 4] (fun e s' => ∃ (f : List D), e = [(6, .ref f), (7, .v (.bool (findC v.cs k).isSome))] ∧ Zm.Sep st s' [(some a4, [.v (.int .i64 0), .v (.int .i64 0), .v (.slice none 0 0)])] ∧ ((findC v.cs k = none ∧ f = [.v (.int .i64 0), .v (.int .i64 0), .v (.slice none 0 0)]) ∨ ∃ c, findC v.cs k = some c ∧ f = cellD c)) zq8 ?_ ?_
  · (try ((with_reducible apply zs_yes); exact rfl; exact rfl; (first | assumption | exact rfl))); refine zo_val rfl rfl (by decide) (zv_lookOk rfl un_cells (un_int rfl) hzi hzz zeroCell_ok rfl rfl hN2 (fun d hd => ?_) (fun hd => ?_))
    · rw [lkI_stD] at hd
      obtain ⟨c, hc, rfl⟩ := Option.map_eq_some_iff.1 hd
      rw [hc]
      (repeat (first | ((with_reducible apply zo_end)) | ((with_reducible apply zs_move); (exact rfl); (exact rfl)) | ((with_reducible apply zs_assign); (exact rfl); (exact rfl)) | ((with_reducible apply zs_extract); (exact rfl); (exact rfl); (exact rfl)) | ((with_reducible apply (zs_allocRef (t := 6))); (exact el_of rfl); (simp [oneD, Value.oneCell']); (exact sh_of rfl); (exact rfl); (intro _; exact rfl); (exact rfl); (simp [cellsD, oneD, Value.oneCell', msgD, nodeD, pairD, cellD]))))
      exact ⟨_, ⟨_, rfl, hS, .inr ⟨c, rfl, rfl⟩⟩, zq10, zq10⟩
    · rw [lkI_stD] at hd
      have hc : findC v.cs k = none := by cases e : findC v.cs k with
        | none => rfl
        | some c => rw [e] at hd; cases hd
      rw [hc]
      (repeat (first | ((with_reducible apply zo_end)) | ((with_reducible apply zs_move); (exact rfl); (exact rfl)) | ((with_reducible apply zs_assign); (exact rfl); (exact rfl)) | ((with_reducible apply zs_extract); (exact rfl); (exact rfl); (exact rfl)) | ((with_reducible apply (zs_allocRef (t := 6))); (exact el_of rfl); (simp [oneD, Value.oneCell']); (exact sh_of rfl); (exact rfl); (intro _; exact rfl); (exact rfl); (simp [cellsD, oneD, Value.oneCell', msgD, nodeD, pairD, cellD]))))
      exact ⟨_, ⟨_, rfl, hS, .inl ⟨rfl, rfl⟩⟩, zq10, zq10⟩
  rintro e s' ⟨f, rfl, hS, hf⟩
  have hH2 := hS.ext.H s _ hH
  have hN2 := hS.ext.N id _ hN
  (repeat (first | ((with_reducible apply zr_seq)) | ((with_reducible apply zr_region); (try simp only [List.append_eq, List.cons_append, List.nil_append])) | ((with_reducible apply zs_move); (exact rfl); (exact rfl)) | ((with_reducible apply zs_nilCheck_ptr); (exact rfl); (exact rfl)) | ((with_reducible apply zs_field_ptr); (exact rfl); (exact rfl); (exact fld_of rfl)) | ((with_reducible apply zs_load_ptr); (exact rfl); (exact rfl); (exact sh_of rfl); (first | assumption | exact St.setH_self _ _ _ | exact Sep.at_ (i := 0) zq17 rfl | exact Sep.at_ (i := 1) zq17 rfl | exact Sep.at_ (i := 2) zq17 rfl | exact Sep.at_ (i := 3) zq17 rfl | exact Sep.at_ (i := 4) zq17 rfl | exact Sep.at_ (i := 5) zq17 rfl | exact Sep.at_ (i := 6) zq17 rfl); (first | exact rfl | assumption))))
  refine zo_cons rfl (zop_mapDel rfl rfl un_cells (un_int rfl) rfl rfl hN2 ?_)
  rw [delI_stD]
  replace hS := hS.reN id (some (mapI .i64 (stD (delC v.cs k))))
  clear hH2 hN2
  rcases hf with ⟨hc, rfl⟩ | ⟨c, hc, rfl⟩
  · rw [hc]
    (repeat (first | ((with_reducible apply (zs_sstore (i := 0))); (exact rfl); (exact rfl); (exact sh_of rfl); (assumption); (exact rfl); (first | exact rfl | (simp [cells_orow])); ((try rw [cells_orow]); (repeat (first | exact one_nil | (apply one_cons; (first | exact rfl | exact one_orow _ _ _))))); (first | exact Nat.le_of_ble_eq_true rfl | omega | (focus (simp [cellsD, msgD, nodeD, pairD, cellD]; done))); (first | (simp only [cells_orow, cD_int, cD_bool, cD_float, cD_nil, cD_ptr0, cD_str, cD_row, cD_mrow, cD_ptr, cD_ref, cD_fn, cD_agg, List.take_zero, List.take_succ_cons, List.take_nil, List.drop_succ_cons, List.drop_zero, List.drop_nil, List.nil_append, List.cons_append, List.append_nil, Nat.zero_add, Nat.reduceAdd]; exact rfl) | exact rfl); (intro sS hS); (try simp only [List.set_cons_zero, List.set_cons_succ] at hS)) | ((with_reducible apply zr_seq)) | ((with_reducible apply zr_region); (try simp only [List.append_eq, List.cons_append, List.nil_append])) | ((with_reducible apply zo_end)) | ((with_reducible apply zs_move); (exact rfl); (exact rfl)) | ((with_reducible apply zs_assign); (exact rfl); (exact rfl)) | ((with_reducible apply zs_load_refAll); (exact rfl); (exact rfl); (exact sh_of rfl); (exact rfl)) | ((with_reducible apply zr_retZ); (exact rfl); (repeat (first | exact resD_nil _ _ _ | ((with_reducible apply resD_tmp); (exact rfl)) | ((with_reducible apply resD_cell_agg); (exact rfl); (exact sh_of rfl); (first | assumption | exact St.setH_self _ _ _ | exact Sep.at_ (i := 0) zq17 rfl | exact Sep.at_ (i := 1) zq17 rfl | exact Sep.at_ (i := 2) zq17 rfl | exact Sep.at_ (i := 3) zq17 rfl | exact Sep.at_ (i := 4) zq17 rfl | exact Sep.at_ (i := 5) zq17 rfl | exact Sep.at_ (i := 6) zq17 rfl); (exact rfl)) | ((with_reducible apply resD_cell); (exact rfl); (exact sh_of rfl); (first | assumption | exact St.setH_self _ _ _ | exact Sep.at_ (i := 0) zq17 rfl | exact Sep.at_ (i := 1) zq17 rfl | exact Sep.at_ (i := 2) zq17 rfl | exact Sep.at_ (i := 3) zq17 rfl | exact Sep.at_ (i := 4) zq17 rfl | exact Sep.at_ (i := 5) zq17 rfl | exact Sep.at_ (i := 6) zq17 rfl); (exact rfl)))); (simp only [resOf]))))
    exact KE.mk _ hS.ext (hK _ (by rw [hc]; exact DLe.tup (.cons (DLe.agg (.cons (.refl _) (.cons (.refl _) (.cons .nilB .nil)))) (.cons (.refl _) .nil))))
  · rw [hc]
    (repeat (first | ((with_reducible apply (zs_sstore (i := 0))); (exact rfl); (exact rfl); (exact sh_of rfl); (assumption); (exact rfl); (first | exact rfl | (simp [cells_orow])); ((try rw [cells_orow]); (repeat (first | exact one_nil | (apply one_cons; (first | exact rfl | exact one_orow _ _ _))))); (first | exact Nat.le_of_ble_eq_true rfl | omega | (focus (simp [cellsD, msgD, nodeD, pairD, cellD]; done))); (first | (simp only [cells_orow, cD_int, cD_bool, cD_float, cD_nil, cD_ptr0, cD_str, cD_row, cD_mrow, cD_ptr, cD_ref, cD_fn, cD_agg, List.take_zero, List.take_succ_cons, List.take_nil, List.drop_succ_cons, List.drop_zero, List.drop_nil, List.nil_append, List.cons_append, List.append_nil, Nat.zero_add, Nat.reduceAdd]; exact rfl) | exact rfl); (intro sS hS); (try simp only [List.set_cons_zero, List.set_cons_succ] at hS)) | ((with_reducible apply zr_seq)) | ((with_reducible apply zr_region); (try simp only [List.append_eq, List.cons_append, List.nil_append])) | ((with_reducible apply zo_end)) | ((with_reducible apply zs_move); (exact rfl); (exact rfl)) | ((with_reducible apply zs_assign); (exact rfl); (exact rfl)) | ((with_reducible apply zs_load_refAll); (exact rfl); (exact rfl); (exact sh_of rfl); (exact rfl)) | ((with_reducible apply zr_retZ); (exact rfl); (repeat (first | exact resD_nil _ _ _ | ((with_reducible apply resD_tmp); (exact rfl)) | ((with_reducible apply resD_cell_agg); (exact rfl); (exact sh_of rfl); (first | assumption | exact St.setH_self _ _ _ | exact Sep.at_ (i := 0) zq17 rfl | exact Sep.at_ (i := 1) zq17 rfl | exact Sep.at_ (i := 2) zq17 rfl | exact Sep.at_ (i := 3) zq17 rfl | exact Sep.at_ (i := 4) zq17 rfl | exact Sep.at_ (i := 5) zq17 rfl | exact Sep.at_ (i := 6) zq17 rfl); (exact rfl)) | ((with_reducible apply resD_cell); (exact rfl); (exact sh_of rfl); (first | assumption | exact St.setH_self _ _ _ | exact Sep.at_ (i := 0) zq17 rfl | exact Sep.at_ (i := 1) zq17 rfl | exact Sep.at_ (i := 2) zq17 rfl | exact Sep.at_ (i := 3) zq17 rfl | exact Sep.at_ (i := 4) zq17 rfl | exact Sep.at_ (i := 5) zq17 rfl | exact Sep.at_ (i := 6) zq17 rfl); (exact rfl)))); (simp only [resOf]))))
    exact KE.mk _ hS.ext (hK _ (by rw [hc]; exact .refl _))
end Go.Proofs.ZtLe
