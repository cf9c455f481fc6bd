/- A part of the proof of StshKeeps: walks of the functions that it reaches. No condition. -/
import Derived.Test.YtaiegjgiodlpaaaDoorZtP2
import Derived.Test.YtaiegjgiodlpaaaDoorZmP2
import Derived.Test.YtaiegjgiodlpaaaDoorZmAuto
namespace Go.Proofs.ZtLe
open Go.RowKit Go.Proofs Go.Proofs.Zm
set_option linter.unusedVariables false
set_option linter.unusedSimpArgs false
set_option maxHeartbeats 20000000
set_option maxRecDepth 100000
attribute [local irreducible] ZWp ZOps ZPure ZPure0 ZVal ZOp SoundF

/-! ### buck.Code -/
def cellR (l : List CellV) : List (List D) := l.map cellD
@[simp] theorem cellR_length (l : List CellV) : (cellR l).length = l.length := by simp [cellR]
def zc : CellV := (0, 0, [])
theorem cellR_getD (l : List CellV) (i : Nat) (h : i < l.length) : (cellR l).getD i [] = cellD (l.getD i zc) := by
  rw [getD_in (by simpa using h), getD_in h]; simp [cellR]
theorem cellR_three (l : List CellV) : ∀ x ∈ cellR l, x.length = 3 := fun x hx => by
  obtain ⟨c, _, rfl⟩ := List.mem_map.1 hx; rfl
def padTo (x : List UInt8) (n : Nat) : List UInt8 := x ++ List.replicate (n - x.length) 0
def codeB (l : List CellV) (z size : Int) : Option (List UInt8) := if mayB z size = true ∧ (l.length : Int) ≤ z ∧ l.all (okC · size) = true then some (padTo (l.flatMap bytesC) (z * (8 + size)).toNat) else none
theorem okC_bounds {c : CellV} {size : Int} (h : okC c size = true) : 1 ≤ c.1 ∧ c.1 ≤ 2147483647 ∧ 0 ≤ c.2.1 ∧ c.2.1 ≤ 2147483647 ∧ (c.2.2.length : Int) = size := by
  unfold okC at h
  simp only [Bool.and_eq_true, decide_eq_true_eq] at h
  exact ⟨h.1.1.1.1, h.1.1.1.2, h.1.1.2, h.1.2, h.2⟩
theorem bytesC_length {c : CellV} {S : Nat} (h : okC c (S : Int) = true) : (bytesC c).length = 8 + S := by
  have := (okC_bounds h).2.2.2.2
  unfold bytesC
  rw [List.length_append, List.length_append, pb4, pb4]; omega
theorem zeroB (n : Nat) : (List.replicate n ([.v (.int .u8 0)] : List D)).flatten = byteC (List.replicate n 0) := by
  rw [List.flatten_replicate_singleton]; simp [byteC]

def codeSpec : ZSpec := fun args st K => ∃ (l : List CellV) (tk : Nat) (z size : Int), args = [.row (cellR l) 3 tk, .v (.int .i64 z), .v (.int .i64 size)] ∧ l.length ≤ 4611686018427387904 ∧
  ∀ o c full st', Sep st st' [(o, full)] → GRow o full 1 ((codeB l z size).getD []).length c (byteC ((codeB l z size).getD [])) → K (.tup [orow o ((codeB l z size).getD []).length c, .v (.bool (codeB l z size).isSome)]) st'
attribute [local irreducible] bytesC okC mayB

def codeFSpec : ZSpec := fun args st K => ∃ (l : List CellV) (tk : Nat) (z size : Int), args = [.row (cellR l) 3 tk, .v (.int .i64 z), .v (.int .i64 size)] ∧ l.length ≤ 4611686018427387904 ∧
  K (.tup [.row (bytesD ((codeB l z size).getD [])) 1 0, .v (.bool (codeB l z size).isSome)]) st

/-! ### buck.Parse -/
def parseL (S : Nat) : Nat → List UInt8 → Option (List CellV)
  | 0, _ => some []
  | n + 1, b => if zero b = true then some [] else if okC (ofB (b.take (8 + S))) (S : Int) = true then (parseL S n (b.drop (8 + S))).map (ofB (b.take (8 + S)) :: ·) else none
def parseB (b : List UInt8) (z size : Int) : Option (List CellV) := if mayB z size = true ∧ (b.length : Int) = z * (8 + size) then parseL size.toNat z.toNat b else none
def parseSpec : ZSpec := fun args st K => ∃ (b : List UInt8) (tk : Nat) (z size : Int), args = [.row (bytesD b) 1 tk, .v (.int .i64 z), .v (.int .i64 size)] ∧ b.length ≤ 140737488355328 ∧
  K (.tup [.row (cellR ((parseB b z size).getD [])) 3 0, .v (.bool (parseB b z size).isSome)]) st
end Go.Proofs.ZtLe

namespace Go.Proofs.ZtLe
open Go.RowKit Go.Proofs Go.Proofs.Zm
set_option linter.unusedVariables false
set_option linter.unusedSimpArgs false
set_option maxHeartbeats 20000000
set_option maxRecDepth 100000
attribute [local irreducible] ZWp ZOps ZPure ZPure0 ZVal ZOp SoundF

/-! ### dumbwaiterlaw14: Few, Tame, awake -/
def fewN : List CellV → Int
  | [] => 0
  | c :: l => min (c.2.2.length : Int) 9000 + fewN l
theorem fewN_append (l k : List CellV) : fewN (l ++ k) = fewN l + fewN k := by
  induction l with
  | nil => simp [fewN]
  | cons c l ih => simp only [List.cons_append, fewN, ih]; omega
theorem fewN_take (l : List CellV) (i : Nat) (h : i < l.length) : fewN (l.take (i + 1)) = fewN (l.take i) + min ((l.getD i zc).2.2.length : Int) 9000 := by
  rw [List.take_succ_eq_append_getElem h, fewN_append, getD_in h]; simp [fewN]
theorem fewN_bounds (l : List CellV) : 0 ≤ fewN l ∧ fewN l ≤ 9000 * l.length := by
  induction l with
  | nil => simp [fewN]
  | cons c l ih => simp only [fewN, List.length_cons]; omega
def fewB (l : List CellV) : Bool := decide ((l.length : Int) ≤ 30) && decide (fewN (l.take 40) ≤ 3000)
def fewSpec : ZSpec := fun args st K => ∃ (l : List CellV) (tk : Nat), args = [.row (cellR l) 3 tk] ∧ l.length ≤ 4611686018427387904 ∧ K (.v (.bool (fewB l))) st
theorem few_snd : SoundF Tryd.prog 12 fewSpec := by
  refine sound_ofA Tryd.func12 rfl Tryd.results12 ?_
  rintro w0 args st K ⟨l, tk, rfl, hl, hK⟩
  rw [Tryd.ntmps12]; refine ⟨by simp, ?_⟩
  (repeat (first | ((with_reducible apply zr_seq)) | ((with_reducible apply zr_region); (try simp only [List.append_eq, List.cons_append, List.nil_append])) | ((with_reducible apply zo_end)) | ((with_reducible apply zs_assign); (exact rfl); (exact rfl)) | ((with_reducible apply zr_block))))
  refine zr_loopK [0] (fun m e s => ∃ i : Nat, m + i = l.length ∧ i ≤ 40 ∧ e = [(3, .v (.int .i64 (fewN (l.take i)))), (4, .v (.int .i64 (i : Nat)))] ∧ s = st) l.length _ zq8 ⟨0, by simp, by omega, rfl, rfl⟩ (by exact sub_cons (by simp [zlook, fewN]) zq10) ?_
  rintro m e s ⟨i, hm, hi, rfl, rfl⟩
  (repeat (first | ((with_reducible apply zr_seq)) | ((with_reducible apply zr_region); (try simp only [List.append_eq, List.cons_append, List.nil_append])) | ((with_reducible apply zo_end)) | ((with_reducible apply zs_move); (exact rfl); (exact rfl)) | ((with_reducible apply zs_lss); (exact rfl); (exact rfl); (exact rfl)) | ((with_reducible apply zs_len); (exact rfl); (exact rfl); (exact un_sl rfl)) | ((with_reducible apply zs_and); (exact rfl); (exact rfl); (intro hp_; first | exact congrArg some (gd_t hp_) | exact rfl); (exact rfl)) | ((with_reducible apply zs_g_move); (exact rfl); (first | exact GC.t rfl rfl | exact GC.f rfl rfl | exact GC.gt rfl rfl | exact GC.gf rfl rfl); (exact rfl); (intro hc_; first | exact congrArg some (gd_t hc_) | exact congrArg some (gd_t (band_l hc_)) | exact congrArg some (gd_t (band_l (band_l hc_))) | exact rfl)) | ((with_reducible apply zs_g_lss); (exact rfl); (first | exact GC.t rfl rfl | exact GC.f rfl rfl | exact GC.gt rfl rfl | exact GC.gf rfl rfl); (exact rfl); (intro hc_; first | exact congrArg some (gd_t hc_) | exact congrArg some (gd_t (band_l hc_)) | exact congrArg some (gd_t (band_l (band_l hc_))) | exact rfl); (intro hc_; first | exact congrArg some (gd_t hc_) | exact congrArg some (gd_t (band_l hc_)) | exact congrArg some (gd_t (band_l (band_l hc_))) | exact rfl))))
  (first | refine zr_cond rfl (fun h => ?_) (fun h => ?_) | refine zs_split rfl rfl (fun h => ?_) (fun h => ?_)) <;> have h' := h <;> (try simp only [decide_eq_true_eq, decide_eq_false_iff_not, Bool.and_eq_true, Bool.or_eq_true, Bool.and_eq_false_iff, Bool.or_eq_false_iff, Bool.not_eq_true', Bool.not_eq_false', Bool.not_eq_true, Bool.not_eq_false, Int.not_le, Int.not_lt, Classical.not_not, Decidable.not_not, ne_eq, beq_iff_eq, bne_iff_ne] at h')
  · simp only [cellR_length] at h'
    have hlt : i < l.length := by omega
    have hrl : (cellR l).length = l.length := cellR_length l
    have hcg := cellR_getD l i hlt
    have hft := fewN_take l i hlt
    have hfb := fewN_bounds (l.take i)
    rw [List.length_take] at hfb
    generalize l.getD i zc = c at *
    (repeat (first | ((with_reducible apply zr_seq)) | ((with_reducible apply zr_region); (try simp only [List.append_eq, List.cons_append, List.nil_append])) | ((with_reducible apply zs_move); (exact rfl); (exact rfl)) | ((with_reducible apply zs_lenB); (exact rfl); (exact rfl); (exact un_sl rfl)) | ((with_reducible apply zr_block)) | ((with_reducible apply zr_skip')) | ((with_reducible apply zs_field_ref); (exact rfl); (exact rfl); (exact fld_of rfl)) | ((with_reducible apply zs_load_ref); (exact rfl); (exact rfl); (exact sh_of rfl); (exact rfl)) | ((with_reducible apply zs_idxE); (exact rfl); (exact rfl); (exact rfl); (exact un_sl rfl); (exact ii_of rfl); (first | omega | (simp only [List.length_map, List.length_take, List.length_drop, List.length_append, List.length_cons, List.length_nil, List.length_replicate]; omega) | decide); (first | omega | (simp only [List.length_map, List.length_take, List.length_drop, List.length_append, List.length_cons, List.length_nil, List.length_replicate]; omega) | decide); (first | (with_reducible exact Int.toNat_natCast _) | (simp only [Int.reduceToNat]; exact rfl) | exact rfl); (assumption))))
    (try rw [hcg])
    skip
    (try ((with_reducible apply zs_yes); exact rfl; exact rfl; (first | assumption | exact rfl))); refine zo_pure0 rfl rfl (by decide) (zp_min rfl rfl rfl (r := min (c.2.2.length : Int) 9000) rfl) ?_
    (repeat (first | ((with_reducible apply zr_region); (try simp only [List.append_eq, List.cons_append, List.nil_append])) | ((with_reducible apply zo_end)) | ((with_reducible apply zo_endB)) | ((with_reducible apply zs_move); (exact rfl); (exact rfl)) | ((with_reducible apply zs_assign); (exact rfl); (exact rfl)) | ((with_reducible apply zs_add); (exact rfl); (exact rfl); (exact rfl); (first | (with_reducible assumption) | exact wrap_in64 (by omega) (by omega)))))
    exact ⟨m - 1, _, by omega, ⟨i + 1, by omega, by omega, rfl, rfl⟩, sub_cons (by rw [hft]; rfl) zq10, zq10⟩
  · simp only [cellR_length] at h'
    have he : l.take i = l.take 40 := by
      rcases Nat.lt_or_ge i 40 with h2 | h2
      · rw [List.take_of_length_le (by omega), List.take_of_length_le (by omega)]
      · obtain rfl : i = 40 := by omega
        rfl
    rw [he]
    (repeat (first | ((with_reducible apply zr_seq)) | ((with_reducible apply zr_region); (try simp only [List.append_eq, List.cons_append, List.nil_append])) | ((with_reducible apply zo_end)) | ((with_reducible apply zs_move); (exact rfl); (exact rfl)) | ((with_reducible apply zs_assign); (exact rfl); (exact rfl)) | ((with_reducible apply zs_leq); (exact rfl); (exact rfl); (exact rfl)) | ((with_reducible apply zs_len); (exact rfl); (exact rfl); (exact un_sl rfl)) | (with_reducible refine zr_exit ?_; simp only [Zthen, Zblock, ↓reduceIte]) | ((with_reducible apply zs_and); (exact rfl); (exact rfl); (intro hp_; first | exact congrArg some (gd_t hp_) | exact rfl); (exact rfl)) | ((with_reducible apply zs_g_move); (exact rfl); (first | exact GC.t rfl rfl | exact GC.f rfl rfl | exact GC.gt rfl rfl | exact GC.gf rfl rfl); (exact rfl); (intro hc_; first | exact congrArg some (gd_t hc_) | exact congrArg some (gd_t (band_l hc_)) | exact congrArg some (gd_t (band_l (band_l hc_))) | exact rfl)) | ((with_reducible apply zs_g_leq); (exact rfl); (first | exact GC.t rfl rfl | exact GC.f rfl rfl | exact GC.gt rfl rfl | exact GC.gf rfl rfl); (exact rfl); (intro hc_; first | exact congrArg some (gd_t hc_) | exact congrArg some (gd_t (band_l hc_)) | exact congrArg some (gd_t (band_l (band_l hc_))) | exact rfl); (intro hc_; first | exact congrArg some (gd_t hc_) | exact congrArg some (gd_t (band_l hc_)) | exact congrArg some (gd_t (band_l (band_l hc_))) | exact rfl)) | ((with_reducible apply zr_retZ); (exact rfl); (repeat (first | exact resD_nil _ _ _ | ((with_reducible apply resD_tmp); (exact rfl)) | ((with_reducible apply resD_cell_agg); (exact rfl); (exact sh_of rfl); (first | assumption | exact St.setH_self _ _ _); (exact rfl)) | ((with_reducible apply resD_cell); (exact rfl); (exact sh_of rfl); (first | assumption | exact St.setH_self _ _ _); (exact rfl)))); (simp only [resOf]))))
    refine KE.mk s (Ext.refl _) ?_
    simpa [fewB] using hK

/-- Cells that may be, of some. -/
def tameC (S : Nat) (c : CellV) : CellV := (c.1 % 256 + 1, c.2.1 % 65536, c.2.2.take S ++ List.replicate (S - c.2.2.length) 0)
def tame (l : List CellV) (k S : Nat) : List CellV := (l.take k).map (tameC S)
theorem tame_take (l : List CellV) (i S : Nat) (h : i < l.length) : (l.take (i + 1)).map (tameC S) = (l.take i).map (tameC S) ++ [tameC S (l.getD i zc)] := by
  rw [List.take_succ_eq_append_getElem h, List.map_append, getD_in h]; rfl
theorem tameC_ok (S : Nat) (c : CellV) : okC (tameC S c) (S : Int) = true := by
  unfold okC tameC
  simp only [Bool.and_eq_true, decide_eq_true_eq, List.length_append, List.length_take, List.length_replicate]
  omega
theorem tame_ok (l : List CellV) (k S : Nat) : (tame l k S).all (okC · (S : Int)) = true := by
  refine List.all_eq_true.2 fun c hc => ?_
  obtain ⟨d, _, rfl⟩ := List.mem_map.1 hc
  exact tameC_ok S d
theorem tame_length (l : List CellV) (k S : Nat) : (tame l k S).length = min k l.length := by simp [tame]
def tameSpec : ZSpec := fun args st K => ∃ (l : List CellV) (tk : Nat) (k S : Nat), args = [.row (cellR l) 3 tk, .v (.int .i64 (k : Int)), .v (.int .i64 (S : Int))] ∧ l.length ≤ 4611686018427387904 ∧ k ≤ 1000 ∧ S ≤ 100000 ∧
  K (.row (cellR (tame l k S)) 3 0) st
end Go.Proofs.ZtLe
namespace Go.Proofs.ZtLe
open Go.RowKit Go.Proofs Go.Proofs.Zm
set_option linter.unusedVariables false
set_option linter.unusedSimpArgs false
set_option maxHeartbeats 20000000
set_option maxRecDepth 100000
attribute [local irreducible] ZWp ZOps ZPure ZPure0 ZVal ZOp SoundF

/-! ### draw.Leaves, ways -/
theorem dleaves_pf {n : Int} (h : True) : PureF Tryd.prog 58 [.v (.int .i64 n)] (.v (.bool (leavesB n))) := by
  refine pure_of Tryd.func58 rfl Tryd.results58 (by rw [Tryd.ntmps58]; simp) (fun w0 st K hK => ?_); rw [Tryd.ntmps58]
  have hS := Sep.nil st
  by_cases hn : 1 ≤ n ∧ n ≤ 65536
  · have g1 : decide (1 ≤ n) = true := decide_eq_true hn.1
    have g2 : decide (n ≤ 65536) = true := decide_eq_true hn.2
    obtain ⟨m, hm⟩ : ∃ m : Nat, n = ((m + 1 : Nat) : Int) := ⟨(n - 1).toNat, by omega⟩
    have hm2 : m < 65536 := by omega
    have ha : IntKind.i64.wrap ((BitVec.ofInt IntKind.i64.bits n &&& BitVec.ofInt IntKind.i64.bits (n - 1)).toNat : Int) = (((m + 1) &&& m : Nat) : Int) := by
      rw [show n - 1 = ((m : Nat) : Int) by omega, hm]
      exact band_small (by omega) (by omega)
    have hl : leavesB n = decide ((((m + 1) &&& m : Nat) : Int) = 0) := by
      unfold leavesB
      rw [g1, g2, and_pow hm2, ← hm]; rfl
    rw [hl] at hK
    generalize (((m + 1) &&& m : Nat) : Int) = q at hK ha
    clear hm hm2
    (repeat (first | ((with_reducible apply zr_seq)) | ((with_reducible apply zr_region); (try simp only [List.append_eq, List.cons_append, List.nil_append])) | ((with_reducible apply zo_end)) | ((with_reducible apply zs_yes); (exact rfl); (exact rfl); (first | assumption | exact rfl)) | ((with_reducible apply zs_move); (exact rfl); (exact rfl)) | ((with_reducible apply zs_assign); (exact rfl); (exact rfl)) | ((with_reducible apply zs_leq); (exact rfl); (exact rfl); (exact rfl)) | ((with_reducible apply zs_geq); (exact rfl); (exact rfl); (exact rfl)) | ((with_reducible apply zs_pick_t); (exact rfl); (exact rfl); (first | assumption | exact rfl); (exact rfl)) | ((with_reducible apply zs_sub); (exact rfl); (exact rfl); (exact rfl); (first | (with_reducible assumption) | exact wrap_in64 (by omega) (by omega)))))
    (try ((with_reducible apply zs_yes); exact rfl; exact rfl; (first | assumption | exact rfl))); refine zo_pure0 rfl rfl (by decide) (zp_and rfl rfl rfl ha) ?_
    (repeat (first | ((with_reducible apply zo_end)) | ((with_reducible apply zs_yes); (exact rfl); (exact rfl); (first | assumption | exact rfl)) | ((with_reducible apply zs_assign); (exact rfl); (exact rfl)) | ((with_reducible apply zs_eql); (exact rfl); (exact rfl); (exact rfl)) | ((with_reducible apply zs_pick_t); (exact rfl); (exact rfl); (first | assumption | exact rfl); (exact rfl)) | ((with_reducible apply zr_retZ); (exact rfl); (repeat (first | exact resD_nil _ _ _ | ((with_reducible apply resD_tmp); (exact rfl)) | ((with_reducible apply resD_cell_agg); (exact rfl); (exact sh_of rfl); (first | assumption | exact St.setH_self _ _ _ | exact Sep.at_ (i := 0) zq17 rfl | exact Sep.at_ (i := 1) zq17 rfl | exact Sep.at_ (i := 2) zq17 rfl | exact Sep.at_ (i := 3) zq17 rfl | exact Sep.at_ (i := 4) zq17 rfl | exact Sep.at_ (i := 5) zq17 rfl | exact Sep.at_ (i := 6) zq17 rfl); (exact rfl)) | ((with_reducible apply resD_cell); (exact rfl); (exact sh_of rfl); (first | assumption | exact St.setH_self _ _ _ | exact Sep.at_ (i := 0) zq17 rfl | exact Sep.at_ (i := 1) zq17 rfl | exact Sep.at_ (i := 2) zq17 rfl | exact Sep.at_ (i := 3) zq17 rfl | exact Sep.at_ (i := 4) zq17 rfl | exact Sep.at_ (i := 5) zq17 rfl | exact Sep.at_ (i := 6) zq17 rfl); (exact rfl)))); (simp only [resOf]))))
    exact KE.mk st hS.ext hK
  · have hl : leavesB n = false := by
      unfold leavesB
      by_cases h1 : 1 ≤ n
      · rw [decide_eq_false (show ¬ n ≤ 65536 from fun q => hn ⟨h1, q⟩), Bool.and_false, Bool.false_and]
      · rw [decide_eq_false h1, Bool.false_and, Bool.false_and]
    rw [hl] at hK
    by_cases h1 : 1 ≤ n
    · have g1 : decide (1 ≤ n) = true := decide_eq_true h1
      have g2 : decide (n ≤ 65536) = false := decide_eq_false fun q => hn ⟨h1, q⟩
      (repeat (first | ((with_reducible apply zr_seq)) | ((with_reducible apply zr_region); (try simp only [List.append_eq, List.cons_append, List.nil_append])) | ((with_reducible apply zo_end)) | ((with_reducible apply zs_yes); (exact rfl); (exact rfl); (first | assumption | exact rfl)) | ((with_reducible apply zs_noU); (exact rfl); (exact rfl); (first | assumption | exact rfl | (simp only [Bool.not_false, Bool.not_true]; assumption)); (exact rfl)) | ((with_reducible apply zs_move); (exact rfl); (exact rfl)) | ((with_reducible apply zs_assign); (exact rfl); (exact rfl)) | ((with_reducible apply zs_leq); (exact rfl); (exact rfl); (exact rfl)) | ((with_reducible apply zs_geq); (exact rfl); (exact rfl); (exact rfl)) | ((with_reducible apply zs_pick_t); (exact rfl); (exact rfl); (first | assumption | exact rfl); (exact rfl)) | ((with_reducible apply zs_pick_f); (exact rfl); (exact rfl); (first | assumption | exact rfl); (exact rfl)) | ((with_reducible apply zr_retZ); (exact rfl); (repeat (first | exact resD_nil _ _ _ | ((with_reducible apply resD_tmp); (exact rfl)) | ((with_reducible apply resD_cell_agg); (exact rfl); (exact sh_of rfl); (first | assumption | exact St.setH_self _ _ _ | exact Sep.at_ (i := 0) zq17 rfl | exact Sep.at_ (i := 1) zq17 rfl | exact Sep.at_ (i := 2) zq17 rfl | exact Sep.at_ (i := 3) zq17 rfl | exact Sep.at_ (i := 4) zq17 rfl | exact Sep.at_ (i := 5) zq17 rfl | exact Sep.at_ (i := 6) zq17 rfl); (exact rfl)) | ((with_reducible apply resD_cell); (exact rfl); (exact sh_of rfl); (first | assumption | exact St.setH_self _ _ _ | exact Sep.at_ (i := 0) zq17 rfl | exact Sep.at_ (i := 1) zq17 rfl | exact Sep.at_ (i := 2) zq17 rfl | exact Sep.at_ (i := 3) zq17 rfl | exact Sep.at_ (i := 4) zq17 rfl | exact Sep.at_ (i := 5) zq17 rfl | exact Sep.at_ (i := 6) zq17 rfl); (exact rfl)))); (simp only [resOf]))))
      exact KE.mk st hS.ext hK
    · have g1 : decide (1 ≤ n) = false := decide_eq_false h1
      (repeat (first | ((with_reducible apply zr_seq)) | ((with_reducible apply zr_region); (try simp only [List.append_eq, List.cons_append, List.nil_append])) | ((with_reducible apply zo_end)) | ((with_reducible apply zs_noU); (exact rfl); (exact rfl); (first | assumption | exact rfl | (simp only [Bool.not_false, Bool.not_true]; assumption)); (exact rfl)) | ((with_reducible apply zs_move); (exact rfl); (exact rfl)) | ((with_reducible apply zs_assign); (exact rfl); (exact rfl)) | ((with_reducible apply zs_geq); (exact rfl); (exact rfl); (exact rfl)) | ((with_reducible apply zs_pick_f); (exact rfl); (exact rfl); (first | assumption | exact rfl); (exact rfl)) | ((with_reducible apply zr_retZ); (exact rfl); (repeat (first | exact resD_nil _ _ _ | ((with_reducible apply resD_tmp); (exact rfl)) | ((with_reducible apply resD_cell_agg); (exact rfl); (exact sh_of rfl); (first | assumption | exact St.setH_self _ _ _ | exact Sep.at_ (i := 0) zq17 rfl | exact Sep.at_ (i := 1) zq17 rfl | exact Sep.at_ (i := 2) zq17 rfl | exact Sep.at_ (i := 3) zq17 rfl | exact Sep.at_ (i := 4) zq17 rfl | exact Sep.at_ (i := 5) zq17 rfl | exact Sep.at_ (i := 6) zq17 rfl); (exact rfl)) | ((with_reducible apply resD_cell); (exact rfl); (exact sh_of rfl); (first | assumption | exact St.setH_self _ _ _ | exact Sep.at_ (i := 0) zq17 rfl | exact Sep.at_ (i := 1) zq17 rfl | exact Sep.at_ (i := 2) zq17 rfl | exact Sep.at_ (i := 3) zq17 rfl | exact Sep.at_ (i := 4) zq17 rfl | exact Sep.at_ (i := 5) zq17 rfl | exact Sep.at_ (i := 6) zq17 rfl); (exact rfl)))); (simp only [resOf]))))
      exact KE.mk st hS.ext hK
/-- How often a power of two is halved till it is one, by the library's table. -/
structure TzV (x a c i : Int) (j : UInt8) : Prop where
  h0 : decide (x = 0) = false
  h1 : IntKind.u64.wrap (0 - x) = a
  h2 : IntKind.u64.wrap ((BitVec.ofInt IntKind.u64.bits x &&& BitVec.ofInt IntKind.u64.bits a).toNat : Int) = x
  h3 : IntKind.u64.wrap (x * 285870213051353865) = c
  h4 : c.fdiv (2 ^ min (58 : Int).toNat IntKind.u64.bits) = i
  h5 : 0 ≤ i ∧ i < 64
  h6 : ((gdata 1).map D.v)[i.toNat]? = some (.v (.int .u8 ((j.toNat : Nat) : Int)))
theorem tz64_pf {x a c i : Int} {j : UInt8} (h : TzV x a c i j) : PureF Tryd.prog 65 [.v (.int .u64 x)] (.v (.int .i64 ((j.toNat : Nat) : Int))) := by
  obtain ⟨h0, h1, h2, h3, h4, ⟨h5, h5'⟩, h6⟩ := h
  refine pure_of Tryd.func65 rfl Tryd.results65 (by rw [Tryd.ntmps65]; simp) (fun w0 st K hK => ?_); rw [Tryd.ntmps65]
  have hS := Sep.nil st
  (repeat (first | ((with_reducible apply zr_seq)) | ((with_reducible apply zr_region); (try simp only [List.append_eq, List.cons_append, List.nil_append])) | ((with_reducible apply zo_end)) | ((with_reducible apply zs_move); (exact rfl); (exact rfl)) | ((with_reducible apply zs_assign); (exact rfl); (exact rfl)) | ((with_reducible apply zs_eql); (exact rfl); (exact rfl); (exact rfl)) | ((with_reducible apply zr_cond_f); (exact rfl); (first | assumption | exact rfl)) | ((with_reducible apply zr_skip'))))
  (try ((with_reducible apply zs_yes); exact rfl; exact rfl; (first | assumption | exact rfl))); refine zo_pure0 rfl rfl (by decide) (zp_neg rfl rfl h1) ?_
  skip
  (try ((with_reducible apply zs_yes); exact rfl; exact rfl; (first | assumption | exact rfl))); refine zo_pure0 rfl rfl (by decide) (zp_and rfl rfl rfl h2) ?_
  (repeat (first | ((with_reducible apply zs_mul); (exact rfl); (exact rfl); (exact rfl); (first | (with_reducible assumption) | exact wrap_in64 (by omega) (by omega)))))
  (try ((with_reducible apply zs_yes); exact rfl; exact rfl; (first | assumption | exact rfl))); refine zo_pure0 rfl rfl (by decide) (zp_shr rfl rfl rfl (by decide) h4) ?_
  (try ((with_reducible apply zs_yes); exact rfl; exact rfl; (first | assumption | exact rfl))); refine zo_pure0 rfl rfl (by decide) (zp_idxA rfl Tryd.underlying99 (ii_of rfl).choose_spec.1 (ii_of rfl).choose_spec.2 rfl rfl (by omega) (by omega)) ?_
  have h7 : (List.drop (i.toNat * 1) (List.map D.v (gdata 1)))[0]? = some (.v (.int .u8 ((j.toNat : Nat) : Int))) := by rw [List.getElem?_drop, Nat.mul_one, Nat.add_zero]; exact h6
  have hj : j.toNat < 256 := j.toNat_lt
  (try ((with_reducible apply zs_yes); exact rfl; exact rfl; (first | assumption | exact rfl))); refine zo_pure rfl rfl (by decide) (zp_load_ref rfl zq15 rfl h7) ?_
  (repeat (first | ((with_reducible apply zo_end)) | ((with_reducible apply zs_assign); (exact rfl); (exact rfl)) | ((with_reducible apply zs_conv); (exact rfl); (exact rfl); (exact un_int rfl); (exact un_int rfl); (first | first | (with_reducible assumption) | exact wrap_in64 (by omega) (by omega) | exact wrap_inU64 (by omega) (by omega))) | ((with_reducible apply zr_retZ); (exact rfl); (repeat (first | exact resD_nil _ _ _ | ((with_reducible apply resD_tmp); (exact rfl)) | ((with_reducible apply resD_cell_agg); (exact rfl); (exact sh_of rfl); (first | assumption | exact St.setH_self _ _ _ | exact Sep.at_ (i := 0) zq17 rfl | exact Sep.at_ (i := 1) zq17 rfl | exact Sep.at_ (i := 2) zq17 rfl | exact Sep.at_ (i := 3) zq17 rfl | exact Sep.at_ (i := 4) zq17 rfl | exact Sep.at_ (i := 5) zq17 rfl | exact Sep.at_ (i := 6) zq17 rfl); (exact rfl)) | ((with_reducible apply resD_cell); (exact rfl); (exact sh_of rfl); (first | assumption | exact St.setH_self _ _ _ | exact Sep.at_ (i := 0) zq17 rfl | exact Sep.at_ (i := 1) zq17 rfl | exact Sep.at_ (i := 2) zq17 rfl | exact Sep.at_ (i := 3) zq17 rfl | exact Sep.at_ (i := 4) zq17 rfl | exact Sep.at_ (i := 5) zq17 rfl | exact Sep.at_ (i := 6) zq17 rfl); (exact rfl)))); (simp only [resOf]))))
  exact KE.mk st hS.ext hK
theorem tz_pow : ∀ k : Nat, k ≤ 16 → ∃ a c i, TzV (2 ^ k) a c i (UInt8.ofNat k) := by
  have h : ∀ k : Nat, k ≤ 16 → TzV (2 ^ k) (IntKind.u64.wrap (0 - 2 ^ k)) (IntKind.u64.wrap (2 ^ k * 285870213051353865)) ((IntKind.u64.wrap (2 ^ k * 285870213051353865)).fdiv (2 ^ min (58 : Int).toNat IntKind.u64.bits)) (UInt8.ofNat k) := fun k hk => by
    have hk' : k ∈ List.range 17 := List.mem_range.2 (by omega)
    simp only [List.range, List.range.loop, List.mem_cons, List.not_mem_nil, or_false] at hk'
    rcases hk' with rfl | rfl | rfl | rfl | rfl | rfl | rfl | rfl | rfl | rfl | rfl | rfl | rfl | rfl | rfl | rfl | rfl <;> exact ⟨by kernel_rfl, rfl, by kernel_rfl, rfl, rfl, by decide +kernel, by kernel_rfl⟩
  exact fun k hk => ⟨_, _, _, h k hk⟩
theorem tz_pf {k : Nat} (h : k ≤ 16) : PureF Tryd.prog 59 [.v (.int .u64 (2 ^ k))] (.v (.int .i64 (k : Nat))) := by
  obtain ⟨a, c, i, ht⟩ := tz_pow k h
  refine pure_of Tryd.func59 rfl Tryd.results59 (by rw [Tryd.ntmps59]; simp) (fun w0 st K hK => ?_); rw [Tryd.ntmps59]
  have hS := Sep.nil st
  have e : (((UInt8.ofNat k).toNat : Nat) : Int) = (k : Nat) := by rw [UInt8.toNat_ofNat_of_lt' (by show k < 256; omega)]
  (repeat (first | ((with_reducible apply zr_seq)) | ((with_reducible apply zr_region); (try simp only [List.append_eq, List.cons_append, List.nil_append])) | ((with_reducible apply zo_end)) | ((with_reducible apply zs_move); (exact rfl); (exact rfl)) | ((with_reducible apply zs_assign); (exact rfl); (exact rfl)) | ((with_reducible apply zr_cond_f); (exact rfl); (first | assumption | exact rfl)) | ((with_reducible apply zr_skip')) | ((with_reducible apply (zs_callQ tz64_pf cl_65)); (exact rfl); (exact rfl); ((repeat (first | exact DLes.nil | (apply DLes.cons; first | exact DLe.refl _ | exact DLe.nilB | exact DLe.nilR | exact DLe.nilI)))); (first | exact trivial | assumption | ((repeat' (with_reducible refine And.intro ?_ ?_)) <;> first | assumption | omega | exact trivial | (simp; done) | (simp; omega)))) | ((with_reducible apply zr_retZ); (exact rfl); (repeat (first | exact resD_nil _ _ _ | ((with_reducible apply resD_tmp); (exact rfl)) | ((with_reducible apply resD_cell_agg); (exact rfl); (exact sh_of rfl); (first | assumption | exact St.setH_self _ _ _ | exact Sep.at_ (i := 0) zq17 rfl | exact Sep.at_ (i := 1) zq17 rfl | exact Sep.at_ (i := 2) zq17 rfl | exact Sep.at_ (i := 3) zq17 rfl | exact Sep.at_ (i := 4) zq17 rfl | exact Sep.at_ (i := 5) zq17 rfl | exact Sep.at_ (i := 6) zq17 rfl); (exact rfl)) | ((with_reducible apply resD_cell); (exact rfl); (exact sh_of rfl); (first | assumption | exact St.setH_self _ _ _ | exact Sep.at_ (i := 0) zq17 rfl | exact Sep.at_ (i := 1) zq17 rfl | exact Sep.at_ (i := 2) zq17 rfl | exact Sep.at_ (i := 3) zq17 rfl | exact Sep.at_ (i := 4) zq17 rfl | exact Sep.at_ (i := 5) zq17 rfl | exact Sep.at_ (i := 6) zq17 rfl); (exact rfl)))); (simp only [resOf]))))
  rw [e]
  skip
  exact KE.mk st hS.ext hK
theorem leavesB_t {n : Int} (h : leavesB n = true) : lvD n ≤ 16 ∧ n = 2 ^ lvD n ∧ 1 ≤ n ∧ n ≤ 65536 := by
  unfold leavesB at h
  simp only [Bool.and_eq_true, decide_eq_true_eq] at h
  obtain ⟨⟨h1, h2⟩, h3⟩ := h
  refine ⟨?_, h3, h1, h2⟩
  rcases Nat.lt_or_ge 16 (lvD n) with q | q
  · have : (2 : Int) ^ 17 ≤ 2 ^ lvD n := by
      have e : ∀ k : Nat, (2 : Int) ^ k = ((2 ^ k : Nat) : Int) := fun k => by simp
      rw [e, e]
      exact Int.ofNat_le.2 (Nat.pow_le_pow_right (by decide) q)
    have h17 : (2 : Int) ^ 17 = 131072 := by decide
    omega
  · exact q
def depthL (n : Int) : Nat := bif leavesB n then lvD n else 0
theorem depth_pf {n : Int} (h : True) : PureF Tryd.prog 46 [.v (.int .i64 n)] (.v (.int .i64 (depthL n : Nat))) := by
  refine pure_of Tryd.func46 rfl Tryd.results46 (by rw [Tryd.ntmps46]; simp) (fun w0 st K hK => ?_); rw [Tryd.ntmps46]
  have hS := Sep.nil st
  cases h1 : leavesB n
  · have g1 : (!leavesB n) = true := by rw [h1]; rfl
    have e : depthL n = 0 := by unfold depthL; rw [h1]; rfl
    rw [e] at hK
    (repeat (first | ((with_reducible apply zr_seq)) | ((with_reducible apply zr_region); (try simp only [List.append_eq, List.cons_append, List.nil_append])) | ((with_reducible apply zo_end)) | ((with_reducible apply zs_move); (exact rfl); (exact rfl)) | ((with_reducible apply zs_assign); (exact rfl); (exact rfl)) | ((with_reducible apply zs_not); (exact rfl); (exact rfl)) | ((with_reducible apply zr_cond_t); (exact rfl); (first | assumption | exact rfl)) | ((with_reducible apply (zs_callQ dleaves_pf cl_58)); (exact rfl); (exact rfl); ((repeat (first | exact DLes.nil | (apply DLes.cons; first | exact DLe.refl _ | exact DLe.nilB | exact DLe.nilR | exact DLe.nilI)))); (first | exact trivial | assumption | ((repeat' (with_reducible refine And.intro ?_ ?_)) <;> first | assumption | omega | exact trivial | (simp; done) | (simp; omega)))) | ((with_reducible apply zr_retZ); (exact rfl); (repeat (first | exact resD_nil _ _ _ | ((with_reducible apply resD_tmp); (exact rfl)) | ((with_reducible apply resD_cell_agg); (exact rfl); (exact sh_of rfl); (first | assumption | exact St.setH_self _ _ _ | exact Sep.at_ (i := 0) zq17 rfl | exact Sep.at_ (i := 1) zq17 rfl | exact Sep.at_ (i := 2) zq17 rfl | exact Sep.at_ (i := 3) zq17 rfl | exact Sep.at_ (i := 4) zq17 rfl | exact Sep.at_ (i := 5) zq17 rfl | exact Sep.at_ (i := 6) zq17 rfl); (exact rfl)) | ((with_reducible apply resD_cell); (exact rfl); (exact sh_of rfl); (first | assumption | exact St.setH_self _ _ _ | exact Sep.at_ (i := 0) zq17 rfl | exact Sep.at_ (i := 1) zq17 rfl | exact Sep.at_ (i := 2) zq17 rfl | exact Sep.at_ (i := 3) zq17 rfl | exact Sep.at_ (i := 4) zq17 rfl | exact Sep.at_ (i := 5) zq17 rfl | exact Sep.at_ (i := 6) zq17 rfl); (exact rfl)))); (simp only [resOf]))))
    exact KE.mk st hS.ext hK
  · have g1 : (!leavesB n) = false := by rw [h1]; rfl
    have e : depthL n = lvD n := by unfold depthL; rw [h1]; rfl
    rw [e] at hK
    obtain ⟨hd, hn, hn1, hn2⟩ := leavesB_t h1
    have hw : IntKind.u64.wrap n = 2 ^ lvD n := by rw [← hn]; exact wrap_inU64 (by omega) (by omega)
    (repeat (first | ((with_reducible apply zr_seq)) | ((with_reducible apply zr_region); (try simp only [List.append_eq, List.cons_append, List.nil_append])) | ((with_reducible apply zo_end)) | ((with_reducible apply zs_move); (exact rfl); (exact rfl)) | ((with_reducible apply zs_assign); (exact rfl); (exact rfl)) | ((with_reducible apply zs_not); (exact rfl); (exact rfl)) | ((with_reducible apply zs_conv); (exact rfl); (exact rfl); (exact un_int rfl); (exact un_int rfl); (first | first | (with_reducible assumption) | exact wrap_in64 (by omega) (by omega) | exact wrap_inU64 (by omega) (by omega))) | ((with_reducible apply zr_cond_f); (exact rfl); (first | assumption | exact rfl)) | ((with_reducible apply zr_skip')) | ((with_reducible apply (zs_callQ tz_pf cl_59)); (exact rfl); (exact rfl); ((repeat (first | exact DLes.nil | (apply DLes.cons; first | exact DLe.refl _ | exact DLe.nilB | exact DLe.nilR | exact DLe.nilI)))); (first | exact trivial | assumption | ((repeat' (with_reducible refine And.intro ?_ ?_)) <;> first | assumption | omega | exact trivial | (simp; done) | (simp; omega)))) | ((with_reducible apply (zs_callQ dleaves_pf cl_58)); (exact rfl); (exact rfl); ((repeat (first | exact DLes.nil | (apply DLes.cons; first | exact DLe.refl _ | exact DLe.nilB | exact DLe.nilR | exact DLe.nilI)))); (first | exact trivial | assumption | ((repeat' (with_reducible refine And.intro ?_ ?_)) <;> first | assumption | omega | exact trivial | (simp; done) | (simp; omega)))) | ((with_reducible apply zr_retZ); (exact rfl); (repeat (first | exact resD_nil _ _ _ | ((with_reducible apply resD_tmp); (exact rfl)) | ((with_reducible apply resD_cell_agg); (exact rfl); (exact sh_of rfl); (first | assumption | exact St.setH_self _ _ _ | exact Sep.at_ (i := 0) zq17 rfl | exact Sep.at_ (i := 1) zq17 rfl | exact Sep.at_ (i := 2) zq17 rfl | exact Sep.at_ (i := 3) zq17 rfl | exact Sep.at_ (i := 4) zq17 rfl | exact Sep.at_ (i := 5) zq17 rfl | exact Sep.at_ (i := 6) zq17 rfl); (exact rfl)) | ((with_reducible apply resD_cell); (exact rfl); (exact sh_of rfl); (first | assumption | exact St.setH_self _ _ _ | exact Sep.at_ (i := 0) zq17 rfl | exact Sep.at_ (i := 1) zq17 rfl | exact Sep.at_ (i := 2) zq17 rfl | exact Sep.at_ (i := 3) zq17 rfl | exact Sep.at_ (i := 4) zq17 rfl | exact Sep.at_ (i := 5) zq17 rfl | exact Sep.at_ (i := 6) zq17 rfl); (exact rfl)))); (simp only [resOf]))))
    exact KE.mk st hS.ext hK
theorem phas_pf {n l : Int} (h : True) : PureF Tryd.prog 47 [.v (.int .i64 n), .v (.int .i64 l)] (.v (.bool (leavesB n && decide (0 ≤ l) && decide (l < n)))) := by
  refine pure_of Tryd.func47 rfl Tryd.results47 (by rw [Tryd.ntmps47]; simp) (fun w0 st K hK => ?_); rw [Tryd.ntmps47]
  have hS := Sep.nil st
  (repeat (first | ((with_reducible apply zr_seq)) | ((with_reducible apply zr_region); (try simp only [List.append_eq, List.cons_append, List.nil_append])) | ((with_reducible apply zo_end)) | ((with_reducible apply zs_move); (exact rfl); (exact rfl)) | ((with_reducible apply zs_assign); (exact rfl); (exact rfl)) | ((with_reducible apply zs_and); (exact rfl); (exact rfl); (intro hp_; first | exact congrArg some (gd_t hp_) | exact rfl); (exact rfl)) | ((with_reducible apply (zs_h_move [])); (exact rfl); (first | exact GC.t rfl rfl | exact GC.f rfl rfl | exact GC.gt rfl rfl | exact GC.gf rfl rfl); (exact rfl); (intro hc_; first | exact congrArg some (gd_t hc_) | exact congrArg some (gd_t (band_l hc_)) | exact congrArg some (gd_t (band_l (band_l hc_))) | exact rfl)) | ((with_reducible apply (zs_h_lss [])); (exact rfl); (first | exact GC.t rfl rfl | exact GC.f rfl rfl | exact GC.gt rfl rfl | exact GC.gf rfl rfl); (exact rfl); (intro hc_; first | exact congrArg some (gd_t hc_) | exact congrArg some (gd_t (band_l hc_)) | exact congrArg some (gd_t (band_l (band_l hc_))) | exact rfl); (intro hc_; first | exact congrArg some (gd_t hc_) | exact congrArg some (gd_t (band_l hc_)) | exact congrArg some (gd_t (band_l (band_l hc_))) | exact rfl)) | ((with_reducible apply (zs_h_geq [])); (exact rfl); (first | exact GC.t rfl rfl | exact GC.f rfl rfl | exact GC.gt rfl rfl | exact GC.gf rfl rfl); (exact rfl); (intro hc_; first | exact congrArg some (gd_t hc_) | exact congrArg some (gd_t (band_l hc_)) | exact congrArg some (gd_t (band_l (band_l hc_))) | exact rfl); (intro hc_; first | exact congrArg some (gd_t hc_) | exact congrArg some (gd_t (band_l hc_)) | exact congrArg some (gd_t (band_l (band_l hc_))) | exact rfl)) | ((with_reducible apply (zs_callQ dleaves_pf cl_58)); (exact rfl); (exact rfl); ((repeat (first | exact DLes.nil | (apply DLes.cons; first | exact DLe.refl _ | exact DLe.nilB | exact DLe.nilR | exact DLe.nilI)))); (first | exact trivial | assumption | ((repeat' (with_reducible refine And.intro ?_ ?_)) <;> first | assumption | omega | exact trivial | (simp; done) | (simp; omega)))) | ((with_reducible apply zr_retZ); (exact rfl); (repeat (first | exact resD_nil _ _ _ | ((with_reducible apply resD_tmp); (exact rfl)) | ((with_reducible apply resD_cell_agg); (exact rfl); (exact sh_of rfl); (first | assumption | exact St.setH_self _ _ _ | exact Sep.at_ (i := 0) zq17 rfl | exact Sep.at_ (i := 1) zq17 rfl | exact Sep.at_ (i := 2) zq17 rfl | exact Sep.at_ (i := 3) zq17 rfl | exact Sep.at_ (i := 4) zq17 rfl | exact Sep.at_ (i := 5) zq17 rfl | exact Sep.at_ (i := 6) zq17 rfl); (exact rfl)) | ((with_reducible apply resD_cell); (exact rfl); (exact sh_of rfl); (first | assumption | exact St.setH_self _ _ _ | exact Sep.at_ (i := 0) zq17 rfl | exact Sep.at_ (i := 1) zq17 rfl | exact Sep.at_ (i := 2) zq17 rfl | exact Sep.at_ (i := 3) zq17 rfl | exact Sep.at_ (i := 4) zq17 rfl | exact Sep.at_ (i := 5) zq17 rfl | exact Sep.at_ (i := 6) zq17 rfl); (exact rfl)))); (simp only [resOf]))))
  exact KE.mk st hS.ext hK
end Go.Proofs.ZtLe
