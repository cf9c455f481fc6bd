/- A part of the proof of BuckForms: walks of the functions that it reaches. No condition. -/
import Derived.Test.YtpelekdimmfldaaZtBuG
namespace Go.Proofs.ZtLe
open Go.RowKit Go.Proofs Go.Proofs.Zm
set_option linter.unusedVariables false
set_option linter.unusedSimpArgs false
set_option maxHeartbeats 20000000
attribute [local irreducible] ZWp ZOps ZPure ZPure0 ZVal ZOp SoundF

/-! ### plain: what is coded is parsed -/
theorem bget_putB4 (a : Int) (h0 : 0 ≤ a) (h1 : a < 4294967296) : get (putB a 4) = a := by
  rw [get_short _ (by rw [pb4]; omega)]
  unfold putB
  rw [if_pos (by omega), num_put _ _ h0]
  have : (256 : Int) ^ (Int.toNat 4) = 4294967296 := by decide
  rw [this]; omega
theorem of_bytesC {c : CellV} {S : Nat} (h : okC c (S : Int) = true) : ofB (bytesC c) = c := by
  obtain ⟨h1, h2, h3, h4, h5⟩ := okC_bounds h
  obtain ⟨id, leaf, data⟩ := c
  simp only at h1 h2 h3 h4 h5
  unfold ofB bytesC
  have e1 : (putB id 4 ++ putB leaf 4 ++ data).take 4 = putB id 4 := by
    rw [List.append_assoc, List.take_append_of_le_length (by rw [pb4]; omega), List.take_of_length_le (by rw [pb4]; omega)]
  have e2 : (putB id 4 ++ putB leaf 4 ++ data).take 8 = putB id 4 ++ putB leaf 4 := by
    rw [List.take_append_of_le_length (by rw [List.length_append, pb4, pb4]; omega), List.take_of_length_le (by rw [List.length_append, pb4, pb4]; omega)]
  have e3 : (putB id 4 ++ putB leaf 4 ++ data).drop 8 = data := by
    rw [List.drop_append, List.drop_eq_nil_of_le (by rw [List.length_append, pb4, pb4]; omega), List.nil_append, List.length_append, pb4, pb4]; rfl
  have e4 : (putB id 4 ++ putB leaf 4).drop 4 = putB leaf 4 := by
    rw [List.drop_append, List.drop_eq_nil_of_le (by rw [pb4]; omega), List.nil_append, pb4]; rfl
  simp only [e1, e2, e3, e4]
  rw [bget_putB4 id (by omega) (by omega), bget_putB4 leaf (by omega) (by omega)]
theorem zero_append (a b : List UInt8) (h : zero (a ++ b) = true) : zero a = true := by
  unfold zero at h ⊢
  rw [List.all_append, Bool.and_eq_true] at h
  exact h.1
theorem bytesC_notzero {c : CellV} {S : Nat} (h : okC c (S : Int) = true) (r : List UInt8) : zero (bytesC c ++ r) = true → False := fun hz => by
  obtain ⟨h1, h2, _⟩ := okC_bounds h
  have hz1 := zero_append _ _ hz
  unfold bytesC at hz1
  rw [List.append_assoc] at hz1
  have hz2 := zero_append _ _ hz1
  have e := zero_rep _ hz2
  rw [pb4] at e
  have hg := bget_putB4 c.1 (by omega) (by omega)
  rw [e] at hg
  have : get (List.replicate 4 0) = 0 := by decide +kernel
  omega
theorem parseL_flat (S : Nat) : ∀ (n : Nat) (l : List CellV), l.length ≤ n → l.all (okC · (S : Int)) = true → parseL S n (l.flatMap bytesC ++ List.replicate (n * (8 + S) - l.length * (8 + S)) 0) = some l := by
  intro n
  induction n with
  | zero =>
    intro l hl _
    have : l = [] := List.length_eq_zero_iff.1 (by omega)
    subst this
    rfl
  | succ n ih =>
    intro l hl ha
    cases l with
    | nil =>
      unfold parseL
      rw [if_pos (by simp [zero])]
    | cons c l =>
      simp only [List.all_cons, Bool.and_eq_true] at ha
      have hbl := bytesC_length ha.1
      have e0 : (n + 1) * (8 + S) - (c :: l).length * (8 + S) = n * (8 + S) - l.length * (8 + S) := by
        rw [List.length_cons, Nat.succ_mul, Nat.succ_mul]; omega
      rw [List.flatMap_cons, List.append_assoc, e0]
      unfold parseL
      rw [if_neg (fun hz => bytesC_notzero ha.1 _ hz)]
      have et : (bytesC c ++ (l.flatMap bytesC ++ List.replicate (n * (8 + S) - l.length * (8 + S)) 0)).take (8 + S) = bytesC c := by
        rw [List.take_append_of_le_length (by omega), List.take_of_length_le (by omega)]
      have ed : (bytesC c ++ (l.flatMap bytesC ++ List.replicate (n * (8 + S) - l.length * (8 + S)) 0)).drop (8 + S) = l.flatMap bytesC ++ List.replicate (n * (8 + S) - l.length * (8 + S)) 0 := by
        rw [List.drop_append, List.drop_eq_nil_of_le (by omega), List.nil_append, hbl, Nat.sub_self, List.drop_zero]
      rw [et, ed, of_bytesC ha.1, if_pos ha.1, ih l (by simpa using hl) ha.2]
      rfl
theorem code_parse {l : List CellV} {z S : Nat} {b : List UInt8} (h : codeB l (z : Int) (S : Int) = some b) : parseB b (z : Int) (S : Int) = some l := by
  unfold codeB at h
  split at h
  · rename_i hc
    obtain ⟨hmay, hlz, ha⟩ := hc
    have hw : ((z : Int) * (8 + (S : Int))) = ((z * (8 + S) : Nat) : Int) := by rw [Int.natCast_mul, Int.natCast_add]; rfl
    rw [hw, Int.toNat_natCast] at h
    have hf := flat_length l S ha
    have hle : l.length * (8 + S) ≤ z * (8 + S) := Nat.mul_le_mul_right _ (by omega)
    cases h
    unfold padTo
    rw [hf]
    unfold parseB
    rw [if_pos ⟨hmay, by rw [hw, List.length_append, List.length_replicate, hf]; omega⟩, Int.toNat_natCast, Int.toNat_natCast]
    exact parseL_flat S z l (by omega) ha
  · cases h
theorem bxor_one (a : Nat) (h : a < 65536) : IntKind.i64.wrap ((BitVec.ofInt IntKind.i64.bits (a : Int) ^^^ BitVec.ofInt IntKind.i64.bits 1).toNat : Int) = ((a ^^^ 1 : Nat) : Int) := by
  have hx : a ^^^ 1 < 2 ^ 16 := Nat.xor_lt_two_pow (by omega) (by decide)
  show IntKind.i64.wrap ((BitVec.ofInt 64 (a : Int) ^^^ BitVec.ofInt 64 ((1 : Nat) : Int)).toNat : Int) = _
  rw [BitVec.ofInt_natCast, BitVec.ofInt_natCast, BitVec.toNat_xor, BitVec.toNat_ofNat, BitVec.toNat_ofNat, Nat.mod_eq_of_lt (by omega), Nat.mod_eq_of_lt (by decide)]
  exact wrap_in64 (by omega) (by omega)
theorem bxor_ne (a : Nat) : a ^^^ 1 ≠ a := fun h => by
  have := congrArg (a ^^^ ·) h
  simp only [← Nat.xor_assoc, Nat.xor_self, Nat.zero_xor] at this
  omega
theorem cellR_set (l : List CellV) (x : Nat) (h : x < l.length) (v : Int) : (cellR l).flatten.set (x * 3 + 1) (.v (.int .i64 v)) = (cellR (l.set x ((l.getD x zc).1, v, (l.getD x zc).2.2))).flatten := by
  induction l generalizing x with
  | nil => simp at h
  | cons c l ih =>
    cases x with
    | zero => rfl
    | succ x =>
      have := ih x (by simpa using h)
      rw [show (x + 1) * 3 + 1 = x * 3 + 1 + 1 + 1 + 1 by omega]
      simp only [cellR, List.map_cons, List.flatten_cons, cellD, List.cons_append, List.nil_append, List.set_cons_succ] at this ⊢
      rw [this]
      rfl
theorem cellR_leaf (l : List CellV) (x : Nat) (h : x < l.length) : (cellR l).flatten[x * 3 + 1]? = some (.v (.int .i64 (l.getD x zc).2.1)) := by
  induction l generalizing x with
  | nil => simp at h
  | cons c l ih =>
    cases x with
    | zero => rfl
    | succ x =>
      have := ih x (by simpa using h)
      rw [show (x + 1) * 3 + 1 = x * 3 + 1 + 1 + 1 + 1 by omega]
      simpa [cellR, cellD] using this
end Go.Proofs.ZtLe
