/- A part of the proof of BuckForms: walks of the functions that it reaches. No condition. -/
import Derived.Test.YtpelekdimmfldaaZtBuD
namespace Go.Proofs.ZtLe
open Go.RowKit Go.Proofs Go.Proofs.Zm
set_option linter.unusedVariables false
set_option linter.unusedSimpArgs false
set_option maxHeartbeats 20000000
attribute [local irreducible] ZWp ZOps ZPure ZPure0 ZVal ZOp SoundF

/-! ### plain: what is parsed is coded again -/
theorem bnum_div (l : List UInt8) (i : Nat) (h : i ≤ l.length) : num l / 256 ^ i = num (l.drop i) := by
  have e := num_append (l.take i) (l.drop i)
  rw [List.take_append_drop, List.length_take, Nat.min_eq_left h] at e
  have h0 := num_nonneg (l.take i)
  have h1 := num_lt (l.take i)
  rw [List.length_take, Nat.min_eq_left h] at h1
  have hp : (0 : Int) < 256 ^ i := Int.pow_pos (by decide)
  rw [e, Int.add_mul_ediv_left _ _ (by omega), Int.ediv_eq_zero_of_lt h0 h1, Int.zero_add]
theorem bput_num (l : List UInt8) : put (num l) l.length = l := by
  apply List.ext_getElem (put_length _ _)
  intro i h1 h2
  rw [← getD_in (d := 0) h1, put_getD _ _ _ h2, bnum_div l i (by omega), num_drop l i h2]
  have hb := (l.getD i 0).toNat_lt
  have e : (((l.getD i 0).toNat : Int) + 256 * num (l.drop (i + 1))) % 256 = ((l.getD i 0).toNat : Nat) := by omega
  rw [e, Int.toNat_natCast, getD_in h2]
  simp
theorem bputB_get (l : List UInt8) (h : l.length = 4) : putB (get l) 4 = l := by
  rw [get_short l (by omega)]
  unfold putB
  rw [if_pos (by omega), show Int.toNat 4 = l.length by rw [h]; rfl, bput_num]
theorem bytesC_of (x : List UInt8) (h : 8 ≤ x.length) : bytesC (ofB x) = x := by
  unfold bytesC ofB
  simp only
  rw [bputB_get _ (by simp; omega), bputB_get _ (by simp; omega)]
  have e : x.take 4 = (x.take 8).take 4 := by rw [List.take_take]; rfl
  rw [e, List.take_append_drop, List.take_append_drop]
theorem zero_rep (b : List UInt8) (h : zero b = true) : b = List.replicate b.length 0 := by
  refine List.eq_replicate_of_mem fun x hx => ?_
  unfold zero at h
  have := List.all_eq_true.1 h x hx
  simpa using this
theorem parseL_code (S : Nat) : ∀ (n : Nat) (b : List UInt8) (l : List CellV), b.length = n * (8 + S) → parseL S n b = some l → l.length ≤ n ∧ l.all (okC · (S : Int)) = true ∧ l.flatMap bytesC ++ List.replicate (n * (8 + S) - l.length * (8 + S)) 0 = b := by
  intro n
  induction n with
  | zero =>
    intro b l hb hp
    cases hp
    have : b = [] := List.length_eq_zero_iff.1 (by omega)
    subst this
    simp
  | succ n ih =>
    intro b l hb hp
    have hw : (n + 1) * (8 + S) = n * (8 + S) + (8 + S) := Nat.succ_mul n (8 + S)
    unfold parseL at hp
    split at hp
    · rename_i hz
      cases hp
      refine ⟨by simp, rfl, ?_⟩
      have := zero_rep b hz
      rw [hb] at this
      simpa using this.symm
    · split at hp
      · rename_i hok
        obtain ⟨l', h1, rfl⟩ := Option.map_eq_some_iff.1 hp
        obtain ⟨h2, h3, h4⟩ := ih _ l' (by rw [List.length_drop]; omega) h1
        refine ⟨by simp; omega, by rw [List.all_cons, hok, h3]; rfl, ?_⟩
        rw [List.flatMap_cons, bytesC_of _ (by simp; omega), List.append_assoc, List.length_cons, hw, Nat.succ_mul, show n * (8 + S) + (8 + S) - (l'.length * (8 + S) + (8 + S)) = n * (8 + S) - l'.length * (8 + S) by omega, h4, List.take_append_drop]
      · cases hp
theorem parse_code (b : List UInt8) (z S : Nat) (l : List CellV) (h : parseB b (z : Int) (S : Int) = some l) : codeB l (z : Int) (S : Int) = some b := by
  unfold parseB at h
  split at h
  · rename_i hc
    obtain ⟨hmay, hbl⟩ := hc
    have hw : ((z : Int) * (8 + (S : Int))) = ((z * (8 + S) : Nat) : Int) := by rw [Int.natCast_mul, Int.natCast_add]; rfl
    rw [hw] at hbl
    rw [Int.toNat_natCast, Int.toNat_natCast] at h
    obtain ⟨h1, h2, h3⟩ := parseL_code S z b l (by omega) h
    unfold codeB
    rw [if_pos ⟨hmay, by omega, h2⟩, hw, Int.toNat_natCast]
    congr 1
    unfold padTo
    rw [flat_length l S h2]
    exact h3
  · cases h
theorem parse_len {b : List UInt8} {z size : Int} (h : (b.length : Int) ≠ z * (8 + size)) : parseB b z size = none := by unfold parseB; exact if_neg fun hh => h hh.2
theorem parse_few {b : List UInt8} {z S : Nat} {l : List CellV} (h : parseB b (z : Int) (S : Int) = some l) : l.length ≤ z := by
  unfold parseB at h
  split at h
  · rename_i hc
    have hw : ((z : Int) * (8 + (S : Int))) = ((z * (8 + S) : Nat) : Int) := by rw [Int.natCast_mul, Int.natCast_add]; rfl
    rw [hw] at hc
    rw [Int.toNat_natCast, Int.toNat_natCast] at h
    exact (parseL_code S z b l (by omega) h).1
  · cases h
theorem code_tame (raw : List CellV) (k S z : Nat) (hk : k ≤ z) (hz : z ≤ 16) (hS : S ≤ 60000) : ∃ B : List UInt8, codeB (tame raw k S) (z : Int) (S : Int) = some B ∧ B.length = z * (8 + S) := by
  have hl := tame_length raw k S
  have ha := tame_ok raw k S
  have hw : ((z : Int) * (8 + (S : Int))) = ((z * (8 + S) : Nat) : Int) := by rw [Int.natCast_mul, Int.natCast_add]; rfl
  refine ⟨padTo ((tame raw k S).flatMap bytesC) (z * (8 + S)), ?_, ?_⟩
  · unfold codeB
    rw [if_pos ⟨by unfold mayB; simp only [Bool.and_eq_true, decide_eq_true_eq]; omega, by omega, ha⟩, hw, Int.toNat_natCast]
  · have h1 := flat_length _ S ha
    have h2 : (tame raw k S).length * (8 + S) ≤ z * (8 + S) := Nat.mul_le_mul_right _ (by omega)
    unfold padTo
    rw [List.length_append, List.length_replicate, h1]; omega
end Go.Proofs.ZtLe
