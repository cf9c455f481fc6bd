/- The framework's eleventh part: numbers by their bits; the entry from the row's text. -/
import Derived.Test.YtpelekdimmfldaaZm10
namespace Go.Proofs.Zm
open Go.RowKit
set_option linter.unusedVariables false

theorem ipow_le {k m : Nat} (h : k ≤ m) : (2 : Int) ^ k ≤ 2 ^ m := by
  have := Int.ofNat_le.2 (Nat.pow_le_pow_right (show 0 < 2 by decide) h)
  rwa [Int.natCast_pow, Int.natCast_pow] at this
/-- A mask of the lowest bits. -/
theorem and_mask {K : IntKind} (k : Nat) (hk : k < K.bits) (hK : K.bits ≤ 64) (hs : K.signed = true → k < K.bits - 1) (a m r : Int) (hm : m = 2 ^ k - 1) (hr : a % 2 ^ k = r) : K.wrap ((BitVec.ofInt K.bits a &&& BitVec.ofInt K.bits m).toNat : Int) = r := by
  subst hr
  have hm' : m = ((2 ^ k - 1 : Nat) : Int) := by
    rw [hm, Int.natCast_sub (Nat.one_le_two_pow), Int.natCast_pow]; rfl
  have e2 : BitVec.ofInt K.bits m = BitVec.ofNat K.bits (2 ^ k - 1) := by rw [hm']; exact BitVec.ofInt_natCast _ _
  have hp : (2 : Nat) ^ k < 2 ^ K.bits := Nat.pow_lt_pow_right (by decide) hk
  have hlt' : 2 ^ k - 1 < 2 ^ K.bits := Nat.lt_of_le_of_lt (Nat.sub_le _ _) hp
  rw [e2, BitVec.toNat_and, BitVec.toNat_ofNat, Nat.mod_eq_of_lt hlt', BitVec.toNat_ofInt, Nat.and_two_pow_sub_one_eq_mod]
  have hpos : (0 : Int) < 2 ^ K.bits := Int.pow_pos (by decide)
  have h0 := Int.emod_nonneg a (show ((2 : Int) ^ K.bits) ≠ 0 by omega)
  have hd : ((2 : Int) ^ k) ∣ 2 ^ K.bits := ⟨2 ^ (K.bits - k), by rw [← Int.pow_add, Nat.add_sub_cancel' (Nat.le_of_lt hk)]⟩
  have e3 : (((a % ((2 ^ K.bits : Nat) : Int)).toNat % 2 ^ k : Nat) : Int) = a % 2 ^ k := by
    have h0' : 0 ≤ a % ((2 ^ K.bits : Nat) : Int) := by rw [Int.natCast_pow]; exact h0
    rw [Int.natCast_emod, Int.toNat_of_nonneg h0', Int.natCast_pow, Int.natCast_pow]
    exact Int.emod_emod_of_dvd a hd
  rw [e3]
  have hposk : (0 : Int) < 2 ^ k := Int.pow_pos (by decide)
  have h1 := Int.emod_nonneg a (show ((2 : Int) ^ k) ≠ 0 by omega)
  have h2 := Int.emod_lt_of_pos a hposk
  have hlt : ((2 : Int) ^ k) ≤ 2 ^ (K.bits - 1) ∨ K.signed = false := by
    cases hsg : K.signed with
    | false => exact .inr rfl
    | true => exact .inl (ipow_le (by have := hs hsg; omega))
  have hlt2 : ((2 : Int) ^ k) ≤ 2 ^ K.bits := ipow_le (by omega)
  clear e2 e3 hm' hm hd hp hlt' h0 hpos
  generalize a % 2 ^ k = z at *
  generalize (2 : Int) ^ k = p at *
  cases K <;> simp [IntKind.wrap, IntKind.bits, IntKind.signed] at * <;> omega

/-- A call, from the row's text. -/
theorem entry {P : Program} {f : FuncId} {spec : ZSpec} (hs : SoundF P f spec) (W : World) (args : List D) (vals : List Value) (hv : VRs ⟨fun a => W.cell? a, fun _ => 0, fun _ => (0, 0, 0), 1⟩ args vals)
    (h : spec args ⟨fun _ => none, fun _ => false⟩ fun d _ => d = .v (.bool true)) : Calls P f vals.toArray W fun e w' => e = .returned (.bool true) ∧ Below W.heap.size W w' := by
  refine (hs W args _ _ h ⟨fun a => W.cell? a, fun _ => 0, fun _ => (0, 0, 0), 1⟩ W vals ?_ hv).mono fun e w' hq => ?_
  · exact {
      mem := fun a u h => h
      nxH := fun _ _ => rfl
      nxT := fun _ _ => rfl
      nx0 := Nat.zero_lt_one
      T0 := rfl
      ex := fun id cs e => by cases e
      exM := fun id cs a u e => by cases e
      exB := fun id cs e => by cases e
      exI := fun id id' cs cs' e => by cases e
      tk := fun t e => by cases e
      tkM := fun t a u e => by cases e
      tkB := fun t e => by cases e
      tkI := fun t t' e => by cases e
      tkE := fun t id cs e => by cases e
      below := Below.refl _ _ }
  · obtain ⟨v, d, st', G', rfl, hle, hr, hv, rfl⟩ := hq
    exact ⟨by rw [hv.eq_v], hr.below⟩

/-- A row of bytes, as the row's text has it. -/
theorem vr_bytes (W : World) (a : Option Addr) (len cap : Nat) (zs : List Int)
    (h : (a = none ∧ len = 0 ∧ cap = 0 ∧ zs = []) ∨ ∃ x, a = some x ∧ len ≤ cap ∧ cap ≤ maxLen ∧ zs.length = cap ∧ (∀ i, i < zs.length → W.cell? (x.add i) = some (.int .u8 (zs.getD i 0))) ∧ ∀ n ∈ zs, (Lit.int .u8 n).wf = true) (rho tau) :
    ∃ l : List UInt8, l.length = len ∧ VR ⟨fun a => W.cell? a, rho, tau, 1⟩ (.row (bytesD l) 1 0) (.slice a len cap) := by
  rcases h with ⟨rfl, rfl, rfl, rfl⟩ | ⟨x, rfl, hl, hm, hz, hc, hw⟩
  · exact ⟨[], rfl, .rowNil 1 0 (.inl rfl)⟩
  · refine ⟨(zs.take len).map fun z => UInt8.ofNat z.toNat, by simp; omega, ?_⟩
    refine .row _ _ _ x len cap (fun i _ => .int .u8 (zs.getD i 0)) (by simp; omega) hl hm (fun i y hy => ?_) (fun i j hi hj => ?_) (fun i j => rfl) (fun i y j d hy hj => ?_) (fun h => absurd rfl h)
    · simp only [bytesD, List.getElem?_map] at hy
      obtain ⟨b, _, rfl⟩ := Option.map_eq_some_iff.1 hy
      rfl
    · have : j = 0 := by omega
      subst this
      simp only [Nat.mul_one, Nat.add_zero]
      exact hc i (by omega)
    · simp only [bytesD, List.map_map, List.getElem?_map, List.getElem?_take] at hy
      obtain ⟨z, hz1, rfl⟩ := Option.map_eq_some_iff.1 hy
      split at hz1
      · rename_i hi
        have hzi : zs.getD i 0 = z := by rw [List.getD_eq_getElem?_getD, hz1]; rfl
        have hwf := hw z (List.mem_of_getElem? hz1)
        have hrange : 0 ≤ z ∧ z < 256 := by
          simp [Lit.wf, IntKind.min, IntKind.max, IntKind.signed, IntKind.bits] at hwf
          omega
        cases j with
        | succ j => simp at hj
        | zero =>
          simp only [Function.comp_apply, List.getElem?_cons_zero, Option.some.injEq] at hj
          subst hj
          have e1 : ((UInt8.ofNat z.toNat).toNat : Int) = z := by simp; omega
          rw [hzi, e1]
          exact .v _
      · cases hz1
end Go.Proofs.Zm
namespace Go.Proofs.Zm
open Go.RowKit
section
variable {P : Program} {w0 : World} {n : Nat} {env : Env} {st : St} {Q Q1 : ZPost}
/-- Ways that meet: what is known behind them, told once. -/
theorem zr_cut {c y : Code} (env1 : Env) (st1 : St) (h : ZWp P w0 n c (Zthen (fun env' st' => Sub env1 env' ∧ st' = st1) Q1) env st) (h2 : ZWp P w0 n y Q env1 st1) : ZWp P w0 n c (Zthen (ZWp P w0 n y Q) Q1) env st := by
  refine h.mono fun e env' st' hq => ?_
  cases e with
  | normal => obtain ⟨h3, rfl⟩ := hq; exact h2.weaken h3
  | _ => exact hq
end
end Go.Proofs.Zm
