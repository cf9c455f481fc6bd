/- The framework's twelfth part: what a row's text gives for its slices of bytes. -/
import Derived.Test.YtpelekdimmfldaaZm11
import Derived.SizedLaws
import Derived.ChangeSlices
namespace Go.Proofs.Zm
open Go.RowKit Go.ChangeShapes Go.WideShapes
set_option linter.unusedVariables false
/-- A slice of bytes of a row: its bytes, and that it is no longer than its weight allows. -/
theorem row_bytes {H : Type} {enc : TypeId × Value → H} {P : Program} {W : World} {base : Nat} {held : Bool} {t e : TypeId} {a : Option Addr} {len cap : Nat} {d : DataW H} {ps : List MemPlace} {ts : List TypeId} {ds : List (DataW H)} {j : Nat}
    (hsz : (DataW.weightsEach P ts ds).all (· ≤ reachBytes) = true) (ht : ts[j]? = some t) (hd : ds[j]? = some d) (hu : P.underlying t = some (.slice e)) (he : P.underlying e = some (.int .u8)) (hc : P.cellsOf e = 1) (hB : P.bytesOf e = 1)
    (h : DataW.Trod enc P W base (fun _ => true) held t (.slice a len cap) d ps) :
    len ≤ 140737488351232 ∧ ∃ l : List UInt8, l.length = len ∧ VR ⟨fun a => W.cell? a, fun _ => 0, fun _ => (0, 0, 0), 1⟩ (.row (bytesD l) 1 0) (.slice a len cap) := by
  obtain ⟨fuel, hf⟩ := h
  rcases open_ints hu he hc hf with ⟨hcs, _⟩ | ⟨x, l, c, zs, hcs, _, hl, hm, hz, hx, hcell, hwz⟩
  · simp [Value.cells] at hcs
    obtain ⟨rfl, rfl, rfl⟩ := hcs
    exact ⟨Nat.zero_le _, vr_bytes W _ _ _ [] (.inl ⟨rfl, rfl, rfl, rfl⟩) _ _⟩
  · simp [Value.cells] at hcs
    obtain ⟨rfl, rfl, rfl⟩ := hcs
    have hz' : zs.length = cap := by simpa using hz
    refine ⟨?_, vr_bytes W _ _ _ zs (.inr ⟨x, rfl, hl, hm, hz', hcell, hwz⟩) _ _⟩
    obtain ⟨hx, _⟩ := Prod.mk.inj hx
    subst hx
    have z := sized_slice hsz ht hd hu
    rw [hB] at z
    have h1 : (lits (H := H) IntKind.u8 (zs.take len)).length + (lits (H := H) IntKind.u8 (zs.drop len)).length = zs.length := by
      simp [lits]
      omega
    rw [h1] at z
    simp only [reachBytes] at z
    omega
/-- A whole number of a row lies within its kind. -/
theorem wf_range {k : IntKind} {n : Int} (h : (Lit.int k n).wf = true) : k.min ≤ n ∧ n ≤ k.max := by
  simp [Lit.wf] at h; exact h
end Go.Proofs.Zm
