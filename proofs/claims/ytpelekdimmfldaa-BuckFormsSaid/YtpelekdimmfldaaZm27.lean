/- The framework's twenty-seventh part: rows and nil, rows without their rights, results given away for reading. -/
import Derived.Test.YtpelekdimmfldaaZm25
namespace Go.Proofs.Zm
open Go.RowKit
set_option linter.unusedVariables false

theorem run_equal_snil {P : Program} (w : World) (t e : TypeId) (a : Option Addr) (l c : Nat) (h : P.underlying t = some (.slice e)) : (Op.equal t (.slice a l c) (.slice none 0 0)).run P w = .ok a.isNone w := by
  have : ∀ d, (Op.equalIn (d + 1) t (.slice a l c) (.slice none 0 0)).run P w = .ok a.isNone w := fun d => by cases a <;> simp [Op.equalIn, run_underlying h]
  exact this 9999
section
variable {P : Program} {w0 : World} {n : Nat} {env : Env} {st st0 : St} {Q Q1 : ZPost} {ops : Array Oper} {t : Nat} {rest : List Oper} {x y z : Operand} {t1 t2 ty : TypeId} {pos : String} {after : Array Edge}

/-- 's == nil', 's != nil' of a row that is read: what it is when it is nil. -/
theorem zs_rowEqNil {e k tk : Nat} {xs : List (List D)} (ht : Nat.ble (t + 1) n = true) (hx : ev env x = some (.row xs k tk)) (ht1 : P.underlying t1 = some (.slice e)) (hk : ∀ b : Bool, (b = true → xs = []) → ZOps P w0 n ops rest Q ((t, .v (.bool b)) :: env) st) :
    ZOps P w0 n ops (⟨some t, .binOp .eql t1 x (.const (.slice none 0 0)) t2, ty, pos, after, none⟩ :: rest) Q env st := by
  intro G w a h1 h2 h3
  have hv := ev_ok h2 hx
  have key : ∃ b : Bool, (b = true → xs = []) ∧ (∀ w : World, (execOp a.eval ⟨some t, .binOp .eql t1 x (.const (.slice none 0 0)) t2, ty, pos, after, none⟩).run P w = .ok (.value (.bool b)) w) := by
    generalize hu : a.eval x = u at hv
    have hc : a.eval (.const (.slice none 0 0)) = .slice none 0 0 := rfl
    have main : ∀ (aa : Option Addr) (l c : Nat), u = .slice aa l c → ∀ w : World, (execOp a.eval ⟨some t, .binOp .eql t1 x (.const (.slice none 0 0)) t2, ty, pos, after, none⟩).run P w = .ok (.value (.bool aa.isNone)) w := fun aa l c e w => by
      subst e
      have hg : (eqGuard .eql t1 x (.const (.slice none 0 0)) (.slice aa l c) (.slice none 0 0)).run P w = .ok () w := by unfold eqGuard; simp
      simp only [execOp, hu, hc, Sem.run_bind, hg, Result.andThen_ok]
      simp [binOp, run_equal_snil w t1 e aa l c ht1]
    cases hv with
    | row _ _ _ aa m c u hn => exact ⟨false, fun h => (by cases h), main (some aa) m c rfl⟩
    | rowNil => exact ⟨true, fun _ => rfl, main none 0 0 rfl⟩
  obtain ⟨b, hb, hrun⟩ := key
  have hp : ZOps P w0 n ops (⟨some t, .binOp .eql t1 x (.const (.slice none 0 0)) t2, ty, pos, after, none⟩ :: rest) Q env st ∨ True := .inr trivial
  unfold wpList
  rw [if_pos (by simp [Region.wanted])]
  left
  unfold Oper.wp
  rw [hrun w]
  refine wpList_mono (Outc.mono (.refl G) (fun _ _ _ h => h)) (fun c a w h => h.elim) rest _ w (hk b hb G w _ h1 (by simpa [Act.put] using h2.put (Nat.le_of_ble_eq_true ht) (.v _)) (by simpa [Act.put] using h3))

/-- Rows lose their rights. -/
def FzT (env : Env) (ks : List Nat) (env1 : Env) : Prop := ∀ t d', zlook env1 t = some d' → ∃ d, zlook env t = some d ∧ (d' = d ∨ ∃ xs k tk, d = .row xs k tk ∧ d' = .row xs k 0)
theorem fzt_nil : FzT env [] [] := fun t d h => by simp [zlook] at h
theorem fzt_cons {s : Nat} {ks : List Nat} {d d' : D} {r : Env} (h : zlook env s = some d) (hd : d' = d ∨ ∃ xs k tk, d = .row xs k tk ∧ d' = .row xs k 0) (hs : FzT env ks r) : FzT env (s :: ks) ((s, d') :: r) := fun t d2 e => by
  unfold zlook at e
  split at e
  · rename_i hk; subst hk; cases e; exact ⟨d, h, hd⟩
  · exact hs t d2 e
theorem fzt_row {s k tk : Nat} {xs : List (List D)} {ks : List Nat} {r : Env} (h : zlook env s = some (.row xs k tk)) (hs : FzT env ks r) : FzT env (s :: ks) ((s, .row xs k 0) :: r) := fzt_cons h (.inr ⟨_, _, _, rfl, rfl⟩) hs
theorem fzt_same {s : Nat} {ks : List Nat} {d : D} {r : Env} (h : zlook env s = some d) (hs : FzT env ks r) : FzT env (s :: ks) ((s, d) :: r) := fzt_cons h (.inl rfl) hs
theorem fzt_skip {s : Nat} {ks : List Nat} {r : Env} (hs : FzT env ks r) : FzT env (s :: ks) r := hs
theorem FzT.ok {G : Gh} {ks : List Nat} {env1 : Env} {tmps : Array Value} (hE : FzT env ks env1) (he : ER G n env tmps) : ER G n env1 tmps := ⟨he.size, fun s d' e => by
  obtain ⟨d, h1, h2⟩ := hE s d' e
  obtain ⟨u, hu, hv⟩ := he.at_ s d h1
  refine ⟨u, hu, ?_⟩
  rcases h2 with rfl | ⟨xs, k, tk, rfl, rfl⟩
  · exact hv
  · exact hv.notok⟩
theorem zr_untok {cd : Code} {env1 : Env} (ks : List Nat) (hE : FzT env ks env1) (h : ZWp P w0 n cd Q env1 st) : ZWp P w0 n cd Q env st := fun G w a h1 h2 h3 => h G w a h1 (hE.ok h2) h3
theorem zo_untok {l : List Oper} {env1 : Env} (ks : List Nat) (hE : FzT env ks env1) (h : ZOps P w0 n ops l Q env1 st) : ZOps P w0 n ops l Q env st := fun G w a h1 h2 h3 => h G w a h1 (hE.ok h2) h3
end

/-- A result that is owned; one that is given away for reading. -/
def ownR (st : St) (k : Nat) (xs : List (List D)) (K : D → St → Prop) : Prop := ∀ o c full st', Sep st st' [(o, full)] → GRow o full k xs.length c xs.flatten → K (orow o xs.length c) st'
def frzR (st : St) (k : Nat) (xs : List (List D)) (K : D → St → Prop) : Prop := K (.row xs k 0) st
/-- What is owned may be given away for reading. -/
theorem SoundF.frozen {P : Program} {f : FuncId} {k : Nat} {pre : List D → St → List (List D) → Prop} (k0 : 0 < k) (h : SoundF P f fun args st K => ∃ xs, pre args st xs ∧ ownR st k xs K) :
    SoundF P f fun args st K => ∃ xs, pre args st xs ∧ (∀ x ∈ xs, x.length = k) ∧ frzR st k xs K := by
  rintro w0 args st K ⟨xs, hp, hx, hK⟩ G w vals hr hv
  refine (h w0 args st (fun d st' => ∃ o c full, d = orow o xs.length c ∧ Sep st st' [(o, full)] ∧ GRow o full k xs.length c xs.flatten) ⟨xs, hp, fun o c full st' hS hg => ⟨o, c, full, rfl, hS, hg⟩⟩ G w vals hr hv).mono fun e w' hq => ?_
  obtain ⟨v, d, st', G', rfl, hle, hrel, hv', o, c, full, rfl, hS, hg⟩ := hq
  have he : ER G' 1 [(0, orow o xs.length c)] #[v] := ⟨rfl, fun s d' e => by
    unfold zlook at e
    split at e
    · rename_i h0; subst h0; cases e; exact ⟨v, rfl, hv'⟩
    · simp [zlook] at e⟩
  obtain ⟨G2, st2, hle2, hrel2, he2, hS2⟩ := sfreeze_main (env := [(0, orow o xs.length c)]) (ks := [0]) (env1 := [(0, .row xs k 0)]) xs k0 hS (i := 0) rfl hg rfl hx (fzo_row rfl fzo_nil) hrel he
  obtain ⟨u, hu, hvu⟩ := he2.at_ 0 (.row xs k 0) rfl
  have : u = v := by simpa using hu.symm
  subst this
  exact ⟨u, _, st, G2, rfl, hle.trans hle2, hrel2.forget hS2.ext.H hS2.ext.T, hvu, hK⟩

/-- The literal nil, handed back as a row of nothing. -/
theorem resD_nilrow {P : Program} {env : Env} {st : St} {rs : List ResultVar} {t k : Nat} {ds : List D} (h : zlook env t = some (.v (.slice none 0 0))) (hs : ResD P rs env st ds) : ResD P (.tmp t :: rs) env st (.row [] k 0 :: ds) := by
  intro w0 G n tmps w hr he
  obtain ⟨us, hu, hrun⟩ := hs w0 G n tmps w hr he
  obtain ⟨u, hu1, hv⟩ := he.at_ t _ h
  have := hv.eq_v
  subst this
  refine ⟨_ :: us, VRs.cons (.rowNil k 0 (.inl rfl)) hu, ?_⟩
  rw [List.mapM_cons]
  refine (run_bind' (w1 := w) (a := .slice none 0 0) (by simp [pure, Sem.run, hu1])).trans ?_
  refine (run_bind' hrun).trans ?_
  rfl
section
variable {P : Program} {env : Env} {o : Oper} {t t1 t2 e : TypeId} {x : Operand}
/-- Cuts, masks and shifts, loads of whole structs, as plain operations. -/
theorem zp_cBB {tk a' b' : Nat} {l : List UInt8} {lo hi : Operand} {k1 k2 : IntKind} {a b : Int} (hop : o.op = .slice t x (some lo) (some hi) none) (ht : P.underlying t = some (.slice e)) (hi' : ∃ i, P.info? e = some i ∧ i.size = 1) (hx : ev env x = some (.row (bytesD l) 1 tk)) (hl : ev env lo = some (.v (.int k1 a))) (hh : ev env hi = some (.v (.int k2 b)))
    (h0 : 0 ≤ a) (h1 : a ≤ b) (h2 : b ≤ (l.length : Nat)) (ea : a.toNat = a') (eb : b.toNat = b') : ZPure0 P o env (.row (bytesD ((l.take b').drop a')) 1 0) := by
  subst ea eb
  obtain ⟨i, hi1, hi2⟩ := hi'
  exact zp_cutB hop ht (Option.map_eq_some_iff.2 ⟨i, hi1, hi2⟩) hx ⟨k1, by rw [hl]; congr; omega⟩ ⟨k2, by rw [hh]; congr; omega⟩ (by omega) (by omega)
theorem zp_cBlo {tk a' : Nat} {l : List UInt8} {lo : Operand} {k1 : IntKind} {a : Int} (hop : o.op = .slice t x (some lo) none none) (ht : P.underlying t = some (.slice e)) (hi' : ∃ i, P.info? e = some i ∧ i.size = 1) (hx : ev env x = some (.row (bytesD l) 1 tk)) (hl : ev env lo = some (.v (.int k1 a)))
    (h0 : 0 ≤ a) (h2 : a ≤ (l.length : Nat)) (ea : a.toNat = a') : ZPure0 P o env (.row (bytesD (l.drop a')) 1 0) := by
  subst ea
  obtain ⟨i, hi1, hi2⟩ := hi'
  have := zp_cutB (P := P) (l := a.toNat) (m := l.length) hop ht (Option.map_eq_some_iff.2 ⟨i, hi1, hi2⟩) hx ⟨k1, by rw [hl]; congr; omega⟩ rfl (by omega) (by omega)
  rwa [List.take_length] at this
theorem zp_cBhi {tk b' : Nat} {l : List UInt8} {hi : Operand} {k2 : IntKind} {b : Int} (hop : o.op = .slice t x none (some hi) none) (ht : P.underlying t = some (.slice e)) (hi' : ∃ i, P.info? e = some i ∧ i.size = 1) (hx : ev env x = some (.row (bytesD l) 1 tk)) (hh : ev env hi = some (.v (.int k2 b)))
    (h0 : 0 ≤ b) (h2 : b ≤ (l.length : Nat)) (eb : b.toNat = b') : ZPure0 P o env (.row (bytesD (l.take b')) 1 0) := by
  subst eb
  obtain ⟨i, hi1, hi2⟩ := hi'
  have := zp_cutB (P := P) (l := 0) (m := b.toNat) hop ht (Option.map_eq_some_iff.2 ⟨i, hi1, hi2⟩) hx rfl ⟨k2, by rw [hh]; congr; omega⟩ (by omega) (by omega)
  rwa [List.drop_zero] at this
theorem zp_mask {k : IntKind} {a m p : Int} (e : Nat) (hop : o.op = .binOp .and t1 x (.const (.int k m)) t2) (hx : ev env x = some (.v (.int k a))) (hm : m = 2 ^ e - 1) (hp : (2 : Int) ^ e = p) (hk1 : e < k.bits) (hK : k.bits ≤ 64) (hs : k.signed = true → e < k.bits - 1) : ZPure0 P o env (.v (.int k (a % p))) := by
  subst hp
  exact zp_and hop hx rfl (and_mask e hk1 hK hs a m _ hm rfl)
theorem zp_shrI {k k' : IntKind} {a b p : Int} (hop : o.op = .binOp .shr t1 x (.const (.int k' b)) t2) (hx : ev env x = some (.v (.int k a))) (hb : 0 ≤ b) (hp : (2 : Int) ^ min b.toNat k.bits = p) (hp0 : 0 ≤ p) : ZPure0 P o env (.v (.int k (a / p))) := by
  subst hp
  exact zp_shr hop hx rfl hb (Int.fdiv_eq_ediv_of_nonneg a hp0)
theorem zp_load_refAll {cs : List D} {k : Nat} (hop : o.op = .load t x) (hs : shapeIs P t true k) (hx : ev env x = some (.ref cs)) (hk : cs.length = k) : ZPure P o env (.agg cs) := by
  have := zp_load_ref_agg hop hs hx (Nat.le_of_eq hk.symm)
  rwa [List.take_of_length_le (Nat.le_of_eq hk)] at this
end
end Go.Proofs.Zm
