/- A part of the proof of NodeBack: walks of the functions that it reaches. No condition. -/
import Derived.Test.YtocpidlgcakldaaZtP5
import Derived.Test.YtocpidlgcakldaaZmAuto
namespace Go.Proofs.ZtLe
open Go.RowKit Go.Proofs Go.Proofs.Zm
set_option linter.unusedVariables false
set_option linter.unusedSimpArgs false
set_option maxHeartbeats 20000000
set_option maxRecDepth 100000
attribute [local irreducible] ZWp ZOps ZPure ZPure0 ZVal ZOp SoundF

/-! ### dumbwaiterlaw18.put -/
def putIn (k : Bs) (s : Bool × List Bs) (x : Bs) : Bool × List Bs := (s.1 || lt k x || k == x, (if !s.1 && lt k x then s.2 ++ [k] else s.2) ++ [x])
def putTo (k : Bs) (l : List Bs) : Bool × List Bs := l.foldl (putIn k) (false, [])
def putL (l : List Bs) (k : Bs) : List Bs := if (putTo k l).1 then (putTo k l).2 else (putTo k l).2 ++ [k]
theorem putTo_snoc (k : Bs) (l : List Bs) (x : Bs) : putTo k (l ++ [x]) = putIn k (putTo k l) x := by unfold putTo; rw [List.foldl_append]; rfl
theorem putTo_len (k : Bs) (l : List Bs) : (putTo k l).2.length ≤ l.length + 1 ∧ ((putTo k l).1 = false → (putTo k l).2.length = l.length) := by
  refine rev_ind (p := fun l => (putTo k l).2.length ≤ l.length + 1 ∧ ((putTo k l).1 = false → (putTo k l).2.length = l.length)) (by simp [putTo]) (fun l x h => ?_) l
  rw [putTo_snoc]
  unfold putIn
  obtain ⟨h1, h2⟩ := h
  cases hb : (putTo k l).1 with
  | true => simp; omega
  | false =>
    have := h2 hb
    cases hx : lt k x <;> simp [hx] <;> omega
/-- Of rising keys: rising still. -/
theorem putTo_srt (k : Bs) : ∀ (l : List Bs), Srt l → ((putTo k l).1 = false → (putTo k l).2 = l ∧ ∀ x ∈ l, lt x k = true) ∧ ((putTo k l).1 = true → Srt (putTo k l).2 ∧ ∀ z, (∀ x ∈ l, lt x z = true) → ∀ x ∈ (putTo k l).2, lt x z = true) := by
  intro l
  refine rev_ind (p := fun l => Srt l → ((putTo k l).1 = false → (putTo k l).2 = l ∧ ∀ x ∈ l, lt x k = true) ∧ ((putTo k l).1 = true → Srt (putTo k l).2 ∧ ∀ z, (∀ x ∈ l, lt x z = true) → ∀ x ∈ (putTo k l).2, lt x z = true)) (fun _ => by simp [putTo]) (fun l x ih hs => ?_) l
  have hsl : Srt l := (List.pairwise_append.1 hs).1
  have hlx : ∀ y ∈ l, lt y x = true := fun y hy => (List.pairwise_append.1 hs).2.2 y hy x (by simp)
  obtain ⟨i1, i2⟩ := ih hsl
  rw [putTo_snoc]
  unfold putIn
  cases hb : (putTo k l).1 with
  | true =>
    obtain ⟨j1, j2⟩ := i2 hb
    simp only [Bool.true_or, Bool.not_true, Bool.false_and, Bool.false_eq_true, if_false]
    refine ⟨fun e => (by cases e), fun _ => ⟨List.pairwise_append.2 ⟨j1, List.pairwise_singleton _ _, fun a ha b hb => ?_⟩, fun z hz y hy => ?_⟩⟩
    · simp only [List.mem_singleton] at hb; subst hb; exact j2 _ hlx a ha
    · rcases List.mem_append.1 hy with hy | hy
      · exact j2 z (fun q hq => hz q (List.mem_append_left _ hq)) y hy
      · simp only [List.mem_singleton] at hy; subst hy; exact hz _ (by simp)
  | false =>
    obtain ⟨j1, j2⟩ := i1 hb
    rw [j1]
    simp only [Bool.false_or, Bool.not_false, Bool.true_and]
    refine ⟨fun h => ?_, fun h => ?_⟩
    · simp only [Bool.or_eq_false_iff, beq_eq_false_iff_ne, ne_eq] at h
      rw [if_neg (by rw [h.1]; simp)]
      refine ⟨rfl, fun y hy => ?_⟩
      rcases List.mem_append.1 hy with hy | hy
      · exact j2 y hy
      · simp only [List.mem_singleton] at hy; subst hy
        rcases lt_le h.1 with e | e
        · exact absurd e h.2
        · exact e
    · by_cases hk : lt k x = true
      · rw [if_pos hk]
        refine ⟨List.pairwise_append.2 ⟨List.pairwise_append.2 ⟨hsl, List.pairwise_singleton _ _, fun a ha b hb => ?_⟩, List.pairwise_singleton _ _, fun a ha b hb => ?_⟩, fun z hz y hy => ?_⟩
        · simp only [List.mem_singleton] at hb; subst hb; exact j2 a ha
        · simp only [List.mem_singleton] at hb; subst hb
          rcases List.mem_append.1 ha with ha | ha
          · exact hlx a ha
          · simp only [List.mem_singleton] at ha; subst ha; exact hk
        · rcases List.mem_append.1 hy with hy | hy
          · rcases List.mem_append.1 hy with hy | hy
            · exact hz y (List.mem_append_left _ hy)
            · simp only [List.mem_singleton] at hy; subst hy; exact lt_trans hk (hz x (by simp))
          · simp only [List.mem_singleton] at hy; subst hy; exact hz _ (by simp)
      · rw [if_neg hk]
        exact ⟨hs, fun z hz => hz⟩
theorem putL_srt {l : List Bs} {k : Bs} (h : Srt l) : Srt (putL l k) := by
  obtain ⟨h1, h2⟩ := putTo_srt k l h
  unfold putL
  split
  · rename_i hb; exact (h2 hb).1
  · rename_i hb
    obtain ⟨j1, j2⟩ := h1 (by simpa using hb)
    rw [j1]
    exact List.pairwise_append.2 ⟨h, List.pairwise_singleton _ _, fun a ha b hb => by simp only [List.mem_singleton] at hb; subst hb; exact j2 a ha⟩
theorem putL_len (l : List Bs) (k : Bs) : (putL l k).length ≤ l.length + 1 := by
  obtain ⟨h1, h2⟩ := putTo_len k l
  unfold putL
  split
  · exact h1
  · rename_i hb; rw [List.length_append, h2 (by simpa using hb)]; simp
theorem putTo_mem (k : Bs) (l : List Bs) : ∀ x ∈ (putTo k l).2, x ∈ l ∨ x = k := by
  refine rev_ind (p := fun l => ∀ x ∈ (putTo k l).2, x ∈ l ∨ x = k) (by simp [putTo]) (fun l y h => ?_) l
  rw [putTo_snoc]
  unfold putIn
  intro x hx
  simp only at hx
  rcases List.mem_append.1 hx with hx | hx
  · split at hx
    · rcases List.mem_append.1 hx with hx | hx
      · rcases h x hx with h | h
        · exact .inl (List.mem_append_left _ h)
        · exact .inr h
      · exact .inr (by simpa using hx)
    · rcases h x hx with h | h
      · exact .inl (List.mem_append_left _ h)
      · exact .inr h
  · exact .inl (List.mem_append_right _ hx)
theorem putL_mem {l : List Bs} {k x : Bs} (h : x ∈ putL l k) : x ∈ l ∨ x = k := by
  unfold putL at h
  split at h
  · exact putTo_mem k l x h
  · rcases List.mem_append.1 h with h | h
    · exact putTo_mem k l x h
    · exact .inr (by simpa using h)

theorem putk_own : SoundF Try.prog 65 fun args st K => ∃ (l : List Bs) (k : Bs) (tl tk : Nat), args = [.row (rowR l) 1 tl, .row (bytesD k) 1 tk] ∧ l.length ≤ 2147483647 ∧ ∀ o c f st', Sep st st' [(o, f)] → GRow o f 1 (putL l k).length c (rowR (putL l k)).flatten → K (orow o (putL l k).length c) st' := by
  refine sound_ofA Try.func65 rfl Try.results65 ?_
  rintro w0 args st K ⟨l, k, tl, tk, rfl, hl, hK⟩
  rw [Try.ntmps65]; refine ⟨by simp, ?_⟩
  refine zr_as 1 (.row (bytesD k) 1 0) rfl zq7 ?_
  have hS := Sep.nil st
  (repeat (first | ((with_reducible apply zr_seq)) | ((with_reducible apply zr_region); (try simp only [List.append_eq, List.cons_append, List.nil_append])) | ((with_reducible apply zo_end)) | ((with_reducible apply zs_assign); (exact rfl); (exact rfl)) | ((with_reducible apply zr_block))))
  replace hS := hS.addNone []
  refine zr_loopK [0, 1] (fun m e s => ∃ i b0 out n o c f, m + i = l.length ∧ putTo k (l.take i) = (b0, out) ∧ out.length = n ∧ e = [(5, orow o n c), (6, .v (.bool b0)), (7, .v (.int .i64 (i : Nat)))] ∧ Zm.Sep st s [(o, f)] ∧ GRow o f 1 n c (rowR out).flatten) l.length _ zq19 ⟨0, false, [], 0, none, 0, [], by simp, rfl, rfl, rfl, hS, GRow.empty 1⟩ zq21 ?_
  rintro m e s ⟨i, b0, out, q, o, c, f, hm, hs, hq, rfl, hS, hg⟩
  have hlen := (putTo_len k (l.take i)).1
  rw [hs] at hlen
  simp only at hlen
  have hti : (l.take i).length ≤ i := by rw [List.length_take]; omega
  (repeat (first | ((with_reducible apply zr_seq)) | ((with_reducible apply zr_region); (try simp only [List.append_eq, List.cons_append, List.nil_append])) | ((with_reducible apply zo_end)) | ((with_reducible apply zs_move); (exact rfl); (exact rfl)) | ((with_reducible apply zs_lss); (exact rfl); (exact rfl); (exact rfl)) | ((with_reducible apply zs_len); (exact rfl); (exact rfl); (exact un_sl rfl))))
  (first | refine zr_cond rfl (fun h1 => ?_) (fun h1 => ?_) | refine zs_split rfl rfl (fun h1 => ?_) (fun h1 => ?_)) <;> have h1' := h1 <;> (try simp only [decide_eq_true_eq, decide_eq_false_iff_not, Bool.and_eq_true, Bool.or_eq_true, Bool.and_eq_false_iff, Bool.or_eq_false_iff, Bool.not_eq_true', Bool.not_eq_false', Bool.not_eq_true, Bool.not_eq_false, Int.not_le, Int.not_lt, Classical.not_not, Decidable.not_not, ne_eq, beq_iff_eq, bne_iff_ne] at h1')
  · simp only [rowR_length] at h1'
    obtain ⟨b, hb, hbt, _, hbg⟩ := eltK (l := l) (i := i) (by omega)
    have hsu : putTo k (l.take (i + 1)) = putIn k (b0, out) b := by rw [hbt, putTo_snoc, hs]
    unfold putIn at hsu
    simp only at hsu
    cases b0 with
    | true =>
      simp only [Bool.true_or, Bool.not_true, Bool.false_and, Bool.false_eq_true, if_false] at hsu
      (repeat (first | ((with_reducible apply zr_seq)) | ((with_reducible apply zr_block)) | ((with_reducible apply zr_skip'))))
      refine zc_begin (m := 12) ([]) [] zq36 rfl ?_
      refine zc_take0 (i := 0) rfl zq36 zq36 zq36 zq36 zq26 rfl rfl (ZPure0.pure (zp_move rfl rfl)) ?_
      refine zc_take0 (i := 1) rfl zq36 zq36 zq36 zq36 zq26 rfl rfl (ZPure0.pure (zp_not rfl rfl)) ?_
      refine zc_take0 (i := 2) rfl zq36 zq36 zq36 zq36 zq26 rfl rfl (ZPure0.pure (zp_move rfl rfl)) ?_
      refine zc_notU (i := 3) rfl zq36 zq36 zq36 zq36 zq14 rfl ?_
      refine zc_notU (i := 4) rfl zq36 zq36 zq36 zq36 zq14 rfl ?_
      refine zc_notU (i := 5) rfl zq36 zq36 zq36 zq36 zq14 rfl ?_
      refine zc_notU (i := 6) rfl zq36 zq36 zq36 zq36 zq14 rfl ?_
      refine zc_notU (i := 7) rfl zq36 zq36 zq36 zq36 zq14 rfl ?_
      refine zc_notU (i := 8) rfl zq36 zq36 zq36 zq36 zq14 rfl ?_
      refine zc_notU (i := 9) rfl zq36 zq36 zq36 zq36 zq14 rfl ?_
      refine zc_notU (i := 10) rfl zq36 zq36 zq36 zq36 zq14 rfl ?_
      refine zc_take0 (i := 11) rfl zq36 zq36 zq36 zq36 zq26 rfl rfl zq16 ?_
      refine zc_end (fun _ => by first | assumption | (repeat (first | exact BOwn.nil _ | refine BOwn.cons zq5 ?_))) zq36 ?_
      (repeat (first | ((with_reducible apply zr_seq)) | ((with_reducible apply zr_cond_f); (exact rfl); (first | assumption | exact rfl)) | ((with_reducible apply zr_skip'))))
      refine zc_begin (m := 12) ([]) [] zq36 rfl ?_
      refine zc_take0 (i := 0) rfl zq36 zq36 zq36 zq36 zq26 rfl rfl (ZPure0.pure (zp_move rfl rfl)) ?_
      refine zc_take0 (i := 1) rfl zq36 zq36 zq36 zq36 zq26 rfl rfl (ZPure0.pure (zp_move rfl rfl)) ?_
      refine zc_notU (i := 2) rfl zq36 zq36 zq36 zq36 zq14 rfl ?_
      refine zc_notU (i := 3) rfl zq36 zq36 zq36 zq36 zq14 rfl ?_
      refine zc_notU (i := 4) rfl zq36 zq36 zq36 zq36 zq14 rfl ?_
      refine zc_notU (i := 5) rfl zq36 zq36 zq36 zq36 zq14 rfl ?_
      refine zc_notU (i := 6) rfl zq36 zq36 zq36 zq36 zq14 rfl ?_
      refine zc_notU (i := 7) rfl zq36 zq36 zq36 zq36 zq14 rfl ?_
      refine zc_notU (i := 8) rfl zq36 zq36 zq36 zq36 zq14 rfl ?_
      refine zc_notU (i := 9) rfl zq36 zq36 zq36 zq36 zq14 rfl ?_
      refine zc_take0 (i := 10) rfl zq36 zq36 zq36 zq36 zq26 rfl rfl zq16 ?_
      refine zc_take0 (i := 11) rfl zq36 zq36 zq36 zq36 zq26 rfl rfl (ZPure0.pure (zp_assign rfl rfl)) ?_
      refine zc_end (fun _ => by first | assumption | (repeat (first | exact BOwn.nil _ | refine BOwn.cons zq5 ?_))) zq36 ?_
      (repeat (first | ((with_reducible apply zr_region); (try simp only [List.append_eq, List.cons_append, List.nil_append])) | ((with_reducible apply zo_end)) | ((with_reducible apply zo_endB)) | ((with_reducible apply zs_move); (exact rfl); (exact rfl)) | ((with_reducible apply zs_assign); (exact rfl); (exact rfl)) | ((with_reducible apply zs_add); (exact rfl); (exact rfl); (exact rfl); (first | (with_reducible assumption) | exact wrap_in64 (by omega) (by omega))) | ((with_reducible apply zs_load_ref); (exact rfl); (exact rfl); (exact sh_of rfl); (exact rfl)) | ((with_reducible apply zs_idxE); (exact rfl); (exact rfl); (exact rfl); (exact un_sl rfl); (exact ii_of rfl); (first | omega | (simp only [List.length_map, List.length_take, List.length_drop, List.length_append, List.length_cons, List.length_nil, List.length_replicate, rowR_length, intR_length, msgR_length, pairR_length]; omega) | decide); (first | omega | (simp only [List.length_map, List.length_take, List.length_drop, List.length_append, List.length_cons, List.length_nil, List.length_replicate, rowR_length, intR_length, msgR_length, pairR_length]; omega) | decide); (first | (with_reducible exact Int.toNat_natCast _) | (simp only [Int.reduceToNat]; exact rfl) | exact rfl); (assumption)) | ((with_reducible apply (zs_lit (t := 46) [.tmp 45])); (exact rfl); (exact rfl); (exact rfl); (exact rfl); (exact un_sl rfl); (exact el_of rfl); (simp only [List.map_cons, List.map_nil, cellsD]; exact rfl); ((repeat (first | exact lit_nil | (apply lit_cons; exact rfl; (repeat (first | exact one_nil | (apply one_cons; (first | exact rfl | exact one_orow _ _ _)))))))); (decide)) | ((with_reducible apply (zs_sapp (i := 0))); (exact rfl); (exact rfl); (exact rfl); (exact un_sl rfl); (exact el_of rfl); (simp [oneD, Value.oneCell']); (assumption); (exact rfl); (assumption); ((try simp only [List.length_map, List.length_cons, List.length_nil, List.length_take, List.length_drop, List.length_append, rowR_length, intR_length, msgR_length, pairR_length]); omega); (intro o1 c1 f1 sS hS hg); (try simp only [List.set_cons_zero, List.set_cons_succ] at hS))))
      exact ⟨m - 1, _, by omega, ⟨i + 1, _, _, q + 1, o1, c1, f1, by omega, hsu, by simp [hq], rfl, hS, by rw [rowR_append, List.flatten_append]; exact hg⟩, zq21, zq21⟩
    | false =>
      simp only [Bool.false_or, Bool.not_false, Bool.true_and] at hsu
      cases hx : lt k b with
      | true =>
        rw [hx, Bool.true_or, if_pos rfl] at hsu
        (repeat (first | ((with_reducible apply zr_seq)) | ((with_reducible apply zr_block)) | ((with_reducible apply zr_skip'))))
        refine zc_begin (m := 12) ([]) [] zq36 rfl ?_
        refine zc_take0 (i := 0) rfl zq36 zq36 zq36 zq36 zq26 rfl rfl (ZPure0.pure (zp_move rfl rfl)) ?_
        refine zc_take0 (i := 1) rfl zq36 zq36 zq36 zq36 zq26 rfl rfl (ZPure0.pure (zp_not rfl rfl)) ?_
        refine zc_take0 (i := 2) rfl zq36 zq36 zq36 zq36 zq26 rfl rfl (ZPure0.pure (zp_move rfl rfl)) ?_
        refine zc_take0 (i := 3) rfl zq36 zq36 zq36 zq36 zq26 rfl rfl (ZPure0.pure (zp_move rfl rfl)) ?_
        refine zc_take0 (i := 4) rfl zq36 zq36 zq36 zq36 zq26 rfl rfl (zp_toStr rfl zq34 Try.underlying5 Try.underlying9 rfl) ?_
        refine zc_take0 (i := 5) rfl zq36 zq36 zq36 zq36 zq26 rfl rfl (ZPure0.pure (zp_move rfl rfl)) ?_
        refine zc_take0 (i := 6) rfl zq36 zq36 zq36 zq36 zq26 rfl rfl (ZPure0.pure (zp_move rfl rfl)) ?_
        refine zc_take0 (i := 7) rfl zq36 zq36 zq36 zq36 zq26 rfl rfl zq0 ?_
        refine zc_take0 (i := 8) rfl zq36 zq36 zq36 zq36 zq26 rfl rfl (zp_load_ref rfl zq33 rfl rfl) ?_
        refine zc_take0 (i := 9) rfl zq36 zq36 zq36 zq36 zq26 rfl rfl (zp_toStr rfl zq34 Try.underlying5 Try.underlying9 rfl) ?_
        refine zc_take0 (i := 10) rfl zq36 zq36 zq36 zq36 zq26 rfl rfl (ZPure0.pure (zp_strlt rfl rfl rfl (.inl ⟨rfl, rfl⟩))) ?_
        refine zc_take0 (i := 11) rfl zq36 zq36 zq36 zq36 zq26 rfl rfl zq16 ?_
        refine zc_end (fun _ => by first | assumption | (repeat (first | exact BOwn.nil _ | refine BOwn.cons zq5 ?_))) zq36 ?_
        (repeat (first | ((with_reducible apply zr_seq)) | ((with_reducible apply zr_region); (try simp only [List.append_eq, List.cons_append, List.nil_append])) | ((with_reducible apply zo_end)) | ((with_reducible apply zs_move); (exact rfl); (exact rfl)) | ((with_reducible apply zs_assign); (exact rfl); (exact rfl)) | ((with_reducible apply zr_cond_t); (exact rfl); (first | assumption | exact rfl)) | ((with_reducible apply (zs_lit (t := 28) [.tmp 27])); (exact rfl); (exact rfl); (exact rfl); (exact rfl); (exact un_sl rfl); (exact el_of rfl); (simp only [List.map_cons, List.map_nil, cellsD]; exact rfl); ((repeat (first | exact lit_nil | (apply lit_cons; exact rfl; (repeat (first | exact one_nil | (apply one_cons; (first | exact rfl | exact one_orow _ _ _)))))))); (decide)) | ((with_reducible apply (zs_sapp (i := 0))); (exact rfl); (exact rfl); (exact rfl); (exact un_sl rfl); (exact el_of rfl); (simp [oneD, Value.oneCell']); (assumption); (exact rfl); (assumption); ((try simp only [List.length_map, List.length_cons, List.length_nil, List.length_take, List.length_drop, List.length_append, rowR_length, intR_length, msgR_length, pairR_length]); omega); (intro o1 c1 f1 sS hS hg); (try simp only [List.set_cons_zero, List.set_cons_succ] at hS))))
        refine zc_begin (m := 12) ([]) [] zq36 rfl ?_
        refine zc_take0 (i := 0) rfl zq36 zq36 zq36 zq36 zq26 rfl rfl (ZPure0.pure (zp_move rfl rfl)) ?_
        refine zc_take0 (i := 1) rfl zq36 zq36 zq36 zq36 zq26 rfl rfl (ZPure0.pure (zp_move rfl rfl)) ?_
        refine zc_notU (i := 2) rfl zq36 zq36 zq36 zq36 zq14 rfl ?_
        refine zc_notU (i := 3) rfl zq36 zq36 zq36 zq36 zq14 rfl ?_
        refine zc_notU (i := 4) rfl zq36 zq36 zq36 zq36 zq14 rfl ?_
        refine zc_notU (i := 5) rfl zq36 zq36 zq36 zq36 zq14 rfl ?_
        refine zc_notU (i := 6) rfl zq36 zq36 zq36 zq36 zq14 rfl ?_
        refine zc_notU (i := 7) rfl zq36 zq36 zq36 zq36 zq14 rfl ?_
        refine zc_notU (i := 8) rfl zq36 zq36 zq36 zq36 zq14 rfl ?_
        refine zc_notU (i := 9) rfl zq36 zq36 zq36 zq36 zq14 rfl ?_
        refine zc_take0 (i := 10) rfl zq36 zq36 zq36 zq36 zq26 rfl rfl zq16 ?_
        refine zc_take0 (i := 11) rfl zq36 zq36 zq36 zq36 zq26 rfl rfl (ZPure0.pure (zp_assign rfl rfl)) ?_
        refine zc_end (fun _ => by first | assumption | (repeat (first | exact BOwn.nil _ | refine BOwn.cons zq5 ?_))) zq36 ?_
        (repeat (first | ((with_reducible apply zr_region); (try simp only [List.append_eq, List.cons_append, List.nil_append])) | ((with_reducible apply zo_end)) | ((with_reducible apply zo_endB)) | ((with_reducible apply zs_move); (exact rfl); (exact rfl)) | ((with_reducible apply zs_assign); (exact rfl); (exact rfl)) | ((with_reducible apply zs_add); (exact rfl); (exact rfl); (exact rfl); (first | (with_reducible assumption) | exact wrap_in64 (by omega) (by omega))) | ((with_reducible apply zs_load_ref); (exact rfl); (exact rfl); (exact sh_of rfl); (exact rfl)) | ((with_reducible apply zs_idxE); (exact rfl); (exact rfl); (exact rfl); (exact un_sl rfl); (exact ii_of rfl); (first | omega | (simp only [List.length_map, List.length_take, List.length_drop, List.length_append, List.length_cons, List.length_nil, List.length_replicate, rowR_length, intR_length, msgR_length, pairR_length]; omega) | decide); (first | omega | (simp only [List.length_map, List.length_take, List.length_drop, List.length_append, List.length_cons, List.length_nil, List.length_replicate, rowR_length, intR_length, msgR_length, pairR_length]; omega) | decide); (first | (with_reducible exact Int.toNat_natCast _) | (simp only [Int.reduceToNat]; exact rfl) | exact rfl); (assumption)) | ((with_reducible apply (zs_lit (t := 46) [.tmp 45])); (exact rfl); (exact rfl); (exact rfl); (exact rfl); (exact un_sl rfl); (exact el_of rfl); (simp only [List.map_cons, List.map_nil, cellsD]; exact rfl); ((repeat (first | exact lit_nil | (apply lit_cons; exact rfl; (repeat (first | exact one_nil | (apply one_cons; (first | exact rfl | exact one_orow _ _ _)))))))); (decide)) | ((with_reducible apply (zs_sapp (i := 0))); (exact rfl); (exact rfl); (exact rfl); (exact un_sl rfl); (exact el_of rfl); (simp [oneD, Value.oneCell']); (assumption); (exact rfl); (assumption); ((try simp only [List.length_map, List.length_cons, List.length_nil, List.length_take, List.length_drop, List.length_append, rowR_length, intR_length, msgR_length, pairR_length]); omega); (intro o1 c1 f1 sS hS hg); (try simp only [List.set_cons_zero, List.set_cons_succ] at hS))))
        exact ⟨m - 1, _, by omega, ⟨i + 1, _, _, q + 1 + 1, o1, c1, f1, by omega, hsu, by simp [hq], rfl, hS, by rw [rowR_append, rowR_append, List.flatten_append, List.flatten_append]; exact hg⟩, zq21, zq21⟩
      | false =>
        rw [hx, Bool.false_or, if_neg (by simp)] at hsu
        (repeat (first | ((with_reducible apply zr_seq)) | ((with_reducible apply zr_block)) | ((with_reducible apply zr_skip'))))
        refine zc_begin (m := 12) ([]) [] zq36 rfl ?_
        refine zc_take0 (i := 0) rfl zq36 zq36 zq36 zq36 zq26 rfl rfl (ZPure0.pure (zp_move rfl rfl)) ?_
        refine zc_take0 (i := 1) rfl zq36 zq36 zq36 zq36 zq26 rfl rfl (ZPure0.pure (zp_not rfl rfl)) ?_
        refine zc_take0 (i := 2) rfl zq36 zq36 zq36 zq36 zq26 rfl rfl (ZPure0.pure (zp_move rfl rfl)) ?_
        refine zc_take0 (i := 3) rfl zq36 zq36 zq36 zq36 zq26 rfl rfl (ZPure0.pure (zp_move rfl rfl)) ?_
        refine zc_take0 (i := 4) rfl zq36 zq36 zq36 zq36 zq26 rfl rfl (zp_toStr rfl zq34 Try.underlying5 Try.underlying9 rfl) ?_
        refine zc_take0 (i := 5) rfl zq36 zq36 zq36 zq36 zq26 rfl rfl (ZPure0.pure (zp_move rfl rfl)) ?_
        refine zc_take0 (i := 6) rfl zq36 zq36 zq36 zq36 zq26 rfl rfl (ZPure0.pure (zp_move rfl rfl)) ?_
        refine zc_take0 (i := 7) rfl zq36 zq36 zq36 zq36 zq26 rfl rfl zq0 ?_
        refine zc_take0 (i := 8) rfl zq36 zq36 zq36 zq36 zq26 rfl rfl (zp_load_ref rfl zq33 rfl rfl) ?_
        refine zc_take0 (i := 9) rfl zq36 zq36 zq36 zq36 zq26 rfl rfl (zp_toStr rfl zq34 Try.underlying5 Try.underlying9 rfl) ?_
        refine zc_take0 (i := 10) rfl zq36 zq36 zq36 zq36 zq26 rfl rfl (ZPure0.pure (zp_strlt rfl rfl rfl (.inl ⟨rfl, rfl⟩))) ?_
        refine zc_take0 (i := 11) rfl zq36 zq36 zq36 zq36 zq26 rfl rfl zq16 ?_
        refine zc_end (fun _ => by first | assumption | (repeat (first | exact BOwn.nil _ | refine BOwn.cons zq5 ?_))) zq36 ?_
        (repeat (first | ((with_reducible apply zr_seq)) | ((with_reducible apply zr_cond_f); (exact rfl); (first | assumption | exact rfl)) | ((with_reducible apply zr_skip'))))
        refine zc_begin (m := 12) ([]) [] zq36 rfl ?_
        refine zc_take0 (i := 0) rfl zq36 zq36 zq36 zq36 zq26 rfl rfl (ZPure0.pure (zp_move rfl rfl)) ?_
        refine zc_take0 (i := 1) rfl zq36 zq36 zq36 zq36 zq26 rfl rfl (ZPure0.pure (zp_move rfl rfl)) ?_
        refine zc_take0 (i := 2) rfl zq36 zq36 zq36 zq36 zq26 rfl rfl (ZPure0.pure (zp_move rfl rfl)) ?_
        refine zc_take0 (i := 3) rfl zq36 zq36 zq36 zq36 zq26 rfl rfl (zp_toStr rfl zq34 Try.underlying5 Try.underlying9 rfl) ?_
        refine zc_take0 (i := 4) rfl zq36 zq36 zq36 zq36 zq26 rfl rfl (ZPure0.pure (zp_move rfl rfl)) ?_
        refine zc_take0 (i := 5) rfl zq36 zq36 zq36 zq36 zq26 rfl rfl (ZPure0.pure (zp_move rfl rfl)) ?_
        refine zc_take0 (i := 6) rfl zq36 zq36 zq36 zq36 zq26 rfl rfl zq0 ?_
        refine zc_take0 (i := 7) rfl zq36 zq36 zq36 zq36 zq26 rfl rfl (zp_load_ref rfl zq33 rfl rfl) ?_
        refine zc_take0 (i := 8) rfl zq36 zq36 zq36 zq36 zq26 rfl rfl (zp_toStr rfl zq34 Try.underlying5 Try.underlying9 rfl) ?_
        refine zc_take0 (i := 9) rfl zq36 zq36 zq36 zq36 zq26 rfl rfl (ZPure0.pure (zp_streq rfl rfl rfl (.inl ⟨rfl, rfl⟩))) ?_
        refine zc_take0 (i := 10) rfl zq36 zq36 zq36 zq36 zq26 rfl rfl zq16 ?_
        refine zc_take0 (i := 11) rfl zq36 zq36 zq36 zq36 zq26 rfl rfl (ZPure0.pure (zp_assign rfl rfl)) ?_
        refine zc_end (fun _ => by first | assumption | (repeat (first | exact BOwn.nil _ | refine BOwn.cons zq5 ?_))) zq36 ?_
        (repeat (first | ((with_reducible apply zr_region); (try simp only [List.append_eq, List.cons_append, List.nil_append])) | ((with_reducible apply zo_end)) | ((with_reducible apply zo_endB)) | ((with_reducible apply zs_move); (exact rfl); (exact rfl)) | ((with_reducible apply zs_assign); (exact rfl); (exact rfl)) | ((with_reducible apply zs_add); (exact rfl); (exact rfl); (exact rfl); (first | (with_reducible assumption) | exact wrap_in64 (by omega) (by omega))) | ((with_reducible apply zs_load_ref); (exact rfl); (exact rfl); (exact sh_of rfl); (exact rfl)) | ((with_reducible apply zs_idxE); (exact rfl); (exact rfl); (exact rfl); (exact un_sl rfl); (exact ii_of rfl); (first | omega | (simp only [List.length_map, List.length_take, List.length_drop, List.length_append, List.length_cons, List.length_nil, List.length_replicate, rowR_length, intR_length, msgR_length, pairR_length]; omega) | decide); (first | omega | (simp only [List.length_map, List.length_take, List.length_drop, List.length_append, List.length_cons, List.length_nil, List.length_replicate, rowR_length, intR_length, msgR_length, pairR_length]; omega) | decide); (first | (with_reducible exact Int.toNat_natCast _) | (simp only [Int.reduceToNat]; exact rfl) | exact rfl); (assumption)) | ((with_reducible apply (zs_lit (t := 46) [.tmp 45])); (exact rfl); (exact rfl); (exact rfl); (exact rfl); (exact un_sl rfl); (exact el_of rfl); (simp only [List.map_cons, List.map_nil, cellsD]; exact rfl); ((repeat (first | exact lit_nil | (apply lit_cons; exact rfl; (repeat (first | exact one_nil | (apply one_cons; (first | exact rfl | exact one_orow _ _ _)))))))); (decide)) | ((with_reducible apply (zs_sapp (i := 0))); (exact rfl); (exact rfl); (exact rfl); (exact un_sl rfl); (exact el_of rfl); (simp [oneD, Value.oneCell']); (assumption); (exact rfl); (assumption); ((try simp only [List.length_map, List.length_cons, List.length_nil, List.length_take, List.length_drop, List.length_append, rowR_length, intR_length, msgR_length, pairR_length]); omega); (intro o1 c1 f1 sS hS hg); (try simp only [List.set_cons_zero, List.set_cons_succ] at hS))))
        exact ⟨m - 1, _, by omega, ⟨i + 1, _, _, q + 1, o1, c1, f1, by omega, hsu, by simp [hq], rfl, hS, by rw [rowR_append, List.flatten_append]; exact hg⟩, zq21, zq21⟩
  · have hi : i = l.length := by simp only [rowR_length] at h1'; omega
    subst hi
    rw [List.take_length] at *
    unfold putL at hK
    rw [hs] at hK
    (repeat (first | ((with_reducible apply zr_seq)) | ((with_reducible apply zr_region); (try simp only [List.append_eq, List.cons_append, List.nil_append])) | ((with_reducible apply zo_end)) | ((with_reducible apply zs_move); (exact rfl); (exact rfl)) | ((with_reducible apply zs_not); (exact rfl); (exact rfl)) | (with_reducible refine zr_exit ?_; simp only [Zthen, Zblock, ↓reduceIte])))
    (first | refine zr_cond rfl (fun h2 => ?_) (fun h2 => ?_) | refine zs_split rfl rfl (fun h2 => ?_) (fun h2 => ?_)) <;> have h2' := h2 <;> (try simp only [decide_eq_true_eq, decide_eq_false_iff_not, Bool.and_eq_true, Bool.or_eq_true, Bool.and_eq_false_iff, Bool.or_eq_false_iff, Bool.not_eq_true', Bool.not_eq_false', Bool.not_eq_true, Bool.not_eq_false, Int.not_le, Int.not_lt, Classical.not_not, Decidable.not_not, ne_eq, beq_iff_eq, bne_iff_ne] at h2')
    · have hb0 : b0 = false := by simpa using h2'
      subst hb0
      simp only [Bool.false_eq_true, if_false, List.length_append, List.length_cons, List.length_nil, Nat.zero_add, hq] at hK
      (repeat (first | ((with_reducible apply zr_seq)) | ((with_reducible apply zr_region); (try simp only [List.append_eq, List.cons_append, List.nil_append])) | ((with_reducible apply zo_end)) | ((with_reducible apply zs_move); (exact rfl); (exact rfl)) | ((with_reducible apply zs_assign); (exact rfl); (exact rfl)) | ((with_reducible apply (zs_lit (t := 52) [.tmp 51])); (exact rfl); (exact rfl); (exact rfl); (exact rfl); (exact un_sl rfl); (exact el_of rfl); (simp only [List.map_cons, List.map_nil, cellsD]; exact rfl); ((repeat (first | exact lit_nil | (apply lit_cons; exact rfl; (repeat (first | exact one_nil | (apply one_cons; (first | exact rfl | exact one_orow _ _ _)))))))); (decide)) | ((with_reducible apply (zs_sapp (i := 0))); (exact rfl); (exact rfl); (exact rfl); (exact un_sl rfl); (exact el_of rfl); (simp [oneD, Value.oneCell']); (assumption); (exact rfl); (assumption); ((try simp only [List.length_map, List.length_cons, List.length_nil, List.length_take, List.length_drop, List.length_append, rowR_length, intR_length, msgR_length, pairR_length]); omega); (intro o1 c1 f1 sS hS hg); (try simp only [List.set_cons_zero, List.set_cons_succ] at hS)) | ((with_reducible apply zr_retZ); (exact rfl); (repeat (first | exact resD_nil _ _ _ | ((with_reducible apply resD_tmp); (exact rfl)) | ((with_reducible apply resD_cell_agg); (exact rfl); (exact sh_of rfl); (first | assumption | exact St.setH_self _ _ _ | exact Sep.at_ (i := 0) zq35 rfl | exact Sep.at_ (i := 1) zq35 rfl | exact Sep.at_ (i := 2) zq35 rfl | exact Sep.at_ (i := 3) zq35 rfl | exact Sep.at_ (i := 4) zq35 rfl | exact Sep.at_ (i := 5) zq35 rfl | exact Sep.at_ (i := 6) zq35 rfl); (exact rfl)) | ((with_reducible apply resD_cell); (exact rfl); (exact sh_of rfl); (first | assumption | exact St.setH_self _ _ _ | exact Sep.at_ (i := 0) zq35 rfl | exact Sep.at_ (i := 1) zq35 rfl | exact Sep.at_ (i := 2) zq35 rfl | exact Sep.at_ (i := 3) zq35 rfl | exact Sep.at_ (i := 4) zq35 rfl | exact Sep.at_ (i := 5) zq35 rfl | exact Sep.at_ (i := 6) zq35 rfl); (exact rfl)))); (simp only [resOf]))))
      exact KE.mk _ (Ext.refl _) (hK _ _ _ _ hS (by rw [rowR_append, List.flatten_append]; exact hg))
    · have hb0 : b0 = true := by simpa using h2'
      subst hb0
      simp only [if_true, hq] at hK
      (repeat (first | ((with_reducible apply zr_seq)) | ((with_reducible apply zr_region); (try simp only [List.append_eq, List.cons_append, List.nil_append])) | ((with_reducible apply zo_end)) | ((with_reducible apply zs_move); (exact rfl); (exact rfl)) | ((with_reducible apply zs_assign); (exact rfl); (exact rfl)) | ((with_reducible apply zr_skip')) | ((with_reducible apply zr_retZ); (exact rfl); (repeat (first | exact resD_nil _ _ _ | ((with_reducible apply resD_tmp); (exact rfl)) | ((with_reducible apply resD_cell_agg); (exact rfl); (exact sh_of rfl); (first | assumption | exact St.setH_self _ _ _ | exact Sep.at_ (i := 0) zq35 rfl | exact Sep.at_ (i := 1) zq35 rfl | exact Sep.at_ (i := 2) zq35 rfl | exact Sep.at_ (i := 3) zq35 rfl | exact Sep.at_ (i := 4) zq35 rfl | exact Sep.at_ (i := 5) zq35 rfl | exact Sep.at_ (i := 6) zq35 rfl); (exact rfl)) | ((with_reducible apply resD_cell); (exact rfl); (exact sh_of rfl); (first | assumption | exact St.setH_self _ _ _ | exact Sep.at_ (i := 0) zq35 rfl | exact Sep.at_ (i := 1) zq35 rfl | exact Sep.at_ (i := 2) zq35 rfl | exact Sep.at_ (i := 3) zq35 rfl | exact Sep.at_ (i := 4) zq35 rfl | exact Sep.at_ (i := 5) zq35 rfl | exact Sep.at_ (i := 6) zq35 rfl); (exact rfl)))); (simp only [resOf]))))
      exact KE.mk _ (Ext.refl _) (hK _ _ _ _ hS hg)
theorem putk_pf {l : List Bs} {k : Bs} {tl tk : Nat} (h : l.length ≤ 2147483647) : PureF Try.prog 65 [.row (rowR l) 1 tl, .row (bytesD k) 1 tk] (.row (rowR (putL l k)) 1 0) :=
  PureF.ofOwn fun st K hK => ⟨_, putk_own, l, k, tl, tk, rfl, h, fun o c f st' hS hg => by
    obtain ⟨e1, k1⟩ := OR.mk_ok (by decide) hg rfl (rowR_one _)
    refine hK [⟨o, f, 1, c, rowR (putL l k)⟩] st' _ hS (fun r hr => ?_) fun G hr => ?_
    · simp only [List.mem_cons, List.not_mem_nil, or_false] at hr
      subst hr; assumption
    · have r1 := hr _ (.head _)
      unfold OR.own OR.row at r1
      simp only at r1
      rw [e1] at r1
      exact r1⟩
/-! ### dumbwaiterlaw18.Small -/
structure SmallC (c : CfgV) : Prop where
  hkey : 1 ≤ c.keyMax ∧ c.keyMax ≤ 2
  hval : 8 ≤ c.valMax ∧ c.valMax ≤ 9
  hc : 1 ≤ c.c ∧ c.c ≤ 2
  hf : 3 ≤ c.f ∧ c.f ≤ 4
  hm : c.f * c.c ≤ c.m ∧ c.m ≤ c.f * c.c + 1
  hl : c.c + 1 ≤ c.l ∧ c.l ≤ c.c + 2
  he : 1 ≤ c.e ∧ c.e ≤ 4
  hmaxKeys : 1 ≤ c.maxKeys ∧ c.maxKeys ≤ 8
  hz : 1 ≤ c.z ∧ c.z ≤ 2
theorem small_ps {c : CfgV} (h : True) : PureS Try.prog 21 [.agg (cfgD c)] (fun d => ∃ c', d = .agg (cfgD c') ∧ SmallC c') := by
  refine sound_ofA Try.func21 rfl Try.results21 ?_
  rintro w0 args st K ⟨rfl, hK⟩
  rw [Try.ntmps21]; refine ⟨by simp, ?_⟩
  have hS := Sep.nil st
  (repeat (first | ((with_reducible apply zr_seq)) | ((with_reducible apply zr_region); (try simp only [List.append_eq, List.cons_append, List.nil_append])) | ((with_reducible apply zo_end)) | ((with_reducible apply (zs_boxRef (t := 1))); (exact rfl); (exact rfl)) | ((with_reducible apply (zs_salloc (t := 2))); (exact rfl); (exact el_of rfl); (simp [oneD, Value.oneCell']); (assumption); (intro a2 sS hS))))
  obtain ⟨fl, hfl⟩ : ∃ fl, ([[D.v (Value.float FloatKind.f64 4607182418800017408)], [D.v (Value.float FloatKind.f64 4602678819172646912)], [D.v (Value.float FloatKind.f64 4604930618986332160)], [D.v (Value.float FloatKind.f64 4603579539098121011)]] : List (List D)).getD (c.l / 16 % 4).toNat [] = [.v (.float .f64 fl)] := by
    have h4 : (c.l / 16 % 4).toNat < 4 := by omega
    generalize (c.l / 16 % 4).toNat = q at *
    match q, h4 with
    | 0, _ => exact ⟨_, rfl⟩
    | 1, _ => exact ⟨_, rfl⟩
    | 2, _ => exact ⟨_, rfl⟩
    | 3, _ => exact ⟨_, rfl⟩
  have hp : 3 ≤ (c.f % 2 + 3) * (c.c % 2 + 1) ∧ (c.f % 2 + 3) * (c.c % 2 + 1) ≤ 8 := by
    rcases (by omega : c.f % 2 = 0 ∨ c.f % 2 = 1) with e1 | e1 <;> rcases (by omega : c.c % 2 = 0 ∨ c.c % 2 = 1) with e2 | e2 <;> rw [e1, e2] <;> decide
  have hw1 : IntKind.i64.wrap ((c.f % 2 + 3) * (c.c % 2 + 1)) = (c.f % 2 + 3) * (c.c % 2 + 1) := wrap_in64 (by omega) (by omega)
  have hw2 : IntKind.i64.wrap ((c.f % 2 + 3) * (c.c % 2 + 1) + c.m % 2) = (c.f % 2 + 3) * (c.c % 2 + 1) + c.m % 2 := wrap_in64 (by omega) (by omega)
  refine zr_cutK [1, 2, 3] (fun e s => ∃ a3, e = [(3, .ptr a3 0)] ∧ Zm.Sep st s [(some a3, [D.v (Value.int IntKind.i64 (c.keyMax % 2 + 1)), D.v (Value.int IntKind.i64 (c.valMax % 2 + 8)), D.v (Value.int IntKind.i64 (c.c % 2 + 1)), D.v (Value.int IntKind.i64 (c.f % 2 + 3)), D.v (Value.int IntKind.i64 0), D.v (Value.int IntKind.i64 0), D.v (Value.int IntKind.i64 (c.e % 4 + 1)), D.v (Value.int IntKind.i64 (c.maxKeys % 8 + 1)), D.v (Value.int IntKind.i64 (c.z % 2 + 1)), D.v (Value.float FloatKind.f64 fl)]), (some a2, [D.v (Value.int IntKind.i64 0), D.v (Value.int IntKind.i64 0), D.v (Value.int IntKind.i64 0), D.v (Value.int IntKind.i64 0), D.v (Value.int IntKind.i64 0), D.v (Value.int IntKind.i64 0), D.v (Value.int IntKind.i64 0), D.v (Value.int IntKind.i64 0), D.v (Value.int IntKind.i64 0), D.v (Value.float FloatKind.f64 0)])]) zq19 ?_ ?_
  · refine zc_begin (m := 38) ([]) [37] zq36 rfl ?_
    refine zc_take0 (i := 0) rfl zq36 zq36 zq36 zq36 zq26 rfl rfl zq18 ?_
    refine zc_take0 (i := 1) rfl zq36 zq36 zq36 zq36 zq26 rfl rfl (zp_load_ref rfl zq33 rfl rfl) ?_
    refine zc_take0 (i := 2) rfl zq36 zq36 zq36 zq36 zq26 rfl rfl (ZPure0.pure (zp_mask (p := 2) 1 rfl rfl rfl rfl (by decide) (by decide) (by decide))) ?_
    refine zc_take0 (i := 3) rfl zq36 zq36 zq36 zq36 zq26 rfl rfl (ZPure0.pure (zp_add rfl rfl rfl zq27)) ?_
    refine zc_take0 (i := 4) rfl zq36 zq36 zq36 zq36 zq26 rfl rfl zq18 ?_
    refine zc_take0 (i := 5) rfl zq36 zq36 zq36 zq36 zq26 rfl rfl (zp_load_ref rfl zq33 rfl rfl) ?_
    refine zc_take0 (i := 6) rfl zq36 zq36 zq36 zq36 zq26 rfl rfl (ZPure0.pure (zp_mask (p := 2) 1 rfl rfl rfl rfl (by decide) (by decide) (by decide))) ?_
    refine zc_take0 (i := 7) rfl zq36 zq36 zq36 zq36 zq26 rfl rfl (ZPure0.pure (zp_add rfl rfl rfl zq27)) ?_
    refine zc_take0 (i := 8) rfl zq36 zq36 zq36 zq36 zq26 rfl rfl zq18 ?_
    refine zc_take0 (i := 9) rfl zq36 zq36 zq36 zq36 zq26 rfl rfl (zp_load_ref rfl zq33 rfl rfl) ?_
    refine zc_take0 (i := 10) rfl zq36 zq36 zq36 zq36 zq26 rfl rfl (ZPure0.pure (zp_mask (p := 2) 1 rfl rfl rfl rfl (by decide) (by decide) (by decide))) ?_
    refine zc_take0 (i := 11) rfl zq36 zq36 zq36 zq36 zq26 rfl rfl (ZPure0.pure (zp_add rfl rfl rfl zq27)) ?_
    refine zc_take0 (i := 12) rfl zq36 zq36 zq36 zq36 zq26 rfl rfl zq18 ?_
    refine zc_take0 (i := 13) rfl zq36 zq36 zq36 zq36 zq26 rfl rfl (zp_load_ref rfl zq33 rfl rfl) ?_
    refine zc_take0 (i := 14) rfl zq36 zq36 zq36 zq36 zq26 rfl rfl (ZPure0.pure (zp_mask (p := 2) 1 rfl rfl rfl rfl (by decide) (by decide) (by decide))) ?_
    refine zc_take0 (i := 15) rfl zq36 zq36 zq36 zq36 zq26 rfl rfl (ZPure0.pure (zp_add rfl rfl rfl zq27)) ?_
    refine zc_take0 (i := 16) rfl zq36 zq36 zq36 zq36 zq26 rfl rfl zq18 ?_
    refine zc_take0 (i := 17) rfl zq36 zq36 zq36 zq36 zq26 rfl rfl (zp_load_ref rfl zq33 rfl rfl) ?_
    refine zc_take0 (i := 18) rfl zq36 zq36 zq36 zq36 zq26 rfl rfl (ZPure0.pure (zp_mask (p := 4) 2 rfl rfl rfl rfl (by decide) (by decide) (by decide))) ?_
    refine zc_take0 (i := 19) rfl zq36 zq36 zq36 zq36 zq26 rfl rfl (ZPure0.pure (zp_add rfl rfl rfl zq27)) ?_
    refine zc_take0 (i := 20) rfl zq36 zq36 zq36 zq36 zq26 rfl rfl zq18 ?_
    refine zc_take0 (i := 21) rfl zq36 zq36 zq36 zq36 zq26 rfl rfl (zp_load_ref rfl zq33 rfl rfl) ?_
    refine zc_take0 (i := 22) rfl zq36 zq36 zq36 zq36 zq26 rfl rfl (ZPure0.pure (zp_mask (p := 8) 3 rfl rfl rfl rfl (by decide) (by decide) (by decide))) ?_
    refine zc_take0 (i := 23) rfl zq36 zq36 zq36 zq36 zq26 rfl rfl (ZPure0.pure (zp_add rfl rfl rfl zq27)) ?_
    refine zc_take0 (i := 24) rfl zq36 zq36 zq36 zq36 zq26 rfl rfl zq18 ?_
    refine zc_take0 (i := 25) rfl zq36 zq36 zq36 zq36 zq26 rfl rfl (zp_load_ref rfl zq33 rfl rfl) ?_
    refine zc_take0 (i := 26) rfl zq36 zq36 zq36 zq36 zq26 rfl rfl (ZPure0.pure (zp_mask (p := 2) 1 rfl rfl rfl rfl (by decide) (by decide) (by decide))) ?_
    refine zc_take0 (i := 27) rfl zq36 zq36 zq36 zq36 zq26 rfl rfl (ZPure0.pure (zp_add rfl rfl rfl zq27)) ?_
    refine zc_take0 (i := 29) rfl zq36 zq36 zq36 zq36 zq26 rfl rfl zq18 ?_
    refine zc_take0 (i := 30) rfl zq36 zq36 zq36 zq36 zq26 rfl rfl (zp_load_ref rfl zq33 rfl rfl) ?_
    refine zc_take0 (i := 31) rfl zq36 zq36 zq36 zq36 zq26 rfl rfl (ZPure0.pure (zp_shrI (p := 16) rfl rfl (by decide) rfl (by decide))) ?_
    refine zc_take0 (i := 32) rfl zq36 zq36 zq36 zq36 zq26 rfl rfl (ZPure0.pure (zp_mask (p := 4) 2 rfl rfl rfl rfl (by decide) (by decide) (by decide))) ?_
    skip
    refine zc_all2 (i := 28) (j := 36) (fun _ => by first | assumption | (repeat (first | exact BOwn.nil _ | refine BOwn.cons zq5 ?_))) zq36 ?_ ?_
    · refine zoneC_op (i := 28) (fun _ => by first | assumption | (repeat (first | exact BOwn.nil _ | refine BOwn.cons zq5 ?_))) rfl zq26 ?_
      refine ZVal.op rfl (by decide) (zv_litR (xs := [.const (.float .f64 4607182418800017408), .const (.float .f64 4602678819172646912), .const (.float .f64 4604930618986332160), .const (.float .f64 4603579539098121011)]) _ rfl rfl rfl zq34 zq32 zq28 zq31 (by decide) ?_)
      refine zc_take0 (i := 33) rfl zq36 zq36 zq36 zq36 zq26 rfl rfl zq0 ?_
      refine zc_take0 (i := 34) rfl zq36 zq36 zq36 zq36 zq26 rfl rfl (zp_load_ref rfl zq33 rfl rfl) ?_
      refine zc_take0 (i := 35) rfl zq36 zq36 zq36 zq36 zq26 rfl rfl (ZPure0.pure (zp_build (xs := [(0, .tmp 7), (1, .tmp 11), (2, .tmp 15), (3, .tmp 19), (6, .tmp 23), (7, .tmp 27), (8, .tmp 31), (9, .tmp 38)]) rfl (el_of rfl) (st_of rfl) rfl zq1)) ?_
      refine zc_one_val (i := 36) (fun _ => by first | assumption | (repeat (first | exact BOwn.nil _ | refine BOwn.cons zq5 ?_))) zq36 rfl zq26 rfl rfl (zv_salloc rfl zq32 zq31 zq35 fun a3 sS hS => ?_)
      refine zc_one (i := 37) (fun _ => by first | assumption | (repeat (first | exact BOwn.nil _ | refine BOwn.cons zq5 ?_))) zq36 rfl zq26 (zop_sstore (i := 0) rfl rfl rfl rfl zq33 zq35 rfl zq30 zq20 zq25 zq4 fun sS hS => ?_)
      (try simp only [List.set_cons_zero, List.set_cons_succ] at hS)
      refine zc_end (fun hcl_ => absurd hcl_ (by decide)) zq36 ?_
      exact ⟨_, ⟨_, rfl, hS⟩, zq21, zq21⟩
    · refine zoneC_op (i := 36) (fun _ => by first | assumption | (repeat (first | exact BOwn.nil _ | refine BOwn.cons zq5 ?_))) rfl zq26 ?_
      refine ZVal.op rfl (by decide) (zv_salloc rfl zq32 zq31 hS fun a3 sS hS => ?_)
      refine zc_one_val (i := 28) (fun _ => by first | assumption | (repeat (first | exact BOwn.nil _ | refine BOwn.cons zq5 ?_))) zq36 rfl zq26 rfl rfl (zv_litR (xs := [.const (.float FloatKind.f64 4607182418800017408), .const (.float FloatKind.f64 4602678819172646912), .const (.float FloatKind.f64 4604930618986332160), .const (.float FloatKind.f64 4603579539098121011)]) _ rfl rfl rfl zq34 zq32 zq28 zq15 (by decide) ?_)
      refine zc_take0 (i := 33) rfl zq36 zq36 zq36 zq36 zq26 rfl rfl zq0 ?_
      refine zc_take0 (i := 34) rfl zq36 zq36 zq36 zq36 zq26 rfl rfl (zp_load_ref rfl zq33 rfl rfl) ?_
      refine zc_take0 (i := 35) rfl zq36 zq36 zq36 zq36 zq26 rfl rfl (ZPure0.pure (zp_build (xs := [(0, .tmp 7), (1, .tmp 11), (2, .tmp 15), (3, .tmp 19), (6, .tmp 23), (7, .tmp 27), (8, .tmp 31), (9, .tmp 38)]) rfl (el_of rfl) (st_of rfl) rfl zq1)) ?_
      refine zc_one (i := 37) (fun _ => by first | assumption | (repeat (first | exact BOwn.nil _ | refine BOwn.cons zq5 ?_))) zq36 rfl zq26 (zop_sstore (i := 0) rfl rfl rfl rfl zq33 zq35 rfl zq30 zq20 zq25 zq4 fun sS hS => ?_)
      (try simp only [List.set_cons_zero, List.set_cons_succ] at hS)
      refine zc_end (fun hcl_ => absurd hcl_ (by decide)) zq36 ?_
      exact ⟨_, ⟨_, rfl, hS⟩, zq21, zq21⟩
  rintro e s ⟨a3, rfl, hS⟩
  (repeat (first | ((with_reducible apply zr_seq))))
  refine zc_begin (m := 20) ([(a3, [D.v (Value.int IntKind.i64 (c.keyMax % 2 + 1)), D.v (Value.int IntKind.i64 (c.valMax % 2 + 8)), D.v (Value.int IntKind.i64 (c.c % 2 + 1)), D.v (Value.int IntKind.i64 (c.f % 2 + 3)), D.v (Value.int IntKind.i64 0), D.v (Value.int IntKind.i64 0), D.v (Value.int IntKind.i64 (c.e % 4 + 1)), D.v (Value.int IntKind.i64 (c.maxKeys % 8 + 1)), D.v (Value.int IntKind.i64 (c.z % 2 + 1)), D.v (Value.float FloatKind.f64 fl)])]) [17, 19] zq36 rfl ?_
  refine zc_take0 (i := 0) rfl zq36 zq36 zq36 zq36 zq26 rfl rfl zq18 ?_
  refine zc_take (i := 1) rfl zq36 zq36 zq36 zq36 zq36 zq36 zq26 rfl rfl (zpb_load rfl zq33 rfl (.head _) rfl zq29) ?_
  refine zc_take0 (i := 2) rfl zq36 zq36 zq36 zq36 zq26 rfl rfl zq18 ?_
  refine zc_take (i := 3) rfl zq36 zq36 zq36 zq36 zq36 zq36 zq26 rfl rfl (zpb_load rfl zq33 rfl (.head _) rfl zq29) ?_
  refine zc_take0 (i := 5) rfl zq36 zq36 zq36 zq36 zq26 rfl rfl zq18 ?_
  refine zc_take0 (i := 6) rfl zq36 zq36 zq36 zq36 zq26 rfl rfl (zp_load_ref rfl zq33 rfl rfl) ?_
  refine zc_take0 (i := 7) rfl zq36 zq36 zq36 zq36 zq26 rfl rfl (ZPure0.pure (zp_mask (p := 2) 1 rfl rfl rfl rfl (by decide) (by decide) (by decide))) ?_
  refine zc_take0 (i := 9) rfl zq36 zq36 zq36 zq36 zq26 rfl rfl zq18 ?_
  refine zc_take (i := 10) rfl zq36 zq36 zq36 zq36 zq36 zq36 zq26 rfl rfl (zpb_load rfl zq33 rfl (.head _) rfl zq29) ?_
  refine zc_take0 (i := 11) rfl zq36 zq36 zq36 zq36 zq26 rfl rfl (ZPure0.pure (zp_add rfl rfl rfl zq27)) ?_
  refine zc_take0 (i := 12) rfl zq36 zq36 zq36 zq36 zq26 rfl rfl zq18 ?_
  refine zc_take0 (i := 13) rfl zq36 zq36 zq36 zq36 zq26 rfl rfl (zp_load_ref rfl zq33 rfl rfl) ?_
  refine zc_take0 (i := 14) rfl zq36 zq36 zq36 zq36 zq26 rfl rfl (ZPure0.pure (zp_mask (p := 2) 1 rfl rfl rfl rfl (by decide) (by decide) (by decide))) ?_
  refine zc_take0 (i := 15) rfl zq36 zq36 zq36 zq36 zq26 rfl rfl (ZPure0.pure (zp_add rfl rfl rfl zq27)) ?_
  skip
  refine zc_take0 (i := 4) rfl zq36 zq36 zq36 zq36 zq26 rfl rfl (ZPure0.pure (zp_mul rfl rfl rfl hw1)) ?_
  refine zc_take0 (i := 8) rfl zq36 zq36 zq36 zq36 zq26 rfl rfl (ZPure0.pure (zp_add rfl rfl rfl zq27)) ?_
  refine zc_take0 (i := 16) rfl zq36 zq36 zq36 zq36 zq26 rfl rfl zq18 ?_
  refine zc_one (i := 17) (fun _ => by first | assumption | (repeat (first | exact BOwn.nil _ | refine BOwn.cons zq5 ?_))) zq36 rfl zq26 (zop_sstore (i := 0) rfl rfl rfl rfl zq33 zq35 rfl zq30 zq20 zq25 zq4 fun sS hS => ?_)
  (try simp only [List.set_cons_zero, List.set_cons_succ] at hS)
  refine zc_take0 (i := 18) rfl zq36 zq36 zq36 zq36 zq26 rfl rfl zq18 ?_
  refine zc_one (i := 19) (fun hcl_ => absurd hcl_ (by decide)) zq36 rfl zq26 (zop_sstore (i := 0) rfl rfl rfl rfl zq33 zq35 rfl zq30 zq20 zq25 zq4 fun sS hS => ?_)
  (try simp only [List.set_cons_zero, List.set_cons_succ] at hS)
  refine zc_end (fun hcl_ => absurd hcl_ (by decide)) zq36 ?_
  (repeat (first | ((with_reducible apply (zs_sstore (i := 1))); (exact rfl); (exact rfl); (exact sh_of rfl); (assumption); (exact rfl); (first | exact rfl | (simp [cells_orow])); ((try rw [cells_orow]); (repeat (first | exact one_nil | (apply one_cons; (first | exact rfl | exact one_orow _ _ _))))); (first | exact Nat.le_of_ble_eq_true rfl | omega | (focus (simp [cellsD, msgD, nodeD, pairD, cfgD]; done))); (first | (simp only [cells_orow, cD_int, cD_bool, cD_float, cD_nil, cD_ptr0, cD_str, cD_row, cD_mrow, cD_ptr, cD_ref, cD_fn, cD_agg, List.take_zero, List.take_succ_cons, List.take_nil, List.drop_succ_cons, List.drop_zero, List.drop_nil, List.nil_append, List.cons_append, List.append_nil, Nat.zero_add, Nat.reduceAdd]; exact rfl) | exact rfl); (intro sS hS); (try simp only [List.set_cons_zero, List.set_cons_succ] at hS)) | ((with_reducible apply zr_seq)) | ((with_reducible apply zr_region); (try simp only [List.append_eq, List.cons_append, List.nil_append])) | ((with_reducible apply zo_end)) | ((with_reducible apply zs_load_ptrA); (exact rfl); (exact rfl); (exact sh_of rfl); (first | assumption | exact St.setH_self _ _ _ | exact Sep.at_ (i := 0) zq35 rfl | exact Sep.at_ (i := 1) zq35 rfl | exact Sep.at_ (i := 2) zq35 rfl | exact Sep.at_ (i := 3) zq35 rfl | exact Sep.at_ (i := 4) zq35 rfl | exact Sep.at_ (i := 5) zq35 rfl | exact Sep.at_ (i := 6) zq35 rfl); (first | exact Nat.le_of_ble_eq_true rfl | exact (by decide) | (focus (simp [cellsD]; done))); (first | (simp only [cells_orow, cD_int, cD_bool, cD_float, cD_nil, cD_ptr0, cD_str, cD_row, cD_mrow, cD_ptr, cD_ref, cD_fn, cD_agg, List.take_zero, List.take_succ_cons, List.take_nil, List.drop_succ_cons, List.drop_zero, List.drop_nil, List.nil_append, List.cons_append, List.append_nil, Nat.zero_add, Nat.reduceAdd]; exact rfl) | exact rfl)) | ((with_reducible apply zr_retZ); (exact rfl); (repeat (first | exact resD_nil _ _ _ | ((with_reducible apply resD_tmp); (exact rfl)) | ((with_reducible apply resD_cell_agg); (exact rfl); (exact sh_of rfl); (first | assumption | exact St.setH_self _ _ _ | exact Sep.at_ (i := 0) zq35 rfl | exact Sep.at_ (i := 1) zq35 rfl | exact Sep.at_ (i := 2) zq35 rfl | exact Sep.at_ (i := 3) zq35 rfl | exact Sep.at_ (i := 4) zq35 rfl | exact Sep.at_ (i := 5) zq35 rfl | exact Sep.at_ (i := 6) zq35 rfl); (exact rfl)) | ((with_reducible apply resD_cell); (exact rfl); (exact sh_of rfl); (first | assumption | exact St.setH_self _ _ _ | exact Sep.at_ (i := 0) zq35 rfl | exact Sep.at_ (i := 1) zq35 rfl | exact Sep.at_ (i := 2) zq35 rfl | exact Sep.at_ (i := 3) zq35 rfl | exact Sep.at_ (i := 4) zq35 rfl | exact Sep.at_ (i := 5) zq35 rfl | exact Sep.at_ (i := 6) zq35 rfl); (exact rfl)))); (simp only [resOf]))))
  exact KE.mk st hS.ext (hK _ ⟨⟨_, _, _, _, _, _, _, _, _, _⟩, rfl, by constructor <;> simp only <;> omega⟩)
end Go.Proofs.ZtLe
