/- A part of the proof of NodeMsgs: walks of the functions that it reaches. No condition. -/
import Derived.Test.YtocpidlgcakldaaZtNoJ
import Derived.Test.YtocpidlgcakldaaZmAuto
namespace Go.Proofs.ZtLe
open Go.RowKit Go.Proofs Go.Proofs.Zm
set_option linter.unusedVariables false
set_option linter.unusedSimpArgs false
set_option maxHeartbeats 20000000
set_option maxRecDepth 100000
attribute [local irreducible] ZWp ZOps ZPure ZPure0 ZVal ZOp SoundF

/-! ### what was written is read as it was -/
theorem parseM_msgB {c : CfgV} {m : MsgV} (h : okC c = true ∧ mayL c m = true) : parseM c ((msgB c m).getD []) = some m := by
  obtain ⟨h1, h2, _⟩ := okC_t h.1
  have hl := may_len h.2
  have hk := kb_n h.2
  have p1 := padB_len ⟨h1, hl.1⟩
  have hlen := msgB_len h
  have e : (msgB c m).getD [] = [kb m] ++ padB m.2.1 c.keyMax ++ padB m.2.2 c.valMax := by rw [msgB_t h]; rfl
  have hL : ([kb m] ++ padB m.2.1 c.keyMax).length = (1 + c.keyMax + 2).toNat := by rw [List.length_append, List.length_singleton]; omega
  have e1 : ((msgB c m).getD []).take (1 + c.keyMax + 2).toNat = [kb m] ++ padB m.2.1 c.keyMax := by rw [e, ← hL, List.take_left]
  have e2 : ((msgB c m).getD []).drop (1 + c.keyMax + 2).toNat = padB m.2.2 c.valMax := by rw [e, ← hL, List.drop_left]
  have k1 : parseK c ((msgB c m).getD []) = some m.2.1 := by unfold parseK; rw [e1]; exact unpad_padB ⟨h1, hl.1⟩
  have k2 : parseV c ((msgB c m).getD []) = some m.2.2 := by unfold parseV; rw [e2]; exact unpad_padB ⟨h2, hl.2⟩
  have k3 : parseW c ((msgB c m).getD []) = m := by
    unfold parseW
    rw [k1, k2, e]
    exact Prod.ext hk.2 rfl
  rw [parseM_t ⟨⟨h.1, hlen⟩, ⟨by rw [k1]; rfl, by rw [k2]; rfl⟩, by rw [k3]; exact h.2⟩, k3]
theorem rtake_app {x T : Bs} {n : Int} (h : (x.length : Int) = n) : rtake (x ++ T, false) n = (x, T, false) := by
  have e : n.toNat = x.length := by omega
  rw [rtake_f (by simp only [List.length_append]; omega), e]
  simp only [List.take_left, List.drop_left]
theorem rtext_app {k T : Bs} {most : Int} (h : (0 ≤ most ∧ most ≤ 1000) ∧ (k.length : Int) ≤ most) : rtext (padB k most ++ T, false) most = (k, T, false) := by
  unfold rtext
  rw [rtake_app (padB_len h), unpad_padB h]
  rfl
theorem take_snoc {l : List Bs} {i : Nat} (h : i < l.length) : l.take (i + 1) = l.take i ++ [l.getD i []] := by
  rw [List.take_succ_eq_append_getElem h, getD_k (List.getElem?_eq_getElem h)]
theorem kLoop_leaf {c : CfgV} {n : NodeV} (h : GoodF c n) (hl : n.leaf = true) {T : Bs} : ∀ (j i : Nat), i + j = n.keys.length →
    kLoop c true j (n.keys.take i, n.vals.take i, ((List.range' i j).flatMap (kvB c n) ++ T, false)) = (n.keys, n.vals, (T, false))
  | 0, i, e => by
    have hv := (h.lf hl).vlen
    rw [List.take_of_length_le (by omega), List.take_of_length_le (by omega)]
    rfl
  | j + 1, i, e => by
    obtain ⟨h1, h2, _⟩ := okC_t h.ok
    have hv := (h.lf hl).vlen
    have hi : i < n.keys.length := by omega
    have hj : i < n.vals.length := by omega
    have q1 := h.key _ (mem_getD hi)
    have q2 := (h.lf hl).val _ (mem_getD hj)
    have hk : kvB c n i = padB (n.keys.getD i []) c.keyMax ++ padB (n.vals.getD i []) c.valMax := by unfold kvB; rw [hl]; rfl
    have ih := kLoop_leaf h hl (T := T) j (i + 1) (by omega)
    rw [kLoop_t rfl, List.range'_succ, List.flatMap_cons, hk, List.append_assoc, List.append_assoc, rtext_app ⟨h1, q1⟩]
    simp only
    rw [rtext_app ⟨h2, q2⟩]
    simp only
    rw [← take_snoc hi, ← take_snoc hj]
    exact ih
theorem kLoop_inner {c : CfgV} {n : NodeV} (h : GoodF c n) (hl : n.leaf = false) {T : Bs} : ∀ (j i : Nat), i + j = n.keys.length →
    kLoop c false j (n.keys.take i, [], ((List.range' i j).flatMap (kvB c n) ++ T, false)) = (n.keys, [], (T, false))
  | 0, i, e => by
    rw [List.take_of_length_le (by omega)]
    rfl
  | j + 1, i, e => by
    obtain ⟨h1, h2, _⟩ := okC_t h.ok
    have hi : i < n.keys.length := by omega
    have q1 := h.key _ (mem_getD hi)
    have hk : kvB c n i = padB (n.keys.getD i []) c.keyMax := by unfold kvB; rw [hl]; exact List.append_nil _
    have ih := kLoop_inner h hl (T := T) j (i + 1) (by omega)
    rw [kLoop_f rfl, List.range'_succ, List.flatMap_cons, hk, List.append_assoc, rtext_app ⟨h1, q1⟩]
    simp only
    rw [← take_snoc hi]
    exact ih
theorem iLoop_all {T : Bs} : ∀ {l acc : List Int}, (∀ k ∈ l, 1 ≤ k ∧ k ≤ 2147483647) → iLoop l.length (acc, (kidsB l ++ T, false)) = (acc ++ l, (T, false))
  | [], acc, _ => by rw [List.append_nil]; rfl
  | a :: l, acc, h => by
    have ha := h a (by simp)
    have ih := iLoop_all (T := T) (l := l) (acc := acc ++ [a]) fun k hk => h k (by simp [hk])
    have e : kidsB (a :: l) = putB a 4 ++ kidsB l := by unfold kidsB; rw [List.flatMap_cons]
    rw [List.length_cons, iLoop_s rfl, e, List.append_assoc, rtake_app (by rw [nput4_len]; rfl)]
    simp only
    rw [nget_put4 (by omega) (by omega), ih, List.append_assoc]
    rfl
theorem mLoop_all {c : CfgV} {T : Bs} (hok : okC c = true) : ∀ {l acc : List MsgV}, (∀ m ∈ l, mayL c m = true) → mLoop c l.length (acc, (msB c l ++ T, false)) = (acc ++ l, (T, false))
  | [], acc, _ => by rw [List.append_nil]; rfl
  | a :: l, acc, h => by
    have ha := h a (by simp)
    have ih := mLoop_all (T := T) hok (l := l) (acc := acc ++ [a]) fun k hk => h k (by simp [hk])
    have e : msB c (a :: l) = (msgB c a).getD [] ++ msB c l := by unfold msB; rw [List.flatMap_cons]
    rw [List.length_cons, mLoop_s rfl, e, List.append_assoc, rtake_app (msgB_len ⟨hok, ha⟩)]
    simp only
    rw [parseM_msgB ⟨hok, ha⟩]
    show mLoop c l.length (acc ++ [a], _) = _
    rw [ih, List.append_assoc]
    rfl
theorem cnt_le {c : CfgV} {n : NodeV} (h : GoodF c n) : cntN n ≤ 1000 ∧ n.msgs.length ≤ 1000 := by
  obtain ⟨_, _, q3, q4, q5⟩ := okC_t h.ok
  unfold cntN
  cases hl : n.leaf
  · have a := (h.inn hl).kf; have b := (h.inn hl).mlen; simp only [Bool.cond_false]; omega
  · have a := (h.lf hl).klen; have b := (h.lf hl).msgs; rw [b]; simp only [Bool.cond_true, List.length_nil]; omega
/-- A node that is one is read as it was. -/
theorem parse_code {c : CfgV} {n : NodeV} (h0 : (okC c && goodN c n) = true) : parseN c (codeB c n) = some n := by
  have h := good_f h0
  obtain ⟨hc1, hc2⟩ := cnt_le h
  obtain ⟨Z, hZ⟩ : ∃ Z, Z = List.replicate ((longL c).toNat - (bodyB c n).length) (0 : UInt8) := ⟨_, rfl⟩
  have hb : codeB c n = (bif n.leaf then 1 else 2) :: (putB (cntN n) 2 ++ (putB n.msgs.length 2 ++ (keysB c n n.keys.length ++ (kidsB n.kids ++ (msB c n.msgs ++ Z))))) := by
    unfold codeB; rw [← hZ]; unfold bodyB headB; simp only [List.append_assoc, List.singleton_append, List.cons_append, List.nil_append]
  have d1 : (codeB c n).drop 1 = putB (cntN n) 2 ++ (putB n.msgs.length 2 ++ (keysB c n n.keys.length ++ (kidsB n.kids ++ (msB c n.msgs ++ Z)))) := by rw [hb]; rfl
  have d3 : (codeB c n).drop 3 = putB n.msgs.length 2 ++ (keysB c n n.keys.length ++ (kidsB n.kids ++ (msB c n.msgs ++ Z))) := by
    rw [show (3 : Nat) = 1 + 2 from rfl, ← List.drop_drop, d1, ← nput2_len (cntN n), List.drop_left]
  have d5 : (codeB c n).drop 5 = keysB c n n.keys.length ++ (kidsB n.kids ++ (msB c n.msgs ++ Z)) := by
    rw [show (5 : Nat) = 3 + 2 from rfl, ← List.drop_drop, d3, ← nput2_len n.msgs.length, List.drop_left]
  have e1 : pLeaf (codeB c n) = n.leaf := by unfold pLeaf; rw [hb]; cases n.leaf <;> rfl
  have t1 : ((codeB c n).drop 1).take 2 = putB (cntN n) 2 := by rw [d1, ← nput2_len (cntN n), List.take_left]
  have t3 : ((codeB c n).drop 3).take 2 = putB n.msgs.length 2 := by rw [d3, ← nput2_len n.msgs.length, List.take_left]
  have e2 : pCnt (codeB c n) = cntN n := by unfold pCnt; rw [t1, nget_put2 (by omega) (by omega)]; rfl
  have e3 : pMs (codeB c n) = n.msgs.length := by unfold pMs; rw [t3, nget_put2 (by omega) (by omega)]; rfl
  have e4 : pK c (codeB c n) = (n.keys, n.vals, (kidsB n.kids ++ (msB c n.msgs ++ Z), false)) := by
    unfold pK; rw [e1, e2, d5]
    unfold keysB cntN
    rw [List.range_eq_range']
    cases hl : n.leaf
    · have := (h.inn hl).klen
      rw [(h.inn hl).vals]
      simp only [Bool.cond_false]
      rw [show n.kids.length - 1 = n.keys.length by omega]
      exact kLoop_inner h hl n.keys.length 0 (by omega)
    · exact kLoop_leaf h hl n.keys.length 0 (by omega)
  have e5 : pI c (codeB c n) = (n.kids, (msB c n.msgs ++ Z, false)) := by
    unfold pI; rw [e1, e2, e4]
    unfold cntN
    cases hl : n.leaf
    · exact iLoop_all (h.inn hl).kid
    · rw [(h.lf hl).kids]; rfl
  have hmm : ∀ m ∈ n.msgs, mayL c m = true := by
    cases hl : n.leaf
    · exact fun m hm => ((h.inn hl).msg m hm).2
    · rw [(h.lf hl).msgs]; simp
  have e6 : pM c (codeB c n) = (n.msgs, (Z, false)) := by
    unfold pM; rw [e3, e5]; exact mLoop_all h.ok hmm
  have e7 : pNode c (codeB c n) = n := by unfold pNode; rw [e1, e4, e5, e6]
  unfold parseN
  rw [if_pos ⟨⟨h.ok, codeB_len h⟩, by rw [e6], by rw [e7]; unfold codeN; rw [if_pos h0]⟩, e7]
end Go.Proofs.ZtLe
