/- A part of the proof of NodeMsgForms: walks of the functions that it reaches. No condition. -/
import Derived.Test.YtocpidlgcakldaaZtNoJ
import Derived.Test.YtocpidlgcakldaaZmAuto
import Derived.Test.YtocpidlgcakldaaZmP2
import Derived.Test.YtocpidlgcakldaaZtP4
namespace Go.Proofs.ZtLe
open Go.RowKit Go.Proofs Go.Proofs.Zm
set_option linter.unusedVariables false
set_option linter.unusedSimpArgs false
set_option maxHeartbeats 20000000
set_option maxRecDepth 100000
attribute [local irreducible] ZWp ZOps ZPure ZPure0 ZVal ZOp SoundF

/-! ### what was written is read as it was -/
theorem parseM_msgB {c : CfgV} {m : MsgV} (h : okC c = true ∧ mayL c m = true) : parseM c ((msgB c m).getD []) = some m := by
  obtain ⟨h1, h2, _⟩ := okC_t h.1
  have hl := may_len h.2
  have hk := kb_n h.2
  have p1 := padB_len ⟨h1, hl.1⟩
  have hlen := msgB_len h
  have e : (msgB c m).getD [] = [kb m] ++ padB m.2.1 c.keyMax ++ padB m.2.2 c.valMax := by rw [msgB_t h]; rfl
  have hL : ([kb m] ++ padB m.2.1 c.keyMax).length = (1 + c.keyMax + 2).toNat := by rw [List.length_append, List.length_singleton]; omega
  have e1 : ((msgB c m).getD []).take (1 + c.keyMax + 2).toNat = [kb m] ++ padB m.2.1 c.keyMax := by rw [e, ← hL, List.take_left]
  have e2 : ((msgB c m).getD []).drop (1 + c.keyMax + 2).toNat = padB m.2.2 c.valMax := by rw [e, ← hL, List.drop_left]
  have k1 : parseK c ((msgB c m).getD []) = some m.2.1 := by unfold parseK; rw [e1]; exact unpad_padB ⟨h1, hl.1⟩
  have k2 : parseV c ((msgB c m).getD []) = some m.2.2 := by unfold parseV; rw [e2]; exact unpad_padB ⟨h2, hl.2⟩
  have k3 : parseW c ((msgB c m).getD []) = m := by
    unfold parseW
    rw [k1, k2, e]
    exact Prod.ext hk.2 rfl
  rw [parseM_t ⟨⟨h.1, hlen⟩, ⟨by rw [k1]; rfl, by rw [k2]; rfl⟩, by rw [k3]; exact h.2⟩, k3]
theorem rtake_app {x T : Bs} {n : Int} (h : (x.length : Int) = n) : rtake (x ++ T, false) n = (x, T, false) := by
  have e : n.toNat = x.length := by omega
  rw [rtake_f (by simp only [List.length_append]; omega), e]
  simp only [List.take_left, List.drop_left]
theorem rtext_app {k T : Bs} {most : Int} (h : (0 ≤ most ∧ most ≤ 1000) ∧ (k.length : Int) ≤ most) : rtext (padB k most ++ T, false) most = (k, T, false) := by
  unfold rtext
  rw [rtake_app (padB_len h), unpad_padB h]
  rfl
theorem take_snoc {l : List Bs} {i : Nat} (h : i < l.length) : l.take (i + 1) = l.take i ++ [l.getD i []] := by
  rw [List.take_succ_eq_append_getElem h, getD_k (List.getElem?_eq_getElem h)]
theorem kLoop_leaf {c : CfgV} {n : NodeV} (h : GoodF c n) (hl : n.leaf = true) {T : Bs} : ∀ (j i : Nat), i + j = n.keys.length →
    kLoop c true j (n.keys.take i, n.vals.take i, ((List.range' i j).flatMap (kvB c n) ++ T, false)) = (n.keys, n.vals, (T, false))
  | 0, i, e => by
    have hv := (h.lf hl).vlen
    rw [List.take_of_length_le (by omega), List.take_of_length_le (by omega)]
    rfl
  | j + 1, i, e => by
    obtain ⟨h1, h2, _⟩ := okC_t h.ok
    have hv := (h.lf hl).vlen
    have hi : i < n.keys.length := by omega
    have hj : i < n.vals.length := by omega
    have q1 := h.key _ (mem_getD hi)
    have q2 := (h.lf hl).val _ (mem_getD hj)
    have hk : kvB c n i = padB (n.keys.getD i []) c.keyMax ++ padB (n.vals.getD i []) c.valMax := by unfold kvB; rw [hl]; rfl
    have ih := kLoop_leaf h hl (T := T) j (i + 1) (by omega)
    rw [kLoop_t rfl, List.range'_succ, List.flatMap_cons, hk, List.append_assoc, List.append_assoc, rtext_app ⟨h1, q1⟩]
    simp only
    rw [rtext_app ⟨h2, q2⟩]
    simp only
    rw [← take_snoc hi, ← take_snoc hj]
    exact ih
theorem kLoop_inner {c : CfgV} {n : NodeV} (h : GoodF c n) (hl : n.leaf = false) {T : Bs} : ∀ (j i : Nat), i + j = n.keys.length →
    kLoop c false j (n.keys.take i, [], ((List.range' i j).flatMap (kvB c n) ++ T, false)) = (n.keys, [], (T, false))
  | 0, i, e => by
    rw [List.take_of_length_le (by omega)]
    rfl
  | j + 1, i, e => by
    obtain ⟨h1, h2, _⟩ := okC_t h.ok
    have hi : i < n.keys.length := by omega
    have q1 := h.key _ (mem_getD hi)
    have hk : kvB c n i = padB (n.keys.getD i []) c.keyMax := by unfold kvB; rw [hl]; exact List.append_nil _
    have ih := kLoop_inner h hl (T := T) j (i + 1) (by omega)
    rw [kLoop_f rfl, List.range'_succ, List.flatMap_cons, hk, List.append_assoc, rtext_app ⟨h1, q1⟩]
    simp only
    rw [← take_snoc hi]
    exact ih
theorem iLoop_all {T : Bs} : ∀ {l acc : List Int}, (∀ k ∈ l, 1 ≤ k ∧ k ≤ 2147483647) → iLoop l.length (acc, (kidsB l ++ T, false)) = (acc ++ l, (T, false))
  | [], acc, _ => by rw [List.append_nil]; rfl
  | a :: l, acc, h => by
    have ha := h a (by simp)
    have ih := iLoop_all (T := T) (l := l) (acc := acc ++ [a]) fun k hk => h k (by simp [hk])
    have e : kidsB (a :: l) = putB a 4 ++ kidsB l := by unfold kidsB; rw [List.flatMap_cons]
    rw [List.length_cons, iLoop_s rfl, e, List.append_assoc, rtake_app (by rw [nput4_len]; rfl)]
    simp only
    rw [nget_put4 (by omega) (by omega), ih, List.append_assoc]
    rfl
theorem mLoop_all {c : CfgV} {T : Bs} (hok : okC c = true) : ∀ {l acc : List MsgV}, (∀ m ∈ l, mayL c m = true) → mLoop c l.length (acc, (msB c l ++ T, false)) = (acc ++ l, (T, false))
  | [], acc, _ => by rw [List.append_nil]; rfl
  | a :: l, acc, h => by
    have ha := h a (by simp)
    have ih := mLoop_all (T := T) hok (l := l) (acc := acc ++ [a]) fun k hk => h k (by simp [hk])
    have e : msB c (a :: l) = (msgB c a).getD [] ++ msB c l := by unfold msB; rw [List.flatMap_cons]
    rw [List.length_cons, mLoop_s rfl, e, List.append_assoc, rtake_app (msgB_len ⟨hok, ha⟩)]
    simp only
    rw [parseM_msgB ⟨hok, ha⟩]
    show mLoop c l.length (acc ++ [a], _) = _
    rw [ih, List.append_assoc]
    rfl
theorem cnt_le {c : CfgV} {n : NodeV} (h : GoodF c n) : cntN n ≤ 1000 ∧ n.msgs.length ≤ 1000 := by
  obtain ⟨_, _, q3, q4, q5⟩ := okC_t h.ok
  unfold cntN
  cases hl : n.leaf
  · have a := (h.inn hl).kf; have b := (h.inn hl).mlen; simp only [Bool.cond_false]; omega
  · have a := (h.lf hl).klen; have b := (h.lf hl).msgs; rw [b]; simp only [Bool.cond_true, List.length_nil]; omega
/-- A node that is one is read as it was. -/
theorem parse_code {c : CfgV} {n : NodeV} (h0 : (okC c && goodN c n) = true) : parseN c (codeB c n) = some n := by
  have h := good_f h0
  obtain ⟨hc1, hc2⟩ := cnt_le h
  obtain ⟨Z, hZ⟩ : ∃ Z, Z = List.replicate ((longL c).toNat - (bodyB c n).length) (0 : UInt8) := ⟨_, rfl⟩
  have hb : codeB c n = (bif n.leaf then 1 else 2) :: (putB (cntN n) 2 ++ (putB n.msgs.length 2 ++ (keysB c n n.keys.length ++ (kidsB n.kids ++ (msB c n.msgs ++ Z))))) := by
    unfold codeB; rw [← hZ]; unfold bodyB headB; simp only [List.append_assoc, List.singleton_append, List.cons_append, List.nil_append]
  have d1 : (codeB c n).drop 1 = putB (cntN n) 2 ++ (putB n.msgs.length 2 ++ (keysB c n n.keys.length ++ (kidsB n.kids ++ (msB c n.msgs ++ Z)))) := by rw [hb]; rfl
  have d3 : (codeB c n).drop 3 = putB n.msgs.length 2 ++ (keysB c n n.keys.length ++ (kidsB n.kids ++ (msB c n.msgs ++ Z))) := by
    rw [show (3 : Nat) = 1 + 2 from rfl, ← List.drop_drop, d1, ← nput2_len (cntN n), List.drop_left]
  have d5 : (codeB c n).drop 5 = keysB c n n.keys.length ++ (kidsB n.kids ++ (msB c n.msgs ++ Z)) := by
    rw [show (5 : Nat) = 3 + 2 from rfl, ← List.drop_drop, d3, ← nput2_len n.msgs.length, List.drop_left]
  have e1 : pLeaf (codeB c n) = n.leaf := by unfold pLeaf; rw [hb]; cases n.leaf <;> rfl
  have t1 : ((codeB c n).drop 1).take 2 = putB (cntN n) 2 := by rw [d1, ← nput2_len (cntN n), List.take_left]
  have t3 : ((codeB c n).drop 3).take 2 = putB n.msgs.length 2 := by rw [d3, ← nput2_len n.msgs.length, List.take_left]
  have e2 : pCnt (codeB c n) = cntN n := by unfold pCnt; rw [t1, nget_put2 (by omega) (by omega)]; rfl
  have e3 : pMs (codeB c n) = n.msgs.length := by unfold pMs; rw [t3, nget_put2 (by omega) (by omega)]; rfl
  have e4 : pK c (codeB c n) = (n.keys, n.vals, (kidsB n.kids ++ (msB c n.msgs ++ Z), false)) := by
    unfold pK; rw [e1, e2, d5]
    unfold keysB cntN
    rw [List.range_eq_range']
    cases hl : n.leaf
    · have := (h.inn hl).klen
      rw [(h.inn hl).vals]
      simp only [Bool.cond_false]
      rw [show n.kids.length - 1 = n.keys.length by omega]
      exact kLoop_inner h hl n.keys.length 0 (by omega)
    · exact kLoop_leaf h hl n.keys.length 0 (by omega)
  have e5 : pI c (codeB c n) = (n.kids, (msB c n.msgs ++ Z, false)) := by
    unfold pI; rw [e1, e2, e4]
    unfold cntN
    cases hl : n.leaf
    · exact iLoop_all (h.inn hl).kid
    · rw [(h.lf hl).kids]; rfl
  have hmm : ∀ m ∈ n.msgs, mayL c m = true := by
    cases hl : n.leaf
    · exact fun m hm => ((h.inn hl).msg m hm).2
    · rw [(h.lf hl).msgs]; simp
  have e6 : pM c (codeB c n) = (n.msgs, (Z, false)) := by
    unfold pM; rw [e3, e5]; exact mLoop_all h.ok hmm
  have e7 : pNode c (codeB c n) = n := by unfold pNode; rw [e1, e4, e5, e6]
  unfold parseN
  rw [if_pos ⟨⟨h.ok, codeB_len h⟩, by rw [e6], by rw [e7]; unfold codeN; rw [if_pos h0]⟩, e7]
theorem codeN_t {c : CfgV} {n : NodeV} {x : Bs} (h : codeN c n = some x) : (okC c && goodN c n) = true ∧ x = codeB c n := by
  unfold codeN at h
  split at h
  · rename_i q; cases h; exact ⟨q, rfl⟩
  · cases h
end Go.Proofs.ZtLe
namespace Go.Proofs.ZtLe
open Go.RowKit Go.Proofs Go.Proofs.Zm
set_option linter.unusedVariables false
set_option linter.unusedSimpArgs false
set_option maxHeartbeats 20000000
set_option maxRecDepth 100000
attribute [local irreducible] ZWp ZOps ZPure ZPure0 ZVal ZOp SoundF

/-! ### awake of layer 18 -/
theorem small_ok {c : CfgV} (h : SmallC c) : okC c = true := by
  obtain ⟨h1, h2, h3, h4, h5, h6, h7, h8, h9⟩ := h
  have hm : 0 ≤ c.m ∧ c.m ≤ 1000 := by
    have a1 : c.f * c.c ≤ 4 * c.c := Int.mul_le_mul_of_nonneg_right (by omega) (by omega)
    have a2 : 0 ≤ c.f * c.c := Int.mul_nonneg (by omega) (by omega)
    omega
  have hin : ∀ {n : Int}, 0 ≤ n → n ≤ 1000 → inC n = true := fun {n} a b => by
    unfold inC; rw [decide_eq_false (by omega), decide_eq_false (by omega)]; rfl
  unfold okC cfgL
  simp only [List.all_cons, List.all_nil, Bool.and_true, Bool.and_eq_true]
  exact ⟨hin (by omega) (by omega), hin (by omega) (by omega), hin (by omega) (by omega), hin (by omega) (by omega), hin (by omega) (by omega), hin (by omega) (by omega), hin (by omega) (by omega), hin (by omega) (by omega), hin (by omega) (by omega)⟩
def awM : MsgV := (1, [97], [98, 99])
def awS : MsgV := (3, [], [115, 104, 111, 114, 116])
def awL : NodeV := ⟨true, [[107]], [[]], [], []⟩
theorem dle_awM : DLe (.agg [.v (.int .i64 1), .row (bytesD [97]) 1 0, .row (bytesD [98, 99]) 1 0]) (.agg (msgD awM)) := .refl _
theorem dle_awS : DLe (.agg [.v (.int .i64 3), .v (.slice none 0 0), .row (bytesD [115, 104, 111, 114, 116]) 1 0]) (.agg (msgD awS)) := DLe.agg (.cons (.refl _) (.cons .nilB (.cons (.refl _) .nil)))
theorem dle_awL : DLe (.agg [.v (.bool true), .row [[.row (bytesD [107]) 1 0]] 1 0, .row [[.v (.slice none 0 0)]] 1 0, .v (.slice none 0 0), .v (.slice none 0 0)]) (.agg (nodeD awL)) :=
  DLe.agg (.cons (.refl _) (.cons (.refl _) (.cons (DLe.rows (.cons (.cons .nilB .nil) .nil)) (.cons .nilI (.cons (DLe.nil 3) .nil)))))
theorem awake18_pf (h : True) : PureF Try.prog 14 [] (.v (.bool true)) := by
  refine pure_of Try.func14 rfl Try.results14 (by rw [Try.ntmps14]; simp) (fun w0 st K hK => ?_); rw [Try.ntmps14]
  have hS := Sep.nil st
  (repeat (first | ((with_reducible apply zr_seq)) | ((with_reducible apply zr_region); (try simp only [List.append_eq, List.cons_append, List.nil_append])) | ((with_reducible apply zo_end)) | ((with_reducible apply zs_assign); (exact rfl); (exact rfl)) | ((with_reducible apply zs_build); (exact rfl); (exact el_of rfl); (exact st_of rfl); (exact rfl); (first | (simp only [fillD, cellsD, cells_orow, List.take_zero, List.take_succ_cons, List.take_nil, List.drop_succ_cons, List.drop_zero, List.drop_nil, List.nil_append, List.cons_append, List.append_nil, Nat.zero_add, Nat.reduceAdd, List.length_cons, List.length_nil]; exact rfl) | ((repeat (apply fillD_cons; exact rfl; (first | exact rfl | simp [cells_orow]); (exact Nat.le_of_ble_eq_true rfl); (simp only [cells_orow, cD_int, cD_bool, cD_float, cD_nil, cD_ptr0, cD_str, cD_row, cD_mrow, cD_ptr, cD_ref, cD_fn, cD_agg, List.take_zero, List.take_succ_cons, List.take_nil, List.drop_succ_cons, List.drop_zero, List.drop_nil, List.nil_append, List.cons_append, List.append_nil, Nat.zero_add, Nat.reduceAdd]; exact rfl))); exact rfl) | exact rfl))))
  (try ((with_reducible apply zs_yes); exact rfl; exact rfl; (first | assumption | exact rfl))); refine zo_callU (small_ps (c := ⟨0, 0, 0, 0, 0, 0, 0, 0, 0, 0⟩) trivial) Try.func21 zq28 rfl rfl rfl rfl (by decide) rfl rfl zq3 ?_
  refine ⟨rfl, fun d hd => ?_⟩
  obtain ⟨c, rfl, hsm⟩ := hd
  have hok := small_ok hsm
  obtain ⟨hk1, hk2⟩ := hsm.hkey
  obtain ⟨hv1, hv2⟩ := hsm.hval
  obtain ⟨hl1, hl2⟩ := hsm.hl
  obtain ⟨hc1, hc2⟩ := hsm.hc
  have hm1 : MB awM := ⟨by decide, by decide⟩
  have hm2 : MB awS := ⟨by decide, by decide⟩
  have hmay1 : mayL c awM = true := by
    rw [may_1 (m := awM) rfl, decide_eq_true (show (((awM.2.1.length : Nat) : Int) ≤ c.keyMax) by show (1 : Int) ≤ _; omega), decide_eq_true (show (((awM.2.2.length : Nat) : Int) ≤ c.valMax) by show (2 : Int) ≤ _; omega)]; rfl
  have hmay2 : mayL c awS = false := by
    rw [may_3 (m := awS) rfl, decide_eq_false (show ¬ (((awS.2.2.length : Nat) : Int) = 8) by decide), Bool.and_false, Bool.false_and]
  have hnt : NodeT awL := ⟨⟨by decide, by decide, by decide, by decide, by unfold awL; simp⟩, by decide, by decide⟩
  obtain ⟨X, hX⟩ : ∃ X, X = (msgB c awM).getD [] := ⟨_, rfl⟩
  have hX1 : (msgB c awM).isSome = true := by rw [msgB_t ⟨hok, hmay1⟩]; rfl
  have hX2 : X.length ≤ 2147483648 := by
    have := msgB_len ⟨hok, hmay1⟩
    rw [← hX] at this; unfold mlong at this; omega
  have hX3 : parseM c X = some awM := by rw [hX]; exact parseM_msgB ⟨hok, hmay1⟩
  have hS2 : msgB c awS = none := msgB_f (.inr hmay2)
  have hgn : (okC c && goodN c awL) = true := by
    have h1 : risingB c awL.keys = true := by
      unfold risingB badKey
      simp [awL]
      omega
    have h2 : leafG c awL = true := by
      unfold leafG longV
      simp [awL]
      omega
    rw [hok]; unfold goodN; rw [h1, h2]; rfl
  have hcb := codeB_len (good_f hgn)
  have hlb := longL_bd c
  have hcn : codeN c awL = some (codeB c awL) := by unfold codeN; rw [if_pos hgn]
  obtain ⟨Y, hY⟩ : ∃ Y, Y = codeB c awL := ⟨_, rfl⟩
  rw [← hY] at hcn hcb
  have hY2 : Y.length ≤ 2147483648 := by omega
  have hY3 : parseN c Y = some awL := by rw [hY]; exact parse_code hgn
  have hY4 : (codeN c awL).getD [] = Y := by rw [hcn]; rfl
  have hY5 : (codeN c awL).isSome = true := by rw [hcn]; rfl
  (repeat (first | ((with_reducible apply zr_seq)) | ((with_reducible apply zr_region); (try simp only [List.append_eq, List.cons_append, List.nil_append])) | ((with_reducible apply zo_end)) | ((with_reducible apply zs_load_refAll); (exact rfl); (exact rfl); (exact sh_of rfl); (exact rfl)) | ((with_reducible apply (zs_allocRef (t := 1))); (exact el_of rfl); (simp [oneD, Value.oneCell']); (exact sh_of rfl); (exact rfl); (intro _; exact rfl); (exact rfl); (simp [cellsD, oneD, Value.oneCell', msgD, nodeD, pairD, cfgD, rdD]))))
  (try ((with_reducible apply zs_yes); exact rfl; exact rfl; (first | assumption | exact rfl))); refine zo_val rfl rfl (by decide) (zv_buildSlice (e := 5) (xs := [.const (.int .u8 97)]) rfl rfl zq24 zq26 rfl (by simp [cellsD, oneD, Value.oneCell']) (by decide) fun tq htq htq0 => ?_); (try ((with_reducible apply zs_yes); exact rfl; exact rfl; (first | assumption | exact rfl))); refine zo_val rfl rfl (by decide) (zv_conv_bytes rfl zq26 Try.underlying5 rfl (by simp) (by decide) (by simp) ?_); rw [St.setT_back htq]
  skip
  (try ((with_reducible apply zs_yes); exact rfl; exact rfl; (first | assumption | exact rfl))); refine zo_val rfl rfl (by decide) (zv_buildSlice (e := 5) (xs := [.const (.int .u8 98), .const (.int .u8 99)]) rfl rfl zq24 zq26 rfl (by simp [cellsD, oneD, Value.oneCell']) (by decide) fun tq htq htq0 => ?_); (try ((with_reducible apply zs_yes); exact rfl; exact rfl; (first | assumption | exact rfl))); refine zo_val rfl rfl (by decide) (zv_conv_bytes rfl zq26 Try.underlying5 rfl (by simp) (by decide) (by simp) ?_); rw [St.setT_back htq]
  refine zo_as 17 (.row (bytesD [97]) 1 0) rfl zq2 ?_
  refine zo_as 19 (.row (bytesD [98, 99]) 1 0) rfl zq2 ?_
  (repeat (first | ((with_reducible apply zr_seq)) | ((with_reducible apply zr_region); (try simp only [List.append_eq, List.cons_append, List.nil_append])) | ((with_reducible apply zo_end)) | ((with_reducible apply zs_move); (exact rfl); (exact rfl)) | ((with_reducible apply zs_assign); (exact rfl); (exact rfl)) | ((with_reducible apply zs_extract); (exact rfl); (exact rfl); (exact rfl)) | ((with_reducible apply zs_load_refAll); (exact rfl); (exact rfl); (exact sh_of rfl); (exact rfl)) | ((with_reducible apply zs_build); (exact rfl); (exact el_of rfl); (exact st_of rfl); (exact rfl); (first | (simp only [fillD, cellsD, cells_orow, List.take_zero, List.take_succ_cons, List.take_nil, List.drop_succ_cons, List.drop_zero, List.drop_nil, List.nil_append, List.cons_append, List.append_nil, Nat.zero_add, Nat.reduceAdd, List.length_cons, List.length_nil]; exact rfl) | ((repeat (apply fillD_cons; exact rfl; (first | exact rfl | simp [cells_orow]); (exact Nat.le_of_ble_eq_true rfl); (simp only [cells_orow, cD_int, cD_bool, cD_float, cD_nil, cD_ptr0, cD_str, cD_row, cD_mrow, cD_ptr, cD_ref, cD_fn, cD_agg, List.take_zero, List.take_succ_cons, List.take_nil, List.drop_succ_cons, List.drop_zero, List.drop_nil, List.nil_append, List.cons_append, List.append_nil, Nat.zero_add, Nat.reduceAdd]; exact rfl))); exact rfl) | exact rfl)) | ((with_reducible apply (zs_callQ nmsg_pf cl_15)); (exact rfl); (exact rfl); ((repeat (first | exact DLes.nil | (apply DLes.cons; first | exact DLe.refl _ | exact DLe.nilB | exact DLe.nilR | exact DLe.nilI | exact dle_mnone | exact dle_nnone | exact dle_awC | exact dle_awM | exact dle_awS | exact dle_awL)))); (first | exact trivial | assumption | ((repeat' (with_reducible refine And.intro ?_ ?_)) <;> first | assumption | omega | exact trivial | (simp; done) | (simp; omega))))))
  rw [← hX, hX1]
  (repeat (first | ((with_reducible apply zr_seq)) | ((with_reducible apply zr_region); (try simp only [List.append_eq, List.cons_append, List.nil_append])) | ((with_reducible apply zo_end)) | ((with_reducible apply zs_move); (exact rfl); (exact rfl)) | ((with_reducible apply zs_assign); (exact rfl); (exact rfl)) | ((with_reducible apply zs_extract); (exact rfl); (exact rfl); (exact rfl)) | ((with_reducible apply zs_load_refAll); (exact rfl); (exact rfl); (exact sh_of rfl); (exact rfl)) | ((with_reducible apply (zs_allocRef (t := 4))); (exact el_of rfl); (simp [oneD, Value.oneCell']); (exact sh_of rfl); (exact rfl); (intro _; exact rfl); (exact rfl); (simp [cellsD, oneD, Value.oneCell', msgD, nodeD, pairD, cfgD, rdD])) | ((with_reducible apply (zs_callQ nparse_pf cl_16)); (exact rfl); (exact rfl); ((repeat (first | exact DLes.nil | (apply DLes.cons; first | exact DLe.refl _ | exact DLe.nilB | exact DLe.nilR | exact DLe.nilI | exact dle_mnone | exact dle_nnone | exact dle_awC | exact dle_awM | exact dle_awS | exact dle_awL)))); (first | exact trivial | assumption | ((repeat' (with_reducible refine And.intro ?_ ?_)) <;> first | assumption | omega | exact trivial | (simp; done) | (simp; omega))))))
  rw [hX3, show (some awM).getD (0, [], []) = awM from rfl, show (some awM).isSome = true from rfl]
  skip
  (try ((with_reducible apply zs_yes); exact rfl; exact rfl; (first | assumption | exact rfl))); refine zo_val rfl rfl (by decide) (zv_buildSlice (e := 5) (xs := [.const (.int .u8 115), .const (.int .u8 104), .const (.int .u8 111), .const (.int .u8 114), .const (.int .u8 116)]) rfl rfl zq24 zq26 rfl (by simp [cellsD, oneD, Value.oneCell']) (by decide) fun tq htq htq0 => ?_); (try ((with_reducible apply zs_yes); exact rfl; exact rfl; (first | assumption | exact rfl))); refine zo_val rfl rfl (by decide) (zv_conv_bytes rfl zq26 Try.underlying5 rfl (by simp) (by decide) (by simp) ?_); rw [St.setT_back htq]
  refine zo_as 33 (.row (bytesD [115, 104, 111, 114, 116]) 1 0) rfl zq2 ?_
  (repeat (first | ((with_reducible apply zr_seq)) | ((with_reducible apply zr_region); (try simp only [List.append_eq, List.cons_append, List.nil_append])) | ((with_reducible apply zo_end)) | ((with_reducible apply zs_move); (exact rfl); (exact rfl)) | ((with_reducible apply zs_assign); (exact rfl); (exact rfl)) | ((with_reducible apply zs_extract); (exact rfl); (exact rfl); (exact rfl)) | ((with_reducible apply zs_load_refAll); (exact rfl); (exact rfl); (exact sh_of rfl); (exact rfl)) | ((with_reducible apply zs_build); (exact rfl); (exact el_of rfl); (exact st_of rfl); (exact rfl); (first | (simp only [fillD, cellsD, cells_orow, List.take_zero, List.take_succ_cons, List.take_nil, List.drop_succ_cons, List.drop_zero, List.drop_nil, List.nil_append, List.cons_append, List.append_nil, Nat.zero_add, Nat.reduceAdd, List.length_cons, List.length_nil]; exact rfl) | ((repeat (apply fillD_cons; exact rfl; (first | exact rfl | simp [cells_orow]); (exact Nat.le_of_ble_eq_true rfl); (simp only [cells_orow, cD_int, cD_bool, cD_float, cD_nil, cD_ptr0, cD_str, cD_row, cD_mrow, cD_ptr, cD_ref, cD_fn, cD_agg, List.take_zero, List.take_succ_cons, List.take_nil, List.drop_succ_cons, List.drop_zero, List.drop_nil, List.nil_append, List.cons_append, List.append_nil, Nat.zero_add, Nat.reduceAdd]; exact rfl))); exact rfl) | exact rfl)) | ((with_reducible apply (zs_callQ nmsg_pf cl_15)); (exact rfl); (exact rfl); ((repeat (first | exact DLes.nil | (apply DLes.cons; first | exact DLe.refl _ | exact DLe.nilB | exact DLe.nilR | exact DLe.nilI | exact dle_mnone | exact dle_nnone | exact dle_awC | exact dle_awM | exact dle_awS | exact dle_awL)))); (first | exact trivial | assumption | ((repeat' (with_reducible refine And.intro ?_ ?_)) <;> first | assumption | omega | exact trivial | (simp; done) | (simp; omega))))))
  rw [hS2, show (none : Option Bs).isSome = false from rfl]
  (try ((with_reducible apply zs_yes); exact rfl; exact rfl; (first | assumption | exact rfl))); refine zo_val rfl rfl (by decide) (zv_buildSlice (e := 5) (xs := [.const (.int .u8 107)]) rfl rfl zq24 zq26 rfl (by simp [cellsD, oneD, Value.oneCell']) (by decide) fun tq htq htq0 => ?_); (try ((with_reducible apply zs_yes); exact rfl; exact rfl; (first | assumption | exact rfl))); refine zo_val rfl rfl (by decide) (zv_conv_bytes rfl zq26 Try.underlying5 rfl (by simp) (by decide) (by simp) ?_); rw [St.setT_back htq]
  refine zo_as 41 (.row (bytesD [107]) 1 0) rfl zq2 ?_
  (repeat (first | ((with_reducible apply zr_seq)) | ((with_reducible apply zr_region); (try simp only [List.append_eq, List.cons_append, List.nil_append])) | ((with_reducible apply zo_end)) | ((with_reducible apply zs_move); (exact rfl); (exact rfl)) | ((with_reducible apply zs_assign); (exact rfl); (exact rfl)) | ((with_reducible apply zs_extract); (exact rfl); (exact rfl); (exact rfl)) | ((with_reducible apply zs_load_refAll); (exact rfl); (exact rfl); (exact sh_of rfl); (exact rfl)) | ((with_reducible apply zs_build); (exact rfl); (exact el_of rfl); (exact st_of rfl); (exact rfl); (first | (simp only [fillD, cellsD, cells_orow, List.take_zero, List.take_succ_cons, List.take_nil, List.drop_succ_cons, List.drop_zero, List.drop_nil, List.nil_append, List.cons_append, List.append_nil, Nat.zero_add, Nat.reduceAdd, List.length_cons, List.length_nil]; exact rfl) | ((repeat (apply fillD_cons; exact rfl; (first | exact rfl | simp [cells_orow]); (exact Nat.le_of_ble_eq_true rfl); (simp only [cells_orow, cD_int, cD_bool, cD_float, cD_nil, cD_ptr0, cD_str, cD_row, cD_mrow, cD_ptr, cD_ref, cD_fn, cD_agg, List.take_zero, List.take_succ_cons, List.take_nil, List.drop_succ_cons, List.drop_zero, List.drop_nil, List.nil_append, List.cons_append, List.append_nil, Nat.zero_add, Nat.reduceAdd]; exact rfl))); exact rfl) | exact rfl)) | ((with_reducible apply (zs_callQ code_pf cl_12)); (exact rfl); (exact rfl); ((repeat (first | exact DLes.nil | (apply DLes.cons; first | exact DLe.refl _ | exact DLe.nilB | exact DLe.nilR | exact DLe.nilI | exact dle_mnone | exact dle_nnone | exact dle_awC | exact dle_awM | exact dle_awS | exact dle_awL)))); (first | exact trivial | assumption | ((repeat' (with_reducible refine And.intro ?_ ?_)) <;> first | assumption | omega | exact trivial | (simp; done) | (simp; omega)))) | ((with_reducible apply (zs_lit (t := 42) [.tmp 41])); (exact rfl); (exact rfl); (exact rfl); (exact rfl); (exact un_sl rfl); (exact el_of rfl); (simp only [List.map_cons, List.map_nil, cellsD]; exact rfl); ((repeat (first | exact lit_nil | (apply lit_cons; exact rfl; (repeat (first | exact one_nil | (apply one_cons; (first | exact rfl | exact one_orow _ _ _)))))))); (decide)) | ((with_reducible apply (zs_lit (t := 43) [.const (.slice none 0 0)])); (exact rfl); (exact rfl); (exact rfl); (exact rfl); (exact un_sl rfl); (exact el_of rfl); (simp only [List.map_cons, List.map_nil, cellsD]; exact rfl); ((repeat (first | exact lit_nil | (apply lit_cons; exact rfl; (repeat (first | exact one_nil | (apply one_cons; (first | exact rfl | exact one_orow _ _ _)))))))); (decide))))
  rw [hY4, hY5]
  (repeat (first | ((with_reducible apply zr_seq)) | ((with_reducible apply zr_region); (try simp only [List.append_eq, List.cons_append, List.nil_append])) | ((with_reducible apply zo_end)) | ((with_reducible apply zs_yes); (exact rfl); (exact rfl); (first | assumption | exact rfl)) | ((with_reducible apply zs_move); (exact rfl); (exact rfl)) | ((with_reducible apply zs_assign); (exact rfl); (exact rfl)) | ((with_reducible apply zs_extract); (exact rfl); (exact rfl); (exact rfl)) | ((with_reducible apply zs_pick_t); (exact rfl); (exact rfl); (first | assumption | exact rfl); (exact rfl)) | ((with_reducible apply zs_load_refAll); (exact rfl); (exact rfl); (exact sh_of rfl); (exact rfl)) | ((with_reducible apply (zs_allocRef (t := 10))); (exact el_of rfl); (simp [oneD, Value.oneCell']); (exact sh_of rfl); (exact rfl); (intro _; exact rfl); (exact rfl); (simp [cellsD, oneD, Value.oneCell', msgD, nodeD, pairD, cfgD, rdD])) | ((with_reducible apply (zs_callQ parse_pf cl_26)); (exact rfl); (exact rfl); ((repeat (first | exact DLes.nil | (apply DLes.cons; first | exact DLe.refl _ | exact DLe.nilB | exact DLe.nilR | exact DLe.nilI | exact dle_mnone | exact dle_nnone | exact dle_awC | exact dle_awM | exact dle_awS | exact dle_awL)))); (first | exact trivial | assumption | ((repeat' (with_reducible refine And.intro ?_ ?_)) <;> first | assumption | omega | exact trivial | (simp; done) | (simp; omega))))))
  rw [hY3, show (some awL).getD noNode = awL from rfl, show (some awL).isSome = true from rfl]
  skip
  (try ((with_reducible apply zs_yes); exact rfl; exact rfl; (first | assumption | exact rfl))); refine zo_val rfl rfl (by decide) (zv_buildSlice (e := 5) (xs := [.const (.int .u8 97)]) rfl rfl zq24 zq26 rfl (by simp [cellsD, oneD, Value.oneCell']) (by decide) fun tq htq htq0 => ?_); (try ((with_reducible apply zs_yes); exact rfl; exact rfl; (first | assumption | exact rfl))); refine zo_val rfl rfl (by decide) (zv_conv_bytes rfl zq26 Try.underlying5 rfl (by simp) (by decide) (by simp) ?_); rw [St.setT_back htq]
  refine zo_as 61 (.row (bytesD [97]) 1 0) rfl zq2 ?_
  (repeat (first | ((with_reducible apply zs_yes); (exact rfl); (exact rfl); (first | assumption | exact rfl))))
  (try ((with_reducible apply zs_yes); exact rfl; exact rfl; (first | assumption | exact rfl))); refine zo_val rfl rfl (by decide) (zv_buildSlice (e := 5) (xs := [.const (.int .u8 98), .const (.int .u8 99)]) rfl rfl zq24 zq26 rfl (by simp [cellsD, oneD, Value.oneCell']) (by decide) fun tq htq htq0 => ?_); (try ((with_reducible apply zs_yes); exact rfl; exact rfl; (first | assumption | exact rfl))); refine zo_val rfl rfl (by decide) (zv_conv_bytes rfl zq26 Try.underlying5 rfl (by simp) (by decide) (by simp) ?_); rw [St.setT_back htq]
  refine zo_as 63 (.row (bytesD [98, 99]) 1 0) rfl zq2 ?_
  have g1 : decide (awM = awM) = true := by decide
  have g2 : decide (((Y.length : Nat) : Int) = longL c) = true := decide_eq_true hcb
  (repeat (first | ((with_reducible apply zo_end)) | ((with_reducible apply zs_yes); (exact rfl); (exact rfl); (first | assumption | exact rfl)) | ((with_reducible apply zs_move); (exact rfl); (exact rfl)) | ((with_reducible apply zs_assign); (exact rfl); (exact rfl)) | ((with_reducible apply zs_eql); (exact rfl); (exact rfl); (exact rfl)) | ((with_reducible apply zs_not); (exact rfl); (exact rfl)) | ((with_reducible apply zs_pick_t); (exact rfl); (exact rfl); (first | assumption | exact rfl); (exact rfl)) | ((with_reducible apply zs_lenB); (exact rfl); (exact rfl); (exact un_sl rfl)) | ((with_reducible apply zs_len); (exact rfl); (exact rfl); (exact un_sl rfl)) | ((with_reducible apply zs_field_ref); (exact rfl); (exact rfl); (exact fld_of rfl)) | ((with_reducible apply zs_load_ref); (exact rfl); (exact rfl); (exact sh_of rfl); (exact rfl)) | ((with_reducible apply zs_load_refAll); (exact rfl); (exact rfl); (exact sh_of rfl); (exact rfl)) | ((with_reducible apply zs_build); (exact rfl); (exact el_of rfl); (exact st_of rfl); (exact rfl); (first | (simp only [fillD, cellsD, cells_orow, List.take_zero, List.take_succ_cons, List.take_nil, List.drop_succ_cons, List.drop_zero, List.drop_nil, List.nil_append, List.cons_append, List.append_nil, Nat.zero_add, Nat.reduceAdd, List.length_cons, List.length_nil]; exact rfl) | ((repeat (apply fillD_cons; exact rfl; (first | exact rfl | simp [cells_orow]); (exact Nat.le_of_ble_eq_true rfl); (simp only [cells_orow, cD_int, cD_bool, cD_float, cD_nil, cD_ptr0, cD_str, cD_row, cD_mrow, cD_ptr, cD_ref, cD_fn, cD_agg, List.take_zero, List.take_succ_cons, List.take_nil, List.drop_succ_cons, List.drop_zero, List.drop_nil, List.nil_append, List.cons_append, List.append_nil, Nat.zero_add, Nat.reduceAdd]; exact rfl))); exact rfl) | exact rfl)) | ((with_reducible apply (zs_callQ nlong_pf cl_13)); (exact rfl); (exact rfl); ((repeat (first | exact DLes.nil | (apply DLes.cons; first | exact DLe.refl _ | exact DLe.nilB | exact DLe.nilR | exact DLe.nilI | exact dle_mnone | exact dle_nnone | exact dle_awC | exact dle_awM | exact dle_awS | exact dle_awL)))); (first | exact trivial | assumption | ((repeat' (with_reducible refine And.intro ?_ ?_)) <;> first | assumption | omega | exact trivial | (simp; done) | (simp; omega)))) | ((with_reducible apply (zs_callQ samem_pf cl_20)); (exact rfl); (exact rfl); ((repeat (first | exact DLes.nil | (apply DLes.cons; first | exact DLe.refl _ | exact DLe.nilB | exact DLe.nilR | exact DLe.nilI | exact dle_mnone | exact dle_nnone | exact dle_awC | exact dle_awM | exact dle_awS | exact dle_awL)))); (first | exact trivial | assumption | ((repeat' (with_reducible refine And.intro ?_ ?_)) <;> first | assumption | omega | exact trivial | (simp; done) | (simp; omega)))) | ((with_reducible apply zr_retZ); (exact rfl); (repeat (first | exact resD_nil _ _ _ | ((with_reducible apply resD_tmp); (exact rfl)) | ((with_reducible apply resD_cell_agg); (exact rfl); (exact sh_of rfl); (first | assumption | exact St.setH_self _ _ _ | exact Sep.at_ (i := 0) zq27 rfl | exact Sep.at_ (i := 1) zq27 rfl | exact Sep.at_ (i := 2) zq27 rfl | exact Sep.at_ (i := 3) zq27 rfl | exact Sep.at_ (i := 4) zq27 rfl | exact Sep.at_ (i := 5) zq27 rfl | exact Sep.at_ (i := 6) zq27 rfl); (exact rfl)) | ((with_reducible apply resD_cell); (exact rfl); (exact sh_of rfl); (first | assumption | exact St.setH_self _ _ _ | exact Sep.at_ (i := 0) zq27 rfl | exact Sep.at_ (i := 1) zq27 rfl | exact Sep.at_ (i := 2) zq27 rfl | exact Sep.at_ (i := 3) zq27 rfl | exact Sep.at_ (i := 4) zq27 rfl | exact Sep.at_ (i := 5) zq27 rfl | exact Sep.at_ (i := 6) zq27 rfl); (exact rfl)))); (simp only [resOf]))))
  rw [g2]
  exact KE.mk st hS.ext hK
end Go.Proofs.ZtLe
namespace Go.Proofs.ZtLe
open Go.RowKit Go.Proofs Go.Proofs.Zm
set_option linter.unusedVariables false
set_option linter.unusedSimpArgs false
set_option maxHeartbeats 20000000
set_option maxRecDepth 100000
attribute [local irreducible] ZWp ZOps ZPure ZPure0 ZVal ZOp SoundF

/-! ### a byte that is turned -/
theorem bbyteC_set (l : List UInt8) (j : Nat) (b : UInt8) : (byteC l).set j (.v (.int .u8 (b.toNat : Int))) = byteC (l.set j b) := by simp [byteC, List.map_set]
/-! ### NodeMsgs -/
attribute [local irreducible] msgB parseM okC
def msgsSpec : ZSpec := fun args st K => ∃ (c : CfgV) (m : MsgV) (b : Bs) (tb : Nat) (n at_ : Int) (by_ : UInt8), args = [.agg (cfgD c), .agg (msgD m), .row (bytesD b) 1 tb, .v (.int .i64 n), .v (.int .i64 at_), .v (.int .u8 (by_.toNat : Int))] ∧
  (m.2.1.length ≤ 140737488355328 ∧ m.2.2.length ≤ 140737488355328 ∧ b.length ≤ 140737488355328) ∧ K (.v (.bool true)) st
end Go.Proofs.ZtLe
