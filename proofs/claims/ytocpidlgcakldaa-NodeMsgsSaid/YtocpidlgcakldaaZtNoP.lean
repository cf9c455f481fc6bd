/- A part of the proof of NodeMsgs: walks of the functions that it reaches. No condition. -/
import Derived.Test.YtocpidlgcakldaaZtNoG
import Derived.Test.YtocpidlgcakldaaZmAuto
namespace Go.Proofs.ZtLe
open Go.RowKit Go.Proofs Go.Proofs.Zm
set_option linter.unusedVariables false
set_option linter.unusedSimpArgs false
set_option maxHeartbeats 20000000
set_option maxRecDepth 100000
attribute [local irreducible] ZWp ZOps ZPure ZPure0 ZVal ZOp SoundF

/-! ### numbers and texts in bytes -/
theorem nbyte (n : Int) : ((UInt8.ofNat (n % 256).toNat).toNat : Int) = n % 256 := by simp; omega
theorem nnum_append (l m : Bs) : num (l ++ m) = num l + 256 ^ l.length * num m := by
  induction l with
  | nil => simp [num]
  | cons b l ih => simp only [List.cons_append, num, ih, List.length_cons, Int.pow_succ, Int.mul_add, Int.add_assoc, Int.mul_comm (256 ^ l.length) 256, Int.mul_assoc]
theorem nnum_put (n : Int) (k : Nat) (h : 0 ≤ n) : num (put n k) = n % 256 ^ k := by
  induction k with
  | zero => simp [put, num]
  | succ k ih =>
    unfold put
    rw [nnum_append, ih, put_length]
    simp only [num, nbyte, Int.mul_zero, Int.add_zero]
    have hp : (256 : Int) ^ k ≠ 0 := by have : (0 : Int) < 256 ^ k := Int.pow_pos (by decide); omega
    rw [Int.pow_succ]
    have h1 := Int.emod_emod_of_dvd n (show (256 : Int) ^ k ∣ 256 ^ k * 256 from ⟨256, rfl⟩)
    have h2 : n % (256 ^ k * 256) / 256 ^ k = n / 256 ^ k % 256 := by
      rw [Int.emod_def n (256 ^ k * 256), Int.emod_def (n / 256 ^ k) 256, Int.ediv_ediv_of_nonneg (Int.le_of_lt (Int.pow_pos (by decide))), Int.mul_assoc, Int.sub_eq_add_neg, ← Int.mul_neg, Int.add_mul_ediv_left _ _ hp]
      omega
    have h3 := Int.mul_ediv_add_emod (n % (256 ^ k * 256)) (256 ^ k)
    rw [h1, h2] at h3
    omega
theorem nput_len (n k : Int) (h0 : 0 ≤ k) (h1 : k ≤ 8) : (putB n k).length = k.toNat := by unfold putB; rw [if_pos ⟨h0, h1⟩, put_length]
theorem nput2_len (n : Int) : (putB n 2).length = 2 := nput_len n 2 (by omega) (by omega)
theorem nput4_len (n : Int) : (putB n 4).length = 4 := nput_len n 4 (by omega) (by omega)
theorem nget_put {n k : Int} (h0 : 0 ≤ n) (hk : 0 ≤ k ∧ k ≤ 8) (h1 : n < 256 ^ k.toNat) : get (putB n k) = n := by
  unfold get
  rw [List.take_of_length_le (by rw [nput_len n k hk.1 hk.2]; omega)]
  unfold putB
  rw [if_pos hk, nnum_put _ _ h0]
  exact Int.emod_eq_of_lt h0 h1
theorem nget_put2 {n : Int} (h0 : 0 ≤ n) (h1 : n < 65536) : get (putB n 2) = n := nget_put h0 (by omega) h1
theorem nget_put4 {n : Int} (h0 : 0 ≤ n) (h1 : n < 4294967296) : get (putB n 4) = n := nget_put h0 (by omega) h1
theorem zero_rep (k : Nat) : zero (List.replicate k 0) = true := zero_of _ fun j hj => by
  rw [List.length_replicate] at hj
  rw [List.getD_eq_getElem?_getD, List.getElem?_replicate, if_pos hj]; rfl
def padB (l : Bs) (most : Int) : Bs := (padL l most).getD []
theorem padB_eq {l : Bs} {most : Int} (h : (0 ≤ most ∧ most ≤ 1000) ∧ (l.length : Int) ≤ most) : padB l most = putB l.length 2 ++ l ++ List.replicate (most.toNat - l.length) 0 := by
  unfold padB; rw [padL_some h]; rfl
theorem padB_len {l : Bs} {most : Int} (h : (0 ≤ most ∧ most ≤ 1000) ∧ (l.length : Int) ≤ most) : ((padB l most).length : Int) = most + 2 := by
  rw [padB_eq h, List.length_append, List.length_append, nput2_len, List.length_replicate]; omega
theorem unpad_padB {l : Bs} {most : Int} (h : (0 ≤ most ∧ most ≤ 1000) ∧ (l.length : Int) ≤ most) : unpadL (padB l most) most = some l := by
  have hl := padB_len h
  have h2 : (padB l most).take 2 = putB (l.length : Nat) 2 := by
    rw [padB_eq h, List.append_assoc, List.take_append_of_le_length (by rw [nput2_len]; omega), List.take_of_length_le (by rw [nput2_len]; omega)]
  have hd : (padB l most).drop (2 + l.length) = List.replicate (most.toNat - l.length) 0 := by
    rw [padB_eq h, List.drop_append_of_le_length (by simp [nput2_len]), List.drop_eq_nil_of_le (by simp [nput2_len]), List.nil_append]
  have ht : ((padB l most).take (2 + l.length)).drop 2 = l := by
    rw [padB_eq h, List.take_append_of_le_length (by simp [nput2_len]), List.take_of_length_le (by simp [nput2_len]), List.drop_append_of_le_length (by rw [nput2_len]; omega), List.drop_eq_nil_of_le (by rw [nput2_len]; omega), List.nil_append]
  unfold unpadL
  rw [if_pos (by omega), h2, nget_put2 (by omega) (by omega), Int.toNat_natCast, hd, ht, if_pos ⟨by omega, zero_rep _⟩]

/-! ### a node's bytes -/
def kvB (c : CfgV) (n : NodeV) (i : Nat) : Bs := padB (n.keys.getD i []) c.keyMax ++ (bif n.leaf then padB (n.vals.getD i []) c.valMax else [])
def keysB (c : CfgV) (n : NodeV) (k : Nat) : Bs := (List.range k).flatMap (kvB c n)
def kidsB (ids : List Int) : Bs := ids.flatMap fun id => putB id 4
def msB (c : CfgV) (ms : List MsgV) : Bs := ms.flatMap fun m => (msgB c m).getD []
def cntN (n : NodeV) : Nat := bif n.leaf then n.keys.length else n.kids.length
def headB (n : NodeV) : Bs := [bif n.leaf then 1 else 2] ++ putB (cntN n) 2 ++ putB n.msgs.length 2
def bodyB (c : CfgV) (n : NodeV) : Bs := headB n ++ keysB c n n.keys.length ++ kidsB n.kids ++ msB c n.msgs
def codeB (c : CfgV) (n : NodeV) : Bs := bodyB c n ++ List.replicate ((longL c).toNat - (bodyB c n).length) 0
def codeN (c : CfgV) (n : NodeV) : Option Bs := if (okC c && goodN c n) = true then some (codeB c n) else none
theorem keysB_succ (c : CfgV) (n : NodeV) (k : Nat) : keysB c n (k + 1) = keysB c n k ++ kvB c n k := by
  unfold keysB; rw [List.range_succ, List.flatMap_append]; simp
theorem headB_len (n : NodeV) : (headB n).length = 5 := by unfold headB; rw [List.length_append, List.length_append, nput2_len, nput2_len]; rfl
theorem kidsB_len (l : List Int) : (kidsB l).length = 4 * l.length := by
  unfold kidsB
  induction l with
  | nil => rfl
  | cons a l ih => rw [List.flatMap_cons, List.length_append, nput4_len, ih, List.length_cons]; omega
theorem kidsB_snoc {l : List Int} {i : Nat} {a : Int} (h : l.take (i + 1) = l.take i ++ [a]) : kidsB (l.take (i + 1)) = kidsB (l.take i) ++ putB a 4 := by
  unfold kidsB; rw [h, List.flatMap_append]; simp
theorem msB_snoc {c : CfgV} {l : List MsgV} {i : Nat} {a : MsgV} (h : l.take (i + 1) = l.take i ++ [a]) : msB c (l.take (i + 1)) = msB c (l.take i) ++ (msgB c a).getD [] := by
  unfold msB; rw [h, List.flatMap_append]; simp
theorem msgB_len {c : CfgV} {m : MsgV} (h : okC c = true ∧ mayL c m = true) : (((msgB c m).getD []).length : Int) = mlong c := by
  obtain ⟨h1, h2, _⟩ := okC_t h.1
  have hl := may_len h.2
  rw [msgB_t h]
  show (([kb m] ++ padB m.2.1 c.keyMax ++ padB m.2.2 c.valMax).length : Int) = _
  have p1 := padB_len ⟨h1, hl.1⟩
  have p2 := padB_len ⟨h2, hl.2⟩
  rw [List.length_append, List.length_append]
  unfold mlong
  simp only [List.length_singleton]
  omega
/-- What is told of a node that is one. -/
structure LeafF (c : CfgV) (n : NodeV) : Prop where
  klen : (n.keys.length : Int) ≤ c.l
  vlen : n.vals.length = n.keys.length
  kids : n.kids = []
  msgs : n.msgs = []
  val : ∀ v ∈ n.vals, (v.length : Int) ≤ c.valMax
structure InnerF (c : CfgV) (n : NodeV) : Prop where
  k1 : 1 ≤ n.kids.length
  kf : (n.kids.length : Int) ≤ c.f
  klen : n.keys.length + 1 = n.kids.length
  vals : n.vals = []
  mlen : (n.msgs.length : Int) ≤ c.m
  kid : ∀ k ∈ n.kids, 1 ≤ k ∧ k ≤ 2147483647
  msg : ∀ m ∈ n.msgs, m.1 ≠ 0 ∧ mayL c m = true
structure GoodF (c : CfgV) (n : NodeV) : Prop where
  ok : okC c = true
  key : ∀ k ∈ n.keys, (k.length : Int) ≤ c.keyMax
  lf : n.leaf = true → LeafF c n
  inn : n.leaf = false → InnerF c n
theorem rising_key {c : CfgV} {keys : List Bs} (h : risingB c keys = true) : ∀ k ∈ keys, (k.length : Int) ≤ c.keyMax := fun k hk => by
  obtain ⟨i, hi, rfl⟩ := List.getElem_of_mem hk
  unfold risingB at h
  have := List.all_eq_true.1 h i (List.mem_range.2 hi)
  unfold badKey at this
  rw [getD_k (List.getElem?_eq_getElem hi)] at this
  simp only [Bool.not_eq_true', Bool.or_eq_false_iff, decide_eq_false_iff_not] at this
  omega
theorem good_f {c : CfgV} {n : NodeV} (h : (okC c && goodN c n) = true) : GoodF c n := by
  unfold goodN at h
  simp only [Bool.and_eq_true] at h
  obtain ⟨h0, h1, h2⟩ := h
  refine ⟨h0, rising_key h1, fun hl => ?_, fun hl => ?_⟩
  · rw [hl] at h2
    unfold leafG at h2
    simp only [Bool.cond_true, Bool.and_eq_true, decide_eq_true_eq, Bool.not_eq_true', List.any_eq_false] at h2
    obtain ⟨⟨⟨a1, a2⟩, a3⟩, a4⟩ := h2
    refine ⟨a1, by omega, List.length_eq_zero_iff.1 (by omega), List.length_eq_zero_iff.1 (by omega), fun v hv => ?_⟩
    have := a4 v hv
    unfold longV at this
    simp only [decide_eq_true_eq] at this
    omega
  · rw [hl] at h2
    unfold innerG at h2
    simp only [Bool.cond_false, Bool.and_eq_true, decide_eq_true_eq, Bool.not_eq_true', List.any_eq_false] at h2
    obtain ⟨⟨⟨⟨⟨⟨a1, a2⟩, a3⟩, a4⟩, a5⟩, a6⟩, a7⟩ := h2
    refine ⟨by omega, a2, by omega, List.length_eq_zero_iff.1 (by omega), a5, fun k hk => ?_, fun m hm => ?_⟩
    · have := a6 k hk
      unfold badKid at this
      simp only [Bool.or_eq_true, decide_eq_true_eq] at this
      omega
    · have := a7 m hm
      unfold badMsg at this
      simp only [Bool.or_eq_true, decide_eq_true_eq, Bool.not_eq_true', not_or] at this
      exact ⟨this.1, by simpa using this.2⟩
theorem mem_getD {l : List Bs} {i : Nat} (h : i < l.length) : l.getD i [] ∈ l := by rw [getD_k (List.getElem?_eq_getElem h)]; exact List.getElem_mem h
theorem kvB_len {c : CfgV} {n : NodeV} (h : GoodF c n) {i : Nat} (hi : i < n.keys.length) : ((kvB c n i).length : Int) = (c.keyMax + 2) + bif n.leaf then c.valMax + 2 else 0 := by
  obtain ⟨h1, h2, _⟩ := okC_t h.ok
  unfold kvB
  have p1 := padB_len ⟨h1, h.key _ (mem_getD hi)⟩
  rw [List.length_append]
  cases hl : n.leaf
  · simp only [Bool.cond_false, List.length_nil]; omega
  · have hf := h.lf hl
    have p2 := padB_len ⟨h2, hf.val _ (mem_getD (by rw [hf.vlen]; exact hi))⟩
    simp only [Bool.cond_true]; omega
theorem keysB_len {c : CfgV} {n : NodeV} (h : GoodF c n) : ∀ {k : Nat}, k ≤ n.keys.length → ((keysB c n k).length : Int) = (k : Int) * ((c.keyMax + 2) + bif n.leaf then c.valMax + 2 else 0)
  | 0, _ => by simp [keysB]
  | k + 1, hk => by
    have ih := keysB_len h (k := k) (by omega)
    have h1 := kvB_len h (i := k) (by omega)
    rw [keysB_succ, List.length_append, Int.natCast_add, ih, h1, Int.natCast_add, Int.add_mul]
    simp
theorem keysB_bd {c : CfgV} {n : NodeV} (h : GoodF c n) {k : Nat} (hk : k ≤ n.keys.length) : (keysB c n k).length ≤ 2100000 := by
  obtain ⟨h1, h2, h3, h4, h5⟩ := okC_t h.ok
  have e := keysB_len h hk
  have hn : (n.keys.length : Int) ≤ 1000 := by
    cases hl : n.leaf
    · have a := (h.inn hl).kf; have b := (h.inn hl).klen; omega
    · have a := (h.lf hl).klen; omega
  have hb : 0 ≤ ((c.keyMax + 2) + bif n.leaf then c.valMax + 2 else 0) ∧ ((c.keyMax + 2) + bif n.leaf then c.valMax + 2 else 0) ≤ 2004 := by
    cases n.leaf
    · simp only [Bool.cond_false]; omega
    · simp only [Bool.cond_true]; omega
  have := mul_bd (show 0 ≤ (k : Int) ∧ (k : Int) ≤ 1000 by omega) hb
  omega
theorem msB_len {c : CfgV} (hok : okC c = true) : ∀ {l : List MsgV}, (∀ m ∈ l, mayL c m = true) → ((msB c l).length : Int) = (l.length : Int) * mlong c
  | [], _ => by simp [msB]
  | m :: l, h => by
    have ih := msB_len hok (l := l) fun x hx => h x (by simp [hx])
    have h1 := msgB_len ⟨hok, h m (by simp)⟩
    unfold msB at ih ⊢
    rw [List.flatMap_cons, List.length_append, Int.natCast_add, ih, h1, List.length_cons, Int.natCast_add, Int.add_mul]
    simp; omega
theorem body_le {c : CfgV} {n : NodeV} (h : GoodF c n) : ((bodyB c n).length : Int) ≤ longL c := by
  obtain ⟨h1, h2, h3, h4, h5⟩ := okC_t h.ok
  have hk := keysB_len h (k := n.keys.length) (Nat.le_refl _)
  unfold bodyB
  rw [List.length_append, List.length_append, List.length_append, headB_len, kidsB_len, longL_t h.ok]
  cases hl : n.leaf
  · have hf := h.inn hl
    rw [hl] at hk
    simp only [Bool.cond_false, Int.add_zero] at hk
    have hm := msB_len h.ok (l := n.msgs) fun m hm => (hf.msg m hm).2
    have hf1 := hf.kf
    have hf2 := hf.klen
    have hf3 := hf.k1
    have a1 : (n.keys.length : Int) * (c.keyMax + 2) ≤ max (c.f - 1) 0 * (c.keyMax + 2) := Int.mul_le_mul_of_nonneg_right (by omega) (by omega)
    have a2 : (n.msgs.length : Int) * mlong c ≤ c.m * mlong c := Int.mul_le_mul_of_nonneg_right hf.mlen (by unfold mlong; omega)
    unfold innerLong
    omega
  · have hf := h.lf hl
    rw [hl] at hk
    simp only [Bool.cond_true] at hk
    have a1 : (n.keys.length : Int) * (c.keyMax + 2 + (c.valMax + 2)) ≤ c.l * (c.keyMax + 2 + (c.valMax + 2)) := Int.mul_le_mul_of_nonneg_right hf.klen (by omega)
    rw [hf.kids, hf.msgs]
    have e : leafLong c = c.l * (c.keyMax + 2 + (c.valMax + 2)) := by unfold leafLong; congr 1; omega
    rw [e]
    show ((5 + _ + 4 * 0 + 0 : Nat) : Int) ≤ _
    omega
theorem msB_bd {c : CfgV} (hok : okC c = true) {l : List MsgV} (h : ∀ m ∈ l, mayL c m = true) (hl : l.length ≤ 1000) : (msB c l).length ≤ 2100000 := by
  obtain ⟨h1, h2, _⟩ := okC_t hok
  have e := msB_len hok h
  have := mul_bd (show 0 ≤ (l.length : Int) ∧ (l.length : Int) ≤ 1000 by omega) (show 0 ≤ mlong c ∧ mlong c ≤ 2005 by unfold mlong; omega)
  omega
theorem codeB_len {c : CfgV} {n : NodeV} (h : GoodF c n) : ((codeB c n).length : Int) = longL c := by
  have := body_le h
  unfold codeB
  rw [List.length_append, List.length_replicate]
  omega
end Go.Proofs.ZtLe
