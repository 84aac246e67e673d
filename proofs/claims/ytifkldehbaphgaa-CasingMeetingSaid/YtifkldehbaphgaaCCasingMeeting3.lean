/- The law CasingMeeting returns true for every input: what a Meet of two standard tables is. No condition. Part 4 of 4. -/
import Derived.WalkKit
import Derived.ProofKit
import Derived.OpenShut
import Derived.ShutString
import Derived.SliceStrings
import Derived.Deep.Matrix
import Derived.Lib.SmallJoins
import Derived.Test.YtifkldehbaphgaaRows
import Derived.ChangeOld
import Derived.Below
import Derived.SizedLaws
import Derived.Carry
import Derived.Test.YtifkldehbaphgaaCCasingMeeting2
set_option linter.all false
set_option maxHeartbeats 8000000
set_option maxRecDepth 100000
section
namespace Go.Proofs.Ytifkldehbaphgaa.PAll
open Go.RowKit Go.PW.PrintWords Go.PW.PrintLast Go.PW.PrintMore
theorem drop_eq_cons {α : Type} (A B : List α) (q : Nat) (ha : q < A.length) (hb : q < B.length) : A.drop q = B.drop q ↔ A[q] = B[q] ∧ A.drop (q + 1) = B.drop (q + 1) := by
 rw [List.drop_eq_getElem_cons ha, List.drop_eq_getElem_cons hb, List.cons.injEq]
theorem Same_l1 (A B : List (List Int)) (q : Nat) (ha : q < A.length) (hb : q < B.length) (hl : A[q].length = B[q].length) (h30 : A[q].length ≤ 30) : ∀ (m j k : Nat), j + m = A[q].length → m < k →
  rr_Same.l1 k A B (q : Int) (j : Int) = if A[q].drop j = B[q].drop j then rr_Same.l0 (k - m - 1) A B (wrap64 ((q : Int) + 1)) else some false
 | 0, j, k, e, hk => by
  obtain ⟨k, rfl⟩ : ∃ r, k = r + 1 := ⟨k - 1, by omega⟩
  have ra : rd_L1 A (q : Int) = A[q] := by simp [rd_L1, ha]
  simp only [rr_Same.l1]
  rw [if_pos (by omega), if_pos (by omega), ra, if_neg (by omega), List.drop_eq_nil_of_le (by omega), List.drop_eq_nil_of_le (by omega), if_pos rfl]
  rfl
 | m + 1, j, k, e, hk => by
  obtain ⟨k, rfl⟩ : ∃ r, k = r + 1 := ⟨k - 1, by omega⟩
  have ra : rd_L1 A (q : Int) = A[q] := by simp [rd_L1, ha]
  have rb : rd_L1 B (q : Int) = B[q] := by simp [rd_L1, hb]
  have hj : j < A[q].length := by omega
  have hj2 : j < B[q].length := by omega
  have r1 : rd A[q] (j : Int) = A[q][j] := by simp [rd, hj]
  have r2 : rd B[q] (j : Int) = B[q][j] := by simp [rd, hj2]
  simp only [rr_Same.l1]
  rw [if_pos (by omega), if_pos (by omega), ra, if_pos (by omega), if_pos (by omega), if_pos (by omega), rb, if_pos (by omega), r1, r2]
  have hd := drop_eq_cons A[q] B[q] j hj hj2
  by_cases e1 : A[q][j] = B[q][j]
  rotate_left
  ·rw [if_neg e1, if_neg (fun h => e1 (hd.1 h).1)]
  rw [if_pos e1, wrapN ((j : Int) + 1) (by omega) (by omega), show ((j : Int) + 1) = ((j + 1 : Nat) : Int) from by omega, Same_l1 A B q ha hb hl h30 m (j + 1) k (by omega) (by omega), show k + 1 - (m + 1) - 1 = k - m - 1 from by omega]
  by_cases e2 : A[q].drop (j + 1) = B[q].drop (j + 1)
  ·rw [if_pos e2, if_pos (hd.2 ⟨e1, e2⟩)]
  ·rw [if_neg e2, if_neg (fun h => e2 (hd.1 h).2)]
theorem Same_l0 (A B : List (List Int)) (hl : A.length = B.length) (h3 : A.length ≤ 10) (h30 : ∀ r ∈ A, r.length ≤ 30) : ∀ (m q k : Nat), q + m = A.length → 40 * m < k →
  rr_Same.l0 k A B (q : Int) = some (decide (A.drop q = B.drop q))
 | 0, q, k, e, hk => by
  obtain ⟨k, rfl⟩ : ∃ r, k = r + 1 := ⟨k - 1, by omega⟩
  simp only [rr_Same.l0]
  rw [if_neg (by omega), List.drop_eq_nil_of_le (by omega), List.drop_eq_nil_of_le (by omega)]
  rfl
 | m + 1, q, k, e, hk => by
  obtain ⟨k, rfl⟩ : ∃ r, k = r + 1 := ⟨k - 1, by omega⟩
  have ha : q < A.length := by omega
  have hb : q < B.length := by omega
  have ra : rd_L1 A (q : Int) = A[q] := by simp [rd_L1, ha]
  have rb : rd_L1 B (q : Int) = B[q] := by simp [rd_L1, hb]
  have hr := h30 _ (List.getElem_mem ha)
  have hd := drop_eq_cons A B q ha hb
  simp only [rr_Same.l0]
  rw [if_pos (by omega), if_pos (by omega), if_pos (by omega), ra, rb]
  by_cases e0 : A[q].length = B[q].length
  rotate_left
  ·rw [if_neg (by omega), decide_eq_false (fun h => e0 (by rw [(hd.1 h).1]))]
  rw [if_pos (by omega)]
  have l1 := Same_l1 A B q ha hb e0 hr A[q].length 0 k (by omega) (by omega)
  simp only [Int.natCast_zero, List.drop_zero] at l1
  rw [l1]
  by_cases e1 : A[q] = B[q]
  rotate_left
  ·rw [if_neg e1, decide_eq_false (fun h => e1 (hd.1 h).1)]
  rw [if_pos e1, wrapN ((q : Int) + 1) (by omega) (by omega), show ((q : Int) + 1) = ((q + 1 : Nat) : Int) from by omega, Same_l0 A B hl h3 h30 m (q + 1) _ (by omega) (by omega)]
  congr 1
  rw [decide_eq_decide, hd]
  exact ⟨fun h => ⟨e1, h⟩, fun h => h.2⟩
theorem Same_f (A B : List (List Int)) (h3 : A.length ≤ 10) (h30 : ∀ r ∈ A, r.length ≤ 30) (k : Nat) (hk : 500 ≤ k) : rr_Same.f k A B = some (decide (A = B)) := by
 unfold rr_Same.f
 by_cases hl : A.length = B.length
 ·rw [if_pos (by omega)]
  have := Same_l0 A B hl h3 h30 A.length 0 k (by omega) (by omega)
  simpa using this
 ·rw [if_neg (by omega), decide_eq_false (fun e => hl (by rw [e]))]
def lettB (g : Nat) : ByteArray := if g = 1 then ⟨#[97, 65]⟩ else ⟨#[97, 65, 98, 66]⟩
theorem letters_f (g : Nat) (hg : g = 1 ∨ g = 2) : rr_letters.f (g : Int) = some (lettB g) := by
 rcases hg with rfl | rfl <;> kernel_rfl
theorem lettB_size (g : Nat) (hg : g = 1 ∨ g = 2) : (lettB g).size = (lettersG g).length := by
 rcases hg with rfl | rfl <;> kernel_rfl
theorem lettB_bt (g : Nat) (hg : g = 1 ∨ g = 2) (q : Nat) (hq : q < (lettersG g).length) : bt (lettB g) (q : Int) = (lettersG g)[q] ∧ (lettB g).extract q (q + 1) = strOfNums [(lettersG g)[q]] := by
 rcases hg with rfl | rfl
 ·have : q = 0 ∨ q = 1 := by simp [lettersG] at hq; omega
  rcases this with rfl | rfl <;> exact ⟨by kernel_rfl, by kernel_rfl⟩
 ·have : q = 0 ∨ q = 1 ∨ q = 2 ∨ q = 3 := by simp [lettersG] at hq; omega
  rcases this with rfl | rfl | rfl | rfl <;> exact ⟨by kernel_rfl, by kernel_rfl⟩
section
variable {T : List (List Int)} (h : Tab T)
include h
theorem num_l2 (s : List Int × List (List Int)) {i : Int} (hs : OrdW T i s) (k q : Nat) (hk : k < s.1.length) (hq : q < (lettersG T.length).length) (x : Int) (hx : x = stepT T (rd s.1 (k : Int)) ((lettersG T.length)[q])) : ∀ (m j K : Nat) (b : Bool), j + m = s.1.length → (b = false → x ∉ s.1.take j) → m < K →
  rr_numbering.l2 K T s.1 (s.2.map strOfNums) (lettB T.length) (k : Int) (q : Int) x b (j : Int) =
  if b = true ∨ x ∈ s.1.drop j then rr_numbering.l1 (K - m - 1) T s.1 (s.2.map strOfNums) (lettB T.length) (k : Int) ((q + 1 : Nat) : Int)
  else rr_numbering.l1 (K - m - 1) T (s.1 ++ [x]) ((s.2 ++ [pushW (s.2.getD k []) ((lettersG T.length)[q])]).map strOfNums) (lettB T.length) (k : Int) ((q + 1 : Nat) : Int)
 | 0, j, K, b, e, hb, hK => by
  obtain ⟨K, rfl⟩ : ∃ r, K = r + 1 := ⟨K - 1, by omega⟩
  have hd5 := h.d5
  have hle := hs.le
  have hl2 := hs.len
  have hlg := lettersG_len T.length
  simp only [rr_numbering.l2]
  have hsz := lettB_size T.length h.g12
  have hc := lettersG_let h.g12 _ (List.getElem_mem hq)
  rw [if_neg (by omega), List.drop_eq_nil_of_le (by omega), wrapN ((q : Int) + 1) (by omega) (by omega), show ((q : Int) + 1) = ((q + 1 : Nat) : Int) from by omega, show K + 1 - 0 - 1 = K from by omega]
  cases b
  ·have hn : x ∉ s.1 := by
    have := hb rfl
    rwa [List.take_of_length_le (by omega)] at this
   rw [hx] at hn
   obtain ⟨hnew, hpush⟩ := hs.new h hk hc hn
   have hk2 : k < s.2.length := by omega
   have hr : rdOf ByteArray.empty (s.2.map strOfNums) (k : Int) = strOfNums (s.2.getD k []) := by simp [rdOf, List.getD, hk2]
   have hw := hs.red _ (getD_mem s.2 [] k hk2)
   have hb2 := (lettB_bt T.length h.g12 q hq).2
   have hcat : strOfNums (s.2.getD k []) ++ (lettB T.length).extract (q : Int).toNat ((q + 1 : Nat) : Int).toNat = strOfNums (pushW (s.2.getD k []) ((lettersG T.length)[q])) := by
    rw [Int.toNat_natCast, Int.toNat_natCast, hb2, hpush]
    exact strOfNums_append _ _ hw.1.letC (fun c hc' => by rw [List.mem_singleton.1 hc']; exact hc.letC)
   have hs1 : (strOfNums (s.2.getD k [])).size ≤ 5 := by rw [strOfNums_size]; exact hw.2
   have hs2 : ((lettB T.length).extract (q : Int).toNat ((q + 1 : Nat) : Int).toNat).size ≤ 5 := by rw [ByteArray.size_extract]; omega
   rw [if_neg (show ¬ (false = true ∨ x ∈ ([] : List Int)) from by simp), if_neg (show ¬ (false = true) from by simp), if_pos (by omega), if_pos (by omega), if_pos (by rw [List.length_map]; omega), if_pos (by omega), if_pos (by omega), if_pos (by omega), hr, if_pos (by omega), if_pos (by rw [List.length_map]; omega), hcat, List.map_append]
   rfl
  ·rw [if_pos rfl, if_pos (by simp)]
 | m + 1, j, K, b, e, hb, hK => by
  obtain ⟨K, rfl⟩ : ∃ r, K = r + 1 := ⟨K - 1, by omega⟩
  have hd5 := h.d5
  have hle := hs.le
  have hj : j < s.1.length := by omega
  have hr : rd s.1 (j : Int) = s.1[j] := by simp [rd, hj]
  simp only [rr_numbering.l2]
  rw [if_pos (by omega), wrapN ((j : Int) + 1) (by omega) (by omega), show ((j : Int) + 1) = ((j + 1 : Nat) : Int) from by omega]
  cases b
  ·rw [if_neg (by simp), if_pos (by omega), num_l2 s hs k q hk hq x hx m (j + 1) K _ (by omega) (by
    intro h1
    rw [hr, beq_eq_false_iff_ne] at h1
    rw [List.take_succ_eq_append_getElem hj]
    intro hm
    rcases List.mem_append.1 hm with hm | hm
    ·exact hb rfl hm
    ·exact h1 (List.mem_singleton.1 hm).symm) (by omega), show K + 1 - (m + 1) - 1 = K - m - 1 from by omega]
   have hiff : ((rd s.1 (j : Int) == x) = true ∨ x ∈ s.1.drop (j + 1)) ↔ (false = true ∨ x ∈ s.1.drop j) := by
    rw [hr, List.drop_eq_getElem_cons hj, List.mem_cons, beq_iff_eq]
    constructor
    ·rintro (e1 | e1)
     ·exact Or.inr (Or.inl e1.symm)
     ·exact Or.inr (Or.inr e1)
    ·rintro (e1 | e1 | e1)
     ·cases e1
     ·exact Or.inl e1.symm
     ·exact Or.inr e1
   by_cases hc : (false = true ∨ x ∈ s.1.drop j)
   ·rw [if_pos (hiff.2 hc), if_pos hc]
   ·rw [if_neg (fun h1 => hc (hiff.1 h1)), if_neg hc]
  ·rw [if_pos rfl, num_l2 s hs k q hk hq x hx m (j + 1) K true (by omega) (fun h1 => by cases h1) (by omega), if_pos (Or.inl rfl), if_pos (Or.inl rfl), show K + 1 - (m + 1) - 1 = K - m - 1 from by omega]
theorem num_l1 {i : Int} (k : Nat) : ∀ (m q K : Nat) (s : List Int × List (List Int)), OrdW T i s → k < s.1.length → q + m = (lettersG T.length).length → 20 * m + 20 ≤ K →
  ∃ K', K ≤ K' + 20 * m + 1 ∧ rr_numbering.l1 K T s.1 (s.2.map strOfNums) (lettB T.length) (k : Int) (q : Int) =
   rr_numbering.l0 K' T (ordIn T k ((lettersG T.length).drop q) s).1 ((ordIn T k ((lettersG T.length).drop q) s).2.map strOfNums) (lettB T.length) ((k + 1 : Nat) : Int)
 | 0, q, K, s, hs, hk, e, hK => by
  obtain ⟨K, rfl⟩ : ∃ r, K = r + 1 := ⟨K - 1, by omega⟩
  have hd5 := h.d5
  have hle := hs.le
  have hsz := lettB_size T.length h.g12
  refine ⟨K, by omega, ?_⟩
  simp only [rr_numbering.l1]
  rw [if_neg (by omega), List.drop_eq_nil_of_le (by omega), wrapN ((k : Int) + 1) (by omega) (by omega), show ((k : Int) + 1) = ((k + 1 : Nat) : Int) from by omega]
  rfl
 | m + 1, q, K, s, hs, hk, e, hK => by
  obtain ⟨K, rfl⟩ : ∃ r, K = r + 1 := ⟨K - 1, by omega⟩
  have hd5 := h.d5
  have hle := hs.le
  have hsz := lettB_size T.length h.g12
  have hlg := lettersG_len T.length
  have hq : q < (lettersG T.length).length := by omega
  have hc := lettersG_let h.g12 _ (List.getElem_mem hq)
  have hrk := hs.rng _ (rd_mem s.1 k hk)
  have l2 := num_l2 h s hs k q hk hq _ rfl s.1.length 0 K false (by omega) (by simp) (by omega)
  simp only [Int.natCast_zero, List.drop_zero, Bool.false_eq_true, false_or] at l2
  simp only [rr_numbering.l1]
  rw [if_pos (by omega), if_pos (by omega), if_pos (by omega), if_pos (by omega), (lettB_bt T.length h.g12 q hq).1, refStep_f h hrk.1 hrk.2 hc K (by omega)]
  simp only [Option.bind_some]
  rw [l2, List.drop_eq_getElem_cons hq]
  simp only [ordIn]
  by_cases hm : stepT T (rd s.1 (k : Int)) (lettersG T.length)[q] ∈ s.1
  ·rw [if_pos hm, if_pos hm]
   obtain ⟨K', h1, h2⟩ := num_l1 k m (q + 1) (K - s.1.length - 1) s hs hk (by omega) (by omega)
   exact ⟨K', by omega, h2⟩
  ·rw [if_neg hm, if_neg hm]
   obtain ⟨K', h1, h2⟩ := num_l1 k m (q + 1) (K - s.1.length - 1) _ (hs.new h hk hc hm).1 (by simp; omega) (by omega) (by omega)
   exact ⟨K', by omega, h2⟩
theorem num_l0 {i : Int} : ∀ (f k K : Nat) (s : List Int × List (List Int)), OrdW T i s → 150 * f + 50 ≤ K → k + f = 6 →
  rr_numbering.l0 K T s.1 (s.2.map strOfNums) (lettB T.length) (k : Int) = some ((ordOut T (lettersG T.length) f k s).1, (ordOut T (lettersG T.length) f k s).2.map strOfNums)
 | 0, k, K, s, hs, hK, hf => by
  obtain ⟨K, rfl⟩ : ∃ r, K = r + 1 := ⟨K - 1, by omega⟩
  have hd5 := h.d5
  have hle := hs.le
  simp only [rr_numbering.l0, ordOut]
  rw [if_neg (by omega)]
 | f + 1, k, K, s, hs, hK, hf => by
  obtain ⟨K, rfl⟩ : ∃ r, K = r + 1 := ⟨K - 1, by omega⟩
  have hd5 := h.d5
  have hle := hs.le
  have hlg := lettersG_len T.length
  simp only [rr_numbering.l0, ordOut]
  by_cases hk : k < s.1.length
  rotate_left
  ·rw [if_neg (by omega), if_neg hk]
  rw [if_pos (by omega), if_pos hk]
  obtain ⟨K', h1, h2⟩ := num_l1 h k (lettersG T.length).length 0 K s hs hk (by omega) (by omega)
  simp only [Int.natCast_zero, List.drop_zero] at h2
  rw [h2]
  exact num_l0 f (k + 1) K' _ (ordIn_W h _ s hs hk (lettersG_let h.g12)).1 (by omega) (by omega)
theorem numbering_f {i : Int} (h0 : 0 ≤ i) (h1 : i < nT T) (K : Nat) (hK : 1000 ≤ K) : rr_numbering.f K T i = some ((orderP T i).1, (orderP T i).2.map strOfNums) := by
 unfold rr_numbering.f
 rw [letters_f T.length h.g12]
 simp only [Option.bind_some]
 have := num_l0 h 6 0 K ([i], [[]]) (OrdW.start h0 h1) (by omega) (by omega)
 unfold orderP
 rw [← this]
 rfl
theorem Connected_f (K : Nat) (hK : 1000 ≤ K) : rr_Connected.f K T = some (decide ((orderP T 0).1.length = nT T)) := by
 have hd1 := h.d1
 have hg := h.g1
 unfold rr_Connected.f
 rw [numbering_f h (by omega) (by omega) K hK]
 simp only [Option.bind_some]
 rw [if_pos (by omega)]
 congr 1
 rw [Bool.eq_iff_iff, beq_iff_eq, decide_eq_true_eq]
 unfold nT
 omega
end
theorem rd_set_self (P : List Int) (x : Int) (v : Int) (h : x.toNat < P.length) : rd (P.set x.toNat v) x = v := by simp [rd, h]
theorem rd_set_ne (P : List Int) (x y : Int) (v : Int) (h0 : 0 ≤ x) (h1 : 0 ≤ y) (hne : x ≠ y) : rd (P.set x.toNat v) y = rd P y := by
 simp [rd, List.getD, List.getElem?_set, show ¬ x.toNat = y.toNat by omega]
section
variable {T : List (List Int)} (h : Tab T) (l : List Int) (hl : Perm (nT T) l)
include h hl
theorem ren_l0 : ∀ (m i K : Nat) (P : List Int), i + m = l.length → P.length = l.length → m < K →
  ∃ P', P'.length = l.length ∧ (∀ j : Nat, i ≤ j → j < l.length → rd P' (rd l (j : Int)) = (j : Int)) ∧ (∀ x : Int, 0 ≤ x → x ∉ l.drop i → rd P' x = rd P x) ∧
   rr_Renumber.l0 K T l P (i : Int) = rr_Renumber.l1 (K - m - 1) T l P' [] 0
 | 0, i, K, P, e, hP, hK => by
  obtain ⟨K, rfl⟩ : ∃ r, K = r + 1 := ⟨K - 1, by omega⟩
  refine ⟨P, hP, fun j h1 h2 => by omega, fun x _ _ => rfl, ?_⟩
  simp only [rr_Renumber.l0]
  rw [if_neg (by omega)]
  rfl
 | m + 1, i, K, P, e, hP, hK => by
  obtain ⟨K, rfl⟩ : ∃ r, K = r + 1 := ⟨K - 1, by omega⟩
  have hd5 := h.d5
  have hn := hl.len
  have hi : i < l.length := by omega
  have hr : rd l (i : Int) = l[i] := by simp [rd, hi]
  have hlo := hl.lo _ (List.getElem_mem hi)
  have hhi := hl.hi _ (List.getElem_mem hi)
  obtain ⟨P', p1, p2, p3, p4⟩ := ren_l0 m (i + 1) K (P.set (l[i]).toNat (i : Int)) (by omega) (by simp [hP]) (by omega)
  have hnot : l[i] ∉ l.drop (i + 1) := by
   have hnd : (l.drop i).Nodup := hl.nodup.sublist (List.drop_sublist i l)
   rw [List.drop_eq_getElem_cons hi] at hnd
   exact (List.nodup_cons.1 hnd).1
  refine ⟨P', p1, fun j h1 h2 => ?_, fun x hx0 hx => ?_, ?_⟩
  ·by_cases e1 : j = i
   ·subst e1
    rw [hr, p3 _ hlo hnot, rd_set_self _ _ _ (by omega)]
   ·exact p2 j (by omega) h2
  ·rw [List.drop_eq_getElem_cons hi, List.mem_cons, not_or] at hx
   rw [p3 x hx0 hx.2, rd_set_ne _ _ _ _ hlo hx0 (fun e => hx.1 e.symm)]
  ·simp only [rr_Renumber.l0]
   rw [if_pos (by omega), if_pos (by omega), hr, if_pos (by omega), if_pos (by omega), wrapN ((i : Int) + 1) (by omega) (by omega), show ((i : Int) + 1) = ((i + 1 : Nat) : Int) from by omega, p4, show K + 1 - (m + 1) - 1 = K - m - 1 from by omega]
variable (P : List Int) (hP : P.length = l.length) (hPl : ∀ x ∈ l, rd P x = idxL x l 0)
include hP hPl
theorem ren_l2 (k : Nat) (hk : k < T.length) (out : List (List Int)) (ho : out.length ≤ 5) : ∀ (m j K : Nat), j + m = l.length → m < K →
  rr_Renumber.l2 K T l P out (k : Int) ((renC l (rd_L1 T (k : Int))).take j) (j : Int) = rr_Renumber.l1 (K - m - 1) T l P (out ++ [renC l (rd_L1 T (k : Int))]) ((k + 1 : Nat) : Int)
 | 0, j, K, e, hK => by
  obtain ⟨K, rfl⟩ : ∃ r, K = r + 1 := ⟨K - 1, by omega⟩
  have hg2 := h.g2
  have hlen : (renC l (rd_L1 T (k : Int))).length = l.length := by simp [renC]
  simp only [rr_Renumber.l2]
  rw [if_neg (by omega), if_pos (by omega), List.take_of_length_le (by omega), wrapN ((k : Int) + 1) (by omega) (by omega), show ((k : Int) + 1) = ((k + 1 : Nat) : Int) from by omega]
  rfl
 | m + 1, j, K, e, hK => by
  obtain ⟨K, rfl⟩ : ∃ r, K = r + 1 := ⟨K - 1, by omega⟩
  have hg2 := h.g2
  have hd5 := h.d5
  have hn := hl.len
  have hj : j < l.length := by omega
  have hr : rd l (j : Int) = l[j] := by simp [rd, hj]
  have hlo := hl.lo _ (List.getElem_mem hj)
  have hhi := hl.hi _ (List.getElem_mem hj)
  have hcol := h.col k hk
  have hcl := hcol.len
  have hg := hcol.get _ hlo hhi
  have hlen : (renC l (rd_L1 T (k : Int))).length = l.length := by simp [renC]
  have hjr : j < (renC l (rd_L1 T (k : Int))).length := by omega
  have hmem : rd (rd_L1 T (k : Int)) l[j] ∈ l := hl.mem _ hg.1 hg.2
  have hget : (renC l (rd_L1 T (k : Int)))[j] = idxL (rd (rd_L1 T (k : Int)) l[j]) l 0 := by simp [renC]
  simp only [rr_Renumber.l2]
  rw [if_pos (by omega), if_pos (by omega), if_pos (by omega), if_pos (by omega), hr, if_pos (by omega), if_pos (by omega), if_pos (by omega), if_pos (by omega), if_pos (by rw [List.length_take]; omega), hPl _ hmem, ← hget, ← List.take_succ_eq_append_getElem hjr, wrapN ((j : Int) + 1) (by omega) (by omega), show ((j : Int) + 1) = ((j + 1 : Nat) : Int) from by omega,
   ren_l2 k hk out ho m (j + 1) K (by omega) (by omega), show K + 1 - (m + 1) - 1 = K - m - 1 from by omega]
theorem ren_l1 : ∀ (m k K : Nat), k + m = T.length → 10 * m < K →
  rr_Renumber.l1 K T l P ((T.take k).map (renC l)) (k : Int) = some (T.map (renC l))
 | 0, k, K, e, hK => by
  obtain ⟨K, rfl⟩ : ∃ r, K = r + 1 := ⟨K - 1, by omega⟩
  simp only [rr_Renumber.l1]
  rw [if_neg (by omega), List.take_of_length_le (by omega)]
 | m + 1, k, K, e, hK => by
  obtain ⟨K, rfl⟩ : ∃ r, K = r + 1 := ⟨K - 1, by omega⟩
  have hg2 := h.g2
  have hd5 := h.d5
  have hn := hl.len
  have hk : k < T.length := by omega
  have hr : rd_L1 T (k : Int) = T[k] := by simp [rd_L1, hk]
  simp only [rr_Renumber.l1]
  rw [if_pos (by omega)]
  have l2 := ren_l2 h l hl P hP hPl k hk ((T.take k).map (renC l)) (by simp; omega) l.length 0 K (by omega) (by omega)
  simp only [Int.natCast_zero, List.take_zero] at l2
  have ih := ren_l1 m (k + 1) (K - l.length - 1) (by omega) (by omega)
  rw [l2, ← ih, List.take_succ_eq_append_getElem hk, List.map_append, hr]
  rfl
end
theorem Renumber_f {T : List (List Int)} (h : Tab T) (hc : connT T) {i : Int} (h0 : 0 ≤ i) (h1 : i < nT T) (K : Nat) (hK : 1000 ≤ K) : rr_Renumber.f K T i = some (renT T i) := by
 have hP := conn_perm h hc h0 h1
 have hn := hP.len
 have hd5 := h.d5
 have hg2 := h.g2
 unfold rr_Renumber.f
 rw [numbering_f h h0 h1 K hK]
 simp only [Option.bind_some]
 rw [if_pos (by omega), if_pos (by omega)]
 obtain ⟨P', p1, p2, p3, p4⟩ := ren_l0 h (orderP T i).1 hP (orderP T i).1.length 0 K (List.replicate ((orderP T i).1.length : Int).toNat 0) (by omega) (by simp) (by omega)
 rw [show ((0 : Nat) : Int) = 0 from rfl] at p4
 rw [p4]
 refine ren_l1 h (orderP T i).1 hP P' p1 (fun x hx => ?_) T.length 0 _ (by omega) (by omega)
 obtain ⟨j, hj, rfl⟩ := mem_rd hx
 rw [p2 j (by omega) hj, idxL_rd _ j hP.nodup hj]
theorem Tab.rows {T : List (List Int)} (h : Tab T) : ∀ r ∈ T, r.length = nT T := by
 intro r hr
 obtain ⟨k, hk, rfl⟩ := List.getElem_of_mem hr
 have := (h.col k hk).len
 rwa [show rd_L1 T (k : Int) = T[k] from by simp [rd_L1, hk]] at this
theorem u64_small (n : Int) (h0 : 0 ≤ n) (h : n ≤ 1000000) : IntKind.u64.wrap n = n := by
 have : IntKind.u64.wrap n = n % 18446744073709551616 := by
  unfold IntKind.wrap
  simp [IntKind.bits, IntKind.signed]
 rw [this]
 omega
theorem u64_range (n : Int) : 0 ≤ IntKind.u64.wrap n := by
 have : IntKind.u64.wrap n = n % 18446744073709551616 := by
  unfold IntKind.wrap
  simp [IntKind.bits, IntKind.signed]
 rw [this]
 omega
theorem mod_f (x : Int) (n : Nat) (h1 : 1 ≤ n) (h2 : n ≤ 1000) : ∃ m : Nat, rl_mod.f x (n : Int) = some (m : Int) ∧ m < n := by
 unfold rl_mod.f
 rw [u64_small (n : Int) (by omega) (by omega), if_neg (by omega)]
 have h0 := u64_range x
 have hm := Int.tmod_lt_of_pos (IntKind.u64.wrap x) (show (0 : Int) < (n : Int) by omega)
 have hn := Int.tmod_nonneg (n : Int) h0
 refine ⟨(Int.tmod (IntKind.u64.wrap x) (n : Int)).toNat, ?_, by omega⟩
 rw [wrapN _ (by omega) (by omega)]
 congr 1
 omega
theorem bt_strBytes (s : ByteArray) (i : Nat) (h : i < s.size) : 0 ≤ bt s (i : Int) ∧ bt s (i : Int) ≤ 255 := bt_range s _
theorem word_l0 (s : ByteArray) (g : Nat) (hg : g = 1 ∨ g = 2) (most : Nat) (hm : most ≤ 100) : ∀ (m j k : Nat) (w : List Int), j + m = most → w.length = j → (∀ c ∈ w, letG g c) → m < k →
  ∃ u : List Int, rl_word.l0 k s (g : Int) (most : Int) w (j : Int) = some (strOfNums u) ∧ (∀ c ∈ u, letG g c) ∧ u.length ≤ most
 | 0, j, k, w, h, hw, hl, hk => by
  obtain ⟨k, rfl⟩ : ∃ q, k = q + 1 := ⟨k - 1, by omega⟩
  simp only [rl_word.l0]
  refine ⟨w, ?_, hl, by omega⟩
  by_cases hj : (j : Int) < (s.size : Int)
  ·rw [if_pos hj, if_neg (by omega)]
  ·rw [if_neg hj]
 | m + 1, j, k, w, h, hw, hl, hk => by
  obtain ⟨k, rfl⟩ : ∃ q, k = q + 1 := ⟨k - 1, by omega⟩
  simp only [rl_word.l0]
  by_cases hj : (j : Int) < (s.size : Int)
  rotate_left
  ·rw [if_neg hj]
   exact ⟨w, rfl, hl, by omega⟩
  have hb := bt_strBytes s j (by omega)
  obtain ⟨b, hbn⟩ := Int.eq_ofNat_of_zero_le hb.1
  have h2g : wrap64 (2 * (g : Int)) = ((2 * g : Nat) : Int) := by rw [wrapN _ (by omega) (by omega)]; omega
  have hq : Int.tmod (b : Int) ((2 * g : Nat) : Int) = ((b % (2 * g) : Nat) : Int) := rfl
  have hlt : b % (2 * g) < 2 * g := Nat.mod_lt _ (by omega)
  rw [if_pos hj, if_pos (by omega), if_pos (by omega), h2g, if_neg (by omega), hbn, wrapN (b : Int) (by omega) (by omega), hq, if_pos (by omega), if_pos (by omega), if_pos (by omega), wrapN ((j : Int) + 1) (by omega) (by omega), show ((j : Int) + 1) = ((j + 1 : Nat) : Int) from by omega]
  have hc : letG g (bt (⟨#[97, 65, 98, 66]⟩ : ByteArray) ((b % (2 * g) : Nat) : Int)) := by
   have hcases : b % (2 * g) = 0 ∨ b % (2 * g) = 1 ∨ (g = 2 ∧ (b % (2 * g) = 2 ∨ b % (2 * g) = 3)) := by omega
   rcases hcases with e | e | ⟨e2, e | e⟩
   ·rw [e]; exact Or.inl (by kernel_rfl)
   ·rw [e]; exact Or.inr (Or.inl (by kernel_rfl))
   ·rw [e]; exact Or.inr (Or.inr ⟨e2, Or.inl (by kernel_rfl)⟩)
   ·rw [e]; exact Or.inr (Or.inr ⟨e2, Or.inr (by kernel_rfl)⟩)
  exact word_l0 s g hg most hm m (j + 1) k _ (by omega) (by simp [hw]) (fun c hc' => by
   rcases List.mem_append.1 hc' with h1 | h1
   ·exact hl c h1
   ·rw [List.mem_singleton.1 h1]; exact hc) (by omega)
theorem word_f (s : ByteArray) (g : Nat) (hg : g = 1 ∨ g = 2) (most : Nat) (hm : most ≤ 100) (k : Nat) (hk : most < k) :
  ∃ u : List Int, rl_word.f k s (g : Int) (most : Int) = some (strOfNums u) ∧ (∀ c ∈ u, letG g c) ∧ u.length ≤ most := by
 have := word_l0 s g hg most hm most 0 k [] (by omega) rfl (by simp) hk
 simpa [rl_word.f] using this
theorem newTable_yes {T : List (List Int)} (h : okT T) (k : Nat) : c_newTable.f k T = some ((T.length : Int), ((rd_L1 T 0).length : Int), (tabL T).getD 0 0, (tabL T).getD 1 0, (tabL T).getD 2 0, (tabL T).getD 3 0, (tabL T).getD 4 0, (tabL T).getD 5 0, (tabL T).getD 6 0, (tabL T).getD 7 0, (tabL T).getD 8 0, (tabL T).getD 9 0, true) := by
 unfold c_newTable.f
 rw [if_pos h]
end Go.Proofs.Ytifkldehbaphgaa.PAll
end
section
namespace Go.Proofs.Ytifkldehbaphgaa.PAll
open Go.RowKit Go.PW.PrintWords Go.PW.PrintLast Go.PW.PrintMore
section
variable {T : List (List Int)} (h : Tab T) {s : List Int × List (List Int)} (hs : OrdW T 0 s) (hn : s.1.length = nT T)
include h hs hn
theorem colAt_f (i k : Nat) (hi : i < nT T) (hk : k < T.length) (a0 a1 : Int) : colAtF a0 a1 ((tabL T).getD 0 0) ((tabL T).getD 1 0) ((tabL T).getD 2 0) ((tabL T).getD 3 0) ((tabL T).getD 4 0) ((tabL T).getD 5 0) ((tabL T).getD 6 0) ((tabL T).getD 7 0) ((tabL T).getD 8 0) ((tabL T).getD 9 0) (k : Int) (i : Int) = some (rd (rd_L1 T (k : Int)) (i : Int)) := by
 have hd5 := h.d5
 have hg2 := h.g2
 have hcl := (h.col k hk).len
 unfold colAtF
 rw [if_pos (by omega), Int.toNat_natCast, Int.toNat_natCast]
 have e0 : ∀ j, j < 10 → [(tabL T).getD 0 0, (tabL T).getD 1 0, (tabL T).getD 2 0, (tabL T).getD 3 0, (tabL T).getD 4 0, (tabL T).getD 5 0, (tabL T).getD 6 0, (tabL T).getD 7 0, (tabL T).getD 8 0, (tabL T).getD 9 0].getD j 0 = (tabL T).getD j 0 := by
  intro j hj
  rcases j with _ | _ | _ | _ | _ | _ | _ | _ | _ | _ | j <;> first | rfl | omega
 rw [e0 _ (by omega)]
 have hpad : ∀ c : List Int, c.length = nT T → (pad5 c).getD i 0 = rd c (i : Int) := fun c hc => by
  rw [show (pad5 c).getD i 0 = c.getD i 0 from by
   match c, (show c.length ≤ 5 by omega) with
   | [], _ => rcases i with _ | _ | _ | _ | _ | i <;> first | rfl | omega
   | [_], _ => rcases i with _ | _ | _ | _ | _ | i <;> first | rfl | omega
   | [_, _], _ => rcases i with _ | _ | _ | _ | _ | i <;> first | rfl | omega
   | [_, _, _], _ => rcases i with _ | _ | _ | _ | _ | i <;> first | rfl | omega
   | [_, _, _, _], _ => rcases i with _ | _ | _ | _ | _ | i <;> first | rfl | omega
   | [_, _, _, _, _], _ => rcases i with _ | _ | _ | _ | _ | i <;> first | rfl | omega]
  rfl
 have : k = 0 ∨ k = 1 := by omega
 rcases this with rfl | rfl
 ·rw [Nat.zero_mul, Nat.zero_add, tabL_getD0 T h.g1 i (by omega)]
  exact congrArg some (hpad _ hcl)
 ·rw [Nat.one_mul, tabL_getD1 T (by omega) i (by omega)]
  exact congrArg some (hpad _ hcl)
end
end Go.Proofs.Ytifkldehbaphgaa.PAll
end
section
namespace Go.Proofs.Ytifkldehbaphgaa.PAll
open Go.RowKit Go.PW.PrintWords Go.PW.PrintLast Go.PW.PrintMore
instance (T : List (List Int)) : Decidable (connT T) := by unfold connT; infer_instance
def toM (x : Pr) : S100 := ⟨x.1, x.2⟩
theorem rd_toM (s : List Pr) (i : Nat) : rd_T100 (s.map toM) (i : Int) = toM (s.getD i (0, 0)) := by
 unfold rd_T100
 rw [Int.toNat_natCast]
 by_cases h : i < s.length
 ·simp [List.getD, h]
 ·simp [List.getD, h]; rfl
theorem pairIdx_l0 (x : Pr) (s : List Pr) (hl : s.length ≤ 1000) : ∀ (m j K : Nat), j + m = s.length → x ∉ s.take j → m < K →
  c_pair_72.l0 K (s.map toM) ((s.map toM).length : Int) (j : Int) x.1 x.2 = some (if x ∈ s then ((idxP x s : Nat) : Int) else -1)
 | 0, j, K, e, hn, hK => by
  obtain ⟨K, rfl⟩ : ∃ r, K = r + 1 := ⟨K - 1, by omega⟩
  rw [List.take_of_length_le (by omega)] at hn
  rw [c_pair_72.l0, if_neg (by rw [List.length_map]; omega), if_neg hn]
 | m + 1, j, K, e, hn, hK => by
  obtain ⟨K, rfl⟩ : ∃ r, K = r + 1 := ⟨K - 1, by omega⟩
  have hj : j < s.length := by omega
  have hg : s.getD j (0, 0) = s[j] := by simp [List.getD, hj]
  rw [c_pair_72.l0, if_pos (by rw [List.length_map]; omega), if_pos (by omega), if_pos (by rw [List.length_map]; omega), rd_toM, hg]
  by_cases hx : s[j] = x
  ·rw [if_pos (by rw [hx]; simp [toM]), if_pos (by rw [← hx]; exact List.getElem_mem hj), idxP_take hn hj hx]
  have hne : ¬ ((x.1 == (toM s[j]).f0 && (x.2 == (toM s[j]).f1)) = true) := by
   rw [Bool.and_eq_true, beq_iff_eq, beq_iff_eq]
   exact fun h => hx (Prod.ext h.1.symm h.2.symm)
  rw [if_neg hne, wrapN _ (by omega) (by omega), show ((j : Int) + 1) = ((j + 1 : Nat) : Int) from by omega]
  refine pairIdx_l0 x s hl m (j + 1) K (by omega) ?_ (by omega)
  rw [List.take_succ_eq_append_getElem hj]
  intro hm
  rcases List.mem_append.1 hm with hm | hm
  ·exact hn hm
  ·exact hx (List.mem_singleton.1 hm).symm
theorem pairIdx_f (x : Pr) (s : List Pr) (hl : s.length ≤ 1000) (K : Nat) (hK : s.length < K) : c_pair_72.f K (s.map toM) x.1 x.2 = some (if x ∈ s then ((idxP x s : Nat) : Int) else -1) :=
 pairIdx_l0 x s hl s.length 0 K (by omega) (by simp) hK
theorem pairHas_f (x : Pr) (s : List Pr) (hl : s.length ≤ 1000) (K : Nat) (hK : s.length < K) : ∃ b, c_pair_71.f K (s.map toM) x.1 x.2 = some b ∧ (b = true ↔ x ∈ s) := by
 rw [c_pair_71.f, pairIdx_f x s hl K hK, Option.bind_some]
 refine ⟨_, rfl, ?_⟩
 rw [decide_eq_true_eq]
 by_cases h : x ∈ s
 ·rw [if_pos h]; exact ⟨fun _ => h, fun _ => by omega⟩
 ·rw [if_neg h]; exact ⟨fun e => by omega, fun e => absurd e h⟩
section
variable {S T : List (List Int)} (hS : Tab S) (hT : Tab T) (hg : S.length = T.length)
include hS hT hg
theorem meet_l1 (k : Nat) (L : List Int) (hL : ∀ c ∈ L, letG S.length c) (hL4 : L.length ≤ 4) : ∀ (m j K : Nat) (s : List Pr), j + m = L.length → PrI S T s → k < s.length → 2 * m + 60 ≤ K →
  c_Meet.l1 K (s.map toM) (k : Int) L (L.length : Int) (j : Int) ((S.length : Int)) ((rd_L1 S 0).length : Int) ((tabL S).getD 0 0) ((tabL S).getD 1 0) ((tabL S).getD 2 0) ((tabL S).getD 3 0) ((tabL S).getD 4 0) ((tabL S).getD 5 0) ((tabL S).getD 6 0) ((tabL S).getD 7 0) ((tabL S).getD 8 0) ((tabL S).getD 9 0) ((T.length : Int)) ((rd_L1 T 0).length : Int) ((tabL T).getD 0 0) ((tabL T).getD 1 0) ((tabL T).getD 2 0) ((tabL T).getD 3 0) ((tabL T).getD 4 0) ((tabL T).getD 5 0) ((tabL T).getD 6 0) ((tabL T).getD 7 0) ((tabL T).getD 8 0) ((tabL T).getD 9 0) =
  c_Meet.l0 (K - 2 * m - 1) ((prIn S T k (L.drop j) s).map toM) ((k + 1 : Nat) : Int) ((S.length : Int)) ((rd_L1 S 0).length : Int) ((tabL S).getD 0 0) ((tabL S).getD 1 0) ((tabL S).getD 2 0) ((tabL S).getD 3 0) ((tabL S).getD 4 0) ((tabL S).getD 5 0) ((tabL S).getD 6 0) ((tabL S).getD 7 0) ((tabL S).getD 8 0) ((tabL S).getD 9 0) ((T.length : Int)) ((rd_L1 T 0).length : Int) ((tabL T).getD 0 0) ((tabL T).getD 1 0) ((tabL T).getD 2 0) ((tabL T).getD 3 0) ((tabL T).getD 4 0) ((tabL T).getD 5 0) ((tabL T).getD 6 0) ((tabL T).getD 7 0) ((tabL T).getD 8 0) ((tabL T).getD 9 0)
 | 0, j, K, s, e, hs, hk, hK => by
  obtain ⟨K, rfl⟩ : ∃ r, K = r + 1 := ⟨K - 1, by omega⟩
  have hle := hs.le hS hT
  rw [c_Meet.l1, if_neg (by omega), List.drop_eq_nil_of_le (by omega), wrapN _ (by omega) (by omega)]
  rfl
 | m + 1, j, K, s, e, hs, hk, hK => by
  obtain ⟨K, rfl⟩ : ∃ r, K = r + 1 := ⟨K - 1, by omega⟩
  have hle := hs.le hS hT
  have hj : j < L.length := by omega
  have hrL : rd L (j : Int) = L[j] := by simp [rd, hj]
  have hc : letG S.length L[j] := hL _ (List.getElem_mem hj)
  have hm := getD_memP hk
  have hr := hs.rng _ hm
  rw [c_Meet.l1, if_pos (by omega), if_pos (by omega), if_pos (by omega), if_pos (by omega), if_pos (by rw [List.length_map]; omega), hrL, rd_toM]
  rw [show (toM (s.getD k (0, 0))).f0 = (s.getD k (0, 0)).1 from rfl, show (toM (s.getD k (0, 0))).f1 = (s.getD k (0, 0)).2 from rfl]
  rw [sent_f hS hr.1.1 hr.1.2 hc, Option.bind_some, sent_f hT hr.2.1 hr.2.2 (hg ▸ hc), Option.bind_some]
  obtain ⟨b, hh, hb⟩ := pairHas_f (stp S T (s.getD k (0, 0)) L[j]) s (by omega) K (by omega)
  have hh' : c_pair_71.f K (s.map toM) (stepT S (s.getD k (0, 0)).1 L[j]) (stepT T (s.getD k (0, 0)).2 L[j]) = some b := hh
  rw [hh', Option.bind_some, List.drop_eq_getElem_cons hj]
  obtain ⟨K, rfl⟩ : ∃ r, K = r + 1 := ⟨K - 1, by omega⟩
  have hI := hs.add hS hT hg hm hc
  obtain ⟨t, ht⟩ := addP_app s (stp S T (s.getD k (0, 0)) L[j])
  have ih := meet_l1 k L hL hL4 m (j + 1) K _ (by omega) hI (by rw [ht, List.length_append]; omega) (by omega)
  rw [show K + 1 + 1 - 2 * (m + 1) - 1 = K - 2 * m - 1 from by omega]
  show _ = c_Meet.l0 (K - 2 * m - 1) ((prIn S T k (L.drop (j + 1)) (addP s (stp S T (s.getD k (0, 0)) L[j]))).map toM) _ _ _ _ _ _ _ _ _ _ _ _ _ _ _ _ _ _ _ _ _ _ _ _ _
  rw [← ih]
  have hw : wrap64 ((j : Int) + 1) = ((j + 1 : Nat) : Int) := by rw [wrapN _ (by omega) (by omega)]; omega
  cases b
  ·have ea : addP s (stp S T (s.getD k (0, 0)) L[j]) = s ++ [stp S T (s.getD k (0, 0)) L[j]] := if_neg (fun e => by have := hb.2 e; cases this)
   rw [if_neg (by simp), if_pos (by rw [List.length_map]; omega), c_Meet.j3, hw, ea, List.map_append]
   rfl
  ·have ea : addP s (stp S T (s.getD k (0, 0)) L[j]) = s := if_pos (hb.1 rfl)
   rw [if_pos rfl, c_Meet.j3, hw, ea]
theorem meet_l3 (hcS : connT S) (hcT : connT T) (M : List Pr) (hM : PrI S T M) (hcl : ∀ p ∈ M, ∀ c, letG S.length c → stp S T p c ∈ M) (q : Nat) (hq : q < T.length) (c : Int) (hc : c = if q = 0 then 97 else 98) (out : List (List Int)) (ho : out.length ≤ 2) (n : Int) : ∀ (m j K : Nat), j + m = M.length → m + 60 ≤ K →
  c_Meet.l3 K (M.map toM) out (q : Int) (cr S T c M j) n (q : Int) (M.map toM) ((M.map toM).length : Int) (j : Int) ((S.length : Int)) ((rd_L1 S 0).length : Int) ((tabL S).getD 0 0) ((tabL S).getD 1 0) ((tabL S).getD 2 0) ((tabL S).getD 3 0) ((tabL S).getD 4 0) ((tabL S).getD 5 0) ((tabL S).getD 6 0) ((tabL S).getD 7 0) ((tabL S).getD 8 0) ((tabL S).getD 9 0) ((T.length : Int)) ((rd_L1 T 0).length : Int) ((tabL T).getD 0 0) ((tabL T).getD 1 0) ((tabL T).getD 2 0) ((tabL T).getD 3 0) ((tabL T).getD 4 0) ((tabL T).getD 5 0) ((tabL T).getD 6 0) ((tabL T).getD 7 0) ((tabL T).getD 8 0) ((tabL T).getD 9 0) =
  c_Meet.l2 (K - m - 1) (M.map toM) (out ++ [cr S T c M M.length]) n ((q + 1 : Nat) : Int) ((S.length : Int)) ((rd_L1 S 0).length : Int) ((tabL S).getD 0 0) ((tabL S).getD 1 0) ((tabL S).getD 2 0) ((tabL S).getD 3 0) ((tabL S).getD 4 0) ((tabL S).getD 5 0) ((tabL S).getD 6 0) ((tabL S).getD 7 0) ((tabL S).getD 8 0) ((tabL S).getD 9 0) ((T.length : Int)) ((rd_L1 T 0).length : Int) ((tabL T).getD 0 0) ((tabL T).getD 1 0) ((tabL T).getD 2 0) ((tabL T).getD 3 0) ((tabL T).getD 4 0) ((tabL T).getD 5 0) ((tabL T).getD 6 0) ((tabL T).getD 7 0) ((tabL T).getD 8 0) ((tabL T).getD 9 0)
 | 0, j, K, e, hK => by
  obtain ⟨K, rfl⟩ : ∃ r, K = r + 1 := ⟨K - 1, by omega⟩
  have hg2 := hT.g2
  rw [c_Meet.l3, if_neg (by rw [List.length_map]; omega), if_pos (by omega), wrapN _ (by omega) (by omega), show j = M.length from by omega]
  rfl
 | m + 1, j, K, e, hK => by
  obtain ⟨K, rfl⟩ : ∃ r, K = r + 1 := ⟨K - 1, by omega⟩
  have hle := hM.le hS hT
  have hg2 := hT.g2
  have hj : j < M.length := by omega
  have hm := getD_memP hj
  have hr := hM.rng _ hm
  have hlc : letG S.length c := by
   unfold letG
   by_cases h0 : q = 0
   ·rw [if_pos h0] at hc; omega
   ·rw [if_neg h0] at hc; omega
  have hst : ∀ (U : List (List Int)) (i : Int), stepT U i c = rd (rd_L1 U (q : Int)) i := by
   intro U i
   have : q = 0 ∨ q = 1 := by omega
   rcases this with rfl | rfl
   ·subst hc; rfl
   ·subst hc; rfl
  have hmem : (rd (rd_L1 S (q : Int)) (M.getD j (0, 0)).1, rd (rd_L1 T (q : Int)) (M.getD j (0, 0)).2) ∈ M := by
   have := hcl _ hm c hlc
   unfold stp at this
   rwa [hst, hst] at this
  obtain ⟨a, ha⟩ : ∃ a : Nat, (a : Int) = (M.getD j (0, 0)).1 := ⟨(M.getD j (0, 0)).1.toNat, by omega⟩
  obtain ⟨b, hb⟩ : ∃ b : Nat, (b : Int) = (M.getD j (0, 0)).2 := ⟨(M.getD j (0, 0)).2.toNat, by omega⟩
  have cS := colAt_f hS (orderP_W hS (show (0 : Int) ≤ 0 by omega) (by have := hS.d1; omega)) hcS a q (by omega) (by omega) ((S.length : Int)) ((rd_L1 S 0).length : Int)
  have cT := colAt_f hT (orderP_W hT (show (0 : Int) ≤ 0 by omega) (by have := hT.d1; omega)) hcT b q (by omega) hq ((T.length : Int)) ((rd_L1 T 0).length : Int)
  rw [ha] at cS
  rw [hb] at cT
  have hlen : (cr S T c M j).length ≤ 25 := by unfold cr; rw [List.length_map, List.length_take]; omega
  have hI := pairIdx_f (rd (rd_L1 S (q : Int)) (M.getD j (0, 0)).1, rd (rd_L1 T (q : Int)) (M.getD j (0, 0)).2) M (by omega) K (by omega)
  rw [if_pos hmem] at hI
  rw [c_Meet.l3, if_pos (by rw [List.length_map]; omega), if_pos (by omega), if_pos (by rw [List.length_map]; omega), rd_toM]
  rw [show (toM (M.getD j (0, 0))).f0 = (M.getD j (0, 0)).1 from rfl, show (toM (M.getD j (0, 0))).f1 = (M.getD j (0, 0)).2 from rfl, cS, Option.bind_some, cT, Option.bind_some, hI, Option.bind_some, if_pos (by omega), wrapN _ (by omega) (by omega), show ((j : Int) + 1) = ((j + 1 : Nat) : Int) from by omega, show K + 1 - (m + 1) - 1 = K - m - 1 from by omega]
  have ih := meet_l3 hcS hcT M hM hcl q hq c hc out ho n m (j + 1) K (by omega) (by omega)
  rw [cr_succ hj] at ih
  unfold stp at ih
  rw [hst, hst] at ih
  exact ih
theorem meet_l2 (hcS : connT S) (hcT : connT T) (K : Nat) (hK : 300 ≤ K) :
  c_Meet.l2 K ((meetP S T).map toM) [] (T.length : Int) 0 ((S.length : Int)) ((rd_L1 S 0).length : Int) ((tabL S).getD 0 0) ((tabL S).getD 1 0) ((tabL S).getD 2 0) ((tabL S).getD 3 0) ((tabL S).getD 4 0) ((tabL S).getD 5 0) ((tabL S).getD 6 0) ((tabL S).getD 7 0) ((tabL S).getD 8 0) ((tabL S).getD 9 0) ((T.length : Int)) ((rd_L1 T 0).length : Int) ((tabL T).getD 0 0) ((tabL T).getD 1 0) ((tabL T).getD 2 0) ((tabL T).getD 3 0) ((tabL T).getD 4 0) ((tabL T).getD 5 0) ((tabL T).getD 6 0) ((tabL T).getD 7 0) ((tabL T).getD 8 0) ((tabL T).getD 9 0) = some (meetT S T, 0) := by
 have hM := meetP_I hS hT hg
 have hle := hM.le hS hT
 have hcl : ∀ p ∈ meetP S T, ∀ c, letG S.length c → stp S T p c ∈ meetP S T := fun p hp c hc => meetP_cl hS hT hg hp hc
 obtain ⟨K, rfl⟩ : ∃ r, K = r + 1 := ⟨K - 1, by omega⟩
 have s0 := meet_l3 hS hT hg hcS hcT (meetP S T) hM hcl 0 hT.g1 97 rfl [] (by simp) (T.length : Int) (meetP S T).length 0 K (by omega) (by omega)
 have hg1 := hT.g1
 rw [c_Meet.l2, if_pos (by omega)]
 have e0 : c_Meet.l3 K ((meetP S T).map toM) [] 0 [] (T.length : Int) 0 ((meetP S T).map toM) (((meetP S T).map toM).length : Int) 0 ((S.length : Int)) ((rd_L1 S 0).length : Int) ((tabL S).getD 0 0) ((tabL S).getD 1 0) ((tabL S).getD 2 0) ((tabL S).getD 3 0) ((tabL S).getD 4 0) ((tabL S).getD 5 0) ((tabL S).getD 6 0) ((tabL S).getD 7 0) ((tabL S).getD 8 0) ((tabL S).getD 9 0) ((T.length : Int)) ((rd_L1 T 0).length : Int) ((tabL T).getD 0 0) ((tabL T).getD 1 0) ((tabL T).getD 2 0) ((tabL T).getD 3 0) ((tabL T).getD 4 0) ((tabL T).getD 5 0) ((tabL T).getD 6 0) ((tabL T).getD 7 0) ((tabL T).getD 8 0) ((tabL T).getD 9 0) = _ := s0
 rw [e0]
 obtain ⟨J, hJ⟩ : ∃ r, K - (meetP S T).length - 1 = r + 1 := ⟨K - (meetP S T).length - 2, by omega⟩
 rw [hJ]
 unfold meetT colsR
 rcases hT.g12 with h1 | h2
 ·rw [c_Meet.l2, if_neg (by omega), if_pos (by omega)]
  rfl
 ·have s1 := meet_l3 hS hT hg hcS hcT (meetP S T) hM hcl 1 (by omega) 98 rfl [cr S T 97 (meetP S T) (meetP S T).length] (by simp) (T.length : Int) (meetP S T).length 0 J (by omega) (by omega)
  rw [c_Meet.l2, if_pos (by omega), if_neg (by omega)]
  refine Eq.trans s1 ?_
  obtain ⟨J2, hJ2⟩ : ∃ r, J - (meetP S T).length - 1 = r + 1 := ⟨J - (meetP S T).length - 2, by omega⟩
  rw [hJ2, c_Meet.l2, if_neg (by omega)]
  rfl
theorem meet_l0 (hcS : connT S) (hcT : connT T) : ∀ (f k K : Nat) (s : List Pr), PrI S T s → prOut S T (lettersG S.length) f k s = meetP S T → 400 + 20 * f ≤ K → k + f = 26 →
  c_Meet.l0 K (s.map toM) (k : Int) ((S.length : Int)) ((rd_L1 S 0).length : Int) ((tabL S).getD 0 0) ((tabL S).getD 1 0) ((tabL S).getD 2 0) ((tabL S).getD 3 0) ((tabL S).getD 4 0) ((tabL S).getD 5 0) ((tabL S).getD 6 0) ((tabL S).getD 7 0) ((tabL S).getD 8 0) ((tabL S).getD 9 0) ((T.length : Int)) ((rd_L1 T 0).length : Int) ((tabL T).getD 0 0) ((tabL T).getD 1 0) ((tabL T).getD 2 0) ((tabL T).getD 3 0) ((tabL T).getD 4 0) ((tabL T).getD 5 0) ((tabL T).getD 6 0) ((tabL T).getD 7 0) ((tabL T).getD 8 0) ((tabL T).getD 9 0) = some (meetT S T, 0)
 | 0, k, K, s, hs, he, hK, hf => by
  obtain ⟨K, rfl⟩ : ∃ r, K = r + 1 := ⟨K - 1, by omega⟩
  have hle := hs.le hS hT
  rw [c_Meet.l0, if_neg (by rw [List.length_map]; omega)]
  unfold prOut at he
  rw [he]
  exact meet_l2 hS hT hg hcS hcT K (by omega)
 | f + 1, k, K, s, hs, he, hK, hf => by
  obtain ⟨K, rfl⟩ : ∃ r, K = r + 1 := ⟨K - 1, by omega⟩
  have hle := hs.le hS hT
  have hg2 := hT.g2
  unfold prOut at he
  by_cases hk : k < s.length
  rotate_left
  ·rw [if_neg hk] at he
   rw [c_Meet.l0, if_neg (by rw [List.length_map]; omega), he]
   exact meet_l2 hS hT hg hcS hcT K (by omega)
  rw [if_pos hk] at he
  have eL : lettersG T.length = lettersG S.length := by rw [hg]
  rw [c_Meet.l0, if_pos (by rw [List.length_map]; omega), wrapN (2 * (T.length : Int)) (by omega) (by omega), if_pos (by omega), if_pos (by omega), bytesF_letters _ hT.g12, Option.bind_some, eL]
  have hll := lettersG_len S.length
  have l1 := meet_l1 hS hT hg k (lettersG S.length) (lettersG_let hS.g12) hll (lettersG S.length).length 0 K s (by omega) hs hk (by omega)
  rw [List.drop_zero] at l1
  refine Eq.trans l1 ?_
  exact meet_l0 hcS hcT f (k + 1) (K - 2 * (lettersG S.length).length - 1) _ (prIn_I hS hT hg _ hs hk (lettersG_let hS.g12)) he (by omega) (by omega)
end
theorem cMeet_yes {S T : List (List Int)} (oS : okT S) (oT : okT T) (sS : stdT S) (sT : stdT T) (hg : S.length = T.length) (K : Nat) (hK : 2000 ≤ K) : c_Meet.f K S T = some (meetT S T, 0) := by
 have hS := (okT_tab S).1 oS
 have hT := (okT_tab T).1 oT
 rw [c_Meet.f, newTable_yes oS K, Option.bind_some, newTable_yes oT K, Option.bind_some]
 dsimp only
 rw [if_pos rfl, if_pos rfl, isStandard_f hS K (by omega), Option.bind_some, decide_eq_true (show (orderP S 0).1 = idL (nT S) from sS), if_pos rfl, isStandard_f hT K (by omega), Option.bind_some, decide_eq_true (show (orderP T 0).1 = idL (nT T) from sT), if_pos rfl]
 obtain ⟨K, rfl⟩ : ∃ r, K = r + 1 := ⟨K - 1, by omega⟩
 rw [c_Meet.j0, if_neg (by rw [hg]; simp)]
 exact meet_l0 hS hT hg (std_conn sS) (std_conn sT) 26 0 K [(0, 0)] (PrI.start hS hT) rfl (by omega) rfl
section
variable {S T : List (List Int)} (hS : Tab S) (hT : Tab T) (hg : S.length = T.length)
include hS hT hg
theorem meetT_len : (meetT S T).length = S.length := by unfold meetT colsR; rcases hS.g12 with h | h <;> rw [h] <;> rfl
theorem meetT_row : ∀ r ∈ meetT S T, r.length = (meetP S T).length := by
 have hcr : ∀ c, (cr S T c (meetP S T) (meetP S T).length).length = (meetP S T).length := fun c => by unfold cr; rw [List.length_map, List.length_take]; omega
 intro r hr
 unfold meetT colsR at hr
 split at hr
 ·rw [List.mem_singleton.1 hr]; exact hcr _
 ·rcases List.mem_cons.1 hr with h | h
  ·rw [h]; exact hcr _
  ·rw [List.mem_singleton.1 h]; exact hcr _
end
theorem perm_insert {i : Nat} {l : List Int} (h : Perm i l) (q : Nat) (hq : q ≤ i) : Perm (i + 1) (l.take q ++ [(i : Int)] ++ l.drop q) := by
 have hmem : ∀ x ∈ l.take q ++ [(i : Int)] ++ l.drop q, x ∈ l ∨ x = (i : Int) := by
  intro x hx
  rcases List.mem_append.1 hx with hx | hx
  ·rcases List.mem_append.1 hx with hx | hx
   ·exact Or.inl (List.mem_of_mem_take hx)
   ·exact Or.inr (List.mem_singleton.1 hx)
  ·exact Or.inl (List.mem_of_mem_drop hx)
 refine ⟨?_, ?_, ?_, ?_⟩
 ·have := h.len
  simp only [List.length_append, List.length_take, List.length_drop, List.length_singleton]
  omega
 ·intro x hx
  rcases hmem x hx with hx | rfl
  ·exact h.lo x hx
  ·omega
 ·intro x hx
  rcases hmem x hx with hx | rfl
  ·have := h.hi x hx; omega
  ·omega
 ·have hni : (i : Int) ∉ l := fun hm => by have := h.hi _ hm; omega
  have hnd := h.nodup
  rw [← List.take_append_drop q l] at hnd
  rw [List.nodup_append] at hnd ⊢
  obtain ⟨n1, n2, n3⟩ := hnd
  refine ⟨?_, n2, ?_⟩
  ·rw [List.nodup_append]
   refine ⟨n1, by simp, ?_⟩
   intro a ha b hb e
   rw [List.mem_singleton.1 hb] at e
   exact hni (e ▸ List.mem_of_mem_take ha)
  ·intro a ha b hb e
   rcases List.mem_append.1 ha with ha | ha
   ·exact n3 a ha b hb e
   ·rw [List.mem_singleton.1 ha] at e
    exact hni (e ▸ List.mem_of_mem_drop hb)
theorem column_l0 (l : List Int) (d : Nat) (hd : d ≤ 5) : ∀ (m i K : Nat) (c : List Int), i + m = d → Perm i c → m < K → ∃ c', rl_column.l0 K l (d : Int) c (i : Int) = some c' ∧ Perm d c'
 | 0, i, K, c, e, hc, hK => by
  obtain ⟨K, rfl⟩ : ∃ r, K = r + 1 := ⟨K - 1, by omega⟩
  obtain rfl : i = d := by omega
  refine ⟨c, ?_, hc⟩
  simp only [rl_column.l0]
  rw [if_neg (by omega)]
 | m + 1, i, K, c, e, hc, hK => by
  obtain ⟨K, rfl⟩ : ∃ r, K = r + 1 := ⟨K - 1, by omega⟩
  have hlen := hc.len
  simp only [rl_column.l0]
  have hw : wrap64 ((i : Int) + 1) = ((i + 1 : Nat) : Int) := by rw [wrapN _ (by omega) (by omega)]; omega
  rw [if_pos (by omega), hw]
  by_cases hl : (i : Int) < (l.length : Int)
  rotate_left
  ·rw [if_neg hl, if_pos (by omega), if_pos (by omega)]
   simp only [Option.bind_some]
   rw [if_pos (by simp; omega), if_pos (by simp; omega), if_pos (by simp; omega)]
   simp only [Int.toNat_natCast, List.nil_append]
   exact column_l0 l d hd m (i + 1) K _ (by omega) (perm_insert hc i (by omega)) (by omega)
  obtain ⟨q, hq, hlt⟩ := mod_f (rd l (i : Int)) (i + 1) (by omega) (by omega)
  rw [if_pos hl, if_pos (by omega), hq]
  simp only [Option.bind_some]
  rw [if_pos (by omega), if_pos (by omega), if_pos (by simp; omega), if_pos (by simp; omega), if_pos (by simp; omega)]
  simp only [Int.toNat_natCast, List.nil_append]
  exact column_l0 l d hd m (i + 1) K _ (by omega) (perm_insert hc q (by omega)) (by omega)
theorem column_f (l : List Int) (d : Nat) (hd : d ≤ 5) (K : Nat) (hK : 10 ≤ K) : ∃ c, rl_column.f K l (d : Int) = some c ∧ Perm d c := by
 have h0 : Perm 0 ([] : List Int) := ⟨rfl, by simp, by simp, by simp⟩
 obtain ⟨c, h1, h2⟩ := column_l0 l d hd d 0 K [] (by omega) h0 (by omega)
 exact ⟨c, h1, h2⟩
def cycI (d : Nat) : List Int := (List.range d).map fun i => (((i + 1) % d : Nat) : Int)
theorem cycI_len (d : Nat) : (cycI d).length = d := by simp [cycI]
theorem cycI_perm (d : Nat) (h1 : 1 ≤ d) (h5 : d ≤ 5) : Perm d (cycI d) := by
 obtain rfl | rfl | rfl | rfl | rfl : d = 1 ∨ d = 2 ∨ d = 3 ∨ d = 4 ∨ d = 5 := by omega
 ·exact (okC_perm (cycI_len 1)).1 (by decide +kernel)
 ·exact (okC_perm (cycI_len 2)).1 (by decide +kernel)
 ·exact (okC_perm (cycI_len 3)).1 (by decide +kernel)
 ·exact (okC_perm (cycI_len 4)).1 (by decide +kernel)
 ·exact (okC_perm (cycI_len 5)).1 (by decide +kernel)
theorem cyc_set (d i : Nat) (c : List Int) (hc : c.length = d) (hi : i < d) : ((cycI d).take i ++ c.drop i).set i (((i + 1) % d : Nat) : Int) = (cycI d).take (i + 1) ++ c.drop (i + 1) := by
 have hl := cycI_len d
 rw [List.set_append_right _ _ (by simp [hl]; omega), List.length_take, hl, Nat.min_eq_left (by omega), Nat.sub_self, List.drop_eq_getElem_cons (by omega), List.set_cons_zero, List.take_succ_eq_append_getElem (by omega), List.append_assoc]
 simp [cycI]
theorem tab_cons {d : Nat} {c : List Int} {R : List (List Int)} (hR : R.length ≤ 1) (h1 : 1 ≤ d) (h5 : d ≤ 5) (hc : Perm d c) (hr : ∀ x ∈ R, Perm d x) : Tab (c :: R) ∧ nT (c :: R) = d := by
 have hn : nT (c :: R) = d := hc.len
 refine ⟨⟨by simp, by simp; omega, by omega, by omega, fun k hk => ?_⟩, hn⟩
 rw [hn]
 cases k with
 | zero => exact hc
 | succ k =>
  have hk' : k < R.length := by simpa using hk
  have : rd_L1 (c :: R) ((k + 1 : Nat) : Int) = R[k] := by
   unfold rd_L1
   rw [Int.toNat_natCast]
   simp [hk']
  rw [this]
  exact hr _ (List.getElem_mem hk')
theorem cyc_conn {d : Nat} {R : List (List Int)} (h : Tab (cycI d :: R)) (hn : nT (cycI d :: R) = d) : connT (cycI d :: R) := by
 have hd1 := h.d1
 have hall : ∀ n : Nat, n < d → (n : Int) ∈ (orderP (cycI d :: R) 0).1 := by
  intro n
  induction n with
  | zero => intro _; exact orderP_self h 0
  | succ n ih =>
   intro hlt
   have := orderP_step h (show (0 : Int) ≤ 0 by omega) (by omega) (ih (by omega)) (Or.inl rfl : letG (cycI d :: R).length 97)
   rw [stepT_97] at this
   have e : rd (rd_L1 (cycI d :: R) 0) (n : Int) = ((n + 1 : Nat) : Int) := by
    show rd (cycI d) (n : Int) = _
    simp only [rd, Int.toNat_natCast, cycI, List.getD, List.getElem?_map, List.getElem?_range (show n < d by omega), Option.map_some, Option.getD_some]
    rw [Nat.mod_eq_of_lt hlt]
   rwa [e] at this
 have hge := nodup_ge d _ (fun i h0 h1 => by have := hall i.toNat (by omega); rwa [Int.toNat_of_nonneg h0] at this)
 have hle := (orderP_W h (show (0 : Int) ≤ 0 by omega) (by omega)).le
 unfold connT
 omega
theorem standard_l0 (d : Nat) (h1 : 1 ≤ d) (h5 : d ≤ 5) (c : List Int) (hc : Perm d c) (R : List (List Int)) (hR : R.length ≤ 1) (hr : ∀ x ∈ R, Perm d x) : ∀ (m i K : Nat), i + m = d → m + 1000 < K →
  rl_standard.l0 K (d : Int) (((cycI d).take i ++ c.drop i) :: R) (i : Int) = some (renT (cycI d :: R) 0)
 | 0, i, K, e, hK => by
  obtain ⟨K, rfl⟩ : ∃ r, K = r + 1 := ⟨K - 1, by omega⟩
  have hl := cycI_len d
  obtain ⟨tab, hn⟩ := tab_cons hR h1 h5 (cycI_perm d h1 h5) hr
  simp only [rl_standard.l0]
  rw [if_neg (by omega), List.drop_eq_nil_of_le (by rw [hc.len]; omega), List.append_nil, List.take_of_length_le (by omega), Renumber_f tab (cyc_conn tab hn) (by omega) (by omega) K (by omega)]
  rfl
 | m + 1, i, K, e, hK => by
  obtain ⟨K, rfl⟩ : ∃ r, K = r + 1 := ⟨K - 1, by omega⟩
  have hl := cycI_len d
  have hcl := hc.len
  have hw : wrap64 ((i : Int) + 1) = ((i + 1 : Nat) : Int) := by rw [wrapN _ (by omega) (by omega)]; omega
  have hrow : rd_L1 (((cycI d).take i ++ c.drop i) :: R) 0 = (cycI d).take i ++ c.drop i := rfl
  have htm : Int.tmod ((i + 1 : Nat) : Int) (d : Int) = (((i + 1) % d : Nat) : Int) := rfl
  simp only [rl_standard.l0]
  rw [if_pos (by omega), if_pos (by simp), if_neg (by omega), if_pos (by omega), hrow, if_pos (by simp; omega), hw, htm, Int.toNat_natCast, cyc_set d i c hcl (by omega)]
  exact standard_l0 d h1 h5 c hc R hR hr m (i + 1) K (by omega) (by omega)
theorem standard_j0 (d : Nat) (h1 : 1 ≤ d) (h5 : d ≤ 5) (c : List Int) (hc : Perm d c) (R : List (List Int)) (hR : R.length ≤ 1) (hr : ∀ x ∈ R, Perm d x) (K : Nat) (hK : 1100 ≤ K) :
  ∃ T, rl_standard.j0 K (d : Int) (c :: R) = some T ∧ Tab T ∧ stdT T ∧ T.length = R.length + 1 := by
 obtain ⟨K, rfl⟩ : ∃ r, K = r + 1 := ⟨K - 1, by omega⟩
 obtain ⟨tab, hn⟩ := tab_cons hR h1 h5 hc hr
 simp only [rl_standard.j0]
 rw [Connected_f tab K (by omega), Option.bind_some]
 by_cases hcn : connT (c :: R)
 ·rw [if_pos (decide_eq_true (show (orderP (c :: R) 0).1.length = nT (c :: R) from hcn)), Renumber_f tab hcn (by omega) (by omega) K (by omega)]
  exact ⟨_, rfl, renT_tab tab hcn (by omega) (by omega), (renT_std tab hcn (by omega) (by omega)).1, by rw [renT_len]; rfl⟩
 obtain ⟨tab2, hn2⟩ := tab_cons hR h1 h5 (cycI_perm d h1 h5) hr
 have hc2 := cyc_conn tab2 hn2
 have := standard_l0 d h1 h5 c hc R hR hr d 0 K (by omega) (by omega)
 simp only [List.take_zero, List.drop_zero, List.nil_append, Int.natCast_zero] at this
 rw [if_neg (by rw [decide_eq_false (show ¬ (orderP (c :: R) 0).1.length = nT (c :: R) from hcn)]; simp), this]
 exact ⟨_, rfl, renT_tab tab2 hc2 (by omega) (by omega), (renT_std tab2 hc2 (by omega) (by omega)).1, by rw [renT_len]; rfl⟩
theorem standard_f (g : Nat) (hg : g = 1 ∨ g = 2) (d : Int) (a b : List Int) (K : Nat) (hK : 1100 ≤ K) : ∃ T, rl_standard.f K (g : Int) d a b = some T ∧ Tab T ∧ stdT T ∧ T.length = g := by
 obtain ⟨m, hm, hlt⟩ := mod_f d 5 (by omega) (by omega)
 have hm' : rl_mod.f d 5 = some (m : Int) := hm
 obtain ⟨c, hc1, hc2⟩ := column_f a (1 + m) (by omega) K (by omega)
 obtain ⟨e, he1, he2⟩ := column_f b (1 + m) (by omega) K (by omega)
 have hw : wrap64 (1 + (m : Int)) = ((1 + m : Nat) : Int) := by rw [wrapN _ (by omega) (by omega)]; omega
 unfold rl_standard.f
 rw [hm', Option.bind_some, hw, hc1, Option.bind_some, if_pos (by simp), Option.bind_some]
 rcases hg with rfl | rfl
 ·rw [if_neg (by omega)]
  exact standard_j0 (1 + m) (by omega) (by omega) c hc2 [] (by simp) (by simp) K hK
 ·rw [if_pos (show ((2 : Nat) : Int) = 2 from rfl), he1, Option.bind_some, if_pos (by simp)]
  exact standard_j0 (1 + m) (by omega) (by omega) c hc2 [e] (by simp) (by simp; exact he2) K hK
theorem g12_f (x : Int) : ∃ g : Nat, (g = 1 ∨ g = 2) ∧ ∃ m : Int, rl_mod.f x 2 = some m ∧ wrap64 (1 + m) = (g : Int) := by
 obtain ⟨m, hm, hlt⟩ := mod_f x 2 (by omega) (by omega)
 refine ⟨1 + m, by omega, (m : Int), hm, ?_⟩
 rw [wrapN _ (by omega) (by omega)]
 omega
theorem refSend_of {T : List (List Int)} (tab : Tab T) {i : Int} (h0 : 0 ≤ i) (h1 : i < nT T) {u : List Int} (hu : ∀ c ∈ u, letG T.length c) (hl : u.length ≤ 1000) (k : Nat) (hk : 1100 ≤ k) : rr_Send.f k T i (strOfNums u) = some (followT T i u) := by
 have hs := strBytes_strOfNums u (fun c hc => (hu c hc).letC)
 rw [refSend_f tab (strOfNums u) (by rw [strOfNums_size]; omega) (by rw [hs]; exact hu) i h0 h1 k (by rw [strOfNums_size]; omega), hs]
theorem word_of (s : ByteArray) {g : Nat} (hg : g = 1 ∨ g = 2) (most : Nat) (hm : most ≤ 100) (k : Nat) (hk : 1100 ≤ k) : ∃ u : List Int, rl_word.f k s (g : Int) (most : Int) = some (strOfNums u) ∧ (∀ c ∈ u, letG g c) ∧ u.length ≤ most := word_f s g hg most hm k (by omega)
def dg (x : Int) : Pr := (x, x)
theorem dg_mem {x : Int} {s : List Int} : dg x ∈ s.map dg ↔ x ∈ s := by
 constructor
 ·intro h
  obtain ⟨y, hy, e⟩ := List.mem_map.1 h
  exact (show y = x from congrArg Prod.fst e) ▸ hy
 ·exact fun h => List.mem_map.2 ⟨x, h, rfl⟩
theorem dg_idx {y : Int} : ∀ {l : List Int}, y ∈ l → ((idxP (dg y) (l.map dg) : Nat) : Int) = idxL y l 0
 | x :: l, h => by
  show (((if dg x = dg y then 0 else idxP (dg y) (l.map dg) + 1 : Nat)) : Int) = if y = x then 0 else idxL y l (0 + 1)
  by_cases e : y = x
  ·rw [if_pos (by rw [e]), if_pos e]; rfl
  ·have hm := (List.mem_cons.1 h).resolve_left e
   rw [if_neg (fun e2 => e (congrArg Prod.fst e2).symm), if_neg e, idxL_shift y l (0 + 1) hm, ← dg_idx hm]
   omega
theorem prIn_dg {T : List (List Int)} {k : Nat} : ∀ (L : List Int) (s : List Int × List (List Int)), k < s.1.length → prIn T T k L (s.1.map dg) = (ordIn T k L s).1.map dg
 | [], _, _ => rfl
 | c :: L, s, hk => by
  have hg : (s.1.map dg).getD k (0, 0) = dg (rd s.1 (k : Int)) := by simp [List.getD, hk, rd]
  have hs : stp T T (dg (rd s.1 (k : Int))) c = dg (stepT T (rd s.1 (k : Int)) c) := rfl
  unfold prIn ordIn
  rw [hg, hs]
  unfold addP
  by_cases hm : stepT T (rd s.1 (k : Int)) c ∈ s.1
  ·rw [if_pos (dg_mem.2 hm), if_pos hm]
   exact prIn_dg L s hk
  ·rw [if_neg (fun e => hm (dg_mem.1 e)), if_neg hm, ← prIn_dg L _ (by show k < (s.1 ++ [_]).length; rw [List.length_append]; omega), List.map_append]
   rfl
theorem prOut_dg {T : List (List Int)} (h : Tab T) {L : List Int} (hL : ∀ c ∈ L, letG T.length c) : ∀ (f' k f : Nat) (s : List Int × List (List Int)), OrdW T 0 s → k + f' = 6 → f' ≤ f → prOut T T L f k (s.1.map dg) = (ordOut T L f' k s).1.map dg
 | 0, k, f, s, hs, e, hf => by
  have hle := hs.le
  have hd := h.d5
  cases f with
  | zero => rfl
  | succ f =>
   unfold prOut ordOut
   rw [if_neg (by rw [List.length_map]; omega)]
 | f' + 1, k, f, s, hs, e, hf => by
  obtain ⟨f, rfl⟩ : ∃ r, f = r + 1 := ⟨f - 1, by omega⟩
  unfold prOut ordOut
  by_cases hk : k < s.1.length
  ·rw [if_pos (by rw [List.length_map]; exact hk), if_pos hk, prIn_dg L s hk]
   exact prOut_dg h hL f' (k + 1) f _ (ordIn_W h L s hs hk hL).1 (by omega) (by omega)
  ·rw [if_neg (by rw [List.length_map]; exact hk), if_neg hk]
theorem meetP_self {T : List (List Int)} (h : Tab T) (hs : stdT T) : meetP T T = (idL (nT T)).map dg := by
 have h0 := prOut_dg h (lettersG_let h.g12) 6 0 26 ([0], [[]]) (OrdW.start (Int.le_refl _) (by have := h.d1; omega)) rfl (by omega)
 have e : (ordOut T (lettersG T.length) 6 0 ([0], [[]])).1 = idL (nT T) := hs
 rw [e] at h0
 exact h0
theorem meetT_self {T : List (List Int)} (h : Tab T) (hs : stdT T) : meetT T T = T := by
 have hp := meetP_self h hs
 have hl : (meetP T T).length = nT T := by rw [hp, List.length_map, idL_len]
 have hcr : ∀ (q : Nat) (c : Int), q < T.length → (∀ x : Int, stepT T x c = rd (rd_L1 T (q : Int)) x) → cr T T c (meetP T T) (meetP T T).length = rd_L1 T (q : Int) := by
  intro q c hq hc
  have hcol := h.col q hq
  unfold cr
  rw [List.take_of_length_le (Nat.le_refl _), hp, List.map_map]
  refine List.ext_getElem (by rw [List.length_map, idL_len, hcol.len]) fun i h1 h2 => ?_
  rw [List.length_map, idL_len] at h1
  have hi : (idL (nT T))[i]'(by rw [idL_len]; exact h1) = (i : Int) := by simp [idL]
  have hx : rd (rd_L1 T (q : Int)) (i : Int) = (rd_L1 T (q : Int))[i] := by simp [rd, h2]
  have hr := hcol.get (i : Int) (by omega) (by omega)
  have hm : rd (rd_L1 T (q : Int)) (i : Int) ∈ idL (nT T) := (idL_mem _ _).2 hr
  rw [List.getElem_map, hi]
  show ((idxP (stp T T (dg (i : Int)) c) ((idL (nT T)).map dg) : Nat) : Int) = _
  have hst : stp T T (dg (i : Int)) c = dg (rd (rd_L1 T (q : Int)) (i : Int)) := by
   show (stepT T (i : Int) c, stepT T (i : Int) c) = _
   rw [hc]
   rfl
  rw [hst, dg_idx hm]
  have h3 := idxL_rd (idL (nT T)) (rd (rd_L1 T (q : Int)) (i : Int)).toNat (by
   unfold idL
   rw [List.nodup_iff_pairwise_ne, List.pairwise_map]
   exact List.Pairwise.imp (fun {a b} hab e => hab (Int.ofNat_inj.1 e)) (List.nodup_range (n := nT T))) (by rw [idL_len]; omega)
  rw [idL_rd _ _ (by omega), Int.toNat_of_nonneg hr.1] at h3
  rw [h3, hx]
 have hc0 := hcr 0 97 h.g1 (fun x => rfl)
 unfold meetT colsR
 rcases h.g12 with e | e
 ·rw [if_pos e, hc0]
  match T, e with
  | [c], _ => rfl
 ·have hc1 := hcr 1 98 (by omega) (fun x => rfl)
  rw [if_neg (by omega), hc0, hc1]
  match T, e with
  | [c, d], _ => rfl
section
variable {S T : List (List Int)} (hS : Tab S) (hT : Tab T) (hg : S.length = T.length)
include hS hT hg
theorem meet_follow : ∀ (w : List Int) {p : Pr}, p ∈ meetP S T → (∀ c ∈ w, letG S.length c) → (followT S p.1 w, followT T p.2 w) ∈ meetP S T
 | [], p, hp, _ => hp
 | c :: w, p, hp, hw => meet_follow w (p := stp S T p c) (meetP_cl hS hT hg hp (hw c (by simp))) (fun x hx => hw x (by simp [hx]))
theorem meet_zero : ((0, 0) : Pr) ∈ meetP S T := by
 obtain ⟨t, ht⟩ := (meetP_I hS hT hg).head
 rw [ht]; simp
theorem meet_geS (hs : stdT S) : nT S ≤ (meetP S T).length := by
 have := nodup_ge (nT S) ((meetP S T).map Prod.fst) (fun i i0 i1 => by
  have hd := hS.d1
  have hm := (conn_all hS (std_conn hs) (show (0 : Int) ≤ 0 by omega) (by omega)).2 i i0 i1
  have hW := orderP_W hS (show (0 : Int) ≤ 0 by omega) (by omega)
  obtain ⟨j, hj, e⟩ := mem_rd hm
  have hw := hW.way j hj
  have hr := hW.red _ (getD_mem _ [] j (by rw [hW.len]; exact hj))
  rw [e] at hw
  exact List.mem_map.2 ⟨_, meet_follow hS hT hg _ (meet_zero hS hT hg) hr.1.let_, hw⟩)
 rwa [List.length_map] at this
theorem meet_geT (hs : stdT T) : nT T ≤ (meetP S T).length := by
 have := nodup_ge (nT T) ((meetP S T).map Prod.snd) (fun i i0 i1 => by
  have hd := hT.d1
  have hm := (conn_all hT (std_conn hs) (show (0 : Int) ≤ 0 by omega) (by omega)).2 i i0 i1
  have hW := orderP_W hT (show (0 : Int) ≤ 0 by omega) (by omega)
  obtain ⟨j, hj, e⟩ := mem_rd hm
  have hw := hW.way j hj
  have hr := hW.red _ (getD_mem _ [] j (by rw [hW.len]; exact hj))
  rw [e] at hw
  exact List.mem_map.2 ⟨_, meet_follow hS hT hg _ (meet_zero hS hT hg) (by rw [hg]; exact hr.1.let_), hw⟩)
 rwa [List.length_map] at this
theorem meetT_rd (q : Nat) (hq : q < S.length) (c : Int) (hc : c = if q = 0 then 97 else 98) : rd_L1 (meetT S T) (q : Int) = cr S T c (meetP S T) (meetP S T).length := by
 have hg2 := hS.g2
 unfold meetT colsR
 rcases hS.g12 with e | e
 ·obtain rfl : q = 0 := by omega
  rw [if_pos e, hc]; rfl
 ·rw [if_neg (by omega)]
  have : q = 0 ∨ q = 1 := by omega
  rcases this with rfl | rfl
  ·rw [hc]; rfl
  ·rw [hc]; rfl
omit hS hT hg in
theorem cr_rd (c : Int) (M : List Pr) (j : Nat) (hj : j < M.length) : rd (cr S T c M M.length) (j : Int) = ((idxP (stp S T M[j] c) M : Nat) : Int) := by
 unfold cr
 rw [List.take_of_length_le (Nat.le_refl _)]
 simp [rd, hj]
theorem fol_l1 (q : Nat) (hq : q < S.length) (i : Int) (w : ByteArray) (x7 : Int) (b : Bool) (J : Nat) (hJ : J < (meetP S T).length)
  (hcond : ∀ j : Nat, j < (meetP S T).length → ((if b = true then rd (rd_L1 (meetT S T) (q : Int)) (j : Int) else (j : Int)) = i ↔ j = J)) : ∀ (m j K : Nat) (n : Int), j + m = (meetP S T).length → m + 5 ≤ K → n = (if J < j then (J : Int) else -1) →
  rl_follow.l1 K (meetT S T) i w x7 (q : Int) b n (j : Int) = (if b = true then rl_follow.l0 (K - m - 1) (meetT S T) (J : Int) w (wrap64 (x7 + 1)) else rl_follow.l0 (K - m - 1) (meetT S T) (rd (rd_L1 (meetT S T) (q : Int)) (J : Int)) w (wrap64 (x7 + 1)))
 | 0, j, K, n, e, hK, hn => by
  obtain ⟨K, rfl⟩ : ∃ r, K = r + 1 := ⟨K - 1, by omega⟩
  have hle := (meetP_I hS hT hg).le hS hT
  have hml := meetT_len hS hT hg
  have hrow : (rd_L1 (meetT S T) (q : Int)).length = (meetP S T).length := meetT_row hS hT hg _ (by
   have : rd_L1 (meetT S T) (q : Int) = (meetT S T)[q]'(by omega) := by simp [rd_L1, show q < (meetT S T).length from by omega]
   rw [this]; exact List.getElem_mem _)
  rw [if_pos (by omega)] at hn
  subst hn
  rw [rl_follow.l1, if_pos (by omega), if_pos (by omega), if_neg (by omega), if_neg (by omega)]
  cases b
  ·rw [if_neg (show ¬ (false = true) by simp), if_neg (show ¬ (false = true) by simp), if_pos (by omega), if_pos (by omega)]
   rfl
  ·rw [if_pos rfl, if_pos rfl]
   rfl
 | m + 1, j, K, n, e, hK, hn => by
  obtain ⟨K, rfl⟩ : ∃ r, K = r + 1 := ⟨K - 1, by omega⟩
  have hle := (meetP_I hS hT hg).le hS hT
  have hml := meetT_len hS hT hg
  have hrow : (rd_L1 (meetT S T) (q : Int)).length = (meetP S T).length := meetT_row hS hT hg _ (by
   have : rd_L1 (meetT S T) (q : Int) = (meetT S T)[q]'(by omega) := by simp [rd_L1, show q < (meetT S T).length from by omega]
   rw [this]; exact List.getElem_mem _)
  have hc := hcond j (by omega)
  have ihy : ∀ n' : Int, n' = (if J < j + 1 then (J : Int) else -1) → _ := fun n' hn' => fol_l1 q hq i w x7 b J hJ hcond m (j + 1) K n' (by omega) (by omega) hn'
  rw [rl_follow.l1, if_pos (by omega), if_pos (by omega), if_pos (by omega), wrapN ((j : Int) + 1) (by omega) (by omega), show ((j : Int) + 1) = ((j + 1 : Nat) : Int) from by omega, show K + 1 - (m + 1) - 1 = K - m - 1 from by omega]
  have hj0 : (0 : Int) ≤ (j : Int) := by omega
  cases b
  ·rw [if_neg (by simp)]
   rw [if_neg (show ¬ (false = true) by simp)] at hc
   by_cases hx : (j : Int) = i
   ·obtain rfl := hc.1 hx
    rw [if_pos hx]
    exact ihy _ (by rw [if_pos (by omega)])
   have hne : j ≠ J := fun e2 => hx (hc.2 e2)
   rw [if_neg hx]
   refine ihy _ ?_
   rw [hn]
   by_cases hJj : J < j
   ·rw [if_pos hJj, if_pos (by omega)]
   ·rw [if_neg hJj, if_neg (by omega)]
  ·rw [if_pos rfl, if_pos hj0]
   rw [if_pos rfl] at hc
   by_cases hx : rd (rd_L1 (meetT S T) (q : Int)) (j : Int) = i
   ·obtain rfl := hc.1 hx
    rw [if_pos hx]
    exact ihy _ (by rw [if_pos (by omega)])
   have hne : j ≠ J := fun e2 => hx (hc.2 e2)
   rw [if_neg hx]
   refine ihy _ ?_
   rw [hn]
   by_cases hJj : J < j
   ·rw [if_pos hJj, if_pos (by omega)]
   ·rw [if_neg hJj, if_neg (by omega)]
omit hS hT hg in
theorem idxP_inj {x y : Pr} {l : List Pr} (hx : x ∈ l) (hy : y ∈ l) (e : idxP x l = idxP y l) : x = y := by
 rw [← idxP_get hx, e, idxP_get hy]
theorem stp_range {p : Pr} (hp : p ∈ meetP S T) : (0 ≤ p.1 ∧ p.1 < nT S) ∧ (0 ≤ p.2 ∧ p.2 < nT T) := (meetP_I hS hT hg).rng p hp
theorem fol_fwd (q : Nat) (hq : q < S.length) (c : Int) (hc : c = if q = 0 then 97 else 98) (p : Pr) (hp : p ∈ meetP S T) (w : ByteArray) (x7 : Int) (K : Nat) (hK : 40 ≤ K) :
  rl_follow.l1 K (meetT S T) ((idxP p (meetP S T) : Nat) : Int) w x7 (q : Int) false (-1) 0 = rl_follow.l0 (K - (meetP S T).length - 1) (meetT S T) ((idxP (stp S T p c) (meetP S T) : Nat) : Int) w (wrap64 (x7 + 1)) := by
 have hle := (meetP_I hS hT hg).le hS hT
 have hJ := idxP_lt hp
 have := fol_l1 hS hT hg q hq ((idxP p (meetP S T) : Nat) : Int) w x7 false (idxP p (meetP S T)) hJ (fun j hj => by rw [if_neg (by simp)]; exact Int.ofNat_inj) (meetP S T).length 0 K (-1) (by omega) (by omega) (by rw [if_neg (by omega)])
 rw [if_neg (by simp), meetT_rd hS hT hg q hq c hc, cr_rd c _ _ hJ] at this
 have hget : (meetP S T)[idxP p (meetP S T)] = p := by
  have h1 := idxP_get hp
  simpa [List.getD, hJ] using h1
 rw [hget] at this
 exact this
theorem fol_back (q : Nat) (hq : q < S.length) (c d : Int) (hc : c = if q = 0 then 97 else 98) (hd : d = if q = 0 then 65 else 66) (p : Pr) (hp : p ∈ meetP S T) (w : ByteArray) (x7 : Int) (K : Nat) (hK : 40 ≤ K) :
  rl_follow.l1 K (meetT S T) ((idxP p (meetP S T) : Nat) : Int) w x7 (q : Int) true (-1) 0 = rl_follow.l0 (K - (meetP S T).length - 1) (meetT S T) ((idxP (stp S T p d) (meetP S T) : Nat) : Int) w (wrap64 (x7 + 1)) := by
 have hI := meetP_I hS hT hg
 have hle := hI.le hS hT
 have hg2 := hS.g2
 have hlc : letG S.length c := by
  unfold letG
  by_cases h0 : q = 0
  ·rw [if_pos h0] at hc; omega
  ·rw [if_neg h0] at hc; omega
 have hld : letG S.length d := by
  unfold letG
  by_cases h0 : q = 0
  ·rw [if_pos h0] at hd; omega
  ·rw [if_neg h0] at hd; omega
 have hcd : invI c = d := by
  by_cases h0 : q = 0
  ·rw [if_pos h0] at hc hd; subst hc; subst hd; rfl
  ·rw [if_neg h0] at hc hd; subst hc; subst hd; rfl
 have hdc : invI d = c := by
  by_cases h0 : q = 0
  ·rw [if_pos h0] at hc hd; subst hc; subst hd; rfl
  ·rw [if_neg h0] at hc hd; subst hc; subst hd; rfl
 have hpd := meetP_cl hS hT hg hp hld
 have hJ := idxP_lt hpd
 have rp := stp_range hS hT hg hp
 have hbk : stp S T (stp S T p d) c = p := by
  have e1 := stepT_inv hS rp.1.1 rp.1.2 hld
  have e2 := stepT_inv hT rp.2.1 rp.2.2 (hg ▸ hld)
  rw [hdc] at e1 e2
  exact Prod.ext e1 e2
 have := fol_l1 hS hT hg q hq ((idxP p (meetP S T) : Nat) : Int) w x7 true (idxP (stp S T p d) (meetP S T)) hJ (fun j hj => by
  have hm := List.getElem_mem hj
  have hmc := meetP_cl hS hT hg hm hlc
  have rj := stp_range hS hT hg hm
  rw [if_pos rfl, meetT_rd hS hT hg q hq c hc, cr_rd c _ _ hj]
  constructor
  ·intro e
   have e2 : stp S T (meetP S T)[j] c = p := idxP_inj hmc hp (Int.ofNat_inj.1 e)
   have e3 : stp S T p d = (meetP S T)[j] := by
    rw [← e2]
    have f1 := stepT_inv hS rj.1.1 rj.1.2 hlc
    have f2 := stepT_inv hT rj.2.1 rj.2.2 (hg ▸ hlc)
    rw [hcd] at f1 f2
    exact Prod.ext f1 f2
   rw [e3]
   refine (idxP_take (x := (meetP S T)[j]) (j := j) ?_ hj rfl).symm
   intro hin
   obtain ⟨a, ha, ea⟩ := List.getElem_of_mem hin
   rw [List.length_take] at ha
   rw [List.getElem_take] at ea
   exact (List.pairwise_iff_getElem.1 hI.nodup) a j (by omega) hj (by omega) ea
  ·rintro rfl
   have h1 := idxP_get hpd
   have hget : (meetP S T)[idxP (stp S T p d) (meetP S T)] = stp S T p d := by simpa [List.getD, hj] using h1
   rw [hget, hbk]) (meetP S T).length 0 K (-1) (by omega) (by omega) (by rw [if_neg (by omega)])
 rw [if_pos rfl] at this
 exact this
theorem fol_l0 (s : ByteArray) (hs : s.size ≤ 1000) (hlet : ∀ c ∈ strBytes s, letG S.length c) : ∀ (m j K : Nat) (p : Pr), j + m = s.size → p ∈ meetP S T → 50 * m + 60 ≤ K →
  rl_follow.l0 K (meetT S T) ((idxP p (meetP S T) : Nat) : Int) s (j : Int) = some ((idxP (followT S p.1 ((strBytes s).drop j), followT T p.2 ((strBytes s).drop j)) (meetP S T) : Nat) : Int)
 | 0, j, K, p, e, hp, hK => by
  obtain ⟨K, rfl⟩ : ∃ r, K = r + 1 := ⟨K - 1, by omega⟩
  rw [rl_follow.l0, if_neg (by omega), List.drop_eq_nil_of_le (by rw [strBytes_length]; omega)]
  rfl
 | m + 1, j, K, p, e, hp, hK => by
  obtain ⟨K, rfl⟩ : ∃ r, K = r + 4 := ⟨K - 4, by omega⟩
  have hj : j < s.size := by omega
  have hle := (meetP_I hS hT hg).le hS hT
  have hml := meetT_len hS hT hg
  have hg1 := hS.g1
  have hd : (strBytes s).drop j = bt s j :: (strBytes s).drop (j + 1) := by
   rw [List.drop_eq_getElem_cons (by rw [strBytes_length]; exact hj), rd_strBytes s j hj]
  have hlc : letG S.length (bt s j) := hlet _ (by rw [← rd_strBytes s j hj]; exact List.getElem_mem _)
  have hpc := meetP_cl hS hT hg hp hlc
  have ih := fol_l0 s hs hlet m (j + 1) (K - (meetP S T).length - 1) (stp S T p (bt s j)) (by omega) hpc (by omega)
  have hw : wrap64 ((j : Int) + 1) = ((j + 1 : Nat) : Int) := by rw [wrapN _ (by omega) (by omega)]; omega
  have hj0 : (0 : Int) ≤ (j : Int) := by omega
  have hj1 : (j : Int) < (s.size : Int) := by omega
  rw [hd]
  show _ = some ((idxP (followT S (stepT S p.1 (bt s j)) ((strBytes s).drop (j + 1)), followT T (stepT T p.2 (bt s j)) ((strBytes s).drop (j + 1))) (meetP S T) : Nat) : Int)
  refine Eq.trans ?_ ih
  have hcase : bt s j = 97 ∨ bt s j = 65 ∨ (S.length = 2 ∧ (bt s j = 98 ∨ bt s j = 66)) := hlc
  rw [rl_follow.l0, if_pos hj1, if_pos hj0]
  rcases hcase with e1 | e1 | ⟨hg2, e1 | e1⟩
  ·have hf := fol_fwd hS hT hg 0 hg1 97 rfl p hp s (j : Int) K (by omega)
   rw [e1, if_neg (by omega), show ((97 : Int) == 66) = false from rfl, rl_follow.j1, if_pos hj0, if_pos hj1, e1, if_neg (by omega), show ((97 : Int) == 66) = false from rfl, rl_follow.j2, if_neg (by simp), rl_follow.j3, if_neg (by omega)]
   rw [hw] at hf
   exact hf
  ·have hf := fol_back hS hT hg 0 hg1 97 65 rfl rfl p hp s (j : Int) K (by omega)
   rw [e1, if_pos rfl, rl_follow.j1, if_pos hj0, if_pos hj1, e1, if_neg (by omega), show ((65 : Int) == 66) = false from rfl, rl_follow.j2, if_neg (by simp), rl_follow.j3, if_neg (by omega)]
   rw [hw] at hf
   exact hf
  ·have hf := fol_fwd hS hT hg 1 (by omega) 98 rfl p hp s (j : Int) K (by omega)
   rw [e1, if_neg (by omega), show ((98 : Int) == 66) = false from rfl, rl_follow.j1, if_pos hj0, if_pos hj1, e1, if_pos rfl, rl_follow.j2, if_pos rfl, rl_follow.j3, if_neg (by omega)]
   rw [hw] at hf
   exact hf
  ·have hf := fol_back hS hT hg 1 (by omega) 98 66 rfl rfl p hp s (j : Int) K (by omega)
   rw [e1, if_neg (by omega), show ((66 : Int) == 66) = true from rfl, rl_follow.j1, if_pos hj0, if_pos hj1, e1, if_neg (by omega), show ((66 : Int) == 66) = true from rfl, rl_follow.j2, if_pos rfl, rl_follow.j3, if_neg (by omega)]
   rw [hw] at hf
   exact hf
theorem meet_word {u : List Int} (hu : ∀ c ∈ u, letG S.length c) (hl : u.length ≤ 1000) (K : Nat) (hK : 50 * u.length + 60 ≤ K) :
  ∃ z : Nat, rl_follow.f K (meetT S T) 0 (strOfNums u) = some (z : Int) ∧ (z = 0 ↔ followT S 0 u = 0 ∧ followT T 0 u = 0) := by
 have hs := strBytes_strOfNums u (fun c hc => (hu c hc).letC)
 have h0 := meet_zero hS hT hg
 obtain ⟨t, ht⟩ := (meetP_I hS hT hg).head
 have hf := fol_l0 hS hT hg (strOfNums u) (by rw [strOfNums_size]; omega) (by rw [hs]; exact hu) (strOfNums u).size 0 K (0, 0) (by omega) h0 (by rw [strOfNums_size]; omega)
 rw [List.drop_zero, hs] at hf
 have hz : idxP ((0, 0) : Pr) (meetP S T) = 0 := by rw [ht]; simp [idxP]
 rw [hz] at hf
 refine ⟨_, hf, ?_⟩
 have hm := meet_follow hS hT hg u h0 hu
 constructor
 ·intro e
  have := idxP_inj hm h0 (e.trans hz.symm)
  exact ⟨congrArg Prod.fst this, congrArg Prod.snd this⟩
 ·rintro ⟨e1, e2⟩
  show idxP (followT S 0 u, followT T 0 u) (meetP S T) = 0
  rw [e1, e2, hz]
end
end Go.Proofs.Ytifkldehbaphgaa.PAll
end
section
namespace Go.Proofs.Ytifkldehbaphgaa.Pure
open Go.RowKit Go.Proofs.Ytifkldehbaphgaa.PAll Go.PW.PrintWords Go.PW.PrintLast
theorem meeting_end (k : Nat) (hk : 3000 ≤ k) {T U : List (List Int)} (hT : Tab T) (hU : Tab U) (hg : T.length = U.length) (s : ByteArray) : rl_CasingMeeting.j0 k (T.length : Int) s T U (meetT T U) false = some true := by
 obtain ⟨k, rfl⟩ : ∃ r, k = r + 1 := ⟨k - 1, by omega⟩
 obtain ⟨u, hu, hl, h20⟩ := word_of s hT.g12 20 (by omega) k (by omega)
 have z1 : (0 : Int) < nT T := by have := hT.d1; omega
 have z2 : (0 : Int) < nT U := by have := hU.d1; omega
 obtain ⟨z, hz, hiff⟩ := meet_word hT hU hg hl (by omega) k (by omega)
 have hu' : rl_word.f k s (T.length : Int) 20 = some (strOfNums u) := hu
 rw [rl_CasingMeeting.j0, if_neg (by simp), hu', Option.bind_some, refSend_of hT (by omega) z1 hl (by omega) k (by omega), Option.bind_some, refSend_of hU (by omega) z2 (by rw [← hg]; exact hl) (by omega) k (by omega), Option.bind_some, hz, Option.bind_some, if_pos (by omega)]
 by_cases h0 : followT T 0 u = 0
 rotate_left
 ·rw [if_neg h0]
  have hb : (((z : Int) == 0) == false) = true := by
   rw [beq_iff_eq, beq_eq_false_iff_ne]
   intro e
   exact h0 (hiff.1 (by omega)).1
  rw [if_pos hb]
  rfl
 rw [if_pos h0]
 have hb : (((z : Int) == 0) == (followT U 0 u == 0)) = true := by
  rw [beq_iff_eq, Bool.eq_iff_iff, beq_iff_eq, beq_iff_eq]
  constructor
  ·intro e; exact (hiff.1 (by omega)).2
  ·intro e; have := hiff.2 ⟨h0, e⟩; omega
 rw [if_pos hb]
 rfl
theorem meeting_at (a0 a1 : Int) (l2 l3 l4 : List Int) (s : ByteArray) (k : Nat) (hk : 4000 ≤ k) : rl_CasingMeeting.f k a0 a1 l2 l3 l4 s = some true := by
 obtain ⟨g, hg, m, hm, hw⟩ := g12_f a0
 have HW := a_ hw
 clear hw
 obtain ⟨T, hT, tT, sT, lT⟩ := standard_f g hg a1 l2 l3 k (by omega)
 obtain ⟨U, hU, tU, sU, lU⟩ := standard_f g hg (wrap64 (Int.tdiv a1 7)) l3 l4 k (by omega)
 have hgg : T.length = U.length := by rw [lT, lU]
 have oT := (okT_tab T).2 tT
 have oU := (okT_tab U).2 tU
 have hI := meetP_I tT tU hgg
 have hle := hI.le' tU.d1
 have hle25 := hI.le tT tU
 have hge1 := meet_geS tT tU hgg sT
 have hge2 := meet_geT tT tU hgg sU
 have hml := meetT_len tT tU hgg
 have dT := tT.d5
 have dU := tU.d5
 have dT1 := tT.d1
 have gT := tT.g1
 have hr0 : (rd_L1 (meetT T U) 0).length = (meetP T U).length := meetT_row tT tU hgg _ (by
  have : rd_L1 (meetT T U) 0 = (meetT T U)[0]'(by omega) := by simp [rd_L1, show 0 < (meetT T U).length from by omega]
  rw [this]; exact List.getElem_mem _)
 have nTT : nT T = (rd_L1 T 0).length := rfl
 have nUU : nT U = (rd_L1 U 0).length := rfl
 have hprod : ((rd_L1 T 0).length : Int) * ((rd_L1 U 0).length : Int) = ((nT T * nT U : Nat) : Int) := by rw [nTT, nUU]; push_cast; rfl
 have hp25 : nT T * nT U ≤ 5 * 5 := Nat.mul_le_mul dT dU
 have HWP : Aside0 (wrap64 (((rd_L1 T 0).length : Int) * ((rd_L1 U 0).length : Int)) = ((nT T * nT U : Nat) : Int)) := ⟨by rw [hprod, wrapN _ (by omega) (by omega)]⟩
 rw [rl_CasingMeeting.f, hm, Option.bind_some, HW.out, hT, Option.bind_some, hU, Option.bind_some, cMeet_yes oT oU sT sU hgg k (by omega), Option.bind_some, cMeet_yes oT oT sT sT rfl k (by omega), Option.bind_some, meetT_self tT sT]
 dsimp only
 rw [if_pos rfl, if_pos rfl, Same_f _ _ (by have := tT.g2; omega) (fun r h => by rw [tT.rows r h]; omega) k (by omega), Option.bind_some, decide_eq_true rfl, if_pos rfl, if_pos (by rw [hml, lT]), if_pos (by omega), if_pos (by omega), if_pos (by omega), HWP.out, hr0, if_neg (by omega), if_neg (by omega), decide_eq_false (by omega), ← lT]
 exact meeting_end k (by omega) tT tU hgg s
theorem CasingMeeting (a0 a1 : Int) (l2 l3 l4 : List Int) (s : ByteArray) (w0 : (Lit.int .i64 a0).wf = true) (w1 : (Lit.int .i64 a1).wf = true) (h2 : l2.length ≤ 9223372036854775807) (w2 : ∀ n ∈ l2, (Lit.int .i64 n).wf = true) (h3 : l3.length ≤ 9223372036854775807) (w3 : ∀ n ∈ l3, (Lit.int .i64 n).wf = true) (h4 : l4.length ≤ 9223372036854775807) (w4 : ∀ n ∈ l4, (Lit.int .i64 n).wf = true) (w5 : s.size ≤ 140737488351232) : ∃ k, rl_CasingMeeting.f k a0 a1 l2 l3 l4 s = some true := ⟨4000, meeting_at a0 a1 l2 l3 l4 s 4000 (Nat.le_refl _)⟩
end Go.Proofs.Ytifkldehbaphgaa.Pure
end
section
namespace Go.Proofs.Ytifkldehbaphgaa.PAll
open Go.RowKit Go.ChangeShapes Go.WideShapes Go.ChangeAt Go.Deep Go.PW.PrintWords
section
variable {H : Type} {enc : TypeId × Value → H} {P : Program} {w : World} {base : Nat}
theorem open_intsC {k : IntKind} {t e : TypeId} {fuel : Nat} {v : Value} {x : DataW H × List MemPlace} (ht : P.underlying t = some (.slice e)) (he : P.underlying e = some (.int k)) (ce : P.cellsOf e = 1)
  (h : DataW.trod enc P w base (fun _ => true) true fuel t [v] = some x) :
  ∃ (A : Option Addr) (c : Nat) (l : List Int), v = .slice A l.length c ∧ l.length ≤ c ∧ Kd.C (Kd.int k) w A l.length l ∧ ∀ n ∈ l, (Lit.int k n).wf = true := by
 rcases open_ints ht he ce h with ⟨hcs, _⟩ | ⟨a, l, c, zs, hcs, _, hl, hm, hz, _, hcell, hwz⟩
 ·obtain rfl := List.singleton_inj.1 hcs
  exact ⟨none, 0, [], rfl, Nat.le_refl _, Kd.C_nil _ _, fun n hn => by cases hn⟩
 ·obtain rfl := List.singleton_inj.1 hcs
  simp at hz
  have hlen : (zs.take l).length = l := by simp; omega
  refine ⟨some a, c, zs.take l, by rw [hlen], by omega, Kd.C_of_reads (enc := Value.int k) (d := (0 : Int)) (h1 := fun _ => rfl) ⟨rfl, by rw [hlen]; unfold maxLen at hm; omega, fun _ => ⟨a, rfl, fun j hj => ?_⟩⟩, fun n hn => hwz n (List.mem_of_mem_take hn)⟩
  rw [hlen] at hj
  rw [hcell j (by omega)]
  simp [List.getD, List.getElem?_take, hj]
end
end Go.Proofs.Ytifkldehbaphgaa.PAll
end
section
namespace Go.Proofs.Ytifkldehbaphgaa.casingMeeting
open Go.ChangeShapes Go.WideShapes Go.ChangeAt Go.RowKit
open Go.ChangeMaps (open_string shut_string)
theorem own : ownKnob Try.prog.godebug = none := by kernel_rfl
theorem laidOut : laidOutB Try.prog = true := by kernel_rfl
theorem lifted (os : Os) (started : os.Started) (H : Type) (enc : TypeId × Value → H) :
  ReturnsInHanded {} Try.checked os 9 .any (Rows.casingMeetingSpec.pre6 enc Try.prog Try.f9 Rows.casingMeetingRow.domain false) (Rows.casingMeetingSpec.post enc Try.prog Try.f9 false true false false) := by
 refine returnsInHanded_of_change_sized (C := Try.checked) own started (by kernel_rfl) Try.func9
  (ChangeSpec.witness6 (enc := enc) (C := Try.checked) false ⟨#[], #[.int .i64 0, .int .i64 0, .slice none 0 0, .slice none 0 0, .slice none 0 0, .string ByteArray.empty], []⟩ 8 (by kernel_rfl) (by kernel_rfl) (by kernel_rfl) (by kernel_rfl)) ?_
 intro W base args ds gs before hval0 hW hcnd hsz0 _
 have hsz : (DataW.weightsEach Try.prog (Try.f9.params.toList ++ Rows.casingMeetingSpec.plain.varTypes Try.prog) (ds ++ gs)).all (· ≤ reachBytes) = true := hsz0
 have hval : ∀ (j : Nat) t v, Try.f9.params[j]? = some t → args[j]? = some v → Value.okWide Try.prog W .any base t v := hval0
 have hW' := hW
 obtain ⟨p, q, hA0, hV, rfl, hfz, hnd⟩ := hW
 have hA : DataW.TrodAll enc Try.prog W 0 (fun _ => true) true Try.f9.params.toList args.toList ds p := hA0
 rw [Try.params9] at hA hval hsz
 obtain ⟨v0, vs0, d0, ds0, p0, q0, hargs, rfl, rfl, h0, r0⟩ := trodAll_cons hA
 obtain ⟨v1, vs1, d1, ds1, p1, q1, rfl, rfl, rfl, h1, r1⟩ := trodAll_cons r0
 obtain ⟨v2, vs2, d2, ds2, p2, q2, rfl, rfl, rfl, h2, r2⟩ := trodAll_cons r1
 obtain ⟨v3, vs3, d3, ds3, p3, q3, rfl, rfl, rfl, h3, r3⟩ := trodAll_cons r2
 obtain ⟨v4, vs4, d4, ds4, p4, q4, rfl, rfl, rfl, h4, r4⟩ := trodAll_cons r3
 obtain ⟨v5, vs5, d5, ds5, p5, q5, rfl, rfl, rfl, h5, r5⟩ := trodAll_cons r4
 obtain ⟨rfl, rfl, rfl⟩ := trodAll_nil r5
 obtain rfl : args = #[v0, v1, v2, v3, v4, v5] := by cases args; simp_all
 obtain ⟨rfl, rfl⟩ := trodVars_none hV
 obtain ⟨a0, rfl, rfl, rfl, w0⟩ := open_int Try.underlying3 (hval 0 3 v0 rfl rfl) h0
 obtain ⟨a1, rfl, rfl, rfl, w1⟩ := open_int Try.underlying3 (hval 1 3 v1 rfl rfl) h1
 have k2 := h2
 have lt2 : ∀ x ∈ p2, x.block < W.heap.size := by obtain ⟨m, hm⟩ := k2; exact DataW.trod_lt m _ _ _ hm
 obtain ⟨A2, len2, c2, rfl⟩ := okWide_slice Try.underlying22 (hval 2 22 v2 rfl rfl)
 obtain ⟨m2, g2⟩ := h2
 obtain ⟨B2, b2, l2, e2, j2, C2, w2⟩ := PAll.open_intsC (v := .slice A2 len2 c2) Try.underlying22 Try.underlying3 (by kernel_rfl) g2
 cases e2
 have k3 := h3
 have lt3 : ∀ x ∈ p3, x.block < W.heap.size := by obtain ⟨m, hm⟩ := k3; exact DataW.trod_lt m _ _ _ hm
 obtain ⟨A3, len3, c3, rfl⟩ := okWide_slice Try.underlying22 (hval 3 22 v3 rfl rfl)
 obtain ⟨m3, g3⟩ := h3
 obtain ⟨B3, b3, l3, e3, j3, C3, w3⟩ := PAll.open_intsC (v := .slice A3 len3 c3) Try.underlying22 Try.underlying3 (by kernel_rfl) g3
 cases e3
 have k4 := h4
 have lt4 : ∀ x ∈ p4, x.block < W.heap.size := by obtain ⟨m, hm⟩ := k4; exact DataW.trod_lt m _ _ _ hm
 obtain ⟨A4, len4, c4, rfl⟩ := okWide_slice Try.underlying22 (hval 4 22 v4 rfl rfl)
 obtain ⟨m4, g4⟩ := h4
 obtain ⟨B4, b4, l4, e4, j4, C4, w4⟩ := PAll.open_intsC (v := .slice A4 len4 c4) Try.underlying22 Try.underlying3 (by kernel_rfl) g4
 cases e4
 obtain ⟨a5, rfl, rfl, rfl, y5⟩ := open_string Try.underlying9 (hval 5 9 v5 rfl rfl) h5
 have w5 : a5.size ≤ 140737488351232 := by
  have z := sized_string hsz (j := 5) (t := 9) rfl rfl
  rw [Array.length_toList] at z
  exact z
 clear hA0 hval0 hsz0 hsz
 obtain ⟨k, h⟩ := Pure.CasingMeeting a0 a1 l2 l3 l4 a5 w0 w1 C2.2.1 w2 C3.2.1 w3 C4.2.1 w4 w5
 refine (PAll.rl_CasingMeeting.calls k a0 a1 _ _ l2 _ _ l3 _ _ l4 a5 true ⟨rfl⟩ W C2 j2 C3 j3 C4 j4 h).mono fun e W' ⟨he, bel⟩ => ?_
 subst he
 exact ⟨_, rfl, _, _, _, [], _, [], hW', trodAll_mk1 (shut_bool Try.underlying4 _), (trodAll_cons_mk (shut_int Try.underlying3 w0) (trodAll_cons_mk (shut_int Try.underlying3 w1) (trodAll_cons_mk (Below.trod laidOut (by kernel_rfl) (of_decide_eq_true (by kernel_rfl)) k2 bel lt2) (trodAll_cons_mk (Below.trod laidOut (by kernel_rfl) (of_decide_eq_true (by kernel_rfl)) k3 bel lt3) (trodAll_cons_mk (Below.trod laidOut (by kernel_rfl) (of_decide_eq_true (by kernel_rfl)) k4 bel lt4) (trodAll_cons_mk (shut_string Try.underlying9 y5) trodAll_mk0)))))), rfl, bel.frame _, fun h => by cases h⟩
theorem over : Rows.casingMeetingRow.holds Try.pinned (OpenSpec.ofChange Rows.casingMeetingSpec) :=
 OpenClaim.holds_of_wide 9 Try.f9 rfl rfl rfl rfl rfl rfl rfl ⟨rfl, rfl, rfl, rfl, rfl⟩ rfl rfl rfl rfl rfl (by kernel_rfl) Try.func9 (by kernel_rfl)
  (of_decide_eq_true (by kernel_rfl)) (by unfold Func.isWrapper; first | (rw [if_pos (by decide +kernel)]; kernel_rfl) | (rw [if_neg (by decide +kernel)]; exact ⟨rfl, rfl⟩))
  (fun os started H enc _ => lifted os started H enc)
theorem proved : Rows.CasingMeetingSaid := over
end Go.Proofs.Ytifkldehbaphgaa.casingMeeting
namespace Go.Proofs.Ytifkldehbaphgaa
theorem casingMeeting_holds : Rows.CasingMeetingSaid := casingMeeting.proved
end Go.Proofs.Ytifkldehbaphgaa
end
