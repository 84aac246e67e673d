/- The law CasingTables returns true for every input: for any presentation and int, casing.Tables returns all standard tables that keep it, or ErrArg. No condition. Part 3 of 3. -/
import Derived.WalkKit
import Derived.ProofKit
import Derived.OpenShut
import Derived.ShutString
import Derived.SliceStrings
import Derived.Deep.Matrix
import Derived.Lib.SmallJoins
import Derived.Test.YtmcihijobilcgaaRows
import Derived.ChangeOld
import Derived.Below
import Derived.SizedLaws
import Derived.Carry
import Derived.Test.YtmcihijobilcgaaCCasingTables1
set_option linter.all false
set_option maxHeartbeats 8000000
set_option maxRecDepth 100000
section
namespace Go.Proofs.Ytmcihijobilcgaa.PAll
open Go.RowKit Go.Proofs.YtmcihijobilcgaaW.PrintWords Go.Proofs.YtmcihijobilcgaaW.PrintLast Go.Proofs.YtmcihijobilcgaaW.PrintMore
theorem drop_eq_cons {α : Type} (A B : List α) (q : Nat) (ha : q < A.length) (hb : q < B.length) : A.drop q = B.drop q ↔ A[q] = B[q] ∧ A.drop (q + 1) = B.drop (q + 1) := by
 rw [List.drop_eq_getElem_cons ha, List.drop_eq_getElem_cons hb, List.cons.injEq]
theorem Same_l1 (A B : List (List Int)) (q : Nat) (ha : q < A.length) (hb : q < B.length) (hl : A[q].length = B[q].length) (h30 : A[q].length ≤ 30) : ∀ (m j k : Nat), j + m = A[q].length → m < k →
  remouldref01_Same.l1 k A B (q : Int) (j : Int) = if A[q].drop j = B[q].drop j then remouldref01_Same.l0 (k - m - 1) A B (wrap64 ((q : Int) + 1)) else some false
 | 0, j, k, e, hk => by
  obtain ⟨k, rfl⟩ : ∃ r, k = r + 1 := ⟨k - 1, by omega⟩
  have ra : rd_L5 A (q : Int) = A[q] := by simp [rd_L5, ha]
  simp only [remouldref01_Same.l1]
  rw [if_pos (by omega), if_pos (by omega), ra, if_neg (by omega), List.drop_eq_nil_of_le (by omega), List.drop_eq_nil_of_le (by omega), if_pos rfl]
  rfl
 | m + 1, j, k, e, hk => by
  obtain ⟨k, rfl⟩ : ∃ r, k = r + 1 := ⟨k - 1, by omega⟩
  have ra : rd_L5 A (q : Int) = A[q] := by simp [rd_L5, ha]
  have rb : rd_L5 B (q : Int) = B[q] := by simp [rd_L5, hb]
  have hj : j < A[q].length := by omega
  have hj2 : j < B[q].length := by omega
  have r1 : rd A[q] (j : Int) = A[q][j] := by simp [rd, hj]
  have r2 : rd B[q] (j : Int) = B[q][j] := by simp [rd, hj2]
  simp only [remouldref01_Same.l1]
  rw [if_pos (by omega), if_pos (by omega), ra, if_pos (by omega), if_pos (by omega), if_pos (by omega), rb, if_pos (by omega), r1, r2]
  have hd := drop_eq_cons A[q] B[q] j hj hj2
  by_cases e1 : A[q][j] = B[q][j]
  rotate_left
  ·rw [if_neg e1, if_neg (fun h => e1 (hd.1 h).1)]
  rw [if_pos e1, wrapN ((j : Int) + 1) (by omega) (by omega), show ((j : Int) + 1) = ((j + 1 : Nat) : Int) from by omega, Same_l1 A B q ha hb hl h30 m (j + 1) k (by omega) (by omega), show k + 1 - (m + 1) - 1 = k - m - 1 from by omega]
  by_cases e2 : A[q].drop (j + 1) = B[q].drop (j + 1)
  ·rw [if_pos e2, if_pos (hd.2 ⟨e1, e2⟩)]
  ·rw [if_neg e2, if_neg (fun h => e2 (hd.1 h).2)]
theorem Same_l0 (A B : List (List Int)) (hl : A.length = B.length) (h3 : A.length ≤ 10) (h30 : ∀ r ∈ A, r.length ≤ 30) : ∀ (m q k : Nat), q + m = A.length → 40 * m < k →
  remouldref01_Same.l0 k A B (q : Int) = some (decide (A.drop q = B.drop q))
 | 0, q, k, e, hk => by
  obtain ⟨k, rfl⟩ : ∃ r, k = r + 1 := ⟨k - 1, by omega⟩
  simp only [remouldref01_Same.l0]
  rw [if_neg (by omega), List.drop_eq_nil_of_le (by omega), List.drop_eq_nil_of_le (by omega)]
  rfl
 | m + 1, q, k, e, hk => by
  obtain ⟨k, rfl⟩ : ∃ r, k = r + 1 := ⟨k - 1, by omega⟩
  have ha : q < A.length := by omega
  have hb : q < B.length := by omega
  have ra : rd_L5 A (q : Int) = A[q] := by simp [rd_L5, ha]
  have rb : rd_L5 B (q : Int) = B[q] := by simp [rd_L5, hb]
  have hr := h30 _ (List.getElem_mem ha)
  have hd := drop_eq_cons A B q ha hb
  simp only [remouldref01_Same.l0]
  rw [if_pos (by omega), if_pos (by omega), if_pos (by omega), ra, rb]
  by_cases e0 : A[q].length = B[q].length
  rotate_left
  ·rw [if_neg (by omega), decide_eq_false (fun h => e0 (by rw [(hd.1 h).1]))]
  rw [if_pos (by omega)]
  have l1 := Same_l1 A B q ha hb e0 hr A[q].length 0 k (by omega) (by omega)
  simp only [Int.natCast_zero, List.drop_zero] at l1
  rw [l1]
  by_cases e1 : A[q] = B[q]
  rotate_left
  ·rw [if_neg e1, decide_eq_false (fun h => e1 (hd.1 h).1)]
  rw [if_pos e1, wrapN ((q : Int) + 1) (by omega) (by omega), show ((q : Int) + 1) = ((q + 1 : Nat) : Int) from by omega, Same_l0 A B hl h3 h30 m (q + 1) _ (by omega) (by omega)]
  congr 1
  rw [decide_eq_decide, hd]
  exact ⟨fun h => ⟨e1, h⟩, fun h => h.2⟩
theorem Same_f (A B : List (List Int)) (h3 : A.length ≤ 10) (h30 : ∀ r ∈ A, r.length ≤ 30) (k : Nat) (hk : 500 ≤ k) : remouldref01_Same.f k A B = some (decide (A = B)) := by
 unfold remouldref01_Same.f
 by_cases hl : A.length = B.length
 ·rw [if_pos (by omega)]
  have := Same_l0 A B hl h3 h30 A.length 0 k (by omega) (by omega)
  simpa using this
 ·rw [if_neg (by omega), decide_eq_false (fun e => hl (by rw [e]))]
def lettB (g : Nat) : ByteArray := if g = 1 then ⟨#[97, 65]⟩ else ⟨#[97, 65, 98, 66]⟩
theorem letters_f (g : Nat) (hg : g = 1 ∨ g = 2) : remouldref01_letters.f (g : Int) = some (lettB g) := by
 rcases hg with rfl | rfl <;> kernel_rfl
theorem lettB_size (g : Nat) (hg : g = 1 ∨ g = 2) : (lettB g).size = (lettersG g).length := by
 rcases hg with rfl | rfl <;> kernel_rfl
theorem lettB_bt (g : Nat) (hg : g = 1 ∨ g = 2) (q : Nat) (hq : q < (lettersG g).length) : bt (lettB g) (q : Int) = (lettersG g)[q] ∧ (lettB g).extract q (q + 1) = strOfNums [(lettersG g)[q]] := by
 rcases hg with rfl | rfl
 ·have : q = 0 ∨ q = 1 := by simp [lettersG] at hq; omega
  rcases this with rfl | rfl <;> exact ⟨by kernel_rfl, by kernel_rfl⟩
 ·have : q = 0 ∨ q = 1 ∨ q = 2 ∨ q = 3 := by simp [lettersG] at hq; omega
  rcases this with rfl | rfl | rfl | rfl <;> exact ⟨by kernel_rfl, by kernel_rfl⟩
section
variable {T : List (List Int)} (h : Tab T)
include h
theorem num_l2 (s : List Int × List (List Int)) {i : Int} (hs : OrdW T i s) (k q : Nat) (hk : k < s.1.length) (hq : q < (lettersG T.length).length) (x : Int) (hx : x = stepT T (rd s.1 (k : Int)) ((lettersG T.length)[q])) : ∀ (m j K : Nat) (b : Bool), j + m = s.1.length → (b = false → x ∉ s.1.take j) → m < K →
  remouldref01_numbering.l2 K T s.1 (s.2.map strOfNums) (lettB T.length) (k : Int) (q : Int) x b (j : Int) =
  if b = true ∨ x ∈ s.1.drop j then remouldref01_numbering.l1 (K - m - 1) T s.1 (s.2.map strOfNums) (lettB T.length) (k : Int) ((q + 1 : Nat) : Int)
  else remouldref01_numbering.l1 (K - m - 1) T (s.1 ++ [x]) ((s.2 ++ [pushW (s.2.getD k []) ((lettersG T.length)[q])]).map strOfNums) (lettB T.length) (k : Int) ((q + 1 : Nat) : Int)
 | 0, j, K, b, e, hb, hK => by
  obtain ⟨K, rfl⟩ : ∃ r, K = r + 1 := ⟨K - 1, by omega⟩
  have hd5 := h.d5
  have hle := hs.le
  have hl2 := hs.len
  have hlg := lettersG_len T.length
  simp only [remouldref01_numbering.l2]
  have hsz := lettB_size T.length h.g12
  have hc := lettersG_let h.g12 _ (List.getElem_mem hq)
  rw [if_neg (by omega), List.drop_eq_nil_of_le (by omega), wrapN ((q : Int) + 1) (by omega) (by omega), show ((q : Int) + 1) = ((q + 1 : Nat) : Int) from by omega, show K + 1 - 0 - 1 = K from by omega]
  cases b
  ·have hn : x ∉ s.1 := by
    have := hb rfl
    rwa [List.take_of_length_le (by omega)] at this
   rw [hx] at hn
   obtain ⟨hnew, hpush⟩ := hs.new h hk hc hn
   have hk2 : k < s.2.length := by omega
   have hr : rdOf ByteArray.empty (s.2.map strOfNums) (k : Int) = strOfNums (s.2.getD k []) := by simp [rdOf, List.getD, hk2]
   have hw := hs.red _ (getD_mem s.2 [] k hk2)
   have hb2 := (lettB_bt T.length h.g12 q hq).2
   have hcat : strOfNums (s.2.getD k []) ++ (lettB T.length).extract (q : Int).toNat ((q + 1 : Nat) : Int).toNat = strOfNums (pushW (s.2.getD k []) ((lettersG T.length)[q])) := by
    rw [Int.toNat_natCast, Int.toNat_natCast, hb2, hpush]
    exact strOfNums_append _ _ hw.1.letC (fun c hc' => by rw [List.mem_singleton.1 hc']; exact hc.letC)
   have hs1 : (strOfNums (s.2.getD k [])).size ≤ 5 := by rw [strOfNums_size]; exact hw.2
   have hs2 : ((lettB T.length).extract (q : Int).toNat ((q + 1 : Nat) : Int).toNat).size ≤ 5 := by rw [ByteArray.size_extract]; omega
   rw [if_neg (show ¬ (false = true ∨ x ∈ ([] : List Int)) from by simp), if_neg (show ¬ (false = true) from by simp), if_pos (by omega), if_pos (by omega), if_pos (by rw [List.length_map]; omega), if_pos (by omega), if_pos (by omega), if_pos (by omega), hr, if_pos (by omega), if_pos (by rw [List.length_map]; omega), hcat, List.map_append]
   rfl
  ·rw [if_pos rfl, if_pos (by simp)]
 | m + 1, j, K, b, e, hb, hK => by
  obtain ⟨K, rfl⟩ : ∃ r, K = r + 1 := ⟨K - 1, by omega⟩
  have hd5 := h.d5
  have hle := hs.le
  have hj : j < s.1.length := by omega
  have hr : rd s.1 (j : Int) = s.1[j] := by simp [rd, hj]
  simp only [remouldref01_numbering.l2]
  rw [if_pos (by omega), wrapN ((j : Int) + 1) (by omega) (by omega), show ((j : Int) + 1) = ((j + 1 : Nat) : Int) from by omega]
  cases b
  ·rw [if_neg (by simp), if_pos (by omega), num_l2 s hs k q hk hq x hx m (j + 1) K _ (by omega) (by
    intro h1
    rw [hr, beq_eq_false_iff_ne] at h1
    rw [List.take_succ_eq_append_getElem hj]
    intro hm
    rcases List.mem_append.1 hm with hm | hm
    ·exact hb rfl hm
    ·exact h1 (List.mem_singleton.1 hm).symm) (by omega), show K + 1 - (m + 1) - 1 = K - m - 1 from by omega]
   have hiff : ((rd s.1 (j : Int) == x) = true ∨ x ∈ s.1.drop (j + 1)) ↔ (false = true ∨ x ∈ s.1.drop j) := by
    rw [hr, List.drop_eq_getElem_cons hj, List.mem_cons, beq_iff_eq]
    constructor
    ·rintro (e1 | e1)
     ·exact Or.inr (Or.inl e1.symm)
     ·exact Or.inr (Or.inr e1)
    ·rintro (e1 | e1 | e1)
     ·cases e1
     ·exact Or.inl e1.symm
     ·exact Or.inr e1
   by_cases hc : (false = true ∨ x ∈ s.1.drop j)
   ·rw [if_pos (hiff.2 hc), if_pos hc]
   ·rw [if_neg (fun h1 => hc (hiff.1 h1)), if_neg hc]
  ·rw [if_pos rfl, num_l2 s hs k q hk hq x hx m (j + 1) K true (by omega) (fun h1 => by cases h1) (by omega), if_pos (Or.inl rfl), if_pos (Or.inl rfl), show K + 1 - (m + 1) - 1 = K - m - 1 from by omega]
theorem num_l1 {i : Int} (k : Nat) : ∀ (m q K : Nat) (s : List Int × List (List Int)), OrdW T i s → k < s.1.length → q + m = (lettersG T.length).length → 20 * m + 20 ≤ K →
  ∃ K', K ≤ K' + 20 * m + 1 ∧ remouldref01_numbering.l1 K T s.1 (s.2.map strOfNums) (lettB T.length) (k : Int) (q : Int) =
   remouldref01_numbering.l0 K' T (ordIn T k ((lettersG T.length).drop q) s).1 ((ordIn T k ((lettersG T.length).drop q) s).2.map strOfNums) (lettB T.length) ((k + 1 : Nat) : Int)
 | 0, q, K, s, hs, hk, e, hK => by
  obtain ⟨K, rfl⟩ : ∃ r, K = r + 1 := ⟨K - 1, by omega⟩
  have hd5 := h.d5
  have hle := hs.le
  have hsz := lettB_size T.length h.g12
  refine ⟨K, by omega, ?_⟩
  simp only [remouldref01_numbering.l1]
  rw [if_neg (by omega), List.drop_eq_nil_of_le (by omega), wrapN ((k : Int) + 1) (by omega) (by omega), show ((k : Int) + 1) = ((k + 1 : Nat) : Int) from by omega]
  rfl
 | m + 1, q, K, s, hs, hk, e, hK => by
  obtain ⟨K, rfl⟩ : ∃ r, K = r + 1 := ⟨K - 1, by omega⟩
  have hd5 := h.d5
  have hle := hs.le
  have hsz := lettB_size T.length h.g12
  have hlg := lettersG_len T.length
  have hq : q < (lettersG T.length).length := by omega
  have hc := lettersG_let h.g12 _ (List.getElem_mem hq)
  have hrk := hs.rng _ (rd_mem s.1 k hk)
  have l2 := num_l2 h s hs k q hk hq _ rfl s.1.length 0 K false (by omega) (by simp) (by omega)
  simp only [Int.natCast_zero, List.drop_zero, Bool.false_eq_true, false_or] at l2
  simp only [remouldref01_numbering.l1]
  rw [if_pos (by omega), if_pos (by omega), if_pos (by omega), if_pos (by omega), (lettB_bt T.length h.g12 q hq).1, refStep_f h hrk.1 hrk.2 hc K (by omega)]
  simp only [Option.bind_some]
  rw [l2, List.drop_eq_getElem_cons hq]
  simp only [ordIn]
  by_cases hm : stepT T (rd s.1 (k : Int)) (lettersG T.length)[q] ∈ s.1
  ·rw [if_pos hm, if_pos hm]
   obtain ⟨K', h1, h2⟩ := num_l1 k m (q + 1) (K - s.1.length - 1) s hs hk (by omega) (by omega)
   exact ⟨K', by omega, h2⟩
  ·rw [if_neg hm, if_neg hm]
   obtain ⟨K', h1, h2⟩ := num_l1 k m (q + 1) (K - s.1.length - 1) _ (hs.new h hk hc hm).1 (by simp; omega) (by omega) (by omega)
   exact ⟨K', by omega, h2⟩
theorem num_l0 {i : Int} : ∀ (f k K : Nat) (s : List Int × List (List Int)), OrdW T i s → 150 * f + 50 ≤ K → k + f = 6 →
  remouldref01_numbering.l0 K T s.1 (s.2.map strOfNums) (lettB T.length) (k : Int) = some ((ordOut T (lettersG T.length) f k s).1, (ordOut T (lettersG T.length) f k s).2.map strOfNums)
 | 0, k, K, s, hs, hK, hf => by
  obtain ⟨K, rfl⟩ : ∃ r, K = r + 1 := ⟨K - 1, by omega⟩
  have hd5 := h.d5
  have hle := hs.le
  simp only [remouldref01_numbering.l0, ordOut]
  rw [if_neg (by omega)]
 | f + 1, k, K, s, hs, hK, hf => by
  obtain ⟨K, rfl⟩ : ∃ r, K = r + 1 := ⟨K - 1, by omega⟩
  have hd5 := h.d5
  have hle := hs.le
  have hlg := lettersG_len T.length
  simp only [remouldref01_numbering.l0, ordOut]
  by_cases hk : k < s.1.length
  rotate_left
  ·rw [if_neg (by omega), if_neg hk]
  rw [if_pos (by omega), if_pos hk]
  obtain ⟨K', h1, h2⟩ := num_l1 h k (lettersG T.length).length 0 K s hs hk (by omega) (by omega)
  simp only [Int.natCast_zero, List.drop_zero] at h2
  rw [h2]
  exact num_l0 f (k + 1) K' _ (ordIn_W h _ s hs hk (lettersG_let h.g12)).1 (by omega) (by omega)
theorem numbering_f {i : Int} (h0 : 0 ≤ i) (h1 : i < nT T) (K : Nat) (hK : 1000 ≤ K) : remouldref01_numbering.f K T i = some ((orderP T i).1, (orderP T i).2.map strOfNums) := by
 unfold remouldref01_numbering.f
 rw [letters_f T.length h.g12]
 simp only [Option.bind_some]
 have := num_l0 h 6 0 K ([i], [[]]) (OrdW.start h0 h1) (by omega) (by omega)
 unfold orderP
 rw [← this]
 rfl
theorem Connected_f (K : Nat) (hK : 1000 ≤ K) : remouldref01_Connected.f K T = some (decide ((orderP T 0).1.length = nT T)) := by
 have hd1 := h.d1
 have hg := h.g1
 unfold remouldref01_Connected.f
 rw [numbering_f h (by omega) (by omega) K hK]
 simp only [Option.bind_some]
 rw [if_pos (by omega)]
 congr 1
 rw [Bool.eq_iff_iff, beq_iff_eq, decide_eq_true_eq]
 unfold nT
 omega
end
theorem rd_set_self (P : List Int) (x : Int) (v : Int) (h : x.toNat < P.length) : rd (P.set x.toNat v) x = v := by simp [rd, h]
theorem rd_set_ne (P : List Int) (x y : Int) (v : Int) (h0 : 0 ≤ x) (h1 : 0 ≤ y) (hne : x ≠ y) : rd (P.set x.toNat v) y = rd P y := by
 simp [rd, List.getD, List.getElem?_set, show ¬ x.toNat = y.toNat by omega]
section
variable {T : List (List Int)} (h : Tab T) (l : List Int) (hl : Perm (nT T) l)
include h hl
theorem ren_l0 : ∀ (m i K : Nat) (P : List Int), i + m = l.length → P.length = l.length → m < K →
  ∃ P', P'.length = l.length ∧ (∀ j : Nat, i ≤ j → j < l.length → rd P' (rd l (j : Int)) = (j : Int)) ∧ (∀ x : Int, 0 ≤ x → x ∉ l.drop i → rd P' x = rd P x) ∧
   remouldref01_Renumber.l0 K T l P (i : Int) = remouldref01_Renumber.l1 (K - m - 1) T l P' [] 0
 | 0, i, K, P, e, hP, hK => by
  obtain ⟨K, rfl⟩ : ∃ r, K = r + 1 := ⟨K - 1, by omega⟩
  refine ⟨P, hP, fun j h1 h2 => by omega, fun x _ _ => rfl, ?_⟩
  simp only [remouldref01_Renumber.l0]
  rw [if_neg (by omega)]
  rfl
 | m + 1, i, K, P, e, hP, hK => by
  obtain ⟨K, rfl⟩ : ∃ r, K = r + 1 := ⟨K - 1, by omega⟩
  have hd5 := h.d5
  have hn := hl.len
  have hi : i < l.length := by omega
  have hr : rd l (i : Int) = l[i] := by simp [rd, hi]
  have hlo := hl.lo _ (List.getElem_mem hi)
  have hhi := hl.hi _ (List.getElem_mem hi)
  obtain ⟨P', p1, p2, p3, p4⟩ := ren_l0 m (i + 1) K (P.set (l[i]).toNat (i : Int)) (by omega) (by simp [hP]) (by omega)
  have hnot : l[i] ∉ l.drop (i + 1) := by
   have hnd : (l.drop i).Nodup := hl.nodup.sublist (List.drop_sublist i l)
   rw [List.drop_eq_getElem_cons hi] at hnd
   exact (List.nodup_cons.1 hnd).1
  refine ⟨P', p1, fun j h1 h2 => ?_, fun x hx0 hx => ?_, ?_⟩
  ·by_cases e1 : j = i
   ·subst e1
    rw [hr, p3 _ hlo hnot, rd_set_self _ _ _ (by omega)]
   ·exact p2 j (by omega) h2
  ·rw [List.drop_eq_getElem_cons hi, List.mem_cons, not_or] at hx
   rw [p3 x hx0 hx.2, rd_set_ne _ _ _ _ hlo hx0 (fun e => hx.1 e.symm)]
  ·simp only [remouldref01_Renumber.l0]
   rw [if_pos (by omega), if_pos (by omega), hr, if_pos (by omega), if_pos (by omega), wrapN ((i : Int) + 1) (by omega) (by omega), show ((i : Int) + 1) = ((i + 1 : Nat) : Int) from by omega, p4, show K + 1 - (m + 1) - 1 = K - m - 1 from by omega]
variable (P : List Int) (hP : P.length = l.length) (hPl : ∀ x ∈ l, rd P x = idxL x l 0)
include hP hPl
theorem ren_l2 (k : Nat) (hk : k < T.length) (out : List (List Int)) (ho : out.length ≤ 5) : ∀ (m j K : Nat), j + m = l.length → m < K →
  remouldref01_Renumber.l2 K T l P out (k : Int) ((renC l (rd_L5 T (k : Int))).take j) (j : Int) = remouldref01_Renumber.l1 (K - m - 1) T l P (out ++ [renC l (rd_L5 T (k : Int))]) ((k + 1 : Nat) : Int)
 | 0, j, K, e, hK => by
  obtain ⟨K, rfl⟩ : ∃ r, K = r + 1 := ⟨K - 1, by omega⟩
  have hg2 := h.g2
  have hlen : (renC l (rd_L5 T (k : Int))).length = l.length := by simp [renC]
  simp only [remouldref01_Renumber.l2]
  rw [if_neg (by omega), if_pos (by omega), List.take_of_length_le (by omega), wrapN ((k : Int) + 1) (by omega) (by omega), show ((k : Int) + 1) = ((k + 1 : Nat) : Int) from by omega]
  rfl
 | m + 1, j, K, e, hK => by
  obtain ⟨K, rfl⟩ : ∃ r, K = r + 1 := ⟨K - 1, by omega⟩
  have hg2 := h.g2
  have hd5 := h.d5
  have hn := hl.len
  have hj : j < l.length := by omega
  have hr : rd l (j : Int) = l[j] := by simp [rd, hj]
  have hlo := hl.lo _ (List.getElem_mem hj)
  have hhi := hl.hi _ (List.getElem_mem hj)
  have hcol := h.col k hk
  have hcl := hcol.len
  have hg := hcol.get _ hlo hhi
  have hlen : (renC l (rd_L5 T (k : Int))).length = l.length := by simp [renC]
  have hjr : j < (renC l (rd_L5 T (k : Int))).length := by omega
  have hmem : rd (rd_L5 T (k : Int)) l[j] ∈ l := hl.mem _ hg.1 hg.2
  have hget : (renC l (rd_L5 T (k : Int)))[j] = idxL (rd (rd_L5 T (k : Int)) l[j]) l 0 := by simp [renC]
  simp only [remouldref01_Renumber.l2]
  rw [if_pos (by omega), if_pos (by omega), if_pos (by omega), if_pos (by omega), hr, if_pos (by omega), if_pos (by omega), if_pos (by omega), if_pos (by omega), if_pos (by rw [List.length_take]; omega), hPl _ hmem, ← hget, ← List.take_succ_eq_append_getElem hjr, wrapN ((j : Int) + 1) (by omega) (by omega), show ((j : Int) + 1) = ((j + 1 : Nat) : Int) from by omega,
   ren_l2 k hk out ho m (j + 1) K (by omega) (by omega), show K + 1 - (m + 1) - 1 = K - m - 1 from by omega]
theorem ren_l1 : ∀ (m k K : Nat), k + m = T.length → 10 * m < K →
  remouldref01_Renumber.l1 K T l P ((T.take k).map (renC l)) (k : Int) = some (T.map (renC l))
 | 0, k, K, e, hK => by
  obtain ⟨K, rfl⟩ : ∃ r, K = r + 1 := ⟨K - 1, by omega⟩
  simp only [remouldref01_Renumber.l1]
  rw [if_neg (by omega), List.take_of_length_le (by omega)]
 | m + 1, k, K, e, hK => by
  obtain ⟨K, rfl⟩ : ∃ r, K = r + 1 := ⟨K - 1, by omega⟩
  have hg2 := h.g2
  have hd5 := h.d5
  have hn := hl.len
  have hk : k < T.length := by omega
  have hr : rd_L5 T (k : Int) = T[k] := by simp [rd_L5, hk]
  simp only [remouldref01_Renumber.l1]
  rw [if_pos (by omega)]
  have l2 := ren_l2 h l hl P hP hPl k hk ((T.take k).map (renC l)) (by simp; omega) l.length 0 K (by omega) (by omega)
  simp only [Int.natCast_zero, List.take_zero] at l2
  have ih := ren_l1 m (k + 1) (K - l.length - 1) (by omega) (by omega)
  rw [l2, ← ih, List.take_succ_eq_append_getElem hk, List.map_append, hr]
  rfl
end
theorem Renumber_f {T : List (List Int)} (h : Tab T) (hc : connT T) {i : Int} (h0 : 0 ≤ i) (h1 : i < nT T) (K : Nat) (hK : 1000 ≤ K) : remouldref01_Renumber.f K T i = some (renT T i) := by
 have hP := conn_perm h hc h0 h1
 have hn := hP.len
 have hd5 := h.d5
 have hg2 := h.g2
 unfold remouldref01_Renumber.f
 rw [numbering_f h h0 h1 K hK]
 simp only [Option.bind_some]
 rw [if_pos (by omega), if_pos (by omega)]
 obtain ⟨P', p1, p2, p3, p4⟩ := ren_l0 h (orderP T i).1 hP (orderP T i).1.length 0 K (List.replicate ((orderP T i).1.length : Int).toNat 0) (by omega) (by simp) (by omega)
 rw [show ((0 : Nat) : Int) = 0 from rfl] at p4
 rw [p4]
 refine ren_l1 h (orderP T i).1 hP P' p1 (fun x hx => ?_) T.length 0 _ (by omega) (by omega)
 obtain ⟨j, hj, rfl⟩ := mem_rd hx
 rw [p2 j (by omega) hj, idxL_rd _ j hP.nodup hj]
theorem Tab.rows {T : List (List Int)} (h : Tab T) : ∀ r ∈ T, r.length = nT T := by
 intro r hr
 obtain ⟨k, hk, rfl⟩ := List.getElem_of_mem hr
 have := (h.col k hk).len
 rwa [show rd_L5 T (k : Int) = T[k] from by simp [rd_L5, hk]] at this
theorem Standard_f {T : List (List Int)} (h : Tab T) (K : Nat) (hK : 1000 ≤ K) : remouldref01_Standard.f K T = some (decide ((orderP T 0).1 = idL (nT T))) := by
 have hd1 := h.d1
 have hd5 := h.d5
 unfold remouldref01_Standard.f
 rw [Connected_f h K hK]
 simp only [Option.bind_some, decide_eq_true_eq]
 have hs := std_iff h
 unfold stdT at hs
 by_cases hc : connT T
 rotate_left
 ·rw [if_neg (show ¬ (orderP T 0).1.length = nT T from hc), decide_eq_false (fun e => hc (hs.1 e).1)]
 have ht := renT_tab h hc (show (0 : Int) ≤ 0 by omega) (by omega)
 rw [if_pos (show (orderP T 0).1.length = nT T from hc), Renumber_f h hc (by omega) (by omega) K hK]
 simp only [Option.bind_some]
 rw [Same_f _ _ (by have := ht.g2; omega) (fun r hr => by have := ht.rows r hr; have := ht.d5; omega) K (by omega)]
 simp only [Option.bind_some]
 congr 1
 rw [decide_eq_decide, hs]
 exact ⟨fun e => ⟨hc, e⟩, fun e => e.2⟩
set_option maxRecDepth 1000000 in
theorem cols_5 : remouldref01_columns.f 20000 5 = some ((permsN 5).map upN) := by kernel_rfl
theorem cols_all (d : Nat) (h1 : 1 ≤ d) (h5 : d ≤ 5) : remouldref01_columns.f 20000 (d : Int) = some ((permsN d).map upN) := by
 obtain rfl | rfl | rfl | rfl | rfl : d = 1 ∨ d = 2 ∨ d = 3 ∨ d = 4 ∨ d = 5 := by omega
 ·kernel_rfl
 ·kernel_rfl
 ·kernel_rfl
 ·kernel_rfl
 ·exact cols_5
theorem columns_f (d : Nat) (h1 : 1 ≤ d) (h5 : d ≤ 5) (K : Nat) (hK : 20000 ≤ K) : remouldref01_columns.f K (d : Int) = some ((permsN d).map upN) :=
 at_rounds (g := fun k => remouldref01_columns.f k (d : Int)) (fun k => remouldref01_columns.mono _ k) hK (cols_all d h1 h5)
theorem perms_len (d : Nat) (h1 : 1 ≤ d) (h5 : d ≤ 5) : (permsN d).length ≤ 120 := by
 obtain rfl | rfl | rfl | rfl | rfl : d = 1 ∨ d = 2 ∨ d = 3 ∨ d = 4 ∨ d = 5 := by omega
 all_goals exact of_decide_eq_true (by kernel_rfl)
def okB (T : List (List Int)) (R : List ByteArray) : Bool := decide ((orderP T 0).1 = idL (nT T)) && keepsB T R
theorem okB_chain {T : List (List Int)} (h : Tab T) (R : List ByteArray) (hR : R.length ≤ 10) (hs : ∀ s ∈ R, s.size ≤ 100) (hlet : ∀ s ∈ R, ∀ c ∈ strBytes s, letG T.length c) (K : Nat) (hK : 1000 ≤ K) {β : Type} (F : Bool → Option β) :
  ((remouldref01_Connected.f K T).bind fun t => (if t = true then ((remouldref01_Keeps.f K (T.length : Int) R T).bind fun t => (if t = true then ((remouldref01_Standard.f K T).bind fun t => F t) else F false)) else F false)) = F (okB T R) := by
 obtain ⟨b, hb, ib⟩ := refKeeps_f h R hR hs hlet K (by omega)
 have hbb : b = keepsB T R := by rw [Bool.eq_iff_iff, ib, keepsB_iff]
 have hst := std_iff h
 unfold stdT at hst
 rw [Connected_f h K hK, Option.bind_some, hb, hbb, Standard_f h K hK]
 unfold okB
 by_cases hc : (orderP T 0).1.length = nT T
 rotate_left
 ·rw [if_neg (by rw [decide_eq_false hc]; simp), decide_eq_false (fun e => hc (hst.1 e).1), Bool.false_and]
 rw [if_pos (decide_eq_true hc), Option.bind_some]
 cases keepsB T R
 ·rw [if_neg (by simp), Bool.and_false]
 ·rw [if_pos rfl, Option.bind_some, Bool.and_true]
section
variable (g d : Nat) (hg : g = 1 ∨ g = 2) (h1 : 1 ≤ d) (h5 : d ≤ 5) (R : List ByteArray) (hR : R.length ≤ 10) (hs : ∀ s ∈ R, s.size ≤ 100) (hlet : ∀ s ∈ R, ∀ c ∈ strBytes s, letG g c)
include h1 h5
theorem rd_perms (i : Nat) (hi : i < (permsN d).length) : rd_L5 ((permsN d).map upN) (i : Int) = upN ((permsN d)[i]) := by simp [rd_L5, hi]
include hg hR hs hlet
theorem refTab_l1 (i : Nat) (hi : i < (permsN d).length) : ∀ (m k K : Nat) (out : List (List (List Int))), k + m = (permsN d).length → out.length + m ≤ 1000000 → 2 * m + 1100 ≤ K →
  remouldref01_Tables.l1 K ((permsN d).map upN) out (i : Int) (k : Int) (g : Int) R =
  remouldref01_Tables.l0 (K - 2 * m - 1) ((permsN d).map upN) (out ++ (((permsN d).drop k).zipIdx k).flatMap (fun q => if (decide (q.2 = 0 ∨ g = 2) && okB (tabN g ((permsN d)[i]) q.1) R) = true then [tabN g ((permsN d)[i]) q.1] else [])) ((i + 1 : Nat) : Int) (g : Int) R
 | 0, k, K, out, e, ho, hK => by
  obtain ⟨K, rfl⟩ : ∃ r, K = r + 1 := ⟨K - 1, by omega⟩
  have hl := perms_len d h1 h5
  simp only [remouldref01_Tables.l1]
  rw [if_neg (by rw [List.length_map]; omega), List.drop_eq_nil_of_le (by omega), wrapN ((i : Int) + 1) (by omega) (by omega), show ((i : Int) + 1) = ((i + 1 : Nat) : Int) from by omega]
  simp
 | m + 1, k, K, out, e, ho, hK => by
  obtain ⟨K, rfl⟩ : ∃ r, K = r + 2 := ⟨K - 2, by omega⟩
  have hl := perms_len d h1 h5
  have hk : k < (permsN d).length := by omega
  have ha := perms_ok d h1 h5 _ (List.getElem_mem hi)
  have hb := perms_ok d h1 h5 _ (List.getElem_mem hk)
  obtain ⟨a, ea⟩ : ∃ a, (permsN d)[i] = a := ⟨_, rfl⟩
  obtain ⟨b, eb⟩ : ∃ b, (permsN d)[k] = b := ⟨_, rfl⟩
  have hmem : (if g = 1 then (a, []) else (a, b)) ∈ pairsN g d := by
   rcases hg with rfl | rfl
   ·exact List.mem_map.2 ⟨a, ea ▸ List.getElem_mem hi, rfl⟩
   ·exact List.mem_flatMap.2 ⟨a, ea ▸ List.getElem_mem hi, List.mem_map.2 ⟨b, eb ▸ List.getElem_mem hk, rfl⟩⟩
  have htk : ([upN a, upN b] : List (List Int)).take ((g : Int)).toNat = tabN g a b := by
   rcases hg with rfl | rfl <;> rfl
  have htab : Tab (tabN g a b) ∧ nT (tabN g a b) = d := by
   have := tabN_tab hg h1 h5 hmem
   rcases hg with rfl | rfl
   ·exact this
   ·exact this
  have hgl : (tabN g a b).length = g := by rcases hg with rfl | rfl <;> rfl
  have hchain : ∀ F : Bool → Option (List (List (List Int))), ((remouldref01_Connected.f (K + 1) (tabN g a b)).bind fun t => (if t = true then ((remouldref01_Keeps.f (K + 1) (g : Int) R (tabN g a b)).bind fun t => (if t = true then ((remouldref01_Standard.f (K + 1) (tabN g a b)).bind fun t => F t) else F false)) else F false)) = F (okB (tabN g a b) R) := fun F => by
   have := okB_chain htab.1 R hR hs (by rw [hgl]; exact hlet) (K + 1) (by omega) F
   rwa [hgl] at this
  have hj : ∀ c : Bool, remouldref01_Tables.j2 (K + 1) ((permsN d).map upN) out (i : Int) (k : Int) (tabN g a b) c (g : Int) R = remouldref01_Tables.l1 K ((permsN d).map upN) (out ++ (if c = true then [tabN g a b] else [])) (i : Int) ((k + 1 : Nat) : Int) (g : Int) R := fun c => by
   simp only [remouldref01_Tables.j2]
   rw [wrapS k (by omega)]
   cases c
   ·rw [if_neg (by simp), if_neg (by simp), List.append_nil]
   ·rw [if_pos rfl, if_pos rfl, if_pos (by omega)]
  have hmain : remouldref01_Tables.l1 (K + 1 + 1) ((permsN d).map upN) out (i : Int) (k : Int) (g : Int) R = remouldref01_Tables.j2 (K + 1) ((permsN d).map upN) out (i : Int) (k : Int) (tabN g a b) (decide (k = 0 ∨ g = 2) && okB (tabN g a b) R) (g : Int) R := by
   simp only [remouldref01_Tables.l1]
   rw [if_pos (by rw [List.length_map]; omega), if_pos (by omega), if_pos (by rw [List.length_map]; omega), if_pos (by omega), rd_perms d h1 h5 i hi, rd_perms d h1 h5 k hk, ea, eb, Option.bind_some, if_pos (by omega), if_pos (by simp only [List.length_cons, List.length_nil]; omega), Option.bind_some, htk]
   by_cases hk0 : k = 0
   ·rw [if_pos (show ((k : Nat) : Int) = 0 by omega), decide_eq_true (Or.inl hk0), Bool.true_and]
    exact hchain (fun t => remouldref01_Tables.j2 (K + 1) ((permsN d).map upN) out (i : Int) (k : Int) (tabN g a b) t (g : Int) R)
   rw [if_neg (show ¬ ((k : Nat) : Int) = 0 by omega)]
   by_cases hg2 : g = 2
   ·rw [if_pos (show ((g : Nat) : Int) = 2 by omega), decide_eq_true (Or.inr hg2), Bool.true_and]
    exact hchain (fun t => remouldref01_Tables.j2 (K + 1) ((permsN d).map upN) out (i : Int) (k : Int) (tabN g a b) t (g : Int) R)
   ·rw [if_neg (show ¬ ((g : Nat) : Int) = 2 by omega), decide_eq_false (by omega), Bool.false_and]
  have ih := fun out' (ho' : out'.length + m ≤ 1000000) => refTab_l1 i hi m (k + 1) K out' (by omega) ho' (by omega)
  rw [show K + 2 = K + 1 + 1 from rfl, hmain, hj, ih _ (by rw [List.length_append]; split <;> simp <;> omega), show K + 1 + 1 - 2 * (m + 1) - 1 = K - 2 * m - 1 from by omega, List.drop_eq_getElem_cons hk, List.zipIdx_cons, List.flatMap_cons, ← List.append_assoc, ea, eb]
theorem refTab_l0 : ∀ (m i K : Nat) (out : List (List (List Int))), i + m = (permsN d).length → out.length + 200 * m ≤ 900000 → 300 * m + 1500 ≤ K →
  remouldref01_Tables.l0 K ((permsN d).map upN) out (i : Int) (g : Int) R = some (out ++ ((permsN d).drop i).flatMap (fun a => ((permsN d).zipIdx 0).flatMap (fun q => if (decide (q.2 = 0 ∨ g = 2) && okB (tabN g a q.1) R) = true then [tabN g a q.1] else [])))
 | 0, i, K, out, e, ho, hK => by
  obtain ⟨K, rfl⟩ : ∃ r, K = r + 1 := ⟨K - 1, by omega⟩
  simp only [remouldref01_Tables.l0]
  rw [if_neg (by rw [List.length_map]; omega), List.drop_eq_nil_of_le (by omega)]
  simp
 | m + 1, i, K, out, e, ho, hK => by
  obtain ⟨K, rfl⟩ : ∃ r, K = r + 1 := ⟨K - 1, by omega⟩
  have hl := perms_len d h1 h5
  have hi : i < (permsN d).length := by omega
  simp only [remouldref01_Tables.l0]
  have l1 := refTab_l1 g d hg h1 h5 R hR hs hlet i hi (permsN d).length 0 K out (by omega) (by omega) (by omega)
  simp only [Int.natCast_zero, List.drop_zero] at l1
  have hlen : (((permsN d).zipIdx 0).flatMap (fun q => if (decide (q.2 = 0 ∨ g = 2) && okB (tabN g ((permsN d)[i]) q.1) R) = true then [tabN g ((permsN d)[i]) q.1] else [])).length ≤ 120 := by
   have gen : ∀ (L : List (List Nat × Nat)) (f : List Nat × Nat → Bool) (t : List Nat × Nat → List (List Int)), (L.flatMap (fun q => if f q = true then [t q] else [])).length ≤ L.length := by
    intro L f t
    induction L with
    | nil => simp
    | cons x L ih =>
     have h1 : (if f x = true then [t x] else []).length ≤ 1 := by split <;> simp
     rw [List.flatMap_cons, List.length_append, List.length_cons]
     omega
   have := gen ((permsN d).zipIdx 0) (fun q => decide (q.2 = 0 ∨ g = 2) && okB (tabN g ((permsN d)[i]) q.1) R) (fun q => tabN g ((permsN d)[i]) q.1)
   rw [List.length_zipIdx] at this
   exact Nat.le_trans this hl
  rw [if_pos (by rw [List.length_map]; omega), l1, refTab_l0 m (i + 1) _ _ (by omega) (by rw [List.length_append]; omega) (by omega), List.drop_eq_getElem_cons hi, List.flatMap_cons, List.append_assoc]
end
theorem okB_std {g d : Nat} (hg : g = 1 ∨ g = 2) (h1 : 1 ≤ d) (h5 : d ≤ 5) {p : List Nat × List Nat} (hp : p ∈ pairsN g d) (R : List ByteArray) : okB (tabN g p.1 p.2) R = (stdN g d p.1 p.2 && keepsB (tabN g p.1 p.2) R) := by
 obtain ⟨tab, hn⟩ := tabN_tab hg h1 h5 hp
 have := stdN_iff hg tab
 rw [hn] at this
 unfold okB
 congr 1
 rw [Bool.eq_iff_iff, decide_eq_true_eq, this]
 unfold stdT
 rw [hn]
theorem flatMap_ite {α β : Type} (q : α → Bool) (t : α → β) (l : List α) : l.flatMap (fun x => if q x = true then [t x] else []) = (l.filter q).map t := filter_flatMap_ite q t l
theorem perms_cons (d : Nat) (h1 : 1 ≤ d) (h5 : d ≤ 5) : ∃ x l, permsN d = x :: l := by
 obtain rfl | rfl | rfl | rfl | rfl : d = 1 ∨ d = 2 ∨ d = 3 ∨ d = 4 ∨ d = 5 := by omega
 ·exact ⟨[0], (permsN 1).drop 1, by kernel_rfl⟩
 ·exact ⟨[0, 1], (permsN 2).drop 1, by kernel_rfl⟩
 ·exact ⟨[0, 1, 2], (permsN 3).drop 1, by kernel_rfl⟩
 ·exact ⟨[0, 1, 2, 3], (permsN 4).drop 1, by kernel_rfl⟩
 ·exact ⟨[0, 1, 2, 3, 4], (permsN 5).drop 1, by kernel_rfl⟩
theorem refTables_f {g d : Nat} (hg : g = 1 ∨ g = 2) (h1 : 1 ≤ d) (h5 : d ≤ 5) (R : List ByteArray) (hR : R.length ≤ 10) (hs : ∀ s ∈ R, s.size ≤ 100) (hlet : ∀ s ∈ R, ∀ c ∈ strBytes s, letG g c) (K : Nat) (hK : 50000 ≤ K) :
  remouldref01_Tables.f K (g : Int) R (d : Int) = some ((tablesN g d R).map fun p => tabN g p.1 p.2) := by
 have hl := perms_len d h1 h5
 have l0 := refTab_l0 g d hg h1 h5 R hR hs hlet (permsN d).length 0 K [] (by omega) (by simp; omega) (by omega)
 simp only [Int.natCast_zero, List.drop_zero, List.nil_append] at l0
 unfold remouldref01_Tables.f
 rw [columns_f d h1 h5 K (by omega), Option.bind_some, l0]
 congr 1
 have hok := fun p (hp : p ∈ pairsN g d) => okB_std hg h1 h5 hp R
 unfold tablesN
 rw [← flatMap_ite (fun p : List Nat × List Nat => stdN g d p.1 p.2 && keepsB (tabN g p.1 p.2) R) (fun p => tabN g p.1 p.2) (pairsN g d)]
 rcases hg with rfl | rfl
 ·show _ = ((permsN d).map fun a => ((a, []) : List Nat × List Nat)).flatMap _
  rw [List.flatMap_map]
  obtain ⟨x, l, hx⟩ := perms_cons d h1 h5
  have hin : ∀ a ∈ permsN d, ((permsN d).zipIdx 0).flatMap (fun q => if (decide (q.2 = 0 ∨ 1 = 2) && okB (tabN 1 a q.1) R) = true then [tabN 1 a q.1] else []) = (if (stdN 1 d a [] && keepsB (tabN 1 a []) R) = true then [tabN 1 a []] else []) := by
   intro a ha
   have := hok (a, []) (List.mem_map.2 ⟨a, ha, rfl⟩)
   have hz : ∀ (L : List (List Nat)) (n : Nat), (L.zipIdx (n + 1)).flatMap (fun q => if (decide (q.2 = 0 ∨ 1 = 2) && okB (tabN 1 a q.1) R) = true then [tabN 1 a q.1] else []) = [] := by
    intro L
    induction L with
    | nil => intro n; rfl
    | cons y L ih => intro n; rw [List.zipIdx_cons, List.flatMap_cons, ih (n + 1)]; simp
   rw [hx, List.zipIdx_cons, List.flatMap_cons, hz l 0, List.append_nil]
   show (if (decide (0 = 0 ∨ 1 = 2) && okB (tabN 1 a []) R) = true then [tabN 1 a []] else []) = _
   rw [this]
   simp
  have : ∀ L : List (List Nat), (∀ a ∈ L, a ∈ permsN d) → L.flatMap (fun a => ((permsN d).zipIdx 0).flatMap (fun q => if (decide (q.2 = 0 ∨ 1 = 2) && okB (tabN 1 a q.1) R) = true then [tabN 1 a q.1] else [])) = L.flatMap (fun a => if (stdN 1 d a [] && keepsB (tabN 1 a []) R) = true then [tabN 1 a []] else []) := by
   intro L
   induction L with
   | nil => intro _; rfl
   | cons a L ih => intro hL; rw [List.flatMap_cons, List.flatMap_cons, ih (fun y hy => hL y (by simp [hy])), hin a (hL a (by simp))]
  exact this (permsN d) (fun a h => h)
 ·show _ = ((permsN d).flatMap fun a => (permsN d).map fun b => ((a, b) : List Nat × List Nat)).flatMap _
  rw [List.flatMap_assoc]
  have hin : ∀ a ∈ permsN d, ((permsN d).zipIdx 0).flatMap (fun q => if (decide (q.2 = 0 ∨ 2 = 2) && okB (tabN 2 a q.1) R) = true then [tabN 2 a q.1] else []) = ((permsN d).map fun b => ((a, b) : List Nat × List Nat)).flatMap (fun p => if (stdN 2 d p.1 p.2 && keepsB (tabN 2 p.1 p.2) R) = true then [tabN 2 p.1 p.2] else []) := by
   intro a ha
   rw [List.flatMap_map]
   have : ∀ (L : List (List Nat)) (n : Nat), (∀ b ∈ L, b ∈ permsN d) → (L.zipIdx n).flatMap (fun q => if (decide (q.2 = 0 ∨ 2 = 2) && okB (tabN 2 a q.1) R) = true then [tabN 2 a q.1] else []) = L.flatMap (fun b => if (stdN 2 d a b && keepsB (tabN 2 a b) R) = true then [tabN 2 a b] else []) := by
    intro L
    induction L with
    | nil => intro n _; rfl
    | cons b L ih =>
     intro n hL
     have hb := hok (a, b) (List.mem_flatMap.2 ⟨a, ha, List.mem_map.2 ⟨b, hL b (by simp), rfl⟩⟩)
     rw [List.zipIdx_cons, List.flatMap_cons, List.flatMap_cons, ih (n + 1) (fun y hy => hL y (by simp [hy]))]
     show (if (decide (n = 0 ∨ 2 = 2) && okB (tabN 2 a b) R) = true then [tabN 2 a b] else []) ++ _ = _
     rw [hb, decide_eq_true (Or.inr rfl), Bool.true_and]
   exact this (permsN d) 0 (fun b h => h)
  have : ∀ L : List (List Nat), (∀ a ∈ L, a ∈ permsN d) → L.flatMap (fun a => ((permsN d).zipIdx 0).flatMap (fun q => if (decide (q.2 = 0 ∨ 2 = 2) && okB (tabN 2 a q.1) R) = true then [tabN 2 a q.1] else [])) = L.flatMap (fun a => ((permsN d).map fun b => ((a, b) : List Nat × List Nat)).flatMap (fun p => if (stdN 2 d p.1 p.2 && keepsB (tabN 2 p.1 p.2) R) = true then [tabN 2 p.1 p.2] else [])) := by
   intro L
   induction L with
   | nil => intro _; rfl
   | cons a L ih => intro hL; rw [List.flatMap_cons, List.flatMap_cons, ih (fun y hy => hL y (by simp [hy])), hin a (hL a (by simp))]
  exact this (permsN d) (fun a h => h)
theorem toCol_take (c : List Int) (d : Nat) (hc : c.length = d) (h5 : d ≤ 5) : ([(toCol c).f0, (toCol c).f1, (toCol c).f2, (toCol c).f3, (toCol c).f4] : List Int).take d = c := by
 subst hc
 match c, h5 with
 | [], _ => rfl
 | [_], _ => rfl
 | [_, _], _ => rfl
 | [_, _, _], _ => rfl
 | [_, _, _, _], _ => rfl
 | [_, _, _, _, _], _ => rfl
theorem lists_f {g d : Nat} (hg : g = 1 ∨ g = 2) (h1 : 1 ≤ d) (h5 : d ≤ 5) {p : List Nat × List Nat} (hp : p ∈ pairsN g d) :
  casing_table_lists.f (toS g d p).f0 (toS g d p).f1 (toS g d p).f2.f0.f0 (toS g d p).f2.f0.f1 (toS g d p).f2.f0.f2 (toS g d p).f2.f0.f3 (toS g d p).f2.f0.f4 (toS g d p).f2.f1.f0 (toS g d p).f2.f1.f1 (toS g d p).f2.f1.f2 (toS g d p).f2.f1.f3 (toS g d p).f2.f1.f4 = some (tabN g p.1 p.2) := by
 obtain ⟨tab, hn⟩ := tabN_tab hg h1 h5 hp
 have l0 : (upN p.1).length = d := by
  have r0 : rd_L5 (tabN g p.1 p.2) 0 = upN p.1 := by unfold tabN; split <;> rfl
  rw [← r0]; exact hn
 have t0 := toCol_take (upN p.1) d l0 h5
 unfold casing_table_lists.f
 rcases hg with rfl | rfl
 ·rw [if_pos (show (1 : Int) ≤ (toS 1 d p).f1 ∧ (toS 1 d p).f1 ≤ 5 from ⟨by show (1 : Int) ≤ (d : Int); omega, by show (d : Int) ≤ 5; omega⟩), if_pos (show (toS 1 d p).f0 = 1 from rfl)]
  show some [([(toCol (upN p.1)).f0, (toCol (upN p.1)).f1, (toCol (upN p.1)).f2, (toCol (upN p.1)).f3, (toCol (upN p.1)).f4] : List Int).take (d : Int).toNat] = _
  rw [Int.toNat_natCast, t0]
  rfl
 ·have l1 : (upN p.2).length = d := by
   have := (tab.c1 rfl).len
   rw [hn] at this
   exact this
  have t1 := toCol_take (upN p.2) d l1 h5
  rw [if_pos (show (1 : Int) ≤ (toS 2 d p).f1 ∧ (toS 2 d p).f1 ≤ 5 from ⟨by show (1 : Int) ≤ (d : Int); omega, by show (d : Int) ≤ 5; omega⟩), if_neg (show ¬ (toS 2 d p).f0 = 1 from by show ¬ ((2 : Nat) : Int) = 1; omega), if_pos (show (toS 2 d p).f0 = 2 from rfl)]
  show some [([(toCol (upN p.1)).f0, (toCol (upN p.1)).f1, (toCol (upN p.1)).f2, (toCol (upN p.1)).f3, (toCol (upN p.1)).f4] : List Int).take (d : Int).toNat, ([(toCol (upN p.2)).f0, (toCol (upN p.2)).f1, (toCol (upN p.2)).f2, (toCol (upN p.2)).f3, (toCol (upN p.2)).f4] : List Int).take (d : Int).toNat] = _
  rw [Int.toNat_natCast, t0, t1]
  rfl
theorem tables_len {g d : Nat} (hg : g = 1 ∨ g = 2) (h1 : 1 ≤ d) (h5 : d ≤ 5) (R : List ByteArray) : (tablesN g d R).length ≤ 14400 := by
 have hl := perms_len d h1 h5
 unfold tablesN
 refine Nat.le_trans (List.length_filter_le _ _) ?_
 rcases hg with rfl | rfl
 ·show ((permsN d).map _).length ≤ _
  rw [List.length_map]
  omega
 ·show ((permsN d).flatMap _).length ≤ _
  have gen : ∀ L : List (List Nat), (L.flatMap fun a => (permsN d).map fun b => ((a, b) : List Nat × List Nat)).length ≤ 120 * L.length := by
   intro L
   induction L with
   | nil => simp
   | cons a L ih => rw [List.flatMap_cons, List.length_append, List.length_map, List.length_cons]; omega
  have := gen (permsN d)
  omega
theorem Tables_l0 {g d : Nat} (hg : g = 1 ∨ g = 2) (h1 : 1 ≤ d) (h5 : d ≤ 5) (L : List (List Nat × List Nat)) (hL : ∀ p ∈ L, p ∈ pairsN g d) (hl : L.length ≤ 14400) : ∀ (m i K : Nat), i + m = L.length → m < K →
  casing_Tables.l0 K ((L.take i).map fun p => tabN g p.1 p.2) (L.map (toS g d)) (L.length : Int) (i : Int) = some (L.map (fun p => tabN g p.1 p.2), 0)
 | 0, i, K, e, hK => by
  obtain ⟨K, rfl⟩ : ∃ r, K = r + 1 := ⟨K - 1, by omega⟩
  simp only [casing_Tables.l0]
  rw [if_neg (by omega), List.take_of_length_le (by omega)]
 | m + 1, i, K, e, hK => by
  obtain ⟨K, rfl⟩ : ∃ r, K = r + 1 := ⟨K - 1, by omega⟩
  have hi : i < L.length := by omega
  have hr : rd_T79 (L.map (toS g d)) (i : Int) = toS g d L[i] := by simp [rd_T79, hi]
  simp only [casing_Tables.l0]
  rw [if_pos (by omega), if_pos (by omega), if_pos (by rw [List.length_map]; omega), hr, lists_f hg h1 h5 (hL _ (List.getElem_mem hi)), Option.bind_some, if_pos (by rw [List.length_map, List.length_take]; omega), wrapS i (by omega)]
  have ih := Tables_l0 hg h1 h5 L hL hl m (i + 1) K (by omega) (by omega)
  rw [← ih, List.take_succ_eq_append_getElem hi, List.map_append]
  rfl
theorem tables_mem {g d : Nat} {R : List ByteArray} {p : List Nat × List Nat} (h : p ∈ tablesN g d R) : p ∈ pairsN g d ∧ stdN g d p.1 p.2 = true ∧ keepsB (tabN g p.1 p.2) R = true := by
 have := List.mem_filter.1 h
 rw [Bool.and_eq_true] at this
 exact this
theorem Tables_yes {g : Int} {R : List ByteArray} (hgr : isGroupB g R = true) {d : Nat} (h1 : 1 ≤ d) (h5 : d ≤ 5) (K : Nat) (hK : 15000 ≤ K) :
  casing_Tables.f K g R (d : Int) = some ((tablesN g.toNat d R).map (fun p => tabN g.toNat p.1 p.2), 0) := by
 obtain ⟨hg, hR6, hw⟩ := isGroupB_let hgr
 obtain ⟨n, rfl⟩ := Int.eq_ofNat_of_zero_le (show 0 ≤ g by omega)
 have hg12 : n = 1 ∨ n = 2 := by omega
 have hlet : ∀ s ∈ R, ∀ c ∈ strBytes s, letG n c := fun s hs => letG_bytes (by have := (hw s hs).2; simpa using this)
 obtain ⟨K, rfl⟩ : ∃ r, K = r + 1 := ⟨K - 1, by omega⟩
 have ht := tables_f hg12 h1 h5 R (by omega) (fun s hs => by have := (hw s hs).1; omega) hlet K (by omega)
 have hl := tables_len hg12 h1 h5 R
 have l0 := Tables_l0 hg12 h1 h5 (tablesN n d R) (fun p hp => (tables_mem hp).1) hl (tablesN n d R).length 0 K (by omega) (by omega)
 simp only [List.take_zero, List.map_nil, Int.natCast_zero] at l0
 unfold casing_Tables.f
 rw [isGroup_f, hgr, Option.bind_some, if_pos rfl, within_true (by omega) (by omega), Option.bind_some, Bool.not_true, Int.toNat_natCast]
 simp only [casing_Tables.j0]
 rw [if_neg (by simp), ht, Option.bind_some, List.length_map, l0]
theorem Tables_no {g : Int} {R : List ByteArray} {d : Int} (h : ¬ (isGroupB g R = true ∧ 1 ≤ d ∧ d ≤ 5)) (K : Nat) (hK : 1 ≤ K) : casing_Tables.f K g R d = some ([], 2) := by
 have hj : ∀ a b c, casing_Tables.j0 K a true b c = some ([], 2) := fun a b c => by
  obtain ⟨K, rfl⟩ : ∃ r, K = r + 1 := ⟨K - 1, by omega⟩
  rw [casing_Tables.j0]
  exact if_pos rfl
 unfold casing_Tables.f
 rw [isGroup_f, Option.bind_some]
 by_cases hgr : isGroupB g R = true
 ·rw [if_pos hgr, within_false (fun e => h ⟨hgr, e⟩), Option.bind_some]
  exact hj _ _ _
 ·rw [if_neg hgr]
  exact hj _ _ _
theorem brief_f (s : ByteArray) : ∃ w, remouldlaw01_brief.f s = some w ∧ w.size ≤ 31 := by
 unfold remouldlaw01_brief.f
 have h1 : 0 ≤ mn (s.size : Int) 31 := by unfold mn; split <;> omega
 have h2 : mn (s.size : Int) 31 ≤ (s.size : Int) := by unfold mn; split <;> omega
 have h3 : mn (s.size : Int) 31 ≤ 31 := by unfold mn; split <;> omega
 rw [if_pos h1, if_pos h2]
 exact ⟨_, rfl, by rw [ByteArray.size_extract]; omega⟩
def briefB (s : ByteArray) : ByteArray := s.extract 0 (mn (s.size : Int) 31).toNat
theorem brief_eq (s : ByteArray) : remouldlaw01_brief.f s = some (briefB s) := by
 unfold remouldlaw01_brief.f
 have h1 : 0 ≤ mn (s.size : Int) 31 := by unfold mn; split <;> omega
 have h2 : mn (s.size : Int) 31 ≤ (s.size : Int) := by unfold mn; split <;> omega
 rw [if_pos h1, if_pos h2]
 rfl
theorem briefB_size (s : ByteArray) : (briefB s).size ≤ 31 := by
 obtain ⟨w, h, hw⟩ := brief_f s
 rw [brief_eq] at h
 cases h
 exact hw
def groupR (l : List ByteArray) : List ByteArray := (l.take 7).map briefB
theorem groupR_len (l : List ByteArray) : (groupR l).length ≤ 7 := by simp [groupR]; omega
theorem groupR_size (l : List ByteArray) : ∀ s ∈ groupR l, s.size ≤ 31 := by
 intro s hs
 obtain ⟨t, _, rfl⟩ := List.mem_map.1 hs
 exact briefB_size t
theorem group_l0 (a : Int) (l : List ByteArray) : ∀ (m i k : Nat), i + m = 7 → m < k →
  remouldlaw01_group.l0 k ((l.take i).map briefB) (i : Int) a l = some (a, groupR l)
 | 0, i, k, h, hk => by
  obtain ⟨k, rfl⟩ : ∃ q, k = q + 1 := ⟨k - 1, by omega⟩
  obtain rfl : i = 7 := by omega
  simp only [remouldlaw01_group.l0]
  by_cases hl : (7 : Int) < (l.length : Int)
  ·rw [if_pos (by simpa using hl), if_neg (by omega)]; rfl
  ·rw [if_neg (by simpa using hl)]; rfl
 | m + 1, i, k, h, hk => by
  obtain ⟨k, rfl⟩ : ∃ q, k = q + 1 := ⟨k - 1, by omega⟩
  simp only [remouldlaw01_group.l0]
  by_cases hl : i < l.length
  rotate_left
  ·rw [if_neg (by omega)]
   have : l.take i = l.take 7 := by rw [List.take_of_length_le (by omega), List.take_of_length_le (by omega)]
   rw [this]
   rfl
  rw [if_pos (by omega), if_pos (by omega), if_pos (by omega), brief_eq]
  simp only [Option.bind_some]
  have hlen : ((l.take i).map briefB).length ≤ 7 := by simp; omega
  rw [if_pos (by omega), wrap64_small _ (by omega) (by omega), show ((i : Int) + 1) = ((i + 1 : Nat) : Int) from by omega]
  have ih := group_l0 a l m (i + 1) k (by omega) (by omega)
  have hr : rdOf ByteArray.empty l (i : Int) = l[i] := by simp [rdOf, hl]
  rw [hr, ← ih, List.take_succ_eq_append_getElem hl, List.map_append]
  rfl
theorem group_f (a : Int) (l : List ByteArray) (k : Nat) (hk : 8 ≤ k) : remouldlaw01_group.f k a l = some (a, groupR l) := by
 have := group_l0 a l 7 0 k (by omega) (by omega)
 simpa [remouldlaw01_group.f] using this
theorem refGroup_l0 (a : Int) (ha : a = 1 ∨ a = 2) (R : List ByteArray) (hR : R.length ≤ 7) (hs : ∀ s ∈ R, s.size ≤ 31) : ∀ (m i k : Nat), i + m = R.length → m + 40 ≤ k →
  remouldref01_Group.l0 k (i : Int) a R = some ((R.drop i).all (wordOK a))
 | 0, i, k, h, hk => by
  obtain ⟨k, rfl⟩ : ∃ q, k = q + 1 := ⟨k - 1, by omega⟩
  simp only [remouldref01_Group.l0]
  rw [if_neg (by omega), List.drop_eq_nil_of_le (by omega)]
  rfl
 | m + 1, i, k, h, hk => by
  obtain ⟨k, rfl⟩ : ∃ q, k = q + 1 := ⟨k - 1, by omega⟩
  have hi : i < R.length := by omega
  simp only [remouldref01_Group.l0]
  have hr : rdOf ByteArray.empty R (i : Int) = R[i] := by simp [rdOf, hi]
  have hsz : R[i].size ≤ 31 := hs _ (List.getElem_mem hi)
  rw [if_pos (by omega), if_pos (by omega), hr, refWord_f a R[i] (by omega) k (by omega)]
  simp only [Option.bind_some]
  rw [wrap64_small _ (by omega) (by omega), show ((i : Int) + 1) = ((i + 1 : Nat) : Int) from by omega, refGroup_l0 a ha R hR hs m (i + 1) k (by omega) (by omega)]
  rw [List.drop_eq_getElem_cons hi, List.all_cons]
  have e : (decide ((a = 1 ∨ a = 2) ∧ R[i].size ≤ 30) && allLet a.toNat R[i]) = wordOK a R[i] := by
   unfold wordOK
   congr 1
   exact decide_eq_decide.2 ⟨fun h => h.2, fun h => ⟨ha, h⟩⟩
  rw [e]
  cases wordOK a R[i] <;> simp
theorem refGroup_f (a : Int) (R : List ByteArray) (hR : R.length ≤ 7) (hs : ∀ s ∈ R, s.size ≤ 31) (k : Nat) (hk : 60 ≤ k) : remouldref01_Group.f k a R = some (isGroupB a R) := by
 obtain ⟨k, rfl⟩ : ∃ q, k = q + 1 := ⟨k - 1, by omega⟩
 unfold remouldref01_Group.f isGroupB
 simp only [remouldref01_Group.j0]
 by_cases h1 : a < 1
 ·rw [if_pos h1, decide_eq_false (by omega)]; simp
 rw [if_neg h1]
 by_cases h2 : a > 2
 ·rw [if_pos h2, decide_eq_false (by omega)]; simp
 rw [if_neg h2]
 by_cases h3 : (R.length : Int) > 6
 ·rw [decide_eq_true h3, decide_eq_false (by omega)]; simp
 rw [decide_eq_false h3, decide_eq_true (by omega)]
 simp only [Bool.true_and]
 rw [if_neg (by simp)]
 have := refGroup_l0 a (by omega) R hR hs R.length 0 k (by omega) (by omega)
 simpa using this
end Go.Proofs.Ytmcihijobilcgaa.PAll
end
section
namespace Go.Proofs.Ytmcihijobilcgaa.Pure
open Go.RowKit Go.Proofs.Ytmcihijobilcgaa.PAll Go.Proofs.YtmcihijobilcgaaW.PrintWords Go.Proofs.YtmcihijobilcgaaW.PrintLast
theorem tab_same_l0 (L : List (List (List Int))) (hL : ∀ T ∈ L, Tab T) (hl : L.length ≤ 14400) : ∀ (m i k : Nat), i + m = L.length → m + 1000 ≤ k → remouldlaw01_CasingTables.l0 k L L (i : Int) = some true
 | 0, i, k, e, hk => by
  obtain ⟨k, rfl⟩ : ∃ r, k = r + 1 := ⟨k - 1, by omega⟩
  simp only [remouldlaw01_CasingTables.l0]
  rw [if_neg (by omega)]
  rfl
 | m + 1, i, k, e, hk => by
  obtain ⟨k, rfl⟩ : ∃ r, k = r + 1 := ⟨k - 1, by omega⟩
  have hi : i < L.length := by omega
  have tab := hL _ (List.getElem_mem hi)
  have hr : rd_L6 L (i : Int) = L[i] := by simp [rd_L6, hi]
  simp only [remouldlaw01_CasingTables.l0]
  rw [if_pos (by omega), if_pos (by omega), if_pos (by omega), hr, Same_f _ _ (by have := tab.g2; omega) (fun r hr => by have := tab.rows r hr; have := tab.d5; omega) k (by omega), Option.bind_some, if_pos (decide_eq_true rfl), wrapS i (by omega)]
  exact tab_same_l0 L hL hl m (i + 1) k (by omega) (by omega)
theorem tables_no (k : Nat) (hk : 1 ≤ k) (d : Int) (g : Int) (R : List ByteArray) : remouldlaw01_CasingTables.j0 k d [] 2 true g R = some true := by
 obtain ⟨k, rfl⟩ : ∃ r, k = r + 1 := ⟨k - 1, by omega⟩
 rw [remouldlaw01_CasingTables.j0]
 simp [remouldlaw01_awake.f]
theorem tables_yes (k : Nat) (hk : 60000 ≤ k) (d : Nat) (h1 : 1 ≤ d) (h5 : d ≤ 5) (g : Nat) (hg : g = 1 ∨ g = 2) (R : List ByteArray) (hR : R.length ≤ 10) (hs : ∀ s ∈ R, s.size ≤ 100) (hlet : ∀ s ∈ R, ∀ c ∈ strBytes s, letG g c) :
  remouldlaw01_CasingTables.j0 k (d : Int) ((tablesN g d R).map (fun p => tabN g p.1 p.2)) 0 false (g : Int) R = some true := by
 obtain ⟨k, rfl⟩ : ∃ r, k = r + 2 := ⟨k - 2, by omega⟩
 have hl := tables_len hg h1 h5 R
 have ht := refTables_f hg h1 h5 R hR hs hlet (k + 1) (by omega)
 have hL : ∀ T ∈ (tablesN g d R).map (fun p => tabN g p.1 p.2), Tab T := by
  intro T hT
  obtain ⟨p, hp, rfl⟩ := List.mem_map.1 hT
  exact (tabN_tab hg h1 h5 (tables_mem hp).1).1
 have h0 := tab_same_l0 _ hL (by rw [List.length_map]; exact hl) _ 0 k (Nat.zero_add _) (by rw [List.length_map]; omega)
 rw [remouldlaw01_CasingTables.j0, if_neg (by simp), ht, Option.bind_some, if_pos rfl, remouldlaw01_CasingTables.j1, if_neg (by simp)]
 exact h0
theorem tables_at (g : Int) (r : List ByteArray) (d : Int) (k : Nat) (hk : 60000 ≤ k) : remouldlaw01_CasingTables.f k g r d = some true := by
 have hR7 := groupR_len r
 have hR31 := groupR_size r
 rw [remouldlaw01_CasingTables.f, group_f g r k (by omega), Option.bind_some]
 have hrg := refGroup_f g (groupR r) hR7 hR31 k (by omega)
 obtain ⟨R, hR⟩ : ∃ R, groupR r = R := ⟨_, rfl⟩
 rw [hR] at hR7 hR31 hrg ⊢
 by_cases hgr : isGroupB g R = true
 rotate_left
 ·rw [Bool.not_eq_true] at hgr
  rw [hgr] at hrg
  rw [Tables_no (fun h => by rw [hgr] at h; cases h.1) k (by omega), Option.bind_some, hrg, Option.bind_some, if_neg (by simp)]
  exact tables_no k (by omega) d g R
 rw [hgr] at hrg
 obtain ⟨hg12, hR6, hwd⟩ := isGroupB_let hgr
 by_cases hd : 1 ≤ d ∧ d ≤ 5
 rotate_left
 ·rw [Tables_no (fun h => hd h.2) k (by omega), Option.bind_some, hrg, Option.bind_some, if_pos rfl]
  by_cases h1 : d < 1
  ·rw [if_pos h1]
   exact tables_no k (by omega) d g R
  ·rw [if_neg h1, decide_eq_true (show d > 5 by omega)]
   exact tables_no k (by omega) d g R
 obtain ⟨n, rfl⟩ := Int.eq_ofNat_of_zero_le (show 0 ≤ d by omega)
 obtain ⟨q, rfl⟩ := Int.eq_ofNat_of_zero_le (show 0 ≤ g by omega)
 have hq : q = 1 ∨ q = 2 := by omega
 have hn1 : 1 ≤ n := by omega
 have hn5 : n ≤ 5 := by omega
 have hlet : ∀ s ∈ R, ∀ c ∈ strBytes s, letG q c := fun s hs => letG_bytes (by have := (hwd s hs).2; simpa using this)
 have hy := tables_yes k hk n hn1 hn5 q hq R (by omega) (fun s hs => by have := hR31 s hs; omega) hlet
 rw [Tables_yes hgr hn1 hn5 k (by omega), Option.bind_some, hrg, Option.bind_some, if_pos rfl, if_neg (by omega), decide_eq_false (show ¬ ((n : Nat) : Int) > 5 by omega)]
 exact hy
theorem CasingTables (g : Int) (r : List ByteArray) (d : Int) (hg : (Lit.int .i64 g).wf = true) (hr : r.length ≤ 9223372036854775807) (hd : (Lit.int .i64 d).wf = true) : ∃ k, remouldlaw01_CasingTables.f k g r d = some true := ⟨60000, tables_at g r d 60000 (Nat.le_refl _)⟩
end Go.Proofs.Ytmcihijobilcgaa.Pure
end
section
namespace Go.Proofs.Ytmcihijobilcgaa.PAll
open Go.RowKit Go.ChangeShapes Go.WideShapes Go.ChangeAt Go.Deep Go.Proofs.YtmcihijobilcgaaW.PrintWords
section
variable {H : Type} {enc : TypeId × Value → H} {P : Program} {w : World} {base : Nat}
theorem open_stringsC {t e : TypeId} {fuel : Nat} {v : Value} {x : DataW H × List MemPlace} (ht : P.underlying t = some (.slice e)) (he : P.underlying e = some .string) (ce : P.cellsOf e = 1)
  (h : DataW.trod enc P w base (fun _ => true) true fuel t [v] = some x) :
  ∃ (A : Option Addr) (c : Nat) (l : List ByteArray), v = .slice A l.length c ∧ l.length ≤ c ∧ Kd.C Kd.string w A l.length l := by
 rcases open_strings ht he ce h with ⟨hcs, _⟩ | ⟨a, l, c, zs, hcs, _, hl, hm, hz, _, hcell, hwz⟩
 ·obtain rfl := List.singleton_inj.1 hcs
  exact ⟨none, 0, [], rfl, Nat.le_refl _, Kd.C_nil _ _⟩
 ·obtain rfl := List.singleton_inj.1 hcs
  simp at hz
  have hlen : (zs.take l).length = l := by simp; omega
  refine ⟨some a, c, zs.take l, by rw [hlen], by omega, Kd.C_of_reads (enc := Value.string) (d := ByteArray.empty) (h1 := fun _ => rfl) ⟨rfl, by rw [hlen]; unfold maxLen at hm; omega, fun _ => ⟨a, rfl, fun j hj => ?_⟩⟩⟩
  rw [hlen] at hj
  rw [hcell j (by omega)]
  simp [List.getD, List.getElem?_take, hj]
end
end Go.Proofs.Ytmcihijobilcgaa.PAll
end
section
namespace Go.Proofs.Ytmcihijobilcgaa.casingTables
open Go.ChangeShapes Go.WideShapes Go.ChangeAt Go.RowKit
open Go.ChangeMaps (open_string shut_string)
theorem own : ownKnob Try.prog.godebug = none := by kernel_rfl
theorem laidOut : laidOutB Try.prog = true := by kernel_rfl
theorem lifted (os : Os) (started : os.Started) (H : Type) (enc : TypeId × Value → H) :
  ReturnsInHanded {} Try.checked os 3 .any (Rows.casingTablesSpec.pre6 enc Try.prog Try.f3 Rows.casingTablesRow.domain false) (Rows.casingTablesSpec.post enc Try.prog Try.f3 false true false false) := by
 refine returnsInHanded_of_change_sized (C := Try.checked) own started (by kernel_rfl) Try.func3
  (ChangeSpec.witness6 (enc := enc) (C := Try.checked) false ⟨#[], #[.agg #[.int .i64 0, .slice none 0 0], .int .i64 0], []⟩ 8 (by kernel_rfl) (by kernel_rfl) (by kernel_rfl) (by kernel_rfl)) ?_
 intro W base args ds gs before hval0 hW hcnd hsz0 _
 have hsz : (DataW.weightsEach Try.prog (Try.f3.params.toList ++ Rows.casingTablesSpec.plain.varTypes Try.prog) (ds ++ gs)).all (· ≤ reachBytes) = true := hsz0
 have hval : ∀ (j : Nat) t v, Try.f3.params[j]? = some t → args[j]? = some v → Value.okWide Try.prog W .any base t v := hval0
 have hW' := hW
 obtain ⟨p, q, hA0, hV, rfl, hfz, hnd⟩ := hW
 have hA : DataW.TrodAll enc Try.prog W 0 (fun _ => true) true Try.f3.params.toList args.toList ds p := hA0
 rw [Try.params3] at hA hval hsz
 obtain ⟨v0, vs0, d0, ds0, p0, q0, hargs, rfl, rfl, h0, r0⟩ := trodAll_cons hA
 obtain ⟨v1, vs1, d1, ds1, p1, q1, rfl, rfl, rfl, h1, r1⟩ := trodAll_cons r0
 obtain ⟨rfl, rfl, rfl⟩ := trodAll_nil r1
 obtain rfl : args = #[v0, v1] := by cases args; simp_all
 obtain ⟨rfl, rfl⟩ := trodVars_none hV
 have k0 := h0
 have lt0 : ∀ x ∈ p0, x.block < W.heap.size := by obtain ⟨m, hm⟩ := k0; exact DataW.trod_lt m _ _ _ hm
 obtain ⟨g0, u0, y0, z0, m0, rfl, -, -, e0, f0⟩ := Joins.open_agg2 Try.underlying24 (by kernel_rfl) (by kernel_rfl) (hval 0 24 v0 rfl rfl) h0
 obtain ⟨a0_0, ga0, -, w0⟩ := DataW.trod_int Try.underlying3 e0
 obtain rfl := List.singleton_inj.1 ga0
 obtain ⟨A0, c0, l0_1, rfl, b0, C0⟩ := PAll.open_stringsC Try.underlying22 Try.underlying9 (by kernel_rfl) f0
 obtain ⟨a1, rfl, rfl, rfl, w1⟩ := open_int Try.underlying3 (hval 1 3 v1 rfl rfl) h1
 clear hA0 hval0 hsz0 hsz
 obtain ⟨k, h⟩ := Pure.CasingTables a0_0 l0_1 a1 w0 C0.2.1 w1
 refine (PAll.remouldlaw01_CasingTables.calls k a0_0 A0 c0 l0_1 a1 true ⟨rfl⟩ W C0 b0 h).mono fun e W' ⟨he, bel⟩ => ?_
 subst he
 exact ⟨_, rfl, _, _, _, [], _, [], hW', trodAll_mk1 (shut_bool Try.underlying4 _), (trodAll_cons_mk (Below.trod laidOut (by kernel_rfl) (of_decide_eq_true (by kernel_rfl)) k0 bel lt0) (trodAll_cons_mk (shut_int Try.underlying3 w1) trodAll_mk0)), rfl, bel.frame _, fun h => by cases h⟩
theorem over : Rows.casingTablesRow.holds Try.pinned (OpenSpec.ofChange Rows.casingTablesSpec) :=
 OpenClaim.holds_of_wide 3 Try.f3 rfl rfl rfl rfl rfl rfl rfl ⟨rfl, rfl, rfl, rfl, rfl⟩ rfl rfl rfl rfl rfl (by kernel_rfl) Try.func3 (by kernel_rfl)
  (of_decide_eq_true (by kernel_rfl)) (by unfold Func.isWrapper; first | (rw [if_pos (by decide +kernel)]; kernel_rfl) | (rw [if_neg (by decide +kernel)]; exact ⟨rfl, rfl⟩))
  (fun os started H enc _ => lifted os started H enc)
theorem proved : Rows.CasingTablesSaid := over
end Go.Proofs.Ytmcihijobilcgaa.casingTables
namespace Go.Proofs.Ytmcihijobilcgaa
theorem casingTables_holds : Rows.CasingTablesSaid := casingTables.proved
end Go.Proofs.Ytmcihijobilcgaa
end
