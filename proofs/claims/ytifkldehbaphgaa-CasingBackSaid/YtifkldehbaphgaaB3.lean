/- What the proofs of all laws of this seat lean on: what Go's functions that remouldlaw01.awake calls answer, and that awake returns true. No condition. Part 4 of 4. -/
import Derived.Test.YtifkldehbaphgaaB2
set_option linter.all false
set_option maxHeartbeats 8000000
set_option maxRecDepth 100000
section
namespace Go.Proofs.Ytifkldehbaphgaa.PAll
open Go.RowKit Go.PW.PrintWords Go.PW.PrintLast Go.PW.PrintMore
def okC (d : Nat) (c : List Int) (i : Nat) : Prop := ∀ m, m < i → 0 ≤ c.getD m 0 ∧ c.getD m 0 ≤ (d : Int) - 1 ∧ c.getD m 0 ∉ c.take m
instance (d : Nat) (c : List Int) (i : Nat) : Decidable (okC d c i) := inferInstanceAs (Decidable (∀ m, m < i → 0 ≤ c.getD m 0 ∧ c.getD m 0 ≤ (d : Int) - 1 ∧ c.getD m 0 ∉ c.take m))
def okT (l : List (List Int)) : Prop := (1 ≤ l.length ∧ l.length ≤ 2) ∧ (1 ≤ (rd_L1 l 0).length ∧ (rd_L1 l 0).length ≤ 5) ∧ ∀ k, k < l.length → (rd_L1 l (k : Int)).length = (rd_L1 l 0).length ∧ okC (rd_L1 l 0).length (rd_L1 l (k : Int)) (rd_L1 l 0).length
instance (l : List (List Int)) : Decidable (okT l) := inferInstanceAs (Decidable (_ ∧ _))
def pad5 (c : List Int) : List Int := (c ++ List.replicate 5 0).take 5
theorem pad5_length (c : List Int) : (pad5 c).length = 5 := by simp [pad5]
theorem pad5_get (c : List Int) (m : Nat) (h : m < 5) : (pad5 c)[m]? = some (c.getD m 0) := by
 simp only [pad5, List.getElem?_take, h, if_true]
 rcases Nat.lt_or_ge m c.length with h1 | h1
 ·rw [List.getElem?_append_left h1]; simp [h1]
 ·rw [List.getElem?_append_right h1, List.getElem?_replicate, if_pos (by omega)]; simp [h1]
theorem pad5_set (c : List Int) (i : Nat) (h : i < 5) (hc : i < c.length) : (pad5 (c.take i)).set i (c.getD i 0) = pad5 (c.take (i + 1)) := by
 apply List.ext_getElem?
 intro m
 rcases Nat.lt_or_ge m 5 with h5 | h5
 ·rw [List.getElem?_set, pad5_get _ _ h5, pad5_get _ _ h5, pad5_length]
  by_cases e : i = m
  ·subst e
   rw [if_pos rfl, if_pos h]
   simp [List.getD, List.getElem?_take]
  rw [if_neg e]
  simp only [List.getD, List.getElem?_take]
  by_cases h1 : m < i
  ·rw [if_pos h1, if_pos (by omega)]
  ·rw [if_neg h1, if_neg (by omega)]
 ·rw [List.getElem?_eq_none (by rw [List.length_set, pad5_length]; exact h5), List.getElem?_eq_none (by rw [pad5_length]; exact h5)]
def mixT (l : List (List Int)) (k i : Nat) : List Int :=
 if k = 0 then pad5 ((rd_L1 l 0).take i) ++ pad5 [] else if k = 1 then pad5 (rd_L1 l 0) ++ pad5 ((rd_L1 l 1).take i) else pad5 (rd_L1 l 0) ++ pad5 (rd_L1 l 1)
theorem mixT_length (l : List (List Int)) (k i : Nat) : (mixT l k i).length = 10 := by
 unfold mixT
 split
 ·simp [pad5_length]
 ·split <;> simp [pad5_length]
theorem mixT_set0 (l : List (List Int)) (i : Nat) (h : i < 5) (hc : i < (rd_L1 l 0).length) : (mixT l 0 i).set i ((rd_L1 l 0).getD i 0) = mixT l 0 (i + 1) := by
 simp only [mixT, if_true]
 rw [List.set_append_left _ _ (by rw [pad5_length]; exact h), pad5_set _ _ h hc]
theorem mixT_set1 (l : List (List Int)) (i : Nat) (h : i < 5) (hc : i < (rd_L1 l 1).length) : (mixT l 1 i).set (5 + i) ((rd_L1 l 1).getD i 0) = mixT l 1 (i + 1) := by
 simp only [mixT, if_true, Nat.one_ne_zero, if_false]
 rw [List.set_append_right _ _ (by rw [pad5_length]; omega), pad5_length, Nat.add_sub_cancel_left, pad5_set _ _ h hc]
theorem mixT_next0 (l : List (List Int)) (n : Nat) (h : (rd_L1 l 0).length = n) : mixT l 0 n = mixT l 1 0 := by
 simp only [mixT, if_true, Nat.one_ne_zero, if_false, ← h, List.take_length, List.take_zero]
theorem mixT_next1 (l : List (List Int)) (n : Nat) (h : (rd_L1 l 1).length = n) : mixT l 1 n = mixT l 2 0 := by
 simp only [mixT, if_true, Nat.one_ne_zero, if_false, ← h, List.take_length]
 rfl
theorem list10 (L : List Int) (h : L.length = 10) : L = [L.getD 0 0, L.getD 1 0, L.getD 2 0, L.getD 3 0, L.getD 4 0, L.getD 5 0, L.getD 6 0, L.getD 7 0, L.getD 8 0, L.getD 9 0] := by
 match L, h with
 | [_, _, _, _, _, _, _, _, _, _], _ => rfl
def tabL (l : List (List Int)) : List Int := mixT l l.length 0
def c_newTable.f (k : Nat) (l0 : List (List Int)) : Option (Int × Int × Int × Int × Int × Int × Int × Int × Int × Int × Int × Int × Bool) :=
 if okT l0 then some ((l0.length : Int), ((rd_L1 l0 0).length : Int), (tabL l0).getD 0 0, (tabL l0).getD 1 0, (tabL l0).getD 2 0, (tabL l0).getD 3 0, (tabL l0).getD 4 0, (tabL l0).getD 5 0, (tabL l0).getD 6 0, (tabL l0).getD 7 0, (tabL l0).getD 8 0, (tabL l0).getD 9 0, true)
 else some (0, 0, 0, 0, 0, 0, 0, 0, 0, 0, 0, 0, false)
theorem within_true {a lo hi : Int} (h1 : lo ≤ a) (h2 : a ≤ hi) : c_within.f a lo hi = some true := by unfold c_within.f; rw [if_pos h1, decide_eq_true h2]
theorem within_false {a lo hi : Int} (h : ¬ (lo ≤ a ∧ a ≤ hi)) : c_within.f a lo hi = some false := by
 unfold c_within.f
 by_cases h1 : lo ≤ a
 ·rw [if_pos h1, decide_eq_false (fun h2 => h ⟨h1, h2⟩)]
 ·rw [if_neg h1]
theorem set12 {W : World} {g : Nat} (u0 u1 u2 u3 u4 u5 u6 u7 u8 u9 u10 u11 a0 a1 a2 a3 a4 a5 a6 a7 a8 a9 a10 a11 : Value) (h : W.heap[g]? = some (.cells #[u0, u1, u2, u3, u4, u5, u6, u7, u8, u9, u10, u11] 78 (0, 0))) : ((((((((((((W.setCell ⟨g, 0, none⟩ a0).setCell ⟨g, 1, none⟩ a1).setCell ⟨g, 2, none⟩ a2).setCell ⟨g, 3, none⟩ a3).setCell ⟨g, 4, none⟩ a4).setCell ⟨g, 5, none⟩ a5).setCell ⟨g, 6, none⟩ a6).setCell ⟨g, 7, none⟩ a7).setCell ⟨g, 8, none⟩ a8).setCell ⟨g, 9, none⟩ a9).setCell ⟨g, 10, none⟩ a10).setCell ⟨g, 11, none⟩ a11).heap[g]? = some (.cells #[a0, a1, a2, a3, a4, a5, a6, a7, a8, a9, a10, a11] 78 (0, 0)) := by
 have h0 : (W.setCell ⟨g, 0, none⟩ a0).heap[g]? = some (.cells #[a0, u1, u2, u3, u4, u5, u6, u7, u8, u9, u10, u11] 78 (0, 0)) := kP_ h 0 _ rfl
 have h1 : ((W.setCell ⟨g, 0, none⟩ a0).setCell ⟨g, 1, none⟩ a1).heap[g]? = some (.cells #[a0, a1, u2, u3, u4, u5, u6, u7, u8, u9, u10, u11] 78 (0, 0)) := kP_ h0 1 _ rfl
 have h2 : (((W.setCell ⟨g, 0, none⟩ a0).setCell ⟨g, 1, none⟩ a1).setCell ⟨g, 2, none⟩ a2).heap[g]? = some (.cells #[a0, a1, a2, u3, u4, u5, u6, u7, u8, u9, u10, u11] 78 (0, 0)) := kP_ h1 2 _ rfl
 have h3 : ((((W.setCell ⟨g, 0, none⟩ a0).setCell ⟨g, 1, none⟩ a1).setCell ⟨g, 2, none⟩ a2).setCell ⟨g, 3, none⟩ a3).heap[g]? = some (.cells #[a0, a1, a2, a3, u4, u5, u6, u7, u8, u9, u10, u11] 78 (0, 0)) := kP_ h2 3 _ rfl
 have h4 : (((((W.setCell ⟨g, 0, none⟩ a0).setCell ⟨g, 1, none⟩ a1).setCell ⟨g, 2, none⟩ a2).setCell ⟨g, 3, none⟩ a3).setCell ⟨g, 4, none⟩ a4).heap[g]? = some (.cells #[a0, a1, a2, a3, a4, u5, u6, u7, u8, u9, u10, u11] 78 (0, 0)) := kP_ h3 4 _ rfl
 have h5 : ((((((W.setCell ⟨g, 0, none⟩ a0).setCell ⟨g, 1, none⟩ a1).setCell ⟨g, 2, none⟩ a2).setCell ⟨g, 3, none⟩ a3).setCell ⟨g, 4, none⟩ a4).setCell ⟨g, 5, none⟩ a5).heap[g]? = some (.cells #[a0, a1, a2, a3, a4, a5, u6, u7, u8, u9, u10, u11] 78 (0, 0)) := kP_ h4 5 _ rfl
 have h6 : (((((((W.setCell ⟨g, 0, none⟩ a0).setCell ⟨g, 1, none⟩ a1).setCell ⟨g, 2, none⟩ a2).setCell ⟨g, 3, none⟩ a3).setCell ⟨g, 4, none⟩ a4).setCell ⟨g, 5, none⟩ a5).setCell ⟨g, 6, none⟩ a6).heap[g]? = some (.cells #[a0, a1, a2, a3, a4, a5, a6, u7, u8, u9, u10, u11] 78 (0, 0)) := kP_ h5 6 _ rfl
 have h7 : ((((((((W.setCell ⟨g, 0, none⟩ a0).setCell ⟨g, 1, none⟩ a1).setCell ⟨g, 2, none⟩ a2).setCell ⟨g, 3, none⟩ a3).setCell ⟨g, 4, none⟩ a4).setCell ⟨g, 5, none⟩ a5).setCell ⟨g, 6, none⟩ a6).setCell ⟨g, 7, none⟩ a7).heap[g]? = some (.cells #[a0, a1, a2, a3, a4, a5, a6, a7, u8, u9, u10, u11] 78 (0, 0)) := kP_ h6 7 _ rfl
 have h8 : (((((((((W.setCell ⟨g, 0, none⟩ a0).setCell ⟨g, 1, none⟩ a1).setCell ⟨g, 2, none⟩ a2).setCell ⟨g, 3, none⟩ a3).setCell ⟨g, 4, none⟩ a4).setCell ⟨g, 5, none⟩ a5).setCell ⟨g, 6, none⟩ a6).setCell ⟨g, 7, none⟩ a7).setCell ⟨g, 8, none⟩ a8).heap[g]? = some (.cells #[a0, a1, a2, a3, a4, a5, a6, a7, a8, u9, u10, u11] 78 (0, 0)) := kP_ h7 8 _ rfl
 have h9 : ((((((((((W.setCell ⟨g, 0, none⟩ a0).setCell ⟨g, 1, none⟩ a1).setCell ⟨g, 2, none⟩ a2).setCell ⟨g, 3, none⟩ a3).setCell ⟨g, 4, none⟩ a4).setCell ⟨g, 5, none⟩ a5).setCell ⟨g, 6, none⟩ a6).setCell ⟨g, 7, none⟩ a7).setCell ⟨g, 8, none⟩ a8).setCell ⟨g, 9, none⟩ a9).heap[g]? = some (.cells #[a0, a1, a2, a3, a4, a5, a6, a7, a8, a9, u10, u11] 78 (0, 0)) := kP_ h8 9 _ rfl
 have h10 : (((((((((((W.setCell ⟨g, 0, none⟩ a0).setCell ⟨g, 1, none⟩ a1).setCell ⟨g, 2, none⟩ a2).setCell ⟨g, 3, none⟩ a3).setCell ⟨g, 4, none⟩ a4).setCell ⟨g, 5, none⟩ a5).setCell ⟨g, 6, none⟩ a6).setCell ⟨g, 7, none⟩ a7).setCell ⟨g, 8, none⟩ a8).setCell ⟨g, 9, none⟩ a9).setCell ⟨g, 10, none⟩ a10).heap[g]? = some (.cells #[a0, a1, a2, a3, a4, a5, a6, a7, a8, a9, a10, u11] 78 (0, 0)) := kP_ h9 10 _ rfl
 have h11 : ((((((((((((W.setCell ⟨g, 0, none⟩ a0).setCell ⟨g, 1, none⟩ a1).setCell ⟨g, 2, none⟩ a2).setCell ⟨g, 3, none⟩ a3).setCell ⟨g, 4, none⟩ a4).setCell ⟨g, 5, none⟩ a5).setCell ⟨g, 6, none⟩ a6).setCell ⟨g, 7, none⟩ a7).setCell ⟨g, 8, none⟩ a8).setCell ⟨g, 9, none⟩ a9).setCell ⟨g, 10, none⟩ a10).setCell ⟨g, 11, none⟩ a11).heap[g]? = some (.cells #[a0, a1, a2, a3, a4, a5, a6, a7, a8, a9, a10, a11] 78 (0, 0)) := kP_ h10 11 _ rfl
 exact h11
theorem below12 {w W : World} {g : Nat} (a0 a1 a2 a3 a4 a5 a6 a7 a8 a9 a10 a11 : Value) (h : Below w.heap.size w W) (hg : w.heap.size ≤ g) : Below w.heap.size w ((((((((((((W.setCell ⟨g, 0, none⟩ a0).setCell ⟨g, 1, none⟩ a1).setCell ⟨g, 2, none⟩ a2).setCell ⟨g, 3, none⟩ a3).setCell ⟨g, 4, none⟩ a4).setCell ⟨g, 5, none⟩ a5).setCell ⟨g, 6, none⟩ a6).setCell ⟨g, 7, none⟩ a7).setCell ⟨g, 8, none⟩ a8).setCell ⟨g, 9, none⟩ a9).setCell ⟨g, 10, none⟩ a10).setCell ⟨g, 11, none⟩ a11) := (bS_ (bS_ (bS_ (bS_ (bS_ (bS_ (bS_ (bS_ (bS_ (bS_ (bS_ (bS_ h hg) hg) hg) hg) hg) hg) hg) hg) hg) hg) hg) hg)
theorem at_row {w W : World} {ad : Addr} {n : Nat} {xs : List (List Int)} (hC : Kd.C (Kd.slice 3 (Kd.int .i64)) w (some ad) n xs) (hb : Below w.heap.size w W) (i : Int) (h0 : 0 ≤ i) (h1 : i < n) :
  ∃ A0 c0, W.cell? (ad.add i.toNat) = some (.slice A0 (rd_L1 xs i).length c0) ∧ (rd_L1 xs i).length ≤ c0 ∧ Kd.C (Kd.int .i64) W A0 (rd_L1 xs i).length (rd_L1 xs i) := by
 obtain ⟨ad', A0, c0, e, h2, h3, h4⟩ := at_L1 (Kd.C_below hC hb) i h0 h1
 cases e
 exact ⟨A0, c0, h2, h3, h4⟩
theorem at_row0 {w W : World} {ad : Addr} {n : Nat} {xs : List (List Int)} (hC : Kd.C (Kd.slice 3 (Kd.int .i64)) w (some ad) n xs) (hb : Below w.heap.size w W) (h1 : 0 < n) :
  ∃ A0 c0, W.cell? ad = some (.slice A0 (rd_L1 xs 0).length c0) ∧ (rd_L1 xs 0).length ≤ c0 ∧ Kd.C (Kd.int .i64) W A0 (rd_L1 xs 0).length (rd_L1 xs 0) := by
 obtain ⟨A0, c0, h2, h3, h4⟩ := at_row hC hb 0 (by omega) (by omega)
 rw [show ((0 : Int)).toNat = 0 from rfl, Addr.add_zero'] at h2
 exact ⟨A0, c0, h2, h3, h4⟩
theorem tabC_at (l : List (List Int)) (k i j : Nat) (h : j < 10) (W : World) (g : Nat) (hb : W.heap[g]? = some (.cells ((((l.length : Int) :: ((rd_L1 l 0).length : Int) :: mixT l k i).map (Value.int .i64)).toArray) 78 (0, 0))) : W.cell? ⟨g, j + 2, none⟩ = some (.int .i64 ((mixT l k i).getD j 0)) := by
 have hl := mixT_length l k i
 simp [World.cell?, hb, hl, h]
def colP (l : List (List Int)) (q : Nat) : Prop := (rd_L1 l (q : Int)).length = (rd_L1 l 0).length ∧ okC (rd_L1 l 0).length (rd_L1 l (q : Int)) (rd_L1 l 0).length
def tabC (l : List (List Int)) (k i : Nat) : Array Value := (((l.length : Int) :: ((rd_L1 l 0).length : Int) :: mixT l k i).map (Value.int .i64)).toArray
theorem tabC_set (l : List (List Int)) (k i : Nat) (j : Int) (hk : k < 2) (hi : i < 5) (hc : i < (rd_L1 l (k : Int)).length) (hj : (rd_L1 l (k : Int)).getD i 0 = j) : (tabC l k i).setIfInBounds (2 + k * 5 + i) (.int .i64 j) = tabC l k (i + 1) := by
 subst hj
 obtain rfl | rfl : k = 0 ∨ k = 1 := by omega
 ·have h := mixT_set0 l i hi hc
  unfold tabC
  rw [← h, show 2 + 0 * 5 + i = i + 2 from by omega]
  simp
 ·have h := mixT_set1 l i hi hc
  unfold tabC
  rw [← h, show 2 + 1 * 5 + i = (5 + i) + 2 from by omega]
  simp
def NewR (w : World) (l : List (List Int)) (e : Ending) (w' : World) : Prop :=
 ∃ t : List Int, ∃ b : Bool, t.length = 12 ∧ e = .returned (.tuple #[.agg (t.map (Value.int .i64)).toArray, .bool b]) ∧ Below w.heap.size w w' ∧
  if okT l then t = (l.length : Int) :: ((rd_L1 l 0).length : Int) :: tabL l ∧ b = true else t = List.replicate 12 0 ∧ b = false
theorem newTable_any (A0 : Option Addr) (c0 : Nat) (l0 : List (List Int)) (w : World) (hr0 : Kd.C (Kd.slice 3 (Kd.int .i64)) w A0 l0.length l0) (hc0 : l0.length ≤ c0) :
  Calls Try.prog 51 #[.slice A0 l0.length c0] w (NewR w l0) := by
 have hu78 := Try.underlying78
 have HR := a_ hr0
 have HC := a_ hc0
 clear hr0 hc0
 by_cases c1 : 1 ≤ l0.length ∧ l0.length ≤ 2
 rotate_left
 ·have HF := a_ (within_false (a := (l0.length : Int)) (lo := 1) (hi := 2) (by omega))
  have HN := a_ (show ¬ okT l0 from fun h => c1 h.1)
  clear c1
  go_enter Try.func51, Try.ntmps51
  go_wp2_with (first | ((with_reducible refine gate_dst (N := 2) rfl ?_); refine box_event ?hg (N := 2) ?hd (cs := #[.int .i64 0, .int .i64 0, .int .i64 0, .int .i64 0, .int .i64 0, .int .i64 0, .int .i64 0, .int .i64 0, .int .i64 0, .int .i64 0, .int .i64 0, .int .i64 0]) (t := 78) ?hr ?_; (case hd => rfl); (case hg => rfl); (case hr => first | (go_simp; done) | (go_simp; rfl)); intro g2 hg w1 hbox hb; have n0_ := a_ hb; have n1_ := a_ hbox; have n2_ := a_ (show w.heap.size ≤ g2 by rw [hg]; exact Nat.le_refl _); have n3_ := a_ (Kd.C_below HR.out hb); clear hg hb hbox; have HB1 := n0_; have BK2 := n1_; have GE2 := GEc.mk n2_.out; have HR1 := n3_; clear n0_ n1_ n2_ n3_) | ((with_reducible refine gate_callee (f := 59) rfl ?_); refine goesL_ (some 11) rfl rfl Try.func59 (by kernel_rfl) rfl #[.int .i64 (l0.length : Int), .int .i64 1, .int .i64 2] rfl (by (try simp only [List.map_toArray, List.map_cons, List.map_nil]); first | done | rfl) ?_; (with_reducible refine (c_within.calls (l0.length : Int) 1 2 false _ HF.out).mono ?_); rintro e wq ⟨rfl, hdr⟩; refine ⟨_, rfl, ?_⟩; replace HB1 := a_ (show Below w.heap.size w wq by obtain ⟨nd, rfl⟩ := hdr; exact bN_ HB1.out nd); replace BK2 := a_ (show wq.heap[g2]? = _ by obtain ⟨nd, rfl⟩ := hdr; exact BK2.out); clear hdr; have hz0 : wq.cell? ⟨g2, 0, none⟩ = some (.int .i64 0) := (kc_ BK2.out 0).trans rfl; have hf0 := kf_ BK2.out 0; have hz1 : wq.cell? ⟨g2, 1, none⟩ = some (.int .i64 0) := (kc_ BK2.out 1).trans rfl; have hf1 := kf_ BK2.out 1; have hz2 : wq.cell? ⟨g2, 2, none⟩ = some (.int .i64 0) := (kc_ BK2.out 2).trans rfl; have hf2 := kf_ BK2.out 2; have hz3 : wq.cell? ⟨g2, 3, none⟩ = some (.int .i64 0) := (kc_ BK2.out 3).trans rfl; have hf3 := kf_ BK2.out 3; have hz4 : wq.cell? ⟨g2, 4, none⟩ = some (.int .i64 0) := (kc_ BK2.out 4).trans rfl; have hf4 := kf_ BK2.out 4; have hz5 : wq.cell? ⟨g2, 5, none⟩ = some (.int .i64 0) := (kc_ BK2.out 5).trans rfl; have hf5 := kf_ BK2.out 5; have hz6 : wq.cell? ⟨g2, 6, none⟩ = some (.int .i64 0) := (kc_ BK2.out 6).trans rfl; have hf6 := kf_ BK2.out 6; have hz7 : wq.cell? ⟨g2, 7, none⟩ = some (.int .i64 0) := (kc_ BK2.out 7).trans rfl; have hf7 := kf_ BK2.out 7; have hz8 : wq.cell? ⟨g2, 8, none⟩ = some (.int .i64 0) := (kc_ BK2.out 8).trans rfl; have hf8 := kf_ BK2.out 8; have hz9 : wq.cell? ⟨g2, 9, none⟩ = some (.int .i64 0) := (kc_ BK2.out 9).trans rfl; have hf9 := kf_ BK2.out 9; have hz10 : wq.cell? ⟨g2, 10, none⟩ = some (.int .i64 0) := (kc_ BK2.out 10).trans rfl; have hf10 := kf_ BK2.out 10; have hz11 : wq.cell? ⟨g2, 11, none⟩ = some (.int .i64 0) := (kc_ BK2.out 11).trans rfl; have hf11 := kf_ BK2.out 11))
  refine bodyPost_ret (results_ct rfl _ _ g2 78 #[.int .i64 0, .int .i64 0, .int .i64 0, .int .i64 0, .int .i64 0, .int .i64 0, .int .i64 0, .int .i64 0, .int .i64 0, .int .i64 0, .int .i64 0, .int .i64 0] (0, 0) _ rfl (set12 _ _ _ _ _ _ _ _ _ _ _ _ _ _ _ _ _ _ _ _ _ _ _ _ BK2.out) Try.underlying78 rfl (by kernel_rfl)) rfl ?_
  exact ⟨List.replicate 12 0, false, rfl, rfl, below12 _ _ _ _ _ _ _ _ _ _ _ _ HB1.out GE2.out, by rw [if_neg HN.out]; exact ⟨rfl, rfl⟩⟩
 ·obtain ⟨ad, A1, n1, e1, -, -, -⟩ := at_L1 HR.out 0 (by omega) (by omega)
  subst e1
  have H1 := a_ (show 0 < l0.length from c1.1)
  have HT := a_ (within_true (a := (l0.length : Int)) (lo := 1) (hi := 2) (by omega) (by omega))
  have C1 := a_ c1
  clear c1
  by_cases c2 : 1 ≤ (rd_L1 l0 0).length ∧ (rd_L1 l0 0).length ≤ 5
  rotate_left
  ·have HF := a_ (within_false (a := ((rd_L1 l0 0).length : Int)) (lo := 1) (hi := 5) (by omega))
   have HN := a_ (show ¬ okT l0 from fun h => c2 h.2.1)
   clear c2
   go_enter Try.func51, Try.ntmps51
   go_wp2_with (first | ((with_reducible refine gate_dst (N := 2) rfl ?_); refine box_event ?hg (N := 2) ?hd (cs := #[.int .i64 0, .int .i64 0, .int .i64 0, .int .i64 0, .int .i64 0, .int .i64 0, .int .i64 0, .int .i64 0, .int .i64 0, .int .i64 0, .int .i64 0, .int .i64 0]) (t := 78) ?hr ?_; (case hd => rfl); (case hg => rfl); (case hr => first | (go_simp; done) | (go_simp; rfl)); intro g2 hg w1 hbox hb; have n0_ := a_ hb; have n1_ := a_ hbox; have n2_ := a_ (show w.heap.size ≤ g2 by rw [hg]; exact Nat.le_refl _); have n3_ := a_ (Kd.C_below HR.out hb); clear hg hb hbox; have HB1 := n0_; have BK2 := n1_; have GE2 := GEc.mk n2_.out; have HR1 := n3_; clear n0_ n1_ n2_ n3_) | ((with_reducible refine gate_callee (f := 59) rfl ?_); refine goesL_ (some 11) rfl rfl Try.func59 (by kernel_rfl) rfl #[.int .i64 (l0.length : Int), .int .i64 1, .int .i64 2] rfl (by (try simp only [List.map_toArray, List.map_cons, List.map_nil]); first | done | rfl) ?_; (with_reducible refine (c_within.calls (l0.length : Int) 1 2 true _ HT.out).mono ?_); rintro e wq ⟨rfl, hdr⟩; refine ⟨_, rfl, ?_⟩; replace HB1 := a_ (show Below w.heap.size w wq by obtain ⟨nd, rfl⟩ := hdr; exact bN_ HB1.out nd); replace BK2 := a_ (show wq.heap[g2]? = _ by obtain ⟨nd, rfl⟩ := hdr; exact BK2.out); clear hdr; have hz0 : wq.cell? ⟨g2, 0, none⟩ = some (.int .i64 0) := (kc_ BK2.out 0).trans rfl; have hf0 := kf_ BK2.out 0; have hz1 : wq.cell? ⟨g2, 1, none⟩ = some (.int .i64 0) := (kc_ BK2.out 1).trans rfl; have hf1 := kf_ BK2.out 1; have hz2 : wq.cell? ⟨g2, 2, none⟩ = some (.int .i64 0) := (kc_ BK2.out 2).trans rfl; have hf2 := kf_ BK2.out 2; have hz3 : wq.cell? ⟨g2, 3, none⟩ = some (.int .i64 0) := (kc_ BK2.out 3).trans rfl; have hf3 := kf_ BK2.out 3; have hz4 : wq.cell? ⟨g2, 4, none⟩ = some (.int .i64 0) := (kc_ BK2.out 4).trans rfl; have hf4 := kf_ BK2.out 4; have hz5 : wq.cell? ⟨g2, 5, none⟩ = some (.int .i64 0) := (kc_ BK2.out 5).trans rfl; have hf5 := kf_ BK2.out 5; have hz6 : wq.cell? ⟨g2, 6, none⟩ = some (.int .i64 0) := (kc_ BK2.out 6).trans rfl; have hf6 := kf_ BK2.out 6; have hz7 : wq.cell? ⟨g2, 7, none⟩ = some (.int .i64 0) := (kc_ BK2.out 7).trans rfl; have hf7 := kf_ BK2.out 7; have hz8 : wq.cell? ⟨g2, 8, none⟩ = some (.int .i64 0) := (kc_ BK2.out 8).trans rfl; have hf8 := kf_ BK2.out 8; have hz9 : wq.cell? ⟨g2, 9, none⟩ = some (.int .i64 0) := (kc_ BK2.out 9).trans rfl; have hf9 := kf_ BK2.out 9; have hz10 : wq.cell? ⟨g2, 10, none⟩ = some (.int .i64 0) := (kc_ BK2.out 10).trans rfl; have hf10 := kf_ BK2.out 10; have hz11 : wq.cell? ⟨g2, 11, none⟩ = some (.int .i64 0) := (kc_ BK2.out 11).trans rfl; have hf11 := kf_ BK2.out 11; obtain ⟨A1, n1, hx1, hl1, hi1⟩ := at_row0 HR.out HB1.out H1.out; have hlt1 : ((0 : Int) < (l0.length : Int)) := (by have := H1.out; omega); have hI1 := a_ hi1; have hL1 := a_ hl1; clear hi1 hl1) | (go_at_call 59; (with_reducible refine (c_within.calls ((rd_L1 l0 0).length : Int) 1 5 false _ HF.out).mono ?_); rintro e wq ⟨rfl, hdr⟩; clear hx1; replace HB1 := a_ (show Below w.heap.size w wq by obtain ⟨nd, rfl⟩ := hdr; exact bN_ HB1.out nd); replace BK2 := a_ (show wq.heap[g2]? = _ by obtain ⟨nd, rfl⟩ := hdr; exact BK2.out); clear hdr; have hz0 : wq.cell? ⟨g2, 0, none⟩ = some (.int .i64 0) := (kc_ BK2.out 0).trans rfl; have hf0 := kf_ BK2.out 0; have hz1 : wq.cell? ⟨g2, 1, none⟩ = some (.int .i64 0) := (kc_ BK2.out 1).trans rfl; have hf1 := kf_ BK2.out 1; have hz2 : wq.cell? ⟨g2, 2, none⟩ = some (.int .i64 0) := (kc_ BK2.out 2).trans rfl; have hf2 := kf_ BK2.out 2; have hz3 : wq.cell? ⟨g2, 3, none⟩ = some (.int .i64 0) := (kc_ BK2.out 3).trans rfl; have hf3 := kf_ BK2.out 3; have hz4 : wq.cell? ⟨g2, 4, none⟩ = some (.int .i64 0) := (kc_ BK2.out 4).trans rfl; have hf4 := kf_ BK2.out 4; have hz5 : wq.cell? ⟨g2, 5, none⟩ = some (.int .i64 0) := (kc_ BK2.out 5).trans rfl; have hf5 := kf_ BK2.out 5; have hz6 : wq.cell? ⟨g2, 6, none⟩ = some (.int .i64 0) := (kc_ BK2.out 6).trans rfl; have hf6 := kf_ BK2.out 6; have hz7 : wq.cell? ⟨g2, 7, none⟩ = some (.int .i64 0) := (kc_ BK2.out 7).trans rfl; have hf7 := kf_ BK2.out 7; have hz8 : wq.cell? ⟨g2, 8, none⟩ = some (.int .i64 0) := (kc_ BK2.out 8).trans rfl; have hf8 := kf_ BK2.out 8; have hz9 : wq.cell? ⟨g2, 9, none⟩ = some (.int .i64 0) := (kc_ BK2.out 9).trans rfl; have hf9 := kf_ BK2.out 9; have hz10 : wq.cell? ⟨g2, 10, none⟩ = some (.int .i64 0) := (kc_ BK2.out 10).trans rfl; have hf10 := kf_ BK2.out 10; have hz11 : wq.cell? ⟨g2, 11, none⟩ = some (.int .i64 0) := (kc_ BK2.out 11).trans rfl; have hf11 := kf_ BK2.out 11))
   refine bodyPost_ret (results_ct rfl _ _ g2 78 #[.int .i64 0, .int .i64 0, .int .i64 0, .int .i64 0, .int .i64 0, .int .i64 0, .int .i64 0, .int .i64 0, .int .i64 0, .int .i64 0, .int .i64 0, .int .i64 0] (0, 0) _ rfl (set12 _ _ _ _ _ _ _ _ _ _ _ _ _ _ _ _ _ _ _ _ _ _ _ _ BK2.out) Try.underlying78 rfl (by kernel_rfl)) rfl ?_
   exact ⟨List.replicate 12 0, false, rfl, rfl, below12 _ _ _ _ _ _ _ _ _ _ _ _ HB1.out GE2.out, by rw [if_neg HN.out]; exact ⟨rfl, rfl⟩⟩
  ·have HT2 := a_ (within_true (a := ((rd_L1 l0 0).length : Int)) (lo := 1) (hi := 5) (by omega) (by omega))
   have C2 := a_ c2
   clear c2
   go_enter Try.func51, Try.ntmps51
   go_wp2_with (first | ((with_reducible refine gate_dst (N := 2) rfl ?_); refine box_event ?hg (N := 2) ?hd (cs := #[.int .i64 0, .int .i64 0, .int .i64 0, .int .i64 0, .int .i64 0, .int .i64 0, .int .i64 0, .int .i64 0, .int .i64 0, .int .i64 0, .int .i64 0, .int .i64 0]) (t := 78) ?hr ?_; (case hd => rfl); (case hg => rfl); (case hr => first | (go_simp; done) | (go_simp; rfl)); intro g2 hg w1 hbox hb; have n0_ := a_ hb; have n1_ := a_ hbox; have n2_ := a_ (show w.heap.size ≤ g2 by rw [hg]; exact Nat.le_refl _); have n3_ := a_ (Kd.C_below HR.out hb); clear hg hb hbox; have HB1 := n0_; have BK2 := n1_; have GE2 := GEc.mk n2_.out; have HR1 := n3_; clear n0_ n1_ n2_ n3_) | ((with_reducible refine gate_callee (f := 59) rfl ?_); refine goesL_ (some 11) rfl rfl Try.func59 (by kernel_rfl) rfl #[.int .i64 (l0.length : Int), .int .i64 1, .int .i64 2] rfl (by (try simp only [List.map_toArray, List.map_cons, List.map_nil]); first | done | rfl) ?_; (with_reducible refine (c_within.calls (l0.length : Int) 1 2 true _ HT.out).mono ?_); rintro e wq ⟨rfl, hdr⟩; refine ⟨_, rfl, ?_⟩; replace HB1 := a_ (show Below w.heap.size w wq by obtain ⟨nd, rfl⟩ := hdr; exact bN_ HB1.out nd); replace BK2 := a_ (show wq.heap[g2]? = _ by obtain ⟨nd, rfl⟩ := hdr; exact BK2.out); clear hdr; have hz0 : wq.cell? ⟨g2, 0, none⟩ = some (.int .i64 0) := (kc_ BK2.out 0).trans rfl; have hf0 := kf_ BK2.out 0; have hz1 : wq.cell? ⟨g2, 1, none⟩ = some (.int .i64 0) := (kc_ BK2.out 1).trans rfl; have hf1 := kf_ BK2.out 1; have hz2 : wq.cell? ⟨g2, 2, none⟩ = some (.int .i64 0) := (kc_ BK2.out 2).trans rfl; have hf2 := kf_ BK2.out 2; have hz3 : wq.cell? ⟨g2, 3, none⟩ = some (.int .i64 0) := (kc_ BK2.out 3).trans rfl; have hf3 := kf_ BK2.out 3; have hz4 : wq.cell? ⟨g2, 4, none⟩ = some (.int .i64 0) := (kc_ BK2.out 4).trans rfl; have hf4 := kf_ BK2.out 4; have hz5 : wq.cell? ⟨g2, 5, none⟩ = some (.int .i64 0) := (kc_ BK2.out 5).trans rfl; have hf5 := kf_ BK2.out 5; have hz6 : wq.cell? ⟨g2, 6, none⟩ = some (.int .i64 0) := (kc_ BK2.out 6).trans rfl; have hf6 := kf_ BK2.out 6; have hz7 : wq.cell? ⟨g2, 7, none⟩ = some (.int .i64 0) := (kc_ BK2.out 7).trans rfl; have hf7 := kf_ BK2.out 7; have hz8 : wq.cell? ⟨g2, 8, none⟩ = some (.int .i64 0) := (kc_ BK2.out 8).trans rfl; have hf8 := kf_ BK2.out 8; have hz9 : wq.cell? ⟨g2, 9, none⟩ = some (.int .i64 0) := (kc_ BK2.out 9).trans rfl; have hf9 := kf_ BK2.out 9; have hz10 : wq.cell? ⟨g2, 10, none⟩ = some (.int .i64 0) := (kc_ BK2.out 10).trans rfl; have hf10 := kf_ BK2.out 10; have hz11 : wq.cell? ⟨g2, 11, none⟩ = some (.int .i64 0) := (kc_ BK2.out 11).trans rfl; have hf11 := kf_ BK2.out 11; obtain ⟨A1, n1, hx1, hl1, hi1⟩ := at_row0 HR.out HB1.out H1.out; have hlt1 : ((0 : Int) < (l0.length : Int)) := (by have := H1.out; omega); have hI1 := a_ hi1; have hL1 := a_ hl1; clear hi1 hl1) | (go_at_call 59; (with_reducible refine (c_within.calls ((rd_L1 l0 0).length : Int) 1 5 true _ HT2.out).mono ?_); rintro e wq ⟨rfl, hdr⟩; clear hx1 hlt1; replace HB1 := a_ (show Below w.heap.size w wq by obtain ⟨nd, rfl⟩ := hdr; exact bN_ HB1.out nd); replace BK2 := a_ (show wq.heap[g2]? = _ by obtain ⟨nd, rfl⟩ := hdr; exact BK2.out); clear hdr; have hz0 : wq.cell? ⟨g2, 0, none⟩ = some (.int .i64 0) := (kc_ BK2.out 0).trans rfl; have hf0 := kf_ BK2.out 0; have hz1 : wq.cell? ⟨g2, 1, none⟩ = some (.int .i64 0) := (kc_ BK2.out 1).trans rfl; have hf1 := kf_ BK2.out 1; have hz2 : wq.cell? ⟨g2, 2, none⟩ = some (.int .i64 0) := (kc_ BK2.out 2).trans rfl; have hf2 := kf_ BK2.out 2; have hz3 : wq.cell? ⟨g2, 3, none⟩ = some (.int .i64 0) := (kc_ BK2.out 3).trans rfl; have hf3 := kf_ BK2.out 3; have hz4 : wq.cell? ⟨g2, 4, none⟩ = some (.int .i64 0) := (kc_ BK2.out 4).trans rfl; have hf4 := kf_ BK2.out 4; have hz5 : wq.cell? ⟨g2, 5, none⟩ = some (.int .i64 0) := (kc_ BK2.out 5).trans rfl; have hf5 := kf_ BK2.out 5; have hz6 : wq.cell? ⟨g2, 6, none⟩ = some (.int .i64 0) := (kc_ BK2.out 6).trans rfl; have hf6 := kf_ BK2.out 6; have hz7 : wq.cell? ⟨g2, 7, none⟩ = some (.int .i64 0) := (kc_ BK2.out 7).trans rfl; have hf7 := kf_ BK2.out 7; have hz8 : wq.cell? ⟨g2, 8, none⟩ = some (.int .i64 0) := (kc_ BK2.out 8).trans rfl; have hf8 := kf_ BK2.out 8; have hz9 : wq.cell? ⟨g2, 9, none⟩ = some (.int .i64 0) := (kc_ BK2.out 9).trans rfl; have hf9 := kf_ BK2.out 9; have hz10 : wq.cell? ⟨g2, 10, none⟩ = some (.int .i64 0) := (kc_ BK2.out 10).trans rfl; have hf10 := kf_ BK2.out 10; have hz11 : wq.cell? ⟨g2, 11, none⟩ = some (.int .i64 0) := (kc_ BK2.out 11).trans rfl; have hf11 := kf_ BK2.out 11; obtain ⟨A1, n1, hx1, hl1, hi1⟩ := at_row0 HR.out HB1.out H1.out; have hlt1 : ((0 : Int) < (l0.length : Int)) := (by have := H1.out; omega); have hI1 := a_ hi1; have hL1 := a_ hl1; clear hi1 hl1))
   have BK4 := a_ (blk_new wq (.cells (tabC l0 0 0) 78))
   have HB := a_ (bA_ HB1.out (.cells (tabC l0 0 0) 78))
   have NE42 := a_ (show wq.heap.size ≠ g2 from fun e => absurd (blk_lt BK2.out) (by omega))
   have GE4 := GEc.mk (show w.heap.size ≤ wq.heap.size from HB1.out.size)
   replace BK2 := a_ (kA_ BK2.out (.cells (tabC l0 0 0) 78))
   clear HB1 hx1 hI1 hL1
   have hta : (#[.int .i64 (l0.length : Int), .int .i64 ((rd_L1 l0 0).length : Int), .int .i64 0, .int .i64 0, .int .i64 0, .int .i64 0, .int .i64 0, .int .i64 0, .int .i64 0, .int .i64 0, .int .i64 0, .int .i64 0] : Array Value) = tabC l0 0 0 := rfl
   rw [hta]
   generalize wq.alloc (.cells (tabC l0 0 0) 78) = W4 at BK4 BK2 HB ⊢
   generalize wq.heap.size = g4 at BK4 NE42 GE4 ⊢
   clear hta hlt1
   go_loopw [31] (fun v31 wr => ∃ k : Nat, k ≤ l0.length ∧ v31 = .int .i64 k ∧ Aside0 (wr.heap[g4]? = some (.cells (tabC l0 k 0) 78 (0, 0))) ∧ Aside0 (wr.heap[g2]? = some (.cells #[.int .i64 0, .int .i64 0, .int .i64 0, .int .i64 0, .int .i64 0, .int .i64 0, .int .i64 0, .int .i64 0, .int .i64 0, .int .i64 0, .int .i64 0, .int .i64 0] 78 (0, 0))) ∧ Aside0 (Below w.heap.size w wr) ∧ Aside0 (∀ q, q < k → colP l0 q)) (fun v31 _ => l0.length - (intOf v31).toNat)
   case atStart => exact ⟨0, Nat.zero_le _, rfl, BK4, BK2, HB, ⟨fun q hq => absurd hq (Nat.not_lt_zero q)⟩⟩
   clear BK4 BK2 HB
   obtain ⟨k, hk, rfl, BK4, BK2, HB, HCOL⟩ := hrel
   by_cases hkd : k < l0.length
   rotate_left
   ·obtain rfl : k = l0.length := by omega
    have HOK := a_ (show okT l0 from ⟨C1.out, C2.out, fun q hq => HCOL.out q hq⟩)
    have hv0 : wr.cell? ⟨g4, 0, none⟩ = some (.int .i64 (l0.length : Int)) := (kc_ BK4.out 0).trans rfl
    have hv1 : wr.cell? ⟨g4, 1, none⟩ = some (.int .i64 ((rd_L1 l0 0).length : Int)) := (kc_ BK4.out 1).trans rfl
    have hv2 : wr.cell? ⟨g4, 2, none⟩ = some (.int .i64 ((tabL l0).getD 0 0)) := tabC_at l0 l0.length 0 0 (by decide) wr g4 BK4.out
    have hv3 : wr.cell? ⟨g4, 3, none⟩ = some (.int .i64 ((tabL l0).getD 1 0)) := tabC_at l0 l0.length 0 1 (by decide) wr g4 BK4.out
    have hv4 : wr.cell? ⟨g4, 4, none⟩ = some (.int .i64 ((tabL l0).getD 2 0)) := tabC_at l0 l0.length 0 2 (by decide) wr g4 BK4.out
    have hv5 : wr.cell? ⟨g4, 5, none⟩ = some (.int .i64 ((tabL l0).getD 3 0)) := tabC_at l0 l0.length 0 3 (by decide) wr g4 BK4.out
    have hv6 : wr.cell? ⟨g4, 6, none⟩ = some (.int .i64 ((tabL l0).getD 4 0)) := tabC_at l0 l0.length 0 4 (by decide) wr g4 BK4.out
    have hv7 : wr.cell? ⟨g4, 7, none⟩ = some (.int .i64 ((tabL l0).getD 5 0)) := tabC_at l0 l0.length 0 5 (by decide) wr g4 BK4.out
    have hv8 : wr.cell? ⟨g4, 8, none⟩ = some (.int .i64 ((tabL l0).getD 6 0)) := tabC_at l0 l0.length 0 6 (by decide) wr g4 BK4.out
    have hv9 : wr.cell? ⟨g4, 9, none⟩ = some (.int .i64 ((tabL l0).getD 7 0)) := tabC_at l0 l0.length 0 7 (by decide) wr g4 BK4.out
    have hv10 : wr.cell? ⟨g4, 10, none⟩ = some (.int .i64 ((tabL l0).getD 8 0)) := tabC_at l0 l0.length 0 8 (by decide) wr g4 BK4.out
    have hv11 : wr.cell? ⟨g4, 11, none⟩ = some (.int .i64 ((tabL l0).getD 9 0)) := tabC_at l0 l0.length 0 9 (by decide) wr g4 BK4.out
    have hz0 : wr.cell? ⟨g2, 0, none⟩ = some (.int .i64 0) := (kc_ BK2.out 0).trans rfl
    have hf0 := kf_ BK2.out 0
    have hz1 : wr.cell? ⟨g2, 1, none⟩ = some (.int .i64 0) := (kc_ BK2.out 1).trans rfl
    have hf1 := kf_ BK2.out 1
    have hz2 : wr.cell? ⟨g2, 2, none⟩ = some (.int .i64 0) := (kc_ BK2.out 2).trans rfl
    have hf2 := kf_ BK2.out 2
    have hz3 : wr.cell? ⟨g2, 3, none⟩ = some (.int .i64 0) := (kc_ BK2.out 3).trans rfl
    have hf3 := kf_ BK2.out 3
    have hz4 : wr.cell? ⟨g2, 4, none⟩ = some (.int .i64 0) := (kc_ BK2.out 4).trans rfl
    have hf4 := kf_ BK2.out 4
    have hz5 : wr.cell? ⟨g2, 5, none⟩ = some (.int .i64 0) := (kc_ BK2.out 5).trans rfl
    have hf5 := kf_ BK2.out 5
    have hz6 : wr.cell? ⟨g2, 6, none⟩ = some (.int .i64 0) := (kc_ BK2.out 6).trans rfl
    have hf6 := kf_ BK2.out 6
    have hz7 : wr.cell? ⟨g2, 7, none⟩ = some (.int .i64 0) := (kc_ BK2.out 7).trans rfl
    have hf7 := kf_ BK2.out 7
    have hz8 : wr.cell? ⟨g2, 8, none⟩ = some (.int .i64 0) := (kc_ BK2.out 8).trans rfl
    have hf8 := kf_ BK2.out 8
    have hz9 : wr.cell? ⟨g2, 9, none⟩ = some (.int .i64 0) := (kc_ BK2.out 9).trans rfl
    have hf9 := kf_ BK2.out 9
    have hz10 : wr.cell? ⟨g2, 10, none⟩ = some (.int .i64 0) := (kc_ BK2.out 10).trans rfl
    have hf10 := kf_ BK2.out 10
    have hz11 : wr.cell? ⟨g2, 11, none⟩ = some (.int .i64 0) := (kc_ BK2.out 11).trans rfl
    have hf11 := kf_ BK2.out 11
    have HB1 := HB
    go_wp2
    refine bodyPost_ret (results_ct rfl _ _ g2 78 #[.int .i64 (l0.length : Int), .int .i64 ((rd_L1 l0 0).length : Int), .int .i64 ((tabL l0).getD 0 0), .int .i64 ((tabL l0).getD 1 0), .int .i64 ((tabL l0).getD 2 0), .int .i64 ((tabL l0).getD 3 0), .int .i64 ((tabL l0).getD 4 0), .int .i64 ((tabL l0).getD 5 0), .int .i64 ((tabL l0).getD 6 0), .int .i64 ((tabL l0).getD 7 0), .int .i64 ((tabL l0).getD 8 0), .int .i64 ((tabL l0).getD 9 0)] (0, 0) _ rfl (set12 _ _ _ _ _ _ _ _ _ _ _ _ _ _ _ _ _ _ _ _ _ _ _ _ BK2.out) Try.underlying78 rfl (by kernel_rfl)) rfl ?_
    have hl10 := list10 (tabL l0) (mixT_length _ _ _)
    refine ⟨(l0.length : Int) :: ((rd_L1 l0 0).length : Int) :: tabL l0, true, by simp [tabL, mixT_length], ?_, below12 _ _ _ _ _ _ _ _ _ _ _ _ HB1.out GE2.out, by rw [if_pos HOK.out]; exact ⟨rfl, rfl⟩⟩
    rw [hl10]
    rfl
   obtain ⟨A2, n2, hx0, hl2, hi2⟩ := at_row HR.out (Below.refl _ _) (k : Int) (by omega) (by omega)
   simp only [Int.toNat_natCast] at hx0
   have hx2 : wr.cell? (ad.add k) = _ := (HB.out.cell (World.block_lt_of_cell? _ _ hx0)).trans hx0
   have HI0 := a_ hi2
   have HL2 := a_ hl2
   clear hi2 hl2 hx0
   have hd4 : wr.cell? ⟨g4, 1, none⟩ = some (.int .i64 ((rd_L1 l0 0).length : Int)) := (kc_ BK4.out 1).trans rfl
   by_cases e1 : (rd_L1 l0 (k : Int)).length = (rd_L1 l0 0).length
   rotate_left
   ·have HN := a_ (show ¬ okT l0 from fun h => e1 (h.2.2 k hkd).1)
    have hne : (((rd_L1 l0 (k : Int)).length : Int) != ((rd_L1 l0 0).length : Int)) = true := bne_iff_ne.mpr (by omega)
    have hz0 : wr.cell? ⟨g2, 0, none⟩ = some (.int .i64 0) := (kc_ BK2.out 0).trans rfl
    have hf0 := kf_ BK2.out 0
    have hz1 : wr.cell? ⟨g2, 1, none⟩ = some (.int .i64 0) := (kc_ BK2.out 1).trans rfl
    have hf1 := kf_ BK2.out 1
    have hz2 : wr.cell? ⟨g2, 2, none⟩ = some (.int .i64 0) := (kc_ BK2.out 2).trans rfl
    have hf2 := kf_ BK2.out 2
    have hz3 : wr.cell? ⟨g2, 3, none⟩ = some (.int .i64 0) := (kc_ BK2.out 3).trans rfl
    have hf3 := kf_ BK2.out 3
    have hz4 : wr.cell? ⟨g2, 4, none⟩ = some (.int .i64 0) := (kc_ BK2.out 4).trans rfl
    have hf4 := kf_ BK2.out 4
    have hz5 : wr.cell? ⟨g2, 5, none⟩ = some (.int .i64 0) := (kc_ BK2.out 5).trans rfl
    have hf5 := kf_ BK2.out 5
    have hz6 : wr.cell? ⟨g2, 6, none⟩ = some (.int .i64 0) := (kc_ BK2.out 6).trans rfl
    have hf6 := kf_ BK2.out 6
    have hz7 : wr.cell? ⟨g2, 7, none⟩ = some (.int .i64 0) := (kc_ BK2.out 7).trans rfl
    have hf7 := kf_ BK2.out 7
    have hz8 : wr.cell? ⟨g2, 8, none⟩ = some (.int .i64 0) := (kc_ BK2.out 8).trans rfl
    have hf8 := kf_ BK2.out 8
    have hz9 : wr.cell? ⟨g2, 9, none⟩ = some (.int .i64 0) := (kc_ BK2.out 9).trans rfl
    have hf9 := kf_ BK2.out 9
    have hz10 : wr.cell? ⟨g2, 10, none⟩ = some (.int .i64 0) := (kc_ BK2.out 10).trans rfl
    have hf10 := kf_ BK2.out 10
    have hz11 : wr.cell? ⟨g2, 11, none⟩ = some (.int .i64 0) := (kc_ BK2.out 11).trans rfl
    have hf11 := kf_ BK2.out 11
    have HB1 := HB
    go_wp2
    refine bodyPost_ret (results_ct rfl _ _ g2 78 #[.int .i64 0, .int .i64 0, .int .i64 0, .int .i64 0, .int .i64 0, .int .i64 0, .int .i64 0, .int .i64 0, .int .i64 0, .int .i64 0, .int .i64 0, .int .i64 0] (0, 0) _ rfl (set12 _ _ _ _ _ _ _ _ _ _ _ _ _ _ _ _ _ _ _ _ _ _ _ _ BK2.out) Try.underlying78 rfl (by kernel_rfl)) rfl ?_
    exact ⟨List.replicate 12 0, false, rfl, rfl, below12 _ _ _ _ _ _ _ _ _ _ _ _ HB1.out GE2.out, by rw [if_neg HN.out]; exact ⟨rfl, rfl⟩⟩
   ·have hne : (((rd_L1 l0 (k : Int)).length : Int) != ((rd_L1 l0 0).length : Int)) = false := bne_eq_false_iff_eq.mpr (by omega)
    have E1 := a_ e1
    clear e1
    go_wp2
    clear hne hx2
    go_loopw [44] (fun v44 ws => ∃ i : Nat, i ≤ (rd_L1 l0 (k : Int)).length ∧ v44 = .int .i64 i ∧ Aside0 (ws.heap[g4]? = some (.cells (tabC l0 k i) 78 (0, 0))) ∧ Aside0 (ws.heap[g2]? = some (.cells #[.int .i64 0, .int .i64 0, .int .i64 0, .int .i64 0, .int .i64 0, .int .i64 0, .int .i64 0, .int .i64 0, .int .i64 0, .int .i64 0, .int .i64 0, .int .i64 0] 78 (0, 0))) ∧ Aside0 (Below w.heap.size w ws) ∧ Aside0 (okC (rd_L1 l0 0).length (rd_L1 l0 (k : Int)) i)) (fun v44 _ => (rd_L1 l0 (k : Int)).length - (intOf v44).toNat)
    case atStart => exact ⟨0, Nat.zero_le _, rfl, BK4, BK2, HB, ⟨fun q hq => absurd hq (Nat.not_lt_zero q)⟩⟩
    clear BK4 BK2 HB hd4
    obtain ⟨i, hi, rfl, BK4, BK2, HB, HOKC⟩ := hrel
    have HI2 := a_ (Kd.C_below HI0.out HB.out)
    by_cases hid : i < (rd_L1 l0 (k : Int)).length
    rotate_left
    ·obtain rfl : i = (rd_L1 l0 (k : Int)).length := by omega
     have HCOL2 := a_ (show ∀ q, q < k + 1 → colP l0 q from fun q hq => by
      rcases Nat.lt_or_ge q k with h1 | h1
      ·exact HCOL.out q h1
      ·obtain rfl : q = k := by omega
       exact ⟨E1.out, by have h2 := HOKC.out; rw [E1.out] at h2; exact h2⟩)
     have hw1 : wrap64 ((k : Int) + 1) = ((k + 1 : Nat) : Int) := by have := C1.out; rw [wrap64_small _ (by omega) (by omega)]; omega
     have hlt : decide (((rd_L1 l0 (k : Int)).length : Int) < ((rd_L1 l0 (k : Int)).length : Int)) = false := decide_eq_false (by omega)
     have HNX := a_ (show tabC l0 k (rd_L1 l0 (k : Int)).length = tabC l0 (k + 1) 0 by
      have := C1.out
      obtain rfl | rfl : k = 0 ∨ k = 1 := by omega
      ·exact congrArg (fun L : List Int => (((l0.length : Int) :: ((rd_L1 l0 0).length : Int) :: L).map (Value.int .i64)).toArray) (mixT_next0 l0 _ rfl)
      ·exact congrArg (fun L : List Int => (((l0.length : Int) :: ((rd_L1 l0 0).length : Int) :: L).map (Value.int .i64)).toArray) (mixT_next1 l0 _ rfl))
     go_wp2
     go_roundw
     case rel => exact ⟨k + 1, by omega, by rw [hw1], ⟨by rw [← HNX.out]; exact BK4.out⟩, BK2, HB, HCOL2⟩
     case measure => rw [hw1]; simp [intOf]; omega
    obtain ⟨ad2, e2, hx2⟩ := Kd.at_int HI2.out (i : Int) (by omega) (by omega)
    cases e2
    simp only [Int.toNat_natCast] at hx2
    obtain ⟨j, hj⟩ : ∃ j : Int, rd (rd_L1 l0 (k : Int)) (i : Int) = j := ⟨_, rfl⟩
    rw [hj] at hx2
    have HJ := a_ (show (rd_L1 l0 (k : Int)).getD i 0 = j from hj)
    clear hj
    have hd4 : wr.cell? ⟨g4, 1, none⟩ = some (.int .i64 ((rd_L1 l0 0).length : Int)) := (kc_ BK4.out 1).trans rfl
    have hw9 : wrap64 (((rd_L1 l0 0).length : Int) - 1) = ((rd_L1 l0 0).length : Int) - 1 := by have := C2.out; exact wrap64_small _ (by omega) (by omega)
    by_cases e3 : 0 ≤ j ∧ j ≤ ((rd_L1 l0 0).length : Int) - 1
    rotate_left
    ·have HF := a_ (within_false (a := j) (lo := 0) (hi := ((rd_L1 l0 0).length : Int) - 1) e3)
     have HN := a_ (show ¬ okT l0 from fun h => by
      have h1 := (h.2.2 k hkd).2 i (by have := E1.out; omega)
      rw [HJ.out] at h1
      exact e3 ⟨h1.1, h1.2.1⟩)
     clear e3
     go_wp2_with (first | (go_at_call 59; (first | rw [hw9] | skip); (with_reducible refine (c_within.calls j 0 (((rd_L1 l0 0).length : Int) - 1) false _ HF.out).mono ?_); rintro e wq ⟨rfl, hdr⟩; clear hx2 hd4; have HB1 := a_ (show Below w.heap.size w wq by obtain ⟨nd, rfl⟩ := hdr; exact bN_ HB.out nd); replace BK2 := a_ (show wq.heap[g2]? = _ by obtain ⟨nd, rfl⟩ := hdr; exact BK2.out); replace BK4 := a_ (show wq.heap[g4]? = _ by obtain ⟨nd, rfl⟩ := hdr; exact BK4.out); replace HI2 := a_ (show Kd.C (Kd.int .i64) wq (some ad2) _ _ by obtain ⟨nd, rfl⟩ := hdr; exact Kd.C_drewN HI2.out nd); clear HB hdr; have hz0 : wq.cell? ⟨g2, 0, none⟩ = some (.int .i64 0) := (kc_ BK2.out 0).trans rfl; have hf0 := kf_ BK2.out 0; have hz1 : wq.cell? ⟨g2, 1, none⟩ = some (.int .i64 0) := (kc_ BK2.out 1).trans rfl; have hf1 := kf_ BK2.out 1; have hz2 : wq.cell? ⟨g2, 2, none⟩ = some (.int .i64 0) := (kc_ BK2.out 2).trans rfl; have hf2 := kf_ BK2.out 2; have hz3 : wq.cell? ⟨g2, 3, none⟩ = some (.int .i64 0) := (kc_ BK2.out 3).trans rfl; have hf3 := kf_ BK2.out 3; have hz4 : wq.cell? ⟨g2, 4, none⟩ = some (.int .i64 0) := (kc_ BK2.out 4).trans rfl; have hf4 := kf_ BK2.out 4; have hz5 : wq.cell? ⟨g2, 5, none⟩ = some (.int .i64 0) := (kc_ BK2.out 5).trans rfl; have hf5 := kf_ BK2.out 5; have hz6 : wq.cell? ⟨g2, 6, none⟩ = some (.int .i64 0) := (kc_ BK2.out 6).trans rfl; have hf6 := kf_ BK2.out 6; have hz7 : wq.cell? ⟨g2, 7, none⟩ = some (.int .i64 0) := (kc_ BK2.out 7).trans rfl; have hf7 := kf_ BK2.out 7; have hz8 : wq.cell? ⟨g2, 8, none⟩ = some (.int .i64 0) := (kc_ BK2.out 8).trans rfl; have hf8 := kf_ BK2.out 8; have hz9 : wq.cell? ⟨g2, 9, none⟩ = some (.int .i64 0) := (kc_ BK2.out 9).trans rfl; have hf9 := kf_ BK2.out 9; have hz10 : wq.cell? ⟨g2, 10, none⟩ = some (.int .i64 0) := (kc_ BK2.out 10).trans rfl; have hf10 := kf_ BK2.out 10; have hz11 : wq.cell? ⟨g2, 11, none⟩ = some (.int .i64 0) := (kc_ BK2.out 11).trans rfl; have hf11 := kf_ BK2.out 11))
     refine bodyPost_ret (results_ct rfl _ _ g2 78 #[.int .i64 0, .int .i64 0, .int .i64 0, .int .i64 0, .int .i64 0, .int .i64 0, .int .i64 0, .int .i64 0, .int .i64 0, .int .i64 0, .int .i64 0, .int .i64 0] (0, 0) _ rfl (set12 _ _ _ _ _ _ _ _ _ _ _ _ _ _ _ _ _ _ _ _ _ _ _ _ BK2.out) Try.underlying78 rfl (by kernel_rfl)) rfl ?_
     exact ⟨List.replicate 12 0, false, rfl, rfl, below12 _ _ _ _ _ _ _ _ _ _ _ _ HB1.out GE2.out, by rw [if_neg HN.out]; exact ⟨rfl, rfl⟩⟩
    ·have HT9 := a_ (within_true (a := j) (lo := 0) (hi := ((rd_L1 l0 0).length : Int) - 1) e3.1 e3.2)
     have E3 := a_ e3
     clear e3
     have hti : ((rd_L1 l0 (k : Int)).take i).length = i := by rw [List.length_take]; omega
     have hrl : (rd_L1 l0 (k : Int)).length ≤ 5 := by have := C2.out; have := E1.out; omega
     have HIN := a_ (show (i : Int) ≤ (n2 : Int) by have := HL2.out; omega)
     have HID := a_ hid
     have HTI := a_ hti
     have HRL := a_ hrl
     clear hti hrl
     by_cases e4 : j ∈ (rd_L1 l0 (k : Int)).take i
     ·have HCN := a_ ((Contains_f j ((rd_L1 l0 (k : Int)).take i) (by have := HTI.out; have := HRL.out; omega) (i + 1) (by have := HTI.out; omega)).trans (congrArg some (decide_eq_true e4)))
      have HN := a_ (show ¬ okT l0 from fun h => by
       have h1 := (h.2.2 k hkd).2 i (by have := E1.out; omega)
       rw [HJ.out] at h1
       exact h1.2.2 e4)
      clear e4
      have hin := HIN.out
      go_wp2_with (first | (go_at_call 59; (first | rw [hw9] | skip); (with_reducible refine (c_within.calls j 0 (((rd_L1 l0 0).length : Int) - 1) true _ HT9.out).mono ?_); rintro e wq ⟨rfl, hdr⟩; clear hx2 hd4; replace HB := a_ (show Below w.heap.size w wq by obtain ⟨nd, rfl⟩ := hdr; exact bN_ HB.out nd); replace BK2 := a_ (show wq.heap[g2]? = _ by obtain ⟨nd, rfl⟩ := hdr; exact BK2.out); replace BK4 := a_ (show wq.heap[g4]? = _ by obtain ⟨nd, rfl⟩ := hdr; exact BK4.out); replace HI2 := a_ (show Kd.C (Kd.int .i64) wq (some ad2) _ _ by obtain ⟨nd, rfl⟩ := hdr; exact Kd.C_drewN HI2.out nd); clear hdr; have hz0 : wq.cell? ⟨g2, 0, none⟩ = some (.int .i64 0) := (kc_ BK2.out 0).trans rfl; have hf0 := kf_ BK2.out 0; have hz1 : wq.cell? ⟨g2, 1, none⟩ = some (.int .i64 0) := (kc_ BK2.out 1).trans rfl; have hf1 := kf_ BK2.out 1; have hz2 : wq.cell? ⟨g2, 2, none⟩ = some (.int .i64 0) := (kc_ BK2.out 2).trans rfl; have hf2 := kf_ BK2.out 2; have hz3 : wq.cell? ⟨g2, 3, none⟩ = some (.int .i64 0) := (kc_ BK2.out 3).trans rfl; have hf3 := kf_ BK2.out 3; have hz4 : wq.cell? ⟨g2, 4, none⟩ = some (.int .i64 0) := (kc_ BK2.out 4).trans rfl; have hf4 := kf_ BK2.out 4; have hz5 : wq.cell? ⟨g2, 5, none⟩ = some (.int .i64 0) := (kc_ BK2.out 5).trans rfl; have hf5 := kf_ BK2.out 5; have hz6 : wq.cell? ⟨g2, 6, none⟩ = some (.int .i64 0) := (kc_ BK2.out 6).trans rfl; have hf6 := kf_ BK2.out 6; have hz7 : wq.cell? ⟨g2, 7, none⟩ = some (.int .i64 0) := (kc_ BK2.out 7).trans rfl; have hf7 := kf_ BK2.out 7; have hz8 : wq.cell? ⟨g2, 8, none⟩ = some (.int .i64 0) := (kc_ BK2.out 8).trans rfl; have hf8 := kf_ BK2.out 8; have hz9 : wq.cell? ⟨g2, 9, none⟩ = some (.int .i64 0) := (kc_ BK2.out 9).trans rfl; have hf9 := kf_ BK2.out 9; have hz10 : wq.cell? ⟨g2, 10, none⟩ = some (.int .i64 0) := (kc_ BK2.out 10).trans rfl; have hf10 := kf_ BK2.out 10; have hz11 : wq.cell? ⟨g2, 11, none⟩ = some (.int .i64 0) := (kc_ BK2.out 11).trans rfl; have hf11 := kf_ BK2.out 11) | (go_at_call 79; have hcon := sl_Contains_int_int.calls (i + 1) (some ad2) n2 ((rd_L1 l0 (k : Int)).take i) j true wq (Kd.C_take HI2.out (Nat.le_of_lt HID.out)) (by have := HTI.out; have := HIN.out; omega) HCN.out; rw [HTI.out] at hcon; refine Calls.mono hcon ?_; clear hcon; rintro e wq ⟨rfl, hdr⟩; replace HB := a_ (show Below w.heap.size w wq by obtain ⟨nd, rfl⟩ := hdr; exact bN_ HB.out nd); replace BK2 := a_ (show wq.heap[g2]? = _ by obtain ⟨nd, rfl⟩ := hdr; exact BK2.out); replace BK4 := a_ (show wq.heap[g4]? = _ by obtain ⟨nd, rfl⟩ := hdr; exact BK4.out); replace HI2 := a_ (show Kd.C (Kd.int .i64) wq (some ad2) _ _ by obtain ⟨nd, rfl⟩ := hdr; exact Kd.C_drewN HI2.out nd); clear hdr; have hz0 : wq.cell? ⟨g2, 0, none⟩ = some (.int .i64 0) := (kc_ BK2.out 0).trans rfl; have hf0 := kf_ BK2.out 0; have hz1 : wq.cell? ⟨g2, 1, none⟩ = some (.int .i64 0) := (kc_ BK2.out 1).trans rfl; have hf1 := kf_ BK2.out 1; have hz2 : wq.cell? ⟨g2, 2, none⟩ = some (.int .i64 0) := (kc_ BK2.out 2).trans rfl; have hf2 := kf_ BK2.out 2; have hz3 : wq.cell? ⟨g2, 3, none⟩ = some (.int .i64 0) := (kc_ BK2.out 3).trans rfl; have hf3 := kf_ BK2.out 3; have hz4 : wq.cell? ⟨g2, 4, none⟩ = some (.int .i64 0) := (kc_ BK2.out 4).trans rfl; have hf4 := kf_ BK2.out 4; have hz5 : wq.cell? ⟨g2, 5, none⟩ = some (.int .i64 0) := (kc_ BK2.out 5).trans rfl; have hf5 := kf_ BK2.out 5; have hz6 : wq.cell? ⟨g2, 6, none⟩ = some (.int .i64 0) := (kc_ BK2.out 6).trans rfl; have hf6 := kf_ BK2.out 6; have hz7 : wq.cell? ⟨g2, 7, none⟩ = some (.int .i64 0) := (kc_ BK2.out 7).trans rfl; have hf7 := kf_ BK2.out 7; have hz8 : wq.cell? ⟨g2, 8, none⟩ = some (.int .i64 0) := (kc_ BK2.out 8).trans rfl; have hf8 := kf_ BK2.out 8; have hz9 : wq.cell? ⟨g2, 9, none⟩ = some (.int .i64 0) := (kc_ BK2.out 9).trans rfl; have hf9 := kf_ BK2.out 9; have hz10 : wq.cell? ⟨g2, 10, none⟩ = some (.int .i64 0) := (kc_ BK2.out 10).trans rfl; have hf10 := kf_ BK2.out 10; have hz11 : wq.cell? ⟨g2, 11, none⟩ = some (.int .i64 0) := (kc_ BK2.out 11).trans rfl; have hf11 := kf_ BK2.out 11))
      have HB1 := HB
      refine bodyPost_ret (results_ct rfl _ _ g2 78 #[.int .i64 0, .int .i64 0, .int .i64 0, .int .i64 0, .int .i64 0, .int .i64 0, .int .i64 0, .int .i64 0, .int .i64 0, .int .i64 0, .int .i64 0, .int .i64 0] (0, 0) _ rfl (set12 _ _ _ _ _ _ _ _ _ _ _ _ _ _ _ _ _ _ _ _ _ _ _ _ BK2.out) Try.underlying78 rfl (by kernel_rfl)) rfl ?_
      exact ⟨List.replicate 12 0, false, rfl, rfl, below12 _ _ _ _ _ _ _ _ _ _ _ _ HB1.out GE2.out, by rw [if_neg HN.out]; exact ⟨rfl, rfl⟩⟩
     have HCN := a_ ((Contains_f j ((rd_L1 l0 (k : Int)).take i) (by have := HTI.out; have := HRL.out; omega) (i + 1) (by have := HTI.out; omega)).trans (congrArg some (decide_eq_false e4)))
     have E4 := a_ e4
     clear e4
     have hin := HIN.out
     have hk2 : (k : Int) < 2 := by have := C1.out; omega
     have hi5 : (i : Int) < 5 := by have := HRL.out; have := HID.out; omega
     go_wp2_with (first | (go_at_call 59; (first | rw [hw9] | skip); (with_reducible refine (c_within.calls j 0 (((rd_L1 l0 0).length : Int) - 1) true _ HT9.out).mono ?_); rintro e wq ⟨rfl, hdr⟩; clear hx2 hd4; replace HB := a_ (show Below w.heap.size w wq by obtain ⟨nd, rfl⟩ := hdr; exact bN_ HB.out nd); replace BK2 := a_ (show wq.heap[g2]? = _ by obtain ⟨nd, rfl⟩ := hdr; exact BK2.out); replace BK4 := a_ (show wq.heap[g4]? = _ by obtain ⟨nd, rfl⟩ := hdr; exact BK4.out); replace HI2 := a_ (show Kd.C (Kd.int .i64) wq (some ad2) _ _ by obtain ⟨nd, rfl⟩ := hdr; exact Kd.C_drewN HI2.out nd); clear hdr; have hz0 : wq.cell? ⟨g2, 0, none⟩ = some (.int .i64 0) := (kc_ BK2.out 0).trans rfl; have hf0 := kf_ BK2.out 0; have hz1 : wq.cell? ⟨g2, 1, none⟩ = some (.int .i64 0) := (kc_ BK2.out 1).trans rfl; have hf1 := kf_ BK2.out 1; have hz2 : wq.cell? ⟨g2, 2, none⟩ = some (.int .i64 0) := (kc_ BK2.out 2).trans rfl; have hf2 := kf_ BK2.out 2; have hz3 : wq.cell? ⟨g2, 3, none⟩ = some (.int .i64 0) := (kc_ BK2.out 3).trans rfl; have hf3 := kf_ BK2.out 3; have hz4 : wq.cell? ⟨g2, 4, none⟩ = some (.int .i64 0) := (kc_ BK2.out 4).trans rfl; have hf4 := kf_ BK2.out 4; have hz5 : wq.cell? ⟨g2, 5, none⟩ = some (.int .i64 0) := (kc_ BK2.out 5).trans rfl; have hf5 := kf_ BK2.out 5; have hz6 : wq.cell? ⟨g2, 6, none⟩ = some (.int .i64 0) := (kc_ BK2.out 6).trans rfl; have hf6 := kf_ BK2.out 6; have hz7 : wq.cell? ⟨g2, 7, none⟩ = some (.int .i64 0) := (kc_ BK2.out 7).trans rfl; have hf7 := kf_ BK2.out 7; have hz8 : wq.cell? ⟨g2, 8, none⟩ = some (.int .i64 0) := (kc_ BK2.out 8).trans rfl; have hf8 := kf_ BK2.out 8; have hz9 : wq.cell? ⟨g2, 9, none⟩ = some (.int .i64 0) := (kc_ BK2.out 9).trans rfl; have hf9 := kf_ BK2.out 9; have hz10 : wq.cell? ⟨g2, 10, none⟩ = some (.int .i64 0) := (kc_ BK2.out 10).trans rfl; have hf10 := kf_ BK2.out 10; have hz11 : wq.cell? ⟨g2, 11, none⟩ = some (.int .i64 0) := (kc_ BK2.out 11).trans rfl; have hf11 := kf_ BK2.out 11) | (go_at_call 79; have hcon := sl_Contains_int_int.calls (i + 1) (some ad2) n2 ((rd_L1 l0 (k : Int)).take i) j false wq (Kd.C_take HI2.out (Nat.le_of_lt HID.out)) (by have := HTI.out; have := HIN.out; omega) HCN.out; rw [HTI.out] at hcon; refine Calls.mono hcon ?_; clear hcon; rintro e wq ⟨rfl, hdr⟩; replace HB := a_ (show Below w.heap.size w wq by obtain ⟨nd, rfl⟩ := hdr; exact bN_ HB.out nd); replace BK2 := a_ (show wq.heap[g2]? = _ by obtain ⟨nd, rfl⟩ := hdr; exact BK2.out); replace BK4 := a_ (show wq.heap[g4]? = _ by obtain ⟨nd, rfl⟩ := hdr; exact BK4.out); replace HI2 := a_ (show Kd.C (Kd.int .i64) wq (some ad2) _ _ by obtain ⟨nd, rfl⟩ := hdr; exact Kd.C_drewN HI2.out nd); clear hdr; have hz0 : wq.cell? ⟨g2, 0, none⟩ = some (.int .i64 0) := (kc_ BK2.out 0).trans rfl; have hf0 := kf_ BK2.out 0; have hz1 : wq.cell? ⟨g2, 1, none⟩ = some (.int .i64 0) := (kc_ BK2.out 1).trans rfl; have hf1 := kf_ BK2.out 1; have hz2 : wq.cell? ⟨g2, 2, none⟩ = some (.int .i64 0) := (kc_ BK2.out 2).trans rfl; have hf2 := kf_ BK2.out 2; have hz3 : wq.cell? ⟨g2, 3, none⟩ = some (.int .i64 0) := (kc_ BK2.out 3).trans rfl; have hf3 := kf_ BK2.out 3; have hz4 : wq.cell? ⟨g2, 4, none⟩ = some (.int .i64 0) := (kc_ BK2.out 4).trans rfl; have hf4 := kf_ BK2.out 4; have hz5 : wq.cell? ⟨g2, 5, none⟩ = some (.int .i64 0) := (kc_ BK2.out 5).trans rfl; have hf5 := kf_ BK2.out 5; have hz6 : wq.cell? ⟨g2, 6, none⟩ = some (.int .i64 0) := (kc_ BK2.out 6).trans rfl; have hf6 := kf_ BK2.out 6; have hz7 : wq.cell? ⟨g2, 7, none⟩ = some (.int .i64 0) := (kc_ BK2.out 7).trans rfl; have hf7 := kf_ BK2.out 7; have hz8 : wq.cell? ⟨g2, 8, none⟩ = some (.int .i64 0) := (kc_ BK2.out 8).trans rfl; have hf8 := kf_ BK2.out 8; have hz9 : wq.cell? ⟨g2, 9, none⟩ = some (.int .i64 0) := (kc_ BK2.out 9).trans rfl; have hf9 := kf_ BK2.out 9; have hz10 : wq.cell? ⟨g2, 10, none⟩ = some (.int .i64 0) := (kc_ BK2.out 10).trans rfl; have hf10 := kf_ BK2.out 10; have hz11 : wq.cell? ⟨g2, 11, none⟩ = some (.int .i64 0) := (kc_ BK2.out 11).trans rfl; have hf11 := kf_ BK2.out 11; have hst : wq.cell? ⟨g4, 2 + k * 5 + i, none⟩ = some (.int .i64 ((mixT l0 k i).getD (k * 5 + i) 0)) := (by rw [show 2 + k * 5 + i = (k * 5 + i) + 2 from by omega]; exact tabC_at l0 k i (k * 5 + i) (by omega) wq g4 BK4.out); have hsf := kf_ BK4.out (2 + k * 5 + i)))
     have hw1 : ((i : Int) + 1) = ((i + 1 : Nat) : Int) := by omega
     have HST := a_ (tabC_set l0 k i j (by omega) (by omega) HID.out HJ.out)
     refine ⟨⟨i + 1, by omega, by rw [hw1], ⟨by rw [← HST.out]; exact blk_set BK4.out _ _⟩, ⟨kF_ BK2.out (fun e => NE42.out e.symm) _⟩, ⟨bS_ HB.out GE4.out⟩, ⟨fun q hq => ?_⟩⟩, by rw [hw1]; simp [intOf]; omega⟩
     rcases Nat.lt_or_ge q i with h1 | h1
     ·exact HOKC.out q h1
     ·obtain rfl : q = i := by omega
      rw [HJ.out]
      exact ⟨E3.out.1, E3.out.2, E4.out⟩
theorem c_newTable.calls (k : Nat) (A0 : Option Addr) (c0 : Nat) (l0 : List (List Int)) (r1 : Int) (r2 : Int) (r3 : Int) (r4 : Int) (r5 : Int) (r6 : Int) (r7 : Int) (r8 : Int) (r9 : Int) (r10 : Int) (r11 : Int) (r12 : Int) (r13 : Bool) (w : World) (hr0 : Kd.C (Kd.slice 3 (Kd.int .i64)) w A0 l0.length l0) (hc0 : l0.length ≤ c0) (h : c_newTable.f k l0 = some (r1, r2, r3, r4, r5, r6, r7, r8, r9, r10, r11, r12, r13)) :
  Calls Try.prog 51 #[.slice A0 l0.length c0] w fun e w' => e = .returned (.tuple #[.agg #[.int .i64 r1, .int .i64 r2, .int .i64 r3, .int .i64 r4, .int .i64 r5, .int .i64 r6, .int .i64 r7, .int .i64 r8, .int .i64 r9, .int .i64 r10, .int .i64 r11, .int .i64 r12], .bool r13]) ∧ Below w.heap.size w w' := by
 refine (newTable_any A0 c0 l0 w hr0 hc0).mono ?_
 rintro e w' ⟨t, b, hl, rfl, hb, hif⟩
 refine ⟨?_, hb⟩
 unfold c_newTable.f at h
 by_cases hok : okT l0
 rotate_left
 ·rw [if_neg hok] at h hif
  obtain ⟨rfl, rfl⟩ := hif
  cases h
  rfl
 rw [if_pos hok] at h hif
 obtain ⟨rfl, rfl⟩ := hif
 cases h
 rw [list10 (tabL l0) (mixT_length _ _ _)]
 rfl
end Go.Proofs.Ytifkldehbaphgaa.PAll
end
section
namespace Go.Proofs.Ytifkldehbaphgaa.PAll
open Go.RowKit Go.PW.PrintWords Go.PW.PrintLast Go.PW.PrintMore
attribute [local go_sem] max2_int max_two
def sl_Reverse_byte_byte.l0 : Nat → List Int → Int → Int → Option (List Int)
 | 0, _, _, _ => none
 | k + 1, x0, x2, x3 => if x2 < x3 then (if 0 ≤ x3 then (if x3 < (x0.length : Int) then (if 0 ≤ x2 then (if x2 < (x0.length : Int) then (sl_Reverse_byte_byte.l0 k ((x0.set (x2 : Int).toNat (rd x0 x3)).set (x3 : Int).toNat (rd x0 x2)) (wrap64 (x2 + 1)) (wrap64 (x3 - 1))) else (none)) else (none)) else (none)) else (none)) else (some x0)
def sl_Reverse_byte_byte.f (k : Nat) (l0 : List Int) : Option (List Int) := sl_Reverse_byte_byte.l0 k l0 0 (wrap64 ((l0.length : Int) - 1))
def sl_Reverse_byte_byte.T3 : Bool × List (List Nat × List Nat) := (true, [([], []), ([], []), ([], []), ([], []), ([], []), ([], []), ([4, 5], [4, 5]), ([6], [6]), ([], []), ([], []), ([8, 9], [8, 9]), ([10], [10]), ([0, 1, 0, 1, 4, 5, 6, 7, 11], [0, 1]), ([12, 7, 0, 1, 4, 5, 6, 7, 11], [7, 12]), ([2, 3, 0, 1, 2, 3, 4, 5, 6, 7, 8, 9, 10, 11, 12, 13], [2, 3]), ([14, 11, 13, 0, 1, 2, 3, 4, 5, 6, 7, 8, 9, 10, 11, 12, 13], [11, 14])])
def sl_Reverse_byte_byte.B3 : List Nat := [0, 0, 0, 0, 0, 0, 48, 112, 0, 0, 768, 1792, 4083, 8179, 16383, 32767]
theorem sl_Reverse_byte_byte.tab3 : rtab .any (opsOf Try.f82 3) = sl_Reverse_byte_byte.T3 := by kernel_rfl
theorem sl_Reverse_byte_byte.bits3 : waitsOk sl_Reverse_byte_byte.T3.2 sl_Reverse_byte_byte.B3 = true := by kernel_rfl
end Go.Proofs.Ytifkldehbaphgaa.PAll
end
section
namespace Go.Proofs.Ytifkldehbaphgaa.PAll
open Go.RowKit Go.PW.PrintWords Go.PW.PrintLast Go.PW.PrintMore
def BW (w : World) (g : Nat) (xs : List Int) : Prop :=
 ∃ cs fz, w.heap[g]? = some (.cells cs 5 fz) ∧ xs.length ≤ 140737488355328 ∧ (∀ j, j < xs.length → cs[j]? = some (.int .u8 (xs.getD j 0))) ∧ ∀ j, j < xs.length → ¬ (fz.1 ≤ j ∧ j < fz.2)
theorem BW_drew {w : World} {g : Nat} {xs : List Int} (h : BW w g xs) : BW w.drew g xs := h
theorem BW_reads {w : World} {g : Nat} {xs : List Int} (h : BW w g xs) : Kd.C (Kd.int .u8) w (some ⟨g, 0, none⟩) xs.length xs := by
 obtain ⟨cs, fz, hg, hl, hc, hf⟩ := h
 refine Kd.C_of_reads (enc := Value.int .u8) (d := (0 : Int)) (h1 := fun _ => rfl) ⟨rfl, by omega, fun _ => ⟨_, rfl, fun j hj => ?_⟩⟩
 rw [Addr.add_lit]
 simp [World.cell?, hg, hc j hj]
theorem BW_celln {w : World} {g : Nat} {xs : List Int} (h : BW w g xs) (i : Int) (h0 : 0 ≤ i) (hi : i < (xs.length : Int)) : w.cell? ⟨g, i.toNat, none⟩ = some (.int .u8 (rd xs i)) ∧ w.frozen? ⟨g, i.toNat, none⟩ = false := by
 obtain ⟨cs, fz, hg, hl, hc, hf⟩ := h
 have hj : i.toNat < xs.length := by omega
 refine ⟨?_, ?_⟩
 ·have h1 := hc i.toNat hj
  simp [World.cell?, hg, h1, rd, hj]
 ·have h2 := hf i.toNat hj
  simp only [World.frozen?, hg]
  simp only [Bool.and_eq_false_iff, decide_eq_false_iff_not]
  omega
theorem BW_putn {w : World} {g : Nat} {xs : List Int} (h : BW w g xs) (i : Int) (x : Int) : BW (w.setCell ⟨g, i.toNat, none⟩ (.int .u8 x)) g (xs.set i.toNat x) := by
 obtain ⟨cs, fz, hg, hl, hc, hf⟩ := h
 refine ⟨cs.setIfInBounds i.toNat (.int .u8 x), fz, ?_, by simpa using hl, fun j hj => ?_, fun j hj => hf j (by simpa using hj)⟩
 ·simp only [World.setCell]
  rw [Array.getElem?_modify]
  simp [hg]
 ·have hj' : j < xs.length := by simpa using hj
  have hcs : j < cs.size := by
   have h1 := hc j hj'
   exact (Array.getElem?_eq_some_iff.1 h1).1
  by_cases e : i.toNat = j
  ·subst e
   simp [hcs, hj']
  ·rw [Array.getElem?_setIfInBounds_ne (by omega), hc j hj']
   simp [List.getD, List.getElem?_set, e]
theorem Reverse_bytes (k : Nat) (g c : Nat) (l0 : List Int) (r : List Int) (w0 w : World) (hB : Below w0.heap.size w0 w) (hge : w0.heap.size ≤ g) (ho0 : BW w g l0) (h : sl_Reverse_byte_byte.f k l0 = some r) :
  Calls Try.prog 82 #[.slice (some ⟨g, 0, none⟩) l0.length c] w fun e w' => e = .returned (.tuple #[]) ∧ (BW w' g r ∧ l0.length = r.length) ∧ Below w0.heap.size w0 w' := by
 have HO0 := a_ (show BW w g l0 ∧ l0.length = l0.length from ⟨ho0, rfl⟩)
 have HB := a_ hB
 have GB8 := a_ hge
 clear hB hge
 have H : (sl_Reverse_byte_byte.l0 k l0 0 (wrap64 ((l0.length : Int) - 1))) = some r := h
 clear h
 have H' := a_ H
 clear H
 go_enter Try.func82, Try.ntmps82
 go_wp2
 go_loopg [2, 3] k (fun kq v2 v3 w' => ∃ (x0_1 : List Int) (x2_1 : Int) (x3_1 : Int), v2 = .int .i64 x2_1 ∧ v3 = .int .i64 x3_1 ∧ Aside0 (sl_Reverse_byte_byte.l0 kq x0_1 x2_1 x3_1 = some r) ∧ Aside0 (kq ≤ k) ∧ Aside0 (BW w' g x0_1 ∧ l0.length = x0_1.length) ∧ Aside0 (Below w0.heap.size w0 w'))
 case atStart => exact ⟨(l0), (0), (wrap64 ((l0.length : Int) - 1)), (by first | rfl | (simp; done) | (simp [*]; done)), (by first | rfl | (simp; done) | (simp [*]; done)), H', ⟨Nat.le_refl _⟩, ⟨by first | exact HO0.out | exact ⟨HO0.out.1, rfl⟩ | exact ⟨HO0.out.1, trivial⟩⟩, ⟨by exact gs HB.out⟩⟩
 clear H'
 try clear c1
 try clear p2
 obtain ⟨x0_1, x2_1, x3_1, rfl, rfl, HA, HK1, HO_0, HB⟩ := hrel
 have hl0_1 := HO_0.out.2
 (try simp only [hl0_1])
 cases gk with
 | zero => exact absurd HA.out (by simp [sl_Reverse_byte_byte.l0])
 | succ k1 =>
  have H := HA.out
  clear HA
  simp only [sl_Reverse_byte_byte.l0] at H
  by_cases c3 : x2_1 < x3_1
  rotate_left
  ·rw [if_neg c3] at H
   have c3b0 : decide (x2_1 < x3_1) = false := decide_eq_false c3
   clear c3
   obtain rfl := Option.some.inj H
   go_wp2
   first | go_end0 | ((try simp only [Exit.inBlock, Exit.then]); refine bodyPost_ret (results_none rfl _ _ _) rfl ?_)
   have hb_ : Below w0.heap.size w0 wr := HB.out
   first | exact ⟨rfl, HO_0.out.1, hb_⟩ | exact ⟨rfl, HO_0.out, hb_⟩ | exact ⟨rfl, HO_0.out.1, HO_0.out.2, hb_⟩ | exact ⟨rfl, ⟨HO_0.out.1, HO_0.out.2⟩, hb_⟩
  rw [if_pos c3] at H
  have c3b0 : decide (x2_1 < x3_1) = true := decide_eq_true c3
  clear c3
  by_cases c4 : 0 ≤ x3_1
  rotate_left
  ·rw [if_neg c4] at H
   exact absurd H (by simp)
  rw [if_pos c4] at H
  have c4b0 : decide (0 ≤ x3_1) = true := decide_eq_true c4
  clear c4
  by_cases c5 : x3_1 < (x0_1.length : Int)
  rotate_left
  ·rw [if_neg c5] at H
   exact absurd H (by simp)
  rw [if_pos c5] at H
  have c5b0 : decide (x3_1 < (x0_1.length : Int)) = true := decide_eq_true c5
  clear c5
  by_cases c6 : 0 ≤ x2_1
  rotate_left
  ·rw [if_neg c6] at H
   exact absurd H (by simp)
  rw [if_pos c6] at H
  have c6b0 : decide (0 ≤ x2_1) = true := decide_eq_true c6
  clear c6
  by_cases c7 : x2_1 < (x0_1.length : Int)
  rotate_left
  ·rw [if_neg c7] at H
   exact absurd H (by simp)
  rw [if_pos c7] at H
  have c7b0 : decide (x2_1 < (x0_1.length : Int)) = true := decide_eq_true c7
  clear c7
  obtain ⟨y199, hy199⟩ : ∃ y_ : List Int, y_ = (x0_1.set (x2_1 : Int).toNat (rd x0_1 x3_1)) := ⟨_, rfl⟩
  replace H : (sl_Reverse_byte_byte.l0 k1 (y199.set (x3_1 : Int).toNat (rd x0_1 x2_1)) (wrap64 (x2_1 + 1)) (wrap64 (x3_1 - 1))) = some r := by first | (rw [hy199]; with_reducible exact H) | (have H2_ := (Option.bind_some _ _).symm.trans H; rw [hy199]; with_reducible exact H2_) | (have H2_ := (Option.bind_some _ _).symm.trans H; with_reducible exact H2_) | with_reducible exact H | (rw [hy199]; exact H) | exact H
  have Ny199 := a_ hy199
  clear hy199
  obtain ⟨y200, hy200⟩ : ∃ y_ : List Int, y_ = (y199.set (x3_1 : Int).toNat (rd x0_1 x2_1)) := ⟨_, rfl⟩
  replace H : (sl_Reverse_byte_byte.l0 k1 y200 (wrap64 (x2_1 + 1)) (wrap64 (x3_1 - 1))) = some r := by first | (rw [hy200]; with_reducible exact H) | (have H2_ := (Option.bind_some _ _).symm.trans H; rw [hy200]; with_reducible exact H2_) | (have H2_ := (Option.bind_some _ _).symm.trans H; with_reducible exact H2_) | with_reducible exact H | (rw [hy200]; exact H) | exact H
  have Ny200 := a_ hy200
  clear hy200
  have H' := a_ H
  clear H
  try go_wp2
  have n0_ := a_ ((show BW wr.drew g x0_1 ∧ l0.length = x0_1.length from ⟨BW_drew HO_0.out.1, HO_0.out.2⟩))
  have n1_ := a_ (b1_ HB.out)
  clear HO_0
  skip
  clear HB
  have HO_0 := n0_
  skip
  have HB := n1_
  clear n0_ n1_
  have p197 : 0 ≤ (x3_1 : Int) := of_decide_eq_true (by first | (with_reducible assumption) | assumption)
  have q197 : x3_1 < (x0_1.length : Int) := of_decide_eq_true (by first | (with_reducible assumption) | assumption)
  obtain ⟨ad197, e197, hx197_0⟩ := Kd.at_int (BW_reads HO_0.out.1) x3_1 p197 q197
  cases e197
  replace p197 := eq_true p197
  replace q197 := eq_true q197
  have p198 : 0 ≤ (x2_1 : Int) := of_decide_eq_true (by first | (with_reducible assumption) | assumption)
  have q198 : x2_1 < (x0_1.length : Int) := of_decide_eq_true (by first | (with_reducible assumption) | assumption)
  obtain ⟨ad198, e198, hx198_0⟩ := Kd.at_int (BW_reads HO_0.out.1) x2_1 p198 q198
  cases e198
  replace p198 := eq_true p198
  replace q198 := eq_true q198
  have p8 : 0 ≤ (x2_1 : Int) := of_decide_eq_true (by first | (with_reducible assumption) | assumption)
  have q8 : (x2_1 : Int) < ((x0_1.length : Int) : Int) := of_decide_eq_true (by first | (with_reducible assumption) | assumption)
  (first | simp only [add_plain] at hx197_0 | skip)
  (first | simp only [add_plain] at hx198_0 | skip)
  obtain ⟨hx8_0, hf8_0⟩ := BW_celln HO_0.out.1 (x2_1 : Int) p8 q8
  replace p8 := eq_true p8
  replace q8 := eq_true q8
  have HP11 := BW_putn HO_0.out.1 (x2_1 : Int) (rd x0_1 x3_1)
  rw [← Ny199.out] at HP11
  have HQ11 := a_ HP11
  clear HP11
  have p9 : 0 ≤ (x3_1 : Int) := of_decide_eq_true (by first | (with_reducible assumption) | assumption)
  have q9 : (x3_1 : Int) < ((x0_1.length : Int) : Int) := of_decide_eq_true (by first | (with_reducible assumption) | assumption)
  obtain ⟨hx9_0, hf9_0⟩ := BW_celln HQ11.out (x3_1 : Int) p9 (by rw [Ny199.out, List.length_set]; exact q9)
  replace p9 := eq_true p9
  replace q9 := eq_true q9
  have HP12 := BW_putn HQ11.out (x3_1 : Int) (rd x0_1 x2_1)
  rw [← Ny200.out] at HP12
  have HQ12 := a_ HP12
  clear HP12
  refine start_ (n := 16) (S := fun w' => w'.cell? ⟨g, (x3_1).toNat, none⟩ = some (.int .u8 (rd x0_1 x3_1)) ∧ w'.cell? ⟨g, (x2_1).toNat, none⟩ = some (.int .u8 (rd x0_1 x2_1))) (ds := [13, 15]) #[false, false, false, false, false, false, false, false, false, false, false, false, false, false, false, false] (by kernel_rfl) rfl rfl ⟨hx197_0, hx198_0⟩ (fun hHeld => ?_); refine with_tabW sl_Reverse_byte_byte.tab3 sl_Reverse_byte_byte.bits3 (fun HT_ HW_ => ?_)
  generalize wr.drew = w10 at HO_0 HB HQ11 HQ12 hf8_0 hf9_0 hx197_0 hx198_0 hx8_0 hx9_0 hHeld ⊢
  refine pure_ (i := 0) (N := some 14) (v := ?_) (a' := ?_) #[true, false, false, false, false, false, false, false, false, false, false, false, false, false, false, false] rfl rfl (any_of HT_.out (by kernel_rfl)) (fun _ _ _ h => h) (Or.inl ⟨by rfl, ?_⟩) ?_ ?_
  rotate_left
  ·intro w'
   go_simp
   with_reducible rfl
  rotate_left
  ·simp only [Act.put, List.setIfInBounds_toArray, List.set_cons_zero, List.set_cons_succ, i64_w, i32_w]
   rfl
  refine pure_ (i := 1) (N := some 15) (v := ?_) (a' := ?_) #[true, true, false, false, false, false, false, false, false, false, false, false, false, false, false, false] rfl rfl (any_of HT_.out (by kernel_rfl)) (fun _ _ _ h => h) (Or.inl ⟨by rfl, ?_⟩) ?_ ?_
  rotate_left
  ·intro w'
   go_simp
   with_reducible rfl
  rotate_left
  ·simp only [Act.put, List.setIfInBounds_toArray, List.set_cons_zero, List.set_cons_succ, i64_w, i32_w]
   rfl
  refine pure_ (i := 2) (N := some 16) (v := ?_) (a' := ?_) #[true, true, true, false, false, false, false, false, false, false, false, false, false, false, false, false] rfl rfl (any_of HT_.out (by kernel_rfl)) (fun _ _ _ h => h) (Or.inl ⟨by rfl, ?_⟩) ?_ ?_
  rotate_left
  ·intro w'
   go_simp
   with_reducible rfl
  rotate_left
  ·simp only [Act.put, List.setIfInBounds_toArray, List.set_cons_zero, List.set_cons_succ, i64_w, i32_w]
   rfl
  refine pure_ (i := 3) (N := some 17) (v := ?_) (a' := ?_) #[true, true, true, true, false, false, false, false, false, false, false, false, false, false, false, false] rfl rfl (any_of HT_.out (by kernel_rfl)) (fun _ _ _ h => h) (Or.inl ⟨by rfl, ?_⟩) ?_ ?_
  rotate_left
  ·intro w'
   go_simp
   with_reducible rfl
  rotate_left
  ·simp only [Act.put, List.setIfInBounds_toArray, List.set_cons_zero, List.set_cons_succ, i64_w, i32_w]
   rfl
  refine pure_ (i := 4) (N := some 18) (v := ?_) (a' := ?_) #[true, true, true, true, true, false, false, false, false, false, false, false, false, false, false, false] rfl rfl (any_of HT_.out (by kernel_rfl)) (fun _ _ _ h => h) (Or.inl ⟨by rfl, ?_⟩) ?_ ?_
  rotate_left
  ·intro w'
   go_simp
   with_reducible rfl
  rotate_left
  ·simp only [Act.put, List.setIfInBounds_toArray, List.set_cons_zero, List.set_cons_succ, i64_w, i32_w]
   rfl
  refine pure_ (i := 5) (N := some 19) (v := ?_) (a' := ?_) #[true, true, true, true, true, true, false, false, false, false, false, false, false, false, false, false] rfl rfl (any_of HT_.out (by kernel_rfl)) (fun _ _ _ h => h) (Or.inl ⟨by rfl, ?_⟩) ?_ ?_
  rotate_left
  ·intro w'
   go_simp
   with_reducible rfl
  rotate_left
  ·simp only [Act.put, List.setIfInBounds_toArray, List.set_cons_zero, List.set_cons_succ, i64_w, i32_w]
   rfl
  refine pure_ (i := 6) (N := some 20) (v := ?_) (a' := ?_) #[true, true, true, true, true, true, true, false, false, false, false, false, false, false, false, false] rfl rfl (any_of HT_.out (by kernel_rfl)) (fun _ _ _ h => h) (Or.inl ⟨by rfl, ?_⟩) ?_ ?_
  rotate_left
  ·intro w'
   go_simp
   with_reducible rfl
  rotate_left
  ·simp only [Act.put, List.setIfInBounds_toArray, List.set_cons_zero, List.set_cons_succ, i64_w, i32_w]
   rfl
  refine pure_ (i := 8) (N := some 22) (v := ?_) (a' := ?_) #[true, true, true, true, true, true, true, false, true, false, false, false, false, false, false, false] rfl rfl (any_of HT_.out (by kernel_rfl)) (fun _ _ _ h => h) (Or.inl ⟨by rfl, ?_⟩) ?_ ?_
  rotate_left
  ·intro w'
   go_simp
   with_reducible rfl
  rotate_left
  ·simp only [Act.put, List.setIfInBounds_toArray, List.set_cons_zero, List.set_cons_succ, i64_w, i32_w]
   rfl
  refine pure_ (i := 9) (N := some 23) (v := ?_) (a' := ?_) #[true, true, true, true, true, true, true, false, true, true, false, false, false, false, false, false] rfl rfl (any_of HT_.out (by kernel_rfl)) (fun _ _ _ h => h) (Or.inl ⟨by rfl, ?_⟩) ?_ ?_
  rotate_left
  ·intro w'
   go_simp
   with_reducible rfl
  rotate_left
  ·simp only [Act.put, List.setIfInBounds_toArray, List.set_cons_zero, List.set_cons_succ, i64_w, i32_w]
   rfl
  refine pure_ (i := 10) (N := some 24) (v := ?_) (a' := ?_) #[true, true, true, true, true, true, true, false, true, true, true, false, false, false, false, false] rfl rfl (any_of HT_.out (by kernel_rfl)) (fun _ _ _ h => h) (Or.inl ⟨by rfl, ?_⟩) ?_ ?_
  rotate_left
  ·intro w'
   go_simp
   with_reducible rfl
  rotate_left
  ·simp only [Act.put, List.setIfInBounds_toArray, List.set_cons_zero, List.set_cons_succ, i64_w, i32_w]
   rfl
  refine take_ (i := 7) (N := some 21) (v := ?_) (a' := ?_) #[true, true, true, true, true, true, true, true, true, true, true, false, false, false, false, false] rfl rfl (take_ofW HT_.out HW_.out (by kernel_rfl)) (fun _ _ _ h => h) (Or.inl ⟨by rfl, ?_⟩) hHeld ?_ ?_
  rotate_left
  ·rintro w' ⟨s0, s1⟩
   go_simp
   with_reducible rfl
  rotate_left
  ·simp only [Act.put, List.setIfInBounds_toArray, List.set_cons_zero, List.set_cons_succ, i64_w, i32_w]
   rfl
  refine take_ (i := 11) (N := some 25) (v := ?_) (a' := ?_) #[true, true, true, true, true, true, true, true, true, true, true, true, false, false, false, false] rfl rfl (take_ofW HT_.out HW_.out (by kernel_rfl)) (fun _ _ _ h => h) (Or.inl ⟨by rfl, ?_⟩) hHeld ?_ ?_
  rotate_left
  ·rintro w' ⟨s0, s1⟩
   go_simp
   with_reducible rfl
  rotate_left
  ·simp only [Act.put, List.setIfInBounds_toArray, List.set_cons_zero, List.set_cons_succ, i64_w, i32_w]
   rfl
  refine pure_ (i := 12) (N := some 26) (v := ?_) (a' := ?_) #[true, true, true, true, true, true, true, true, true, true, true, true, true, false, false, false] rfl rfl (any_of HT_.out (by kernel_rfl)) (fun _ _ _ h => h) (Or.inl ⟨by rfl, ?_⟩) ?_ ?_
  rotate_left
  ·intro w'
   go_simp
   with_reducible rfl
  rotate_left
  ·simp only [Act.put, List.setIfInBounds_toArray, List.set_cons_zero, List.set_cons_succ, i64_w, i32_w]
   rfl
  refine last_ (i := 13) (N := none) #[true, true, true, true, true, true, true, true, true, true, true, true, true, true, false, false] rfl rfl (one_of HT_.out (by kernel_rfl)) (by decide) (fun K hK => ?_)
  refine skip_ (w1 := ?_) (by rfl) rfl ?_ ?_
  rotate_left
  ·go_simp
   rfl
  refine hK.out _ _ ?_
  clear hK K
  refine pure_ (i := 14) (N := some 27) (v := ?_) (a' := ?_) #[true, true, true, true, true, true, true, true, true, true, true, true, true, true, true, false] rfl rfl (any_of HT_.out (by kernel_rfl)) (fun _ _ _ h => h) (Or.inl ⟨by rfl, ?_⟩) ?_ ?_
  rotate_left
  ·intro w'
   go_simp
   with_reducible rfl
  rotate_left
  ·simp only [Act.put, List.setIfInBounds_toArray, List.set_cons_zero, List.set_cons_succ, i64_w, i32_w]
   rfl
  refine last_ (i := 15) (N := none) #[true, true, true, true, true, true, true, true, true, true, true, true, true, true, true, true] rfl rfl (one_of HT_.out (by kernel_rfl)) (by decide) (fun K hK => ?_)
  refine skip_ (w1 := ?_) (by rfl) rfl ?_ ?_
  rotate_left
  ·go_simp
   rfl
  refine hK.out _ _ ?_
  clear hK K
  refine done_ (done_of HT_.out (by kernel_rfl)) ?_
  try go_wp2
  (try simp only [← hl0_1])
  go_roundg k1
  case measure => have := HK1.out; omega
  case rel => exact ⟨(y200), (wrap64 (x2_1 + 1)), (wrap64 (x3_1 - 1)), (by first | rfl | (simp; done) | (simp [*]; done)), (by first | rfl | (simp; done) | (simp [*]; done)), H', ⟨by have := HK1.out; omega⟩, ⟨HQ12.out, by rw [Ny200.out, Ny199.out]; simpa using hl0_1⟩, ⟨by repeat (first | (with_reducible first | exact HB.out | apply bA_ | apply bN_ | apply b1_ | refine bS_ ?_ GB8.out | refine bS_ ?_ GB8.out) | exact HB.out)⟩⟩
end Go.Proofs.Ytifkldehbaphgaa.PAll
end
section
namespace Go.Proofs.Ytifkldehbaphgaa.PAll
open Go.RowKit Go.PW.PrintWords Go.PW.PrintLast Go.PW.PrintMore
section
variable {P : Program} {ops : Array Oper} {rest : List Oper} {o : Oper} {a : Act} {Q : Exit → Act → World → Prop}
theorem bytesW_event {W : World} (hgd : o.guard = none) {N : Tmp} (_hd : o.dst = some N) {src dst : TypeId} {x : Operand} (ho : o.op = .convert src dst x) {s : ByteArray} (hx : a.eval x = .string s) (hl : s.size ≤ 140737488355328)
  (hs : P.underlying src = some .string) (hdt : P.underlying dst = some (.slice 5)) (he : P.underlying 5 = some (.int .u8))
  (h : ∀ g c w1, W.heap.size ≤ g → BW w1 g (strBytes s) → Below W.heap.size W w1 → wpList P ops Q rest (a.put o.dst (.slice (some ⟨g, 0, none⟩) (strBytes s).length c)) w1) : wpList P ops Q (o :: rest) a W := by
 have hr := Lib.run_convert_string_bytes (P := P) W src dst 5 s hs hdt he
 have h1 := h W.heap.size (grownCap W s.size 0 5) (Lib.bytesWorld W 5 s) (Nat.le_refl _) ⟨_, _, Lib.bytesWorld_at_new W 5 s, by rw [strBytes_length]; exact hl, fun j hj => ?_, fun j hj hf => ?_⟩ ⟨rfl, rfl, rfl, by rw [Lib.bytesWorld_size]; omega, fun i hi => Lib.bytesWorld_at_old W 5 s i hi⟩
 rw [strBytes_length] at h1
 ·refine Kd.event_run hgd (v := .slice (some ⟨W.heap.size, 0, none⟩) s.size (grownCap W s.size 0 5)) (w1 := Lib.bytesWorld W 5 s) ?_ h1
  simp [execOp, ho, hx, hr, Result.andThen]
 ·rw [strBytes_length] at hj
  have hc := Lib.bytesWorld_cell W 5 s j hj
  simp only [World.cell?, Lib.bytesWorld_at_new] at hc
  simpa [strBytes, List.getD, hj] using hc
 ·rw [strBytes_length] at hj
  have hc := Lib.bytesWorld_cell W 5 s j hj
  simp only [World.cell?, Lib.bytesWorld_at_new] at hc
  have := (Array.getElem?_eq_some_iff.1 (show (Lib.bytesCells W 5 s)[j]? = _ from hc)).1
  omega
end
def mixL (k : Nat) (l : List Int) : List Int := (l.take k).map (fun c => Go.bits .xor .u8 c 32) ++ l.drop k
theorem mixL_length (k : Nat) (l : List Int) : (mixL k l).length = l.length := by simp [mixL]; omega
theorem mixL_rd (k : Nat) (l : List Int) (h : k < l.length) : rd (mixL k l) (k : Int) = rd l (k : Int) := by
 have hk : k < (mixL k l).length := by rw [mixL_length]; exact h
 simp only [rd, Int.toNat_natCast]
 simp only [mixL, List.getD, List.getElem?_append, List.length_map, List.length_take, Nat.min_eq_left (Nat.le_of_lt h), Nat.lt_irrefl, if_false, Nat.sub_self, List.getElem?_drop, Nat.add_zero]
theorem mixL_step (k : Nat) (l : List Int) (h : k < l.length) : (mixL k l).set k (Go.bits .xor .u8 (rd l (k : Int)) 32) = mixL (k + 1) l := by
 have hr : rd l (k : Int) = l[k] := by simp [rd, h]
 rw [hr]
 simp only [mixL]
 rw [List.set_append_right _ _ (by simp; omega)]
 simp only [List.length_map, List.length_take, Nat.min_eq_left (Nat.le_of_lt h), Nat.sub_self]
 rw [List.drop_eq_getElem_cons h, List.set_cons_zero, List.take_succ_eq_append_getElem h, List.map_append, List.append_assoc]
 rfl
def c_turned.f (a0 : ByteArray) : Option (ByteArray) :=
 if a0.size ≤ 1000000 then (sl_Reverse_byte_byte.f (a0.size + 1) (strBytes a0)).bind fun l => some (strOfNums (l.map fun c => Go.bits .xor .u8 c 32)) else none
theorem c_turned.calls (a0 : ByteArray) (r : ByteArray) (w : World) (h : c_turned.f a0 = some r) :
  Calls Try.prog 55 #[.string a0] w fun e w' => e = .returned (.string r) ∧ Below w.heap.size w w' := by
 unfold c_turned.f at h
 by_cases hsz : a0.size ≤ 1000000
 rotate_left
 ·rw [if_neg hsz] at h; cases h
 rw [if_pos hsz] at h
 obtain ⟨l, hl, h⟩ := Option.bind_eq_some_iff.1 h
 obtain rfl := Option.some.inj h
 have HSZ := a_ (show a0.size ≤ 140737488355328 by omega)
 have HS6 := a_ hsz
 have HL := a_ hl
 clear hsz hl h
 have hcv0 : ∀ (W : World) (A : Option Addr) (n c : Nat) (xs : List Int), True := fun _ _ _ _ _ => trivial
 clear hcv0
 go_enter Try.func55, Try.ntmps55
 go_wp2_with (first | ((with_reducible refine gate_dst (N := 7) rfl ?_); refine bytesW_event ?hg (N := 7) ?hd rfl (s := a0) ?hx HSZ.out Try.underlying9 Try.underlying86 Try.underlying5 ?_; (case hd => rfl); (case hg => rfl); (case hx => rfl); intro g c w1 hge hbw hb; have HGE := a_ hge; have HBW := a_ hbw; have HB := a_ hb; clear hge hbw hb) | ((with_reducible refine gate_callee (f := 82) rfl ?_); refine goesL_ (some 9) rfl rfl Try.func82 (by kernel_rfl) rfl #[.slice (some ⟨g, 0, none⟩) (strBytes a0).length c] rfl (by (try simp only [List.map_toArray, List.map_cons, List.map_nil]); first | done | rfl) ?_; (with_reducible refine (Reverse_bytes (a0.size + 1) g c (strBytes a0) l w w1 HB.out HGE.out HBW.out HL.out).mono ?_); rintro e w2 ⟨rfl, ⟨hbw, hlen⟩, hb⟩; refine ⟨_, rfl, ?_⟩; rw [hlen]; have HLE := a_ hlen; have HBW2 := a_ hbw; have HB2 := a_ hb; clear hlen hbw hb HBW HB))
 have hN : l.length ≤ 1000000 := by rw [← HLE.out, strBytes_length]; exact HS6.out
 have HN := a_ hN
 clear hN h
 go_loopw [12] (fun v12 wr => ∃ k : Nat, k ≤ l.length ∧ v12 = .int .i64 k ∧ Aside0 (BW wr g (mixL k l)) ∧ Aside0 (Below w.heap.size w wr)) (fun v12 _ => l.length - (intOf v12).toNat)
 case atStart => exact ⟨0, Nat.zero_le _, rfl, ⟨by simpa [mixL] using HBW2.out⟩, ⟨HB2.out⟩⟩
 obtain ⟨k, hk, rfl, HBK, HBL⟩ := hrel
 by_cases hkd : k < l.length
 rotate_left
 ·obtain rfl : k = l.length := by omega
  have hm : mixL l.length l = l.map (fun c => Go.bits .xor .u8 c 32) := by simp [mixL]
  have hbw := HBK.out
  rw [hm] at hbw
  have hC := BW_reads hbw
  have hlm : (l.map (fun c => Go.bits .xor .u8 c 32)).length = l.length := List.length_map _
  have hcv := Kd.C_string (P := Try.prog) (A := some ⟨g, 0, none⟩) (c := c) Try.underlying86 Try.underlying5 Try.underlying9 hC
  rw [hlm] at hcv
  have hlt : decide ((l.length : Int) < (l.length : Int)) = false := decide_eq_false (by omega)
  clear hm hbw hC hlm
  go_wp2
  go_ret
  exact ⟨rfl, HBL.out⟩
 have hkm : (k : Int) < ((mixL k l).length : Int) := by rw [mixL_length]; omega
 obtain ⟨hx, hf⟩ := BW_celln HBK.out (k : Int) (by omega) hkm
 rw [mixL_rd k l hkd] at hx
 simp only [Int.toNat_natCast] at hx hf
 have hlt : decide ((k : Int) < (l.length : Int)) = true := decide_eq_true (by omega)
 have hw : wrap64 ((k : Int) + 1) = ((k + 1 : Nat) : Int) := by have := HN.out; rw [wrap64_small _ (by omega) (by omega)]; omega
 have hput := BW_putn HBK.out (k : Int) (Go.bits .xor .u8 (rd l (k : Int)) 32)
 simp only [Int.toNat_natCast] at hput
 rw [mixL_step k l hkd] at hput
 have HPUT := a_ hput
 clear hput
 go_wp2_with (first | (go_at_call 81; refine (c_inverse.calls (rd l (k : Int)) _ _ rfl).mono ?_; rintro e w3 ⟨rfl, ⟨nd, rfl⟩⟩))
 refine ⟨⟨k + 1, by omega, by rw [hw], ⟨HPUT.out⟩, ⟨bS_ (bN_ HBL.out nd) HGE.out⟩⟩, by rw [hw]; simp [intOf]; omega⟩
end Go.Proofs.Ytifkldehbaphgaa.PAll
end
section
namespace Go.Proofs.Ytifkldehbaphgaa.PAll
open Go.RowKit Go.PW.PrintWords Go.PW.PrintLast Go.PW.PrintMore
def colAtF (a0 a1 a2 a3 a4 a5 a6 a7 a8 a9 a10 a11 k i : Int) : Option Int := if (0 ≤ k ∧ k ≤ 1) ∧ (0 ≤ i ∧ i ≤ 4) then some ([a2, a3, a4, a5, a6, a7, a8, a9, a10, a11].getD (k.toNat * 5 + i.toNat) 0) else none
theorem colAt_in {a0 a1 a2 a3 a4 a5 a6 a7 a8 a9 a10 a11 k i r : Int} (h : colAtF a0 a1 a2 a3 a4 a5 a6 a7 a8 a9 a10 a11 k i = some r) : (0 ≤ k ∧ k < 2) ∧ (0 ≤ i ∧ i < 5) := by
 unfold colAtF at h
 by_cases hc : (0 ≤ k ∧ k ≤ 1) ∧ (0 ≤ i ∧ i ≤ 4)
 ·omega
 ·rw [if_neg hc] at h; cases h
theorem colAt_cell {a0 a1 a2 a3 a4 a5 a6 a7 a8 a9 a10 a11 k i r : Int} {W : World} {g : Nat} (h : colAtF a0 a1 a2 a3 a4 a5 a6 a7 a8 a9 a10 a11 k i = some r) (s2 : W.cell? ⟨g, 2, none⟩ = some (.int .i64 a2)) (s3 : W.cell? ⟨g, 3, none⟩ = some (.int .i64 a3)) (s4 : W.cell? ⟨g, 4, none⟩ = some (.int .i64 a4)) (s5 : W.cell? ⟨g, 5, none⟩ = some (.int .i64 a5)) (s6 : W.cell? ⟨g, 6, none⟩ = some (.int .i64 a6)) (s7 : W.cell? ⟨g, 7, none⟩ = some (.int .i64 a7)) (s8 : W.cell? ⟨g, 8, none⟩ = some (.int .i64 a8)) (s9 : W.cell? ⟨g, 9, none⟩ = some (.int .i64 a9)) (s10 : W.cell? ⟨g, 10, none⟩ = some (.int .i64 a10)) (s11 : W.cell? ⟨g, 11, none⟩ = some (.int .i64 a11)) : W.cell? ⟨g, 2 + k.toNat * 5 + i.toNat, none⟩ = some (.int .i64 r) := by
 have hb := colAt_in h
 unfold colAtF at h
 rw [if_pos (by omega)] at h
 obtain rfl := Option.some.inj h
 obtain rfl | rfl : k = 0 ∨ k = 1 := by omega
 ·obtain rfl | rfl | rfl | rfl | rfl : i = 0 ∨ i = 1 ∨ i = 2 ∨ i = 3 ∨ i = 4 := by omega
  all_goals assumption
 ·obtain rfl | rfl | rfl | rfl | rfl : i = 0 ∨ i = 1 ∨ i = 2 ∨ i = 3 ∨ i = 4 := by omega
  all_goals assumption
attribute [local go_sem] max2_int max_two
mutual
def c_Generators.j0 : Nat → Bool → Int → Int → Int → Int → Int → Int → Int → Int → Int → Int → Int → Int → Option (List ByteArray × Int)
 | 0, _, _, _, _, _, _, _, _, _, _, _, _, _ => none
 | k + 1, x24, Xa0, Xa1, Xa2, Xa3, Xa4, Xa5, Xa6, Xa7, Xa8, Xa9, Xa10, Xa11 => if x24 = true then (some (([] : List ByteArray), 2)) else ((c_table_order.f k Xa0 Xa1 Xa2 Xa3 Xa4 Xa5 Xa6 Xa7 Xa8 Xa9 Xa10 Xa11 0).bind fun bt203 => (c_Generators.l0 k bt203.2 ([] : List ByteArray) bt203.2 (bt203.2.length : Int) 0 Xa0 Xa1 Xa2 Xa3 Xa4 Xa5 Xa6 Xa7 Xa8 Xa9 Xa10 Xa11))
def c_Generators.l0 : Nat → List ByteArray → List ByteArray → List ByteArray → Int → Int → Int → Int → Int → Int → Int → Int → Int → Int → Int → Int → Int → Int → Option (List ByteArray × Int)
 | 0, _, _, _, _, _, _, _, _, _, _, _, _, _, _, _, _, _ => none
 | k + 1, x7, x8, x30, x31, x32, Xa0, Xa1, Xa2, Xa3, Xa4, Xa5, Xa6, Xa7, Xa8, Xa9, Xa10, Xa11 => if x32 < x31 then (if 0 ≤ x32 then (if x32 < (x30.length : Int) then (c_Generators.l1 k x7 x8 x32 (rdOf ByteArray.empty x30 x32) x30 x31 x32 Xa0 0 Xa0 Xa1 Xa2 Xa3 Xa4 Xa5 Xa6 Xa7 Xa8 Xa9 Xa10 Xa11) else (none)) else (none)) else (some (x8, 0))
def c_Generators.l1 : Nat → List ByteArray → List ByteArray → Int → ByteArray → List ByteArray → Int → Int → Int → Int → Int → Int → Int → Int → Int → Int → Int → Int → Int → Int → Int → Int → Option (List ByteArray × Int)
 | 0, _, _, _, _, _, _, _, _, _, _, _, _, _, _, _, _, _, _, _, _, _ => none
 | k + 1, x7, x8, x9, x10, x30, x31, x32, x38, x39, Xa0, Xa1, Xa2, Xa3, Xa4, Xa5, Xa6, Xa7, Xa8, Xa9, Xa10, Xa11 => if x39 < x38 then (if 0 ≤ (wrap64 (2 * x39)) then (if (wrap64 (2 * x39)) ≤ (wrap64 ((wrap64 (2 * x39)) + 1)) then (if (wrap64 ((wrap64 (2 * x39)) + 1)) ≤ 4 then ((colAtF Xa0 Xa1 Xa2 Xa3 Xa4 Xa5 Xa6 Xa7 Xa8 Xa9 Xa10 Xa11 x39 x9).bind fun t210 => (if 0 ≤ t210 then (if t210 < (x7.length : Int) then ((c_turned.f (rdOf ByteArray.empty x7 t210)).bind fun t212 => ((c_joined.f k (([x10, (⟨#[97, 65, 98, 66]⟩ : ByteArray).extract ((wrap64 (2 * x39)) : Int).toNat ((wrap64 ((wrap64 (2 * x39)) + 1)) : Int).toNat, t212] : List ByteArray))).bind fun t216 => (if t216.toList = ([] : List UInt8) then (c_Generators.l1 k x7 x8 x9 x10 x30 x31 x32 x38 (wrap64 (x39 + 1)) Xa0 Xa1 Xa2 Xa3 Xa4 Xa5 Xa6 Xa7 Xa8 Xa9 Xa10 Xa11) else (if x8.length < 8796093022208 then (c_Generators.l1 k x7 (x8 ++ [t216]) x9 x10 x30 x31 x32 x38 (wrap64 (x39 + 1)) Xa0 Xa1 Xa2 Xa3 Xa4 Xa5 Xa6 Xa7 Xa8 Xa9 Xa10 Xa11) else (none))))) else (none)) else (none))) else (none)) else (none)) else (none)) else (c_Generators.l0 k x7 x8 x30 x31 (wrap64 (x32 + 1)) Xa0 Xa1 Xa2 Xa3 Xa4 Xa5 Xa6 Xa7 Xa8 Xa9 Xa10 Xa11)
end
def c_Generators.f (k : Nat) (l0 : List (List Int)) : Option (List ByteArray × Int) := (c_newTable.f k l0).bind fun bt188 => (if bt188.2.2.2.2.2.2.2.2.2.2.2.2 = true then ((c_table_isStandard.f k bt188.1 bt188.2.1 bt188.2.2.1 bt188.2.2.2.1 bt188.2.2.2.2.1 bt188.2.2.2.2.2.1 bt188.2.2.2.2.2.2.1 bt188.2.2.2.2.2.2.2.1 bt188.2.2.2.2.2.2.2.2.1 bt188.2.2.2.2.2.2.2.2.2.1 bt188.2.2.2.2.2.2.2.2.2.2.1 bt188.2.2.2.2.2.2.2.2.2.2.2.1).bind fun t202 => (c_Generators.j0 k (!t202) bt188.1 bt188.2.1 bt188.2.2.1 bt188.2.2.2.1 bt188.2.2.2.2.1 bt188.2.2.2.2.2.1 bt188.2.2.2.2.2.2.1 bt188.2.2.2.2.2.2.2.1 bt188.2.2.2.2.2.2.2.2.1 bt188.2.2.2.2.2.2.2.2.2.1 bt188.2.2.2.2.2.2.2.2.2.2.1 bt188.2.2.2.2.2.2.2.2.2.2.2.1)) else (c_Generators.j0 k true bt188.1 bt188.2.1 bt188.2.2.1 bt188.2.2.2.1 bt188.2.2.2.2.1 bt188.2.2.2.2.2.1 bt188.2.2.2.2.2.2.1 bt188.2.2.2.2.2.2.2.1 bt188.2.2.2.2.2.2.2.2.1 bt188.2.2.2.2.2.2.2.2.2.1 bt188.2.2.2.2.2.2.2.2.2.2.1 bt188.2.2.2.2.2.2.2.2.2.2.2.1))
theorem c_Generators.calls (k : Nat) (A0 : Option Addr) (c0 : Nat) (l0 : List (List Int)) (r1 : List ByteArray) (r2 : Int) (w : World) (hr0 : Kd.C (Kd.slice 3 (Kd.int .i64)) w A0 l0.length l0) (hc0 : l0.length ≤ c0) (h : c_Generators.f k l0 = some (r1, r2)) :
  Calls Try.prog 17 #[.slice A0 l0.length c0] w fun e w' => ∃ v0_ : Value, e = .returned (.tuple #[v0_, .int .i64 r2]) ∧ Kd.R Kd.string 9 w' w.heap.size (fun _ => True) v0_ r1 ∧ Below w.heap.size w w' := by
 have hu78 := Try.underlying78
 have HR0 := a_ hr0
 have HC0 := a_ hc0
 clear hr0 hc0
 have HB := a_ (Below.refl w.heap.size w)
 have H : ((c_newTable.f k l0).bind fun bt188 => (if bt188.2.2.2.2.2.2.2.2.2.2.2.2 = true then ((c_table_isStandard.f k bt188.1 bt188.2.1 bt188.2.2.1 bt188.2.2.2.1 bt188.2.2.2.2.1 bt188.2.2.2.2.2.1 bt188.2.2.2.2.2.2.1 bt188.2.2.2.2.2.2.2.1 bt188.2.2.2.2.2.2.2.2.1 bt188.2.2.2.2.2.2.2.2.2.1 bt188.2.2.2.2.2.2.2.2.2.2.1 bt188.2.2.2.2.2.2.2.2.2.2.2.1).bind fun t202 => (c_Generators.j0 k (!t202) bt188.1 bt188.2.1 bt188.2.2.1 bt188.2.2.2.1 bt188.2.2.2.2.1 bt188.2.2.2.2.2.1 bt188.2.2.2.2.2.2.1 bt188.2.2.2.2.2.2.2.1 bt188.2.2.2.2.2.2.2.2.1 bt188.2.2.2.2.2.2.2.2.2.1 bt188.2.2.2.2.2.2.2.2.2.2.1 bt188.2.2.2.2.2.2.2.2.2.2.2.1)) else (c_Generators.j0 k true bt188.1 bt188.2.1 bt188.2.2.1 bt188.2.2.2.1 bt188.2.2.2.2.1 bt188.2.2.2.2.2.1 bt188.2.2.2.2.2.2.1 bt188.2.2.2.2.2.2.2.1 bt188.2.2.2.2.2.2.2.2.1 bt188.2.2.2.2.2.2.2.2.2.1 bt188.2.2.2.2.2.2.2.2.2.2.1 bt188.2.2.2.2.2.2.2.2.2.2.2.1))) = some (r1, r2) := h
 clear h
 replace H := Option.bind_eq_some_iff.mp H
 obtain ⟨⟨t188, t189, t190, t191, t192, t193, t194, t195, t196, t197, t198, t199, t200⟩, A20, H⟩ := H
 try dsimp only at H
 have A2 := a_ A20
 clear A20
 have HC3 := a_ H
 clear H
 go_enter Try.func17, Try.ntmps17
 go_upto_region 2 with (first | ((with_reducible refine gate_callee (f := 51) rfl ?_); refine goesL_ (some 15) rfl rfl Try.func51 (by kernel_rfl) rfl #[.slice A0 l0.length c0] rfl (by (try simp only [List.map_toArray, List.map_cons, List.map_nil]); first | done | rfl | (simp only [List.length_drop, List.length_take]; rfl)) ?_; (with_reducible refine (c_newTable.calls k _ _ l0 t188 t189 t190 t191 t192 t193 t194 t195 t196 t197 t198 t199 t200 _ ?side1 ?side2 A2.out).mono ?_); (case side1 => repeat (first | exact HR0.out | (with_reducible refine Kd.C_alloc ?_ _) | (with_reducible refine Kd.C_drewN ?_ _) | (with_reducible refine Kd.C_drew ?_))); (case side2 => exact HC0.out); rintro e w4 ⟨rfl, hb⟩; refine ⟨_, rfl, ?_⟩; replace HB := a_ (bT_ HB.out (tr hb)); (try clear hb); (try clear hb2); (try clear hk); (try clear hi)) | ((with_reducible refine gate_dst (N := 4) rfl ?_); refine box_event ?hg (N := 4) ?hd (cs := #[.int .i64 0, .int .i64 0, .int .i64 0, .int .i64 0, .int .i64 0, .int .i64 0, .int .i64 0, .int .i64 0, .int .i64 0, .int .i64 0, .int .i64 0, .int .i64 0]) (t := 78) ?hr ?_; (case hd => rfl); (case hg => rfl); (case hr => first | (go_simp; done) | (go_simp; rfl)); intro gb201 hg w5 hbox hb; have BK201 := a_ (hbox); have GW201 := a_ ((by rw [hg]; exact (bZ_ (gr HB.out)) : w.heap.size ≤ gb201)); have GE201 := GEc.mk ((by rw [hg]; exact (bZ_ (gr HB.out)) : w.heap.size ≤ gb201)); replace HB := a_ (bT_ HB.out (tr hb)); clear hb hbox hg; obtain ⟨hcz6_0, hcz6_1, hcz6_2, hcz6_3, hcz6_4, hcz6_5, hcz6_6, hcz6_7, hcz6_8, hcz6_9, hcz6_10, hcz6_11⟩ := cs12 BK201.out; have hfz6_0 := kf_ BK201.out 0; have hfz6_1 := kf_ BK201.out 1; have hfz6_2 := kf_ BK201.out 2; have hfz6_3 := kf_ BK201.out 3; have hfz6_4 := kf_ BK201.out 4; have hfz6_5 := kf_ BK201.out 5; have hfz6_6 := kf_ BK201.out 6; have hfz6_7 := kf_ BK201.out 7; have hfz6_8 := kf_ BK201.out 8; have hfz6_9 := kf_ BK201.out 9; have hfz6_10 := kf_ BK201.out 10; have hfz6_11 := kf_ BK201.out 11))
 (try simp only [Act.put, List.setIfInBounds_toArray, List.set_cons_zero, List.set_cons_succ])
 go_cut [24] (fun v24 wc => ∃ (kq : Nat) (x24_2 : Bool), v24 = .bool x24_2 ∧ Aside0 (c_Generators.j0 kq x24_2 t188 t189 t190 t191 t192 t193 t194 t195 t196 t197 t198 t199 = some (r1, r2)) ∧ Aside0 (kq ≤ k) ∧ Aside0 (wc.heap[gb201]? = some (.cells #[.int .i64 t188, .int .i64 t189, .int .i64 t190, .int .i64 t191, .int .i64 t192, .int .i64 t193, .int .i64 t194, .int .i64 t195, .int .i64 t196, .int .i64 t197, .int .i64 t198, .int .i64 t199] 78 (0, 0))) ∧ Aside0 (Below w.heap.size w wc))
 case first =>
  have H := HC3.out
  clear HC3
  by_cases c7 : t200 = true
  rotate_left
  ·replace c7 := Bool.eq_false_iff.mpr c7
   subst c7
   have H1 := H; rw [if_neg (show ¬ (false = true) by decide)] at H1
   clear H
   have H := H1
   clear H1
   have H' := a_ H
   clear H
   go_wp2
   go_meet
   case rel => exact ⟨_, (true), (by first | rfl | (simp; done) | (simp [*]; done)), H', ⟨by first | omega | exact Nat.le_refl _⟩, ⟨by exact pb BK201.out (by rfl)⟩, ⟨by exact gs HB.out⟩⟩
  subst c7
  have H1 := H; rw [if_pos rfl] at H1
  clear H
  have H := H1
  clear H1
  replace H := Option.bind_eq_some_iff.mp H
  obtain ⟨t202, A80, H⟩ := H
  try dsimp only at H
  have A8 := a_ A80
  clear A80
  have H' := a_ H
  clear H
  obtain ⟨hcz9_0, hcz9_1, hcz9_2, hcz9_3, hcz9_4, hcz9_5, hcz9_6, hcz9_7, hcz9_8, hcz9_9, hcz9_10, hcz9_11⟩ := cs12 BK201.out
  have hfz9_0 := kf_ BK201.out 0
  have hfz9_1 := kf_ BK201.out 1
  have hfz9_2 := kf_ BK201.out 2
  have hfz9_3 := kf_ BK201.out 3
  have hfz9_4 := kf_ BK201.out 4
  have hfz9_5 := kf_ BK201.out 5
  have hfz9_6 := kf_ BK201.out 6
  have hfz9_7 := kf_ BK201.out 7
  have hfz9_8 := kf_ BK201.out 8
  have hfz9_9 := kf_ BK201.out 9
  have hfz9_10 := kf_ BK201.out 10
  have hfz9_11 := kf_ BK201.out 11
  go_wp2_with (first | (go_at_call 52; (with_reducible refine (c_table_isStandard.calls k t188 t189 t190 t191 t192 t193 t194 t195 t196 t197 t198 t199 t202 _ A8.out).mono ?_); rintro e w10 ⟨rfl, hb⟩; replace BK201 := a_ (kB_ (g := gb201) (o := .cells #[.int .i64 t188, .int .i64 t189, .int .i64 t190, .int .i64 t191, .int .i64 t192, .int .i64 t193, .int .i64 t194, .int .i64 t195, .int .i64 t196, .int .i64 t197, .int .i64 t198, .int .i64 t199] 78 (0, 0)) (by exact pb BK201.out (by rfl)) hb); replace HB := a_ (bT_ (by exact gs HB.out) hb); (try clear hb); (try clear hb2); (try clear hk); (try clear hi)))
  go_meet
  case rel => exact ⟨_, (!t202), (by first | rfl | (simp; done) | (simp [*]; done)), H', ⟨by first | omega | exact Nat.le_refl _⟩, ⟨by exact bk BK201.out⟩, ⟨by exact gs HB.out⟩⟩
 case rest =>
  clear HC3
  try clear p2
  try clear c5
  try clear c7
  try clear c8
  try clear hcz6_0 hcz6_1 hcz6_10 hcz6_11 hcz6_2 hcz6_3 hcz6_4 hcz6_5 hcz6_6 hcz6_7 hcz6_8 hcz6_9
  try clear hcz9_0 hcz9_1 hcz9_10 hcz9_11 hcz9_2 hcz9_3 hcz9_4 hcz9_5 hcz9_6 hcz9_7 hcz9_8 hcz9_9
  try clear hfz6_0 hfz6_1 hfz6_10 hfz6_11 hfz6_2 hfz6_3 hfz6_4 hfz6_5 hfz6_6 hfz6_7 hfz6_8 hfz6_9
  try clear hfz9_0 hfz9_1 hfz9_10 hfz9_11 hfz9_2 hfz9_3 hfz9_4 hfz9_5 hfz9_6 hfz9_7 hfz9_8 hfz9_9
  obtain ⟨kq, x24_2, rfl, HA, HJ2, BK201, HB⟩ := hcut
  cases kq with
  | zero => exact absurd HA.out (by simp [c_Generators.j0])
  | succ kj2 =>
   have H := HA.out
   clear HA
   simp only [c_Generators.j0] at H
   by_cases c11 : x24_2 = true
   ·subst c11
    have H1 := H; rw [if_pos rfl] at H1
    clear H
    have H := H1
    clear H1
    simp only [Option.some.injEq, Prod.mk.injEq] at H
    obtain ⟨rfl, rfl⟩ := H
    go_wp2
    go_ret2
    exact ⟨_, by first | rfl | (simp [errW_none, errW_some] <;> rfl) | (simp [*, errW_none, errW_some] <;> rfl), by first | exact Kd.R_nil _ _ _ _ _ | exact Kd.N_nil _ _ _ _ _ | exact Kd.V_nil _ _ _ _ _ | exact Kd.Q_nil _ _ _ _ _ | exact Kd.S_nil _ _ _ _ _, by exact gs HB.out⟩
   replace c11 := Bool.eq_false_iff.mpr c11
   subst c11
   have H1 := H; rw [if_neg (show ¬ (false = true) by decide)] at H1
   clear H
   have H := H1
   clear H1
   replace H := Option.bind_eq_some_iff.mp H
   obtain ⟨⟨t203, t206⟩, A120, H⟩ := H
   try dsimp only at H
   have A12 := a_ A120
   clear A120
   have H' := a_ H
   clear H
   obtain ⟨hcz13_0, hcz13_1, hcz13_2, hcz13_3, hcz13_4, hcz13_5, hcz13_6, hcz13_7, hcz13_8, hcz13_9, hcz13_10, hcz13_11⟩ := cs12 BK201.out
   have hfz13_0 := kf_ BK201.out 0
   have hfz13_1 := kf_ BK201.out 1
   have hfz13_2 := kf_ BK201.out 2
   have hfz13_3 := kf_ BK201.out 3
   have hfz13_4 := kf_ BK201.out 4
   have hfz13_5 := kf_ BK201.out 5
   have hfz13_6 := kf_ BK201.out 6
   have hfz13_7 := kf_ BK201.out 7
   have hfz13_8 := kf_ BK201.out 8
   have hfz13_9 := kf_ BK201.out 9
   have hfz13_10 := kf_ BK201.out 10
   have hfz13_11 := kf_ BK201.out 11
   go_wp2_with (first | ((with_reducible refine gate_callee (f := 53) rfl ?_); refine goesL_ (some 27) rfl rfl Try.func53 (by kernel_rfl) rfl #[.agg #[.int .i64 t188, .int .i64 t189, .int .i64 t190, .int .i64 t191, .int .i64 t192, .int .i64 t193, .int .i64 t194, .int .i64 t195, .int .i64 t196, .int .i64 t197, .int .i64 t198, .int .i64 t199], .int .i64 0] rfl (by (try simp only [List.map_toArray, List.map_cons, List.map_nil]); first | done | rfl | (simp only [List.length_drop, List.length_take]; rfl)) ?_; (with_reducible refine (c_table_order.calls kj2 t188 t189 t190 t191 t192 t193 t194 t195 t196 t197 t198 t199 0 t203 t206 _ A12.out).mono ?_); rintro e w14 ⟨v204, v207, rfl, ho0, ho1, hb⟩; refine ⟨_, rfl, ?_⟩; have HO205 := a_ (Kd.R_lower ho0 (bZ_ (by exact gs HB.out))); have HO208 := a_ (Kd.R_lower ho1 (bZ_ (by exact gs HB.out))); replace BK201 := a_ (kB_ BK201.out (tr hb)); replace HB := a_ (bT_ (by exact gs HB.out) hb); (try clear hb); (try clear hb2); (try clear hk); (try clear hi); (try clear ho0); (try clear ho1); obtain ⟨Ao15, co15, eo15⟩ := Kd.R_slice HO208.out; subst eo15))
   go_loopg [8, 32] kj2 (fun kq v8 v32 w' => ∃ (x8_2 : List ByteArray) (x32_2 : Int), v32 = .int .i64 x32_2 ∧ Aside0 (c_Generators.l0 kq t206 x8_2 t206 (t206.length : Int) x32_2 t188 t189 t190 t191 t192 t193 t194 t195 t196 t197 t198 t199 = some (r1, r2)) ∧ Aside0 (kq ≤ kj2) ∧ Aside0 (Kd.R Kd.string 9 w' w.heap.size (fun k_ => some k_ ≠ (v8 : Value).ownBlock) (.slice Ao15 t206.length co15) t206) ∧ Aside0 (Kd.R Kd.string 9 w' w.heap.size (fun k_ => some k_ ≠ ((.slice Ao15 t206.length co15) : Value).ownBlock ∧ some k_ ≠ ((.slice Ao15 t206.length co15) : Value).ownBlock) v8 x8_2) ∧ Aside0 (Kd.R Kd.string 9 w' w.heap.size (fun k_ => some k_ ≠ (v8 : Value).ownBlock) (.slice Ao15 t206.length co15) t206) ∧ Aside0 (w'.heap[gb201]? = some (.cells #[.int .i64 t188, .int .i64 t189, .int .i64 t190, .int .i64 t191, .int .i64 t192, .int .i64 t193, .int .i64 t194, .int .i64 t195, .int .i64 t196, .int .i64 t197, .int .i64 t198, .int .i64 t199] 78 (0, 0))) ∧ Aside0 (Below w.heap.size w w'))
   case atStart => exact ⟨(([] : List ByteArray)), (0), (by first | rfl | (simp; done) | (simp [*]; done)), H', ⟨Nat.le_refl _⟩, ⟨by exact rk (Kd.R_mono HO208.out (fun _ hk => (by simp [Value.ownBlock])))⟩, ⟨by first | exact Kd.R_nil _ _ _ _ _ | exact Kd.N_nil _ _ _ _ _ | exact Kd.V_nil _ _ _ _ _ | exact Kd.Q_nil _ _ _ _ _ | exact Kd.S_nil _ _ _ _ _⟩, ⟨by exact rk (Kd.R_mono HO208.out (fun _ hk => (by simp [Value.ownBlock])))⟩, ⟨by exact bk BK201.out⟩, ⟨by exact gs HB.out⟩⟩
   clear H'
   try clear c1
   try clear p2
   try clear c5
   try clear c7
   try clear c8
   try clear c9
   try clear c11
   try clear hcz13_0 hcz13_1 hcz13_10 hcz13_11 hcz13_2 hcz13_3 hcz13_4 hcz13_5 hcz13_6 hcz13_7 hcz13_8 hcz13_9
   try clear hcz6_0 hcz6_1 hcz6_10 hcz6_11 hcz6_2 hcz6_3 hcz6_4 hcz6_5 hcz6_6 hcz6_7 hcz6_8 hcz6_9
   try clear hcz9_0 hcz9_1 hcz9_10 hcz9_11 hcz9_2 hcz9_3 hcz9_4 hcz9_5 hcz9_6 hcz9_7 hcz9_8 hcz9_9
   try clear hfz13_0 hfz13_1 hfz13_10 hfz13_11 hfz13_2 hfz13_3 hfz13_4 hfz13_5 hfz13_6 hfz13_7 hfz13_8 hfz13_9
   try clear hfz6_0 hfz6_1 hfz6_10 hfz6_11 hfz6_2 hfz6_3 hfz6_4 hfz6_5 hfz6_6 hfz6_7 hfz6_8 hfz6_9
   try clear hfz9_0 hfz9_1 hfz9_10 hfz9_11 hfz9_2 hfz9_3 hfz9_4 hfz9_5 hfz9_6 hfz9_7 hfz9_8 hfz9_9
   try clear p2
   obtain ⟨x8_2, x32_2, rfl, HA, HK2, HO_7, HO_8, HO_30, BK201, HB⟩ := hrel
   cases gk with
   | zero => exact absurd HA.out (by simp [c_Generators.l0])
   | succ k2 =>
    have H := HA.out
    clear HA
    simp only [c_Generators.l0] at H
    by_cases c16 : x32_2 < (t206.length : Int)
    rotate_left
    ·rw [if_neg c16] at H
     have c16b0 : decide (x32_2 < (t206.length : Int)) = false := decide_eq_false c16
     clear c16
     simp only [Option.some.injEq, Prod.mk.injEq] at H
     obtain ⟨rfl, rfl⟩ := H
     go_wp2
     go_ret2
     exact ⟨_, by first | rfl | (simp [errW_none, errW_some] <;> rfl) | (simp [*, errW_none, errW_some] <;> rfl), by exact rk (Kd.R_mono HO_8.out (fun _ hk => trivial)), by exact gs HB.out⟩
    rw [if_pos c16] at H
    have c16b0 : decide (x32_2 < (t206.length : Int)) = true := decide_eq_true c16
    clear c16
    by_cases c17 : 0 ≤ x32_2
    rotate_left
    ·rw [if_neg c17] at H
     exact absurd H (by simp)
    rw [if_pos c17] at H
    have c17b0 : decide (0 ≤ x32_2) = true := decide_eq_true c17
    clear c17
    by_cases c18 : x32_2 < (t206.length : Int)
    rotate_left
    ·rw [if_neg c18] at H
     exact absurd H (by simp)
    rw [if_pos c18] at H
    have c18b0 : decide (x32_2 < (t206.length : Int)) = true := decide_eq_true c18
    clear c18
    have H' := a_ H
    clear H
    have p209 : 0 ≤ (x32_2 : Int) := of_decide_eq_true (by first | (with_reducible assumption) | assumption)
    have q209 : x32_2 < (t206.length : Int) := of_decide_eq_true (by first | (with_reducible assumption) | assumption)
    obtain ⟨ad209, e209, hx209_0⟩ := Kd.at_string (Kd.R_reads' HO_30.out).2.2 x32_2 p209 q209
    cases e209
    replace p209 := eq_true p209
    replace q209 := eq_true q209
    obtain ⟨hcz19_0, hcz19_1, hcz19_2, hcz19_3, hcz19_4, hcz19_5, hcz19_6, hcz19_7, hcz19_8, hcz19_9, hcz19_10, hcz19_11⟩ := cs12 BK201.out
    have hfz19_0 := kf_ BK201.out 0
    have hfz19_1 := kf_ BK201.out 1
    have hfz19_2 := kf_ BK201.out 2
    have hfz19_3 := kf_ BK201.out 3
    have hfz19_4 := kf_ BK201.out 4
    have hfz19_5 := kf_ BK201.out 5
    have hfz19_6 := kf_ BK201.out 6
    have hfz19_7 := kf_ BK201.out 7
    have hfz19_8 := kf_ BK201.out 8
    have hfz19_9 := kf_ BK201.out 9
    have hfz19_10 := kf_ BK201.out 10
    have hfz19_11 := kf_ BK201.out 11
    go_wp2
    go_loopg [8, 39] k2 (fun kq v8 v39 w' => ∃ (x8_3 : List ByteArray) (x39_3 : Int), v39 = .int .i64 x39_3 ∧ Aside0 (c_Generators.l1 kq t206 x8_3 x32_2 (rdOf ByteArray.empty t206 x32_2) t206 (t206.length : Int) x32_2 t188 x39_3 t188 t189 t190 t191 t192 t193 t194 t195 t196 t197 t198 t199 = some (r1, r2)) ∧ Aside0 (kq ≤ k2) ∧ Aside0 (Kd.R Kd.string 9 w' w.heap.size (fun k_ => some k_ ≠ (v8 : Value).ownBlock) (.slice (some ad209) t206.length co15) t206) ∧ Aside0 (Kd.R Kd.string 9 w' w.heap.size (fun k_ => some k_ ≠ ((.slice (some ad209) t206.length co15) : Value).ownBlock ∧ some k_ ≠ ((.slice (some ad209) t206.length co15) : Value).ownBlock) v8 x8_3) ∧ Aside0 (Kd.R Kd.string 9 w' w.heap.size (fun k_ => some k_ ≠ (v8 : Value).ownBlock) (.slice (some ad209) t206.length co15) t206) ∧ Aside0 (w'.heap[gb201]? = some (.cells #[.int .i64 t188, .int .i64 t189, .int .i64 t190, .int .i64 t191, .int .i64 t192, .int .i64 t193, .int .i64 t194, .int .i64 t195, .int .i64 t196, .int .i64 t197, .int .i64 t198, .int .i64 t199] 78 (0, 0))) ∧ Aside0 (Below w.heap.size w w'))
    case atStart => exact ⟨(x8_2), (0), (by first | rfl | (simp; done) | (simp [*]; done)), H', ⟨Nat.le_refl _⟩, ⟨by exact rk HO_7.out⟩, ⟨by exact rk HO_8.out⟩, ⟨by exact rk HO_30.out⟩, ⟨by exact bk BK201.out⟩, ⟨by exact gs HB.out⟩⟩
    clear H'
    try clear c1
    try clear p2
    try clear q2
    try clear hx2
    try clear c5
    try clear c7
    try clear c8
    try clear c9
    try clear c11
    try clear c16
    try clear c16b0
    try clear c17
    try clear c17b0
    try clear c18
    try clear c18b0
    try clear hcz13_0 hcz13_1 hcz13_10 hcz13_11 hcz13_2 hcz13_3 hcz13_4 hcz13_5 hcz13_6 hcz13_7 hcz13_8 hcz13_9
    try clear hcz19_0 hcz19_1 hcz19_10 hcz19_11 hcz19_2 hcz19_3 hcz19_4 hcz19_5 hcz19_6 hcz19_7 hcz19_8 hcz19_9
    try clear hcz6_0 hcz6_1 hcz6_10 hcz6_11 hcz6_2 hcz6_3 hcz6_4 hcz6_5 hcz6_6 hcz6_7 hcz6_8 hcz6_9
    try clear hcz9_0 hcz9_1 hcz9_10 hcz9_11 hcz9_2 hcz9_3 hcz9_4 hcz9_5 hcz9_6 hcz9_7 hcz9_8 hcz9_9
    try clear hfz13_0 hfz13_1 hfz13_10 hfz13_11 hfz13_2 hfz13_3 hfz13_4 hfz13_5 hfz13_6 hfz13_7 hfz13_8 hfz13_9
    try clear hfz19_0 hfz19_1 hfz19_10 hfz19_11 hfz19_2 hfz19_3 hfz19_4 hfz19_5 hfz19_6 hfz19_7 hfz19_8 hfz19_9
    try clear hfz6_0 hfz6_1 hfz6_10 hfz6_11 hfz6_2 hfz6_3 hfz6_4 hfz6_5 hfz6_6 hfz6_7 hfz6_8 hfz6_9
    try clear hfz9_0 hfz9_1 hfz9_10 hfz9_11 hfz9_2 hfz9_3 hfz9_4 hfz9_5 hfz9_6 hfz9_7 hfz9_8 hfz9_9
    try clear hx209_0
    try clear p2
    try clear p209
    try clear q209
    obtain ⟨x8_3, x39_3, rfl, HA, HK3, HO_7, HO_8, HO_30, BK201, HB⟩ := hrel
    cases gk with
    | zero => exact absurd HA.out (by simp [c_Generators.l1])
    | succ k3 =>
     have H := HA.out
     clear HA
     simp only [c_Generators.l1] at H
     by_cases c20 : x39_3 < t188
     rotate_left
     ·rw [if_neg c20] at H
      have c20b0 : decide (x39_3 < t188) = false := decide_eq_false c20
      clear c20
      have H' := a_ H
      clear H
      go_wp2
      go_roundg k3
      case measure => have := HJ2.out; have := HK2.out; have := HK3.out; omega
      case rel => exact ⟨(x8_3), (wrap64 (x32_2 + 1)), (by first | rfl | (simp; done) | (simp [*]; done)), H', ⟨by have := HJ2.out; have := HK2.out; have := HK3.out; omega⟩, ⟨by exact rk HO_7.out⟩, ⟨by exact rk HO_8.out⟩, ⟨by exact rk HO_30.out⟩, ⟨by exact bk BK201.out⟩, ⟨by exact gs HB.out⟩⟩
     rw [if_pos c20] at H
     have c20b0 : decide (x39_3 < t188) = true := decide_eq_true c20
     clear c20
     obtain ⟨ji21, hji21⟩ : ∃ j_ : Int, (wrap64 (2 * x39_3)) = j_ := ⟨_, rfl⟩
     replace H : (if 0 ≤ (ji21) then (if (ji21) ≤ (wrap64 ((ji21) + 1)) then (if (wrap64 ((ji21) + 1)) ≤ 4 then ((colAtF t188 t189 t190 t191 t192 t193 t194 t195 t196 t197 t198 t199 x39_3 x32_2).bind fun t210 => (if 0 ≤ t210 then (if t210 < (t206.length : Int) then ((c_turned.f (rdOf ByteArray.empty t206 t210)).bind fun t212 => ((c_joined.f k3 (([(rdOf ByteArray.empty t206 x32_2), (⟨#[97, 65, 98, 66]⟩ : ByteArray).extract ((ji21) : Int).toNat ((wrap64 ((ji21) + 1)) : Int).toNat, t212] : List ByteArray))).bind fun t216 => (if t216.toList = ([] : List UInt8) then (c_Generators.l1 k3 t206 x8_3 x32_2 (rdOf ByteArray.empty t206 x32_2) t206 (t206.length : Int) x32_2 t188 (wrap64 (x39_3 + 1)) t188 t189 t190 t191 t192 t193 t194 t195 t196 t197 t198 t199) else (if x8_3.length < 8796093022208 then (c_Generators.l1 k3 t206 (x8_3 ++ [t216]) x32_2 (rdOf ByteArray.empty t206 x32_2) t206 (t206.length : Int) x32_2 t188 (wrap64 (x39_3 + 1)) t188 t189 t190 t191 t192 t193 t194 t195 t196 t197 t198 t199) else (none))))) else (none)) else (none))) else (none)) else (none)) else (none)) = some (r1, r2) := by first | (rw [hji21] at H; exact H) | (simp only [hji21] at H ⊢; exact H)
     have hji21w : (IntKind.i64.wrap (2 * x39_3)) = ji21 := (i64_w _).trans hji21
     by_cases c22 : 0 ≤ (ji21)
     rotate_left
     ·rw [if_neg c22] at H
      exact absurd H (by simp)
     rw [if_pos c22] at H
     have c22b0 := eq_true c22
     have c22b1 : decide (0 ≤ (ji21)) = true := decide_eq_true c22
     clear c22
     by_cases c23 : (ji21) ≤ (wrap64 ((ji21) + 1))
     rotate_left
     ·rw [if_neg c23] at H
      exact absurd H (by simp)
     rw [if_pos c23] at H
     have c23b0 := eq_true c23
     have c23b1 : decide ((ji21) ≤ (wrap64 ((ji21) + 1))) = true := decide_eq_true c23
     by_cases c24 : (wrap64 ((ji21) + 1)) ≤ 4
     rotate_left
     ·rw [if_neg c24] at H
      exact absurd H (by simp)
     rw [if_pos c24] at H
     have c24b0 := eq_true c24
     have c24b1 : decide ((wrap64 ((ji21) + 1)) ≤ 4) = true := decide_eq_true c24
     replace H := Option.bind_eq_some_iff.mp H
     obtain ⟨t210, A250, H⟩ := H
     try dsimp only at H
     have A25 := a_ A250
     clear A250
     by_cases c26 : 0 ≤ t210
     rotate_left
     ·rw [if_neg c26] at H
      exact absurd H (by simp)
     rw [if_pos c26] at H
     have c26b0 : decide (0 ≤ t210) = true := decide_eq_true c26
     clear c26
     by_cases c27 : t210 < (t206.length : Int)
     rotate_left
     ·rw [if_neg c27] at H
      exact absurd H (by simp)
     rw [if_pos c27] at H
     have c27b0 : decide (t210 < (t206.length : Int)) = true := decide_eq_true c27
     clear c27
     replace H := Option.bind_eq_some_iff.mp H
     obtain ⟨t212, A280, H⟩ := H
     try dsimp only at H
     have A28 := a_ A280
     clear A280
     obtain ⟨y213, hy213⟩ : ∃ y_ : List ByteArray, y_ = (([(rdOf ByteArray.empty t206 x32_2), (⟨#[97, 65, 98, 66]⟩ : ByteArray).extract ((ji21) : Int).toNat ((wrap64 ((ji21) + 1)) : Int).toNat, t212] : List ByteArray)) := ⟨_, rfl⟩
     replace H : ((c_joined.f k3 y213).bind fun t216 => (if t216.toList = ([] : List UInt8) then (c_Generators.l1 k3 t206 x8_3 x32_2 (rdOf ByteArray.empty t206 x32_2) t206 (t206.length : Int) x32_2 t188 (wrap64 (x39_3 + 1)) t188 t189 t190 t191 t192 t193 t194 t195 t196 t197 t198 t199) else (if x8_3.length < 8796093022208 then (c_Generators.l1 k3 t206 (x8_3 ++ [t216]) x32_2 (rdOf ByteArray.empty t206 x32_2) t206 (t206.length : Int) x32_2 t188 (wrap64 (x39_3 + 1)) t188 t189 t190 t191 t192 t193 t194 t195 t196 t197 t198 t199) else (none)))) = some (r1, r2) := by first | (rw [hy213]; with_reducible exact H) | (have H2_ := (Option.bind_some _ _).symm.trans H; rw [hy213]; with_reducible exact H2_) | (have H2_ := (Option.bind_some _ _).symm.trans H; with_reducible exact H2_) | with_reducible exact H | (rw [hy213]; exact H) | exact H
     have Ny213 := a_ hy213
     clear hy213
     replace H := Option.bind_eq_some_iff.mp H
     obtain ⟨t216, A290, H⟩ := H
     try dsimp only at H
     have A29 := a_ A290
     clear A290
     by_cases c30 : t216.toList = ([] : List UInt8)
     ·rw [if_pos c30] at H
      have c30b0 : (t216.toList == ([] : List UInt8)) = true := beq_iff_eq.mpr c30
      have c30b1 : (t216.toList != ([] : List UInt8)) = false := bne_eq_false_iff_eq.mpr c30
      clear c30
      have H' := a_ H
      clear H
      try go_wp2
      replace HO_7 := a_ (Kd.R_drew HO_7.out)
      replace HO_8 := a_ (Kd.R_drew HO_8.out)
      replace HO_30 := a_ (Kd.R_drew HO_30.out)
      replace BK201 := a_ (kD_ BK201.out)
      replace HB := a_ (b1_ HB.out)
      have p211 : 0 ≤ (t210 : Int) := of_decide_eq_true (by first | (with_reducible assumption) | assumption)
      have q211 : t210 < (t206.length : Int) := of_decide_eq_true (by first | (with_reducible assumption) | assumption)
      obtain ⟨ad211, e211, hx211_0⟩ := Kd.at_string (Kd.R_reads' HO_7.out).2.2 t210 p211 q211
      obtain rfl : ad209 = ad211 := (by injection e211)
      replace p211 := eq_true p211
      replace q211 := eq_true q211
      refine start_ (n := 20) (S := fun w' => w'.cell? ⟨gb201, 0, none⟩ = some (.int .i64 t188) ∧ w'.cell? ⟨gb201, 1, none⟩ = some (.int .i64 t189) ∧ w'.cell? ⟨gb201, 2, none⟩ = some (.int .i64 t190) ∧ w'.cell? ⟨gb201, 3, none⟩ = some (.int .i64 t191) ∧ w'.cell? ⟨gb201, 4, none⟩ = some (.int .i64 t192) ∧ w'.cell? ⟨gb201, 5, none⟩ = some (.int .i64 t193) ∧ w'.cell? ⟨gb201, 6, none⟩ = some (.int .i64 t194) ∧ w'.cell? ⟨gb201, 7, none⟩ = some (.int .i64 t195) ∧ w'.cell? ⟨gb201, 8, none⟩ = some (.int .i64 t196) ∧ w'.cell? ⟨gb201, 9, none⟩ = some (.int .i64 t197) ∧ w'.cell? ⟨gb201, 10, none⟩ = some (.int .i64 t198) ∧ w'.cell? ⟨gb201, 11, none⟩ = some (.int .i64 t199) ∧ w'.cell? (ad209.add (t210).toNat) = some (.string (rdOf ByteArray.empty t206 t210))) (ds := []) #[false, false, false, false, false, false, false, false, false, false, false, false, false, false, false, false, false, false, false, false] (by kernel_rfl) rfl rfl ⟨(kc_ BK201.out 0).trans rfl, (kc_ BK201.out 1).trans rfl, (kc_ BK201.out 2).trans rfl, (kc_ BK201.out 3).trans rfl, (kc_ BK201.out 4).trans rfl, (kc_ BK201.out 5).trans rfl, (kc_ BK201.out 6).trans rfl, (kc_ BK201.out 7).trans rfl, (kc_ BK201.out 8).trans rfl, (kc_ BK201.out 9).trans rfl, (kc_ BK201.out 10).trans rfl, (kc_ BK201.out 11).trans rfl, hx211_0⟩ (fun hHeld => ?_)
      generalize wr.drew = w31 at HO_7 HO_8 HO_30 BK201 HB hx211_0 hHeld ⊢
      refine pure_ (i := 0) (N := some 42) (v := ?_) (a' := ?_) #[true, false, false, false, false, false, false, false, false, false, false, false, false, false, false, false, false, false, false, false] rfl rfl (by kernel_rfl) (fun _ _ _ h => h) (Or.inl ⟨by rfl, ?_⟩) ?_ ?_
      rotate_left
      ·intro w'
       go_simp
       with_reducible rfl
      rotate_left
      ·simp only [Act.put, List.setIfInBounds_toArray, List.set_cons_zero, List.set_cons_succ, i64_w, i32_w]
       rfl
      refine pure_ (i := 1) (N := some 43) (v := ?_) (a' := ?_) #[true, true, false, false, false, false, false, false, false, false, false, false, false, false, false, false, false, false, false, false] rfl rfl (by kernel_rfl) (fun _ _ _ h => h) (Or.inl ⟨by rfl, ?_⟩) ?_ ?_
      rotate_left
      ·intro w'
       go_simp
       with_reducible rfl
      rotate_left
      ·simp only [Act.put, List.setIfInBounds_toArray, List.set_cons_zero, List.set_cons_succ, i64_w, i32_w]
       rfl
      refine pure_ (i := 2) (N := some 44) (v := ?_) (a' := ?_) #[true, true, true, false, false, false, false, false, false, false, false, false, false, false, false, false, false, false, false, false] rfl rfl (by kernel_rfl) (fun _ _ _ h => h) (Or.inl ⟨by rfl, ?_⟩) ?_ ?_
      rotate_left
      ·intro w'
       go_simp
       with_reducible rfl
      rotate_left
      ·simp only [Act.put, List.setIfInBounds_toArray, List.set_cons_zero, List.set_cons_succ, i64_w, i32_w]
       rfl
      refine pure_ (i := 3) (N := some 45) (v := ?_) (a' := ?_) #[true, true, true, true, false, false, false, false, false, false, false, false, false, false, false, false, false, false, false, false] rfl rfl (by kernel_rfl) (fun _ _ _ h => h) (Or.inl ⟨by rfl, ?_⟩) ?_ ?_
      rotate_left
      ·intro w'
       go_simp
       with_reducible rfl
      rotate_left
      ·simp only [Act.put, List.setIfInBounds_toArray, List.set_cons_zero, List.set_cons_succ, i64_w, i32_w]
       rfl
      refine pure_ (i := 4) (N := some 46) (v := ?_) (a' := ?_) #[true, true, true, true, true, false, false, false, false, false, false, false, false, false, false, false, false, false, false, false] rfl rfl (by kernel_rfl) (fun _ _ _ h => h) (Or.inl ⟨by rfl, ?_⟩) ?_ ?_
      rotate_left
      ·intro w'
       go_simp
       with_reducible rfl
      rotate_left
      ·simp only [Act.put, List.setIfInBounds_toArray, List.set_cons_zero, List.set_cons_succ, i64_w, i32_w]
       rfl
      refine pure_ (i := 5) (N := some 47) (v := ?_) (a' := ?_) #[true, true, true, true, true, true, false, false, false, false, false, false, false, false, false, false, false, false, false, false] rfl rfl (by kernel_rfl) (fun _ _ _ h => h) (Or.inl ⟨by rfl, ?_⟩) ?_ ?_
      rotate_left
      ·intro w'
       go_simp
       with_reducible rfl
      rotate_left
      ·simp only [Act.put, List.setIfInBounds_toArray, List.set_cons_zero, List.set_cons_succ, i64_w, i32_w]
       rfl
      refine pure_ (i := 6) (N := some 48) (v := ?_) (a' := ?_) #[true, true, true, true, true, true, true, false, false, false, false, false, false, false, false, false, false, false, false, false] rfl rfl (by kernel_rfl) (fun _ _ _ h => h) (Or.inl ⟨by rfl, ?_⟩) ?_ ?_
      rotate_left
      ·intro w'
       go_simp
       with_reducible rfl
      rotate_left
      ·simp only [Act.put, List.setIfInBounds_toArray, List.set_cons_zero, List.set_cons_succ, i64_w, i32_w]
       rfl
      refine pure_ (i := 7) (N := some 49) (v := ?_) (a' := ?_) #[true, true, true, true, true, true, true, true, false, false, false, false, false, false, false, false, false, false, false, false] rfl rfl (by kernel_rfl) (fun _ _ _ h => h) (Or.inl ⟨by rfl, ?_⟩) ?_ ?_
      rotate_left
      ·intro w'
       go_simp
       with_reducible rfl
      rotate_left
      ·simp only [Act.put, List.setIfInBounds_toArray, List.set_cons_zero, List.set_cons_succ, i64_w, i32_w]
       rfl
      refine pure_ (i := 8) (N := some 50) (v := ?_) (a' := ?_) #[true, true, true, true, true, true, true, true, true, false, false, false, false, false, false, false, false, false, false, false] rfl rfl (by kernel_rfl) (fun _ _ _ h => h) (Or.inl ⟨by rfl, ?_⟩) ?_ ?_
      rotate_left
      ·intro w'
       go_simp
       with_reducible rfl
      rotate_left
      ·simp only [Act.put, List.setIfInBounds_toArray, List.set_cons_zero, List.set_cons_succ, i64_w, i32_w]
       rfl
      refine pure_ (i := 9) (N := some 51) (v := ?_) (a' := ?_) #[true, true, true, true, true, true, true, true, true, true, false, false, false, false, false, false, false, false, false, false] rfl rfl (by kernel_rfl) (fun _ _ _ h => h) (Or.inl ⟨by rfl, ?_⟩) ?_ ?_
      rotate_left
      ·intro w'
       go_simp
       with_reducible rfl
      rotate_left
      ·simp only [Act.put, List.setIfInBounds_toArray, List.set_cons_zero, List.set_cons_succ, i64_w, i32_w]
       rfl
      have hkb := (colAt_in A25.out).1.1
      have hkc := (colAt_in A25.out).1.2
      have hib := (colAt_in A25.out).2.1
      have hic := (colAt_in A25.out).2.2
      refine pure_ (i := 10) (N := (some 52)) (v := ?_) (a' := ?_) #[true, true, true, true, true, true, true, true, true, true, true, false, false, false, false, false, false, false, false, false] rfl rfl (by kernel_rfl) (fun _ _ _ h => h) (Or.inl ⟨by rfl, ?_⟩) ?_ ?_
      rotate_left
      ·intro w'
       first | (go_simp; with_reducible rfl) | rfl | (go_simp; done)
      rotate_left
      ·first | (simp only [Act.put, List.setIfInBounds_toArray, List.set_cons_zero, List.set_cons_succ, i64_w, i32_w]; rfl) | rfl
      refine pure_ (i := 11) (N := (some 53)) (v := ?_) (a' := ?_) #[true, true, true, true, true, true, true, true, true, true, true, true, false, false, false, false, false, false, false, false] rfl rfl (by kernel_rfl) (fun _ _ _ h => h) (Or.inl ⟨by rfl, ?_⟩) ?_ ?_
      rotate_left
      ·intro w'
       first | (go_simp; with_reducible rfl) | rfl | (go_simp; done)
      rotate_left
      ·first | (simp only [Act.put, List.setIfInBounds_toArray, List.set_cons_zero, List.set_cons_succ, i64_w, i32_w]; rfl) | rfl
      refine pure_ (i := 12) (N := (some 54)) (v := ?_) (a' := ?_) #[true, true, true, true, true, true, true, true, true, true, true, true, true, false, false, false, false, false, false, false] rfl rfl (by kernel_rfl) (fun _ _ _ h => h) (Or.inl ⟨by rfl, ?_⟩) ?_ ?_
      rotate_left
      ·intro w'
       first | (go_simp; with_reducible rfl) | rfl | (go_simp; done)
      rotate_left
      ·first | (simp only [Act.put, List.setIfInBounds_toArray, List.set_cons_zero, List.set_cons_succ, i64_w, i32_w]; rfl) | rfl
      refine take_ (i := 13) (N := (some 55)) (v := ?_) (a' := ?_) #[true, true, true, true, true, true, true, true, true, true, true, true, true, true, false, false, false, false, false, false] rfl rfl (by kernel_rfl) (fun _ _ _ h => h) (Or.inl ⟨by rfl, ?_⟩) hHeld ?_ ?_
      rotate_left
      ·rintro w' ⟨s0, s1, s2, s3, s4, s5, s6, s7, s8, s9, s10, s11, s12⟩
       have hcc := colAt_cell A25.out s2 s3 s4 s5 s6 s7 s8 s9 s10 s11
       first | (go_simp; with_reducible rfl) | rfl | (go_simp; done)
      rotate_left
      ·first | (simp only [Act.put, List.setIfInBounds_toArray, List.set_cons_zero, List.set_cons_succ, i64_w, i32_w]; rfl) | rfl
      clear hkb hkc hib hic
      refine pure_ (i := 14) (N := some 56) (v := ?_) (a' := ?_) #[true, true, true, true, true, true, true, true, true, true, true, true, true, true, true, false, false, false, false, false] rfl rfl (by kernel_rfl) (fun _ _ _ h => h) (Or.inl ⟨by rfl, ?_⟩) ?_ ?_
      rotate_left
      ·intro w'
       go_simp
       with_reducible rfl
      rotate_left
      ·simp only [Act.put, List.setIfInBounds_toArray, List.set_cons_zero, List.set_cons_succ, i64_w, i32_w]
       rfl
      refine take_ (i := 15) (N := some 57) (v := ?_) (a' := ?_) #[true, true, true, true, true, true, true, true, true, true, true, true, true, true, true, true, false, false, false, false] rfl rfl (by kernel_rfl) (fun _ _ _ h => h) (Or.inl ⟨by rfl, ?_⟩) hHeld ?_ ?_
      rotate_left
      ·rintro w' ⟨s0, s1, s2, s3, s4, s5, s6, s7, s8, s9, s10, s11, s12⟩
       go_simp
       with_reducible rfl
      rotate_left
      ·simp only [Act.put, List.setIfInBounds_toArray, List.set_cons_zero, List.set_cons_succ, i64_w, i32_w]
       rfl
      refine one_ (i := 16) (N := some 58) #[true, true, true, true, true, true, true, true, true, true, true, true, true, true, true, true, true, false, false, false] rfl rfl (by kernel_rfl) (by decide) (fun K hK => ?_)
      refine goes_ Try.func55 (by kernel_rfl) rfl #[.string (rdOf ByteArray.empty t206 t210)] (by rfl) rfl rfl (by (try simp only [List.map_toArray, List.map_cons, List.map_nil]); first | done | rfl | (simp only [List.length_drop, List.length_take]; rfl)) ?_
      with_reducible refine (c_turned.calls (rdOf ByteArray.empty t206 t210) t212 _ A28.out).mono ?_
      rintro e w33 ⟨rfl, hb⟩
      have HS12_ := (hb.cell (World.block_lt_of_cell? _ _ (hHeld.2.2.2.2.2.2.2.2.2.2.2.2))).trans (hHeld.2.2.2.2.2.2.2.2.2.2.2.2)
      refine ⟨_, rfl, ?_⟩
      replace HO_7 := a_ (Kd.R_below HO_7.out (tr hb))
      replace HO_8 := a_ (Kd.R_below HO_8.out (tr hb))
      replace HO_30 := a_ (Kd.R_below HO_30.out (tr hb))
      replace BK201 := a_ (kB_ BK201.out (tr hb))
      replace HB := a_ (bT_ (by exact gs HB.out) hb)
      (try clear hb)
      (try clear hb2)
      (try clear hk)
      (try clear hi)
      refine hK.out _ _ ⟨(kc_ BK201.out 0).trans rfl, (kc_ BK201.out 1).trans rfl, (kc_ BK201.out 2).trans rfl, (kc_ BK201.out 3).trans rfl, (kc_ BK201.out 4).trans rfl, (kc_ BK201.out 5).trans rfl, (kc_ BK201.out 6).trans rfl, (kc_ BK201.out 7).trans rfl, (kc_ BK201.out 8).trans rfl, (kc_ BK201.out 9).trans rfl, (kc_ BK201.out 10).trans rfl, (kc_ BK201.out 11).trans rfl, HS12_⟩ (fun hHeld => ?_)
      clear hK K
      refine norm_ (a' := ?_) ?_ ?_
      rotate_left
      ·show Act.put _ (some 58) _ = _
       simp only [Act.put, List.setIfInBounds_toArray, List.set_cons_zero, List.set_cons_succ, i64_w, i32_w]
       rfl
      refine one_ (i := 17) (N := some 59) #[true, true, true, true, true, true, true, true, true, true, true, true, true, true, true, true, true, true, false, false] rfl rfl (by kernel_rfl) (by decide) (fun K hK => ?_)
      refine Kd.R_lit_step Kd.string _ 9 ?hg (N := 59) ?hd (xs := ([(rdOf ByteArray.empty t206 x32_2), (⟨#[97, 65, 98, 66]⟩ : ByteArray).extract ((ji21) : Int).toNat ((wrap64 ((ji21) + 1)) : Int).toNat, t212] : List ByteArray)) (inner := [.string (rdOf ByteArray.empty t206 x32_2), .string ((⟨#[97, 65, 98, 66]⟩ : ByteArray).extract ((ji21) : Int).toNat ((wrap64 ((ji21) + 1)) : Int).toNat), .string t212]) (ok := fun _ => True) (okp := fun _ => True) ?hr ?hp (fun _ hk => hk) trivial (Below.refl _ _) (Nat.le_refl _) (by simp) ?_; (case hd => rfl); (case hg => rfl); (case hr => first | (go_simp; done) | (go_simp; rfl)); (case hp => exact (Reps.one (show Kd.M Kd.string _ _ _ (rdOf ByteArray.empty t206 x32_2) [.string (rdOf ByteArray.empty t206 x32_2)] from rfl) (Reps.one (show Kd.M Kd.string _ _ _ ((⟨#[97, 65, 98, 66]⟩ : ByteArray).extract ((ji21) : Int).toNat ((wrap64 ((ji21) + 1)) : Int).toNat) [.string ((⟨#[97, 65, 98, 66]⟩ : ByteArray).extract ((ji21) : Int).toNat ((wrap64 ((ji21) + 1)) : Int).toNat)] from rfl) (Reps.one (show Kd.M Kd.string _ _ _ t212 [.string t212] from rfl) (Reps.none _ _)))))
      intro v214 w34 ho35 hb hg_ hnew_
      have HS12_ := (hb.cell (World.block_lt_of_cell? _ _ (hHeld.2.2.2.2.2.2.2.2.2.2.2.2))).trans (hHeld.2.2.2.2.2.2.2.2.2.2.2.2)
      clear hg_ hnew_
      (first | rw [← Ny213.out] at ho35 | (simp only [Int.reduceToNat] at ho35; rw [← Ny213.out] at ho35))
      have HO215 := a_ (Kd.R_lower (Kd.R_new' (Kd.R_new' (Kd.R_new' ho35 (Kd.R_lt (by exact rk HO_7.out))) (Kd.R_lt (by exact rk HO_8.out))) (Kd.R_lt (by exact rk HO_30.out))) (bZ_ (by exact gs HB.out)))
      replace HO_7 := a_ (Kd.R_elder' (by exact rk HO_7.out) (Kd.R_base ho35) hb)
      replace HO_8 := a_ (Kd.R_elder' (by exact rk HO_8.out) (Kd.R_base ho35) hb)
      replace HO_30 := a_ (Kd.R_elder' (by exact rk HO_30.out) (Kd.R_base ho35) hb)
      replace BK201 := a_ (kB_ BK201.out (tr hb))
      replace HB := a_ (bT_ (by exact gs HB.out) hb)
      clear hb ho35
      obtain ⟨Ao36, co36, eo36⟩ := Kd.R_slice HO215.out
      (first | subst eo36 | (injection eo36 with f1_ f2_ f3_; have f4_ := f1_.symm; have f5_ := f3_.symm; clear f1_ f2_ f3_; subst f4_; subst f5_))
      refine hK.out _ _ ⟨(kc_ BK201.out 0).trans rfl, (kc_ BK201.out 1).trans rfl, (kc_ BK201.out 2).trans rfl, (kc_ BK201.out 3).trans rfl, (kc_ BK201.out 4).trans rfl, (kc_ BK201.out 5).trans rfl, (kc_ BK201.out 6).trans rfl, (kc_ BK201.out 7).trans rfl, (kc_ BK201.out 8).trans rfl, (kc_ BK201.out 9).trans rfl, (kc_ BK201.out 10).trans rfl, (kc_ BK201.out 11).trans rfl, HS12_⟩ (fun hHeld => ?_)
      clear hK K
      refine norm_ (a' := ?_) ?_ ?_
      rotate_left
      ·show Act.put _ (some 59) _ = _
       simp only [Act.put, List.setIfInBounds_toArray, List.set_cons_zero, List.set_cons_succ, i64_w, i32_w]
       rfl
      refine one_ (i := 18) (N := some 60) #[true, true, true, true, true, true, true, true, true, true, true, true, true, true, true, true, true, true, true, false] rfl rfl (by kernel_rfl) (by decide) (fun K hK => ?_)
      refine goes_ Try.func54 (by kernel_rfl) rfl #[.slice Ao36 y213.length co36] (by rfl) rfl rfl (by (try simp only [List.map_toArray, List.map_cons, List.map_nil]); first | done | rfl | (simp only [List.length_drop, List.length_take]; rfl)) ?_
      with_reducible refine (c_joined.calls k3 _ _ y213 t216 _ ?side1 ?side2 A29.out).mono ?_
      (case side1 => repeat (first | exact (Kd.R_reads' HO215.out).2.2 | (with_reducible refine Kd.C_alloc ?_ _) | (with_reducible refine Kd.C_drewN ?_ _) | (with_reducible refine Kd.C_drew ?_)))
      (case side2 => exact (Kd.R_reads' HO215.out).2.1)
      rintro e w37 ⟨rfl, hb⟩
      have HS12_ := (hb.cell (World.block_lt_of_cell? _ _ (hHeld.2.2.2.2.2.2.2.2.2.2.2.2))).trans (hHeld.2.2.2.2.2.2.2.2.2.2.2.2)
      refine ⟨_, rfl, ?_⟩
      replace HO_7 := a_ (Kd.R_below HO_7.out (tr hb))
      replace HO_8 := a_ (Kd.R_below HO_8.out (tr hb))
      replace HO_30 := a_ (Kd.R_below HO_30.out (tr hb))
      replace HO215 := a_ (Kd.R_below HO215.out (tr hb))
      replace BK201 := a_ (kB_ BK201.out (tr hb))
      replace HB := a_ (bT_ (by exact gs HB.out) hb)
      (try clear hb)
      (try clear hb2)
      (try clear hk)
      (try clear hi)
      refine hK.out _ _ ⟨(kc_ BK201.out 0).trans rfl, (kc_ BK201.out 1).trans rfl, (kc_ BK201.out 2).trans rfl, (kc_ BK201.out 3).trans rfl, (kc_ BK201.out 4).trans rfl, (kc_ BK201.out 5).trans rfl, (kc_ BK201.out 6).trans rfl, (kc_ BK201.out 7).trans rfl, (kc_ BK201.out 8).trans rfl, (kc_ BK201.out 9).trans rfl, (kc_ BK201.out 10).trans rfl, (kc_ BK201.out 11).trans rfl, HS12_⟩ (fun hHeld => ?_)
      clear hK K
      refine norm_ (a' := ?_) ?_ ?_
      rotate_left
      ·show Act.put _ (some 60) _ = _
       simp only [Act.put, List.setIfInBounds_toArray, List.set_cons_zero, List.set_cons_succ, i64_w, i32_w]
       rfl
      refine pure_ (i := 19) (N := some 12) (v := ?_) (a' := ?_) #[true, true, true, true, true, true, true, true, true, true, true, true, true, true, true, true, true, true, true, true] rfl rfl (by kernel_rfl) (fun _ _ _ h => h) (Or.inl ⟨by rfl, ?_⟩) ?_ ?_
      rotate_left
      ·intro w'
       go_simp
       with_reducible rfl
      rotate_left
      ·simp only [Act.put, List.setIfInBounds_toArray, List.set_cons_zero, List.set_cons_succ, i64_w, i32_w]
       rfl
      refine done_ (by kernel_rfl) ?_
      try go_wp2
      go_roundg k3
      case measure => have := HJ2.out; have := HK2.out; have := HK3.out; omega
      case rel => exact ⟨(x8_3), (wrap64 (x39_3 + 1)), (by first | rfl | (simp; done) | (simp [*]; done)), H', ⟨by have := HJ2.out; have := HK2.out; have := HK3.out; omega⟩, ⟨by exact rk (Kd.R_mono HO_7.out (fun _ hk => hk.1))⟩, ⟨by exact rk (Kd.R_mono HO_8.out (fun _ hk => ⟨hk.1.1, hk.1.2⟩))⟩, ⟨by exact rk (Kd.R_mono HO_30.out (fun _ hk => hk.1))⟩, ⟨by exact bk BK201.out⟩, ⟨by exact gs HB.out⟩⟩
     rw [if_neg c30] at H
     have c30b0 : (t216.toList == ([] : List UInt8)) = false := beq_eq_false_iff_ne.mpr c30
     have c30b1 : (t216.toList != ([] : List UInt8)) = true := bne_iff_ne.mpr c30
     by_cases c38 : x8_3.length < 8796093022208
     rotate_left
     ·rw [if_neg c38] at H
      exact absurd H (by simp)
     rw [if_pos c38] at H
     have LMc38 := a_ c38
     clear c38
     obtain ⟨y217, hy217⟩ : ∃ y_ : List ByteArray, y_ = (x8_3 ++ [t216]) := ⟨_, rfl⟩
     replace H : (c_Generators.l1 k3 t206 y217 x32_2 (rdOf ByteArray.empty t206 x32_2) t206 (t206.length : Int) x32_2 t188 (wrap64 (x39_3 + 1)) t188 t189 t190 t191 t192 t193 t194 t195 t196 t197 t198 t199) = some (r1, r2) := by first | (rw [hy217]; with_reducible exact H) | (have H2_ := (Option.bind_some _ _).symm.trans H; rw [hy217]; with_reducible exact H2_) | (have H2_ := (Option.bind_some _ _).symm.trans H; with_reducible exact H2_) | with_reducible exact H | (rw [hy217]; exact H) | exact H
     have Ny217 := a_ hy217
     clear hy217
     have H' := a_ H
     clear H
     try go_wp2
     replace HO_7 := a_ (Kd.R_drew HO_7.out)
     replace HO_8 := a_ (Kd.R_drew HO_8.out)
     replace HO_30 := a_ (Kd.R_drew HO_30.out)
     replace BK201 := a_ (kD_ BK201.out)
     replace HB := a_ (b1_ HB.out)
     have p211 : 0 ≤ (t210 : Int) := of_decide_eq_true (by first | (with_reducible assumption) | assumption)
     have q211 : t210 < (t206.length : Int) := of_decide_eq_true (by first | (with_reducible assumption) | assumption)
     obtain ⟨ad211, e211, hx211_0⟩ := Kd.at_string (Kd.R_reads' HO_7.out).2.2 t210 p211 q211
     obtain rfl : ad209 = ad211 := (by injection e211)
     replace p211 := eq_true p211
     replace q211 := eq_true q211
     refine start_ (n := 20) (S := fun w' => w'.cell? ⟨gb201, 0, none⟩ = some (.int .i64 t188) ∧ w'.cell? ⟨gb201, 1, none⟩ = some (.int .i64 t189) ∧ w'.cell? ⟨gb201, 2, none⟩ = some (.int .i64 t190) ∧ w'.cell? ⟨gb201, 3, none⟩ = some (.int .i64 t191) ∧ w'.cell? ⟨gb201, 4, none⟩ = some (.int .i64 t192) ∧ w'.cell? ⟨gb201, 5, none⟩ = some (.int .i64 t193) ∧ w'.cell? ⟨gb201, 6, none⟩ = some (.int .i64 t194) ∧ w'.cell? ⟨gb201, 7, none⟩ = some (.int .i64 t195) ∧ w'.cell? ⟨gb201, 8, none⟩ = some (.int .i64 t196) ∧ w'.cell? ⟨gb201, 9, none⟩ = some (.int .i64 t197) ∧ w'.cell? ⟨gb201, 10, none⟩ = some (.int .i64 t198) ∧ w'.cell? ⟨gb201, 11, none⟩ = some (.int .i64 t199) ∧ w'.cell? (ad209.add (t210).toNat) = some (.string (rdOf ByteArray.empty t206 t210))) (ds := []) #[false, false, false, false, false, false, false, false, false, false, false, false, false, false, false, false, false, false, false, false] (by kernel_rfl) rfl rfl ⟨(kc_ BK201.out 0).trans rfl, (kc_ BK201.out 1).trans rfl, (kc_ BK201.out 2).trans rfl, (kc_ BK201.out 3).trans rfl, (kc_ BK201.out 4).trans rfl, (kc_ BK201.out 5).trans rfl, (kc_ BK201.out 6).trans rfl, (kc_ BK201.out 7).trans rfl, (kc_ BK201.out 8).trans rfl, (kc_ BK201.out 9).trans rfl, (kc_ BK201.out 10).trans rfl, (kc_ BK201.out 11).trans rfl, hx211_0⟩ (fun hHeld => ?_)
     generalize wr.drew = w39 at HO_7 HO_8 HO_30 BK201 HB hx211_0 hHeld ⊢
     refine pure_ (i := 0) (N := some 42) (v := ?_) (a' := ?_) #[true, false, false, false, false, false, false, false, false, false, false, false, false, false, false, false, false, false, false, false] rfl rfl (by kernel_rfl) (fun _ _ _ h => h) (Or.inl ⟨by rfl, ?_⟩) ?_ ?_
     rotate_left
     ·intro w'
      go_simp
      with_reducible rfl
     rotate_left
     ·simp only [Act.put, List.setIfInBounds_toArray, List.set_cons_zero, List.set_cons_succ, i64_w, i32_w]
      rfl
     refine pure_ (i := 1) (N := some 43) (v := ?_) (a' := ?_) #[true, true, false, false, false, false, false, false, false, false, false, false, false, false, false, false, false, false, false, false] rfl rfl (by kernel_rfl) (fun _ _ _ h => h) (Or.inl ⟨by rfl, ?_⟩) ?_ ?_
     rotate_left
     ·intro w'
      go_simp
      with_reducible rfl
     rotate_left
     ·simp only [Act.put, List.setIfInBounds_toArray, List.set_cons_zero, List.set_cons_succ, i64_w, i32_w]
      rfl
     refine pure_ (i := 2) (N := some 44) (v := ?_) (a' := ?_) #[true, true, true, false, false, false, false, false, false, false, false, false, false, false, false, false, false, false, false, false] rfl rfl (by kernel_rfl) (fun _ _ _ h => h) (Or.inl ⟨by rfl, ?_⟩) ?_ ?_
     rotate_left
     ·intro w'
      go_simp
      with_reducible rfl
     rotate_left
     ·simp only [Act.put, List.setIfInBounds_toArray, List.set_cons_zero, List.set_cons_succ, i64_w, i32_w]
      rfl
     refine pure_ (i := 3) (N := some 45) (v := ?_) (a' := ?_) #[true, true, true, true, false, false, false, false, false, false, false, false, false, false, false, false, false, false, false, false] rfl rfl (by kernel_rfl) (fun _ _ _ h => h) (Or.inl ⟨by rfl, ?_⟩) ?_ ?_
     rotate_left
     ·intro w'
      go_simp
      with_reducible rfl
     rotate_left
     ·simp only [Act.put, List.setIfInBounds_toArray, List.set_cons_zero, List.set_cons_succ, i64_w, i32_w]
      rfl
     refine pure_ (i := 4) (N := some 46) (v := ?_) (a' := ?_) #[true, true, true, true, true, false, false, false, false, false, false, false, false, false, false, false, false, false, false, false] rfl rfl (by kernel_rfl) (fun _ _ _ h => h) (Or.inl ⟨by rfl, ?_⟩) ?_ ?_
     rotate_left
     ·intro w'
      go_simp
      with_reducible rfl
     rotate_left
     ·simp only [Act.put, List.setIfInBounds_toArray, List.set_cons_zero, List.set_cons_succ, i64_w, i32_w]
      rfl
     refine pure_ (i := 5) (N := some 47) (v := ?_) (a' := ?_) #[true, true, true, true, true, true, false, false, false, false, false, false, false, false, false, false, false, false, false, false] rfl rfl (by kernel_rfl) (fun _ _ _ h => h) (Or.inl ⟨by rfl, ?_⟩) ?_ ?_
     rotate_left
     ·intro w'
      go_simp
      with_reducible rfl
     rotate_left
     ·simp only [Act.put, List.setIfInBounds_toArray, List.set_cons_zero, List.set_cons_succ, i64_w, i32_w]
      rfl
     refine pure_ (i := 6) (N := some 48) (v := ?_) (a' := ?_) #[true, true, true, true, true, true, true, false, false, false, false, false, false, false, false, false, false, false, false, false] rfl rfl (by kernel_rfl) (fun _ _ _ h => h) (Or.inl ⟨by rfl, ?_⟩) ?_ ?_
     rotate_left
     ·intro w'
      go_simp
      with_reducible rfl
     rotate_left
     ·simp only [Act.put, List.setIfInBounds_toArray, List.set_cons_zero, List.set_cons_succ, i64_w, i32_w]
      rfl
     refine pure_ (i := 7) (N := some 49) (v := ?_) (a' := ?_) #[true, true, true, true, true, true, true, true, false, false, false, false, false, false, false, false, false, false, false, false] rfl rfl (by kernel_rfl) (fun _ _ _ h => h) (Or.inl ⟨by rfl, ?_⟩) ?_ ?_
     rotate_left
     ·intro w'
      go_simp
      with_reducible rfl
     rotate_left
     ·simp only [Act.put, List.setIfInBounds_toArray, List.set_cons_zero, List.set_cons_succ, i64_w, i32_w]
      rfl
     refine pure_ (i := 8) (N := some 50) (v := ?_) (a' := ?_) #[true, true, true, true, true, true, true, true, true, false, false, false, false, false, false, false, false, false, false, false] rfl rfl (by kernel_rfl) (fun _ _ _ h => h) (Or.inl ⟨by rfl, ?_⟩) ?_ ?_
     rotate_left
     ·intro w'
      go_simp
      with_reducible rfl
     rotate_left
     ·simp only [Act.put, List.setIfInBounds_toArray, List.set_cons_zero, List.set_cons_succ, i64_w, i32_w]
      rfl
     refine pure_ (i := 9) (N := some 51) (v := ?_) (a' := ?_) #[true, true, true, true, true, true, true, true, true, true, false, false, false, false, false, false, false, false, false, false] rfl rfl (by kernel_rfl) (fun _ _ _ h => h) (Or.inl ⟨by rfl, ?_⟩) ?_ ?_
     rotate_left
     ·intro w'
      go_simp
      with_reducible rfl
     rotate_left
     ·simp only [Act.put, List.setIfInBounds_toArray, List.set_cons_zero, List.set_cons_succ, i64_w, i32_w]
      rfl
     have hkb := (colAt_in A25.out).1.1
     have hkc := (colAt_in A25.out).1.2
     have hib := (colAt_in A25.out).2.1
     have hic := (colAt_in A25.out).2.2
     refine pure_ (i := 10) (N := (some 52)) (v := ?_) (a' := ?_) #[true, true, true, true, true, true, true, true, true, true, true, false, false, false, false, false, false, false, false, false] rfl rfl (by kernel_rfl) (fun _ _ _ h => h) (Or.inl ⟨by rfl, ?_⟩) ?_ ?_
     rotate_left
     ·intro w'
      first | (go_simp; with_reducible rfl) | rfl | (go_simp; done)
     rotate_left
     ·first | (simp only [Act.put, List.setIfInBounds_toArray, List.set_cons_zero, List.set_cons_succ, i64_w, i32_w]; rfl) | rfl
     refine pure_ (i := 11) (N := (some 53)) (v := ?_) (a' := ?_) #[true, true, true, true, true, true, true, true, true, true, true, true, false, false, false, false, false, false, false, false] rfl rfl (by kernel_rfl) (fun _ _ _ h => h) (Or.inl ⟨by rfl, ?_⟩) ?_ ?_
     rotate_left
     ·intro w'
      first | (go_simp; with_reducible rfl) | rfl | (go_simp; done)
     rotate_left
     ·first | (simp only [Act.put, List.setIfInBounds_toArray, List.set_cons_zero, List.set_cons_succ, i64_w, i32_w]; rfl) | rfl
     refine pure_ (i := 12) (N := (some 54)) (v := ?_) (a' := ?_) #[true, true, true, true, true, true, true, true, true, true, true, true, true, false, false, false, false, false, false, false] rfl rfl (by kernel_rfl) (fun _ _ _ h => h) (Or.inl ⟨by rfl, ?_⟩) ?_ ?_
     rotate_left
     ·intro w'
      first | (go_simp; with_reducible rfl) | rfl | (go_simp; done)
     rotate_left
     ·first | (simp only [Act.put, List.setIfInBounds_toArray, List.set_cons_zero, List.set_cons_succ, i64_w, i32_w]; rfl) | rfl
     refine take_ (i := 13) (N := (some 55)) (v := ?_) (a' := ?_) #[true, true, true, true, true, true, true, true, true, true, true, true, true, true, false, false, false, false, false, false] rfl rfl (by kernel_rfl) (fun _ _ _ h => h) (Or.inl ⟨by rfl, ?_⟩) hHeld ?_ ?_
     rotate_left
     ·rintro w' ⟨s0, s1, s2, s3, s4, s5, s6, s7, s8, s9, s10, s11, s12⟩
      have hcc := colAt_cell A25.out s2 s3 s4 s5 s6 s7 s8 s9 s10 s11
      first | (go_simp; with_reducible rfl) | rfl | (go_simp; done)
     rotate_left
     ·first | (simp only [Act.put, List.setIfInBounds_toArray, List.set_cons_zero, List.set_cons_succ, i64_w, i32_w]; rfl) | rfl
     clear hkb hkc hib hic
     refine pure_ (i := 14) (N := some 56) (v := ?_) (a' := ?_) #[true, true, true, true, true, true, true, true, true, true, true, true, true, true, true, false, false, false, false, false] rfl rfl (by kernel_rfl) (fun _ _ _ h => h) (Or.inl ⟨by rfl, ?_⟩) ?_ ?_
     rotate_left
     ·intro w'
      go_simp
      with_reducible rfl
     rotate_left
     ·simp only [Act.put, List.setIfInBounds_toArray, List.set_cons_zero, List.set_cons_succ, i64_w, i32_w]
      rfl
     refine take_ (i := 15) (N := some 57) (v := ?_) (a' := ?_) #[true, true, true, true, true, true, true, true, true, true, true, true, true, true, true, true, false, false, false, false] rfl rfl (by kernel_rfl) (fun _ _ _ h => h) (Or.inl ⟨by rfl, ?_⟩) hHeld ?_ ?_
     rotate_left
     ·rintro w' ⟨s0, s1, s2, s3, s4, s5, s6, s7, s8, s9, s10, s11, s12⟩
      go_simp
      with_reducible rfl
     rotate_left
     ·simp only [Act.put, List.setIfInBounds_toArray, List.set_cons_zero, List.set_cons_succ, i64_w, i32_w]
      rfl
     refine one_ (i := 16) (N := some 58) #[true, true, true, true, true, true, true, true, true, true, true, true, true, true, true, true, true, false, false, false] rfl rfl (by kernel_rfl) (by decide) (fun K hK => ?_)
     refine goes_ Try.func55 (by kernel_rfl) rfl #[.string (rdOf ByteArray.empty t206 t210)] (by rfl) rfl rfl (by (try simp only [List.map_toArray, List.map_cons, List.map_nil]); first | done | rfl | (simp only [List.length_drop, List.length_take]; rfl)) ?_
     with_reducible refine (c_turned.calls (rdOf ByteArray.empty t206 t210) t212 _ A28.out).mono ?_
     rintro e w41 ⟨rfl, hb⟩
     have HS12_ := (hb.cell (World.block_lt_of_cell? _ _ (hHeld.2.2.2.2.2.2.2.2.2.2.2.2))).trans (hHeld.2.2.2.2.2.2.2.2.2.2.2.2)
     refine ⟨_, rfl, ?_⟩
     replace HO_7 := a_ (Kd.R_below HO_7.out (tr hb))
     replace HO_8 := a_ (Kd.R_below HO_8.out (tr hb))
     replace HO_30 := a_ (Kd.R_below HO_30.out (tr hb))
     replace BK201 := a_ (kB_ BK201.out (tr hb))
     replace HB := a_ (bT_ (by exact gs HB.out) hb)
     (try clear hb)
     (try clear hb2)
     (try clear hk)
     (try clear hi)
     refine hK.out _ _ ⟨(kc_ BK201.out 0).trans rfl, (kc_ BK201.out 1).trans rfl, (kc_ BK201.out 2).trans rfl, (kc_ BK201.out 3).trans rfl, (kc_ BK201.out 4).trans rfl, (kc_ BK201.out 5).trans rfl, (kc_ BK201.out 6).trans rfl, (kc_ BK201.out 7).trans rfl, (kc_ BK201.out 8).trans rfl, (kc_ BK201.out 9).trans rfl, (kc_ BK201.out 10).trans rfl, (kc_ BK201.out 11).trans rfl, HS12_⟩ (fun hHeld => ?_)
     clear hK K
     refine norm_ (a' := ?_) ?_ ?_
     rotate_left
     ·show Act.put _ (some 58) _ = _
      simp only [Act.put, List.setIfInBounds_toArray, List.set_cons_zero, List.set_cons_succ, i64_w, i32_w]
      rfl
     refine one_ (i := 17) (N := some 59) #[true, true, true, true, true, true, true, true, true, true, true, true, true, true, true, true, true, true, false, false] rfl rfl (by kernel_rfl) (by decide) (fun K hK => ?_)
     refine Kd.R_lit_step Kd.string _ 9 ?hg (N := 59) ?hd (xs := ([(rdOf ByteArray.empty t206 x32_2), (⟨#[97, 65, 98, 66]⟩ : ByteArray).extract ((ji21) : Int).toNat ((wrap64 ((ji21) + 1)) : Int).toNat, t212] : List ByteArray)) (inner := [.string (rdOf ByteArray.empty t206 x32_2), .string ((⟨#[97, 65, 98, 66]⟩ : ByteArray).extract ((ji21) : Int).toNat ((wrap64 ((ji21) + 1)) : Int).toNat), .string t212]) (ok := fun _ => True) (okp := fun _ => True) ?hr ?hp (fun _ hk => hk) trivial (Below.refl _ _) (Nat.le_refl _) (by simp) ?_; (case hd => rfl); (case hg => rfl); (case hr => first | (go_simp; done) | (go_simp; rfl)); (case hp => exact (Reps.one (show Kd.M Kd.string _ _ _ (rdOf ByteArray.empty t206 x32_2) [.string (rdOf ByteArray.empty t206 x32_2)] from rfl) (Reps.one (show Kd.M Kd.string _ _ _ ((⟨#[97, 65, 98, 66]⟩ : ByteArray).extract ((ji21) : Int).toNat ((wrap64 ((ji21) + 1)) : Int).toNat) [.string ((⟨#[97, 65, 98, 66]⟩ : ByteArray).extract ((ji21) : Int).toNat ((wrap64 ((ji21) + 1)) : Int).toNat)] from rfl) (Reps.one (show Kd.M Kd.string _ _ _ t212 [.string t212] from rfl) (Reps.none _ _)))))
     intro v214 w42 ho43 hb hg_ hnew_
     have HS12_ := (hb.cell (World.block_lt_of_cell? _ _ (hHeld.2.2.2.2.2.2.2.2.2.2.2.2))).trans (hHeld.2.2.2.2.2.2.2.2.2.2.2.2)
     clear hg_ hnew_
     (first | rw [← Ny213.out] at ho43 | (simp only [Int.reduceToNat] at ho43; rw [← Ny213.out] at ho43))
     have HO215 := a_ (Kd.R_lower (Kd.R_new' (Kd.R_new' (Kd.R_new' ho43 (Kd.R_lt (by exact rk HO_7.out))) (Kd.R_lt (by exact rk HO_8.out))) (Kd.R_lt (by exact rk HO_30.out))) (bZ_ (by exact gs HB.out)))
     replace HO_7 := a_ (Kd.R_elder' (by exact rk HO_7.out) (Kd.R_base ho43) hb)
     replace HO_8 := a_ (Kd.R_elder' (by exact rk HO_8.out) (Kd.R_base ho43) hb)
     replace HO_30 := a_ (Kd.R_elder' (by exact rk HO_30.out) (Kd.R_base ho43) hb)
     replace BK201 := a_ (kB_ BK201.out (tr hb))
     replace HB := a_ (bT_ (by exact gs HB.out) hb)
     clear hb ho43
     obtain ⟨Ao44, co44, eo44⟩ := Kd.R_slice HO215.out
     (first | subst eo44 | (injection eo44 with f1_ f2_ f3_; have f4_ := f1_.symm; have f5_ := f3_.symm; clear f1_ f2_ f3_; subst f4_; subst f5_))
     refine hK.out _ _ ⟨(kc_ BK201.out 0).trans rfl, (kc_ BK201.out 1).trans rfl, (kc_ BK201.out 2).trans rfl, (kc_ BK201.out 3).trans rfl, (kc_ BK201.out 4).trans rfl, (kc_ BK201.out 5).trans rfl, (kc_ BK201.out 6).trans rfl, (kc_ BK201.out 7).trans rfl, (kc_ BK201.out 8).trans rfl, (kc_ BK201.out 9).trans rfl, (kc_ BK201.out 10).trans rfl, (kc_ BK201.out 11).trans rfl, HS12_⟩ (fun hHeld => ?_)
     clear hK K
     refine norm_ (a' := ?_) ?_ ?_
     rotate_left
     ·show Act.put _ (some 59) _ = _
      simp only [Act.put, List.setIfInBounds_toArray, List.set_cons_zero, List.set_cons_succ, i64_w, i32_w]
      rfl
     refine one_ (i := 18) (N := some 60) #[true, true, true, true, true, true, true, true, true, true, true, true, true, true, true, true, true, true, true, false] rfl rfl (by kernel_rfl) (by decide) (fun K hK => ?_)
     refine goes_ Try.func54 (by kernel_rfl) rfl #[.slice Ao44 y213.length co44] (by rfl) rfl rfl (by (try simp only [List.map_toArray, List.map_cons, List.map_nil]); first | done | rfl | (simp only [List.length_drop, List.length_take]; rfl)) ?_
     with_reducible refine (c_joined.calls k3 _ _ y213 t216 _ ?side1 ?side2 A29.out).mono ?_
     (case side1 => repeat (first | exact (Kd.R_reads' HO215.out).2.2 | (with_reducible refine Kd.C_alloc ?_ _) | (with_reducible refine Kd.C_drewN ?_ _) | (with_reducible refine Kd.C_drew ?_)))
     (case side2 => exact (Kd.R_reads' HO215.out).2.1)
     rintro e w45 ⟨rfl, hb⟩
     have HS12_ := (hb.cell (World.block_lt_of_cell? _ _ (hHeld.2.2.2.2.2.2.2.2.2.2.2.2))).trans (hHeld.2.2.2.2.2.2.2.2.2.2.2.2)
     refine ⟨_, rfl, ?_⟩
     replace HO_7 := a_ (Kd.R_below HO_7.out (tr hb))
     replace HO_8 := a_ (Kd.R_below HO_8.out (tr hb))
     replace HO_30 := a_ (Kd.R_below HO_30.out (tr hb))
     replace HO215 := a_ (Kd.R_below HO215.out (tr hb))
     replace BK201 := a_ (kB_ BK201.out (tr hb))
     replace HB := a_ (bT_ (by exact gs HB.out) hb)
     (try clear hb)
     (try clear hb2)
     (try clear hk)
     (try clear hi)
     refine hK.out _ _ ⟨(kc_ BK201.out 0).trans rfl, (kc_ BK201.out 1).trans rfl, (kc_ BK201.out 2).trans rfl, (kc_ BK201.out 3).trans rfl, (kc_ BK201.out 4).trans rfl, (kc_ BK201.out 5).trans rfl, (kc_ BK201.out 6).trans rfl, (kc_ BK201.out 7).trans rfl, (kc_ BK201.out 8).trans rfl, (kc_ BK201.out 9).trans rfl, (kc_ BK201.out 10).trans rfl, (kc_ BK201.out 11).trans rfl, HS12_⟩ (fun hHeld => ?_)
     clear hK K
     refine norm_ (a' := ?_) ?_ ?_
     rotate_left
     ·show Act.put _ (some 60) _ = _
      simp only [Act.put, List.setIfInBounds_toArray, List.set_cons_zero, List.set_cons_succ, i64_w, i32_w]
      rfl
     refine pure_ (i := 19) (N := some 12) (v := ?_) (a' := ?_) #[true, true, true, true, true, true, true, true, true, true, true, true, true, true, true, true, true, true, true, true] rfl rfl (by kernel_rfl) (fun _ _ _ h => h) (Or.inl ⟨by rfl, ?_⟩) ?_ ?_
     rotate_left
     ·intro w'
      go_simp
      with_reducible rfl
     rotate_left
     ·simp only [Act.put, List.setIfInBounds_toArray, List.set_cons_zero, List.set_cons_succ, i64_w, i32_w]
      rfl
     refine done_ (by kernel_rfl) ?_
     try go_wp2_with (first | ((with_reducible refine gate_builtin (b := .append) (xs := #[.tmp 63, .tmp 65]) rfl ?_); at_builtin; refine Kd.R_append Kd.string (w0 := w) w.heap.size rfl (.tmp 63) (.tmp 65) 26 9 (.string ⟨#[]⟩) 16 rfl Try.underlying26 info9 rfl (by decide) (by omega) u8 x8_3 t216 [.string t216] (fun k_ => some k_ ≠ (.slice (some ad209) t206.length co15 : Value).ownBlock ∧ some k_ ≠ (.slice (some ad209) t206.length co15 : Value).ownBlock ∧ some k_ ≠ (.slice Ao44 y213.length co44 : Value).ownBlock) (fun _ => False) rfl rfl ?aP (fun _ hk => hk.elim) ?aF ?aO ?aB ?aS ?aL ?_; (case aP => exact rfl); (case aB => exact (by exact gs HB.out)); (case aF => exact (fun k_ hk => ⟨Kd.fresh' (Kd.R_lt (by exact rk HO_7.out)) k_ hk, Kd.fresh' (Kd.R_lt (by exact rk HO_30.out)) k_ hk, Kd.fresh' (Kd.R_lt (by exact rk HO215.out)) k_ hk⟩)); (case aO => exact (by exact rk (Kd.R_mono HO_8.out (fun _ hk => ⟨hk.1.1, ⟨hk.1.2, hk.2⟩⟩)))); (case aS => exact (bZ_ (by exact gs HB.out))); (case aL => have := LMc38.out; omega); intro v218 w46 ho hb hg hat; rw [← Ny217.out] at ho; have HO219 := a_ (ho); replace HO_7 := a_ (Kd.R_after (ok := (fun k_ => some k_ ≠ (.slice Ao44 y213.length co44 : Value).ownBlock)) (by exact rk (Kd.R_mono HO_7.out (fun _ hk => ⟨hk.2, hk.1⟩))) hg hat); replace HO_30 := a_ (Kd.R_after (ok := (fun k_ => some k_ ≠ (.slice Ao44 y213.length co44 : Value).ownBlock)) (by exact rk (Kd.R_mono HO_30.out (fun _ hk => ⟨hk.2, hk.1⟩))) hg hat); replace BK201 := a_ (blk_grown (g := gb201) (o := .cells #[.int .i64 t188, .int .i64 t189, .int .i64 t190, .int .i64 t191, .int .i64 t192, .int .i64 t193, .int .i64 t194, .int .i64 t195, .int .i64 t196, .int .i64 t197, .int .i64 t198, .int .i64 t199] 78 (0, 0)) (by exact bk BK201.out) hg (Kd.R_ne HO_8.out BK201.out (by decide))); replace HO215 := a_ (Kd.R_after (ok := (fun k_ => some k_ ≠ (.slice (some ad209) t206.length co15 : Value).ownBlock ∧ some k_ ≠ (.slice (some ad209) t206.length co15 : Value).ownBlock)) (by exact rk (Kd.R_mono HO215.out (fun _ hk => ⟨⟨hk.1.1.2, hk.2⟩, hk.1.2⟩))) hg hat); replace HB := a_ (hb); clear HO_8; clear ho hb hg hat))
     go_roundg k3
     case measure => have := HJ2.out; have := HK2.out; have := HK3.out; omega
     case rel => exact ⟨(y217), (wrap64 (x39_3 + 1)), (by first | rfl | (simp; done) | (simp [*]; done)), H', ⟨by have := HJ2.out; have := HK2.out; have := HK3.out; omega⟩, ⟨by exact rk (Kd.R_mono HO_7.out (fun _ hk => hk.2))⟩, ⟨by exact rk (Kd.R_mono HO219.out (fun _ hk => ⟨hk.1, hk.2.1⟩))⟩, ⟨by exact rk (Kd.R_mono HO_30.out (fun _ hk => hk.2))⟩, ⟨by exact bk BK201.out⟩, ⟨by exact gs HB.out⟩⟩
end Go.Proofs.Ytifkldehbaphgaa.PAll
end
section
namespace Go.Proofs.Ytifkldehbaphgaa.PAll
open Go.RowKit Go.PW.PrintWords Go.PW.PrintLast Go.PW.PrintMore
attribute [local go_sem] max2_int max_two
def awakeK.f (k : Nat)  : Option (Bool) := (some (([(⟨#[97, 97]⟩ : ByteArray), (⟨#[98, 98]⟩ : ByteArray), (⟨#[97, 98, 97, 98]⟩ : ByteArray)] : List ByteArray) : List ByteArray)).bind fun y190 => ((c_Tables.f k 2 y190 2).bind fun bt194 => ((c_Count.f k 2 y190 4).bind fun bt198 => ((c_Generators.f k (([(([1, 0] : List Int)), (([0, 1] : List Int))] : List (List Int)))).bind fun bt209 => ((c_Factors.f k 2 (([(⟨#[97, 97, 97, 97]⟩ : ByteArray), (⟨#[97, 97, 98, 98]⟩ : ByteArray)] : List ByteArray))).bind fun bt216 => (if bt194.2 = 0 then (if (bt194.1.length : Int) = 3 then (if 0 < (bt194.1.length : Int) then ((rr_Same.f k (rd_L7 bt194.1 0) (([(([0, 1] : List Int)), (([1, 0] : List Int))] : List (List Int)))).bind fun t231 => (if t231 = true then (if bt198.2 = 0 then (if bt198.1 = 1 then (if bt209.2 = 0 then ((rl_texts.f k bt209.1 (([(⟨#[98]⟩ : ByteArray), (⟨#[97, 97]⟩ : ByteArray), (⟨#[97, 98, 65]⟩ : ByteArray)] : List ByteArray))).bind fun t235 => (if t235 = true then (if bt216.2.2 = 0 then ((rl_ints.f k bt216.1 (([2, 4] : List Int))).bind fun t239 => (if t239 = true then (if bt216.2.1 = 0 then (some true) else (some false)) else (some false))) else (some false)) else (some false))) else (some false)) else (some false)) else (some false)) else (some false))) else (none)) else (some false)) else (some false))))))
theorem awakeK.calls (k : Nat) (w : World) (h : awakeK.f k = some true) :
  Calls Try.prog 22 #[] w fun e w' => e = .returned (.bool true) ∧ Below w.heap.size w w' := by
 have hu55 := Try.underlying55
 have HB := a_ (Below.refl w.heap.size w)
 have H : ((some (([(⟨#[97, 97]⟩ : ByteArray), (⟨#[98, 98]⟩ : ByteArray), (⟨#[97, 98, 97, 98]⟩ : ByteArray)] : List ByteArray) : List ByteArray)).bind fun y190 => ((c_Tables.f k 2 y190 2).bind fun bt194 => ((c_Count.f k 2 y190 4).bind fun bt198 => ((c_Generators.f k (([(([1, 0] : List Int)), (([0, 1] : List Int))] : List (List Int)))).bind fun bt209 => ((c_Factors.f k 2 (([(⟨#[97, 97, 97, 97]⟩ : ByteArray), (⟨#[97, 97, 98, 98]⟩ : ByteArray)] : List ByteArray))).bind fun bt216 => (if bt194.2 = 0 then (if (bt194.1.length : Int) = 3 then (if 0 < (bt194.1.length : Int) then ((rr_Same.f k (rd_L7 bt194.1 0) (([(([0, 1] : List Int)), (([1, 0] : List Int))] : List (List Int)))).bind fun t231 => (if t231 = true then (if bt198.2 = 0 then (if bt198.1 = 1 then (if bt209.2 = 0 then ((rl_texts.f k bt209.1 (([(⟨#[98]⟩ : ByteArray), (⟨#[97, 97]⟩ : ByteArray), (⟨#[97, 98, 65]⟩ : ByteArray)] : List ByteArray))).bind fun t235 => (if t235 = true then (if bt216.2.2 = 0 then ((rl_ints.f k bt216.1 (([2, 4] : List Int))).bind fun t239 => (if t239 = true then (if bt216.2.1 = 0 then (some true) else (some false)) else (some false))) else (some false)) else (some false))) else (some false)) else (some false)) else (some false)) else (some false))) else (none)) else (some false)) else (some false))))))) = some true := h
 clear h
 obtain ⟨y190, hy190⟩ : ∃ y_ : List ByteArray, y_ = (([(⟨#[97, 97]⟩ : ByteArray), (⟨#[98, 98]⟩ : ByteArray), (⟨#[97, 98, 97, 98]⟩ : ByteArray)] : List ByteArray)) := ⟨_, rfl⟩
 replace H : ((c_Tables.f k 2 y190 2).bind fun bt194 => ((c_Count.f k 2 y190 4).bind fun bt198 => ((c_Generators.f k (([(([1, 0] : List Int)), (([0, 1] : List Int))] : List (List Int)))).bind fun bt209 => ((c_Factors.f k 2 (([(⟨#[97, 97, 97, 97]⟩ : ByteArray), (⟨#[97, 97, 98, 98]⟩ : ByteArray)] : List ByteArray))).bind fun bt216 => (if bt194.2 = 0 then (if (bt194.1.length : Int) = 3 then (if 0 < (bt194.1.length : Int) then ((rr_Same.f k (rd_L7 bt194.1 0) (([(([0, 1] : List Int)), (([1, 0] : List Int))] : List (List Int)))).bind fun t231 => (if t231 = true then (if bt198.2 = 0 then (if bt198.1 = 1 then (if bt209.2 = 0 then ((rl_texts.f k bt209.1 (([(⟨#[98]⟩ : ByteArray), (⟨#[97, 97]⟩ : ByteArray), (⟨#[97, 98, 65]⟩ : ByteArray)] : List ByteArray))).bind fun t235 => (if t235 = true then (if bt216.2.2 = 0 then ((rl_ints.f k bt216.1 (([2, 4] : List Int))).bind fun t239 => (if t239 = true then (if bt216.2.1 = 0 then (some true) else (some false)) else (some false))) else (some false)) else (some false))) else (some false)) else (some false)) else (some false)) else (some false))) else (none)) else (some false)) else (some false)))))) = some true := by first | (rw [hy190]; with_reducible exact H) | (have H2_ := (Option.bind_some _ _).symm.trans H; rw [hy190]; with_reducible exact H2_) | (have H2_ := (Option.bind_some _ _).symm.trans H; with_reducible exact H2_) | with_reducible exact H | (rw [hy190]; exact H) | exact H
 have Ny190 := a_ hy190
 clear hy190
 replace H := Option.bind_eq_some_iff.mp H
 obtain ⟨⟨t194, t197⟩, A10, H⟩ := H
 try dsimp only at H
 have A1 := a_ A10
 clear A10
 replace H := Option.bind_eq_some_iff.mp H
 obtain ⟨⟨t198, t199⟩, A20, H⟩ := H
 try dsimp only at H
 have A2 := a_ A20
 clear A20
 obtain ⟨y200, hy200⟩ : ∃ y_ : List Int, y_ = (([1, 0] : List Int)) := ⟨_, rfl⟩
 replace H : ((c_Generators.f k (([y200, (([0, 1] : List Int))] : List (List Int)))).bind fun bt209 => ((c_Factors.f k 2 (([(⟨#[97, 97, 97, 97]⟩ : ByteArray), (⟨#[97, 97, 98, 98]⟩ : ByteArray)] : List ByteArray))).bind fun bt216 => (if t197 = 0 then (if (t194.length : Int) = 3 then (if 0 < (t194.length : Int) then ((rr_Same.f k (rd_L7 t194 0) (([(([0, 1] : List Int)), (([1, 0] : List Int))] : List (List Int)))).bind fun t231 => (if t231 = true then (if t199 = 0 then (if t198 = 1 then (if bt209.2 = 0 then ((rl_texts.f k bt209.1 (([(⟨#[98]⟩ : ByteArray), (⟨#[97, 97]⟩ : ByteArray), (⟨#[97, 98, 65]⟩ : ByteArray)] : List ByteArray))).bind fun t235 => (if t235 = true then (if bt216.2.2 = 0 then ((rl_ints.f k bt216.1 (([2, 4] : List Int))).bind fun t239 => (if t239 = true then (if bt216.2.1 = 0 then (some true) else (some false)) else (some false))) else (some false)) else (some false))) else (some false)) else (some false)) else (some false)) else (some false))) else (none)) else (some false)) else (some false)))) = some true := by first | (rw [hy200]; with_reducible exact H) | (have H2_ := (Option.bind_some _ _).symm.trans H; rw [hy200]; with_reducible exact H2_) | (have H2_ := (Option.bind_some _ _).symm.trans H; with_reducible exact H2_) | with_reducible exact H | (rw [hy200]; exact H) | exact H
 have Ny200 := a_ hy200
 clear hy200
 obtain ⟨y203, hy203⟩ : ∃ y_ : List Int, y_ = (([0, 1] : List Int)) := ⟨_, rfl⟩
 replace H : ((c_Generators.f k (([y200, y203] : List (List Int)))).bind fun bt209 => ((c_Factors.f k 2 (([(⟨#[97, 97, 97, 97]⟩ : ByteArray), (⟨#[97, 97, 98, 98]⟩ : ByteArray)] : List ByteArray))).bind fun bt216 => (if t197 = 0 then (if (t194.length : Int) = 3 then (if 0 < (t194.length : Int) then ((rr_Same.f k (rd_L7 t194 0) (([(([0, 1] : List Int)), (([1, 0] : List Int))] : List (List Int)))).bind fun t231 => (if t231 = true then (if t199 = 0 then (if t198 = 1 then (if bt209.2 = 0 then ((rl_texts.f k bt209.1 (([(⟨#[98]⟩ : ByteArray), (⟨#[97, 97]⟩ : ByteArray), (⟨#[97, 98, 65]⟩ : ByteArray)] : List ByteArray))).bind fun t235 => (if t235 = true then (if bt216.2.2 = 0 then ((rl_ints.f k bt216.1 (([2, 4] : List Int))).bind fun t239 => (if t239 = true then (if bt216.2.1 = 0 then (some true) else (some false)) else (some false))) else (some false)) else (some false))) else (some false)) else (some false)) else (some false)) else (some false))) else (none)) else (some false)) else (some false)))) = some true := by first | (rw [hy203]; with_reducible exact H) | (have H2_ := (Option.bind_some _ _).symm.trans H; rw [hy203]; with_reducible exact H2_) | (have H2_ := (Option.bind_some _ _).symm.trans H; with_reducible exact H2_) | with_reducible exact H | (rw [hy203]; exact H) | exact H
 have Ny203 := a_ hy203
 clear hy203
 obtain ⟨y206, hy206⟩ : ∃ y_ : List (List Int), y_ = (([y200, y203] : List (List Int))) := ⟨_, rfl⟩
 replace H : ((c_Generators.f k y206).bind fun bt209 => ((c_Factors.f k 2 (([(⟨#[97, 97, 97, 97]⟩ : ByteArray), (⟨#[97, 97, 98, 98]⟩ : ByteArray)] : List ByteArray))).bind fun bt216 => (if t197 = 0 then (if (t194.length : Int) = 3 then (if 0 < (t194.length : Int) then ((rr_Same.f k (rd_L7 t194 0) (([(([0, 1] : List Int)), (([1, 0] : List Int))] : List (List Int)))).bind fun t231 => (if t231 = true then (if t199 = 0 then (if t198 = 1 then (if bt209.2 = 0 then ((rl_texts.f k bt209.1 (([(⟨#[98]⟩ : ByteArray), (⟨#[97, 97]⟩ : ByteArray), (⟨#[97, 98, 65]⟩ : ByteArray)] : List ByteArray))).bind fun t235 => (if t235 = true then (if bt216.2.2 = 0 then ((rl_ints.f k bt216.1 (([2, 4] : List Int))).bind fun t239 => (if t239 = true then (if bt216.2.1 = 0 then (some true) else (some false)) else (some false))) else (some false)) else (some false))) else (some false)) else (some false)) else (some false)) else (some false))) else (none)) else (some false)) else (some false)))) = some true := by first | (rw [hy206]; with_reducible exact H) | (have H2_ := (Option.bind_some _ _).symm.trans H; rw [hy206]; with_reducible exact H2_) | (have H2_ := (Option.bind_some _ _).symm.trans H; with_reducible exact H2_) | with_reducible exact H | (rw [hy206]; exact H) | exact H
 have Ny206 := a_ hy206
 clear hy206
 replace H := Option.bind_eq_some_iff.mp H
 obtain ⟨⟨t209, t210⟩, A30, H⟩ := H
 try dsimp only at H
 have A3 := a_ A30
 clear A30
 obtain ⟨y213, hy213⟩ : ∃ y_ : List ByteArray, y_ = (([(⟨#[97, 97, 97, 97]⟩ : ByteArray), (⟨#[97, 97, 98, 98]⟩ : ByteArray)] : List ByteArray)) := ⟨_, rfl⟩
 replace H : ((c_Factors.f k 2 y213).bind fun bt216 => (if t197 = 0 then (if (t194.length : Int) = 3 then (if 0 < (t194.length : Int) then ((rr_Same.f k (rd_L7 t194 0) (([(([0, 1] : List Int)), (([1, 0] : List Int))] : List (List Int)))).bind fun t231 => (if t231 = true then (if t199 = 0 then (if t198 = 1 then (if t210 = 0 then ((rl_texts.f k t209 (([(⟨#[98]⟩ : ByteArray), (⟨#[97, 97]⟩ : ByteArray), (⟨#[97, 98, 65]⟩ : ByteArray)] : List ByteArray))).bind fun t235 => (if t235 = true then (if bt216.2.2 = 0 then ((rl_ints.f k bt216.1 (([2, 4] : List Int))).bind fun t239 => (if t239 = true then (if bt216.2.1 = 0 then (some true) else (some false)) else (some false))) else (some false)) else (some false))) else (some false)) else (some false)) else (some false)) else (some false))) else (none)) else (some false)) else (some false))) = some true := by first | (rw [hy213]; with_reducible exact H) | (have H2_ := (Option.bind_some _ _).symm.trans H; rw [hy213]; with_reducible exact H2_) | (have H2_ := (Option.bind_some _ _).symm.trans H; with_reducible exact H2_) | with_reducible exact H | (rw [hy213]; exact H) | exact H
 have Ny213 := a_ hy213
 clear hy213
 replace H := Option.bind_eq_some_iff.mp H
 obtain ⟨⟨t216, t219, t220⟩, A40, H⟩ := H
 try dsimp only at H
 have A4 := a_ A40
 clear A40
 by_cases c5 : t197 = 0
 rotate_left
 ·rw [if_neg c5] at H; exact absurd H (by simp)
 rw [if_pos c5] at H
 have c5b0 : (t197 == 0) = true := beq_iff_eq.mpr c5
 have c5b1 : (t197 != 0) = false := bne_eq_false_iff_eq.mpr c5
 clear c5
 by_cases c6 : (t194.length : Int) = 3
 rotate_left
 ·rw [if_neg c6] at H; exact absurd H (by simp)
 rw [if_pos c6] at H
 have c6b0 : ((t194.length : Int) == 3) = true := beq_iff_eq.mpr c6
 have c6b1 : ((t194.length : Int) != 3) = false := bne_eq_false_iff_eq.mpr c6
 clear c6
 by_cases c7 : 0 < (t194.length : Int)
 rotate_left
 ·rw [if_neg c7] at H; exact absurd H (by simp)
 rw [if_pos c7] at H
 have c7b0 : decide (0 < (t194.length : Int)) = true := decide_eq_true c7
 have c7b1 : decide (0 < t194.length) = true := decide_eq_true (by omega)
 clear c7
 obtain ⟨y222, hy222⟩ : ∃ y_ : List Int, y_ = (([0, 1] : List Int)) := ⟨_, rfl⟩
 replace H : ((rr_Same.f k (rd_L7 t194 0) (([y222, (([1, 0] : List Int))] : List (List Int)))).bind fun t231 => (if t231 = true then (if t199 = 0 then (if t198 = 1 then (if t210 = 0 then ((rl_texts.f k t209 (([(⟨#[98]⟩ : ByteArray), (⟨#[97, 97]⟩ : ByteArray), (⟨#[97, 98, 65]⟩ : ByteArray)] : List ByteArray))).bind fun t235 => (if t235 = true then (if t220 = 0 then ((rl_ints.f k t216 (([2, 4] : List Int))).bind fun t239 => (if t239 = true then (if t219 = 0 then (some true) else (some false)) else (some false))) else (some false)) else (some false))) else (some false)) else (some false)) else (some false)) else (some false))) = some true := by first | (rw [hy222]; with_reducible exact H) | (have H2_ := (Option.bind_some _ _).symm.trans H; rw [hy222]; with_reducible exact H2_) | (have H2_ := (Option.bind_some _ _).symm.trans H; with_reducible exact H2_) | with_reducible exact H | (rw [hy222]; exact H) | exact H
 have Ny222 := a_ hy222
 clear hy222
 obtain ⟨y225, hy225⟩ : ∃ y_ : List Int, y_ = (([1, 0] : List Int)) := ⟨_, rfl⟩
 replace H : ((rr_Same.f k (rd_L7 t194 0) (([y222, y225] : List (List Int)))).bind fun t231 => (if t231 = true then (if t199 = 0 then (if t198 = 1 then (if t210 = 0 then ((rl_texts.f k t209 (([(⟨#[98]⟩ : ByteArray), (⟨#[97, 97]⟩ : ByteArray), (⟨#[97, 98, 65]⟩ : ByteArray)] : List ByteArray))).bind fun t235 => (if t235 = true then (if t220 = 0 then ((rl_ints.f k t216 (([2, 4] : List Int))).bind fun t239 => (if t239 = true then (if t219 = 0 then (some true) else (some false)) else (some false))) else (some false)) else (some false))) else (some false)) else (some false)) else (some false)) else (some false))) = some true := by first | (rw [hy225]; with_reducible exact H) | (have H2_ := (Option.bind_some _ _).symm.trans H; rw [hy225]; with_reducible exact H2_) | (have H2_ := (Option.bind_some _ _).symm.trans H; with_reducible exact H2_) | with_reducible exact H | (rw [hy225]; exact H) | exact H
 have Ny225 := a_ hy225
 clear hy225
 obtain ⟨y228, hy228⟩ : ∃ y_ : List (List Int), y_ = (([y222, y225] : List (List Int))) := ⟨_, rfl⟩
 replace H : ((rr_Same.f k (rd_L7 t194 0) y228).bind fun t231 => (if t231 = true then (if t199 = 0 then (if t198 = 1 then (if t210 = 0 then ((rl_texts.f k t209 (([(⟨#[98]⟩ : ByteArray), (⟨#[97, 97]⟩ : ByteArray), (⟨#[97, 98, 65]⟩ : ByteArray)] : List ByteArray))).bind fun t235 => (if t235 = true then (if t220 = 0 then ((rl_ints.f k t216 (([2, 4] : List Int))).bind fun t239 => (if t239 = true then (if t219 = 0 then (some true) else (some false)) else (some false))) else (some false)) else (some false))) else (some false)) else (some false)) else (some false)) else (some false))) = some true := by first | (rw [hy228]; with_reducible exact H) | (have H2_ := (Option.bind_some _ _).symm.trans H; rw [hy228]; with_reducible exact H2_) | (have H2_ := (Option.bind_some _ _).symm.trans H; with_reducible exact H2_) | with_reducible exact H | (rw [hy228]; exact H) | exact H
 have Ny228 := a_ hy228
 clear hy228
 replace H := Option.bind_eq_some_iff.mp H
 obtain ⟨t231, A80, H⟩ := H
 try dsimp only at H
 have A8 := a_ A80
 clear A80
 by_cases c9 : t231 = true
 rotate_left
 ·rw [if_neg c9] at H; exact absurd H (by simp)
 subst c9
 have H1 := H; rw [if_pos rfl] at H1
 clear H
 have H := H1
 clear H1
 by_cases c10 : t199 = 0
 rotate_left
 ·rw [if_neg c10] at H; exact absurd H (by simp)
 rw [if_pos c10] at H
 have c10b0 : (t199 == 0) = true := beq_iff_eq.mpr c10
 have c10b1 : (t199 != 0) = false := bne_eq_false_iff_eq.mpr c10
 clear c10
 by_cases c11 : t198 = 1
 rotate_left
 ·rw [if_neg c11] at H; exact absurd H (by simp)
 rw [if_pos c11] at H
 have c11b0 : (t198 == 1) = true := beq_iff_eq.mpr c11
 have c11b1 : (t198 != 1) = false := bne_eq_false_iff_eq.mpr c11
 clear c11
 by_cases c12 : t210 = 0
 rotate_left
 ·rw [if_neg c12] at H; exact absurd H (by simp)
 rw [if_pos c12] at H
 have c12b0 : (t210 == 0) = true := beq_iff_eq.mpr c12
 have c12b1 : (t210 != 0) = false := bne_eq_false_iff_eq.mpr c12
 clear c12
 obtain ⟨y232, hy232⟩ : ∃ y_ : List ByteArray, y_ = (([(⟨#[98]⟩ : ByteArray), (⟨#[97, 97]⟩ : ByteArray), (⟨#[97, 98, 65]⟩ : ByteArray)] : List ByteArray)) := ⟨_, rfl⟩
 replace H : ((rl_texts.f k t209 y232).bind fun t235 => (if t235 = true then (if t220 = 0 then ((rl_ints.f k t216 (([2, 4] : List Int))).bind fun t239 => (if t239 = true then (if t219 = 0 then (some true) else (some false)) else (some false))) else (some false)) else (some false))) = some true := by first | (rw [hy232]; with_reducible exact H) | (have H2_ := (Option.bind_some _ _).symm.trans H; rw [hy232]; with_reducible exact H2_) | (have H2_ := (Option.bind_some _ _).symm.trans H; with_reducible exact H2_) | with_reducible exact H | (rw [hy232]; exact H) | exact H
 have Ny232 := a_ hy232
 clear hy232
 replace H := Option.bind_eq_some_iff.mp H
 obtain ⟨t235, A130, H⟩ := H
 try dsimp only at H
 have A13 := a_ A130
 clear A130
 by_cases c14 : t235 = true
 rotate_left
 ·rw [if_neg c14] at H; exact absurd H (by simp)
 subst c14
 have H1 := H; rw [if_pos rfl] at H1
 clear H
 have H := H1
 clear H1
 by_cases c15 : t220 = 0
 rotate_left
 ·rw [if_neg c15] at H; exact absurd H (by simp)
 rw [if_pos c15] at H
 have c15b0 : (t220 == 0) = true := beq_iff_eq.mpr c15
 have c15b1 : (t220 != 0) = false := bne_eq_false_iff_eq.mpr c15
 clear c15
 obtain ⟨y236, hy236⟩ : ∃ y_ : List Int, y_ = (([2, 4] : List Int)) := ⟨_, rfl⟩
 replace H : ((rl_ints.f k t216 y236).bind fun t239 => (if t239 = true then (if t219 = 0 then (some true) else (some false)) else (some false))) = some true := by first | (rw [hy236]; with_reducible exact H) | (have H2_ := (Option.bind_some _ _).symm.trans H; rw [hy236]; with_reducible exact H2_) | (have H2_ := (Option.bind_some _ _).symm.trans H; with_reducible exact H2_) | with_reducible exact H | (rw [hy236]; exact H) | exact H
 have Ny236 := a_ hy236
 clear hy236
 replace H := Option.bind_eq_some_iff.mp H
 obtain ⟨t239, A160, H⟩ := H
 try dsimp only at H
 have A16 := a_ A160
 clear A160
 by_cases c17 : t239 = true
 rotate_left
 ·rw [if_neg c17] at H; exact absurd H (by simp)
 subst c17
 have H1 := H; rw [if_pos rfl] at H1
 clear H
 have H := H1
 clear H1
 by_cases c18 : t219 = 0
 rotate_left
 ·rw [if_neg c18] at H; exact absurd H (by simp)
 rw [if_pos c18] at H
 have c18b0 : (t219 == 0) = true := beq_iff_eq.mpr c18
 have c18b1 : (t219 != 0) = false := bne_eq_false_iff_eq.mpr c18
 clear c18
 skip
 go_enter Try.func22, Try.ntmps22
 go_wp2_with (first | ((with_reducible refine gate_dst (N := 11) rfl ?_); (try (refine gate_guard (by rfl) ?_; dsimp only)); refine Kd.R_lit Kd.string _ 9 ?hg (N := 11) ?hd (xs := ([(⟨#[97, 97]⟩ : ByteArray), (⟨#[98, 98]⟩ : ByteArray), (⟨#[97, 98, 97, 98]⟩ : ByteArray)] : List ByteArray)) (inner := [.string (⟨#[97, 97]⟩ : ByteArray), .string (⟨#[98, 98]⟩ : ByteArray), .string (⟨#[97, 98, 97, 98]⟩ : ByteArray)]) (ok := fun _ => True) (okp := fun _ => True) ?hr ?hp (fun _ hk => hk) trivial (Below.refl _ _) (Nat.le_refl _) (by simp) ?_; (case hd => rfl); (case hg => rfl); (case hr => first | (go_simp; done) | (go_simp; rfl)); (case hp => exact (Reps.one (show Kd.M Kd.string _ _ _ (⟨#[97, 97]⟩ : ByteArray) [.string (⟨#[97, 97]⟩ : ByteArray)] from rfl) (Reps.one (show Kd.M Kd.string _ _ _ (⟨#[98, 98]⟩ : ByteArray) [.string (⟨#[98, 98]⟩ : ByteArray)] from rfl) (Reps.one (show Kd.M Kd.string _ _ _ (⟨#[97, 98, 97, 98]⟩ : ByteArray) [.string (⟨#[97, 98, 97, 98]⟩ : ByteArray)] from rfl) (Reps.none _ _))))); intro v191 w19 ho20 hb hg_ hnew_; clear hg_ hnew_; (first | rw [← Ny190.out] at ho20 | (simp only [Int.reduceToNat] at ho20; rw [← Ny190.out] at ho20)); have HO192 := a_ (Kd.R_lower ho20 (bZ_ (gr HB.out))); replace HB := a_ (bT_ HB.out (tr hb)); clear hb ho20; obtain ⟨Ao21, co21, eo21⟩ := Kd.R_slice HO192.out; subst eo21) | ((with_reducible refine gate_dst (N := 1) rfl ?_); (try (refine gate_guard (by rfl) ?_; dsimp only)); refine box_event ?hg (N := 1) ?hd (cs := #[.int .i64 0, .slice none 0 0]) (t := 55) ?hr ?_; (case hd => rfl); (case hg => rfl); (case hr => first | (go_simp; done) | (go_simp; rfl)); intro gb193 hg w22 hbox hb; have BK193 := a_ (hbox); have GW193 := a_ ((by rw [hg]; exact (bZ_ (gr HB.out)) : w.heap.size ≤ gb193)); have GE193 := GEc.mk ((by rw [hg]; exact (bZ_ (gr HB.out)) : w.heap.size ≤ gb193)); replace HO192 := a_ (Kd.R_below HO192.out (tr hb)); replace HB := a_ (bT_ HB.out (tr hb)); clear hb hbox hg; have hcz23_0 : w22.cell? ⟨gb193, 0, none⟩ = some (.int .i64 0) := (kc_ BK193.out 0).trans rfl; have hcz23_1 : w22.cell? ⟨gb193, 1, none⟩ = some (.slice none 0 0) := (kc_ BK193.out 1).trans rfl; have hfz23_0 := kf_ BK193.out 0; have hfz23_1 := kf_ BK193.out 1) | ((with_reducible refine gate_callee (f := 40) rfl ?_); refine goesL_ (some 15) rfl rfl Try.func40 (by kernel_rfl) rfl #[.agg #[.int .i64 2, .slice Ao21 y190.length co21], .int .i64 2] rfl (by (try simp only [List.map_toArray, List.map_cons, List.map_nil]); first | done | rfl | (simp only [List.length_drop, List.length_take]; rfl)) ?_; (with_reducible refine (c_Tables.calls k 2 _ _ y190 2 t194 t197 _ ?side1 ?side2 A1.out).mono ?_); (case side1 => refine (Kd.R_reads' (e := 9) (base := w.heap.size) (ok := fun k_ => True) (n := y190.length) (c := co21) ?_).2.2; exact (by exact rk ((Kd.R_mono (Kd.R_far (p := ⟨gb193, 1, none⟩) (Kd.R_far (p := ⟨gb193, 0, none⟩) (Kd.R_types HO192.out BK193.out (by decide)) (fun _ hk => hk.2) (.int .i64 2)) (fun _ hk => hk.2) (.slice Ao21 y190.length co21)) (fun _ h_ => h_.1))))); (case side2 => exact (Kd.R_reads' HO192.out).2.1); rintro e w24 ⟨v195, rfl, ho0, hb⟩; refine ⟨_, rfl, ?_⟩; have HO196 := a_ (Kd.N_lower (Kd.N_mono (ok' := fun k_ => some k_ ≠ (.slice Ao21 y190.length co21 : Value).ownBlock ∧ k_ ≠ gb193) (Kd.R_N (Kd.R_bound ho0)) (fun k_ hk_ => ⟨(Kd.fresh' (Kd.R_lt (by exact rk ((Kd.R_mono (Kd.R_far (p := ⟨gb193, 1, none⟩) (Kd.R_far (p := ⟨gb193, 0, none⟩) (Kd.R_types HO192.out BK193.out (by decide)) (fun _ hk => hk.2) (.int .i64 2)) (fun _ hk => hk.2) (.slice Ao21 y190.length co21)) (fun _ h_ => h_.1))))) k_ hk_.2.1), (Kd.freshB (g := gb193) (o := .cells #[.int .i64 2, .slice Ao21 y190.length co21] 55 (0, 0)) (by exact pb BK193.out (by rfl)) k_ hk_.2.1)⟩)) (bZ_ (by exact gs HB.out))); replace HO192 := a_ (Kd.R_below (by exact rk ((Kd.R_mono (Kd.R_far (p := ⟨gb193, 1, none⟩) (Kd.R_far (p := ⟨gb193, 0, none⟩) (Kd.R_types HO192.out BK193.out (by decide)) (fun _ hk => hk.2) (.int .i64 2)) (fun _ hk => hk.2) (.slice Ao21 y190.length co21)) (fun _ h_ => h_.1)))) hb); replace BK193 := a_ (kB_ (g := gb193) (o := .cells #[.int .i64 2, .slice Ao21 y190.length co21] 55 (0, 0)) (by exact pb BK193.out (by rfl)) hb); replace HB := a_ (bT_ (by exact gs HB.out) hb); (try clear hb); (try clear hb2); (try clear hk); (try clear hi); (try clear ho0); have hcz25_0 : w24.cell? ⟨gb193, 0, none⟩ = some (.int .i64 2) := (kc_ BK193.out 0).trans rfl; have hcz25_1 : w24.cell? ⟨gb193, 1, none⟩ = some (.slice Ao21 y190.length co21) := (kc_ BK193.out 1).trans rfl; have hfz25_0 := kf_ BK193.out 0; have hfz25_1 := kf_ BK193.out 1) | ((with_reducible refine gate_callee (f := 41) rfl ?_); refine goesL_ (some 20) rfl rfl Try.func41 (by kernel_rfl) rfl #[.agg #[.int .i64 2, .slice Ao21 y190.length co21], .int .i64 4] rfl (by (try simp only [List.map_toArray, List.map_cons, List.map_nil]); first | done | rfl | (simp only [List.length_drop, List.length_take]; rfl)) ?_; (with_reducible refine (c_Count.calls k 2 _ _ y190 4 t198 t199 _ ?side1 ?side2 A2.out).mono ?_); (case side1 => repeat (first | exact (Kd.R_reads' HO192.out).2.2 | (with_reducible refine Kd.C_alloc ?_ _) | (with_reducible refine Kd.C_drewN ?_ _) | (with_reducible refine Kd.C_drew ?_))); (case side2 => exact (Kd.R_reads' HO192.out).2.1); rintro e w26 ⟨rfl, hb⟩; refine ⟨_, rfl, ?_⟩; replace HO192 := a_ (Kd.R_below HO192.out (tr hb)); replace HO196 := a_ (Kd.N_below (by (with_reducible repeat (first | apply Kd.N_alloc | apply Kd.N_drewN | apply Kd.N_drew)); exact HO196.out) hb); replace BK193 := a_ (kB_ BK193.out (tr hb)); replace HB := a_ (bT_ (by exact gs HB.out) hb); (try clear hb); (try clear hb2); (try clear hk); (try clear hi)) | ((with_reducible refine gate_dst (N := 24) rfl ?_); (try (refine gate_guard (by rfl) ?_; dsimp only)); refine Kd.R_lit (Kd.int .i64) _ 3 ?hg (N := 24) ?hd (xs := ([1, 0] : List Int)) (inner := [.int .i64 1, .int .i64 0]) (ok := fun _ => True) (okp := fun _ => True) ?hr ?hp (fun _ hk => hk) trivial (Below.refl _ _) (Nat.le_refl _) (by simp) ?_; (case hd => rfl); (case hg => rfl); (case hr => first | (go_simp; done) | (go_simp; rfl)); (case hp => exact (Reps.one (show Kd.M (Kd.int .i64) _ _ _ 1 [.int .i64 1] from rfl) (Reps.one (show Kd.M (Kd.int .i64) _ _ _ 0 [.int .i64 0] from rfl) (Reps.none _ _)))); intro v201 w27 ho28 hb hg_ hnew_; clear hg_ hnew_; (first | rw [← Ny200.out] at ho28 | (simp only [Int.reduceToNat] at ho28; rw [← Ny200.out] at ho28)); have HO202 := a_ (Kd.R_lower ho28 (bZ_ (by exact gs HB.out))); replace HO192 := a_ (Kd.R_below HO192.out (tr hb)); replace HO196 := a_ (Kd.N_elder' (by (with_reducible repeat (first | apply Kd.N_alloc | apply Kd.N_drewN | apply Kd.N_drew)); exact HO196.out) (Kd.R_base ho28) hb); replace BK193 := a_ (kB_ BK193.out (tr hb)); replace HB := a_ (bT_ (by exact gs HB.out) hb); clear hb ho28) | ((with_reducible refine gate_dst (N := 25) rfl ?_); (try (refine gate_guard (by rfl) ?_; dsimp only)); refine Kd.R_lit (Kd.int .i64) _ 3 ?hg (N := 25) ?hd (xs := ([0, 1] : List Int)) (inner := [.int .i64 0, .int .i64 1]) (ok := fun _ => True) (okp := fun _ => True) ?hr ?hp (fun _ hk => hk) trivial (Below.refl _ _) (Nat.le_refl _) (by simp) ?_; (case hd => rfl); (case hg => rfl); (case hr => first | (go_simp; done) | (go_simp; rfl)); (case hp => exact (Reps.one (show Kd.M (Kd.int .i64) _ _ _ 0 [.int .i64 0] from rfl) (Reps.one (show Kd.M (Kd.int .i64) _ _ _ 1 [.int .i64 1] from rfl) (Reps.none _ _)))); intro v204 w29 ho30 hb hg_ hnew_; clear hg_ hnew_; (first | rw [← Ny203.out] at ho30 | (simp only [Int.reduceToNat] at ho30; rw [← Ny203.out] at ho30)); have HO205 := a_ (Kd.R_lower (Kd.R_new' ho30 (Kd.R_lt (by exact rk HO202.out))) (bZ_ (by exact gs HB.out))); replace HO192 := a_ (Kd.R_below HO192.out (tr hb)); replace HO196 := a_ (Kd.N_elder' (by (with_reducible repeat (first | apply Kd.N_alloc | apply Kd.N_drewN | apply Kd.N_drew)); exact HO196.out) (Kd.R_base ho30) hb); replace HO202 := a_ (Kd.R_elder' (by exact rk HO202.out) (Kd.R_base ho30) hb); replace BK193 := a_ (kB_ BK193.out (tr hb)); replace HB := a_ (bT_ (by exact gs HB.out) hb); clear hb ho30; obtain ⟨Ao31, co31, eo31⟩ := Kd.R_slice HO202.out; subst eo31; obtain ⟨Ao32, co32, eo32⟩ := Kd.R_slice HO205.out; subst eo32) | ((with_reducible refine gate_dst (N := 26) rfl ?_); (try (refine gate_guard (by rfl) ?_; dsimp only)); refine Kd.N_lit (Kd.slice 3 (Kd.int .i64)) _ 22 ?hg (N' := 26) ?hd (xs := ([y200, y203] : List (List Int))) (inner := [.slice Ao31 y200.length co31, .slice Ao32 y203.length co32]) (ok := (fun k_ => some k_ ≠ (.slice Ao21 y190.length co21 : Value).ownBlock ∧ some k_ ≠ (v195 : Value).ownBlock ∧ k_ ≠ gb193)) (okp := (fun k_ => some k_ ≠ (.slice Ao21 y190.length co21 : Value).ownBlock ∧ some k_ ≠ (v195 : Value).ownBlock ∧ k_ ≠ gb193)) ?hr ?hp (fun _ hk => hk) ((show ∀ k_, w29.heap.size ≤ k_ → (fun k_ => some k_ ≠ (.slice Ao21 y190.length co21 : Value).ownBlock ∧ some k_ ≠ (v195 : Value).ownBlock ∧ k_ ≠ gb193) k_ from fun k_ hk => ⟨Kd.fresh' (Kd.R_lt (by exact rk HO192.out)) k_ hk, Kd.fresh' (Kd.N_lt (by (with_reducible repeat (first | apply Kd.N_alloc | apply Kd.N_drewN | apply Kd.N_drew)); exact HO196.out)) k_ hk, Kd.freshB (g := gb193) (o := .cells #[.int .i64 2, .slice Ao21 y190.length co21] 55 (0, 0)) (by exact bk BK193.out) k_ hk⟩) _ (Nat.le_refl _)) (Below.refl _ _) (Nat.le_refl _) (by simp) ?_; (case hd => rfl); (case hg => rfl); (case hr => first | (go_simp; done) | (go_simp; rfl)); (case hp => exact (Reps.one (show Kd.FK (Kd.slice 3 (Kd.int .i64)) _ _ y200 [.slice Ao31 y200.length co31] from (Kd.FK_slice_mk (Kd.R_reads' (Kd.R_mono (ok' := (fun k_ => some k_ ≠ (.slice Ao21 y190.length co21 : Value).ownBlock ∧ some k_ ≠ (v195 : Value).ownBlock ∧ k_ ≠ gb193)) (Kd.R_types (Kd.R_apart' (Kd.R_apart' (HO202.out) (Kd.R_typed HO192.out) (by decide)) (Kd.N_typed HO196.out) (by decide)) BK193.out (by decide)) (fun k_ hk => ⟨hk.1.1.2, ⟨hk.1.2, hk.2⟩⟩))).2.1 (Kd.R_F (Kd.R_mono (ok' := (fun k_ => some k_ ≠ (.slice Ao21 y190.length co21 : Value).ownBlock ∧ some k_ ≠ (v195 : Value).ownBlock ∧ k_ ≠ gb193)) (Kd.R_types (Kd.R_apart' (Kd.R_apart' (HO202.out) (Kd.R_typed HO192.out) (by decide)) (Kd.N_typed HO196.out) (by decide)) BK193.out (by decide)) (fun k_ hk => ⟨hk.1.1.2, ⟨hk.1.2, hk.2⟩⟩))))) (Reps.one (show Kd.FK (Kd.slice 3 (Kd.int .i64)) _ _ y203 [.slice Ao32 y203.length co32] from (Kd.FK_slice_mk (Kd.R_reads' (Kd.R_mono (ok' := (fun k_ => some k_ ≠ (.slice Ao21 y190.length co21 : Value).ownBlock ∧ some k_ ≠ (v195 : Value).ownBlock ∧ k_ ≠ gb193)) (Kd.R_types (Kd.R_apart' (Kd.R_apart' (HO205.out) (Kd.R_typed HO192.out) (by decide)) (Kd.N_typed HO196.out) (by decide)) BK193.out (by decide)) (fun k_ hk => ⟨hk.1.1.2, ⟨hk.1.2, hk.2⟩⟩))).2.1 (Kd.R_F (Kd.R_mono (ok' := (fun k_ => some k_ ≠ (.slice Ao21 y190.length co21 : Value).ownBlock ∧ some k_ ≠ (v195 : Value).ownBlock ∧ k_ ≠ gb193)) (Kd.R_types (Kd.R_apart' (Kd.R_apart' (HO205.out) (Kd.R_typed HO192.out) (by decide)) (Kd.N_typed HO196.out) (by decide)) BK193.out (by decide)) (fun k_ hk => ⟨hk.1.1.2, ⟨hk.1.2, hk.2⟩⟩))))) (Reps.none _ _)))); intro v207 w33 ho34 hb hg_ hnew_; clear hg_ hnew_; (first | rw [← Ny206.out] at ho34 | (simp only [Int.reduceToNat] at ho34; rw [← Ny206.out] at ho34)); have HO208 := a_ (Kd.N_lower ho34 (bZ_ (by exact gs HB.out))); replace HO192 := a_ (Kd.R_below HO192.out (tr hb)); replace HO196 := a_ (Kd.N_elder' (by (with_reducible repeat (first | apply Kd.N_alloc | apply Kd.N_drewN | apply Kd.N_drew)); exact HO196.out) (Kd.N_base ho34) hb); replace BK193 := a_ (kB_ BK193.out (tr hb)); replace HB := a_ (bT_ (by exact gs HB.out) hb); clear HO202 HO205; clear hb ho34; obtain ⟨Ao35, co35, eo35⟩ := Kd.N_slice HO208.out; subst eo35) | ((with_reducible refine gate_callee (f := 17) rfl ?_); refine goesL_ (some 27) rfl rfl Try.func17 (by kernel_rfl) rfl #[.slice Ao35 y206.length co35] rfl (by (try simp only [List.map_toArray, List.map_cons, List.map_nil]); first | done | rfl | (simp only [List.length_drop, List.length_take]; rfl)) ?_; (with_reducible refine (c_Generators.calls k _ _ y206 t209 t210 _ ?side1 ?side2 A3.out).mono ?_); (case side1 => repeat (first | exact (Kd.N_reads' HO208.out).2.2 | (with_reducible refine Kd.C_alloc ?_ _) | (with_reducible refine Kd.C_drewN ?_ _) | (with_reducible refine Kd.C_drew ?_))); (case side2 => exact (Kd.N_reads' HO208.out).2.1); rintro e w36 ⟨v211, rfl, ho0, hb⟩; refine ⟨_, rfl, ?_⟩; have HO212 := a_ (Kd.R_lower (Kd.R_new' ho0 (Kd.R_lt (by exact rk HO192.out))) (bZ_ (by exact gs HB.out))); replace HO192 := a_ (Kd.R_elder' (by exact rk HO192.out) (Kd.R_base ho0) hb); replace HO196 := a_ (Kd.N_elder' (by (with_reducible repeat (first | apply Kd.N_alloc | apply Kd.N_drewN | apply Kd.N_drew)); exact HO196.out) (Kd.R_base ho0) hb); replace HO208 := a_ (Kd.N_elder' (by (with_reducible repeat (first | apply Kd.N_alloc | apply Kd.N_drewN | apply Kd.N_drew)); exact HO208.out) (Kd.R_base ho0) hb); replace BK193 := a_ (kB_ BK193.out (tr hb)); replace HB := a_ (bT_ (by exact gs HB.out) hb); (try clear hb); (try clear hb2); (try clear hk); (try clear hi); (try clear ho0)) | ((with_reducible refine gate_dst (N := 31) rfl ?_); (try (refine gate_guard (by rfl) ?_; dsimp only)); refine Kd.R_lit Kd.string _ 9 ?hg (N := 31) ?hd (xs := ([(⟨#[97, 97, 97, 97]⟩ : ByteArray), (⟨#[97, 97, 98, 98]⟩ : ByteArray)] : List ByteArray)) (inner := [.string (⟨#[97, 97, 97, 97]⟩ : ByteArray), .string (⟨#[97, 97, 98, 98]⟩ : ByteArray)]) (ok := fun _ => True) (okp := fun _ => True) ?hr ?hp (fun _ hk => hk) trivial (Below.refl _ _) (Nat.le_refl _) (by simp) ?_; (case hd => rfl); (case hg => rfl); (case hr => first | (go_simp; done) | (go_simp; rfl)); (case hp => exact (Reps.one (show Kd.M Kd.string _ _ _ (⟨#[97, 97, 97, 97]⟩ : ByteArray) [.string (⟨#[97, 97, 97, 97]⟩ : ByteArray)] from rfl) (Reps.one (show Kd.M Kd.string _ _ _ (⟨#[97, 97, 98, 98]⟩ : ByteArray) [.string (⟨#[97, 97, 98, 98]⟩ : ByteArray)] from rfl) (Reps.none _ _)))); intro v214 w37 ho38 hb hg_ hnew_; clear hg_ hnew_; (first | rw [← Ny213.out] at ho38 | (simp only [Int.reduceToNat] at ho38; rw [← Ny213.out] at ho38)); have HO215 := a_ (Kd.R_lower (Kd.R_new' (Kd.R_new' ho38 (Kd.R_lt (by exact rk HO192.out))) (Kd.R_lt (by exact rk HO212.out))) (bZ_ (by exact gs HB.out))); replace HO192 := a_ (Kd.R_elder' (by exact rk HO192.out) (Kd.R_base ho38) hb); replace HO196 := a_ (Kd.N_elder' (by (with_reducible repeat (first | apply Kd.N_alloc | apply Kd.N_drewN | apply Kd.N_drew)); exact HO196.out) (Kd.R_base ho38) hb); replace HO208 := a_ (Kd.N_elder' (by (with_reducible repeat (first | apply Kd.N_alloc | apply Kd.N_drewN | apply Kd.N_drew)); exact HO208.out) (Kd.R_base ho38) hb); replace HO212 := a_ (Kd.R_elder' (by exact rk HO212.out) (Kd.R_base ho38) hb); replace BK193 := a_ (kB_ BK193.out (tr hb)); replace HB := a_ (bT_ (by exact gs HB.out) hb); clear hb ho38; obtain ⟨Ao39, co39, eo39⟩ := Kd.R_slice HO215.out; subst eo39) | ((with_reducible refine gate_callee (f := 62) rfl ?_); refine goesL_ (some 33) rfl rfl Try.func62 (by kernel_rfl) rfl #[.agg #[.int .i64 2, .slice Ao39 y213.length co39]] rfl (by (try simp only [List.map_toArray, List.map_cons, List.map_nil]); first | done | rfl | (simp only [List.length_drop, List.length_take]; rfl)) ?_; (with_reducible refine (c_Factors.calls k 2 _ _ y213 t216 t219 t220 _ ?side1 ?side2 A4.out).mono ?_); (case side1 => repeat (first | exact (Kd.R_reads' HO215.out).2.2 | (with_reducible refine Kd.C_alloc ?_ _) | (with_reducible refine Kd.C_drewN ?_ _) | (with_reducible refine Kd.C_drew ?_))); (case side2 => exact (Kd.R_reads' HO215.out).2.1); rintro e w40 ⟨v217, rfl, ho0, hb⟩; refine ⟨_, rfl, ?_⟩; have HO218 := a_ (Kd.R_lower ho0 (bZ_ (by exact gs HB.out))); replace HO192 := a_ (Kd.R_below HO192.out (tr hb)); replace HO196 := a_ (Kd.N_elder' (by (with_reducible repeat (first | apply Kd.N_alloc | apply Kd.N_drewN | apply Kd.N_drew)); exact HO196.out) (Kd.R_base ho0) hb); replace HO208 := a_ (Kd.N_elder' (by (with_reducible repeat (first | apply Kd.N_alloc | apply Kd.N_drewN | apply Kd.N_drew)); exact HO208.out) (Kd.R_base ho0) hb); replace HO212 := a_ (Kd.R_below HO212.out (tr hb)); replace HO215 := a_ (Kd.R_below HO215.out (tr hb)); replace BK193 := a_ (kB_ BK193.out (tr hb)); replace HB := a_ (bT_ (by exact gs HB.out) hb); (try clear hb); (try clear hb2); (try clear hk); (try clear hi); (try clear ho0); obtain ⟨Ao41, co41, eo41⟩ := Kd.N_slice HO196.out; subst eo41; have p221 : 0 ≤ (0 : Int) := (by omega); have q221 : 0 < (t194.length : Int) := of_decide_eq_true (by first | (with_reducible assumption) | assumption); obtain ⟨ad221, A221_0, c221_0, e221, hx221_0, hl221_0, hi221_0⟩ := at_L7 (Kd.N_reads' HO196.out).2.2 0 p221 q221; cases e221; obtain ⟨ce221, hce221, hMe221, hcc221⟩ := Kd.N_get HO196.out [] 0 p221 (by first | exact q221 | exact of_decide_eq_true (by first | (with_reducible assumption) | assumption) | (have e_ := (Kd.N_reads' HO196.out).1; omega)); obtain ⟨ua221_0, uc221_0, rfl, ul221_0, ge221_0⟩ := Kd.FK_slice_open hMe221; have hv221_0 := hcc221 0 _ rfl; rw [Nat.add_zero, show ((Kd.slice 22 (Kd.slice 3 (Kd.int .i64)))).sz = 1 from rfl, Nat.mul_one] at hv221_0; replace hv221_0 := Option.some.inj (hv221_0.symm.trans hx221_0); injection hv221_0 with hva_ hvn_ hvc_; rw [hva_] at ge221_0; rw [hvc_] at ul221_0; have HL221_0 := a_ (show Kd.V (Kd.slice 3 (Kd.int .i64)) 22 _ w.heap.size _ _ (rd_L7 t194 0) from Kd.V_mk ul221_0 ge221_0); clear hva_ hvn_ hvc_ ge221_0 ul221_0; clear hcc221 hce221; have qi221 : (0 < t194.length) = True := eq_true (by omega); (try rw [show ((0 : Int)).toNat = 0 from rfl] at hx221_0); (try rw [Addr.add_zero'] at hx221_0); have HR221_0 := a_ hi221_0; have HC221_0 := a_ hl221_0; clear hi221_0 hl221_0; replace p221 := eq_true p221; replace q221 := eq_true q221) | ((with_reducible refine gate_dst (N := 48) rfl ?_); (try (refine gate_guard (by rfl) ?_; dsimp only)); refine Kd.R_lit (Kd.int .i64) _ 3 ?hg (N := 48) ?hd (xs := ([0, 1] : List Int)) (inner := [.int .i64 0, .int .i64 1]) (ok := fun _ => True) (okp := fun _ => True) ?hr ?hp (fun _ hk => hk) trivial (Below.refl _ _) (Nat.le_refl _) (by simp) ?_; (case hd => rfl); (case hg => rfl); (case hr => first | (go_simp; done) | (go_simp; rfl)); (case hp => exact (Reps.one (show Kd.M (Kd.int .i64) _ _ _ 0 [.int .i64 0] from rfl) (Reps.one (show Kd.M (Kd.int .i64) _ _ _ 1 [.int .i64 1] from rfl) (Reps.none _ _)))); intro v223 w42 ho43 hb hg_ hnew_; clear hg_ hnew_; (first | rw [← Ny222.out] at ho43 | (simp only [Int.reduceToNat] at ho43; rw [← Ny222.out] at ho43)); have HO224 := a_ (Kd.R_lower (Kd.R_new' ho43 (Kd.R_lt (by exact rk HO218.out))) (bZ_ (by exact gs HB.out))); replace HO192 := a_ (Kd.R_below HO192.out (tr hb)); replace HO196 := a_ (Kd.N_elder' (by (with_reducible repeat (first | apply Kd.N_alloc | apply Kd.N_drewN | apply Kd.N_drew)); exact HO196.out) (Kd.R_base ho43) hb); replace HO208 := a_ (Kd.N_elder' (by (with_reducible repeat (first | apply Kd.N_alloc | apply Kd.N_drewN | apply Kd.N_drew)); exact HO208.out) (Kd.R_base ho43) hb); replace HO212 := a_ (Kd.R_below HO212.out (tr hb)); replace HO215 := a_ (Kd.R_below HO215.out (tr hb)); replace HO218 := a_ (Kd.R_elder' (by exact rk HO218.out) (Kd.R_base ho43) hb); replace HL221_0 := a_ (Kd.V_elder' (by (with_reducible repeat (first | apply Kd.V_alloc | apply Kd.V_drewN | apply Kd.V_drew)); exact HL221_0.out) (Kd.R_base ho43) hb); replace BK193 := a_ (kB_ BK193.out (tr hb)); replace HR221_0 := a_ (Kd.C_below (by repeat (first | (with_reducible exact HR221_0.out) | (with_reducible refine Kd.C_alloc ?_ _) | (with_reducible refine Kd.C_drewN ?_ _) | (with_reducible refine Kd.C_drew ?_) | exact HR221_0.out)) hb); replace HB := a_ (bT_ (by exact gs HB.out) hb); clear hb ho43) | ((with_reducible refine gate_dst (N := 49) rfl ?_); (try (refine gate_guard (by rfl) ?_; dsimp only)); refine Kd.R_lit (Kd.int .i64) _ 3 ?hg (N := 49) ?hd (xs := ([1, 0] : List Int)) (inner := [.int .i64 1, .int .i64 0]) (ok := fun _ => True) (okp := fun _ => True) ?hr ?hp (fun _ hk => hk) trivial (Below.refl _ _) (Nat.le_refl _) (by simp) ?_; (case hd => rfl); (case hg => rfl); (case hr => first | (go_simp; done) | (go_simp; rfl)); (case hp => exact (Reps.one (show Kd.M (Kd.int .i64) _ _ _ 1 [.int .i64 1] from rfl) (Reps.one (show Kd.M (Kd.int .i64) _ _ _ 0 [.int .i64 0] from rfl) (Reps.none _ _)))); intro v226 w44 ho45 hb hg_ hnew_; clear hg_ hnew_; (first | rw [← Ny225.out] at ho45 | (simp only [Int.reduceToNat] at ho45; rw [← Ny225.out] at ho45)); have HO227 := a_ (Kd.R_lower (Kd.R_new' (Kd.R_new' ho45 (Kd.R_lt (by exact rk HO218.out))) (Kd.R_lt (by exact rk HO224.out))) (bZ_ (by exact gs HB.out))); replace HO192 := a_ (Kd.R_below HO192.out (tr hb)); replace HO196 := a_ (Kd.N_elder' (by (with_reducible repeat (first | apply Kd.N_alloc | apply Kd.N_drewN | apply Kd.N_drew)); exact HO196.out) (Kd.R_base ho45) hb); replace HO208 := a_ (Kd.N_elder' (by (with_reducible repeat (first | apply Kd.N_alloc | apply Kd.N_drewN | apply Kd.N_drew)); exact HO208.out) (Kd.R_base ho45) hb); replace HO212 := a_ (Kd.R_below HO212.out (tr hb)); replace HO215 := a_ (Kd.R_below HO215.out (tr hb)); replace HO218 := a_ (Kd.R_elder' (by exact rk HO218.out) (Kd.R_base ho45) hb); replace HL221_0 := a_ (Kd.V_elder' (by (with_reducible repeat (first | apply Kd.V_alloc | apply Kd.V_drewN | apply Kd.V_drew)); exact HL221_0.out) (Kd.R_base ho45) hb); replace HO224 := a_ (Kd.R_elder' (by exact rk HO224.out) (Kd.R_base ho45) hb); replace BK193 := a_ (kB_ BK193.out (tr hb)); replace HR221_0 := a_ (Kd.C_below (by repeat (first | (with_reducible exact HR221_0.out) | (with_reducible refine Kd.C_alloc ?_ _) | (with_reducible refine Kd.C_drewN ?_ _) | (with_reducible refine Kd.C_drew ?_) | exact HR221_0.out)) hb); replace HB := a_ (bT_ (by exact gs HB.out) hb); clear hb ho45; obtain ⟨Ao46, co46, eo46⟩ := Kd.R_slice HO224.out; subst eo46; obtain ⟨Ao47, co47, eo47⟩ := Kd.R_slice HO227.out; subst eo47) | ((with_reducible refine gate_dst (N := 50) rfl ?_); (try (refine gate_guard (by rfl) ?_; dsimp only)); refine Kd.N_lit (Kd.slice 3 (Kd.int .i64)) _ 22 ?hg (N' := 50) ?hd (xs := ([y222, y225] : List (List Int))) (inner := [.slice Ao46 y222.length co46, .slice Ao47 y225.length co47]) (ok := (fun k_ => some k_ ≠ (.slice Ao21 y190.length co21 : Value).ownBlock ∧ some k_ ≠ (.slice (some ad221) t194.length co41 : Value).ownBlock ∧ some k_ ≠ (.slice Ao35 y206.length co35 : Value).ownBlock ∧ some k_ ≠ (v211 : Value).ownBlock ∧ some k_ ≠ (.slice Ao39 y213.length co39 : Value).ownBlock ∧ some k_ ≠ (v217 : Value).ownBlock ∧ k_ ≠ gb193)) (okp := (fun k_ => some k_ ≠ (.slice Ao21 y190.length co21 : Value).ownBlock ∧ some k_ ≠ (.slice (some ad221) t194.length co41 : Value).ownBlock ∧ some k_ ≠ (.slice Ao35 y206.length co35 : Value).ownBlock ∧ some k_ ≠ (v211 : Value).ownBlock ∧ some k_ ≠ (.slice Ao39 y213.length co39 : Value).ownBlock ∧ some k_ ≠ (v217 : Value).ownBlock ∧ k_ ≠ gb193)) ?hr ?hp (fun _ hk => hk) ((show ∀ k_, w44.heap.size ≤ k_ → (fun k_ => some k_ ≠ (.slice Ao21 y190.length co21 : Value).ownBlock ∧ some k_ ≠ (.slice (some ad221) t194.length co41 : Value).ownBlock ∧ some k_ ≠ (.slice Ao35 y206.length co35 : Value).ownBlock ∧ some k_ ≠ (v211 : Value).ownBlock ∧ some k_ ≠ (.slice Ao39 y213.length co39 : Value).ownBlock ∧ some k_ ≠ (v217 : Value).ownBlock ∧ k_ ≠ gb193) k_ from fun k_ hk => ⟨Kd.fresh' (Kd.R_lt (by exact rk HO192.out)) k_ hk, Kd.fresh' (Kd.N_lt (by (with_reducible repeat (first | apply Kd.N_alloc | apply Kd.N_drewN | apply Kd.N_drew)); exact HO196.out)) k_ hk, Kd.fresh' (Kd.N_lt (by (with_reducible repeat (first | apply Kd.N_alloc | apply Kd.N_drewN | apply Kd.N_drew)); exact HO208.out)) k_ hk, Kd.fresh' (Kd.R_lt (by exact rk HO212.out)) k_ hk, Kd.fresh' (Kd.R_lt (by exact rk HO215.out)) k_ hk, Kd.fresh' (Kd.R_lt (by exact rk HO218.out)) k_ hk, Kd.freshB (g := gb193) (o := .cells #[.int .i64 2, .slice Ao21 y190.length co21] 55 (0, 0)) (by exact bk BK193.out) k_ hk⟩) _ (Nat.le_refl _)) (Below.refl _ _) (Nat.le_refl _) (by simp) ?_; (case hd => rfl); (case hg => rfl); (case hr => first | (go_simp; done) | (go_simp; rfl)); (case hp => exact (Reps.one (show Kd.FK (Kd.slice 3 (Kd.int .i64)) _ _ y222 [.slice Ao46 y222.length co46] from (Kd.FK_slice_mk (Kd.R_reads' (Kd.R_mono (ok' := (fun k_ => some k_ ≠ (.slice Ao21 y190.length co21 : Value).ownBlock ∧ some k_ ≠ (.slice (some ad221) t194.length co41 : Value).ownBlock ∧ some k_ ≠ (.slice Ao35 y206.length co35 : Value).ownBlock ∧ some k_ ≠ (v211 : Value).ownBlock ∧ some k_ ≠ (.slice Ao39 y213.length co39 : Value).ownBlock ∧ some k_ ≠ (v217 : Value).ownBlock ∧ k_ ≠ gb193)) (Kd.R_types (Kd.R_apart' (Kd.R_apart' (Kd.R_apart' (Kd.R_apart' (Kd.R_apart' (HO224.out) (Kd.R_typed HO192.out) (by decide)) (Kd.N_typed HO196.out) (by decide)) (Kd.N_typed HO208.out) (by decide)) (Kd.R_typed HO212.out) (by decide)) (Kd.R_typed HO215.out) (by decide)) BK193.out (by decide)) (fun k_ hk => ⟨hk.1.1.1.1.1.2, ⟨hk.1.1.1.1.2, ⟨hk.1.1.1.2, ⟨hk.1.1.2, ⟨hk.1.2, ⟨hk.1.1.1.1.1.1.1.2, hk.2⟩⟩⟩⟩⟩⟩))).2.1 (Kd.R_F (Kd.R_mono (ok' := (fun k_ => some k_ ≠ (.slice Ao21 y190.length co21 : Value).ownBlock ∧ some k_ ≠ (.slice (some ad221) t194.length co41 : Value).ownBlock ∧ some k_ ≠ (.slice Ao35 y206.length co35 : Value).ownBlock ∧ some k_ ≠ (v211 : Value).ownBlock ∧ some k_ ≠ (.slice Ao39 y213.length co39 : Value).ownBlock ∧ some k_ ≠ (v217 : Value).ownBlock ∧ k_ ≠ gb193)) (Kd.R_types (Kd.R_apart' (Kd.R_apart' (Kd.R_apart' (Kd.R_apart' (Kd.R_apart' (HO224.out) (Kd.R_typed HO192.out) (by decide)) (Kd.N_typed HO196.out) (by decide)) (Kd.N_typed HO208.out) (by decide)) (Kd.R_typed HO212.out) (by decide)) (Kd.R_typed HO215.out) (by decide)) BK193.out (by decide)) (fun k_ hk => ⟨hk.1.1.1.1.1.2, ⟨hk.1.1.1.1.2, ⟨hk.1.1.1.2, ⟨hk.1.1.2, ⟨hk.1.2, ⟨hk.1.1.1.1.1.1.1.2, hk.2⟩⟩⟩⟩⟩⟩))))) (Reps.one (show Kd.FK (Kd.slice 3 (Kd.int .i64)) _ _ y225 [.slice Ao47 y225.length co47] from (Kd.FK_slice_mk (Kd.R_reads' (Kd.R_mono (ok' := (fun k_ => some k_ ≠ (.slice Ao21 y190.length co21 : Value).ownBlock ∧ some k_ ≠ (.slice (some ad221) t194.length co41 : Value).ownBlock ∧ some k_ ≠ (.slice Ao35 y206.length co35 : Value).ownBlock ∧ some k_ ≠ (v211 : Value).ownBlock ∧ some k_ ≠ (.slice Ao39 y213.length co39 : Value).ownBlock ∧ some k_ ≠ (v217 : Value).ownBlock ∧ k_ ≠ gb193)) (Kd.R_types (Kd.R_apart' (Kd.R_apart' (Kd.R_apart' (Kd.R_apart' (Kd.R_apart' (HO227.out) (Kd.R_typed HO192.out) (by decide)) (Kd.N_typed HO196.out) (by decide)) (Kd.N_typed HO208.out) (by decide)) (Kd.R_typed HO212.out) (by decide)) (Kd.R_typed HO215.out) (by decide)) BK193.out (by decide)) (fun k_ hk => ⟨hk.1.1.1.1.1.2, ⟨hk.1.1.1.1.2, ⟨hk.1.1.1.2, ⟨hk.1.1.2, ⟨hk.1.2, ⟨hk.1.1.1.1.1.1.1.2, hk.2⟩⟩⟩⟩⟩⟩))).2.1 (Kd.R_F (Kd.R_mono (ok' := (fun k_ => some k_ ≠ (.slice Ao21 y190.length co21 : Value).ownBlock ∧ some k_ ≠ (.slice (some ad221) t194.length co41 : Value).ownBlock ∧ some k_ ≠ (.slice Ao35 y206.length co35 : Value).ownBlock ∧ some k_ ≠ (v211 : Value).ownBlock ∧ some k_ ≠ (.slice Ao39 y213.length co39 : Value).ownBlock ∧ some k_ ≠ (v217 : Value).ownBlock ∧ k_ ≠ gb193)) (Kd.R_types (Kd.R_apart' (Kd.R_apart' (Kd.R_apart' (Kd.R_apart' (Kd.R_apart' (HO227.out) (Kd.R_typed HO192.out) (by decide)) (Kd.N_typed HO196.out) (by decide)) (Kd.N_typed HO208.out) (by decide)) (Kd.R_typed HO212.out) (by decide)) (Kd.R_typed HO215.out) (by decide)) BK193.out (by decide)) (fun k_ hk => ⟨hk.1.1.1.1.1.2, ⟨hk.1.1.1.1.2, ⟨hk.1.1.1.2, ⟨hk.1.1.2, ⟨hk.1.2, ⟨hk.1.1.1.1.1.1.1.2, hk.2⟩⟩⟩⟩⟩⟩))))) (Reps.none _ _)))); intro v229 w48 ho49 hb hg_ hnew_; clear hg_ hnew_; (first | rw [← Ny228.out] at ho49 | (simp only [Int.reduceToNat] at ho49; rw [← Ny228.out] at ho49)); have HO230 := a_ (Kd.N_lower ho49 (bZ_ (by exact gs HB.out))); replace HO192 := a_ (Kd.R_below HO192.out (tr hb)); replace HO196 := a_ (Kd.N_elder' (by (with_reducible repeat (first | apply Kd.N_alloc | apply Kd.N_drewN | apply Kd.N_drew)); exact HO196.out) (Kd.N_base ho49) hb); replace HO208 := a_ (Kd.N_elder' (by (with_reducible repeat (first | apply Kd.N_alloc | apply Kd.N_drewN | apply Kd.N_drew)); exact HO208.out) (Kd.N_base ho49) hb); replace HO212 := a_ (Kd.R_below HO212.out (tr hb)); replace HO215 := a_ (Kd.R_below HO215.out (tr hb)); replace HO218 := a_ (Kd.R_below HO218.out (tr hb)); replace HL221_0 := a_ (Kd.V_elder' (by (with_reducible repeat (first | apply Kd.V_alloc | apply Kd.V_drewN | apply Kd.V_drew)); exact HL221_0.out) (Kd.N_base ho49) hb); replace BK193 := a_ (kB_ BK193.out (tr hb)); replace HR221_0 := a_ (Kd.C_below (by repeat (first | (with_reducible exact HR221_0.out) | (with_reducible refine Kd.C_alloc ?_ _) | (with_reducible refine Kd.C_drewN ?_ _) | (with_reducible refine Kd.C_drew ?_) | exact HR221_0.out)) hb); replace HB := a_ (bT_ (by exact gs HB.out) hb); clear HO224 HO227; clear hb ho49; obtain ⟨Ao50, co50, eo50⟩ := Kd.N_slice HO230.out; subst eo50) | (go_at_call 31; (with_reducible refine (rr_Same.calls k _ _ (rd_L7 t194 0) _ _ y228 true _ ?side1 ?side2 ?side3 ?side4 A8.out).mono ?_); (case side1 => repeat (first | exact (by repeat (first | (with_reducible exact HR221_0.out) | (with_reducible refine Kd.C_alloc ?_ _) | (with_reducible refine Kd.C_drewN ?_ _) | (with_reducible refine Kd.C_drew ?_) | exact HR221_0.out)) | (with_reducible refine Kd.C_alloc ?_ _) | (with_reducible refine Kd.C_drewN ?_ _) | (with_reducible refine Kd.C_drew ?_))); (case side2 => exact HC221_0.out); (case side3 => repeat (first | exact (Kd.N_reads' HO230.out).2.2 | (with_reducible refine Kd.C_alloc ?_ _) | (with_reducible refine Kd.C_drewN ?_ _) | (with_reducible refine Kd.C_drew ?_))); (case side4 => exact (Kd.N_reads' HO230.out).2.1); rintro e w' ⟨rfl, ⟨nd, rfl⟩⟩) | ((with_reducible refine gate_dst (N := 68) rfl ?_); (try (refine gate_guard (by rfl) ?_; dsimp only)); refine Kd.R_lit Kd.string _ 9 ?hg (N := 68) ?hd (xs := ([(⟨#[98]⟩ : ByteArray), (⟨#[97, 97]⟩ : ByteArray), (⟨#[97, 98, 65]⟩ : ByteArray)] : List ByteArray)) (inner := [.string (⟨#[98]⟩ : ByteArray), .string (⟨#[97, 97]⟩ : ByteArray), .string (⟨#[97, 98, 65]⟩ : ByteArray)]) (ok := fun _ => True) (okp := fun _ => True) ?hr ?hp (fun _ hk => hk) trivial (Below.refl _ _) (Nat.le_refl _) (by simp) ?_; (case hd => rfl); (case hg => rfl); (case hr => first | (go_simp; done) | (go_simp; rfl)); (case hp => exact (Reps.one (show Kd.M Kd.string _ _ _ (⟨#[98]⟩ : ByteArray) [.string (⟨#[98]⟩ : ByteArray)] from rfl) (Reps.one (show Kd.M Kd.string _ _ _ (⟨#[97, 97]⟩ : ByteArray) [.string (⟨#[97, 97]⟩ : ByteArray)] from rfl) (Reps.one (show Kd.M Kd.string _ _ _ (⟨#[97, 98, 65]⟩ : ByteArray) [.string (⟨#[97, 98, 65]⟩ : ByteArray)] from rfl) (Reps.none _ _))))); intro v233 w51 ho52 hb hg_ hnew_; clear hg_ hnew_; (first | rw [← Ny232.out] at ho52 | (simp only [Int.reduceToNat] at ho52; rw [← Ny232.out] at ho52)); have HO234 := a_ (Kd.R_lower (Kd.R_new' (Kd.R_new' (Kd.R_new' ho52 (Kd.R_lt (by exact rk HO192.out))) (Kd.R_lt (by exact rk HO212.out))) (Kd.R_lt (by exact rk HO215.out))) (bZ_ (by exact gs HB.out))); replace HO192 := a_ (Kd.R_elder' (by exact rk HO192.out) (Kd.R_base ho52) hb); replace HO196 := a_ (Kd.N_elder' (by (with_reducible repeat (first | apply Kd.N_alloc | apply Kd.N_drewN | apply Kd.N_drew)); exact HO196.out) (Kd.R_base ho52) hb); replace HO208 := a_ (Kd.N_elder' (by (with_reducible repeat (first | apply Kd.N_alloc | apply Kd.N_drewN | apply Kd.N_drew)); exact HO208.out) (Kd.R_base ho52) hb); replace HO212 := a_ (Kd.R_elder' (by exact rk HO212.out) (Kd.R_base ho52) hb); replace HO215 := a_ (Kd.R_elder' (by exact rk HO215.out) (Kd.R_base ho52) hb); replace HO218 := a_ (Kd.R_below HO218.out (tr hb)); replace HL221_0 := a_ (Kd.V_elder' (by (with_reducible repeat (first | apply Kd.V_alloc | apply Kd.V_drewN | apply Kd.V_drew)); exact HL221_0.out) (Kd.R_base ho52) hb); replace HO230 := a_ (Kd.N_elder' (by (with_reducible repeat (first | apply Kd.N_alloc | apply Kd.N_drewN | apply Kd.N_drew)); exact HO230.out) (Kd.R_base ho52) hb); replace BK193 := a_ (kB_ BK193.out (tr hb)); replace HR221_0 := a_ (Kd.C_below (by repeat (first | (with_reducible exact HR221_0.out) | (with_reducible refine Kd.C_alloc ?_ _) | (with_reducible refine Kd.C_drewN ?_ _) | (with_reducible refine Kd.C_drew ?_) | exact HR221_0.out)) hb); replace HB := a_ (bT_ (by exact gs HB.out) hb); clear hb ho52; obtain ⟨Ao53, co53, eo53⟩ := Kd.R_slice HO212.out; subst eo53; obtain ⟨Ao54, co54, eo54⟩ := Kd.R_slice HO234.out; subst eo54) | (go_at_call 63; (with_reducible refine (rl_texts.calls k _ _ t209 _ _ y232 true _ ?side1 ?side2 ?side3 ?side4 A13.out).mono ?_); (case side1 => repeat (first | exact (Kd.R_reads' HO212.out).2.2 | (with_reducible refine Kd.C_alloc ?_ _) | (with_reducible refine Kd.C_drewN ?_ _) | (with_reducible refine Kd.C_drew ?_))); (case side2 => exact (Kd.R_reads' HO212.out).2.1); (case side3 => repeat (first | exact (Kd.R_reads' HO234.out).2.2 | (with_reducible refine Kd.C_alloc ?_ _) | (with_reducible refine Kd.C_drewN ?_ _) | (with_reducible refine Kd.C_drew ?_))); (case side4 => exact (Kd.R_reads' HO234.out).2.1); rintro e w' ⟨rfl, ⟨nd, rfl⟩⟩) | ((with_reducible refine gate_dst (N := 78) rfl ?_); (try (refine gate_guard (by rfl) ?_; dsimp only)); refine Kd.R_lit (Kd.int .i64) _ 3 ?hg (N := 78) ?hd (xs := ([2, 4] : List Int)) (inner := [.int .i64 2, .int .i64 4]) (ok := fun _ => True) (okp := fun _ => True) ?hr ?hp (fun _ hk => hk) trivial (Below.refl _ _) (Nat.le_refl _) (by simp) ?_; (case hd => rfl); (case hg => rfl); (case hr => first | (go_simp; done) | (go_simp; rfl)); (case hp => exact (Reps.one (show Kd.M (Kd.int .i64) _ _ _ 2 [.int .i64 2] from rfl) (Reps.one (show Kd.M (Kd.int .i64) _ _ _ 4 [.int .i64 4] from rfl) (Reps.none _ _)))); intro v237 w55 ho56 hb hg_ hnew_; clear hg_ hnew_; (first | rw [← Ny236.out] at ho56 | (simp only [Int.reduceToNat] at ho56; rw [← Ny236.out] at ho56)); have HO238 := a_ (Kd.R_lower (Kd.R_new' ho56 (Kd.R_lt (by exact rk HO218.out))) (bZ_ (by exact gs HB.out))); replace HO192 := a_ (Kd.R_below HO192.out (tr hb)); replace HO196 := a_ (Kd.N_elder' (by (with_reducible repeat (first | apply Kd.N_alloc | apply Kd.N_drewN | apply Kd.N_drew)); exact HO196.out) (Kd.R_base ho56) hb); replace HO208 := a_ (Kd.N_elder' (by (with_reducible repeat (first | apply Kd.N_alloc | apply Kd.N_drewN | apply Kd.N_drew)); exact HO208.out) (Kd.R_base ho56) hb); replace HO212 := a_ (Kd.R_below HO212.out (tr hb)); replace HO215 := a_ (Kd.R_below HO215.out (tr hb)); replace HO218 := a_ (Kd.R_elder' (by exact rk HO218.out) (Kd.R_base ho56) hb); replace HL221_0 := a_ (Kd.V_elder' (by (with_reducible repeat (first | apply Kd.V_alloc | apply Kd.V_drewN | apply Kd.V_drew)); exact HL221_0.out) (Kd.R_base ho56) hb); replace HO230 := a_ (Kd.N_elder' (by (with_reducible repeat (first | apply Kd.N_alloc | apply Kd.N_drewN | apply Kd.N_drew)); exact HO230.out) (Kd.R_base ho56) hb); replace HO234 := a_ (Kd.R_below HO234.out (tr hb)); replace BK193 := a_ (kB_ BK193.out (tr hb)); replace HR221_0 := a_ (Kd.C_below (by repeat (first | (with_reducible exact HR221_0.out) | (with_reducible refine Kd.C_alloc ?_ _) | (with_reducible refine Kd.C_drewN ?_ _) | (with_reducible refine Kd.C_drew ?_) | exact HR221_0.out)) hb); replace HB := a_ (bT_ (by exact gs HB.out) hb); clear hb ho56; obtain ⟨Ao57, co57, eo57⟩ := Kd.R_slice HO218.out; subst eo57; obtain ⟨Ao58, co58, eo58⟩ := Kd.R_slice HO238.out; subst eo58) | (go_at_call 47; (with_reducible refine (rl_ints.calls k _ _ t216 _ _ y236 true _ ?side1 ?side2 ?side3 ?side4 A16.out).mono ?_); (case side1 => repeat (first | exact (Kd.R_reads' HO218.out).2.2 | (with_reducible refine Kd.C_alloc ?_ _) | (with_reducible refine Kd.C_drewN ?_ _) | (with_reducible refine Kd.C_drew ?_))); (case side2 => exact (Kd.R_reads' HO218.out).2.1); (case side3 => repeat (first | exact (Kd.R_reads' HO238.out).2.2 | (with_reducible refine Kd.C_alloc ?_ _) | (with_reducible refine Kd.C_drewN ?_ _) | (with_reducible refine Kd.C_drew ?_))); (case side4 => exact (Kd.R_reads' HO238.out).2.1); rintro e w' ⟨rfl, ⟨nd, rfl⟩⟩))
 go_ret
 exact ⟨by first | rfl | (simp [errW_none, errW_some] <;> rfl) | (simp [*, errW_none, errW_some] <;> rfl), by exact gs HB.out⟩
theorem awakeK_true : awakeK.f 100 = some true := by kernel_rfl
def rl_awake.f : Option (Bool) := some true
theorem rl_awake.calls (r : Bool) (w : World) (h : rl_awake.f = some r) :
  Calls Try.prog 22 #[] w fun e w' => e = .returned (.bool r) ∧ Below w.heap.size w w' := by
 obtain rfl := Option.some.inj h
 exact awakeK.calls 100 w awakeK_true
end Go.Proofs.Ytifkldehbaphgaa.PAll
end
