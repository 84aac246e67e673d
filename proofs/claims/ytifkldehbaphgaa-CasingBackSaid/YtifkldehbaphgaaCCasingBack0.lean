/- The law CasingBack returns true for every input: a table that is numbered anew from a sheet, and again from the place of the sheet 0, is the table; and both are alike. No condition. Part 1 of 3. -/
import Derived.Maps.OwnSet
import Derived.DeepKeys4
import Derived.Below
import Derived.Laws.CopyRow
import Derived.Laws.CopyOwn
import Derived.Laws.Tables
import Derived.Test.YtifkldehbaphgaaB3
set_option linter.all false
set_option maxHeartbeats 8000000
set_option maxRecDepth 100000
section
namespace Go.Proofs.Ytifkldehbaphgaa.PAll
open Go.RowKit Go.PW.PrintWords Go.PW.PrintLast Go.PW.PrintMore
attribute [local go_sem] max2_int max_two
def rl_mod.f (a0 : Int) (a1 : Int) : Option (Int) := if (IntKind.u64.wrap (a1)) = 0 then (none) else (some (wrap64 (Int.tmod (IntKind.u64.wrap (a0)) (IntKind.u64.wrap (a1)))))
theorem rl_mod.calls (a0 : Int) (a1 : Int) (r : Int) (w : World) (h : rl_mod.f a0 a1 = some r) :
  Calls Try.prog 16 #[.int .i64 a0, .int .i64 a1] w fun e w' => e = .returned (.int .i64 r) ∧ Drawn0 w w' := by
 have H : (if (IntKind.u64.wrap (a1)) = 0 then (none) else (some (wrap64 (Int.tmod (IntKind.u64.wrap (a0)) (IntKind.u64.wrap (a1)))))) = some r := h
 clear h
 by_cases c3 : (IntKind.u64.wrap (a1)) = 0
 ·rw [if_pos c3] at H
  exact absurd H (by simp)
 rw [if_neg c3] at H
 have c3b0 : ((IntKind.u64.wrap (a1)) == 0) = false := beq_eq_false_iff_ne.mpr c3
 have c3b1 : ((IntKind.u64.wrap (a1)) != 0) = true := bne_iff_ne.mpr c3
 obtain rfl := Option.some.inj H
 go_enter Try.func16, Try.ntmps16
 go_wp2
 go_ret
 exact ⟨by first | rfl | (simp; done) | (simp [*]; done), by repeat (first | exact Drawn0.refl _ | apply Drawn0.step)⟩
def c_table_isConnected.f (k : Nat) (a0_0 : Int) (a0_1 : Int) (a0_2 : Int) (a0_3 : Int) (a0_4 : Int) (a0_5 : Int) (a0_6 : Int) (a0_7 : Int) (a0_8 : Int) (a0_9 : Int) (a0_10 : Int) (a0_11 : Int) : Option (Bool) := (c_table_order.f k a0_0 a0_1 a0_2 a0_3 a0_4 a0_5 a0_6 a0_7 a0_8 a0_9 a0_10 a0_11 0).bind fun bt282 => (some ((bt282.1.length : Int) == a0_1))
theorem c_table_isConnected.calls (k : Nat) (a0_0 : Int) (a0_1 : Int) (a0_2 : Int) (a0_3 : Int) (a0_4 : Int) (a0_5 : Int) (a0_6 : Int) (a0_7 : Int) (a0_8 : Int) (a0_9 : Int) (a0_10 : Int) (a0_11 : Int) (r : Bool) (w : World) (h : c_table_isConnected.f k a0_0 a0_1 a0_2 a0_3 a0_4 a0_5 a0_6 a0_7 a0_8 a0_9 a0_10 a0_11 = some r) :
  Calls Try.prog 64 #[.agg #[.int .i64 a0_0, .int .i64 a0_1, .int .i64 a0_2, .int .i64 a0_3, .int .i64 a0_4, .int .i64 a0_5, .int .i64 a0_6, .int .i64 a0_7, .int .i64 a0_8, .int .i64 a0_9, .int .i64 a0_10, .int .i64 a0_11]] w fun e w' => e = .returned (.bool r) ∧ Below w.heap.size w w' := by
 have hu78 := Try.underlying78
 have HB := a_ (Below.refl w.heap.size w)
 have H : ((c_table_order.f k a0_0 a0_1 a0_2 a0_3 a0_4 a0_5 a0_6 a0_7 a0_8 a0_9 a0_10 a0_11 0).bind fun bt282 => (some ((bt282.1.length : Int) == a0_1))) = some r := h
 clear h
 replace H := Option.bind_eq_some_iff.mp H
 obtain ⟨⟨t282, t285⟩, A20, H⟩ := H
 try dsimp only at H
 have A2 := a_ A20
 clear A20
 obtain rfl := Option.some.inj H
 go_enter Try.func64, Try.ntmps64
 go_wp2_with (first | ((with_reducible refine gate_dst (N := 1) rfl ?_); refine box_event ?hg (N := 1) ?hd (cs := #[.int .i64 a0_0, .int .i64 a0_1, .int .i64 a0_2, .int .i64 a0_3, .int .i64 a0_4, .int .i64 a0_5, .int .i64 a0_6, .int .i64 a0_7, .int .i64 a0_8, .int .i64 a0_9, .int .i64 a0_10, .int .i64 a0_11]) (t := 78) ?hr ?_; (case hd => rfl); (case hg => rfl); (case hr => first | (go_simp; done) | (go_simp; rfl)); intro gb281 hg w3 hbox hb; have BK281 := a_ (hbox); have GW281 := a_ ((by rw [hg]; exact (bZ_ (gr HB.out)) : w.heap.size ≤ gb281)); have GE281 := GEc.mk ((by rw [hg]; exact (bZ_ (gr HB.out)) : w.heap.size ≤ gb281)); replace HB := a_ (bT_ HB.out (tr hb)); clear hb hbox hg; obtain ⟨hcz4_0, hcz4_1, hcz4_2, hcz4_3, hcz4_4, hcz4_5, hcz4_6, hcz4_7, hcz4_8, hcz4_9, hcz4_10, hcz4_11⟩ := cs12 BK281.out; have hfz4_0 := kf_ BK281.out 0; have hfz4_1 := kf_ BK281.out 1; have hfz4_2 := kf_ BK281.out 2; have hfz4_3 := kf_ BK281.out 3; have hfz4_4 := kf_ BK281.out 4; have hfz4_5 := kf_ BK281.out 5; have hfz4_6 := kf_ BK281.out 6; have hfz4_7 := kf_ BK281.out 7; have hfz4_8 := kf_ BK281.out 8; have hfz4_9 := kf_ BK281.out 9; have hfz4_10 := kf_ BK281.out 10; have hfz4_11 := kf_ BK281.out 11) | ((with_reducible refine gate_callee (f := 53) rfl ?_); refine goesL_ (some 7) rfl rfl Try.func53 (by kernel_rfl) rfl #[.agg #[.int .i64 a0_0, .int .i64 a0_1, .int .i64 a0_2, .int .i64 a0_3, .int .i64 a0_4, .int .i64 a0_5, .int .i64 a0_6, .int .i64 a0_7, .int .i64 a0_8, .int .i64 a0_9, .int .i64 a0_10, .int .i64 a0_11], .int .i64 0] rfl (by (try simp only [List.map_toArray, List.map_cons, List.map_nil]); first | done | rfl | (simp only [List.length_drop, List.length_take]; rfl)) ?_; (with_reducible refine (c_table_order.calls k a0_0 a0_1 a0_2 a0_3 a0_4 a0_5 a0_6 a0_7 a0_8 a0_9 a0_10 a0_11 0 t282 t285 _ A2.out).mono ?_); rintro e w5 ⟨v283, v286, rfl, ho0, ho1, hb⟩; refine ⟨_, rfl, ?_⟩; have HO284 := a_ (Kd.R_lower ho0 (bZ_ (by exact gs HB.out))); have HO287 := a_ (Kd.R_lower ho1 (bZ_ (by exact gs HB.out))); replace BK281 := a_ (kB_ BK281.out (tr hb)); replace HB := a_ (bT_ (by exact gs HB.out) hb); obtain ⟨Ao6, co6, eo6⟩ := Kd.R_slice HO284.out; subst eo6; obtain ⟨hcz7_0, hcz7_1, hcz7_2, hcz7_3, hcz7_4, hcz7_5, hcz7_6, hcz7_7, hcz7_8, hcz7_9, hcz7_10, hcz7_11⟩ := cs12 BK281.out; have hfz7_0 := kf_ BK281.out 0; have hfz7_1 := kf_ BK281.out 1; have hfz7_2 := kf_ BK281.out 2; have hfz7_3 := kf_ BK281.out 3; have hfz7_4 := kf_ BK281.out 4; have hfz7_5 := kf_ BK281.out 5; have hfz7_6 := kf_ BK281.out 6; have hfz7_7 := kf_ BK281.out 7; have hfz7_8 := kf_ BK281.out 8; have hfz7_9 := kf_ BK281.out 9; have hfz7_10 := kf_ BK281.out 10; have hfz7_11 := kf_ BK281.out 11))
 go_ret
 exact ⟨by first | rfl | (simp [errW_none, errW_some] <;> rfl) | (simp [*, errW_none, errW_some] <;> rfl), by exact gs HB.out⟩
def rowC (a b : Int) (L : List Int) : Array Value := ((a :: b :: L).map (Value.int .i64)).toArray
theorem rowC_cell (a b : Int) (L : List Int) (j : Nat) (hj : j < L.length) : (rowC a b L)[2 + j]? = some (.int .i64 (L.getD j 0)) := by
 rw [Nat.add_comm]
 simp [rowC, hj]
theorem rowC_set (a b : Int) (L : List Int) (j : Nat) (v : Int) : (rowC a b L).setIfInBounds (2 + j) (.int .i64 v) = rowC a b (L.set j v) := by
 rw [Nat.add_comm]
 simp [rowC]
theorem ten_of (L : List Int) (h : L.length = 10) : ∃ y0 y1 y2 y3 y4 y5 y6 y7 y8 y9, L = [y0, y1, y2, y3, y4, y5, y6, y7, y8, y9] := by
 match L, h with
 | [y0, y1, y2, y3, y4, y5, y6, y7, y8, y9], _ => exact ⟨y0, y1, y2, y3, y4, y5, y6, y7, y8, y9, rfl⟩
mutual
def c_table_renumbered.l0 : Nat → List Int → Int → Int → Int → Int → Int → Int → Int → Int → Int → Int → Int → Int → Int → Int → List Int → Option (List Int)
 | 0, _, _, _, _, _, _, _, _, _, _, _, _, _, _, _, _ => none
 | k + 1, l, g, q, a0, a1, a2, a3, a4, a5, a6, a7, a8, a9, a10, a11, L => if q < g then (c_table_renumbered.l1 k l g q 0 a0 a1 a2 a3 a4 a5 a6 a7 a8 a9 a10 a11 L) else some L
def c_table_renumbered.l1 : Nat → List Int → Int → Int → Int → Int → Int → Int → Int → Int → Int → Int → Int → Int → Int → Int → Int → List Int → Option (List Int)
 | 0, _, _, _, _, _, _, _, _, _, _, _, _, _, _, _, _, _ => none
 | k + 1, l, g, q, i, a0, a1, a2, a3, a4, a5, a6, a7, a8, a9, a10, a11, L => if i < (l.length : Int) then (if 0 ≤ i then (if i < (l.length : Int) then ((colAtF a0 a1 a2 a3 a4 a5 a6 a7 a8 a9 a10 a11 q (rd l i)).bind fun t => ((sl_Index_int_int.f k l t).bind fun u => (if (0 ≤ q ∧ q < 2) ∧ i < 5 then (c_table_renumbered.l1 k l g q (wrap64 (i + 1)) a0 a1 a2 a3 a4 a5 a6 a7 a8 a9 a10 a11 (L.set (q.toNat * 5 + i.toNat) u)) else none))) else none) else none) else (c_table_renumbered.l0 k l g (wrap64 (q + 1)) a0 a1 a2 a3 a4 a5 a6 a7 a8 a9 a10 a11 L)
end
def c_table_renumbered.f (k : Nat) (a0_0 : Int) (a0_1 : Int) (a0_2 : Int) (a0_3 : Int) (a0_4 : Int) (a0_5 : Int) (a0_6 : Int) (a0_7 : Int) (a0_8 : Int) (a0_9 : Int) (a0_10 : Int) (a0_11 : Int) (a1 : Int) : Option (Int × Int × Int × Int × Int × Int × Int × Int × Int × Int × Int × Int) := (c_table_order.f k a0_0 a0_1 a0_2 a0_3 a0_4 a0_5 a0_6 a0_7 a0_8 a0_9 a0_10 a0_11 a1).bind fun bt => ((c_table_renumbered.l0 k bt.1 a0_0 0 a0_0 a0_1 a0_2 a0_3 a0_4 a0_5 a0_6 a0_7 a0_8 a0_9 a0_10 a0_11 (List.replicate 10 0)).bind fun L => some (a0_0, a0_1, L.getD 0 0, L.getD 1 0, L.getD 2 0, L.getD 3 0, L.getD 4 0, L.getD 5 0, L.getD 6 0, L.getD 7 0, L.getD 8 0, L.getD 9 0))
theorem c_table_renumbered.calls (k : Nat) (a0_0 : Int) (a0_1 : Int) (a0_2 : Int) (a0_3 : Int) (a0_4 : Int) (a0_5 : Int) (a0_6 : Int) (a0_7 : Int) (a0_8 : Int) (a0_9 : Int) (a0_10 : Int) (a0_11 : Int) (a1 : Int) (r1 : Int) (r2 : Int) (r3 : Int) (r4 : Int) (r5 : Int) (r6 : Int) (r7 : Int) (r8 : Int) (r9 : Int) (r10 : Int) (r11 : Int) (r12 : Int) (w : World) (h : c_table_renumbered.f k a0_0 a0_1 a0_2 a0_3 a0_4 a0_5 a0_6 a0_7 a0_8 a0_9 a0_10 a0_11 a1 = some (r1, r2, r3, r4, r5, r6, r7, r8, r9, r10, r11, r12)) :
  Calls Try.prog 65 #[.agg #[.int .i64 a0_0, .int .i64 a0_1, .int .i64 a0_2, .int .i64 a0_3, .int .i64 a0_4, .int .i64 a0_5, .int .i64 a0_6, .int .i64 a0_7, .int .i64 a0_8, .int .i64 a0_9, .int .i64 a0_10, .int .i64 a0_11], .int .i64 a1] w fun e w' => e = .returned (.agg #[.int .i64 r1, .int .i64 r2, .int .i64 r3, .int .i64 r4, .int .i64 r5, .int .i64 r6, .int .i64 r7, .int .i64 r8, .int .i64 r9, .int .i64 r10, .int .i64 r11, .int .i64 r12]) ∧ Below w.heap.size w w' := by
 have hu78 := Try.underlying78
 have HB := a_ (Below.refl w.heap.size w)
 have H := h
 unfold c_table_renumbered.f at H
 clear h
 replace H := Option.bind_eq_some_iff.mp H
 obtain ⟨⟨t205, t208⟩, A30, H⟩ := H
 have A3 := a_ A30
 clear A30
 replace H := Option.bind_eq_some_iff.mp H
 obtain ⟨LF, H0_, H⟩ := H
 have HR_ := a_ H
 have H' := a_ (show c_table_renumbered.l0 k t205 a0_0 0 a0_0 a0_1 a0_2 a0_3 a0_4 a0_5 a0_6 a0_7 a0_8 a0_9 a0_10 a0_11 (List.replicate 10 0) = some LF from H0_)
 clear H H0_
 go_enter Try.func65, Try.ntmps65
 go_wp2_with (first | ((with_reducible refine gate_dst (N := 2) rfl ?_); refine box_event ?hg (N := 2) ?hd (cs := #[.int .i64 a0_0, .int .i64 a0_1, .int .i64 a0_2, .int .i64 a0_3, .int .i64 a0_4, .int .i64 a0_5, .int .i64 a0_6, .int .i64 a0_7, .int .i64 a0_8, .int .i64 a0_9, .int .i64 a0_10, .int .i64 a0_11]) (t := 78) ?hr ?_; (case hd => rfl); (case hg => rfl); (case hr => first | (go_simp; done) | (go_simp; rfl)); intro gb203 hg w4 hbox hb; have BK203 := a_ (hbox); have GW203 := a_ ((by rw [hg]; exact (bZ_ (gr HB.out)) : w.heap.size ≤ gb203)); have GE203 := GEc.mk ((by rw [hg]; exact (bZ_ (gr HB.out)) : w.heap.size ≤ gb203)); replace HB := a_ (bT_ HB.out (tr hb)); clear hb hbox hg) | ((with_reducible refine gate_dst (N := 4) rfl ?_); refine box_event ?hg (N := 4) ?hd (cs := #[.int .i64 0, .int .i64 0, .int .i64 0, .int .i64 0, .int .i64 0, .int .i64 0, .int .i64 0, .int .i64 0, .int .i64 0, .int .i64 0, .int .i64 0, .int .i64 0]) (t := 78) ?hr ?_; (case hd => rfl); (case hg => rfl); (case hr => first | (go_simp; done) | (go_simp; rfl)); intro gb204 hg w5 hbox hb; have BK204 := a_ (hbox); have GW204 := a_ ((by rw [hg]; exact (bZ_ (by exact gs HB.out)) : w.heap.size ≤ gb204)); have GE204 := GEc.mk ((by rw [hg]; exact (bZ_ (by exact gs HB.out)) : w.heap.size ≤ gb204)); have NB203_204 := NEc.mk ((by rw [hg]; exact Nat.ne_of_lt (blk_lt (g := gb203) (o := .cells #[.int .i64 a0_0, .int .i64 a0_1, .int .i64 a0_2, .int .i64 a0_3, .int .i64 a0_4, .int .i64 a0_5, .int .i64 a0_6, .int .i64 a0_7, .int .i64 a0_8, .int .i64 a0_9, .int .i64 a0_10, .int .i64 a0_11] 78 (0, 0)) (by exact bk BK203.out)) : gb203 ≠ gb204)); have NB204_203 := NEc.mk ((by rw [hg]; exact Nat.ne_of_gt (blk_lt (g := gb203) (o := .cells #[.int .i64 a0_0, .int .i64 a0_1, .int .i64 a0_2, .int .i64 a0_3, .int .i64 a0_4, .int .i64 a0_5, .int .i64 a0_6, .int .i64 a0_7, .int .i64 a0_8, .int .i64 a0_9, .int .i64 a0_10, .int .i64 a0_11] 78 (0, 0)) (by exact bk BK203.out)) : gb204 ≠ gb203)); replace BK203 := a_ (kB_ BK203.out (tr hb)); replace HB := a_ (bT_ (by exact gs HB.out) hb); clear hb hbox hg; have hnb6 := NB203_204.out; have hnc6 := NB204_203.out; obtain ⟨hcz7_0, hcz7_1, hcz7_2, hcz7_3, hcz7_4, hcz7_5, hcz7_6, hcz7_7, hcz7_8, hcz7_9, hcz7_10, hcz7_11⟩ := cs12 BK203.out; have hfz7_0 := kf_ BK203.out 0; have hfz7_1 := kf_ BK203.out 1; have hfz7_2 := kf_ BK203.out 2; have hfz7_3 := kf_ BK203.out 3; have hfz7_4 := kf_ BK203.out 4; have hfz7_5 := kf_ BK203.out 5; have hfz7_6 := kf_ BK203.out 6; have hfz7_7 := kf_ BK203.out 7; have hfz7_8 := kf_ BK203.out 8; have hfz7_9 := kf_ BK203.out 9; have hfz7_10 := kf_ BK203.out 10; have hfz7_11 := kf_ BK203.out 11) | ((with_reducible refine gate_callee (f := 53) rfl ?_); refine goesL_ (some 14) rfl rfl Try.func53 (by kernel_rfl) rfl #[.agg #[.int .i64 a0_0, .int .i64 a0_1, .int .i64 a0_2, .int .i64 a0_3, .int .i64 a0_4, .int .i64 a0_5, .int .i64 a0_6, .int .i64 a0_7, .int .i64 a0_8, .int .i64 a0_9, .int .i64 a0_10, .int .i64 a0_11], .int .i64 a1] rfl (by (try simp only [List.map_toArray, List.map_cons, List.map_nil]); first | done | rfl | (simp only [List.length_drop, List.length_take]; rfl)) ?_; (with_reducible refine (c_table_order.calls k a0_0 a0_1 a0_2 a0_3 a0_4 a0_5 a0_6 a0_7 a0_8 a0_9 a0_10 a0_11 a1 t205 t208 _ A3.out).mono ?_); rintro e w8 ⟨v206, v209, rfl, ho0, ho1, hb⟩; refine ⟨_, rfl, ?_⟩; have HO207 := a_ (Kd.R_lower ho0 (bZ_ (by exact gs HB.out))); have HO210 := a_ (Kd.R_lower ho1 (bZ_ (by exact gs HB.out))); replace BK203 := a_ (kB_ BK203.out (tr hb)); replace BK204 := a_ (kB_ BK204.out (tr hb)); replace HB := a_ (bT_ (by exact gs HB.out) hb); obtain ⟨hcz9_0, hcz9_1, hcz9_2, hcz9_3, hcz9_4, hcz9_5, hcz9_6, hcz9_7, hcz9_8, hcz9_9, hcz9_10, hcz9_11⟩ := cs12 BK203.out; have hfz9_0 := kf_ BK203.out 0; have hfz9_1 := kf_ BK203.out 1; have hfz9_2 := kf_ BK203.out 2; have hfz9_3 := kf_ BK203.out 3; have hfz9_4 := kf_ BK203.out 4; have hfz9_5 := kf_ BK203.out 5; have hfz9_6 := kf_ BK203.out 6; have hfz9_7 := kf_ BK203.out 7; have hfz9_8 := kf_ BK203.out 8; have hfz9_9 := kf_ BK203.out 9; have hfz9_10 := kf_ BK203.out 10; have hfz9_11 := kf_ BK203.out 11) | ((with_reducible refine gate_dst (N := 7) rfl ?_); refine box_event ?hg (N := 7) ?hd (cs := #[.int .i64 0, .int .i64 0, .int .i64 0, .int .i64 0, .int .i64 0, .int .i64 0, .int .i64 0, .int .i64 0, .int .i64 0, .int .i64 0, .int .i64 0, .int .i64 0]) (t := 78) ?hr ?_; (case hd => rfl); (case hg => rfl); (case hr => first | (go_simp; done) | (go_simp; rfl)); intro gb211 hg w10 hbox hb; have BK211 := a_ (hbox); have GW211 := a_ ((by rw [hg]; exact (bZ_ (by exact gs HB.out)) : w.heap.size ≤ gb211)); have GE211 := GEc.mk ((by rw [hg]; exact (bZ_ (by exact gs HB.out)) : w.heap.size ≤ gb211)); have NB203_211 := NEc.mk ((by rw [hg]; exact Nat.ne_of_lt (blk_lt (g := gb203) (o := .cells #[.int .i64 a0_0, .int .i64 a0_1, .int .i64 a0_2, .int .i64 a0_3, .int .i64 a0_4, .int .i64 a0_5, .int .i64 a0_6, .int .i64 a0_7, .int .i64 a0_8, .int .i64 a0_9, .int .i64 a0_10, .int .i64 a0_11] 78 (0, 0)) (by exact bk BK203.out)) : gb203 ≠ gb211)); have NB211_203 := NEc.mk ((by rw [hg]; exact Nat.ne_of_gt (blk_lt (g := gb203) (o := .cells #[.int .i64 a0_0, .int .i64 a0_1, .int .i64 a0_2, .int .i64 a0_3, .int .i64 a0_4, .int .i64 a0_5, .int .i64 a0_6, .int .i64 a0_7, .int .i64 a0_8, .int .i64 a0_9, .int .i64 a0_10, .int .i64 a0_11] 78 (0, 0)) (by exact bk BK203.out)) : gb211 ≠ gb203)); have NB204_211 := NEc.mk ((by rw [hg]; exact Nat.ne_of_lt (blk_lt (g := gb204) (o := .cells #[.int .i64 0, .int .i64 0, .int .i64 0, .int .i64 0, .int .i64 0, .int .i64 0, .int .i64 0, .int .i64 0, .int .i64 0, .int .i64 0, .int .i64 0, .int .i64 0] 78 (0, 0)) (by exact bk BK204.out)) : gb204 ≠ gb211)); have NB211_204 := NEc.mk ((by rw [hg]; exact Nat.ne_of_gt (blk_lt (g := gb204) (o := .cells #[.int .i64 0, .int .i64 0, .int .i64 0, .int .i64 0, .int .i64 0, .int .i64 0, .int .i64 0, .int .i64 0, .int .i64 0, .int .i64 0, .int .i64 0, .int .i64 0] 78 (0, 0)) (by exact bk BK204.out)) : gb211 ≠ gb204)); replace HO207 := a_ (Kd.R_below HO207.out (tr hb)); replace HO210 := a_ (Kd.R_below HO210.out (tr hb)); replace BK203 := a_ (kB_ BK203.out (tr hb)); replace BK204 := a_ (kB_ BK204.out (tr hb)); replace HB := a_ (bT_ (by exact gs HB.out) hb); clear hb hbox hg; have hnb11 := NB211_203.out; have hnc11 := NB203_211.out; have hnb12 := NB211_204.out; have hnc12 := NB204_211.out; obtain ⟨hcz13_0, hcz13_1, hcz13_2, hcz13_3, hcz13_4, hcz13_5, hcz13_6, hcz13_7, hcz13_8, hcz13_9, hcz13_10, hcz13_11⟩ := cs12 BK211.out; have hfz13_0 := kf_ BK211.out 0; have hfz13_1 := kf_ BK211.out 1; have hfz13_2 := kf_ BK211.out 2; have hfz13_3 := kf_ BK211.out 3; have hfz13_4 := kf_ BK211.out 4; have hfz13_5 := kf_ BK211.out 5; have hfz13_6 := kf_ BK211.out 6; have hfz13_7 := kf_ BK211.out 7; have hfz13_8 := kf_ BK211.out 8; have hfz13_9 := kf_ BK211.out 9; have hfz13_10 := kf_ BK211.out 10; have hfz13_11 := kf_ BK211.out 11; obtain ⟨hcz14_0, hcz14_1, hcz14_2, hcz14_3, hcz14_4, hcz14_5, hcz14_6, hcz14_7, hcz14_8, hcz14_9, hcz14_10, hcz14_11⟩ := cs12 BK203.out; have hfz14_0 := kf_ BK203.out 0; have hfz14_1 := kf_ BK203.out 1; have hfz14_2 := kf_ BK203.out 2; have hfz14_3 := kf_ BK203.out 3; have hfz14_4 := kf_ BK203.out 4; have hfz14_5 := kf_ BK203.out 5; have hfz14_6 := kf_ BK203.out 6; have hfz14_7 := kf_ BK203.out 7; have hfz14_8 := kf_ BK203.out 8; have hfz14_9 := kf_ BK203.out 9; have hfz14_10 := kf_ BK203.out 10; have hfz14_11 := kf_ BK203.out 11))
 go_loopg [24] k (fun kq v24 w' => ∃ (x24_1 : Int) (L_1 : List Int), v24 = .int .i64 x24_1 ∧ Aside0 (c_table_renumbered.l0 kq t205 a0_0 x24_1 a0_0 a0_1 a0_2 a0_3 a0_4 a0_5 a0_6 a0_7 a0_8 a0_9 a0_10 a0_11 L_1 = some LF) ∧ Aside0 (L_1.length = 10) ∧ Aside0 (kq ≤ k) ∧ Aside0 (Kd.R (Kd.int .i64) 3 w' w.heap.size (fun _ => True) v206 t205) ∧ Aside0 (w'.heap[gb203]? = some (.cells #[.int .i64 a0_0, .int .i64 a0_1, .int .i64 a0_2, .int .i64 a0_3, .int .i64 a0_4, .int .i64 a0_5, .int .i64 a0_6, .int .i64 a0_7, .int .i64 a0_8, .int .i64 a0_9, .int .i64 a0_10, .int .i64 a0_11] 78 (0, 0))) ∧ Aside0 (w'.heap[gb204]? = some (.cells #[.int .i64 0, .int .i64 0, .int .i64 0, .int .i64 0, .int .i64 0, .int .i64 0, .int .i64 0, .int .i64 0, .int .i64 0, .int .i64 0, .int .i64 0, .int .i64 0] 78 (0, 0))) ∧ Aside0 (w'.heap[gb211]? = some (.cells (rowC a0_0 a0_1 L_1) 78 (0, 0))) ∧ Aside0 (Below w.heap.size w w'))
 case atStart => exact ⟨(0), (List.replicate 10 0), (by first | rfl | (simp; done) | (simp [*]; done)), H', ⟨rfl⟩, ⟨Nat.le_refl _⟩, ⟨by exact rk (Kd.R_mono (Kd.R_far (p := ⟨gb211, 11, none⟩) (Kd.R_far (p := ⟨gb211, 10, none⟩) (Kd.R_far (p := ⟨gb211, 9, none⟩) (Kd.R_far (p := ⟨gb211, 8, none⟩) (Kd.R_far (p := ⟨gb211, 7, none⟩) (Kd.R_far (p := ⟨gb211, 6, none⟩) (Kd.R_far (p := ⟨gb211, 5, none⟩) (Kd.R_far (p := ⟨gb211, 4, none⟩) (Kd.R_far (p := ⟨gb211, 3, none⟩) (Kd.R_far (p := ⟨gb211, 2, none⟩) (Kd.R_far (p := ⟨gb211, 1, none⟩) (Kd.R_far (p := ⟨gb211, 0, none⟩) (Kd.R_types HO207.out BK211.out (by decide)) (fun _ hk => hk.2) (.int .i64 a0_0)) (fun _ hk => hk.2) (.int .i64 a0_1)) (fun _ hk => hk.2) (.int .i64 0)) (fun _ hk => hk.2) (.int .i64 0)) (fun _ hk => hk.2) (.int .i64 0)) (fun _ hk => hk.2) (.int .i64 0)) (fun _ hk => hk.2) (.int .i64 0)) (fun _ hk => hk.2) (.int .i64 0)) (fun _ hk => hk.2) (.int .i64 0)) (fun _ hk => hk.2) (.int .i64 0)) (fun _ hk => hk.2) (.int .i64 0)) (fun _ hk => hk.2) (.int .i64 0)) (fun _ hk => trivial))⟩, ⟨by exact bk BK203.out⟩, ⟨by exact bk BK204.out⟩, ⟨by exact pb BK211.out (by rfl)⟩, ⟨by exact gs HB.out⟩⟩
 clear H'
 obtain ⟨x24_1, L_1, rfl, HA, HL_1, HK1, HO_5, BK203, BK204, BK211, HB⟩ := hrel
 cases gk with
 | zero => exact absurd HA.out (by simp [c_table_renumbered.l0])
 | succ k1 =>
  have H := HA.out
  clear HA
  simp only [c_table_renumbered.l0] at H
  by_cases c15 : x24_1 < a0_0
  rotate_left
  ·rw [if_neg c15] at H
   have c15b0 : decide (x24_1 < a0_0) = false := decide_eq_false c15
   clear c15
   obtain rfl := Option.some.inj H
   obtain ⟨Xa2_1, Xa3_1, Xa4_1, Xa5_1, Xa6_1, Xa7_1, Xa8_1, Xa9_1, Xa10_1, Xa11_1, hten_⟩ := ten_of _ HL_1.out
   subst hten_
   have H := HR_.out
   simp only [List.getD_cons_zero, List.getD_cons_succ] at H
   replace BK211 := a_ (show wr.heap[gb211]? = some (.cells #[.int .i64 a0_0, .int .i64 a0_1, .int .i64 Xa2_1, .int .i64 Xa3_1, .int .i64 Xa4_1, .int .i64 Xa5_1, .int .i64 Xa6_1, .int .i64 Xa7_1, .int .i64 Xa8_1, .int .i64 Xa9_1, .int .i64 Xa10_1, .int .i64 Xa11_1] 78 (0, 0)) from BK211.out)
   simp only [Option.some.injEq, Prod.mk.injEq] at H
   obtain ⟨rfl, rfl, rfl, rfl, rfl, rfl, rfl, rfl, rfl, rfl, rfl, rfl⟩ := H
   have hnb64 := NB211_203.out
   have hnc64 := NB203_211.out
   have hnb65 := NB211_204.out
   have hnc65 := NB204_211.out
   obtain ⟨hcz66_0, hcz66_1, hcz66_2, hcz66_3, hcz66_4, hcz66_5, hcz66_6, hcz66_7, hcz66_8, hcz66_9, hcz66_10, hcz66_11⟩ := cs12 BK211.out
   have hfz66_0 := kf_ BK211.out 0
   have hfz66_1 := kf_ BK211.out 1
   have hfz66_2 := kf_ BK211.out 2
   have hfz66_3 := kf_ BK211.out 3
   have hfz66_4 := kf_ BK211.out 4
   have hfz66_5 := kf_ BK211.out 5
   have hfz66_6 := kf_ BK211.out 6
   have hfz66_7 := kf_ BK211.out 7
   have hfz66_8 := kf_ BK211.out 8
   have hfz66_9 := kf_ BK211.out 9
   have hfz66_10 := kf_ BK211.out 10
   have hfz66_11 := kf_ BK211.out 11
   have hnb67 := NB204_203.out
   have hnc67 := NB203_204.out
   obtain ⟨hcz68_0, hcz68_1, hcz68_2, hcz68_3, hcz68_4, hcz68_5, hcz68_6, hcz68_7, hcz68_8, hcz68_9, hcz68_10, hcz68_11⟩ := cs12 BK204.out
   have hfz68_0 := kf_ BK204.out 0
   have hfz68_1 := kf_ BK204.out 1
   have hfz68_2 := kf_ BK204.out 2
   have hfz68_3 := kf_ BK204.out 3
   have hfz68_4 := kf_ BK204.out 4
   have hfz68_5 := kf_ BK204.out 5
   have hfz68_6 := kf_ BK204.out 6
   have hfz68_7 := kf_ BK204.out 7
   have hfz68_8 := kf_ BK204.out 8
   have hfz68_9 := kf_ BK204.out 9
   have hfz68_10 := kf_ BK204.out 10
   have hfz68_11 := kf_ BK204.out 11
   go_wp2
   refine bodyPost_ret (results_cell_row rfl _ _ gb204 78 #[.int .i64 a0_0, .int .i64 a0_1, .int .i64 Xa2_1, .int .i64 Xa3_1, .int .i64 Xa4_1, .int .i64 Xa5_1, .int .i64 Xa6_1, .int .i64 Xa7_1, .int .i64 Xa8_1, .int .i64 Xa9_1, .int .i64 Xa10_1, .int .i64 Xa11_1] (0, 0) _ rfl (by exact pb BK204.out (by rfl)) Try.underlying78 rfl (by kernel_rfl)) rfl ?_
   exact ⟨by first | rfl | (simp [errW_none, errW_some] <;> rfl) | (simp [*, errW_none, errW_some] <;> rfl), by exact gs HB.out⟩
  rw [if_pos c15] at H
  have c15b0 : decide (x24_1 < a0_0) = true := decide_eq_true c15
  clear c15
  have H' := a_ H
  clear H
  obtain ⟨Ao16, co16, eo16⟩ := Kd.R_slice HO_5.out
  subst eo16
  go_wp2
  go_loopg [29] k1 (fun kq v29 w' => ∃ (x29_2 : Int) (L_2 : List Int), v29 = .int .i64 x29_2 ∧ Aside0 (c_table_renumbered.l1 kq t205 a0_0 x24_1 x29_2 a0_0 a0_1 a0_2 a0_3 a0_4 a0_5 a0_6 a0_7 a0_8 a0_9 a0_10 a0_11 L_2 = some LF) ∧ Aside0 (L_2.length = 10) ∧ Aside0 (kq ≤ k1) ∧ Aside0 (Kd.R (Kd.int .i64) 3 w' w.heap.size (fun _ => True) (.slice Ao16 t205.length co16) t205) ∧ Aside0 (Kd.R (Kd.int .i64) 3 w' w.heap.size (fun _ => True) (.slice Ao16 t205.length co16) t205) ∧ Aside0 (w'.heap[gb203]? = some (.cells #[.int .i64 a0_0, .int .i64 a0_1, .int .i64 a0_2, .int .i64 a0_3, .int .i64 a0_4, .int .i64 a0_5, .int .i64 a0_6, .int .i64 a0_7, .int .i64 a0_8, .int .i64 a0_9, .int .i64 a0_10, .int .i64 a0_11] 78 (0, 0))) ∧ Aside0 (w'.heap[gb204]? = some (.cells #[.int .i64 0, .int .i64 0, .int .i64 0, .int .i64 0, .int .i64 0, .int .i64 0, .int .i64 0, .int .i64 0, .int .i64 0, .int .i64 0, .int .i64 0, .int .i64 0] 78 (0, 0))) ∧ Aside0 (w'.heap[gb211]? = some (.cells (rowC a0_0 a0_1 L_2) 78 (0, 0))) ∧ Aside0 (Below w.heap.size w w'))
  case atStart => exact ⟨(0), (L_1), (by first | rfl | (simp; done) | (simp [*]; done)), H', HL_1, ⟨Nat.le_refl _⟩, ⟨by exact rk HO_5.out⟩, ⟨by exact rk HO_5.out⟩, ⟨by exact bk BK203.out⟩, ⟨by exact bk BK204.out⟩, ⟨by exact bk BK211.out⟩, ⟨by exact gs HB.out⟩⟩
  clear H'
  obtain ⟨x29_2, L_2, rfl, HA, HL_2, HK2, HO_5, HO_27, BK203, BK204, BK211, HB⟩ := hrel
  cases gk with
  | zero => exact absurd HA.out (by simp [c_table_renumbered.l1])
  | succ k2 =>
   have H := HA.out
   clear HA
   simp only [c_table_renumbered.l1] at H
   by_cases c17 : x29_2 < (t205.length : Int)
   rotate_left
   ·rw [if_neg c17] at H
    have c17b0 : decide (x29_2 < (t205.length : Int)) = false := decide_eq_false c17
    clear c17
    have H' := a_ H
    clear H
    go_wp2
    go_roundg k2
    case measure => have := HK1.out; have := HK2.out; omega
    case rel => exact ⟨(wrap64 (x24_1 + 1)), (L_2), (by first | rfl | (simp; done) | (simp [*]; done)), H', HL_2, ⟨by have := HK1.out; have := HK2.out; omega⟩, ⟨by exact rk HO_5.out⟩, ⟨by exact bk BK203.out⟩, ⟨by exact bk BK204.out⟩, ⟨by exact bk BK211.out⟩, ⟨by exact gs HB.out⟩⟩
   rw [if_pos c17] at H
   have c17b0 : decide (x29_2 < (t205.length : Int)) = true := decide_eq_true c17
   clear c17
   by_cases c18 : 0 ≤ x29_2
   rotate_left
   ·rw [if_neg c18] at H
    exact absurd H (by simp)
   rw [if_pos c18] at H
   have c18b0 : decide (0 ≤ x29_2) = true := decide_eq_true c18
   clear c18
   by_cases c19 : x29_2 < (t205.length : Int)
   rotate_left
   ·rw [if_neg c19] at H
    exact absurd H (by simp)
   rw [if_pos c19] at H
   have c19b0 : decide (x29_2 < (t205.length : Int)) = true := decide_eq_true c19
   clear c19
   replace H := Option.bind_eq_some_iff.mp H
   obtain ⟨t213, A200, H⟩ := H
   have A20 := a_ A200
   clear A200
   replace H := Option.bind_eq_some_iff.mp H
   obtain ⟨t214, A210, H⟩ := H
   have A21 := a_ A210
   clear A210
   by_cases c22 : (0 ≤ x24_1 ∧ x24_1 < 2) ∧ x29_2 < 5
   rotate_left
   ·rw [if_neg c22] at H
    exact absurd H (by simp)
   rw [if_pos c22] at H
   have H' := a_ H
   clear H
   have hqb := c22.1.1
   have hqc := c22.1.2
   have hic := c22.2
   have hib : 0 ≤ x29_2 := of_decide_eq_true (by assumption)
   clear c22
   have hsb := (colAt_in A20.out).2.1
   have hsc := (colAt_in A20.out).2.2
   have p212 : 0 ≤ (x29_2 : Int) := hib
   have q212 : x29_2 < (t205.length : Int) := of_decide_eq_true (by first | (with_reducible assumption) | assumption)
   obtain ⟨ad212, e212, hx212_0⟩ := Kd.at_int (Kd.R_reads' HO_27.out).2.2 x29_2 p212 q212
   cases e212
   replace p212 := eq_true p212
   replace q212 := eq_true q212
   try go_wp2
   replace HO_5 := a_ (Kd.R_drew HO_5.out)
   replace HO_27 := a_ (Kd.R_drew HO_27.out)
   replace BK203 := a_ (kD_ BK203.out)
   replace BK204 := a_ (kD_ BK204.out)
   replace BK211 := a_ (kD_ BK211.out)
   replace HB := a_ (b1_ HB.out)
   refine start_ (n := 14) (S := fun w' => w'.cell? ⟨gb203, 0, none⟩ = some (.int .i64 a0_0) ∧ w'.cell? ⟨gb203, 1, none⟩ = some (.int .i64 a0_1) ∧ w'.cell? ⟨gb203, 2, none⟩ = some (.int .i64 a0_2) ∧ w'.cell? ⟨gb203, 3, none⟩ = some (.int .i64 a0_3) ∧ w'.cell? ⟨gb203, 4, none⟩ = some (.int .i64 a0_4) ∧ w'.cell? ⟨gb203, 5, none⟩ = some (.int .i64 a0_5) ∧ w'.cell? ⟨gb203, 6, none⟩ = some (.int .i64 a0_6) ∧ w'.cell? ⟨gb203, 7, none⟩ = some (.int .i64 a0_7) ∧ w'.cell? ⟨gb203, 8, none⟩ = some (.int .i64 a0_8) ∧ w'.cell? ⟨gb203, 9, none⟩ = some (.int .i64 a0_9) ∧ w'.cell? ⟨gb203, 10, none⟩ = some (.int .i64 a0_10) ∧ w'.cell? ⟨gb203, 11, none⟩ = some (.int .i64 a0_11)) (ds := []) #[false, false, false, false, false, false, false, false, false, false, false, false, false, false] (by kernel_rfl) rfl rfl ⟨(kc_ BK203.out 0).trans rfl, (kc_ BK203.out 1).trans rfl, (kc_ BK203.out 2).trans rfl, (kc_ BK203.out 3).trans rfl, (kc_ BK203.out 4).trans rfl, (kc_ BK203.out 5).trans rfl, (kc_ BK203.out 6).trans rfl, (kc_ BK203.out 7).trans rfl, (kc_ BK203.out 8).trans rfl, (kc_ BK203.out 9).trans rfl, (kc_ BK203.out 10).trans rfl, (kc_ BK203.out 11).trans rfl⟩ (fun hHeld => ?_)
   generalize wr.drew = w24 at HO_5 HO_27 BK203 BK204 BK211 HB hHeld ⊢
   refine pure_ (i := 0) (N := (some 34)) (v := ?_) (a' := ?_) #[true, false, false, false, false, false, false, false, false, false, false, false, false, false] rfl rfl (by kernel_rfl) (fun _ _ _ h => h) (Or.inl ⟨by rfl, ?_⟩) ?_ ?_
   rotate_left
   ·intro w'
    first | (go_simp; with_reducible rfl) | rfl | (go_simp; done)
   rotate_left
   ·first | (simp only [Act.put, List.setIfInBounds_toArray, List.set_cons_zero, List.set_cons_succ, i64_w, i32_w]; rfl) | rfl
   refine pure_ (i := 1) (N := (some 35)) (v := ?_) (a' := ?_) #[true, true, false, false, false, false, false, false, false, false, false, false, false, false] rfl rfl (by kernel_rfl) (fun _ _ _ h => h) (Or.inl ⟨by rfl, ?_⟩) ?_ ?_
   rotate_left
   ·intro w'
    first | (go_simp; with_reducible rfl) | rfl | (go_simp; done)
   rotate_left
   ·first | (simp only [Act.put, List.setIfInBounds_toArray, List.set_cons_zero, List.set_cons_succ, i64_w, i32_w]; rfl) | rfl
   refine pure_ (i := 2) (N := (some 36)) (v := ?_) (a' := ?_) #[true, true, true, false, false, false, false, false, false, false, false, false, false, false] rfl rfl (by kernel_rfl) (fun _ _ _ h => h) (Or.inl ⟨by rfl, ?_⟩) ?_ ?_
   rotate_left
   ·intro w'
    first | (go_simp; with_reducible rfl) | rfl | (go_simp; done)
   rotate_left
   ·first | (simp only [Act.put, List.setIfInBounds_toArray, List.set_cons_zero, List.set_cons_succ, i64_w, i32_w]; rfl) | rfl
   refine pure_ (i := 3) (N := (some 37)) (v := ?_) (a' := ?_) #[true, true, true, true, false, false, false, false, false, false, false, false, false, false] rfl rfl (by kernel_rfl) (fun _ _ _ h => h) (Or.inl ⟨by rfl, ?_⟩) ?_ ?_
   rotate_left
   ·intro w'
    first | (go_simp; with_reducible rfl) | rfl | (go_simp; done)
   rotate_left
   ·first | (simp only [Act.put, List.setIfInBounds_toArray, List.set_cons_zero, List.set_cons_succ, i64_w, i32_w]; rfl) | rfl
   refine pure_ (i := 4) (N := (some 38)) (v := ?_) (a' := ?_) #[true, true, true, true, true, false, false, false, false, false, false, false, false, false] rfl rfl (by kernel_rfl) (fun _ _ _ h => h) (Or.inl ⟨by rfl, ?_⟩) ?_ ?_
   rotate_left
   ·intro w'
    first | (go_simp; with_reducible rfl) | rfl | (go_simp; done)
   rotate_left
   ·first | (simp only [Act.put, List.setIfInBounds_toArray, List.set_cons_zero, List.set_cons_succ, i64_w, i32_w]; rfl) | rfl
   refine pure_ (i := 5) (N := (some 39)) (v := ?_) (a' := ?_) #[true, true, true, true, true, true, false, false, false, false, false, false, false, false] rfl rfl (by kernel_rfl) (fun _ _ _ h => h) (Or.inl ⟨by rfl, ?_⟩) ?_ ?_
   rotate_left
   ·intro w'
    first | (go_simp; with_reducible rfl) | rfl | (go_simp; done)
   rotate_left
   ·first | (simp only [Act.put, List.setIfInBounds_toArray, List.set_cons_zero, List.set_cons_succ, i64_w, i32_w]; rfl) | rfl
   refine pure_ (i := 6) (N := (some 40)) (v := ?_) (a' := ?_) #[true, true, true, true, true, true, true, false, false, false, false, false, false, false] rfl rfl (by kernel_rfl) (fun _ _ _ h => h) (Or.inl ⟨by rfl, ?_⟩) ?_ ?_
   rotate_left
   ·intro w'
    first | (go_simp; with_reducible rfl) | rfl | (go_simp; done)
   rotate_left
   ·first | (simp only [Act.put, List.setIfInBounds_toArray, List.set_cons_zero, List.set_cons_succ, i64_w, i32_w]; rfl) | rfl
   refine pure_ (i := 7) (N := (some 41)) (v := ?_) (a' := ?_) #[true, true, true, true, true, true, true, true, false, false, false, false, false, false] rfl rfl (by kernel_rfl) (fun _ _ _ h => h) (Or.inl ⟨by rfl, ?_⟩) ?_ ?_
   rotate_left
   ·intro w'
    first | (go_simp; with_reducible rfl) | rfl | (go_simp; done)
   rotate_left
   ·first | (simp only [Act.put, List.setIfInBounds_toArray, List.set_cons_zero, List.set_cons_succ, i64_w, i32_w]; rfl) | rfl
   refine pure_ (i := 10) (N := (some 44)) (v := ?_) (a' := ?_) #[true, true, true, true, true, true, true, true, false, false, true, false, false, false] rfl rfl (by kernel_rfl) (fun _ _ _ h => h) (Or.inl ⟨by rfl, ?_⟩) ?_ ?_
   rotate_left
   ·intro w'
    first | (go_simp; with_reducible rfl) | rfl | (go_simp; done)
   rotate_left
   ·first | (simp only [Act.put, List.setIfInBounds_toArray, List.set_cons_zero, List.set_cons_succ, i64_w, i32_w]; rfl) | rfl
   refine pure_ (i := 11) (N := (some 45)) (v := ?_) (a' := ?_) #[true, true, true, true, true, true, true, true, false, false, true, true, false, false] rfl rfl (by kernel_rfl) (fun _ _ _ h => h) (Or.inl ⟨by rfl, ?_⟩) ?_ ?_
   rotate_left
   ·intro w'
    first | (go_simp; with_reducible rfl) | rfl | (go_simp; done)
   rotate_left
   ·first | (simp only [Act.put, List.setIfInBounds_toArray, List.set_cons_zero, List.set_cons_succ, i64_w, i32_w]; rfl) | rfl
   refine take_ (i := 8) (N := (some 42)) (v := ?_) (a' := ?_) #[true, true, true, true, true, true, true, true, true, false, true, true, false, false] rfl rfl (by kernel_rfl) (fun _ _ _ h => h) (Or.inl ⟨by rfl, ?_⟩) hHeld ?_ ?_
   rotate_left
   ·rintro w' ⟨s0, s1, s2, s3, s4, s5, s6, s7, s8, s9, s10, s11⟩
    have hcc := colAt_cell A20.out s2 s3 s4 s5 s6 s7 s8 s9 s10 s11
    first | (go_simp; with_reducible rfl) | rfl | (go_simp; done)
   rotate_left
   ·first | (simp only [Act.put, List.setIfInBounds_toArray, List.set_cons_zero, List.set_cons_succ, i64_w, i32_w]; rfl) | rfl
   refine one_ (i := 9) (N := (some 43)) #[true, true, true, true, true, true, true, true, true, true, true, true, false, false] rfl rfl (by kernel_rfl) (by decide) (fun K hK => ?_)
   refine goes_ Try.func88 (by kernel_rfl) rfl #[.slice (some ad212) t205.length co16, .int .i64 t213] (by rfl) rfl rfl (by (try simp only [List.map_toArray, List.map_cons, List.map_nil]); first | done | rfl | (simp only [List.length_drop, List.length_take]; rfl)) ?_
   with_reducible refine (sl_Index_int_int.calls k2 _ _ t205 t213 t214 _ ?side1 ?side2 A21.out).mono ?_
   (case side1 => repeat (first | exact (Kd.R_reads' HO_5.out).2.2 | (with_reducible refine Kd.C_alloc ?_ _) | (with_reducible refine Kd.C_drewN ?_ _) | (with_reducible refine Kd.C_drew ?_)))
   (case side2 => exact (Kd.R_reads' HO_5.out).2.1)
   rintro e w' ⟨rfl, ⟨nd, rfl⟩⟩
   refine ⟨_, rfl, ?_⟩
   refine hK.out _ _ ⟨(kc_ BK203.out 0).trans rfl, (kc_ BK203.out 1).trans rfl, (kc_ BK203.out 2).trans rfl, (kc_ BK203.out 3).trans rfl, (kc_ BK203.out 4).trans rfl, (kc_ BK203.out 5).trans rfl, (kc_ BK203.out 6).trans rfl, (kc_ BK203.out 7).trans rfl, (kc_ BK203.out 8).trans rfl, (kc_ BK203.out 9).trans rfl, (kc_ BK203.out 10).trans rfl, (kc_ BK203.out 11).trans rfl⟩ (fun hHeld => ?_)
   clear hK K
   refine norm_ (a' := ?_) ?_ ?_
   rotate_left
   ·show Act.put _ (some 43) _ = _
    simp only [Act.put, List.setIfInBounds_toArray, List.set_cons_zero, List.set_cons_succ, i64_w, i32_w]
    rfl
   refine pure_ (i := 12) (N := (some 46)) (v := ?_) (a' := ?_) #[true, true, true, true, true, true, true, true, true, true, true, true, true, false] rfl rfl (by kernel_rfl) (fun _ _ _ h => h) (Or.inl ⟨by rfl, ?_⟩) ?_ ?_
   rotate_left
   ·intro w'
    first | (go_simp; with_reducible rfl) | rfl | (go_simp; done)
   rotate_left
   ·first | (simp only [Act.put, List.setIfInBounds_toArray, List.set_cons_zero, List.set_cons_succ, i64_w, i32_w]; rfl) | rfl
   refine one_ (i := 13) (N := none) #[true, true, true, true, true, true, true, true, true, true, true, true, true, true] rfl rfl (by kernel_rfl) (by decide) (fun K hK => ?_)
   have hj_ : x24_1.toNat * 5 + x29_2.toNat < L_2.length := by rw [HL_2.out]; omega
   have hs26 : w24.cell? ⟨gb211, 2 + x24_1.toNat * 5 + x29_2.toNat, none⟩ = some (.int .i64 (L_2.getD (x24_1.toNat * 5 + x29_2.toNat) 0)) := (kc_ BK211.out _).trans (by rw [Nat.add_assoc]; exact rowC_cell _ _ _ _ hj_)
   have hfs26 := kf_ BK211.out (2 + x24_1.toNat * 5 + x29_2.toNat)
   have hns26_0 := NB203_211.out
   have hns26_1 := NB204_211.out
   have hms26_0 := NB211_203.out
   have hms26_1 := NB211_204.out
   refine skip_ (w1 := ?_) (by rfl) rfl ?_ ?_
   rotate_left
   ·go_simp
    rfl
   refine hK.out _ _ ⟨((cell_far (p := ⟨gb211, _, none⟩) NB203_211.out _).trans (hHeld.1)), ((cell_far (p := ⟨gb211, _, none⟩) NB203_211.out _).trans (hHeld.2.1)), ((cell_far (p := ⟨gb211, _, none⟩) NB203_211.out _).trans (hHeld.2.2.1)), ((cell_far (p := ⟨gb211, _, none⟩) NB203_211.out _).trans (hHeld.2.2.2.1)), ((cell_far (p := ⟨gb211, _, none⟩) NB203_211.out _).trans (hHeld.2.2.2.2.1)), ((cell_far (p := ⟨gb211, _, none⟩) NB203_211.out _).trans (hHeld.2.2.2.2.2.1)), ((cell_far (p := ⟨gb211, _, none⟩) NB203_211.out _).trans (hHeld.2.2.2.2.2.2.1)), ((cell_far (p := ⟨gb211, _, none⟩) NB203_211.out _).trans (hHeld.2.2.2.2.2.2.2.1)), ((cell_far (p := ⟨gb211, _, none⟩) NB203_211.out _).trans (hHeld.2.2.2.2.2.2.2.2.1)), ((cell_far (p := ⟨gb211, _, none⟩) NB203_211.out _).trans (hHeld.2.2.2.2.2.2.2.2.2.1)), ((cell_far (p := ⟨gb211, _, none⟩) NB203_211.out _).trans (hHeld.2.2.2.2.2.2.2.2.2.2.1)), ((cell_far (p := ⟨gb211, _, none⟩) NB203_211.out _).trans (hHeld.2.2.2.2.2.2.2.2.2.2.2))⟩ (fun hHeld => ?_)
   clear hK K
   refine done_ (by kernel_rfl) ?_
   try go_wp2
   go_roundg k2
   case measure => have := HK1.out; have := HK2.out; omega
   case rel => exact ⟨(wrap64 (x29_2 + 1)), (L_2.set (x24_1.toNat * 5 + x29_2.toNat) t214), (by first | rfl | (rw [show wrap64 (x29_2 + 1) = x29_2 + 1 from by unfold wrap64; omega])), H', ⟨by rw [List.length_set]; exact HL_2.out⟩, ⟨by have := HK1.out; have := HK2.out; omega⟩, ⟨by (with_reducible repeat (first | apply Kd.R_alloc | apply Kd.R_drewN | apply Kd.R_drew)); exact Kd.R_mono (Kd.R_far (p := ⟨gb211, 2 + x24_1.toNat * 5 + x29_2.toNat, none⟩) (Kd.R_types HO_5.out BK211.out (by decide)) (fun _ hk => hk.2) (.int .i64 t214)) (fun _ hk => trivial)⟩, ⟨by (with_reducible repeat (first | apply Kd.R_alloc | apply Kd.R_drewN | apply Kd.R_drew)); exact Kd.R_mono (Kd.R_far (p := ⟨gb211, 2 + x24_1.toNat * 5 + x29_2.toNat, none⟩) (Kd.R_types HO_27.out BK211.out (by decide)) (fun _ hk => hk.2) (.int .i64 t214)) (fun _ hk => trivial)⟩, ⟨by exact bk BK203.out⟩, ⟨by exact bk BK204.out⟩, ⟨by (with_reducible repeat (first | refine kN_ ?_ _ | refine kD_ ?_ | refine kA_ ?_ _)); rw [← rowC_set, ← Nat.add_assoc]; refine blk_set ?_ _ _; (with_reducible repeat (first | refine kN_ ?_ _ | refine kD_ ?_ | refine kA_ ?_ _)); exact BK211.out⟩, ⟨by exact gs HB.out⟩⟩
def c_Renumber.j0 : Nat → Int → Bool → Int → Int → Int → Int → Int → Int → Int → Int → Int → Int → Int → Int → Option ((List (List Int)) × Int)
 | 0, _, _, _, _, _, _, _, _, _, _, _, _, _, _ => none
 | k + 1, x1, x27, Xb0, Xb1, Xb2, Xb3, Xb4, Xb5, Xb6, Xb7, Xb8, Xb9, Xb10, Xb11 => if x27 = true then (some (([] : List (List Int)), 2)) else ((c_table_renumbered.f k Xb0 Xb1 Xb2 Xb3 Xb4 Xb5 Xb6 Xb7 Xb8 Xb9 Xb10 Xb11 x1).bind fun bt304 => ((c_table_lists.f bt304.1 bt304.2.1 bt304.2.2.1 bt304.2.2.2.1 bt304.2.2.2.2.1 bt304.2.2.2.2.2.1 bt304.2.2.2.2.2.2.1 bt304.2.2.2.2.2.2.2.1 bt304.2.2.2.2.2.2.2.2.1 bt304.2.2.2.2.2.2.2.2.2.1 bt304.2.2.2.2.2.2.2.2.2.2.1 bt304.2.2.2.2.2.2.2.2.2.2.2).bind fun t316 => (some (t316, 0))))
def c_Renumber.f (k : Nat) (l0 : List (List Int)) (a1 : Int) : Option ((List (List Int)) × Int) := (c_newTable.f k l0).bind fun bt288 => (if bt288.2.2.2.2.2.2.2.2.2.2.2.2 = true then ((c_table_isConnected.f k bt288.1 bt288.2.1 bt288.2.2.1 bt288.2.2.2.1 bt288.2.2.2.2.1 bt288.2.2.2.2.2.1 bt288.2.2.2.2.2.2.1 bt288.2.2.2.2.2.2.2.1 bt288.2.2.2.2.2.2.2.2.1 bt288.2.2.2.2.2.2.2.2.2.1 bt288.2.2.2.2.2.2.2.2.2.2.1 bt288.2.2.2.2.2.2.2.2.2.2.2.1).bind fun t302 => (if t302 = true then ((c_within.f a1 0 (wrap64 (bt288.2.1 - 1))).bind fun t303 => (c_Renumber.j0 k a1 (!t303) bt288.1 bt288.2.1 bt288.2.2.1 bt288.2.2.2.1 bt288.2.2.2.2.1 bt288.2.2.2.2.2.1 bt288.2.2.2.2.2.2.1 bt288.2.2.2.2.2.2.2.1 bt288.2.2.2.2.2.2.2.2.1 bt288.2.2.2.2.2.2.2.2.2.1 bt288.2.2.2.2.2.2.2.2.2.2.1 bt288.2.2.2.2.2.2.2.2.2.2.2.1)) else (c_Renumber.j0 k a1 true bt288.1 bt288.2.1 bt288.2.2.1 bt288.2.2.2.1 bt288.2.2.2.2.1 bt288.2.2.2.2.2.1 bt288.2.2.2.2.2.2.1 bt288.2.2.2.2.2.2.2.1 bt288.2.2.2.2.2.2.2.2.1 bt288.2.2.2.2.2.2.2.2.2.1 bt288.2.2.2.2.2.2.2.2.2.2.1 bt288.2.2.2.2.2.2.2.2.2.2.2.1))) else (c_Renumber.j0 k a1 true bt288.1 bt288.2.1 bt288.2.2.1 bt288.2.2.2.1 bt288.2.2.2.2.1 bt288.2.2.2.2.2.1 bt288.2.2.2.2.2.2.1 bt288.2.2.2.2.2.2.2.1 bt288.2.2.2.2.2.2.2.2.1 bt288.2.2.2.2.2.2.2.2.2.1 bt288.2.2.2.2.2.2.2.2.2.2.1 bt288.2.2.2.2.2.2.2.2.2.2.2.1))
theorem c_Renumber.calls (k : Nat) (A0 : Option Addr) (c0 : Nat) (l0 : List (List Int)) (a1 : Int) (r1 : List (List Int)) (r2 : Int) (w : World) (hr0 : Kd.C (Kd.slice 3 (Kd.int .i64)) w A0 l0.length l0) (hc0 : l0.length ≤ c0) (h : c_Renumber.f k l0 a1 = some (r1, r2)) :
  Calls Try.prog 28 #[.slice A0 l0.length c0, .int .i64 a1] w fun e w' => ∃ v0_ : Value, e = .returned (.tuple #[v0_, .int .i64 r2]) ∧ Kd.S (Kd.slice 3 (Kd.int .i64)) 22 w' w.heap.size (fun _ => True) v0_ r1 ∧ Below w.heap.size w w' := by
 have hu78 := Try.underlying78
 have HR0 := a_ hr0
 have HC0 := a_ hc0
 clear hr0 hc0
 have HB := a_ (Below.refl w.heap.size w)
 have H : ((c_newTable.f k l0).bind fun bt288 => (if bt288.2.2.2.2.2.2.2.2.2.2.2.2 = true then ((c_table_isConnected.f k bt288.1 bt288.2.1 bt288.2.2.1 bt288.2.2.2.1 bt288.2.2.2.2.1 bt288.2.2.2.2.2.1 bt288.2.2.2.2.2.2.1 bt288.2.2.2.2.2.2.2.1 bt288.2.2.2.2.2.2.2.2.1 bt288.2.2.2.2.2.2.2.2.2.1 bt288.2.2.2.2.2.2.2.2.2.2.1 bt288.2.2.2.2.2.2.2.2.2.2.2.1).bind fun t302 => (if t302 = true then ((c_within.f a1 0 (wrap64 (bt288.2.1 - 1))).bind fun t303 => (c_Renumber.j0 k a1 (!t303) bt288.1 bt288.2.1 bt288.2.2.1 bt288.2.2.2.1 bt288.2.2.2.2.1 bt288.2.2.2.2.2.1 bt288.2.2.2.2.2.2.1 bt288.2.2.2.2.2.2.2.1 bt288.2.2.2.2.2.2.2.2.1 bt288.2.2.2.2.2.2.2.2.2.1 bt288.2.2.2.2.2.2.2.2.2.2.1 bt288.2.2.2.2.2.2.2.2.2.2.2.1)) else (c_Renumber.j0 k a1 true bt288.1 bt288.2.1 bt288.2.2.1 bt288.2.2.2.1 bt288.2.2.2.2.1 bt288.2.2.2.2.2.1 bt288.2.2.2.2.2.2.1 bt288.2.2.2.2.2.2.2.1 bt288.2.2.2.2.2.2.2.2.1 bt288.2.2.2.2.2.2.2.2.2.1 bt288.2.2.2.2.2.2.2.2.2.2.1 bt288.2.2.2.2.2.2.2.2.2.2.2.1))) else (c_Renumber.j0 k a1 true bt288.1 bt288.2.1 bt288.2.2.1 bt288.2.2.2.1 bt288.2.2.2.2.1 bt288.2.2.2.2.2.1 bt288.2.2.2.2.2.2.1 bt288.2.2.2.2.2.2.2.1 bt288.2.2.2.2.2.2.2.2.1 bt288.2.2.2.2.2.2.2.2.2.1 bt288.2.2.2.2.2.2.2.2.2.2.1 bt288.2.2.2.2.2.2.2.2.2.2.2.1))) = some (r1, r2) := h
 clear h
 replace H := Option.bind_eq_some_iff.mp H
 obtain ⟨⟨t288, t289, t290, t291, t292, t293, t294, t295, t296, t297, t298, t299, t300⟩, A30, H⟩ := H
 try dsimp only at H
 have A3 := a_ A30
 clear A30
 have HC4 := a_ H
 clear H
 go_enter Try.func28, Try.ntmps28
 go_upto_region 2 with (first | ((with_reducible refine gate_callee (f := 51) rfl ?_); refine goesL_ (some 10) rfl rfl Try.func51 (by kernel_rfl) rfl #[.slice A0 l0.length c0] rfl (by (try simp only [List.map_toArray, List.map_cons, List.map_nil]); first | done | rfl | (simp only [List.length_drop, List.length_take]; rfl)) ?_; (with_reducible refine (c_newTable.calls k _ _ l0 t288 t289 t290 t291 t292 t293 t294 t295 t296 t297 t298 t299 t300 _ ?side1 ?side2 A3.out).mono ?_); (case side1 => repeat (first | exact HR0.out | (with_reducible refine Kd.C_alloc ?_ _) | (with_reducible refine Kd.C_drewN ?_ _) | (with_reducible refine Kd.C_drew ?_))); (case side2 => exact HC0.out); rintro e w5 ⟨rfl, hb⟩; refine ⟨_, rfl, ?_⟩; replace HB := a_ (bT_ HB.out (tr hb)); (try clear hi)) | ((with_reducible refine gate_dst (N := 6) rfl ?_); refine box_event ?hg (N := 6) ?hd (cs := #[.int .i64 0, .int .i64 0, .int .i64 0, .int .i64 0, .int .i64 0, .int .i64 0, .int .i64 0, .int .i64 0, .int .i64 0, .int .i64 0, .int .i64 0, .int .i64 0]) (t := 78) ?hr ?_; (case hd => rfl); (case hg => rfl); (case hr => first | (go_simp; done) | (go_simp; rfl)); intro gb301 hg w6 hbox hb; have BK301 := a_ (hbox); have GW301 := a_ ((by rw [hg]; exact (bZ_ (gr HB.out)) : w.heap.size ≤ gb301)); have GE301 := GEc.mk ((by rw [hg]; exact (bZ_ (gr HB.out)) : w.heap.size ≤ gb301)); replace HB := a_ (bT_ HB.out (tr hb)); clear hb hbox hg; obtain ⟨hcz7_0, hcz7_1, hcz7_2, hcz7_3, hcz7_4, hcz7_5, hcz7_6, hcz7_7, hcz7_8, hcz7_9, hcz7_10, hcz7_11⟩ := cs12 BK301.out; have hfz7_0 := kf_ BK301.out 0; have hfz7_1 := kf_ BK301.out 1; have hfz7_2 := kf_ BK301.out 2; have hfz7_3 := kf_ BK301.out 3; have hfz7_4 := kf_ BK301.out 4; have hfz7_5 := kf_ BK301.out 5; have hfz7_6 := kf_ BK301.out 6; have hfz7_7 := kf_ BK301.out 7; have hfz7_8 := kf_ BK301.out 8; have hfz7_9 := kf_ BK301.out 9; have hfz7_10 := kf_ BK301.out 10; have hfz7_11 := kf_ BK301.out 11))
 (try simp only [Act.put, List.setIfInBounds_toArray, List.set_cons_zero, List.set_cons_succ])
 go_cut [27] (fun v27 wc => ∃ (kq : Nat) (x27_3 : Bool), v27 = .bool x27_3 ∧ Aside0 (c_Renumber.j0 kq a1 x27_3 t288 t289 t290 t291 t292 t293 t294 t295 t296 t297 t298 t299 = some (r1, r2)) ∧ Aside0 (kq ≤ k) ∧ Aside0 (wc.heap[gb301]? = some (.cells #[.int .i64 t288, .int .i64 t289, .int .i64 t290, .int .i64 t291, .int .i64 t292, .int .i64 t293, .int .i64 t294, .int .i64 t295, .int .i64 t296, .int .i64 t297, .int .i64 t298, .int .i64 t299] 78 (0, 0))) ∧ Aside0 (Below w.heap.size w wc))
 case first =>
  have H := HC4.out
  clear HC4
  by_cases c8 : t300 = true
  rotate_left
  ·replace c8 := Bool.eq_false_iff.mpr c8
   subst c8
   have H1 := H; rw [if_neg (show ¬ (false = true) by decide)] at H1
   clear H
   have H := H1
   clear H1
   have H' := a_ H
   clear H
   go_wp2
   go_meet
   case rel => exact ⟨_, (true), (by first | rfl | (simp; done) | (simp [*]; done)), H', ⟨by first | omega | exact Nat.le_refl _⟩, ⟨by exact pb BK301.out (by rfl)⟩, ⟨by exact gs HB.out⟩⟩
  subst c8
  have H1 := H; rw [if_pos rfl] at H1
  clear H
  have H := H1
  clear H1
  replace H := Option.bind_eq_some_iff.mp H
  obtain ⟨t302, A90, H⟩ := H
  try dsimp only at H
  have A9 := a_ A90
  clear A90
  by_cases c10 : t302 = true
  rotate_left
  ·replace c10 := Bool.eq_false_iff.mpr c10
   subst c10
   have H1 := H; rw [if_neg (show ¬ (false = true) by decide)] at H1
   clear H
   have H := H1
   clear H1
   have H' := a_ H
   clear H
   obtain ⟨hcz15_0, hcz15_1, hcz15_2, hcz15_3, hcz15_4, hcz15_5, hcz15_6, hcz15_7, hcz15_8, hcz15_9, hcz15_10, hcz15_11⟩ := cs12 BK301.out
   have hfz15_0 := kf_ BK301.out 0
   have hfz15_1 := kf_ BK301.out 1
   have hfz15_2 := kf_ BK301.out 2
   have hfz15_3 := kf_ BK301.out 3
   have hfz15_4 := kf_ BK301.out 4
   have hfz15_5 := kf_ BK301.out 5
   have hfz15_6 := kf_ BK301.out 6
   have hfz15_7 := kf_ BK301.out 7
   have hfz15_8 := kf_ BK301.out 8
   have hfz15_9 := kf_ BK301.out 9
   have hfz15_10 := kf_ BK301.out 10
   have hfz15_11 := kf_ BK301.out 11
   go_wp2_with (first | (go_at_call 64; (with_reducible refine (c_table_isConnected.calls k t288 t289 t290 t291 t292 t293 t294 t295 t296 t297 t298 t299 false _ A9.out).mono ?_); rintro e w16 ⟨rfl, hb⟩; replace BK301 := a_ (kB_ (g := gb301) (o := .cells #[.int .i64 t288, .int .i64 t289, .int .i64 t290, .int .i64 t291, .int .i64 t292, .int .i64 t293, .int .i64 t294, .int .i64 t295, .int .i64 t296, .int .i64 t297, .int .i64 t298, .int .i64 t299] 78 (0, 0)) (by exact pb BK301.out (by rfl)) hb); replace HB := a_ (bT_ (by exact gs HB.out) hb); (try clear hi)))
   go_meet
   case rel => exact ⟨_, (true), (by first | rfl | (simp; done) | (simp [*]; done)), H', ⟨by first | omega | exact Nat.le_refl _⟩, ⟨by exact bk BK301.out⟩, ⟨by exact gs HB.out⟩⟩
  subst c10
  have H1 := H; rw [if_pos rfl] at H1
  clear H
  have H := H1
  clear H1
  replace H := Option.bind_eq_some_iff.mp H
  obtain ⟨t303, A110, H⟩ := H
  try dsimp only at H
  have A11 := a_ A110
  clear A110
  have H' := a_ H
  clear H
  obtain ⟨hcz12_0, hcz12_1, hcz12_2, hcz12_3, hcz12_4, hcz12_5, hcz12_6, hcz12_7, hcz12_8, hcz12_9, hcz12_10, hcz12_11⟩ := cs12 BK301.out
  have hfz12_0 := kf_ BK301.out 0
  have hfz12_1 := kf_ BK301.out 1
  have hfz12_2 := kf_ BK301.out 2
  have hfz12_3 := kf_ BK301.out 3
  have hfz12_4 := kf_ BK301.out 4
  have hfz12_5 := kf_ BK301.out 5
  have hfz12_6 := kf_ BK301.out 6
  have hfz12_7 := kf_ BK301.out 7
  have hfz12_8 := kf_ BK301.out 8
  have hfz12_9 := kf_ BK301.out 9
  have hfz12_10 := kf_ BK301.out 10
  have hfz12_11 := kf_ BK301.out 11
  go_wp2_with (first | (go_at_call 64; (with_reducible refine (c_table_isConnected.calls k t288 t289 t290 t291 t292 t293 t294 t295 t296 t297 t298 t299 true _ A9.out).mono ?_); rintro e w13 ⟨rfl, hb⟩; replace BK301 := a_ (kB_ (g := gb301) (o := .cells #[.int .i64 t288, .int .i64 t289, .int .i64 t290, .int .i64 t291, .int .i64 t292, .int .i64 t293, .int .i64 t294, .int .i64 t295, .int .i64 t296, .int .i64 t297, .int .i64 t298, .int .i64 t299] 78 (0, 0)) (by exact pb BK301.out (by rfl)) hb); replace HB := a_ (bT_ (by exact gs HB.out) hb); obtain ⟨hcz14_0, hcz14_1, hcz14_2, hcz14_3, hcz14_4, hcz14_5, hcz14_6, hcz14_7, hcz14_8, hcz14_9, hcz14_10, hcz14_11⟩ := cs12 BK301.out; have hfz14_0 := kf_ BK301.out 0; have hfz14_1 := kf_ BK301.out 1; have hfz14_2 := kf_ BK301.out 2; have hfz14_3 := kf_ BK301.out 3; have hfz14_4 := kf_ BK301.out 4; have hfz14_5 := kf_ BK301.out 5; have hfz14_6 := kf_ BK301.out 6; have hfz14_7 := kf_ BK301.out 7; have hfz14_8 := kf_ BK301.out 8; have hfz14_9 := kf_ BK301.out 9; have hfz14_10 := kf_ BK301.out 10; have hfz14_11 := kf_ BK301.out 11) | (go_at_call 59; (with_reducible refine (c_within.calls a1 0 (wrap64 (t289 - 1)) t303 _ A11.out).mono ?_); rintro e w' ⟨rfl, ⟨nd, rfl⟩⟩))
  go_meet
  case rel => exact ⟨_, (!t303), (by first | rfl | (simp; done) | (simp [*]; done)), H', ⟨by first | omega | exact Nat.le_refl _⟩, ⟨by exact bk BK301.out⟩, ⟨by exact gs HB.out⟩⟩
 case rest =>
  clear HC4
  obtain ⟨kq, x27_3, rfl, HA, HJ3, BK301, HB⟩ := hcut
  cases kq with
  | zero => exact absurd HA.out (by simp [c_Renumber.j0])
  | succ kj3 =>
   have H := HA.out
   clear HA
   simp only [c_Renumber.j0] at H
   by_cases c17 : x27_3 = true
   ·subst c17
    have H1 := H; rw [if_pos rfl] at H1
    clear H
    have H := H1
    clear H1
    simp only [Option.some.injEq, Prod.mk.injEq] at H
    obtain ⟨rfl, rfl⟩ := H
    go_wp2
    go_ret2
    exact ⟨_, by first | rfl | (simp [errW_none, errW_some] <;> rfl) | (simp [*, errW_none, errW_some] <;> rfl), by first | exact Kd.S_nil _ _ _ _ _ | exact Kd.N_nil _ _ _ _ _ | exact Kd.V_nil _ _ _ _ _ | exact Kd.Q_nil _ _ _ _ _ | exact Kd.R_nil _ _ _ _ _, by exact gs HB.out⟩
   replace c17 := Bool.eq_false_iff.mpr c17
   subst c17
   have H1 := H; rw [if_neg (show ¬ (false = true) by decide)] at H1
   clear H
   have H := H1
   clear H1
   replace H := Option.bind_eq_some_iff.mp H
   obtain ⟨⟨t304, t305, t306, t307, t308, t309, t310, t311, t312, t313, t314, t315⟩, A180, H⟩ := H
   try dsimp only at H
   have A18 := a_ A180
   clear A180
   replace H := Option.bind_eq_some_iff.mp H
   obtain ⟨t316, A190, H⟩ := H
   try dsimp only at H
   have A19 := a_ A190
   clear A190
   simp only [Option.some.injEq, Prod.mk.injEq] at H
   obtain ⟨rfl, rfl⟩ := H
   obtain ⟨hcz20_0, hcz20_1, hcz20_2, hcz20_3, hcz20_4, hcz20_5, hcz20_6, hcz20_7, hcz20_8, hcz20_9, hcz20_10, hcz20_11⟩ := cs12 BK301.out
   have hfz20_0 := kf_ BK301.out 0
   have hfz20_1 := kf_ BK301.out 1
   have hfz20_2 := kf_ BK301.out 2
   have hfz20_3 := kf_ BK301.out 3
   have hfz20_4 := kf_ BK301.out 4
   have hfz20_5 := kf_ BK301.out 5
   have hfz20_6 := kf_ BK301.out 6
   have hfz20_7 := kf_ BK301.out 7
   have hfz20_8 := kf_ BK301.out 8
   have hfz20_9 := kf_ BK301.out 9
   have hfz20_10 := kf_ BK301.out 10
   have hfz20_11 := kf_ BK301.out 11
   go_wp2_with (first | ((with_reducible refine gate_callee (f := 65) rfl ?_); refine goesL_ (some 30) rfl rfl Try.func65 (by kernel_rfl) rfl #[.agg #[.int .i64 t288, .int .i64 t289, .int .i64 t290, .int .i64 t291, .int .i64 t292, .int .i64 t293, .int .i64 t294, .int .i64 t295, .int .i64 t296, .int .i64 t297, .int .i64 t298, .int .i64 t299], .int .i64 a1] rfl (by (try simp only [List.map_toArray, List.map_cons, List.map_nil]); first | done | rfl | (simp only [List.length_drop, List.length_take]; rfl)) ?_; (with_reducible refine (c_table_renumbered.calls kj3 t288 t289 t290 t291 t292 t293 t294 t295 t296 t297 t298 t299 a1 t304 t305 t306 t307 t308 t309 t310 t311 t312 t313 t314 t315 _ A18.out).mono ?_); rintro e w21 ⟨rfl, hb⟩; refine ⟨_, rfl, ?_⟩; replace BK301 := a_ (kB_ BK301.out (tr hb)); replace HB := a_ (bT_ (by exact gs HB.out) hb); (try clear hi)) | ((with_reducible refine gate_callee (f := 66) rfl ?_); refine goesL_ (some 31) rfl rfl Try.func66 (by kernel_rfl) rfl #[.agg #[.int .i64 t304, .int .i64 t305, .int .i64 t306, .int .i64 t307, .int .i64 t308, .int .i64 t309, .int .i64 t310, .int .i64 t311, .int .i64 t312, .int .i64 t313, .int .i64 t314, .int .i64 t315]] rfl (by (try simp only [List.map_toArray, List.map_cons, List.map_nil]); first | done | rfl | (simp only [List.length_drop, List.length_take]; rfl)) ?_; (with_reducible refine (c_table_lists.calls t304 t305 t306 t307 t308 t309 t310 t311 t312 t313 t314 t315 t316 _ A19.out).mono ?_); rintro e w22 ⟨v317, rfl, ho0, hb⟩; refine ⟨_, rfl, ?_⟩; have HO318 := a_ (Kd.S_lower ho0 (bZ_ (by exact gs HB.out))); replace BK301 := a_ (kB_ BK301.out (tr hb)); replace HB := a_ (bT_ (by exact gs HB.out) hb); (try clear ho0)))
   go_ret2
   exact ⟨_, by first | rfl | (simp [errW_none, errW_some] <;> rfl) | (simp [*, errW_none, errW_some] <;> rfl), by (with_reducible repeat (first | apply Kd.S_alloc | apply Kd.S_drewN | apply Kd.S_drew)); exact HO318.out, by exact gs HB.out⟩
mutual
def rr_Table.j0 : Nat → List (List Int) → Bool → Option (Bool)
 | 0, _, _ => none
 | k + 1, x0, x14 => if x14 = true then (some false) else (if 0 < (x0.length : Int) then (rr_Table.l0 k x0 ((rd_L1 x0 0).length : Int) 0) else (none))
def rr_Table.l0 : Nat → List (List Int) → Int → Int → Option (Bool)
 | 0, _, _, _ => none
 | k + 1, x0, x3, x4 => if x4 < (x0.length : Int) then (if 0 ≤ x4 then (if ((rd_L1 x0 x4).length : Int) = x3 then (if x3 < 1 then (rr_Table.j2 k x0 x3 x4 true) else (rr_Table.j2 k x0 x3 x4 (decide (x3 > 5)))) else (rr_Table.j2 k x0 x3 x4 true)) else (none)) else (some true)
def rr_Table.j2 : Nat → List (List Int) → Int → Int → Bool → Option (Bool)
 | 0, _, _, _, _ => none
 | k + 1, x0, x3, x4, x39 => if x39 = true then (some false) else (rr_Table.l1 k x0 x3 x4 0)
def rr_Table.l1 : Nat → List (List Int) → Int → Int → Int → Option (Bool)
 | 0, _, _, _, _ => none
 | k + 1, x0, x3, x4, x5 => if x5 < x3 then (if 0 ≤ x4 then (if x4 < (x0.length : Int) then (if 0 ≤ x5 then (if x5 < ((rd_L1 x0 x4).length : Int) then (if (rd (rd_L1 x0 x4) x5) < 0 then (rr_Table.j4 k x0 x3 x4 x5 true) else (rr_Table.j4 k x0 x3 x4 x5 (decide ((rd (rd_L1 x0 x4) x5) ≥ x3)))) else (none)) else (none)) else (none)) else (none)) else (rr_Table.l0 k x0 x3 (wrap64 (x4 + 1)))
def rr_Table.j4 : Nat → List (List Int) → Int → Int → Int → Bool → Option (Bool)
 | 0, _, _, _, _, _ => none
 | k + 1, x0, x3, x4, x5, x63 => if x63 = true then (some false) else (rr_Table.l2 k x0 x3 x4 x5 0)
def rr_Table.l2 : Nat → List (List Int) → Int → Int → Int → Int → Option (Bool)
 | 0, _, _, _, _, _ => none
 | k + 1, x0, x3, x4, x5, x6 => if x6 < x5 then (if 0 ≤ x4 then (if x4 < (x0.length : Int) then (if 0 ≤ x6 then (if x6 < ((rd_L1 x0 x4).length : Int) then (if 0 ≤ x5 then (if x5 < ((rd_L1 x0 x4).length : Int) then (if (rd (rd_L1 x0 x4) x6) = (rd (rd_L1 x0 x4) x5) then (some false) else (rr_Table.l2 k x0 x3 x4 x5 (wrap64 (x6 + 1)))) else (none)) else (none)) else (none)) else (none)) else (none)) else (none)) else (rr_Table.l1 k x0 x3 x4 (wrap64 (x5 + 1)))
end
def rr_Table.f (k : Nat) (l0 : List (List Int)) : Option (Bool) := if (l0.length : Int) < 1 then (rr_Table.j0 k l0 true) else (rr_Table.j0 k l0 (decide ((l0.length : Int) > 2)))
theorem rr_Table.calls (k : Nat) (A0 : Option Addr) (c0 : Nat) (l0 : List (List Int)) (r : Bool) (w : World) (hr0 : Kd.C (Kd.slice 3 (Kd.int .i64)) w A0 l0.length l0) (hc0 : l0.length ≤ c0) (h : rr_Table.f k l0 = some r) :
  Calls Try.prog 29 #[.slice A0 l0.length c0] w fun e w' => e = .returned (.bool r) ∧ Drawn0 w w' := by
 have HR0 := a_ hr0
 have HC0 := a_ hc0
 clear hr0 hc0
 have H : (if (l0.length : Int) < 1 then (rr_Table.j0 k l0 true) else (rr_Table.j0 k l0 (decide ((l0.length : Int) > 2)))) = some r := h
 clear h
 have HC2 := a_ H
 clear H
 go_enter Try.func29, Try.ntmps29
 go_upto_region 1 with (fail)
 repeat (go_quiet (fail); go_upto_region 1 with (fail))
 go_cut [14] (fun v14 wc => ∃ (kq : Nat) (x14_1 : Bool), v14 = .bool x14_1 ∧ Aside0 (rr_Table.j0 kq l0 x14_1 = some r) ∧ Aside0 (kq ≤ k) ∧ Drawn0 w wc)
 case first =>
  have H := HC2.out
  clear HC2
  by_cases c3 : (l0.length : Int) < 1
  ·rw [if_pos c3] at H
   have c3b0 : decide ((l0.length : Int) < 1) = true := decide_eq_true c3
   have c3b1 : decide (l0.length < 1) = true := decide_eq_true (by omega)
   clear c3
   (first | rw [c3b0] | (simp only [i64_w, i32_w]; rw [c3b0]) | skip)
   have H' := a_ H
   clear H
   go_wp2
   repeat (go_quiet (fail); try go_wp2)
   go_meet
   case rel => exact ⟨_, (true), (by first | rfl | (simp; done) | (simp [*]; done)), H', ⟨by first | omega | exact Nat.le_refl _⟩, by repeat (first | exact Drawn0.refl _ | apply Drawn0.step)⟩
  rw [if_neg c3] at H
  have c3b0 : decide ((l0.length : Int) < 1) = false := decide_eq_false c3
  have c3b1 : decide (l0.length < 1) = false := decide_eq_false (by omega)
  clear c3
  (first | rw [c3b0] | (simp only [i64_w, i32_w]; rw [c3b0]) | skip)
  have H' := a_ H
  clear H
  go_wp2
  repeat (go_quiet (fail); try go_wp2)
  go_meet
  case rel => exact ⟨_, (decide ((l0.length : Int) > 2)), (by first | rfl | (simp; done) | (simp [*]; done)), H', ⟨by first | omega | exact Nat.le_refl _⟩, by repeat (first | exact Drawn0.refl _ | apply Drawn0.step)⟩
 case rest =>
  clear HC2
  obtain ⟨kq, x14_1, rfl, HA, HJ1, ⟨mc1, rfl⟩⟩ := hcut
  cases kq with
  | zero => exact absurd HA.out (by simp [rr_Table.j0])
  | succ kj1 =>
   have H := HA.out
   clear HA
   simp only [rr_Table.j0] at H
   by_cases c4 : x14_1 = true
   ·subst c4
    have H1 := H; rw [if_pos rfl] at H1
    clear H
    have H := H1
    clear H1
    obtain rfl := Option.some.inj H
    go_wp2
    repeat (go_quiet (fail); try go_wp2)
    go_ret
    exact ⟨by first | rfl | (simp; done) | (simp [*]; done), by repeat (first | exact Drawn0.refl _ | apply Drawn0.step)⟩
   replace c4 := Bool.eq_false_iff.mpr c4
   subst c4
   have H1 := H; rw [if_neg (show ¬ (false = true) by decide)] at H1
   clear H
   have H := H1
   clear H1
   by_cases c5 : 0 < (l0.length : Int)
   rotate_left
   ·rw [if_neg c5] at H
    exact absurd H (by simp)
   rw [if_pos c5] at H
   have c5b0 : decide (0 < (l0.length : Int)) = true := decide_eq_true c5
   have c5b1 : decide (0 < l0.length) = true := decide_eq_true (by omega)
   clear c5
   have H' := a_ H
   clear H
   have p319 : 0 ≤ (0 : Int) := (by omega)
   have q319 : 0 < (l0.length : Int) := of_decide_eq_true (by first | (with_reducible assumption) | assumption)
   obtain ⟨ad319, A319_0, c319_0, e319, hx319_0, hl319_0, hi319_0⟩ := at_L1 HR0.out 0 p319 q319
   cases e319
   have qi319 : (0 < l0.length) = True := eq_true (by omega)
   (try rw [show ((0 : Int)).toNat = 0 from rfl] at hx319_0)
   (try rw [Addr.add_zero'] at hx319_0)
   have HR319_0 := a_ hi319_0
   have HC319_0 := a_ hl319_0
   clear hi319_0 hl319_0
   replace p319 := eq_true p319
   replace q319 := eq_true q319
   go_wp2
   repeat (go_quiet (fail); try go_wp2)
   go_loopg [4] kj1 (fun kq v4 w' => ∃ (x4_2 : Int), v4 = .int .i64 x4_2 ∧ Aside0 (rr_Table.l0 kq l0 ((rd_L1 l0 0).length : Int) x4_2 = some r) ∧ Aside0 (kq ≤ kj1) ∧ Drawn0 w w')
   case atStart => exact ⟨(0), (by first | rfl | (simp; done) | (simp [*]; done)), H', ⟨Nat.le_refl _⟩, by repeat (first | exact Drawn0.refl _ | apply Drawn0.step)⟩
   clear H'
   obtain ⟨x4_2, rfl, HA, HK2, ⟨m2, rfl⟩⟩ := hrel
   cases gk with
   | zero => exact absurd HA.out (by simp [rr_Table.l0])
   | succ k2 =>
    have H := HA.out
    clear HA
    simp only [rr_Table.l0] at H
    by_cases c6 : x4_2 < (l0.length : Int)
    rotate_left
    ·rw [if_neg c6] at H
     have c6b0 : decide (x4_2 < (l0.length : Int)) = false := decide_eq_false c6
     clear c6
     obtain rfl := Option.some.inj H
     go_wp2
     repeat (go_quiet (fail); try go_wp2)
     go_ret
     exact ⟨by first | rfl | (simp; done) | (simp [*]; done), by repeat (first | exact Drawn0.refl _ | apply Drawn0.step)⟩
    rw [if_pos c6] at H
    have c6b0 : decide (x4_2 < (l0.length : Int)) = true := decide_eq_true c6
    clear c6
    have HC7 := a_ H
    clear H
    go_upto_region 7 with (fail)
    repeat (go_quiet (fail); go_upto_region 7 with (fail))
    go_cut [39] (fun v39 wc => ∃ (kq : Nat) (x39_6 : Bool), v39 = .bool x39_6 ∧ Aside0 (rr_Table.j2 kq l0 ((rd_L1 l0 0).length : Int) x4_2 x39_6 = some r) ∧ Aside0 (kq ≤ k2) ∧ Drawn0 w wc)
    case first =>
     have H := HC7.out
     clear HC7
     by_cases c8 : 0 ≤ x4_2
     rotate_left
     ·rw [if_neg c8] at H
      exact absurd H (by simp)
     rw [if_pos c8] at H
     have c8b0 : decide (0 ≤ x4_2) = true := decide_eq_true c8
     clear c8
     (first | rw [c8b0] | (simp only [i64_w, i32_w]; rw [c8b0]) | skip)
     by_cases c9 : ((rd_L1 l0 x4_2).length : Int) = ((rd_L1 l0 0).length : Int)
     rotate_left
     ·rw [if_neg c9] at H
      have c9b0 : (((rd_L1 l0 x4_2).length : Int) == ((rd_L1 l0 0).length : Int)) = false := beq_eq_false_iff_ne.mpr c9
      have c9b1 : (((rd_L1 l0 x4_2).length : Int) != ((rd_L1 l0 0).length : Int)) = true := bne_iff_ne.mpr c9
      have c9b2 : ((rd_L1 l0 x4_2).length == (rd_L1 l0 0).length) = false := by first | simpa using c9 | (simp at c9 ⊢; omega)
      have H' := a_ H
      clear H
      have p320 : 0 ≤ (x4_2 : Int) := of_decide_eq_true (by first | (with_reducible assumption) | assumption)
      have q320 : x4_2 < (l0.length : Int) := of_decide_eq_true (by first | (with_reducible assumption) | assumption)
      obtain ⟨ad320, A320_0, c320_0, e320, hx320_0, hl320_0, hi320_0⟩ := at_L1 HR0.out x4_2 p320 q320
      obtain rfl : ad319 = ad320 := (by injection e320)
      have HR320_0 := a_ hi320_0
      have HC320_0 := a_ hl320_0
      clear hi320_0 hl320_0
      replace p320 := eq_true p320
      replace q320 := eq_true q320
      go_wp2
      repeat (go_quiet (fail); try go_wp2)
      go_meet
      case rel => exact ⟨_, (true), (by first | rfl | (simp; done) | (simp [*]; done)), H', ⟨by have := HJ1.out; have := HK2.out; first | omega | exact Nat.le_refl _⟩, by repeat (first | exact Drawn0.refl _ | apply Drawn0.step)⟩
     rw [if_pos c9] at H
     have c9b0 : (((rd_L1 l0 x4_2).length : Int) == ((rd_L1 l0 0).length : Int)) = true := beq_iff_eq.mpr c9
     have c9b1 : (((rd_L1 l0 x4_2).length : Int) != ((rd_L1 l0 0).length : Int)) = false := bne_eq_false_iff_eq.mpr c9
     have c9b2 : ((rd_L1 l0 x4_2).length == (rd_L1 l0 0).length) = true := by first | simpa using c9 | (simp at c9 ⊢; omega)
     clear c9
     by_cases c10 : ((rd_L1 l0 0).length : Int) < 1
     ·rw [if_pos c10] at H
      have c10b0 : decide (((rd_L1 l0 0).length : Int) < 1) = true := decide_eq_true c10
      have c10b1 : decide ((rd_L1 l0 0).length < 1) = true := decide_eq_true (by omega)
      clear c10
      have H' := a_ H
      clear H
      have p320 : 0 ≤ (x4_2 : Int) := of_decide_eq_true (by first | (with_reducible assumption) | assumption)
      have q320 : x4_2 < (l0.length : Int) := of_decide_eq_true (by first | (with_reducible assumption) | assumption)
      obtain ⟨ad320, A320_0, c320_0, e320, hx320_0, hl320_0, hi320_0⟩ := at_L1 HR0.out x4_2 p320 q320
      obtain rfl : ad319 = ad320 := (by injection e320)
      have HR320_0 := a_ hi320_0
      have HC320_0 := a_ hl320_0
      clear hi320_0 hl320_0
      replace p320 := eq_true p320
      replace q320 := eq_true q320
      go_wp2
      repeat (go_quiet (fail); try go_wp2)
      go_meet
      case rel => exact ⟨_, (true), (by first | rfl | (simp; done) | (simp [*]; done)), H', ⟨by have := HJ1.out; have := HK2.out; first | omega | exact Nat.le_refl _⟩, by repeat (first | exact Drawn0.refl _ | apply Drawn0.step)⟩
     rw [if_neg c10] at H
     have c10b0 : decide (((rd_L1 l0 0).length : Int) < 1) = false := decide_eq_false c10
     have c10b1 : decide ((rd_L1 l0 0).length < 1) = false := decide_eq_false (by omega)
     clear c10
     have H' := a_ H
     clear H
     have p320 : 0 ≤ (x4_2 : Int) := of_decide_eq_true (by first | (with_reducible assumption) | assumption)
     have q320 : x4_2 < (l0.length : Int) := of_decide_eq_true (by first | (with_reducible assumption) | assumption)
     obtain ⟨ad320, A320_0, c320_0, e320, hx320_0, hl320_0, hi320_0⟩ := at_L1 HR0.out x4_2 p320 q320
     obtain rfl : ad319 = ad320 := (by injection e320)
     have HR320_0 := a_ hi320_0
     have HC320_0 := a_ hl320_0
     clear hi320_0 hl320_0
     replace p320 := eq_true p320
     replace q320 := eq_true q320
     go_wp2
     repeat (go_quiet (fail); try go_wp2)
     go_meet
     case rel => exact ⟨_, (decide (((rd_L1 l0 0).length : Int) > 5)), (by first | rfl | (simp; done) | (simp [*]; done)), H', ⟨by have := HJ1.out; have := HK2.out; first | omega | exact Nat.le_refl _⟩, by repeat (first | exact Drawn0.refl _ | apply Drawn0.step)⟩
    case rest =>
     clear HC7
     obtain ⟨kq, x39_6, rfl, HA, HJ6, ⟨mc6, rfl⟩⟩ := hcut
     cases kq with
     | zero => exact absurd HA.out (by simp [rr_Table.j2])
     | succ kj6 =>
      have H := HA.out
      clear HA
      simp only [rr_Table.j2] at H
      by_cases c11 : x39_6 = true
      ·subst c11
       have H1 := H; rw [if_pos rfl] at H1
       clear H
       have H := H1
       clear H1
       obtain rfl := Option.some.inj H
       go_wp2
       repeat (go_quiet (fail); try go_wp2)
       go_ret
       exact ⟨by first | rfl | (simp; done) | (simp [*]; done), by repeat (first | exact Drawn0.refl _ | apply Drawn0.step)⟩
      replace c11 := Bool.eq_false_iff.mpr c11
      subst c11
      have H1 := H; rw [if_neg (show ¬ (false = true) by decide)] at H1
      clear H
      have H := H1
      clear H1
      have H' := a_ H
      clear H
      go_wp2
      repeat (go_quiet (fail); try go_wp2)
      go_loopg [5] kj6 (fun kq v5 w' => ∃ (x5_4 : Int), v5 = .int .i64 x5_4 ∧ Aside0 (rr_Table.l1 kq l0 ((rd_L1 l0 0).length : Int) x4_2 x5_4 = some r) ∧ Aside0 (kq ≤ kj6) ∧ Drawn0 w w')
      case atStart => exact ⟨(0), (by first | rfl | (simp; done) | (simp [*]; done)), H', ⟨Nat.le_refl _⟩, by repeat (first | exact Drawn0.refl _ | apply Drawn0.step)⟩
      clear H'
      obtain ⟨x5_4, rfl, HA, HK4, ⟨m4, rfl⟩⟩ := hrel
      cases gk with
      | zero => exact absurd HA.out (by simp [rr_Table.l1])
      | succ k4 =>
       have H := HA.out
       clear HA
       simp only [rr_Table.l1] at H
       by_cases c12 : x5_4 < ((rd_L1 l0 0).length : Int)
       rotate_left
       ·rw [if_neg c12] at H
        have c12b0 : decide (x5_4 < ((rd_L1 l0 0).length : Int)) = false := decide_eq_false c12
        clear c12
        have H' := a_ H
        clear H
        go_wp2
        repeat (go_quiet (fail); try go_wp2)
        go_roundg k4
        case measure => have := HJ1.out; have := HK2.out; have := HJ6.out; have := HK4.out; omega
        case rel => exact ⟨(wrap64 (x4_2 + 1)), (by first | rfl | (simp; done) | (simp [*]; done)), H', ⟨by have := HJ1.out; have := HK2.out; have := HJ6.out; have := HK4.out; omega⟩, by repeat (first | exact Drawn0.refl _ | apply Drawn0.step)⟩
       rw [if_pos c12] at H
       have c12b0 : decide (x5_4 < ((rd_L1 l0 0).length : Int)) = true := decide_eq_true c12
       clear c12
       have HC13 := a_ H
       clear H
       go_upto_region 12 with (fail)
       repeat (go_quiet (fail); go_upto_region 12 with (fail))
       go_cut [63] (fun v63 wc => ∃ (kq : Nat) (x63_12 : Bool), v63 = .bool x63_12 ∧ Aside0 (rr_Table.j4 kq l0 ((rd_L1 l0 0).length : Int) x4_2 x5_4 x63_12 = some r) ∧ Aside0 (kq ≤ k4) ∧ Drawn0 w wc)
       case first =>
        have H := HC13.out
        clear HC13
        by_cases c14 : 0 ≤ x4_2
        rotate_left
        ·rw [if_neg c14] at H
         exact absurd H (by simp)
        rw [if_pos c14] at H
        have c14b0 : decide (0 ≤ x4_2) = true := decide_eq_true c14
        clear c14
        (first | rw [c14b0] | (simp only [i64_w, i32_w]; rw [c14b0]) | skip)
        by_cases c15 : x4_2 < (l0.length : Int)
        rotate_left
        ·rw [if_neg c15] at H
         exact absurd H (by simp)
        rw [if_pos c15] at H
        have c15b0 : decide (x4_2 < (l0.length : Int)) = true := decide_eq_true c15
        clear c15
        by_cases c16 : 0 ≤ x5_4
        rotate_left
        ·rw [if_neg c16] at H
         exact absurd H (by simp)
        rw [if_pos c16] at H
        have c16b0 : decide (0 ≤ x5_4) = true := decide_eq_true c16
        clear c16
        by_cases c17 : x5_4 < ((rd_L1 l0 x4_2).length : Int)
        rotate_left
        ·rw [if_neg c17] at H
         exact absurd H (by simp)
        rw [if_pos c17] at H
        have c17b0 : decide (x5_4 < ((rd_L1 l0 x4_2).length : Int)) = true := decide_eq_true c17
        clear c17
        by_cases c18 : (rd (rd_L1 l0 x4_2) x5_4) < 0
        ·rw [if_pos c18] at H
         have c18b0 : decide ((rd (rd_L1 l0 x4_2) x5_4) < 0) = true := decide_eq_true c18
         clear c18
         have H' := a_ H
         clear H
         have p321 : 0 ≤ (x4_2 : Int) := of_decide_eq_true (by first | (with_reducible assumption) | assumption)
         have q321 : x4_2 < (l0.length : Int) := of_decide_eq_true (by first | (with_reducible assumption) | assumption)
         obtain ⟨ad321, A321_0, c321_0, e321, hx321_0, hl321_0, hi321_0⟩ := at_L1 HR0.out x4_2 p321 q321
         obtain rfl : ad319 = ad321 := (by injection e321)
         have HR321_0 := a_ hi321_0
         have HC321_0 := a_ hl321_0
         clear hi321_0 hl321_0
         replace p321 := eq_true p321
         replace q321 := eq_true q321
         have p322 : 0 ≤ (x5_4 : Int) := of_decide_eq_true (by first | (with_reducible assumption) | assumption)
         have q322 : x5_4 < ((rd_L1 l0 x4_2).length : Int) := of_decide_eq_true (by first | (with_reducible assumption) | assumption)
         obtain ⟨ad322, e322, hx322_0⟩ := Kd.at_int HR321_0.out x5_4 p322 q322
         cases e322
         replace p322 := eq_true p322
         replace q322 := eq_true q322
         go_wp2
         repeat (go_quiet (fail); try go_wp2)
         go_meet
         case rel => exact ⟨_, (true), (by first | rfl | (simp; done) | (simp [*]; done)), H', ⟨by have := HJ1.out; have := HK2.out; have := HJ6.out; have := HK4.out; first | omega | exact Nat.le_refl _⟩, by repeat (first | exact Drawn0.refl _ | apply Drawn0.step)⟩
        rw [if_neg c18] at H
        have c18b0 : decide ((rd (rd_L1 l0 x4_2) x5_4) < 0) = false := decide_eq_false c18
        clear c18
        have H' := a_ H
        clear H
        have p321 : 0 ≤ (x4_2 : Int) := of_decide_eq_true (by first | (with_reducible assumption) | assumption)
        have q321 : x4_2 < (l0.length : Int) := of_decide_eq_true (by first | (with_reducible assumption) | assumption)
        obtain ⟨ad321, A321_0, c321_0, e321, hx321_0, hl321_0, hi321_0⟩ := at_L1 HR0.out x4_2 p321 q321
        obtain rfl : ad319 = ad321 := (by injection e321)
        have HR321_0 := a_ hi321_0
        have HC321_0 := a_ hl321_0
        clear hi321_0 hl321_0
        replace p321 := eq_true p321
        replace q321 := eq_true q321
        have p322 : 0 ≤ (x5_4 : Int) := of_decide_eq_true (by first | (with_reducible assumption) | assumption)
        have q322 : x5_4 < ((rd_L1 l0 x4_2).length : Int) := of_decide_eq_true (by first | (with_reducible assumption) | assumption)
        obtain ⟨ad322, e322, hx322_0⟩ := Kd.at_int HR321_0.out x5_4 p322 q322
        cases e322
        replace p322 := eq_true p322
        replace q322 := eq_true q322
        have p323 : 0 ≤ (x4_2 : Int) := of_decide_eq_true (by first | (with_reducible assumption) | assumption)
        have q323 : x4_2 < (l0.length : Int) := of_decide_eq_true (by first | (with_reducible assumption) | assumption)
        obtain ⟨ad323, A323_0, c323_0, e323, hx323_0, hl323_0, hi323_0⟩ := at_L1 HR0.out x4_2 p323 q323
        obtain rfl : ad319 = ad323 := (by injection e323)
        have HR323_0 := a_ hi323_0
        have HC323_0 := a_ hl323_0
        clear hi323_0 hl323_0
        replace p323 := eq_true p323
        replace q323 := eq_true q323
        have ea_ := Option.some.inj (hx321_0.symm.trans hx323_0)
        injection ea_ with ea_ en_ ec_
        subst ea_
        subst ec_
        clear en_
        have p324 : 0 ≤ (x5_4 : Int) := of_decide_eq_true (by first | (with_reducible assumption) | assumption)
        have q324 : x5_4 < ((rd_L1 l0 x4_2).length : Int) := of_decide_eq_true (by first | (with_reducible assumption) | assumption)
        obtain ⟨ad324, e324, hx324_0⟩ := Kd.at_int HR323_0.out x5_4 p324 q324
        cases e324
        replace p324 := eq_true p324
        replace q324 := eq_true q324
        go_wp2
        repeat (go_quiet (fail); try go_wp2)
        go_meet
        case rel => exact ⟨_, (decide ((rd (rd_L1 l0 x4_2) x5_4) ≥ ((rd_L1 l0 0).length : Int))), (by first | rfl | (simp; done) | (simp [*]; done)), H', ⟨by have := HJ1.out; have := HK2.out; have := HJ6.out; have := HK4.out; first | omega | exact Nat.le_refl _⟩, by repeat (first | exact Drawn0.refl _ | apply Drawn0.step)⟩
       case rest =>
        clear HC13
        obtain ⟨kq, x63_12, rfl, HA, HJ12, ⟨mc12, rfl⟩⟩ := hcut
        cases kq with
        | zero => exact absurd HA.out (by simp [rr_Table.j4])
        | succ kj12 =>
         have H := HA.out
         clear HA
         simp only [rr_Table.j4] at H
         by_cases c19 : x63_12 = true
         ·subst c19
          have H1 := H; rw [if_pos rfl] at H1
          clear H
          have H := H1
          clear H1
          obtain rfl := Option.some.inj H
          go_wp2
          repeat (go_quiet (fail); try go_wp2)
          go_ret
          exact ⟨by first | rfl | (simp; done) | (simp [*]; done), by repeat (first | exact Drawn0.refl _ | apply Drawn0.step)⟩
         replace c19 := Bool.eq_false_iff.mpr c19
         subst c19
         have H1 := H; rw [if_neg (show ¬ (false = true) by decide)] at H1
         clear H
         have H := H1
         clear H1
         have H' := a_ H
         clear H
         go_wp2
         repeat (go_quiet (fail); try go_wp2)
         go_loopg [6] kj12 (fun kq v6 w' => ∃ (x6_6 : Int), v6 = .int .i64 x6_6 ∧ Aside0 (rr_Table.l2 kq l0 ((rd_L1 l0 0).length : Int) x4_2 x5_4 x6_6 = some r) ∧ Aside0 (kq ≤ kj12) ∧ Drawn0 w w')
         case atStart => exact ⟨(0), (by first | rfl | (simp; done) | (simp [*]; done)), H', ⟨Nat.le_refl _⟩, by repeat (first | exact Drawn0.refl _ | apply Drawn0.step)⟩
         clear H'
         obtain ⟨x6_6, rfl, HA, HK6, ⟨m6, rfl⟩⟩ := hrel
         cases gk with
         | zero => exact absurd HA.out (by simp [rr_Table.l2])
         | succ k6 =>
          have H := HA.out
          clear HA
          simp only [rr_Table.l2] at H
          by_cases c20 : x6_6 < x5_4
          rotate_left
          ·rw [if_neg c20] at H
           have c20b0 : decide (x6_6 < x5_4) = false := decide_eq_false c20
           clear c20
           have H' := a_ H
           clear H
           go_wp2
           repeat (go_quiet (fail); try go_wp2)
           go_roundg k6
           case measure => have := HJ1.out; have := HK2.out; have := HJ6.out; have := HK4.out; have := HJ12.out; have := HK6.out; omega
           case rel => exact ⟨(wrap64 (x5_4 + 1)), (by first | rfl | (simp; done) | (simp [*]; done)), H', ⟨by have := HJ1.out; have := HK2.out; have := HJ6.out; have := HK4.out; have := HJ12.out; have := HK6.out; omega⟩, by repeat (first | exact Drawn0.refl _ | apply Drawn0.step)⟩
          rw [if_pos c20] at H
          have c20b0 : decide (x6_6 < x5_4) = true := decide_eq_true c20
          clear c20
          by_cases c21 : 0 ≤ x4_2
          rotate_left
          ·rw [if_neg c21] at H
           exact absurd H (by simp)
          rw [if_pos c21] at H
          have c21b0 : decide (0 ≤ x4_2) = true := decide_eq_true c21
          clear c21
          by_cases c22 : x4_2 < (l0.length : Int)
          rotate_left
          ·rw [if_neg c22] at H
           exact absurd H (by simp)
          rw [if_pos c22] at H
          have c22b0 : decide (x4_2 < (l0.length : Int)) = true := decide_eq_true c22
          clear c22
          by_cases c23 : 0 ≤ x6_6
          rotate_left
          ·rw [if_neg c23] at H
           exact absurd H (by simp)
          rw [if_pos c23] at H
          have c23b0 : decide (0 ≤ x6_6) = true := decide_eq_true c23
          clear c23
          by_cases c24 : x6_6 < ((rd_L1 l0 x4_2).length : Int)
          rotate_left
          ·rw [if_neg c24] at H
           exact absurd H (by simp)
          rw [if_pos c24] at H
          have c24b0 : decide (x6_6 < ((rd_L1 l0 x4_2).length : Int)) = true := decide_eq_true c24
          clear c24
          by_cases c25 : 0 ≤ x5_4
          rotate_left
          ·rw [if_neg c25] at H
           exact absurd H (by simp)
          rw [if_pos c25] at H
          have c25b0 : decide (0 ≤ x5_4) = true := decide_eq_true c25
          clear c25
          by_cases c26 : x5_4 < ((rd_L1 l0 x4_2).length : Int)
          rotate_left
          ·rw [if_neg c26] at H
           exact absurd H (by simp)
          rw [if_pos c26] at H
          have c26b0 : decide (x5_4 < ((rd_L1 l0 x4_2).length : Int)) = true := decide_eq_true c26
          clear c26
          by_cases c27 : (rd (rd_L1 l0 x4_2) x6_6) = (rd (rd_L1 l0 x4_2) x5_4)
          ·rw [if_pos c27] at H
           have c27b0 : ((rd (rd_L1 l0 x4_2) x6_6) == (rd (rd_L1 l0 x4_2) x5_4)) = true := beq_iff_eq.mpr c27
           have c27b1 : ((rd (rd_L1 l0 x4_2) x6_6) != (rd (rd_L1 l0 x4_2) x5_4)) = false := bne_eq_false_iff_eq.mpr c27
           clear c27
           obtain rfl := Option.some.inj H
           have p325 : 0 ≤ (x4_2 : Int) := of_decide_eq_true (by first | (with_reducible assumption) | assumption)
           have q325 : x4_2 < (l0.length : Int) := of_decide_eq_true (by first | (with_reducible assumption) | assumption)
           obtain ⟨ad325, A325_0, c325_0, e325, hx325_0, hl325_0, hi325_0⟩ := at_L1 HR0.out x4_2 p325 q325
           obtain rfl : ad319 = ad325 := (by injection e325)
           have HR325_0 := a_ hi325_0
           have HC325_0 := a_ hl325_0
           clear hi325_0 hl325_0
           replace p325 := eq_true p325
           replace q325 := eq_true q325
           have p326 : 0 ≤ (x6_6 : Int) := of_decide_eq_true (by first | (with_reducible assumption) | assumption)
           have q326 : x6_6 < ((rd_L1 l0 x4_2).length : Int) := of_decide_eq_true (by first | (with_reducible assumption) | assumption)
           obtain ⟨ad326, e326, hx326_0⟩ := Kd.at_int HR325_0.out x6_6 p326 q326
           cases e326
           replace p326 := eq_true p326
           replace q326 := eq_true q326
           have p327 : 0 ≤ (x4_2 : Int) := of_decide_eq_true (by first | (with_reducible assumption) | assumption)
           have q327 : x4_2 < (l0.length : Int) := of_decide_eq_true (by first | (with_reducible assumption) | assumption)
           obtain ⟨ad327, A327_0, c327_0, e327, hx327_0, hl327_0, hi327_0⟩ := at_L1 HR0.out x4_2 p327 q327
           obtain rfl : ad319 = ad327 := (by injection e327)
           have HR327_0 := a_ hi327_0
           have HC327_0 := a_ hl327_0
           clear hi327_0 hl327_0
           replace p327 := eq_true p327
           replace q327 := eq_true q327
           have ea_ := Option.some.inj (hx325_0.symm.trans hx327_0)
           injection ea_ with ea_ en_ ec_
           subst ea_
           subst ec_
           clear en_
           have p328 : 0 ≤ (x5_4 : Int) := of_decide_eq_true (by first | (with_reducible assumption) | assumption)
           have q328 : x5_4 < ((rd_L1 l0 x4_2).length : Int) := of_decide_eq_true (by first | (with_reducible assumption) | assumption)
           obtain ⟨ad328, e328, hx328_0⟩ := Kd.at_int HR327_0.out x5_4 p328 q328
           cases e328
           replace p328 := eq_true p328
           replace q328 := eq_true q328
           go_wp2
           repeat (go_quiet (fail); try go_wp2)
           go_ret
           exact ⟨by first | rfl | (simp; done) | (simp [*]; done), by repeat (first | exact Drawn0.refl _ | apply Drawn0.step)⟩
          rw [if_neg c27] at H
          have c27b0 : ((rd (rd_L1 l0 x4_2) x6_6) == (rd (rd_L1 l0 x4_2) x5_4)) = false := beq_eq_false_iff_ne.mpr c27
          have c27b1 : ((rd (rd_L1 l0 x4_2) x6_6) != (rd (rd_L1 l0 x4_2) x5_4)) = true := bne_iff_ne.mpr c27
          have H' := a_ H
          clear H
          have p325 : 0 ≤ (x4_2 : Int) := of_decide_eq_true (by first | (with_reducible assumption) | assumption)
          have q325 : x4_2 < (l0.length : Int) := of_decide_eq_true (by first | (with_reducible assumption) | assumption)
          obtain ⟨ad325, A325_0, c325_0, e325, hx325_0, hl325_0, hi325_0⟩ := at_L1 HR0.out x4_2 p325 q325
          obtain rfl : ad319 = ad325 := (by injection e325)
          have HR325_0 := a_ hi325_0
          have HC325_0 := a_ hl325_0
          clear hi325_0 hl325_0
          replace p325 := eq_true p325
          replace q325 := eq_true q325
          have p326 : 0 ≤ (x6_6 : Int) := of_decide_eq_true (by first | (with_reducible assumption) | assumption)
          have q326 : x6_6 < ((rd_L1 l0 x4_2).length : Int) := of_decide_eq_true (by first | (with_reducible assumption) | assumption)
          obtain ⟨ad326, e326, hx326_0⟩ := Kd.at_int HR325_0.out x6_6 p326 q326
          cases e326
          replace p326 := eq_true p326
          replace q326 := eq_true q326
          have p327 : 0 ≤ (x4_2 : Int) := of_decide_eq_true (by first | (with_reducible assumption) | assumption)
          have q327 : x4_2 < (l0.length : Int) := of_decide_eq_true (by first | (with_reducible assumption) | assumption)
          obtain ⟨ad327, A327_0, c327_0, e327, hx327_0, hl327_0, hi327_0⟩ := at_L1 HR0.out x4_2 p327 q327
          obtain rfl : ad319 = ad327 := (by injection e327)
          have HR327_0 := a_ hi327_0
          have HC327_0 := a_ hl327_0
          clear hi327_0 hl327_0
          replace p327 := eq_true p327
          replace q327 := eq_true q327
          have ea_ := Option.some.inj (hx325_0.symm.trans hx327_0)
          injection ea_ with ea_ en_ ec_
          subst ea_
          subst ec_
          clear en_
          have p328 : 0 ≤ (x5_4 : Int) := of_decide_eq_true (by first | (with_reducible assumption) | assumption)
          have q328 : x5_4 < ((rd_L1 l0 x4_2).length : Int) := of_decide_eq_true (by first | (with_reducible assumption) | assumption)
          obtain ⟨ad328, e328, hx328_0⟩ := Kd.at_int HR327_0.out x5_4 p328 q328
          cases e328
          replace p328 := eq_true p328
          replace q328 := eq_true q328
          go_wp2
          repeat (go_quiet (fail); try go_wp2)
          go_roundg k6
          case measure => have := HJ1.out; have := HK2.out; have := HJ6.out; have := HK4.out; have := HJ12.out; have := HK6.out; omega
          case rel => exact ⟨(wrap64 (x6_6 + 1)), (by first | rfl | (simp; done) | (simp [*]; done)), H', ⟨by have := HJ1.out; have := HK2.out; have := HJ6.out; have := HK4.out; have := HJ12.out; have := HK6.out; omega⟩, by repeat (first | exact Drawn0.refl _ | apply Drawn0.step)⟩
def c_identity.l0 : Nat → Int → Int → Int → Int → Int → Int → Option (Int × Int × Int × Int × Int)
 | 0, _, _, _, _, _, _ => none
 | k + 1, x3, Xc0, Xc1, Xc2, Xc3, Xc4 => if x3 < 5 then (if x3 = 0 then (c_identity.l0 k (0 + 1) 0 Xc1 Xc2 Xc3 Xc4) else (if x3 = 1 then (c_identity.l0 k (1 + 1) Xc0 1 Xc2 Xc3 Xc4) else (if x3 = 2 then (c_identity.l0 k (2 + 1) Xc0 Xc1 2 Xc3 Xc4) else (if x3 = 3 then (c_identity.l0 k (3 + 1) Xc0 Xc1 Xc2 3 Xc4) else (if x3 = 4 then (c_identity.l0 k (4 + 1) Xc0 Xc1 Xc2 Xc3 4) else (none)))))) else (some (Xc0, Xc1, Xc2, Xc3, Xc4))
def c_identity.f (k : Nat)  : Option (Int × Int × Int × Int × Int) := c_identity.l0 k 0 0 0 0 0 0
theorem c_identity.mono_l : ∀ k, (∀ y0 y1 y2 y3 y4 y5, LeO (c_identity.l0 k y0 y1 y2 y3 y4 y5) (c_identity.l0 (k + 1) y0 y1 y2 y3 y4 y5))
 | 0 => fun _ _ _ _ _ _ r h => by simp [c_identity.l0] at h
 | k + 1 => by
  have ih0 := c_identity.mono_l k
  ·intro y0 y1 y2 y3 y4 y5
   unfold c_identity.l0
   repeat' first
   | (with_reducible exact ih0 _ _ _ _ _ _)
   | (with_reducible exact LeO.refl _)
   | (with_reducible exact LeO.none _)
   | (with_reducible refine LeO.ite ?_ ?_)
   | (with_reducible refine LeO.bind ?_ (fun _ => ?_))
   | exact ih0 _ _ _ _ _ _
   | exact LeO.none _
   | refine LeO.ite ?_ ?_
   | refine LeO.bind ?_ (fun _ => ?_)
theorem c_identity.mono : ∀ k, LeO (c_identity.f k ) (c_identity.f (k + 1) ) := by
 intro  k
 have ih0 := c_identity.mono_l k
 unfold c_identity.f
 repeat' first
   | (with_reducible exact ih0 _ _ _ _ _ _)
   | (with_reducible exact LeO.refl _)
   | (with_reducible exact LeO.none _)
   | (with_reducible refine LeO.ite ?_ ?_)
   | (with_reducible refine LeO.bind ?_ (fun _ => ?_))
   | exact ih0 _ _ _ _ _ _
   | exact LeO.none _
   | refine LeO.ite ?_ ?_
   | refine LeO.bind ?_ (fun _ => ?_)
theorem c_identity.calls (k : Nat)  (r1 : Int) (r2 : Int) (r3 : Int) (r4 : Int) (r5 : Int) (w : World) (h : c_identity.f k  = some (r1, r2, r3, r4, r5)) :
  Calls Try.prog 77 #[] w fun e w' => e = .returned (.agg #[.int .i64 r1, .int .i64 r2, .int .i64 r3, .int .i64 r4, .int .i64 r5]) ∧ Below w.heap.size w w' := by
 have hu75 := Try.underlying75
 have HB := a_ (Below.refl w.heap.size w)
 have H : (c_identity.l0 k 0 0 0 0 0 0) = some (r1, r2, r3, r4, r5) := h
 clear h
 have H' := a_ H
 clear H
 go_enter Try.func77, Try.ntmps77
 go_wp2_with (first | ((with_reducible refine gate_dst (N := 0) rfl ?_); refine box_event ?hg (N := 0) ?hd (cs := #[.int .i64 0, .int .i64 0, .int .i64 0, .int .i64 0, .int .i64 0]) (t := 75) ?hr ?_; (case hd => rfl); (case hg => rfl); (case hr => first | (go_simp; done) | (go_simp; rfl)); intro gb329 hg w1 hbox hb; have BK329 := a_ (hbox); have GW329 := a_ ((by rw [hg]; exact (bZ_ (gr HB.out)) : w.heap.size ≤ gb329)); have GE329 := GEc.mk ((by rw [hg]; exact (bZ_ (gr HB.out)) : w.heap.size ≤ gb329)); replace HB := a_ (bT_ HB.out (tr hb)); clear hb hbox hg) | ((with_reducible refine gate_dst (N := 1) rfl ?_); refine box_event ?hg (N := 1) ?hd (cs := #[.int .i64 0, .int .i64 0, .int .i64 0, .int .i64 0, .int .i64 0]) (t := 75) ?hr ?_; (case hd => rfl); (case hg => rfl); (case hr => first | (go_simp; done) | (go_simp; rfl)); intro gb330 hg w2 hbox hb; have BK330 := a_ (hbox); have GW330 := a_ ((by rw [hg]; exact (bZ_ (by exact gs HB.out)) : w.heap.size ≤ gb330)); have GE330 := GEc.mk ((by rw [hg]; exact (bZ_ (by exact gs HB.out)) : w.heap.size ≤ gb330)); have NB329_330 := NEc.mk ((by rw [hg]; exact Nat.ne_of_lt (blk_lt (g := gb329) (o := .cells #[.int .i64 0, .int .i64 0, .int .i64 0, .int .i64 0, .int .i64 0] 75 (0, 0)) (by exact bk BK329.out)) : gb329 ≠ gb330)); have NB330_329 := NEc.mk ((by rw [hg]; exact Nat.ne_of_gt (blk_lt (g := gb329) (o := .cells #[.int .i64 0, .int .i64 0, .int .i64 0, .int .i64 0, .int .i64 0] 75 (0, 0)) (by exact bk BK329.out)) : gb330 ≠ gb329)); replace BK329 := a_ (kB_ BK329.out (tr hb)); replace HB := a_ (bT_ (by exact gs HB.out) hb); clear hb hbox hg))
 go_loopg [3] k (fun kq v3 w' => ∃ (x3_1 : Int) (Xc0_1 : Int) (Xc1_1 : Int) (Xc2_1 : Int) (Xc3_1 : Int) (Xc4_1 : Int), v3 = .int .i64 x3_1 ∧ Aside0 (c_identity.l0 kq x3_1 Xc0_1 Xc1_1 Xc2_1 Xc3_1 Xc4_1 = some (r1, r2, r3, r4, r5)) ∧ Aside0 (kq ≤ k) ∧ Aside0 (w'.heap[gb329]? = some (.cells #[.int .i64 0, .int .i64 0, .int .i64 0, .int .i64 0, .int .i64 0] 75 (0, 0))) ∧ Aside0 (w'.heap[gb330]? = some (.cells #[.int .i64 Xc0_1, .int .i64 Xc1_1, .int .i64 Xc2_1, .int .i64 Xc3_1, .int .i64 Xc4_1] 75 (0, 0))) ∧ Aside0 (Below w.heap.size w w'))
 case atStart => exact ⟨(0), (0), (0), (0), (0), (0), (by first | rfl | (simp; done) | (simp [*]; done)), H', ⟨Nat.le_refl _⟩, ⟨by exact bk BK329.out⟩, ⟨by exact bk BK330.out⟩, ⟨by exact gs HB.out⟩⟩
 clear H'
 obtain ⟨x3_1, Xc0_1, Xc1_1, Xc2_1, Xc3_1, Xc4_1, rfl, HA, HK1, BK329, BK330, HB⟩ := hrel
 cases gk with
 | zero => exact absurd HA.out (by simp [c_identity.l0])
 | succ k1 =>
  have H := HA.out
  clear HA
  simp only [c_identity.l0] at H
  by_cases c3 : x3_1 < 5
  rotate_left
  ·rw [if_neg c3] at H
   have c3b0 : decide (x3_1 < 5) = false := decide_eq_false c3
   clear c3
   simp only [Option.some.injEq, Prod.mk.injEq] at H
   obtain ⟨rfl, rfl, rfl, rfl, rfl⟩ := H
   have hnb19 := NB330_329.out
   have hnc19 := NB329_330.out
   have hcz20_0 : wr.cell? ⟨gb330, 0, none⟩ = some (.int .i64 Xc0_1) := (kc_ BK330.out 0).trans rfl
   have hcz20_1 : wr.cell? ⟨gb330, 1, none⟩ = some (.int .i64 Xc1_1) := (kc_ BK330.out 1).trans rfl
   have hcz20_2 : wr.cell? ⟨gb330, 2, none⟩ = some (.int .i64 Xc2_1) := (kc_ BK330.out 2).trans rfl
   have hcz20_3 : wr.cell? ⟨gb330, 3, none⟩ = some (.int .i64 Xc3_1) := (kc_ BK330.out 3).trans rfl
   have hcz20_4 : wr.cell? ⟨gb330, 4, none⟩ = some (.int .i64 Xc4_1) := (kc_ BK330.out 4).trans rfl
   have hfz20_0 := kf_ BK330.out 0
   have hfz20_1 := kf_ BK330.out 1
   have hfz20_2 := kf_ BK330.out 2
   have hfz20_3 := kf_ BK330.out 3
   have hfz20_4 := kf_ BK330.out 4
   have hcz21_0 : wr.cell? ⟨gb329, 0, none⟩ = some (.int .i64 0) := (kc_ BK329.out 0).trans rfl
   have hcz21_1 : wr.cell? ⟨gb329, 1, none⟩ = some (.int .i64 0) := (kc_ BK329.out 1).trans rfl
   have hcz21_2 : wr.cell? ⟨gb329, 2, none⟩ = some (.int .i64 0) := (kc_ BK329.out 2).trans rfl
   have hcz21_3 : wr.cell? ⟨gb329, 3, none⟩ = some (.int .i64 0) := (kc_ BK329.out 3).trans rfl
   have hcz21_4 : wr.cell? ⟨gb329, 4, none⟩ = some (.int .i64 0) := (kc_ BK329.out 4).trans rfl
   have hfz21_0 := kf_ BK329.out 0
   have hfz21_1 := kf_ BK329.out 1
   have hfz21_2 := kf_ BK329.out 2
   have hfz21_3 := kf_ BK329.out 3
   have hfz21_4 := kf_ BK329.out 4
   go_wp2
   refine bodyPost_ret (results_cell_row rfl _ _ gb329 75 #[.int .i64 Xc0_1, .int .i64 Xc1_1, .int .i64 Xc2_1, .int .i64 Xc3_1, .int .i64 Xc4_1] (0, 0) _ rfl (by exact pb BK329.out (by rfl)) Try.underlying75 rfl (by kernel_rfl)) rfl ?_
   exact ⟨by first | rfl | (simp [errW_none, errW_some] <;> rfl) | (simp [*, errW_none, errW_some] <;> rfl), by exact gs HB.out⟩
  rw [if_pos c3] at H
  have c3b0 : decide (x3_1 < 5) = true := decide_eq_true c3
  clear c3
  by_cases c4 : x3_1 = 0
  ·subst c4
   have H1 := H; rw [if_pos rfl] at H1
   clear H
   have H := H1
   clear H1
   have H' := a_ H
   clear H
   have hnb5 := NB330_329.out
   have hnc5 := NB329_330.out
   have hcz6_0 : wr.cell? ⟨gb330, 0, none⟩ = some (.int .i64 Xc0_1) := (kc_ BK330.out 0).trans rfl
   have hcz6_1 : wr.cell? ⟨gb330, 1, none⟩ = some (.int .i64 Xc1_1) := (kc_ BK330.out 1).trans rfl
   have hcz6_2 : wr.cell? ⟨gb330, 2, none⟩ = some (.int .i64 Xc2_1) := (kc_ BK330.out 2).trans rfl
   have hcz6_3 : wr.cell? ⟨gb330, 3, none⟩ = some (.int .i64 Xc3_1) := (kc_ BK330.out 3).trans rfl
   have hcz6_4 : wr.cell? ⟨gb330, 4, none⟩ = some (.int .i64 Xc4_1) := (kc_ BK330.out 4).trans rfl
   have hfz6_0 := kf_ BK330.out 0
   have hfz6_1 := kf_ BK330.out 1
   have hfz6_2 := kf_ BK330.out 2
   have hfz6_3 := kf_ BK330.out 3
   have hfz6_4 := kf_ BK330.out 4
   go_wp2
   go_roundg k1
   case measure => have := HK1.out; omega
   case rel => exact ⟨(0 + 1), (0), (Xc1_1), (Xc2_1), (Xc3_1), (Xc4_1), (by first | rfl | (simp; done) | (simp [*]; done)), H', ⟨by have := HK1.out; omega⟩, ⟨by exact bk BK329.out⟩, ⟨by exact pb BK330.out (by rfl)⟩, ⟨by exact gs HB.out⟩⟩
  rw [if_neg c4] at H
  clear c4
  by_cases c7 : x3_1 = 1
  ·subst c7
   have H1 := H; rw [if_pos rfl] at H1
   clear H
   have H := H1
   clear H1
   have H' := a_ H
   clear H
   have hnb8 := NB330_329.out
   have hnc8 := NB329_330.out
   have hcz9_0 : wr.cell? ⟨gb330, 0, none⟩ = some (.int .i64 Xc0_1) := (kc_ BK330.out 0).trans rfl
   have hcz9_1 : wr.cell? ⟨gb330, 1, none⟩ = some (.int .i64 Xc1_1) := (kc_ BK330.out 1).trans rfl
   have hcz9_2 : wr.cell? ⟨gb330, 2, none⟩ = some (.int .i64 Xc2_1) := (kc_ BK330.out 2).trans rfl
   have hcz9_3 : wr.cell? ⟨gb330, 3, none⟩ = some (.int .i64 Xc3_1) := (kc_ BK330.out 3).trans rfl
   have hcz9_4 : wr.cell? ⟨gb330, 4, none⟩ = some (.int .i64 Xc4_1) := (kc_ BK330.out 4).trans rfl
   have hfz9_0 := kf_ BK330.out 0
   have hfz9_1 := kf_ BK330.out 1
   have hfz9_2 := kf_ BK330.out 2
   have hfz9_3 := kf_ BK330.out 3
   have hfz9_4 := kf_ BK330.out 4
   go_wp2
   go_roundg k1
   case measure => have := HK1.out; omega
   case rel => exact ⟨(1 + 1), (Xc0_1), (1), (Xc2_1), (Xc3_1), (Xc4_1), (by first | rfl | (simp; done) | (simp [*]; done)), H', ⟨by have := HK1.out; omega⟩, ⟨by exact bk BK329.out⟩, ⟨by exact pb BK330.out (by rfl)⟩, ⟨by exact gs HB.out⟩⟩
  rw [if_neg c7] at H
  clear c7
  by_cases c10 : x3_1 = 2
  ·subst c10
   have H1 := H; rw [if_pos rfl] at H1
   clear H
   have H := H1
   clear H1
   have H' := a_ H
   clear H
   have hnb11 := NB330_329.out
   have hnc11 := NB329_330.out
   have hcz12_0 : wr.cell? ⟨gb330, 0, none⟩ = some (.int .i64 Xc0_1) := (kc_ BK330.out 0).trans rfl
   have hcz12_1 : wr.cell? ⟨gb330, 1, none⟩ = some (.int .i64 Xc1_1) := (kc_ BK330.out 1).trans rfl
   have hcz12_2 : wr.cell? ⟨gb330, 2, none⟩ = some (.int .i64 Xc2_1) := (kc_ BK330.out 2).trans rfl
   have hcz12_3 : wr.cell? ⟨gb330, 3, none⟩ = some (.int .i64 Xc3_1) := (kc_ BK330.out 3).trans rfl
   have hcz12_4 : wr.cell? ⟨gb330, 4, none⟩ = some (.int .i64 Xc4_1) := (kc_ BK330.out 4).trans rfl
   have hfz12_0 := kf_ BK330.out 0
   have hfz12_1 := kf_ BK330.out 1
   have hfz12_2 := kf_ BK330.out 2
   have hfz12_3 := kf_ BK330.out 3
   have hfz12_4 := kf_ BK330.out 4
   go_wp2
   go_roundg k1
   case measure => have := HK1.out; omega
   case rel => exact ⟨(2 + 1), (Xc0_1), (Xc1_1), (2), (Xc3_1), (Xc4_1), (by first | rfl | (simp; done) | (simp [*]; done)), H', ⟨by have := HK1.out; omega⟩, ⟨by exact bk BK329.out⟩, ⟨by exact pb BK330.out (by rfl)⟩, ⟨by exact gs HB.out⟩⟩
  rw [if_neg c10] at H
  clear c10
  by_cases c13 : x3_1 = 3
  ·subst c13
   have H1 := H; rw [if_pos rfl] at H1
   clear H
   have H := H1
   clear H1
   have H' := a_ H
   clear H
   have hnb14 := NB330_329.out
   have hnc14 := NB329_330.out
   have hcz15_0 : wr.cell? ⟨gb330, 0, none⟩ = some (.int .i64 Xc0_1) := (kc_ BK330.out 0).trans rfl
   have hcz15_1 : wr.cell? ⟨gb330, 1, none⟩ = some (.int .i64 Xc1_1) := (kc_ BK330.out 1).trans rfl
   have hcz15_2 : wr.cell? ⟨gb330, 2, none⟩ = some (.int .i64 Xc2_1) := (kc_ BK330.out 2).trans rfl
   have hcz15_3 : wr.cell? ⟨gb330, 3, none⟩ = some (.int .i64 Xc3_1) := (kc_ BK330.out 3).trans rfl
   have hcz15_4 : wr.cell? ⟨gb330, 4, none⟩ = some (.int .i64 Xc4_1) := (kc_ BK330.out 4).trans rfl
   have hfz15_0 := kf_ BK330.out 0
   have hfz15_1 := kf_ BK330.out 1
   have hfz15_2 := kf_ BK330.out 2
   have hfz15_3 := kf_ BK330.out 3
   have hfz15_4 := kf_ BK330.out 4
   go_wp2
   go_roundg k1
   case measure => have := HK1.out; omega
   case rel => exact ⟨(3 + 1), (Xc0_1), (Xc1_1), (Xc2_1), (3), (Xc4_1), (by first | rfl | (simp; done) | (simp [*]; done)), H', ⟨by have := HK1.out; omega⟩, ⟨by exact bk BK329.out⟩, ⟨by exact pb BK330.out (by rfl)⟩, ⟨by exact gs HB.out⟩⟩
  rw [if_neg c13] at H
  clear c13
  by_cases c16 : x3_1 = 4
  rotate_left
  ·rw [if_neg c16] at H
   exact absurd H (by simp)
  subst c16
  have H1 := H; rw [if_pos rfl] at H1
  clear H
  have H := H1
  clear H1
  have H' := a_ H
  clear H
  have hnb17 := NB330_329.out
  have hnc17 := NB329_330.out
  have hcz18_0 : wr.cell? ⟨gb330, 0, none⟩ = some (.int .i64 Xc0_1) := (kc_ BK330.out 0).trans rfl
  have hcz18_1 : wr.cell? ⟨gb330, 1, none⟩ = some (.int .i64 Xc1_1) := (kc_ BK330.out 1).trans rfl
  have hcz18_2 : wr.cell? ⟨gb330, 2, none⟩ = some (.int .i64 Xc2_1) := (kc_ BK330.out 2).trans rfl
  have hcz18_3 : wr.cell? ⟨gb330, 3, none⟩ = some (.int .i64 Xc3_1) := (kc_ BK330.out 3).trans rfl
  have hcz18_4 : wr.cell? ⟨gb330, 4, none⟩ = some (.int .i64 Xc4_1) := (kc_ BK330.out 4).trans rfl
  have hfz18_0 := kf_ BK330.out 0
  have hfz18_1 := kf_ BK330.out 1
  have hfz18_2 := kf_ BK330.out 2
  have hfz18_3 := kf_ BK330.out 3
  have hfz18_4 := kf_ BK330.out 4
  go_wp2
  go_roundg k1
  case measure => have := HK1.out; omega
  case rel => exact ⟨(4 + 1), (Xc0_1), (Xc1_1), (Xc2_1), (Xc3_1), (4), (by first | rfl | (simp; done) | (simp [*]; done)), H', ⟨by have := HK1.out; omega⟩, ⟨by exact bk BK329.out⟩, ⟨by exact pb BK330.out (by rfl)⟩, ⟨by exact gs HB.out⟩⟩
theorem getD_in (l : List Int) (i : Nat) (h : i < l.length) : l.getD i 0 ∈ l := by
 have : l.getD i 0 = l[i] := by simp [List.getD, h]
 rw [this]; exact List.getElem_mem _
theorem idx5_0 (y0_ y1_ y2_ y3_ y4_ : Value) (W : World) : (Instr.index 75 (.agg #[y0_, y1_, y2_, y3_, y4_]) (.int .i64 0)).run Try.prog W = .ok y0_ W := by kernel_rfl
theorem idx5_1 (y0_ y1_ y2_ y3_ y4_ : Value) (W : World) : (Instr.index 75 (.agg #[y0_, y1_, y2_, y3_, y4_]) (.int .i64 1)).run Try.prog W = .ok y1_ W := by kernel_rfl
theorem idx5_2 (y0_ y1_ y2_ y3_ y4_ : Value) (W : World) : (Instr.index 75 (.agg #[y0_, y1_, y2_, y3_, y4_]) (.int .i64 2)).run Try.prog W = .ok y2_ W := by kernel_rfl
theorem idx5_3 (y0_ y1_ y2_ y3_ y4_ : Value) (W : World) : (Instr.index 75 (.agg #[y0_, y1_, y2_, y3_, y4_]) (.int .i64 3)).run Try.prog W = .ok y3_ W := by kernel_rfl
theorem idx5_4 (y0_ y1_ y2_ y3_ y4_ : Value) (W : World) : (Instr.index 75 (.agg #[y0_, y1_, y2_, y3_, y4_]) (.int .i64 4)).run Try.prog W = .ok y4_ W := by kernel_rfl
def outL (c d : List Int) (i : Nat) : List Int := (List.range 5).map fun j => if j < i then rd c (d.getD j 0) else 0
def okD (d : List Int) : Prop := ∀ x ∈ d, 0 ≤ x ∧ x ≤ 4
instance (d : List Int) : Decidable (okD d) := by unfold okD; infer_instance
theorem outL_set (c d : List Int) (i : Nat) (hi : i < 5) : (((outL c d i).map (Value.int .i64)).toArray).setIfInBounds i (.int .i64 (rd c (d.getD i 0))) = ((outL c d (i + 1)).map (Value.int .i64)).toArray := by
 have : i = 0 ∨ i = 1 ∨ i = 2 ∨ i = 3 ∨ i = 4 := by omega
 rcases this with rfl | rfl | rfl | rfl | rfl <;> simp [outL, List.range, List.range.loop]
theorem outL_cell (c d : List Int) (i : Nat) (hi : i < 5) : (((outL c d i).map (Value.int .i64)).toArray)[i]? = some (.int .i64 0) := by
 have : i = 0 ∨ i = 1 ∨ i = 2 ∨ i = 3 ∨ i = 4 := by omega
 rcases this with rfl | rfl | rfl | rfl | rfl <;> simp [outL, List.range, List.range.loop]
def c_column_after.f (k : Nat) (a0_0 : Int) (a0_1 : Int) (a0_2 : Int) (a0_3 : Int) (a0_4 : Int) (a1_0 : Int) (a1_1 : Int) (a1_2 : Int) (a1_3 : Int) (a1_4 : Int) : Option (Int × Int × Int × Int × Int) :=
 if okD [a1_0, a1_1, a1_2, a1_3, a1_4] then some (rd [a0_0, a0_1, a0_2, a0_3, a0_4] a1_0, rd [a0_0, a0_1, a0_2, a0_3, a0_4] a1_1, rd [a0_0, a0_1, a0_2, a0_3, a0_4] a1_2, rd [a0_0, a0_1, a0_2, a0_3, a0_4] a1_3, rd [a0_0, a0_1, a0_2, a0_3, a0_4] a1_4) else none
theorem c_column_after.calls (k : Nat) (a0_0 : Int) (a0_1 : Int) (a0_2 : Int) (a0_3 : Int) (a0_4 : Int) (a1_0 : Int) (a1_1 : Int) (a1_2 : Int) (a1_3 : Int) (a1_4 : Int) (r1 : Int) (r2 : Int) (r3 : Int) (r4 : Int) (r5 : Int) (w : World) (h : c_column_after.f k a0_0 a0_1 a0_2 a0_3 a0_4 a1_0 a1_1 a1_2 a1_3 a1_4 = some (r1, r2, r3, r4, r5)) :
  Calls Try.prog 78 #[.agg #[.int .i64 a0_0, .int .i64 a0_1, .int .i64 a0_2, .int .i64 a0_3, .int .i64 a0_4], .agg #[.int .i64 a1_0, .int .i64 a1_1, .int .i64 a1_2, .int .i64 a1_3, .int .i64 a1_4]] w fun e w' => e = .returned (.agg #[.int .i64 r1, .int .i64 r2, .int .i64 r3, .int .i64 r4, .int .i64 r5]) ∧ Below w.heap.size w w' := by
 have hu75 := Try.underlying75
 unfold c_column_after.f at h
 by_cases hok : okD [a1_0, a1_1, a1_2, a1_3, a1_4]
 rotate_left
 ·rw [if_neg hok] at h; cases h
 rw [if_pos hok] at h
 simp only [Option.some.injEq, Prod.mk.injEq] at h
 obtain ⟨rfl, rfl, rfl, rfl, rfl⟩ := h
 have OK := a_ hok
 clear hok
 have HB := a_ (Below.refl w.heap.size w)
 go_enter Try.func78, Try.ntmps78
 go_wp2_with (first | ((with_reducible refine gate_dst (N := 2) rfl ?_); refine box_event ?hg (N := 2) ?hd (cs := #[.int .i64 a0_0, .int .i64 a0_1, .int .i64 a0_2, .int .i64 a0_3, .int .i64 a0_4]) (t := 75) ?hr ?_; (case hd => rfl); (case hg => rfl); (case hr => first | (go_simp; done) | (go_simp; rfl)); intro gb331 hg w3 hbox hb; have BK331 := a_ (hbox); have GW331 := a_ ((by rw [hg]; exact (bZ_ (gr HB.out)) : w.heap.size ≤ gb331)); have GE331 := GEc.mk ((by rw [hg]; exact (bZ_ (gr HB.out)) : w.heap.size ≤ gb331)); replace HB := a_ (bT_ HB.out (tr hb)); clear hb hbox hg) | ((with_reducible refine gate_dst (N := 3) rfl ?_); refine box_event ?hg (N := 3) ?hd (cs := #[.int .i64 a1_0, .int .i64 a1_1, .int .i64 a1_2, .int .i64 a1_3, .int .i64 a1_4]) (t := 75) ?hr ?_; (case hd => rfl); (case hg => rfl); (case hr => first | (go_simp; done) | (go_simp; rfl)); intro gb332 hg w4 hbox hb; have BK332 := a_ (hbox); have GW332 := a_ ((by rw [hg]; exact (bZ_ (by exact gs HB.out)) : w.heap.size ≤ gb332)); have GE332 := GEc.mk ((by rw [hg]; exact (bZ_ (by exact gs HB.out)) : w.heap.size ≤ gb332)); have NB331_332 := NEc.mk ((by rw [hg]; exact Nat.ne_of_lt (blk_lt (g := gb331) (o := .cells #[.int .i64 a0_0, .int .i64 a0_1, .int .i64 a0_2, .int .i64 a0_3, .int .i64 a0_4] 75 (0, 0)) (by exact bk BK331.out)) : gb331 ≠ gb332)); have NB332_331 := NEc.mk ((by rw [hg]; exact Nat.ne_of_gt (blk_lt (g := gb331) (o := .cells #[.int .i64 a0_0, .int .i64 a0_1, .int .i64 a0_2, .int .i64 a0_3, .int .i64 a0_4] 75 (0, 0)) (by exact bk BK331.out)) : gb332 ≠ gb331)); replace BK331 := a_ (kB_ BK331.out (tr hb)); replace HB := a_ (bT_ (by exact gs HB.out) hb); clear hb hbox hg) | ((with_reducible refine gate_dst (N := 4) rfl ?_); refine box_event ?hg (N := 4) ?hd (cs := #[.int .i64 0, .int .i64 0, .int .i64 0, .int .i64 0, .int .i64 0]) (t := 75) ?hr ?_; (case hd => rfl); (case hg => rfl); (case hr => first | (go_simp; done) | (go_simp; rfl)); intro gb333 hg w5 hbox hb; have BK333 := a_ (hbox); have GW333 := a_ ((by rw [hg]; exact (bZ_ (by exact gs HB.out)) : w.heap.size ≤ gb333)); have GE333 := GEc.mk ((by rw [hg]; exact (bZ_ (by exact gs HB.out)) : w.heap.size ≤ gb333)); have NB331_333 := NEc.mk ((by rw [hg]; exact Nat.ne_of_lt (blk_lt (g := gb331) (o := .cells #[.int .i64 a0_0, .int .i64 a0_1, .int .i64 a0_2, .int .i64 a0_3, .int .i64 a0_4] 75 (0, 0)) (by exact bk BK331.out)) : gb331 ≠ gb333)); have NB333_331 := NEc.mk ((by rw [hg]; exact Nat.ne_of_gt (blk_lt (g := gb331) (o := .cells #[.int .i64 a0_0, .int .i64 a0_1, .int .i64 a0_2, .int .i64 a0_3, .int .i64 a0_4] 75 (0, 0)) (by exact bk BK331.out)) : gb333 ≠ gb331)); have NB332_333 := NEc.mk ((by rw [hg]; exact Nat.ne_of_lt (blk_lt (g := gb332) (o := .cells #[.int .i64 a1_0, .int .i64 a1_1, .int .i64 a1_2, .int .i64 a1_3, .int .i64 a1_4] 75 (0, 0)) (by exact bk BK332.out)) : gb332 ≠ gb333)); have NB333_332 := NEc.mk ((by rw [hg]; exact Nat.ne_of_gt (blk_lt (g := gb332) (o := .cells #[.int .i64 a1_0, .int .i64 a1_1, .int .i64 a1_2, .int .i64 a1_3, .int .i64 a1_4] 75 (0, 0)) (by exact bk BK332.out)) : gb333 ≠ gb332)); replace BK331 := a_ (kB_ BK331.out (tr hb)); replace BK332 := a_ (kB_ BK332.out (tr hb)); replace HB := a_ (bT_ (by exact gs HB.out) hb); clear hb hbox hg) | ((with_reducible refine gate_dst (N := 5) rfl ?_); refine box_event ?hg (N := 5) ?hd (cs := #[.int .i64 0, .int .i64 0, .int .i64 0, .int .i64 0, .int .i64 0]) (t := 75) ?hr ?_; (case hd => rfl); (case hg => rfl); (case hr => first | (go_simp; done) | (go_simp; rfl)); intro gb334 hg w6 hbox hb; have BK334 := a_ (hbox); have GW334 := a_ ((by rw [hg]; exact (bZ_ (by exact gs HB.out)) : w.heap.size ≤ gb334)); have GE334 := GEc.mk ((by rw [hg]; exact (bZ_ (by exact gs HB.out)) : w.heap.size ≤ gb334)); have NB331_334 := NEc.mk ((by rw [hg]; exact Nat.ne_of_lt (blk_lt (g := gb331) (o := .cells #[.int .i64 a0_0, .int .i64 a0_1, .int .i64 a0_2, .int .i64 a0_3, .int .i64 a0_4] 75 (0, 0)) (by exact bk BK331.out)) : gb331 ≠ gb334)); have NB334_331 := NEc.mk ((by rw [hg]; exact Nat.ne_of_gt (blk_lt (g := gb331) (o := .cells #[.int .i64 a0_0, .int .i64 a0_1, .int .i64 a0_2, .int .i64 a0_3, .int .i64 a0_4] 75 (0, 0)) (by exact bk BK331.out)) : gb334 ≠ gb331)); have NB332_334 := NEc.mk ((by rw [hg]; exact Nat.ne_of_lt (blk_lt (g := gb332) (o := .cells #[.int .i64 a1_0, .int .i64 a1_1, .int .i64 a1_2, .int .i64 a1_3, .int .i64 a1_4] 75 (0, 0)) (by exact bk BK332.out)) : gb332 ≠ gb334)); have NB334_332 := NEc.mk ((by rw [hg]; exact Nat.ne_of_gt (blk_lt (g := gb332) (o := .cells #[.int .i64 a1_0, .int .i64 a1_1, .int .i64 a1_2, .int .i64 a1_3, .int .i64 a1_4] 75 (0, 0)) (by exact bk BK332.out)) : gb334 ≠ gb332)); have NB333_334 := NEc.mk ((by rw [hg]; exact Nat.ne_of_lt (blk_lt (g := gb333) (o := .cells #[.int .i64 0, .int .i64 0, .int .i64 0, .int .i64 0, .int .i64 0] 75 (0, 0)) (by exact bk BK333.out)) : gb333 ≠ gb334)); have NB334_333 := NEc.mk ((by rw [hg]; exact Nat.ne_of_gt (blk_lt (g := gb333) (o := .cells #[.int .i64 0, .int .i64 0, .int .i64 0, .int .i64 0, .int .i64 0] 75 (0, 0)) (by exact bk BK333.out)) : gb334 ≠ gb333)); replace BK331 := a_ (kB_ BK331.out (tr hb)); replace BK332 := a_ (kB_ BK332.out (tr hb)); replace BK333 := a_ (kB_ BK333.out (tr hb)); replace HB := a_ (bT_ (by exact gs HB.out) hb); clear hb hbox hg; have hnb7 := NB332_331.out; have hnc7 := NB331_332.out; have hnb8 := NB332_333.out; have hnc8 := NB333_332.out; have hnb9 := NB332_334.out; have hnc9 := NB334_332.out; have hcz10_0 : w6.cell? ⟨gb332, 0, none⟩ = some (.int .i64 a1_0) := (kc_ BK332.out 0).trans rfl; have hcz10_1 : w6.cell? ⟨gb332, 1, none⟩ = some (.int .i64 a1_1) := (kc_ BK332.out 1).trans rfl; have hcz10_2 : w6.cell? ⟨gb332, 2, none⟩ = some (.int .i64 a1_2) := (kc_ BK332.out 2).trans rfl; have hcz10_3 : w6.cell? ⟨gb332, 3, none⟩ = some (.int .i64 a1_3) := (kc_ BK332.out 3).trans rfl; have hcz10_4 : w6.cell? ⟨gb332, 4, none⟩ = some (.int .i64 a1_4) := (kc_ BK332.out 4).trans rfl; have hfz10_0 := kf_ BK332.out 0; have hfz10_1 := kf_ BK332.out 1; have hfz10_2 := kf_ BK332.out 2; have hfz10_3 := kf_ BK332.out 3; have hfz10_4 := kf_ BK332.out 4))
 go_loopw [9] (fun v9 wr => ∃ i : Nat, i ≤ 5 ∧ v9 = .int .i64 (i : Int) ∧ Aside0 (wr.heap[gb331]? = some (.cells #[.int .i64 a0_0, .int .i64 a0_1, .int .i64 a0_2, .int .i64 a0_3, .int .i64 a0_4] 75 (0, 0))) ∧ Aside0 (wr.heap[gb333]? = some (.cells #[.int .i64 0, .int .i64 0, .int .i64 0, .int .i64 0, .int .i64 0] 75 (0, 0))) ∧ Aside0 (wr.heap[gb334]? = some (.cells ((outL ([a0_0, a0_1, a0_2, a0_3, a0_4] : List Int) ([a1_0, a1_1, a1_2, a1_3, a1_4] : List Int) i).map (Value.int .i64)).toArray 75 (0, 0))) ∧ Aside0 (Below w.heap.size w wr)) (fun v _ => 5 - (intOf v).toNat)
 case atStart => exact ⟨0, by omega, rfl, BK331, BK333, ⟨BK334.out⟩, HB⟩
 clear BK331 BK332 BK333 BK334 HB
 obtain ⟨i, hi5, rfl, BK331, BK333, BK334, HB⟩ := hrel
 by_cases hi : i < 5
 ·have hlt : (i : Int) < 5 := by omega
  have hge : (0 : Int) ≤ (i : Int) := by omega
  have hix : ∀ W : World, (Instr.index 75 (.agg #[.int .i64 a1_0, .int .i64 a1_1, .int .i64 a1_2, .int .i64 a1_3, .int .i64 a1_4]) (.int .i64 (i : Int))).run Try.prog W = .ok (.int .i64 (([a1_0, a1_1, a1_2, a1_3, a1_4] : List Int).getD i 0)) W := by
   intro W
   have : i = 0 ∨ i = 1 ∨ i = 2 ∨ i = 3 ∨ i = 4 := by omega
   rcases this with rfl | rfl | rfl | rfl | rfl
   ·exact idx5_0 _ _ _ _ _ W
   ·exact idx5_1 _ _ _ _ _ W
   ·exact idx5_2 _ _ _ _ _ W
   ·exact idx5_3 _ _ _ _ _ W
   ·exact idx5_4 _ _ _ _ _ W
  obtain ⟨d, hd⟩ : ∃ d : Int, ([a1_0, a1_1, a1_2, a1_3, a1_4] : List Int).getD i 0 = d := ⟨_, rfl⟩
  have hdr : 0 ≤ d ∧ d ≤ 4 := by rw [← hd]; exact OK.out _ (getD_in _ i (by simpa using hi))
  have hd0 := hdr.1
  have hd5 : d < 5 := by omega
  have hcd : wr.cell? ⟨gb331, d.toNat, none⟩ = some (.int .i64 (rd ([a0_0, a0_1, a0_2, a0_3, a0_4] : List Int) d)) := by
   have : d = 0 ∨ d = 1 ∨ d = 2 ∨ d = 3 ∨ d = 4 := by omega
   rcases this with rfl | rfl | rfl | rfl | rfl <;> exact (kc_ BK331.out _).trans rfl
  have hco : wr.cell? ⟨gb334, i, none⟩ = some (.int .i64 0) := (kc_ BK334.out i).trans (outL_cell _ _ i hi)
  have hfo := kf_ BK334.out i
  have HO := outL_set ([a0_0, a0_1, a0_2, a0_3, a0_4] : List Int) ([a1_0, a1_1, a1_2, a1_3, a1_4] : List Int) i hi
  rw [hd] at hix HO
  clear hdr
  go_wp2
  go_roundw
  case rel => exact ⟨i + 1, by omega, by first | rfl | (simp [wrap64]; omega) | go_num, ⟨kF_ BK331.out NB331_334.out _⟩, ⟨kF_ BK333.out NB333_334.out _⟩, ⟨kP_ BK334.out i _ HO⟩, ⟨bS_ HB.out GE334.out⟩⟩
  case measure => simp [intOf]; omega
 obtain rfl : i = 5 := by omega
 have BK334 := a_ (show wr.heap[gb334]? = some (.cells #[.int .i64 (rd ([a0_0, a0_1, a0_2, a0_3, a0_4] : List Int) a1_0), .int .i64 (rd ([a0_0, a0_1, a0_2, a0_3, a0_4] : List Int) a1_1), .int .i64 (rd ([a0_0, a0_1, a0_2, a0_3, a0_4] : List Int) a1_2), .int .i64 (rd ([a0_0, a0_1, a0_2, a0_3, a0_4] : List Int) a1_3), .int .i64 (rd ([a0_0, a0_1, a0_2, a0_3, a0_4] : List Int) a1_4)] 75 (0, 0)) from BK334.out)
 have hnb217 := NB334_331.out
 have hnc217 := NB331_334.out
 have hnb218 := NB334_332.out
 have hnc218 := NB332_334.out
 have hnb219 := NB334_333.out
 have hnc219 := NB333_334.out
 have hcz220_0 : wr.cell? ⟨gb334, 0, none⟩ = some (.int .i64 (rd ([a0_0, a0_1, a0_2, a0_3, a0_4] : List Int) a1_0)) := (kc_ BK334.out 0).trans rfl
 have hcz220_1 : wr.cell? ⟨gb334, 1, none⟩ = some (.int .i64 (rd ([a0_0, a0_1, a0_2, a0_3, a0_4] : List Int) a1_1)) := (kc_ BK334.out 1).trans rfl
 have hcz220_2 : wr.cell? ⟨gb334, 2, none⟩ = some (.int .i64 (rd ([a0_0, a0_1, a0_2, a0_3, a0_4] : List Int) a1_2)) := (kc_ BK334.out 2).trans rfl
 have hcz220_3 : wr.cell? ⟨gb334, 3, none⟩ = some (.int .i64 (rd ([a0_0, a0_1, a0_2, a0_3, a0_4] : List Int) a1_3)) := (kc_ BK334.out 3).trans rfl
 have hcz220_4 : wr.cell? ⟨gb334, 4, none⟩ = some (.int .i64 (rd ([a0_0, a0_1, a0_2, a0_3, a0_4] : List Int) a1_4)) := (kc_ BK334.out 4).trans rfl
 have hfz220_0 := kf_ BK334.out 0
 have hfz220_1 := kf_ BK334.out 1
 have hfz220_2 := kf_ BK334.out 2
 have hfz220_3 := kf_ BK334.out 3
 have hfz220_4 := kf_ BK334.out 4
 have hnb221 := NB333_331.out
 have hnc221 := NB331_333.out
 have hnb222 := NB333_332.out
 have hnc222 := NB332_333.out
 have hcz223_0 : wr.cell? ⟨gb333, 0, none⟩ = some (.int .i64 0) := (kc_ BK333.out 0).trans rfl
 have hcz223_1 : wr.cell? ⟨gb333, 1, none⟩ = some (.int .i64 0) := (kc_ BK333.out 1).trans rfl
 have hcz223_2 : wr.cell? ⟨gb333, 2, none⟩ = some (.int .i64 0) := (kc_ BK333.out 2).trans rfl
 have hcz223_3 : wr.cell? ⟨gb333, 3, none⟩ = some (.int .i64 0) := (kc_ BK333.out 3).trans rfl
 have hcz223_4 : wr.cell? ⟨gb333, 4, none⟩ = some (.int .i64 0) := (kc_ BK333.out 4).trans rfl
 have hfz223_0 := kf_ BK333.out 0
 have hfz223_1 := kf_ BK333.out 1
 have hfz223_2 := kf_ BK333.out 2
 have hfz223_3 := kf_ BK333.out 3
 have hfz223_4 := kf_ BK333.out 4
 go_wp2
 refine bodyPost_ret (results_cell_row rfl _ _ gb333 75 #[.int .i64 (rd ([a0_0, a0_1, a0_2, a0_3, a0_4] : List Int) a1_0), .int .i64 (rd ([a0_0, a0_1, a0_2, a0_3, a0_4] : List Int) a1_1), .int .i64 (rd ([a0_0, a0_1, a0_2, a0_3, a0_4] : List Int) a1_2), .int .i64 (rd ([a0_0, a0_1, a0_2, a0_3, a0_4] : List Int) a1_3), .int .i64 (rd ([a0_0, a0_1, a0_2, a0_3, a0_4] : List Int) a1_4)] (0, 0) _ rfl (by exact pb BK333.out (by rfl)) Try.underlying75 rfl (by kernel_rfl)) rfl ?_
 exact ⟨by first | rfl | (simp [errW_none, errW_some] <;> rfl) | (simp [*, errW_none, errW_some] <;> rfl), by exact gs HB.out⟩
end Go.Proofs.Ytifkldehbaphgaa.PAll
end
section
namespace Go.KeySet
open Go.Maps (Keyed)
open Go.ChangeMaps (setBlock modify_eq_set heap_setBlock_same heap_setBlock_other)
open Go.MapKept Go.RowKit
def is (w : World) (b : Nat) (L : List Value) : Prop := ∃ es clock, w.heap[b]? = some (.map es clock) ∧ es.toList.map (fun x : MapEntry => x.key) = L ∧ ∀ x ∈ es.toList, x.val = .bool true
theorem made (w : World) : is (w.alloc (.map #[] 0)) w.heap.size [] := ⟨#[], 0, (MapKept.heap_alloc w _).1, rfl, by simp⟩
theorem lt {w : World} {b : Nat} {L : List Value} (h : is w b L) : b < w.heap.size := by
 obtain ⟨es, clock, hb, _⟩ := h
 exact (Array.getElem?_eq_some_iff.1 hb).1
theorem kept {w w' : World} {b : Nat} {L : List Value} {row : Option Nat} (h : is w b L) (hg : w.grownBy w' row) (hne : some b ≠ row) : is w' b L := by
 have hlt := lt h
 obtain ⟨es, clock, hb, h1, h2⟩ := h
 exact ⟨es, clock, (hg.block b hlt hne).trans hb, h1, h2⟩
theorem of_block {w w' : World} {b : Nat} {L : List Value} (h : is w b L) (e : w'.heap[b]? = w.heap[b]?) : is w' b L := by
 obtain ⟨es, clock, hb, h1, h2⟩ := h
 exact ⟨es, clock, e.trans hb, h1, h2⟩
variable {P : Program} {k e t : TypeId} {w : World} {b : Nat} {L : List Value}
theorem keys {es : Array MapEntry} (hL : es.toList.map (fun x : MapEntry => x.key) = L) (hk : ∀ v ∈ L, ∃ l, keyOf P k v = some l) : ∀ x ∈ es.toList, ∃ l, keyOf P k x.key = some l := fun x hx => hk _ (by rw [← hL]; exact List.mem_map.2 ⟨x, hx, rfl⟩)
theorem store (h : is w b L) (K : Keyed P k) (ht : P.underlying t = some (.map k e)) (hk : ∀ v ∈ L, ∃ l, keyOf P k v = some l) {key : Value} {kl : Lit} (hkey : keyOf P k key = some kl) :
  ∃ w', (Instr.mapUpdate t (.map (some b)) key (.bool true)).run P w = .ok () w' ∧ w.grownBy w' (some b) ∧ (key ∈ L → is w' b L) ∧ (key ∉ L → is w' b (L ++ [key])) := by
 obtain ⟨es, clock, hb, hL, hv⟩ := h
 rcases K.find w hkey es.toList (keys hL hk) with ⟨h1, h2⟩ | ⟨j, e0, h1, h2, h3⟩
 ·refine ⟨setBlock w b (.map (es.push ⟨key, .bool true, clock⟩) (clock + 1)), ?_, ⟨rfl, rfl, rfl, by simp [setBlock], fun i _ hi => heap_setBlock_other hb _ (fun e => hi (by rw [e]))⟩, ?_, ?_⟩
  ·simp [Instr.mapUpdate, run_underlying ht, MapKept.run_getObj_map hb, K.check w false hkey, h1, MapKept.run_setObj_map _ hb, Result.andThen, setBlock]
  ·intro hm
   rw [← hL] at hm
   obtain ⟨x, hx, e1⟩ := List.mem_map.1 hm
   exact absurd e1 (h2 x hx)
  ·intro _
   refine ⟨_, _, heap_setBlock_same hb _, by simp [hL], ?_⟩
   intro x hx
   simp only [Array.toList_push, List.mem_append, List.mem_singleton] at hx
   rcases hx with hx | rfl
   ·exact hv x hx
   ·rfl
 ·have hj : es[j]? = some e0 := by simpa using h2
  have hjl : j < es.toList.length := (List.getElem?_eq_some_iff.1 h2).1
  have hlist : (es.modify j (fun e' => { e' with key := key, val := .bool true })).toList = es.toList.set j { e0 with key := key, val := .bool true } := by rw [Array.toList_modify, modify_eq_set _ _ _ _ h2]
  refine ⟨setBlock w b (.map (es.modify j (fun e' => { e' with key := key, val := .bool true })) clock), ?_, ⟨rfl, rfl, rfl, by simp [setBlock], fun i _ hi => heap_setBlock_other hb _ (fun e => hi (by rw [e]))⟩, ?_, ?_⟩
  ·simp [Instr.mapUpdate, run_underlying ht, MapKept.run_getObj_map hb, K.check w false hkey, h1, hj, h3, K.stays w hkey, MapKept.run_setObj_map _ hb, Result.andThen, setBlock]
  ·intro _
   refine ⟨_, _, heap_setBlock_same hb _, ?_, ?_⟩
   ·rw [hlist, List.map_set, ← hL]
    have : key = (es.toList.map (fun x : MapEntry => x.key))[j]'(by simpa using hjl) := by
     rw [List.getElem_map, (List.getElem?_eq_some_iff.1 h2).2, h3]
    show (es.toList.map (fun x : MapEntry => x.key)).set j key = _
    conv => lhs; rw [this]
    exact List.set_getElem_self _
   ·intro x hx
    rw [hlist] at hx
    rcases List.mem_or_eq_of_mem_set hx with hx | rfl
    ·exact hv x hx
    ·rfl
  ·intro hn
   exact absurd (by rw [← hL]; exact List.mem_map.2 ⟨e0, List.mem_of_getElem? h2, h3⟩) hn
theorem look (h : is w b L) (K : Keyed P k) (ht : P.underlying t = some (.map k e)) (hk : ∀ v ∈ L, ∃ l, keyOf P k v = some l) (hz : (zeroValue e).run P w = .ok (.bool false) w) {key : Value} {kl : Lit} (hkey : keyOf P k key = some kl) :
  (key ∈ L ∧ (Instr.lookup t (.map (some b)) key false).run P w = .ok (.bool true) w) ∨ (key ∉ L ∧ (Instr.lookup t (.map (some b)) key false).run P w = .ok (.bool false) w) := by
 obtain ⟨es, clock, hb, hL, hv⟩ := h
 rcases K.find w hkey es.toList (keys hL hk) with ⟨h1, h2⟩ | ⟨j, e0, h1, h2, h3⟩
 ·refine Or.inr ⟨?_, by simp [Instr.lookup, run_underlying ht, MapKept.run_getObj_map hb, K.check w _ hkey, h1, hz, Result.andThen]⟩
  rw [← hL]
  intro hm
  obtain ⟨x, hx, e1⟩ := List.mem_map.1 hm
  exact h2 x hx e1
 ·have hm0 : e0 ∈ es.toList := List.mem_of_getElem? h2
  refine Or.inl ⟨by rw [← hL]; exact List.mem_map.2 ⟨e0, hm0, h3⟩, ?_⟩
  simp [Instr.lookup, run_underlying ht, MapKept.run_getObj_map hb, K.check w _ hkey, h1, Result.andThen, hv e0 hm0]
theorem len (h : is w b L) (ht : P.underlying t = some (.map k e)) (ty : TypeId) : (Builtin.len_ #[t] ty #[.map (some b)]).run P w = .ok (.int .i64 L.length) w := by
 obtain ⟨es, clock, hb, hL, hv⟩ := h
 rw [← hL]
 simp [Builtin.len_, run_underlying ht, MapKept.run_getObj_map hb, goInt, Result.andThen]
theorem is_below {w w' : World} (h : is w b L) (hb : Below w.heap.size w w') : is w' b L := of_block h (hb.block b (lt h))
theorem wp_store {ops : Array Oper} {rest : List Oper} {o : Oper} {a : Act} {Q : Exit → Act → World → Prop} (hg : o.guard = none) (m x v : Operand) (t : TypeId) (hop : o.op = Op.mapUpdate t m x v)
  (k e : TypeId) (K : Keyed P k) (ht : P.underlying t = some (.map k e)) (b : Nat) (L : List Value) (hm : a.eval m = .map (some b)) (his : is w b L) (hk : ∀ v ∈ L, ∃ l, keyOf P k v = some l)
  (key : Value) (hx : a.eval x = key) (hv : a.eval v = .bool true) (hkey : ∃ l, keyOf P k key = some l)
  (hK : ∀ w', w.grownBy w' (some b) → (key ∈ L → is w' b L) → (key ∉ L → is w' b (L ++ [key])) → wpList P ops Q rest (a.put o.dst undef) w') :
  wpList P ops Q (o :: rest) a w := by
 refine wpList_plain hg fun K' hK' => ?_
 obtain ⟨l, hl⟩ := hkey
 obtain ⟨w', hrun, r0, r1, r2⟩ := store his K ht hk hl
 unfold Oper.wp
 simp [execOp, hop, hm, hx, hv, hrun, Result.andThen]
 exact hK' _ _ (hK w' r0 r1 r2)
theorem wp_insert {ops : Array Oper} {rest : List Oper} {o : Oper} {a : Act} {Q : Exit → Act → World → Prop} (hg : o.guard = none) (m x v : Operand) (t : TypeId) (hop : o.op = Op.insert t m x v)
  (k e : TypeId) (K : Keyed P k) (ht : P.underlying t = some (.map k e)) (b : Nat) (L : List Value) (hm : a.eval m = .map (some b)) (his : is w b L) (hk : ∀ v ∈ L, ∃ l, keyOf P k v = some l)
  (key : Value) (hx : a.eval x = key) (hv : a.eval v = .bool true) (hkey : ∃ l, keyOf P k key = some l)
  (hK : ∀ w', w.grownBy w' (some b) → (key ∈ L → is w' b L) → (key ∉ L → is w' b (L ++ [key])) → wpList P ops Q rest (a.put o.dst undef) w') :
  wpList P ops Q (o :: rest) a w := by
 refine wpList_plain hg fun K' hK' => ?_
 obtain ⟨l, hl⟩ := hkey
 obtain ⟨w', hrun, r0, r1, r2⟩ := store his K ht hk hl
 unfold Oper.wp
 simp [execOp, hop, hm, hx, hv, hrun, Result.andThen]
 exact hK' _ _ (hK w' r0 r1 r2)
theorem wp_look {ops : Array Oper} {rest : List Oper} {o : Oper} {a : Act} {Q : Exit → Act → World → Prop} (hg : o.guard = none) (m x : Operand) (t : TypeId) (hop : o.op = Op.lookup t m x false)
  (k e : TypeId) (K : Keyed P k) (ht : P.underlying t = some (.map k e)) (hz : (zeroValue e).run P w = .ok (.bool false) w) (b : Nat) (L : List Value) (hm : a.eval m = .map (some b)) (his : is w b L) (hk : ∀ v ∈ L, ∃ l, keyOf P k v = some l)
  (key : Value) (hx : a.eval x = key) (hkey : ∃ l, keyOf P k key = some l) (c : Bool) (hc : c = true ↔ key ∈ L)
  (hK : wpList P ops Q rest (a.put o.dst (.bool c)) w) : wpList P ops Q (o :: rest) a w := by
 refine wpList_plain hg fun K' hK' => ?_
 obtain ⟨l, hl⟩ := hkey
 have hrun : (Instr.lookup t (.map (some b)) key false).run P w = .ok (.bool c) w := by
  rcases look his K ht hk hz hl with ⟨h1, h2⟩ | ⟨h1, h2⟩
  ·rw [hc.2 h1]; exact h2
  ·cases c
   ·exact h2
   ·exact absurd (hc.1 rfl) h1
 unfold Oper.wp
 simp [execOp, hop, hm, hx, hrun, Result.andThen]
 exact hK' _ _ hK
end Go.KeySet
end
section
namespace Go.Proofs.Ytifkldehbaphgaa.PAll
open Go.RowKit Go.PW.PrintWords
def goodU (n : Nat) (u : List Int) : Prop := u.length = n ∧ ∀ x ∈ u, (Lit.int .i64 x).wf = true
instance (n : Nat) (u : List Int) : Decidable (goodU n u) := by unfold goodU; infer_instance
def encU (u : List Int) : Value := .agg ((u.map (Value.int .i64)).toArray)
theorem encU_inj {u v : List Int} (h : encU u = encU v) : u = v := by
 unfold encU at h
 injection h with h
 have h2 : u.map (Value.int .i64) = v.map (Value.int .i64) := by simpa using congrArg Array.toList h
 exact (List.map_inj_right (f := Value.int .i64) (fun a b e => by injection e)).1 h2
theorem encU_mem {u : List Int} {L : List (List Int)} : encU u ∈ L.map encU ↔ u ∈ L := by
 constructor
 ·intro h
  obtain ⟨v, hv, e⟩ := List.mem_map.1 h
  exact encU_inj e ▸ hv
 ·exact fun h => List.mem_map.2 ⟨u, h, rfl⟩
theorem laidAll : laidOutB Try.prog = true := by kernel_rfl
theorem lits_int (d : Nat) {n : Int} (h : (Lit.int .i64 n).wf = true) : Try.prog.keyLits (d + 1) 3 [.int .i64 n] = some [.int .i64 n] := by
 simp [Program.keyLits, Try.underlying3, h]
theorem cells3 : Try.prog.cellsOf 3 = 1 := by kernel_rfl
theorem cells75 : Try.prog.cellsOf 75 = 5 := by kernel_rfl
theorem lits_col (d : Nat) {a b c e f : Int} (ha : (Lit.int .i64 a).wf = true) (hb : (Lit.int .i64 b).wf = true) (hc : (Lit.int .i64 c).wf = true) (he : (Lit.int .i64 e).wf = true) (hf : (Lit.int .i64 f).wf = true) :
  Try.prog.keyLits (d + 2) 75 [.int .i64 a, .int .i64 b, .int .i64 c, .int .i64 e, .int .i64 f] = some [.int .i64 a, .int .i64 b, .int .i64 c, .int .i64 e, .int .i64 f] := by
 unfold Program.keyLits
 simp [Try.underlying75, cells75, cells3, List.range, List.range.loop, lits_int d ha, lits_int d hb, lits_int d hc, lits_int d he, lits_int d hf]
theorem keyed95 : Go.Maps.Keyed Try.prog 75 := Go.Maps.Keyed.of_law (deep_law_laid laidAll (m := 3) (by omega) (of_decide_eq_true (by kernel_rfl)) (by kernel_rfl) (by rw [Try.underlying75]))
theorem key95 {u : List Int} (h : goodU 5 u) : ∃ l, keyOf Try.prog 75 (encU u) = some l := by
 obtain ⟨hl, hw⟩ := h
 match u, hl with
 | [a, b, c, e, f], _ =>
  have hk : Try.prog.keyType 75 = true := by kernel_rfl
  have hs : Try.prog.types.size + 1 = (Try.prog.types.size - 1) + 2 := by have : 1 ≤ Try.prog.types.size := of_decide_eq_true (by kernel_rfl); omega
  have hfm : (Value.agg (([a, b, c, e, f] : List Int).map (Value.int .i64)).toArray).formed Try.prog 75 = true := by simp [Value.formed, Try.underlying75, cells75]
  have hc2 : (Value.agg (([a, b, c, e, f] : List Int).map (Value.int .i64)).toArray).cells.toList = [.int .i64 a, .int .i64 b, .int .i64 c, .int .i64 e, .int .i64 f] := by simp [Value.cells]
  unfold keyOf encU
  rw [Try.underlying75]
  simp only [hk, hfm, Bool.and_self, if_true, hc2]
  rw [hs, lits_col _ (hw a (by simp)) (hw b (by simp)) (hw c (by simp)) (hw e (by simp)) (hw f (by simp))]
  exact ⟨_, rfl⟩
end Go.Proofs.Ytifkldehbaphgaa.PAll
end
section
namespace Go.Proofs.Ytifkldehbaphgaa.PAll
open Go.RowKit Go.PW.PrintWords Go.PW.PrintLast Go.PW.PrintMore
attribute [local go_sem] max2_int max_two
def fullL (c : List Int) (d : Nat) : List Int := c.take d ++ [0, 1, 2, 3, 4].drop d
def full5 (l : List Int) : Int × Int × Int × Int × Int := (l.getD 0 0, l.getD 1 0, l.getD 2 0, l.getD 3 0, l.getD 4 0)
def c_table_full.f (k : Nat) (a0_0 : Int) (a0_1 : Int) (a0_2 : Int) (a0_3 : Int) (a0_4 : Int) (a0_5 : Int) (a0_6 : Int) (a0_7 : Int) (a0_8 : Int) (a0_9 : Int) (a0_10 : Int) (a0_11 : Int) (a1 : Int) : Option (Int × Int × Int × Int × Int) :=
 if 1 ≤ a0_1 ∧ a0_1 ≤ 5 then (if a1 = 0 then some (full5 (fullL [a0_2, a0_3, a0_4, a0_5, a0_6] a0_1.toNat)) else if a1 = 1 then some (full5 (fullL [a0_7, a0_8, a0_9, a0_10, a0_11] a0_1.toNat)) else none) else none
theorem fullL_cells (c : List Int) (d : Nat) (hc : c.length = 5) (hd : d ≤ 5) : (fullL c d).map (Value.int .i64) = [.int .i64 ((fullL c d).getD 0 0), .int .i64 ((fullL c d).getD 1 0), .int .i64 ((fullL c d).getD 2 0), .int .i64 ((fullL c d).getD 3 0), .int .i64 ((fullL c d).getD 4 0)] := by
 match c, hc with
 | [a, b, c, e, f], _ =>
  have : d = 0 ∨ d = 1 ∨ d = 2 ∨ d = 3 ∨ d = 4 ∨ d = 5 := by omega
  rcases this with rfl | rfl | rfl | rfl | rfl | rfl <;> rfl
theorem identity_at : c_identity.f 20 = some (0, 1, 2, 3, 4) := by kernel_rfl
theorem full_0 (d : Nat) (a0_0 : Int) (a0_2 : Int) (a0_3 : Int) (a0_4 : Int) (a0_5 : Int) (a0_6 : Int) (a0_7 : Int) (a0_8 : Int) (a0_9 : Int) (a0_10 : Int) (a0_11 : Int) (w : World) (h1 : 1 ≤ d) (h5 : d ≤ 5) :
  Calls Try.prog 76 #[.agg #[.int .i64 a0_0, .int .i64 (d : Int), .int .i64 a0_2, .int .i64 a0_3, .int .i64 a0_4, .int .i64 a0_5, .int .i64 a0_6, .int .i64 a0_7, .int .i64 a0_8, .int .i64 a0_9, .int .i64 a0_10, .int .i64 a0_11], .int .i64 0] w fun e w' => e = .returned (.agg #[.int .i64 ((fullL [a0_2, a0_3, a0_4, a0_5, a0_6] d).getD 0 0), .int .i64 ((fullL [a0_2, a0_3, a0_4, a0_5, a0_6] d).getD 1 0), .int .i64 ((fullL [a0_2, a0_3, a0_4, a0_5, a0_6] d).getD 2 0), .int .i64 ((fullL [a0_2, a0_3, a0_4, a0_5, a0_6] d).getD 3 0), .int .i64 ((fullL [a0_2, a0_3, a0_4, a0_5, a0_6] d).getD 4 0)]) ∧ Below w.heap.size w w' := by
 have hu78 := Try.underlying78
 have hu75 := Try.underlying75
 have HB := a_ (Below.refl w.heap.size w)
 have D1 := a_ h1
 have D5 := a_ h5
 clear h1 h5
 go_enter Try.func76, Try.ntmps76
 go_upto_region 2 with (first | ((with_reducible refine gate_dst (N := 2) rfl ?_); refine box_event ?hg (N := 2) ?hd (cs := #[.int .i64 a0_0, .int .i64 (d : Int), .int .i64 a0_2, .int .i64 a0_3, .int .i64 a0_4, .int .i64 a0_5, .int .i64 a0_6, .int .i64 a0_7, .int .i64 a0_8, .int .i64 a0_9, .int .i64 a0_10, .int .i64 a0_11]) (t := 78) ?hr ?_; (case hd => rfl); (case hg => rfl); (case hr => first | (go_simp; done) | (go_simp; rfl)); intro gb208 hg w4 hbox hb; have BK208 := a_ (hbox); have GW208 := a_ ((by rw [hg]; exact (bZ_ (gr HB.out)) : w.heap.size ≤ gb208)); have GE208 := GEc.mk ((by rw [hg]; exact (bZ_ (gr HB.out)) : w.heap.size ≤ gb208)); replace HB := a_ (bT_ HB.out (tr hb)); clear hb hbox hg) | ((with_reducible refine gate_dst (N := 4) rfl ?_); refine box_event ?hg (N := 4) ?hd (cs := #[.int .i64 0, .int .i64 0, .int .i64 0, .int .i64 0, .int .i64 0]) (t := 75) ?hr ?_; (case hd => rfl); (case hg => rfl); (case hr => first | (go_simp; done) | (go_simp; rfl)); intro gb209 hg w5 hbox hb; have BK209 := a_ (hbox); have GW209 := a_ ((by rw [hg]; exact (bZ_ (by exact gs HB.out)) : w.heap.size ≤ gb209)); have GE209 := GEc.mk ((by rw [hg]; exact (bZ_ (by exact gs HB.out)) : w.heap.size ≤ gb209)); have NB208_209 := NEc.mk ((by rw [hg]; exact Nat.ne_of_lt (blk_lt (g := gb208) (o := .cells #[.int .i64 a0_0, .int .i64 (d : Int), .int .i64 a0_2, .int .i64 a0_3, .int .i64 a0_4, .int .i64 a0_5, .int .i64 a0_6, .int .i64 a0_7, .int .i64 a0_8, .int .i64 a0_9, .int .i64 a0_10, .int .i64 a0_11] 78 (0, 0)) (by exact bk BK208.out)) : gb208 ≠ gb209)); have NB209_208 := NEc.mk ((by rw [hg]; exact Nat.ne_of_gt (blk_lt (g := gb208) (o := .cells #[.int .i64 a0_0, .int .i64 (d : Int), .int .i64 a0_2, .int .i64 a0_3, .int .i64 a0_4, .int .i64 a0_5, .int .i64 a0_6, .int .i64 a0_7, .int .i64 a0_8, .int .i64 a0_9, .int .i64 a0_10, .int .i64 a0_11] 78 (0, 0)) (by exact bk BK208.out)) : gb209 ≠ gb208)); replace BK208 := a_ (kB_ BK208.out (tr hb)); replace HB := a_ (bT_ (by exact gs HB.out) hb); clear hb hbox hg) | ((with_reducible refine gate_callee (f := 77) rfl ?_); refine goesL_ (some 6) rfl rfl Try.func77 (by kernel_rfl) rfl #[] rfl (by (try simp only [List.map_toArray, List.map_cons, List.map_nil]); first | done | rfl | (simp only [List.length_drop, List.length_take]; rfl)) ?_; (with_reducible refine (c_identity.calls 20  0 1 2 3 4 _ identity_at).mono ?_); rintro e w6 ⟨rfl, hb⟩; refine ⟨_, rfl, ?_⟩; replace BK208 := a_ (kB_ BK208.out (tr hb)); replace BK209 := a_ (kB_ BK209.out (tr hb)); replace HB := a_ (bT_ (by exact gs HB.out) hb); (try clear hi)) | ((with_reducible refine gate_dst (N := 5) rfl ?_); refine box_event ?hg (N := 5) ?hd (cs := #[.int .i64 0, .int .i64 0, .int .i64 0, .int .i64 0, .int .i64 0]) (t := 75) ?hr ?_; (case hd => rfl); (case hg => rfl); (case hr => first | (go_simp; done) | (go_simp; rfl)); intro gb215 hg w7 hbox hb; have BK215 := a_ (hbox); have GW215 := a_ ((by rw [hg]; exact (bZ_ (by exact gs HB.out)) : w.heap.size ≤ gb215)); have GE215 := GEc.mk ((by rw [hg]; exact (bZ_ (by exact gs HB.out)) : w.heap.size ≤ gb215)); have NB208_215 := NEc.mk ((by rw [hg]; exact Nat.ne_of_lt (blk_lt (g := gb208) (o := .cells #[.int .i64 a0_0, .int .i64 (d : Int), .int .i64 a0_2, .int .i64 a0_3, .int .i64 a0_4, .int .i64 a0_5, .int .i64 a0_6, .int .i64 a0_7, .int .i64 a0_8, .int .i64 a0_9, .int .i64 a0_10, .int .i64 a0_11] 78 (0, 0)) (by exact bk BK208.out)) : gb208 ≠ gb215)); have NB215_208 := NEc.mk ((by rw [hg]; exact Nat.ne_of_gt (blk_lt (g := gb208) (o := .cells #[.int .i64 a0_0, .int .i64 (d : Int), .int .i64 a0_2, .int .i64 a0_3, .int .i64 a0_4, .int .i64 a0_5, .int .i64 a0_6, .int .i64 a0_7, .int .i64 a0_8, .int .i64 a0_9, .int .i64 a0_10, .int .i64 a0_11] 78 (0, 0)) (by exact bk BK208.out)) : gb215 ≠ gb208)); have NB209_215 := NEc.mk ((by rw [hg]; exact Nat.ne_of_lt (blk_lt (g := gb209) (o := .cells #[.int .i64 0, .int .i64 0, .int .i64 0, .int .i64 0, .int .i64 0] 75 (0, 0)) (by exact bk BK209.out)) : gb209 ≠ gb215)); have NB215_209 := NEc.mk ((by rw [hg]; exact Nat.ne_of_gt (blk_lt (g := gb209) (o := .cells #[.int .i64 0, .int .i64 0, .int .i64 0, .int .i64 0, .int .i64 0] 75 (0, 0)) (by exact bk BK209.out)) : gb215 ≠ gb209)); replace BK208 := a_ (kB_ BK208.out (tr hb)); replace BK209 := a_ (kB_ BK209.out (tr hb)); replace HB := a_ (bT_ (by exact gs HB.out) hb); clear hb hbox hg; have hnb8 := NB215_208.out; have hnc8 := NB208_215.out; have hnb9 := NB215_209.out; have hnc9 := NB209_215.out; have hcz10_0 : w7.cell? ⟨gb215, 0, none⟩ = some (.int .i64 0) := (kc_ BK215.out 0).trans rfl; have hcz10_1 : w7.cell? ⟨gb215, 1, none⟩ = some (.int .i64 0) := (kc_ BK215.out 1).trans rfl; have hcz10_2 : w7.cell? ⟨gb215, 2, none⟩ = some (.int .i64 0) := (kc_ BK215.out 2).trans rfl; have hcz10_3 : w7.cell? ⟨gb215, 3, none⟩ = some (.int .i64 0) := (kc_ BK215.out 3).trans rfl; have hcz10_4 : w7.cell? ⟨gb215, 4, none⟩ = some (.int .i64 0) := (kc_ BK215.out 4).trans rfl; have hfz10_0 := kf_ BK215.out 0; have hfz10_1 := kf_ BK215.out 1; have hfz10_2 := kf_ BK215.out 2; have hfz10_3 := kf_ BK215.out 3; have hfz10_4 := kf_ BK215.out 4; have hnb11 := NB208_209.out; have hnc11 := NB209_208.out; obtain ⟨hcz12_0, hcz12_1, hcz12_2, hcz12_3, hcz12_4, hcz12_5, hcz12_6, hcz12_7, hcz12_8, hcz12_9, hcz12_10, hcz12_11⟩ := cs12 BK208.out; have hfz12_0 := kf_ BK208.out 0; have hfz12_1 := kf_ BK208.out 1; have hfz12_2 := kf_ BK208.out 2; have hfz12_3 := kf_ BK208.out 3; have hfz12_4 := kf_ BK208.out 4; have hfz12_5 := kf_ BK208.out 5; have hfz12_6 := kf_ BK208.out 6; have hfz12_7 := kf_ BK208.out 7; have hfz12_8 := kf_ BK208.out 8; have hfz12_9 := kf_ BK208.out 9; have hfz12_10 := kf_ BK208.out 10; have hfz12_11 := kf_ BK208.out 11; have hcz13_0 : w7.cell? ⟨gb209, 0, none⟩ = some (.int .i64 0) := (kc_ BK209.out 0).trans rfl; have hcz13_1 : w7.cell? ⟨gb209, 1, none⟩ = some (.int .i64 0) := (kc_ BK209.out 1).trans rfl; have hcz13_2 : w7.cell? ⟨gb209, 2, none⟩ = some (.int .i64 0) := (kc_ BK209.out 2).trans rfl; have hcz13_3 : w7.cell? ⟨gb209, 3, none⟩ = some (.int .i64 0) := (kc_ BK209.out 3).trans rfl; have hcz13_4 : w7.cell? ⟨gb209, 4, none⟩ = some (.int .i64 0) := (kc_ BK209.out 4).trans rfl; have hfz13_0 := kf_ BK209.out 0; have hfz13_1 := kf_ BK209.out 1; have hfz13_2 := kf_ BK209.out 2; have hfz13_3 := kf_ BK209.out 3; have hfz13_4 := kf_ BK209.out 4))
 have BC := a_ (show (((((w7.setCell ⟨gb215, 0, none⟩ (.int .i64 0)).setCell ⟨gb215, 1, none⟩ (.int .i64 1)).setCell ⟨gb215, 2, none⟩ (.int .i64 2)).setCell ⟨gb215, 3, none⟩ (.int .i64 3)).setCell ⟨gb215, 4, none⟩ (.int .i64 4)).heap[gb215]? = some (.cells #[.int .i64 0, .int .i64 1, .int .i64 2, .int .i64 3, .int .i64 4] 75 (0, 0)) from by refine kP_ (cs := #[.int .i64 0, .int .i64 1, .int .i64 2, .int .i64 3, .int .i64 0]) ?_ 4 _ rfl; refine kP_ (cs := #[.int .i64 0, .int .i64 1, .int .i64 2, .int .i64 0, .int .i64 0]) ?_ 3 _ rfl; refine kP_ (cs := #[.int .i64 0, .int .i64 1, .int .i64 0, .int .i64 0, .int .i64 0]) ?_ 2 _ rfl; refine kP_ (cs := #[.int .i64 0, .int .i64 0, .int .i64 0, .int .i64 0, .int .i64 0]) ?_ 1 _ rfl; refine kP_ (cs := #[.int .i64 0, .int .i64 0, .int .i64 0, .int .i64 0, .int .i64 0]) ?_ 0 _ rfl; exact BK215.out)
 have BR := a_ (show (((((w7.setCell ⟨gb215, 0, none⟩ (.int .i64 0)).setCell ⟨gb215, 1, none⟩ (.int .i64 1)).setCell ⟨gb215, 2, none⟩ (.int .i64 2)).setCell ⟨gb215, 3, none⟩ (.int .i64 3)).setCell ⟨gb215, 4, none⟩ (.int .i64 4)).heap[gb209]? = some (.cells #[.int .i64 0, .int .i64 0, .int .i64 0, .int .i64 0, .int .i64 0] 75 (0, 0)) from kF_ (kF_ (kF_ (kF_ (kF_ (BK209.out) NB209_215.out _) NB209_215.out _) NB209_215.out _) NB209_215.out _) NB209_215.out _)
 have BT := a_ (show (((((w7.setCell ⟨gb215, 0, none⟩ (.int .i64 0)).setCell ⟨gb215, 1, none⟩ (.int .i64 1)).setCell ⟨gb215, 2, none⟩ (.int .i64 2)).setCell ⟨gb215, 3, none⟩ (.int .i64 3)).setCell ⟨gb215, 4, none⟩ (.int .i64 4)).heap[gb208]? = some (.cells #[.int .i64 a0_0, .int .i64 (d : Int), .int .i64 a0_2, .int .i64 a0_3, .int .i64 a0_4, .int .i64 a0_5, .int .i64 a0_6, .int .i64 a0_7, .int .i64 a0_8, .int .i64 a0_9, .int .i64 a0_10, .int .i64 a0_11] 78 (0, 0)) from kF_ (kF_ (kF_ (kF_ (kF_ (BK208.out) NB208_215.out _) NB208_215.out _) NB208_215.out _) NB208_215.out _) NB208_215.out _)
 have HB2 := a_ (show Below w.heap.size w (((((w7.setCell ⟨gb215, 0, none⟩ (.int .i64 0)).setCell ⟨gb215, 1, none⟩ (.int .i64 1)).setCell ⟨gb215, 2, none⟩ (.int .i64 2)).setCell ⟨gb215, 3, none⟩ (.int .i64 3)).setCell ⟨gb215, 4, none⟩ (.int .i64 4)) from bS_ (bS_ (bS_ (bS_ (bS_ HB.out GE215.out) GE215.out) GE215.out) GE215.out) GE215.out)
 clear BK208 BK209 BK215 HB
 generalize (((((w7.setCell ⟨gb215, 0, none⟩ (.int .i64 0)).setCell ⟨gb215, 1, none⟩ (.int .i64 1)).setCell ⟨gb215, 2, none⟩ (.int .i64 2)).setCell ⟨gb215, 3, none⟩ (.int .i64 3)).setCell ⟨gb215, 4, none⟩ (.int .i64 4)) = W1 at BC BR BT HB2 ⊢
 refine start_ (n := 8) (S := fun w' => w'.cell? ⟨gb208, 1, none⟩ = some (.int .i64 (d : Int))) (ds := []) #[false, false, false, false, false, false, false, false] (by kernel_rfl) rfl rfl ((kc_ (kD_ BT.out) 1).trans rfl) (fun hHeld => ?_)
 replace BC := a_ (kD_ BC.out)
 replace BR := a_ (kD_ BR.out)
 replace BT := a_ (kD_ BT.out)
 replace HB2 := a_ (below_drew HB2.out)
 generalize W1.drew = W2 at BC BR BT HB2 hHeld ⊢
 have hz1 : W2.cell? ⟨gb208, 1, none⟩ = some (.int .i64 (d : Int)) := (kc_ BT.out 1).trans rfl
 have hd5 : (d : Int) ≤ 5 := by have := D5.out; omega
 have hd0 : (0 : Int) ≤ (d : Int) := by omega
 have hrun : ∃ W3 : World, (Builtin.copy_ #[22, 22] 3 #[.slice (some ⟨gb215, 0, none⟩) 5 5, .slice (some ⟨gb208, 2, none⟩) d 5]).run Try.prog W2 = .ok (goInt d) W3 ∧ W3.heap[gb215]? = some (.cells #[.int .i64 ((fullL [a0_2, a0_3, a0_4, a0_5, a0_6] d).getD 0 0), .int .i64 ((fullL [a0_2, a0_3, a0_4, a0_5, a0_6] d).getD 1 0), .int .i64 ((fullL [a0_2, a0_3, a0_4, a0_5, a0_6] d).getD 2 0), .int .i64 ((fullL [a0_2, a0_3, a0_4, a0_5, a0_6] d).getD 3 0), .int .i64 ((fullL [a0_2, a0_3, a0_4, a0_5, a0_6] d).getD 4 0)] 75 (0, 0)) ∧ W3.heap[gb209]? = some (.cells #[.int .i64 0, .int .i64 0, .int .i64 0, .int .i64 0, .int .i64 0] 75 (0, 0)) ∧ W3.heap[gb208]? = some (.cells #[.int .i64 a0_0, .int .i64 (d : Int), .int .i64 a0_2, .int .i64 a0_3, .int .i64 a0_4, .int .i64 a0_5, .int .i64 a0_6, .int .i64 a0_7, .int .i64 a0_8, .int .i64 a0_9, .int .i64 a0_10, .int .i64 a0_11] 78 (0, 0)) ∧ Below w.heap.size w W3 := by
  have h5 := D5.out
  have hl : (([a0_2, a0_3, a0_4, a0_5, a0_6] : List Int).take d).length = d := by simp; omega
  have h1 := run_copy_row (P := Try.prog) W2 22 22 3 3 gb215 0 5 5 ⟨gb208, 2, none⟩ d 5 _ 75 ((([a0_2, a0_3, a0_4, a0_5, a0_6] : List Int).take d).map (Value.int .i64)) Try.underlying22 (by kernel_rfl) BC.out (by rw [List.length_map, hl]; exact (Nat.min_eq_left h5).symm) (by
   intro j v hj
   rw [List.getElem?_map, List.getElem?_take] at hj
   by_cases hjd : j < d
   ·rw [if_pos hjd] at hj
    have hj5 : j < 5 := by omega
    have hb := kc_ BT.out (2 + j)
    rcases j with _ | _ | _ | _ | _ | j
    all_goals first | (obtain rfl := Option.some.inj hj; exact hb.trans rfl) | omega
   ·rw [if_neg hjd] at hj; simp at hj) (by rw [List.length_map, hl]; simpa using h5) (by
   intro v hv
   obtain ⟨x, _, rfl⟩ := List.mem_map.1 hv
   rfl)
  rw [List.length_map, hl] at h1
  refine ⟨_, h1, ?_, (setRow_other _ _ _ _ NB209_215.out).trans BR.out, (setRow_other _ _ _ _ NB208_215.out).trans BT.out, below_setRow HB2.out GE215.out _⟩
  rw [setRow_heap _ _ _ _ 75 _ BC.out]
  have hc := fullL_cells [a0_2, a0_3, a0_4, a0_5, a0_6] d rfl h5
  unfold fullL at hc ⊢
  rw [List.map_append, List.map_drop] at hc
  refine congrArg (fun l : List Value => some (Obj.cells l.toArray 75 (0, 0))) ?_
  rw [← hc]
  simp
 obtain ⟨W3, hrun, B3, R3, T3, hb3⟩ := hrun
 refine pure_ (i := 0) (N := (some 7)) (v := ?_) (a' := ?_) #[true, false, false, false, false, false, false, false] rfl rfl (by kernel_rfl) (fun _ _ _ h => h) (Or.inl ⟨by rfl, ?_⟩) ?_ ?_
 rotate_left
 ·intro w'
  first | (go_simp; with_reducible rfl) | rfl | (go_simp; done)
 rotate_left
 ·first | (simp only [Act.put, List.setIfInBounds_toArray, List.set_cons_zero, List.set_cons_succ, i64_w, i32_w]; rfl) | rfl
 refine pure_ (i := 1) (N := (some 8)) (v := ?_) (a' := ?_) #[true, true, false, false, false, false, false, false] rfl rfl (by kernel_rfl) (fun _ _ _ h => h) (Or.inl ⟨by rfl, ?_⟩) ?_ ?_
 rotate_left
 ·intro w'
  first | (go_simp; with_reducible rfl) | rfl | (go_simp; done)
 rotate_left
 ·first | (simp only [Act.put, List.setIfInBounds_toArray, List.set_cons_zero, List.set_cons_succ, i64_w, i32_w]; rfl) | rfl
 refine pure_ (i := 2) (N := (some 9)) (v := ?_) (a' := ?_) #[true, true, true, false, false, false, false, false] rfl rfl (by kernel_rfl) (fun _ _ _ h => h) (Or.inl ⟨by rfl, ?_⟩) ?_ ?_
 rotate_left
 ·intro w'
  first | (go_simp; with_reducible rfl) | rfl | (go_simp; done)
 rotate_left
 ·first | (simp only [Act.put, List.setIfInBounds_toArray, List.set_cons_zero, List.set_cons_succ, i64_w, i32_w]; rfl) | rfl
 refine pure_ (i := 3) (N := (some 10)) (v := ?_) (a' := ?_) #[true, true, true, true, false, false, false, false] rfl rfl (by kernel_rfl) (fun _ _ _ h => h) (Or.inl ⟨by rfl, ?_⟩) ?_ ?_
 rotate_left
 ·intro w'
  first | (go_simp; with_reducible rfl) | rfl | (go_simp; done)
 rotate_left
 ·first | (simp only [Act.put, List.setIfInBounds_toArray, List.set_cons_zero, List.set_cons_succ, i64_w, i32_w]; rfl) | rfl
 refine pure_ (i := 4) (N := (some 11)) (v := ?_) (a' := ?_) #[true, true, true, true, true, false, false, false] rfl rfl (by kernel_rfl) (fun _ _ _ h => h) (Or.inl ⟨by rfl, ?_⟩) ?_ ?_
 rotate_left
 ·intro w'
  first | (go_simp; with_reducible rfl) | rfl | (go_simp; done)
 rotate_left
 ·first | (simp only [Act.put, List.setIfInBounds_toArray, List.set_cons_zero, List.set_cons_succ, i64_w, i32_w]; rfl) | rfl
 refine take_ (i := 5) (N := (some 12)) (v := ?_) (a' := ?_) #[true, true, true, true, true, true, false, false] rfl rfl (by kernel_rfl) (fun _ _ _ h => h) (Or.inl ⟨by rfl, ?_⟩) hHeld ?_ ?_
 rotate_left
 ·intro w' s0
  first | (go_simp; with_reducible rfl) | rfl | (go_simp; done)
 rotate_left
 ·first | (simp only [Act.put, List.setIfInBounds_toArray, List.set_cons_zero, List.set_cons_succ, i64_w, i32_w]; rfl) | rfl
 refine pure_ (i := 6) (N := (some 13)) (v := ?_) (a' := ?_) #[true, true, true, true, true, true, true, false] rfl rfl (by kernel_rfl) (fun _ _ _ h => h) (Or.inl ⟨by rfl, ?_⟩) ?_ ?_
 rotate_left
 ·intro w'
  first | (go_simp; with_reducible rfl) | rfl | (go_simp; done)
 rotate_left
 ·first | (simp only [Act.put, List.setIfInBounds_toArray, List.set_cons_zero, List.set_cons_succ, i64_w, i32_w]; rfl) | rfl
 refine one_ (i := 7) (N := (some 14)) #[true, true, true, true, true, true, true, true] rfl rfl (by kernel_rfl) (by decide) (fun K hK => ?_)
 refine value_ (v := .int .i64 (d : Int)) (w1 := W3) (by rfl) rfl ?_ ?_
 ·simp [execOp, resolve, invoke, builtin, Act.eval, hrun, Result.andThen, goInt]
 refine hK.out _ _ ((kc_ T3 1).trans rfl) (fun hHeld => ?_)
 clear hK K
 refine done_ (by kernel_rfl) ?_
 go_upto_region 3 with (fail)
 have hy0 : W3.cell? ⟨gb215, 0, none⟩ = some (.int .i64 ((fullL [a0_2, a0_3, a0_4, a0_5, a0_6] d).getD 0 0)) := (kc_ B3 0).trans rfl
 have hx0 : W3.cell? ⟨gb209, 0, none⟩ = some (.int .i64 0) := (kc_ R3 0).trans rfl
 have hf0 := kf_ R3 0
 have hy1 : W3.cell? ⟨gb215, 1, none⟩ = some (.int .i64 ((fullL [a0_2, a0_3, a0_4, a0_5, a0_6] d).getD 1 0)) := (kc_ B3 1).trans rfl
 have hx1 : W3.cell? ⟨gb209, 1, none⟩ = some (.int .i64 0) := (kc_ R3 1).trans rfl
 have hf1 := kf_ R3 1
 have hy2 : W3.cell? ⟨gb215, 2, none⟩ = some (.int .i64 ((fullL [a0_2, a0_3, a0_4, a0_5, a0_6] d).getD 2 0)) := (kc_ B3 2).trans rfl
 have hx2 : W3.cell? ⟨gb209, 2, none⟩ = some (.int .i64 0) := (kc_ R3 2).trans rfl
 have hf2 := kf_ R3 2
 have hy3 : W3.cell? ⟨gb215, 3, none⟩ = some (.int .i64 ((fullL [a0_2, a0_3, a0_4, a0_5, a0_6] d).getD 3 0)) := (kc_ B3 3).trans rfl
 have hx3 : W3.cell? ⟨gb209, 3, none⟩ = some (.int .i64 0) := (kc_ R3 3).trans rfl
 have hf3 := kf_ R3 3
 have hy4 : W3.cell? ⟨gb215, 4, none⟩ = some (.int .i64 ((fullL [a0_2, a0_3, a0_4, a0_5, a0_6] d).getD 4 0)) := (kc_ B3 4).trans rfl
 have hx4 : W3.cell? ⟨gb209, 4, none⟩ = some (.int .i64 0) := (kc_ R3 4).trans rfl
 have hf4 := kf_ R3 4
 go_wp2
 refine bodyPost_ret (results_cell_row rfl _ _ gb209 75 #[.int .i64 ((fullL [a0_2, a0_3, a0_4, a0_5, a0_6] d).getD 0 0), .int .i64 ((fullL [a0_2, a0_3, a0_4, a0_5, a0_6] d).getD 1 0), .int .i64 ((fullL [a0_2, a0_3, a0_4, a0_5, a0_6] d).getD 2 0), .int .i64 ((fullL [a0_2, a0_3, a0_4, a0_5, a0_6] d).getD 3 0), .int .i64 ((fullL [a0_2, a0_3, a0_4, a0_5, a0_6] d).getD 4 0)] (0, 0) _ rfl (by refine kP_ (cs := #[.int .i64 ((fullL [a0_2, a0_3, a0_4, a0_5, a0_6] d).getD 0 0), .int .i64 ((fullL [a0_2, a0_3, a0_4, a0_5, a0_6] d).getD 1 0), .int .i64 ((fullL [a0_2, a0_3, a0_4, a0_5, a0_6] d).getD 2 0), .int .i64 ((fullL [a0_2, a0_3, a0_4, a0_5, a0_6] d).getD 3 0), .int .i64 0]) ?_ 4 _ rfl; refine kP_ (cs := #[.int .i64 ((fullL [a0_2, a0_3, a0_4, a0_5, a0_6] d).getD 0 0), .int .i64 ((fullL [a0_2, a0_3, a0_4, a0_5, a0_6] d).getD 1 0), .int .i64 ((fullL [a0_2, a0_3, a0_4, a0_5, a0_6] d).getD 2 0), .int .i64 0, .int .i64 0]) ?_ 3 _ rfl; refine kP_ (cs := #[.int .i64 ((fullL [a0_2, a0_3, a0_4, a0_5, a0_6] d).getD 0 0), .int .i64 ((fullL [a0_2, a0_3, a0_4, a0_5, a0_6] d).getD 1 0), .int .i64 0, .int .i64 0, .int .i64 0]) ?_ 2 _ rfl; refine kP_ (cs := #[.int .i64 ((fullL [a0_2, a0_3, a0_4, a0_5, a0_6] d).getD 0 0), .int .i64 0, .int .i64 0, .int .i64 0, .int .i64 0]) ?_ 1 _ rfl; refine kP_ (cs := #[.int .i64 0, .int .i64 0, .int .i64 0, .int .i64 0, .int .i64 0]) ?_ 0 _ rfl; exact R3) Try.underlying75 rfl (by kernel_rfl)) rfl ?_
 exact ⟨by first | rfl | simp, bS_ (bS_ (bS_ (bS_ (bS_ hb3 GE209.out) GE209.out) GE209.out) GE209.out) GE209.out⟩
theorem full_1 (d : Nat) (a0_0 : Int) (a0_2 : Int) (a0_3 : Int) (a0_4 : Int) (a0_5 : Int) (a0_6 : Int) (a0_7 : Int) (a0_8 : Int) (a0_9 : Int) (a0_10 : Int) (a0_11 : Int) (w : World) (h1 : 1 ≤ d) (h5 : d ≤ 5) :
  Calls Try.prog 76 #[.agg #[.int .i64 a0_0, .int .i64 (d : Int), .int .i64 a0_2, .int .i64 a0_3, .int .i64 a0_4, .int .i64 a0_5, .int .i64 a0_6, .int .i64 a0_7, .int .i64 a0_8, .int .i64 a0_9, .int .i64 a0_10, .int .i64 a0_11], .int .i64 1] w fun e w' => e = .returned (.agg #[.int .i64 ((fullL [a0_7, a0_8, a0_9, a0_10, a0_11] d).getD 0 0), .int .i64 ((fullL [a0_7, a0_8, a0_9, a0_10, a0_11] d).getD 1 0), .int .i64 ((fullL [a0_7, a0_8, a0_9, a0_10, a0_11] d).getD 2 0), .int .i64 ((fullL [a0_7, a0_8, a0_9, a0_10, a0_11] d).getD 3 0), .int .i64 ((fullL [a0_7, a0_8, a0_9, a0_10, a0_11] d).getD 4 0)]) ∧ Below w.heap.size w w' := by
 have hu78 := Try.underlying78
 have hu75 := Try.underlying75
 have HB := a_ (Below.refl w.heap.size w)
 have D1 := a_ h1
 have D5 := a_ h5
 clear h1 h5
 go_enter Try.func76, Try.ntmps76
 go_upto_region 2 with (first | ((with_reducible refine gate_dst (N := 2) rfl ?_); refine box_event ?hg (N := 2) ?hd (cs := #[.int .i64 a0_0, .int .i64 (d : Int), .int .i64 a0_2, .int .i64 a0_3, .int .i64 a0_4, .int .i64 a0_5, .int .i64 a0_6, .int .i64 a0_7, .int .i64 a0_8, .int .i64 a0_9, .int .i64 a0_10, .int .i64 a0_11]) (t := 78) ?hr ?_; (case hd => rfl); (case hg => rfl); (case hr => first | (go_simp; done) | (go_simp; rfl)); intro gb208 hg w4 hbox hb; have BK208 := a_ (hbox); have GW208 := a_ ((by rw [hg]; exact (bZ_ (gr HB.out)) : w.heap.size ≤ gb208)); have GE208 := GEc.mk ((by rw [hg]; exact (bZ_ (gr HB.out)) : w.heap.size ≤ gb208)); replace HB := a_ (bT_ HB.out (tr hb)); clear hb hbox hg) | ((with_reducible refine gate_dst (N := 4) rfl ?_); refine box_event ?hg (N := 4) ?hd (cs := #[.int .i64 0, .int .i64 0, .int .i64 0, .int .i64 0, .int .i64 0]) (t := 75) ?hr ?_; (case hd => rfl); (case hg => rfl); (case hr => first | (go_simp; done) | (go_simp; rfl)); intro gb209 hg w5 hbox hb; have BK209 := a_ (hbox); have GW209 := a_ ((by rw [hg]; exact (bZ_ (by exact gs HB.out)) : w.heap.size ≤ gb209)); have GE209 := GEc.mk ((by rw [hg]; exact (bZ_ (by exact gs HB.out)) : w.heap.size ≤ gb209)); have NB208_209 := NEc.mk ((by rw [hg]; exact Nat.ne_of_lt (blk_lt (g := gb208) (o := .cells #[.int .i64 a0_0, .int .i64 (d : Int), .int .i64 a0_2, .int .i64 a0_3, .int .i64 a0_4, .int .i64 a0_5, .int .i64 a0_6, .int .i64 a0_7, .int .i64 a0_8, .int .i64 a0_9, .int .i64 a0_10, .int .i64 a0_11] 78 (0, 0)) (by exact bk BK208.out)) : gb208 ≠ gb209)); have NB209_208 := NEc.mk ((by rw [hg]; exact Nat.ne_of_gt (blk_lt (g := gb208) (o := .cells #[.int .i64 a0_0, .int .i64 (d : Int), .int .i64 a0_2, .int .i64 a0_3, .int .i64 a0_4, .int .i64 a0_5, .int .i64 a0_6, .int .i64 a0_7, .int .i64 a0_8, .int .i64 a0_9, .int .i64 a0_10, .int .i64 a0_11] 78 (0, 0)) (by exact bk BK208.out)) : gb209 ≠ gb208)); replace BK208 := a_ (kB_ BK208.out (tr hb)); replace HB := a_ (bT_ (by exact gs HB.out) hb); clear hb hbox hg) | ((with_reducible refine gate_callee (f := 77) rfl ?_); refine goesL_ (some 6) rfl rfl Try.func77 (by kernel_rfl) rfl #[] rfl (by (try simp only [List.map_toArray, List.map_cons, List.map_nil]); first | done | rfl | (simp only [List.length_drop, List.length_take]; rfl)) ?_; (with_reducible refine (c_identity.calls 20  0 1 2 3 4 _ identity_at).mono ?_); rintro e w6 ⟨rfl, hb⟩; refine ⟨_, rfl, ?_⟩; replace BK208 := a_ (kB_ BK208.out (tr hb)); replace BK209 := a_ (kB_ BK209.out (tr hb)); replace HB := a_ (bT_ (by exact gs HB.out) hb); (try clear hi)) | ((with_reducible refine gate_dst (N := 5) rfl ?_); refine box_event ?hg (N := 5) ?hd (cs := #[.int .i64 0, .int .i64 0, .int .i64 0, .int .i64 0, .int .i64 0]) (t := 75) ?hr ?_; (case hd => rfl); (case hg => rfl); (case hr => first | (go_simp; done) | (go_simp; rfl)); intro gb215 hg w7 hbox hb; have BK215 := a_ (hbox); have GW215 := a_ ((by rw [hg]; exact (bZ_ (by exact gs HB.out)) : w.heap.size ≤ gb215)); have GE215 := GEc.mk ((by rw [hg]; exact (bZ_ (by exact gs HB.out)) : w.heap.size ≤ gb215)); have NB208_215 := NEc.mk ((by rw [hg]; exact Nat.ne_of_lt (blk_lt (g := gb208) (o := .cells #[.int .i64 a0_0, .int .i64 (d : Int), .int .i64 a0_2, .int .i64 a0_3, .int .i64 a0_4, .int .i64 a0_5, .int .i64 a0_6, .int .i64 a0_7, .int .i64 a0_8, .int .i64 a0_9, .int .i64 a0_10, .int .i64 a0_11] 78 (0, 0)) (by exact bk BK208.out)) : gb208 ≠ gb215)); have NB215_208 := NEc.mk ((by rw [hg]; exact Nat.ne_of_gt (blk_lt (g := gb208) (o := .cells #[.int .i64 a0_0, .int .i64 (d : Int), .int .i64 a0_2, .int .i64 a0_3, .int .i64 a0_4, .int .i64 a0_5, .int .i64 a0_6, .int .i64 a0_7, .int .i64 a0_8, .int .i64 a0_9, .int .i64 a0_10, .int .i64 a0_11] 78 (0, 0)) (by exact bk BK208.out)) : gb215 ≠ gb208)); have NB209_215 := NEc.mk ((by rw [hg]; exact Nat.ne_of_lt (blk_lt (g := gb209) (o := .cells #[.int .i64 0, .int .i64 0, .int .i64 0, .int .i64 0, .int .i64 0] 75 (0, 0)) (by exact bk BK209.out)) : gb209 ≠ gb215)); have NB215_209 := NEc.mk ((by rw [hg]; exact Nat.ne_of_gt (blk_lt (g := gb209) (o := .cells #[.int .i64 0, .int .i64 0, .int .i64 0, .int .i64 0, .int .i64 0] 75 (0, 0)) (by exact bk BK209.out)) : gb215 ≠ gb209)); replace BK208 := a_ (kB_ BK208.out (tr hb)); replace BK209 := a_ (kB_ BK209.out (tr hb)); replace HB := a_ (bT_ (by exact gs HB.out) hb); clear hb hbox hg; have hnb8 := NB215_208.out; have hnc8 := NB208_215.out; have hnb9 := NB215_209.out; have hnc9 := NB209_215.out; have hcz10_0 : w7.cell? ⟨gb215, 0, none⟩ = some (.int .i64 0) := (kc_ BK215.out 0).trans rfl; have hcz10_1 : w7.cell? ⟨gb215, 1, none⟩ = some (.int .i64 0) := (kc_ BK215.out 1).trans rfl; have hcz10_2 : w7.cell? ⟨gb215, 2, none⟩ = some (.int .i64 0) := (kc_ BK215.out 2).trans rfl; have hcz10_3 : w7.cell? ⟨gb215, 3, none⟩ = some (.int .i64 0) := (kc_ BK215.out 3).trans rfl; have hcz10_4 : w7.cell? ⟨gb215, 4, none⟩ = some (.int .i64 0) := (kc_ BK215.out 4).trans rfl; have hfz10_0 := kf_ BK215.out 0; have hfz10_1 := kf_ BK215.out 1; have hfz10_2 := kf_ BK215.out 2; have hfz10_3 := kf_ BK215.out 3; have hfz10_4 := kf_ BK215.out 4; have hnb11 := NB208_209.out; have hnc11 := NB209_208.out; obtain ⟨hcz12_0, hcz12_1, hcz12_2, hcz12_3, hcz12_4, hcz12_5, hcz12_6, hcz12_7, hcz12_8, hcz12_9, hcz12_10, hcz12_11⟩ := cs12 BK208.out; have hfz12_0 := kf_ BK208.out 0; have hfz12_1 := kf_ BK208.out 1; have hfz12_2 := kf_ BK208.out 2; have hfz12_3 := kf_ BK208.out 3; have hfz12_4 := kf_ BK208.out 4; have hfz12_5 := kf_ BK208.out 5; have hfz12_6 := kf_ BK208.out 6; have hfz12_7 := kf_ BK208.out 7; have hfz12_8 := kf_ BK208.out 8; have hfz12_9 := kf_ BK208.out 9; have hfz12_10 := kf_ BK208.out 10; have hfz12_11 := kf_ BK208.out 11; have hcz13_0 : w7.cell? ⟨gb209, 0, none⟩ = some (.int .i64 0) := (kc_ BK209.out 0).trans rfl; have hcz13_1 : w7.cell? ⟨gb209, 1, none⟩ = some (.int .i64 0) := (kc_ BK209.out 1).trans rfl; have hcz13_2 : w7.cell? ⟨gb209, 2, none⟩ = some (.int .i64 0) := (kc_ BK209.out 2).trans rfl; have hcz13_3 : w7.cell? ⟨gb209, 3, none⟩ = some (.int .i64 0) := (kc_ BK209.out 3).trans rfl; have hcz13_4 : w7.cell? ⟨gb209, 4, none⟩ = some (.int .i64 0) := (kc_ BK209.out 4).trans rfl; have hfz13_0 := kf_ BK209.out 0; have hfz13_1 := kf_ BK209.out 1; have hfz13_2 := kf_ BK209.out 2; have hfz13_3 := kf_ BK209.out 3; have hfz13_4 := kf_ BK209.out 4))
 have BC := a_ (show (((((w7.setCell ⟨gb215, 0, none⟩ (.int .i64 0)).setCell ⟨gb215, 1, none⟩ (.int .i64 1)).setCell ⟨gb215, 2, none⟩ (.int .i64 2)).setCell ⟨gb215, 3, none⟩ (.int .i64 3)).setCell ⟨gb215, 4, none⟩ (.int .i64 4)).heap[gb215]? = some (.cells #[.int .i64 0, .int .i64 1, .int .i64 2, .int .i64 3, .int .i64 4] 75 (0, 0)) from by refine kP_ (cs := #[.int .i64 0, .int .i64 1, .int .i64 2, .int .i64 3, .int .i64 0]) ?_ 4 _ rfl; refine kP_ (cs := #[.int .i64 0, .int .i64 1, .int .i64 2, .int .i64 0, .int .i64 0]) ?_ 3 _ rfl; refine kP_ (cs := #[.int .i64 0, .int .i64 1, .int .i64 0, .int .i64 0, .int .i64 0]) ?_ 2 _ rfl; refine kP_ (cs := #[.int .i64 0, .int .i64 0, .int .i64 0, .int .i64 0, .int .i64 0]) ?_ 1 _ rfl; refine kP_ (cs := #[.int .i64 0, .int .i64 0, .int .i64 0, .int .i64 0, .int .i64 0]) ?_ 0 _ rfl; exact BK215.out)
 have BR := a_ (show (((((w7.setCell ⟨gb215, 0, none⟩ (.int .i64 0)).setCell ⟨gb215, 1, none⟩ (.int .i64 1)).setCell ⟨gb215, 2, none⟩ (.int .i64 2)).setCell ⟨gb215, 3, none⟩ (.int .i64 3)).setCell ⟨gb215, 4, none⟩ (.int .i64 4)).heap[gb209]? = some (.cells #[.int .i64 0, .int .i64 0, .int .i64 0, .int .i64 0, .int .i64 0] 75 (0, 0)) from kF_ (kF_ (kF_ (kF_ (kF_ (BK209.out) NB209_215.out _) NB209_215.out _) NB209_215.out _) NB209_215.out _) NB209_215.out _)
 have BT := a_ (show (((((w7.setCell ⟨gb215, 0, none⟩ (.int .i64 0)).setCell ⟨gb215, 1, none⟩ (.int .i64 1)).setCell ⟨gb215, 2, none⟩ (.int .i64 2)).setCell ⟨gb215, 3, none⟩ (.int .i64 3)).setCell ⟨gb215, 4, none⟩ (.int .i64 4)).heap[gb208]? = some (.cells #[.int .i64 a0_0, .int .i64 (d : Int), .int .i64 a0_2, .int .i64 a0_3, .int .i64 a0_4, .int .i64 a0_5, .int .i64 a0_6, .int .i64 a0_7, .int .i64 a0_8, .int .i64 a0_9, .int .i64 a0_10, .int .i64 a0_11] 78 (0, 0)) from kF_ (kF_ (kF_ (kF_ (kF_ (BK208.out) NB208_215.out _) NB208_215.out _) NB208_215.out _) NB208_215.out _) NB208_215.out _)
 have HB2 := a_ (show Below w.heap.size w (((((w7.setCell ⟨gb215, 0, none⟩ (.int .i64 0)).setCell ⟨gb215, 1, none⟩ (.int .i64 1)).setCell ⟨gb215, 2, none⟩ (.int .i64 2)).setCell ⟨gb215, 3, none⟩ (.int .i64 3)).setCell ⟨gb215, 4, none⟩ (.int .i64 4)) from bS_ (bS_ (bS_ (bS_ (bS_ HB.out GE215.out) GE215.out) GE215.out) GE215.out) GE215.out)
 clear BK208 BK209 BK215 HB
 generalize (((((w7.setCell ⟨gb215, 0, none⟩ (.int .i64 0)).setCell ⟨gb215, 1, none⟩ (.int .i64 1)).setCell ⟨gb215, 2, none⟩ (.int .i64 2)).setCell ⟨gb215, 3, none⟩ (.int .i64 3)).setCell ⟨gb215, 4, none⟩ (.int .i64 4)) = W1 at BC BR BT HB2 ⊢
 refine start_ (n := 8) (S := fun w' => w'.cell? ⟨gb208, 1, none⟩ = some (.int .i64 (d : Int))) (ds := []) #[false, false, false, false, false, false, false, false] (by kernel_rfl) rfl rfl ((kc_ (kD_ BT.out) 1).trans rfl) (fun hHeld => ?_)
 replace BC := a_ (kD_ BC.out)
 replace BR := a_ (kD_ BR.out)
 replace BT := a_ (kD_ BT.out)
 replace HB2 := a_ (below_drew HB2.out)
 generalize W1.drew = W2 at BC BR BT HB2 hHeld ⊢
 have hz1 : W2.cell? ⟨gb208, 1, none⟩ = some (.int .i64 (d : Int)) := (kc_ BT.out 1).trans rfl
 have hd5 : (d : Int) ≤ 5 := by have := D5.out; omega
 have hd0 : (0 : Int) ≤ (d : Int) := by omega
 have hrun : ∃ W3 : World, (Builtin.copy_ #[22, 22] 3 #[.slice (some ⟨gb215, 0, none⟩) 5 5, .slice (some ⟨gb208, 7, none⟩) d 5]).run Try.prog W2 = .ok (goInt d) W3 ∧ W3.heap[gb215]? = some (.cells #[.int .i64 ((fullL [a0_7, a0_8, a0_9, a0_10, a0_11] d).getD 0 0), .int .i64 ((fullL [a0_7, a0_8, a0_9, a0_10, a0_11] d).getD 1 0), .int .i64 ((fullL [a0_7, a0_8, a0_9, a0_10, a0_11] d).getD 2 0), .int .i64 ((fullL [a0_7, a0_8, a0_9, a0_10, a0_11] d).getD 3 0), .int .i64 ((fullL [a0_7, a0_8, a0_9, a0_10, a0_11] d).getD 4 0)] 75 (0, 0)) ∧ W3.heap[gb209]? = some (.cells #[.int .i64 0, .int .i64 0, .int .i64 0, .int .i64 0, .int .i64 0] 75 (0, 0)) ∧ W3.heap[gb208]? = some (.cells #[.int .i64 a0_0, .int .i64 (d : Int), .int .i64 a0_2, .int .i64 a0_3, .int .i64 a0_4, .int .i64 a0_5, .int .i64 a0_6, .int .i64 a0_7, .int .i64 a0_8, .int .i64 a0_9, .int .i64 a0_10, .int .i64 a0_11] 78 (0, 0)) ∧ Below w.heap.size w W3 := by
  have h5 := D5.out
  have hl : (([a0_7, a0_8, a0_9, a0_10, a0_11] : List Int).take d).length = d := by simp; omega
  have h1 := run_copy_row (P := Try.prog) W2 22 22 3 3 gb215 0 5 5 ⟨gb208, 7, none⟩ d 5 _ 75 ((([a0_7, a0_8, a0_9, a0_10, a0_11] : List Int).take d).map (Value.int .i64)) Try.underlying22 (by kernel_rfl) BC.out (by rw [List.length_map, hl]; exact (Nat.min_eq_left h5).symm) (by
   intro j v hj
   rw [List.getElem?_map, List.getElem?_take] at hj
   by_cases hjd : j < d
   ·rw [if_pos hjd] at hj
    have hj5 : j < 5 := by omega
    have hb := kc_ BT.out (7 + j)
    rcases j with _ | _ | _ | _ | _ | j
    all_goals first | (obtain rfl := Option.some.inj hj; exact hb.trans rfl) | omega
   ·rw [if_neg hjd] at hj; simp at hj) (by rw [List.length_map, hl]; simpa using h5) (by
   intro v hv
   obtain ⟨x, _, rfl⟩ := List.mem_map.1 hv
   rfl)
  rw [List.length_map, hl] at h1
  refine ⟨_, h1, ?_, (setRow_other _ _ _ _ NB209_215.out).trans BR.out, (setRow_other _ _ _ _ NB208_215.out).trans BT.out, below_setRow HB2.out GE215.out _⟩
  rw [setRow_heap _ _ _ _ 75 _ BC.out]
  have hc := fullL_cells [a0_7, a0_8, a0_9, a0_10, a0_11] d rfl h5
  unfold fullL at hc ⊢
  rw [List.map_append, List.map_drop] at hc
  refine congrArg (fun l : List Value => some (Obj.cells l.toArray 75 (0, 0))) ?_
  rw [← hc]
  simp
 obtain ⟨W3, hrun, B3, R3, T3, hb3⟩ := hrun
 refine pure_ (i := 0) (N := (some 7)) (v := ?_) (a' := ?_) #[true, false, false, false, false, false, false, false] rfl rfl (by kernel_rfl) (fun _ _ _ h => h) (Or.inl ⟨by rfl, ?_⟩) ?_ ?_
 rotate_left
 ·intro w'
  first | (go_simp; with_reducible rfl) | rfl | (go_simp; done)
 rotate_left
 ·first | (simp only [Act.put, List.setIfInBounds_toArray, List.set_cons_zero, List.set_cons_succ, i64_w, i32_w]; rfl) | rfl
 refine pure_ (i := 1) (N := (some 8)) (v := ?_) (a' := ?_) #[true, true, false, false, false, false, false, false] rfl rfl (by kernel_rfl) (fun _ _ _ h => h) (Or.inl ⟨by rfl, ?_⟩) ?_ ?_
 rotate_left
 ·intro w'
  first | (go_simp; with_reducible rfl) | rfl | (go_simp; done)
 rotate_left
 ·first | (simp only [Act.put, List.setIfInBounds_toArray, List.set_cons_zero, List.set_cons_succ, i64_w, i32_w]; rfl) | rfl
 refine pure_ (i := 2) (N := (some 9)) (v := ?_) (a' := ?_) #[true, true, true, false, false, false, false, false] rfl rfl (by kernel_rfl) (fun _ _ _ h => h) (Or.inl ⟨by rfl, ?_⟩) ?_ ?_
 rotate_left
 ·intro w'
  first | (go_simp; with_reducible rfl) | rfl | (go_simp; done)
 rotate_left
 ·first | (simp only [Act.put, List.setIfInBounds_toArray, List.set_cons_zero, List.set_cons_succ, i64_w, i32_w]; rfl) | rfl
 refine pure_ (i := 3) (N := (some 10)) (v := ?_) (a' := ?_) #[true, true, true, true, false, false, false, false] rfl rfl (by kernel_rfl) (fun _ _ _ h => h) (Or.inl ⟨by rfl, ?_⟩) ?_ ?_
 rotate_left
 ·intro w'
  first | (go_simp; with_reducible rfl) | rfl | (go_simp; done)
 rotate_left
 ·first | (simp only [Act.put, List.setIfInBounds_toArray, List.set_cons_zero, List.set_cons_succ, i64_w, i32_w]; rfl) | rfl
 refine pure_ (i := 4) (N := (some 11)) (v := ?_) (a' := ?_) #[true, true, true, true, true, false, false, false] rfl rfl (by kernel_rfl) (fun _ _ _ h => h) (Or.inl ⟨by rfl, ?_⟩) ?_ ?_
 rotate_left
 ·intro w'
  first | (go_simp; with_reducible rfl) | rfl | (go_simp; done)
 rotate_left
 ·first | (simp only [Act.put, List.setIfInBounds_toArray, List.set_cons_zero, List.set_cons_succ, i64_w, i32_w]; rfl) | rfl
 refine take_ (i := 5) (N := (some 12)) (v := ?_) (a' := ?_) #[true, true, true, true, true, true, false, false] rfl rfl (by kernel_rfl) (fun _ _ _ h => h) (Or.inl ⟨by rfl, ?_⟩) hHeld ?_ ?_
 rotate_left
 ·intro w' s0
  first | (go_simp; with_reducible rfl) | rfl | (go_simp; done)
 rotate_left
 ·first | (simp only [Act.put, List.setIfInBounds_toArray, List.set_cons_zero, List.set_cons_succ, i64_w, i32_w]; rfl) | rfl
 refine pure_ (i := 6) (N := (some 13)) (v := ?_) (a' := ?_) #[true, true, true, true, true, true, true, false] rfl rfl (by kernel_rfl) (fun _ _ _ h => h) (Or.inl ⟨by rfl, ?_⟩) ?_ ?_
 rotate_left
 ·intro w'
  first | (go_simp; with_reducible rfl) | rfl | (go_simp; done)
 rotate_left
 ·first | (simp only [Act.put, List.setIfInBounds_toArray, List.set_cons_zero, List.set_cons_succ, i64_w, i32_w]; rfl) | rfl
 refine one_ (i := 7) (N := (some 14)) #[true, true, true, true, true, true, true, true] rfl rfl (by kernel_rfl) (by decide) (fun K hK => ?_)
 refine value_ (v := .int .i64 (d : Int)) (w1 := W3) (by rfl) rfl ?_ ?_
 ·simp [execOp, resolve, invoke, builtin, Act.eval, hrun, Result.andThen, goInt]
 refine hK.out _ _ ((kc_ T3 1).trans rfl) (fun hHeld => ?_)
 clear hK K
 refine done_ (by kernel_rfl) ?_
 go_upto_region 3 with (fail)
 have hy0 : W3.cell? ⟨gb215, 0, none⟩ = some (.int .i64 ((fullL [a0_7, a0_8, a0_9, a0_10, a0_11] d).getD 0 0)) := (kc_ B3 0).trans rfl
 have hx0 : W3.cell? ⟨gb209, 0, none⟩ = some (.int .i64 0) := (kc_ R3 0).trans rfl
 have hf0 := kf_ R3 0
 have hy1 : W3.cell? ⟨gb215, 1, none⟩ = some (.int .i64 ((fullL [a0_7, a0_8, a0_9, a0_10, a0_11] d).getD 1 0)) := (kc_ B3 1).trans rfl
 have hx1 : W3.cell? ⟨gb209, 1, none⟩ = some (.int .i64 0) := (kc_ R3 1).trans rfl
 have hf1 := kf_ R3 1
 have hy2 : W3.cell? ⟨gb215, 2, none⟩ = some (.int .i64 ((fullL [a0_7, a0_8, a0_9, a0_10, a0_11] d).getD 2 0)) := (kc_ B3 2).trans rfl
 have hx2 : W3.cell? ⟨gb209, 2, none⟩ = some (.int .i64 0) := (kc_ R3 2).trans rfl
 have hf2 := kf_ R3 2
 have hy3 : W3.cell? ⟨gb215, 3, none⟩ = some (.int .i64 ((fullL [a0_7, a0_8, a0_9, a0_10, a0_11] d).getD 3 0)) := (kc_ B3 3).trans rfl
 have hx3 : W3.cell? ⟨gb209, 3, none⟩ = some (.int .i64 0) := (kc_ R3 3).trans rfl
 have hf3 := kf_ R3 3
 have hy4 : W3.cell? ⟨gb215, 4, none⟩ = some (.int .i64 ((fullL [a0_7, a0_8, a0_9, a0_10, a0_11] d).getD 4 0)) := (kc_ B3 4).trans rfl
 have hx4 : W3.cell? ⟨gb209, 4, none⟩ = some (.int .i64 0) := (kc_ R3 4).trans rfl
 have hf4 := kf_ R3 4
 go_wp2
 refine bodyPost_ret (results_cell_row rfl _ _ gb209 75 #[.int .i64 ((fullL [a0_7, a0_8, a0_9, a0_10, a0_11] d).getD 0 0), .int .i64 ((fullL [a0_7, a0_8, a0_9, a0_10, a0_11] d).getD 1 0), .int .i64 ((fullL [a0_7, a0_8, a0_9, a0_10, a0_11] d).getD 2 0), .int .i64 ((fullL [a0_7, a0_8, a0_9, a0_10, a0_11] d).getD 3 0), .int .i64 ((fullL [a0_7, a0_8, a0_9, a0_10, a0_11] d).getD 4 0)] (0, 0) _ rfl (by refine kP_ (cs := #[.int .i64 ((fullL [a0_7, a0_8, a0_9, a0_10, a0_11] d).getD 0 0), .int .i64 ((fullL [a0_7, a0_8, a0_9, a0_10, a0_11] d).getD 1 0), .int .i64 ((fullL [a0_7, a0_8, a0_9, a0_10, a0_11] d).getD 2 0), .int .i64 ((fullL [a0_7, a0_8, a0_9, a0_10, a0_11] d).getD 3 0), .int .i64 0]) ?_ 4 _ rfl; refine kP_ (cs := #[.int .i64 ((fullL [a0_7, a0_8, a0_9, a0_10, a0_11] d).getD 0 0), .int .i64 ((fullL [a0_7, a0_8, a0_9, a0_10, a0_11] d).getD 1 0), .int .i64 ((fullL [a0_7, a0_8, a0_9, a0_10, a0_11] d).getD 2 0), .int .i64 0, .int .i64 0]) ?_ 3 _ rfl; refine kP_ (cs := #[.int .i64 ((fullL [a0_7, a0_8, a0_9, a0_10, a0_11] d).getD 0 0), .int .i64 ((fullL [a0_7, a0_8, a0_9, a0_10, a0_11] d).getD 1 0), .int .i64 0, .int .i64 0, .int .i64 0]) ?_ 2 _ rfl; refine kP_ (cs := #[.int .i64 ((fullL [a0_7, a0_8, a0_9, a0_10, a0_11] d).getD 0 0), .int .i64 0, .int .i64 0, .int .i64 0, .int .i64 0]) ?_ 1 _ rfl; refine kP_ (cs := #[.int .i64 0, .int .i64 0, .int .i64 0, .int .i64 0, .int .i64 0]) ?_ 0 _ rfl; exact R3) Try.underlying75 rfl (by kernel_rfl)) rfl ?_
 exact ⟨by first | rfl | simp, bS_ (bS_ (bS_ (bS_ (bS_ hb3 GE209.out) GE209.out) GE209.out) GE209.out) GE209.out⟩
theorem c_table_full.calls (k : Nat) (a0_0 : Int) (a0_1 : Int) (a0_2 : Int) (a0_3 : Int) (a0_4 : Int) (a0_5 : Int) (a0_6 : Int) (a0_7 : Int) (a0_8 : Int) (a0_9 : Int) (a0_10 : Int) (a0_11 : Int) (a1 : Int) (r1 : Int) (r2 : Int) (r3 : Int) (r4 : Int) (r5 : Int) (w : World) (h : c_table_full.f k a0_0 a0_1 a0_2 a0_3 a0_4 a0_5 a0_6 a0_7 a0_8 a0_9 a0_10 a0_11 a1 = some (r1, r2, r3, r4, r5)) :
  Calls Try.prog 76 #[.agg #[.int .i64 a0_0, .int .i64 a0_1, .int .i64 a0_2, .int .i64 a0_3, .int .i64 a0_4, .int .i64 a0_5, .int .i64 a0_6, .int .i64 a0_7, .int .i64 a0_8, .int .i64 a0_9, .int .i64 a0_10, .int .i64 a0_11], .int .i64 a1] w fun e w' => e = .returned (.agg #[.int .i64 r1, .int .i64 r2, .int .i64 r3, .int .i64 r4, .int .i64 r5]) ∧ Below w.heap.size w w' := by
 unfold c_table_full.f at h
 by_cases hd : 1 ≤ a0_1 ∧ a0_1 ≤ 5
 rotate_left
 ·rw [if_neg hd] at h; cases h
 rw [if_pos hd] at h
 obtain ⟨d, rfl⟩ : ∃ d : Nat, a0_1 = (d : Int) := ⟨a0_1.toNat, by omega⟩
 rw [Int.toNat_natCast] at h
 by_cases h0 : a1 = 0
 ·subst h0
  rw [if_pos rfl] at h
  simp only [full5, Option.some.injEq, Prod.mk.injEq] at h
  obtain ⟨rfl, rfl, rfl, rfl, rfl⟩ := h
  exact full_0 d a0_0 a0_2 a0_3 a0_4 a0_5 a0_6 a0_7 a0_8 a0_9 a0_10 a0_11 w (by omega) (by omega)
 rw [if_neg h0] at h
 by_cases h1 : a1 = 1
 rotate_left
 ·rw [if_neg h1] at h; cases h
 subst h1
 rw [if_pos rfl] at h
 simp only [full5, Option.some.injEq, Prod.mk.injEq] at h
 obtain ⟨rfl, rfl, rfl, rfl, rfl⟩ := h
 exact full_1 d a0_0 a0_2 a0_3 a0_4 a0_5 a0_6 a0_7 a0_8 a0_9 a0_10 a0_11 w (by omega) (by omega)
end Go.Proofs.Ytifkldehbaphgaa.PAll
end
