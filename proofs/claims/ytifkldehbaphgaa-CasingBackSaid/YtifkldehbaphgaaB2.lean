/- What the proofs of all laws of this seat lean on: what Go's functions that remouldlaw01.awake calls answer, and that awake returns true. No condition. Part 3 of 4. -/
import Derived.Sort.CutIn
import Derived.Deep.Heap
import Derived.Test.YtifkldehbaphgaaB1
set_option linter.all false
set_option maxHeartbeats 8000000
set_option maxRecDepth 100000
section
namespace Go.Proofs.Ytifkldehbaphgaa.PAll
open Go.RowKit Go.PW.PrintWords Go.PW.PrintLast Go.PW.PrintMore
attribute [local go_sem] max2_int max_two
def c_table_isStandard.f (k : Nat) (a0_0 : Int) (a0_1 : Int) (a0_2 : Int) (a0_3 : Int) (a0_4 : Int) (a0_5 : Int) (a0_6 : Int) (a0_7 : Int) (a0_8 : Int) (a0_9 : Int) (a0_10 : Int) (a0_11 : Int) : Option (Bool) := (c_table_order.f k a0_0 a0_1 a0_2 a0_3 a0_4 a0_5 a0_6 a0_7 a0_8 a0_9 a0_10 a0_11 0).bind fun bt212 => (if (bt212.1.length : Int) = a0_1 then ((sl_IsSorted_int_int.f k bt212.1).bind fun t218 => (some t218)) else (some false))
theorem c_table_isStandard.calls (k : Nat) (a0_0 : Int) (a0_1 : Int) (a0_2 : Int) (a0_3 : Int) (a0_4 : Int) (a0_5 : Int) (a0_6 : Int) (a0_7 : Int) (a0_8 : Int) (a0_9 : Int) (a0_10 : Int) (a0_11 : Int) (r : Bool) (w : World) (h : c_table_isStandard.f k a0_0 a0_1 a0_2 a0_3 a0_4 a0_5 a0_6 a0_7 a0_8 a0_9 a0_10 a0_11 = some r) :
  Calls Try.prog 52 #[.agg #[.int .i64 a0_0, .int .i64 a0_1, .int .i64 a0_2, .int .i64 a0_3, .int .i64 a0_4, .int .i64 a0_5, .int .i64 a0_6, .int .i64 a0_7, .int .i64 a0_8, .int .i64 a0_9, .int .i64 a0_10, .int .i64 a0_11]] w fun e w' => e = .returned (.bool r) ∧ Below w.heap.size w w' := by
 have hu78 := Try.underlying78
 have HB := a_ (Below.refl w.heap.size w)
 have H : ((c_table_order.f k a0_0 a0_1 a0_2 a0_3 a0_4 a0_5 a0_6 a0_7 a0_8 a0_9 a0_10 a0_11 0).bind fun bt212 => (if (bt212.1.length : Int) = a0_1 then ((sl_IsSorted_int_int.f k bt212.1).bind fun t218 => (some t218)) else (some false))) = some r := h
 clear h
 replace H := Option.bind_eq_some_iff.mp H
 obtain ⟨⟨t212, t215⟩, A20, H⟩ := H
 try dsimp only at H
 have A2 := a_ A20
 clear A20
 by_cases c3 : (t212.length : Int) = a0_1
 rotate_left
 ·rw [if_neg c3] at H
  have c3b0 : ((t212.length : Int) == a0_1) = false := beq_eq_false_iff_ne.mpr c3
  have c3b1 : ((t212.length : Int) != a0_1) = true := bne_iff_ne.mpr c3
  obtain rfl := Option.some.inj H
  go_enter Try.func52, Try.ntmps52
  go_wp2_with (first | ((with_reducible refine gate_dst (N := 1) rfl ?_); refine box_event ?hg (N := 1) ?hd (cs := #[.int .i64 a0_0, .int .i64 a0_1, .int .i64 a0_2, .int .i64 a0_3, .int .i64 a0_4, .int .i64 a0_5, .int .i64 a0_6, .int .i64 a0_7, .int .i64 a0_8, .int .i64 a0_9, .int .i64 a0_10, .int .i64 a0_11]) (t := 78) ?hr ?_; (case hd => rfl); (case hg => rfl); (case hr => first | (go_simp; done) | (go_simp; rfl)); intro gb211 hg w10 hbox hb; have BK211 := a_ (hbox); have GW211 := a_ ((by rw [hg]; exact (bZ_ (gr HB.out)) : w.heap.size ≤ gb211)); have GE211 := GEc.mk ((by rw [hg]; exact (bZ_ (gr HB.out)) : w.heap.size ≤ gb211)); replace HB := a_ (bT_ HB.out (tr hb)); clear hb hbox hg; obtain ⟨hcz11_0, hcz11_1, hcz11_2, hcz11_3, hcz11_4, hcz11_5, hcz11_6, hcz11_7, hcz11_8, hcz11_9, hcz11_10, hcz11_11⟩ := cs12 BK211.out; have hfz11_0 := kf_ BK211.out 0; have hfz11_1 := kf_ BK211.out 1; have hfz11_2 := kf_ BK211.out 2; have hfz11_3 := kf_ BK211.out 3; have hfz11_4 := kf_ BK211.out 4; have hfz11_5 := kf_ BK211.out 5; have hfz11_6 := kf_ BK211.out 6; have hfz11_7 := kf_ BK211.out 7; have hfz11_8 := kf_ BK211.out 8; have hfz11_9 := kf_ BK211.out 9; have hfz11_10 := kf_ BK211.out 10; have hfz11_11 := kf_ BK211.out 11) | ((with_reducible refine gate_callee (f := 53) rfl ?_); refine goesL_ (some 7) rfl rfl Try.func53 (by kernel_rfl) rfl #[.agg #[.int .i64 a0_0, .int .i64 a0_1, .int .i64 a0_2, .int .i64 a0_3, .int .i64 a0_4, .int .i64 a0_5, .int .i64 a0_6, .int .i64 a0_7, .int .i64 a0_8, .int .i64 a0_9, .int .i64 a0_10, .int .i64 a0_11], .int .i64 0] rfl (by (try simp only [List.map_toArray, List.map_cons, List.map_nil]); first | done | rfl | (simp only [List.length_drop, List.length_take]; rfl)) ?_; (with_reducible refine (c_table_order.calls k a0_0 a0_1 a0_2 a0_3 a0_4 a0_5 a0_6 a0_7 a0_8 a0_9 a0_10 a0_11 0 t212 t215 _ A2.out).mono ?_); rintro e w12 ⟨v213, v216, rfl, ho0, ho1, hb⟩; refine ⟨_, rfl, ?_⟩; have HO214 := a_ (Kd.R_lower ho0 (bZ_ (by exact gs HB.out))); have HO217 := a_ (Kd.R_lower ho1 (bZ_ (by exact gs HB.out))); replace BK211 := a_ (kB_ BK211.out (tr hb)); replace HB := a_ (bT_ (by exact gs HB.out) hb); (try clear hb); (try clear hb2); (try clear hk); (try clear hi); (try clear ho0); (try clear ho1); obtain ⟨Ao13, co13, eo13⟩ := Kd.R_slice HO214.out; subst eo13; obtain ⟨hcz14_0, hcz14_1, hcz14_2, hcz14_3, hcz14_4, hcz14_5, hcz14_6, hcz14_7, hcz14_8, hcz14_9, hcz14_10, hcz14_11⟩ := cs12 BK211.out; have hfz14_0 := kf_ BK211.out 0; have hfz14_1 := kf_ BK211.out 1; have hfz14_2 := kf_ BK211.out 2; have hfz14_3 := kf_ BK211.out 3; have hfz14_4 := kf_ BK211.out 4; have hfz14_5 := kf_ BK211.out 5; have hfz14_6 := kf_ BK211.out 6; have hfz14_7 := kf_ BK211.out 7; have hfz14_8 := kf_ BK211.out 8; have hfz14_9 := kf_ BK211.out 9; have hfz14_10 := kf_ BK211.out 10; have hfz14_11 := kf_ BK211.out 11))
  go_ret
  exact ⟨by first | rfl | (simp [errW_none, errW_some] <;> rfl) | (simp [*, errW_none, errW_some] <;> rfl), by exact gs HB.out⟩
 rw [if_pos c3] at H
 have c3b0 : ((t212.length : Int) == a0_1) = true := beq_iff_eq.mpr c3
 have c3b1 : ((t212.length : Int) != a0_1) = false := bne_eq_false_iff_eq.mpr c3
 clear c3
 replace H := Option.bind_eq_some_iff.mp H
 obtain ⟨t218, A40, H⟩ := H
 try dsimp only at H
 have A4 := a_ A40
 clear A40
 obtain rfl := Option.some.inj H
 go_enter Try.func52, Try.ntmps52
 go_wp2_with (first | ((with_reducible refine gate_dst (N := 1) rfl ?_); refine box_event ?hg (N := 1) ?hd (cs := #[.int .i64 a0_0, .int .i64 a0_1, .int .i64 a0_2, .int .i64 a0_3, .int .i64 a0_4, .int .i64 a0_5, .int .i64 a0_6, .int .i64 a0_7, .int .i64 a0_8, .int .i64 a0_9, .int .i64 a0_10, .int .i64 a0_11]) (t := 78) ?hr ?_; (case hd => rfl); (case hg => rfl); (case hr => first | (go_simp; done) | (go_simp; rfl)); intro gb211 hg w5 hbox hb; have BK211 := a_ (hbox); have GW211 := a_ ((by rw [hg]; exact (bZ_ (gr HB.out)) : w.heap.size ≤ gb211)); have GE211 := GEc.mk ((by rw [hg]; exact (bZ_ (gr HB.out)) : w.heap.size ≤ gb211)); replace HB := a_ (bT_ HB.out (tr hb)); clear hb hbox hg; obtain ⟨hcz6_0, hcz6_1, hcz6_2, hcz6_3, hcz6_4, hcz6_5, hcz6_6, hcz6_7, hcz6_8, hcz6_9, hcz6_10, hcz6_11⟩ := cs12 BK211.out; have hfz6_0 := kf_ BK211.out 0; have hfz6_1 := kf_ BK211.out 1; have hfz6_2 := kf_ BK211.out 2; have hfz6_3 := kf_ BK211.out 3; have hfz6_4 := kf_ BK211.out 4; have hfz6_5 := kf_ BK211.out 5; have hfz6_6 := kf_ BK211.out 6; have hfz6_7 := kf_ BK211.out 7; have hfz6_8 := kf_ BK211.out 8; have hfz6_9 := kf_ BK211.out 9; have hfz6_10 := kf_ BK211.out 10; have hfz6_11 := kf_ BK211.out 11) | ((with_reducible refine gate_callee (f := 53) rfl ?_); refine goesL_ (some 7) rfl rfl Try.func53 (by kernel_rfl) rfl #[.agg #[.int .i64 a0_0, .int .i64 a0_1, .int .i64 a0_2, .int .i64 a0_3, .int .i64 a0_4, .int .i64 a0_5, .int .i64 a0_6, .int .i64 a0_7, .int .i64 a0_8, .int .i64 a0_9, .int .i64 a0_10, .int .i64 a0_11], .int .i64 0] rfl (by (try simp only [List.map_toArray, List.map_cons, List.map_nil]); first | done | rfl | (simp only [List.length_drop, List.length_take]; rfl)) ?_; (with_reducible refine (c_table_order.calls k a0_0 a0_1 a0_2 a0_3 a0_4 a0_5 a0_6 a0_7 a0_8 a0_9 a0_10 a0_11 0 t212 t215 _ A2.out).mono ?_); rintro e w7 ⟨v213, v216, rfl, ho0, ho1, hb⟩; refine ⟨_, rfl, ?_⟩; have HO214 := a_ (Kd.R_lower ho0 (bZ_ (by exact gs HB.out))); have HO217 := a_ (Kd.R_lower ho1 (bZ_ (by exact gs HB.out))); replace BK211 := a_ (kB_ BK211.out (tr hb)); replace HB := a_ (bT_ (by exact gs HB.out) hb); (try clear hb); (try clear hb2); (try clear hk); (try clear hi); (try clear ho0); (try clear ho1); obtain ⟨Ao8, co8, eo8⟩ := Kd.R_slice HO214.out; subst eo8; obtain ⟨hcz9_0, hcz9_1, hcz9_2, hcz9_3, hcz9_4, hcz9_5, hcz9_6, hcz9_7, hcz9_8, hcz9_9, hcz9_10, hcz9_11⟩ := cs12 BK211.out; have hfz9_0 := kf_ BK211.out 0; have hfz9_1 := kf_ BK211.out 1; have hfz9_2 := kf_ BK211.out 2; have hfz9_3 := kf_ BK211.out 3; have hfz9_4 := kf_ BK211.out 4; have hfz9_5 := kf_ BK211.out 5; have hfz9_6 := kf_ BK211.out 6; have hfz9_7 := kf_ BK211.out 7; have hfz9_8 := kf_ BK211.out 8; have hfz9_9 := kf_ BK211.out 9; have hfz9_10 := kf_ BK211.out 10; have hfz9_11 := kf_ BK211.out 11) | (go_at_call 80; (with_reducible refine (sl_IsSorted_int_int.calls k _ _ t212 t218 _ ?side1 ?side2 A4.out).mono ?_); (case side1 => repeat (first | exact (Kd.R_reads' HO214.out).2.2 | (with_reducible refine Kd.C_alloc ?_ _) | (with_reducible refine Kd.C_drewN ?_ _) | (with_reducible refine Kd.C_drew ?_))); (case side2 => exact (Kd.R_reads' HO214.out).2.1); rintro e w' ⟨rfl, ⟨nd, rfl⟩⟩))
 go_ret
 exact ⟨by first | rfl | (simp [errW_none, errW_some] <;> rfl) | (simp [*, errW_none, errW_some] <;> rfl), by exact gs HB.out⟩
def c_table_follow.l0 : Nat → Int → ByteArray → Int → Int → Int → Int → Int → Int → Int → Int → Int → Int → Int → Int → Int → Int → Option (Int)
 | 0, _, _, _, _, _, _, _, _, _, _, _, _, _, _, _, _ => none
 | k + 1, x1, x2, x9, x10, Xa0, Xa1, Xa2, Xa3, Xa4, Xa5, Xa6, Xa7, Xa8, Xa9, Xa10, Xa11 => if x10 < x9 then (if 0 ≤ x10 then (if x10 < (x2.size : Int) then ((c_table_sent.f Xa0 Xa1 Xa2 Xa3 Xa4 Xa5 Xa6 Xa7 Xa8 Xa9 Xa10 Xa11 x1 (bt x2 x10)).bind fun t360 => (c_table_follow.l0 k t360 x2 x9 (wrap64 (x10 + 1)) Xa0 Xa1 Xa2 Xa3 Xa4 Xa5 Xa6 Xa7 Xa8 Xa9 Xa10 Xa11)) else (none)) else (none)) else (some x1)
def c_table_follow.f (k : Nat) (a0_0 : Int) (a0_1 : Int) (a0_2 : Int) (a0_3 : Int) (a0_4 : Int) (a0_5 : Int) (a0_6 : Int) (a0_7 : Int) (a0_8 : Int) (a0_9 : Int) (a0_10 : Int) (a0_11 : Int) (a1 : Int) (a2 : ByteArray) : Option (Int) := c_table_follow.l0 k a1 a2 (a2.size : Int) 0 a0_0 a0_1 a0_2 a0_3 a0_4 a0_5 a0_6 a0_7 a0_8 a0_9 a0_10 a0_11
theorem c_table_follow.calls (k : Nat) (a0_0 : Int) (a0_1 : Int) (a0_2 : Int) (a0_3 : Int) (a0_4 : Int) (a0_5 : Int) (a0_6 : Int) (a0_7 : Int) (a0_8 : Int) (a0_9 : Int) (a0_10 : Int) (a0_11 : Int) (a1 : Int) (a2 : ByteArray) (r : Int) (w : World) (h : c_table_follow.f k a0_0 a0_1 a0_2 a0_3 a0_4 a0_5 a0_6 a0_7 a0_8 a0_9 a0_10 a0_11 a1 a2 = some r) :
  Calls Try.prog 61 #[.agg #[.int .i64 a0_0, .int .i64 a0_1, .int .i64 a0_2, .int .i64 a0_3, .int .i64 a0_4, .int .i64 a0_5, .int .i64 a0_6, .int .i64 a0_7, .int .i64 a0_8, .int .i64 a0_9, .int .i64 a0_10, .int .i64 a0_11], .int .i64 a1, .string a2] w fun e w' => e = .returned (.int .i64 r) ∧ Below w.heap.size w w' := by
 have hu78 := Try.underlying78
 have HB := a_ (Below.refl w.heap.size w)
 have H : (c_table_follow.l0 k a1 a2 (a2.size : Int) 0 a0_0 a0_1 a0_2 a0_3 a0_4 a0_5 a0_6 a0_7 a0_8 a0_9 a0_10 a0_11) = some r := h
 clear h
 have H' := a_ H
 clear H
 go_enter Try.func61, Try.ntmps61
 go_wp2_with (first | ((with_reducible refine gate_dst (N := 3) rfl ?_); refine box_event ?hg (N := 3) ?hd (cs := #[.int .i64 a0_0, .int .i64 a0_1, .int .i64 a0_2, .int .i64 a0_3, .int .i64 a0_4, .int .i64 a0_5, .int .i64 a0_6, .int .i64 a0_7, .int .i64 a0_8, .int .i64 a0_9, .int .i64 a0_10, .int .i64 a0_11]) (t := 78) ?hr ?_; (case hd => rfl); (case hg => rfl); (case hr => first | (go_simp; done) | (go_simp; rfl)); intro gb359 hg w4 hbox hb; have BK359 := a_ (hbox); have GW359 := a_ ((by rw [hg]; exact (bZ_ (gr HB.out)) : w.heap.size ≤ gb359)); have GE359 := GEc.mk ((by rw [hg]; exact (bZ_ (gr HB.out)) : w.heap.size ≤ gb359)); replace HB := a_ (bT_ HB.out (tr hb)); clear hb hbox hg))
 go_loopg [1, 10] k (fun kq v1 v10 w' => ∃ (x1_1 : Int) (x10_1 : Int), v1 = .int .i64 x1_1 ∧ v10 = .int .i64 x10_1 ∧ Aside0 (c_table_follow.l0 kq x1_1 a2 (a2.size : Int) x10_1 a0_0 a0_1 a0_2 a0_3 a0_4 a0_5 a0_6 a0_7 a0_8 a0_9 a0_10 a0_11 = some r) ∧ Aside0 (kq ≤ k) ∧ Aside0 (w'.heap[gb359]? = some (.cells #[.int .i64 a0_0, .int .i64 a0_1, .int .i64 a0_2, .int .i64 a0_3, .int .i64 a0_4, .int .i64 a0_5, .int .i64 a0_6, .int .i64 a0_7, .int .i64 a0_8, .int .i64 a0_9, .int .i64 a0_10, .int .i64 a0_11] 78 (0, 0))) ∧ Aside0 (Below w.heap.size w w'))
 case atStart => exact ⟨(a1), (0), (by first | rfl | (simp; done) | (simp [*]; done)), (by first | rfl | (simp; done) | (simp [*]; done)), H', ⟨Nat.le_refl _⟩, ⟨by exact bk BK359.out⟩, ⟨by exact gs HB.out⟩⟩
 clear H'
 try clear p2
 obtain ⟨x1_1, x10_1, rfl, rfl, HA, HK1, BK359, HB⟩ := hrel
 cases gk with
 | zero => exact absurd HA.out (by simp [c_table_follow.l0])
 | succ k1 =>
  have H := HA.out
  clear HA
  simp only [c_table_follow.l0] at H
  by_cases c5 : x10_1 < (a2.size : Int)
  rotate_left
  ·rw [if_neg c5] at H
   have c5b0 : decide (x10_1 < (a2.size : Int)) = false := decide_eq_false c5
   clear c5
   obtain rfl := Option.some.inj H
   go_wp2
   go_ret
   exact ⟨by first | rfl | (simp [errW_none, errW_some] <;> rfl) | (simp [*, errW_none, errW_some] <;> rfl), by exact gs HB.out⟩
  rw [if_pos c5] at H
  have c5b0 : decide (x10_1 < (a2.size : Int)) = true := decide_eq_true c5
  clear c5
  by_cases c6 : 0 ≤ x10_1
  rotate_left
  ·rw [if_neg c6] at H
   exact absurd H (by simp)
  rw [if_pos c6] at H
  have c6b0 : decide (0 ≤ x10_1) = true := decide_eq_true c6
  clear c6
  by_cases c7 : x10_1 < (a2.size : Int)
  rotate_left
  ·rw [if_neg c7] at H
   exact absurd H (by simp)
  rw [if_pos c7] at H
  have c7b0 : decide (x10_1 < (a2.size : Int)) = true := decide_eq_true c7
  clear c7
  replace H := Option.bind_eq_some_iff.mp H
  obtain ⟨t360, A90, H⟩ := H
  try dsimp only at H
  have A9 := a_ A90
  clear A90
  have H' := a_ H
  clear H
  try go_wp2
  replace BK359 := a_ (kD_ BK359.out)
  replace HB := a_ (b1_ HB.out)
  have p8 : 0 ≤ (x10_1 : Int) := of_decide_eq_true (by first | (with_reducible assumption) | assumption)
  have q8 : x10_1 < (a2.size : Int) := of_decide_eq_true (by first | (with_reducible assumption) | assumption)
  have hx8 := bt_at a2 x10_1
  replace p8 := eq_true p8
  replace q8 := eq_true q8
  refine start_ (n := 7) (S := fun w' => w'.cell? ⟨gb359, 0, none⟩ = some (.int .i64 a0_0) ∧ w'.cell? ⟨gb359, 1, none⟩ = some (.int .i64 a0_1) ∧ w'.cell? ⟨gb359, 2, none⟩ = some (.int .i64 a0_2) ∧ w'.cell? ⟨gb359, 3, none⟩ = some (.int .i64 a0_3) ∧ w'.cell? ⟨gb359, 4, none⟩ = some (.int .i64 a0_4) ∧ w'.cell? ⟨gb359, 5, none⟩ = some (.int .i64 a0_5) ∧ w'.cell? ⟨gb359, 6, none⟩ = some (.int .i64 a0_6) ∧ w'.cell? ⟨gb359, 7, none⟩ = some (.int .i64 a0_7) ∧ w'.cell? ⟨gb359, 8, none⟩ = some (.int .i64 a0_8) ∧ w'.cell? ⟨gb359, 9, none⟩ = some (.int .i64 a0_9) ∧ w'.cell? ⟨gb359, 10, none⟩ = some (.int .i64 a0_10) ∧ w'.cell? ⟨gb359, 11, none⟩ = some (.int .i64 a0_11)) (ds := []) #[false, false, false, false, false, false, false] (by kernel_rfl) rfl rfl ⟨(kc_ BK359.out 0).trans rfl, (kc_ BK359.out 1).trans rfl, (kc_ BK359.out 2).trans rfl, (kc_ BK359.out 3).trans rfl, (kc_ BK359.out 4).trans rfl, (kc_ BK359.out 5).trans rfl, (kc_ BK359.out 6).trans rfl, (kc_ BK359.out 7).trans rfl, (kc_ BK359.out 8).trans rfl, (kc_ BK359.out 9).trans rfl, (kc_ BK359.out 10).trans rfl, (kc_ BK359.out 11).trans rfl⟩ (fun hHeld => ?_)
  generalize wr.drew = w10 at BK359 HB hHeld ⊢
  refine pure_ (i := 1) (N := some 14) (v := ?_) (a' := ?_) #[false, true, false, false, false, false, false] rfl rfl (by kernel_rfl) (fun _ _ _ h => h) (Or.inl ⟨by rfl, ?_⟩) ?_ ?_
  rotate_left
  ·intro w'
   go_simp
   with_reducible rfl
  rotate_left
  ·simp only [Act.put, List.setIfInBounds_toArray, List.set_cons_zero, List.set_cons_succ, i64_w, i32_w]
   rfl
  refine pure_ (i := 2) (N := some 15) (v := ?_) (a' := ?_) #[false, true, true, false, false, false, false] rfl rfl (by kernel_rfl) (fun _ _ _ h => h) (Or.inl ⟨by rfl, ?_⟩) ?_ ?_
  rotate_left
  ·intro w'
   go_simp
   with_reducible rfl
  rotate_left
  ·simp only [Act.put, List.setIfInBounds_toArray, List.set_cons_zero, List.set_cons_succ, i64_w, i32_w]
   rfl
  refine pure_ (i := 3) (N := some 16) (v := ?_) (a' := ?_) #[false, true, true, true, false, false, false] rfl rfl (by kernel_rfl) (fun _ _ _ h => h) (Or.inl ⟨by rfl, ?_⟩) ?_ ?_
  rotate_left
  ·intro w'
   go_simp
   with_reducible rfl
  rotate_left
  ·simp only [Act.put, List.setIfInBounds_toArray, List.set_cons_zero, List.set_cons_succ, i64_w, i32_w]
   rfl
  refine take_ (i := 0) (N := some 13) (v := ?_) (a' := ?_) #[true, true, true, true, false, false, false] rfl rfl (by kernel_rfl) (fun _ _ _ h => h) (Or.inl ⟨by rfl, ?_⟩) hHeld ?_ ?_
  rotate_left
  ·rintro w' ⟨s0, s1, s2, s3, s4, s5, s6, s7, s8, s9, s10, s11⟩
   go_simp
   with_reducible rfl
  rotate_left
  ·simp only [Act.put, List.setIfInBounds_toArray, List.set_cons_zero, List.set_cons_succ, i64_w, i32_w]
   rfl
  refine take_ (i := 4) (N := some 17) (v := ?_) (a' := ?_) #[true, true, true, true, true, false, false] rfl rfl (by kernel_rfl) (fun _ _ _ h => h) (Or.inl ⟨by rfl, ?_⟩) hHeld ?_ ?_
  rotate_left
  ·rintro w' ⟨s0, s1, s2, s3, s4, s5, s6, s7, s8, s9, s10, s11⟩
   go_simp
   with_reducible rfl
  rotate_left
  ·simp only [Act.put, List.setIfInBounds_toArray, List.set_cons_zero, List.set_cons_succ, i64_w, i32_w]
   rfl
  refine one_ (i := 5) (N := some 18) #[true, true, true, true, true, true, false] rfl rfl (by kernel_rfl) (by decide) (fun K hK => ?_)
  refine goes_ Try.func70 (by kernel_rfl) rfl #[.agg #[.int .i64 a0_0, .int .i64 a0_1, .int .i64 a0_2, .int .i64 a0_3, .int .i64 a0_4, .int .i64 a0_5, .int .i64 a0_6, .int .i64 a0_7, .int .i64 a0_8, .int .i64 a0_9, .int .i64 a0_10, .int .i64 a0_11], .int .i64 x1_1, .int .u8 (bt a2 x10_1)] (by rfl) rfl rfl (by (try simp only [List.map_toArray, List.map_cons, List.map_nil]); first | done | rfl | (simp only [List.length_drop, List.length_take]; rfl)) ?_
  with_reducible refine (c_table_sent.calls a0_0 a0_1 a0_2 a0_3 a0_4 a0_5 a0_6 a0_7 a0_8 a0_9 a0_10 a0_11 x1_1 (bt a2 x10_1) t360 _ A9.out).mono ?_
  rintro e w11 ⟨rfl, hb⟩
  refine ⟨_, rfl, ?_⟩
  replace BK359 := a_ (kB_ BK359.out (tr hb))
  replace HB := a_ (bT_ (by exact gs HB.out) hb)
  (try clear hb)
  (try clear hb2)
  (try clear hk)
  (try clear hi)
  refine hK.out _ _ ⟨(kc_ BK359.out 0).trans rfl, (kc_ BK359.out 1).trans rfl, (kc_ BK359.out 2).trans rfl, (kc_ BK359.out 3).trans rfl, (kc_ BK359.out 4).trans rfl, (kc_ BK359.out 5).trans rfl, (kc_ BK359.out 6).trans rfl, (kc_ BK359.out 7).trans rfl, (kc_ BK359.out 8).trans rfl, (kc_ BK359.out 9).trans rfl, (kc_ BK359.out 10).trans rfl, (kc_ BK359.out 11).trans rfl⟩ (fun hHeld => ?_)
  clear hK K
  refine norm_ (a' := ?_) ?_ ?_
  rotate_left
  ·show Act.put _ (some 18) _ = _
   simp only [Act.put, List.setIfInBounds_toArray, List.set_cons_zero, List.set_cons_succ, i64_w, i32_w]
   rfl
  refine pure_ (i := 6) (N := some 1) (v := ?_) (a' := ?_) #[true, true, true, true, true, true, true] rfl rfl (by kernel_rfl) (fun _ _ _ h => h) (Or.inl ⟨by rfl, ?_⟩) ?_ ?_
  rotate_left
  ·intro w'
   go_simp
   with_reducible rfl
  rotate_left
  ·simp only [Act.put, List.setIfInBounds_toArray, List.set_cons_zero, List.set_cons_succ, i64_w, i32_w]
   rfl
  refine done_ (by kernel_rfl) ?_
  try go_wp2
  go_roundg k1
  case measure => have := HK1.out; omega
  case rel => exact ⟨(t360), (wrap64 (x10_1 + 1)), (by first | rfl | (simp; done) | (simp [*]; done)), (by first | rfl | (simp; done) | (simp [*]; done)), H', ⟨by have := HK1.out; omega⟩, ⟨by exact bk BK359.out⟩, ⟨by exact gs HB.out⟩⟩
mutual
def c_table_keeps.l0 : Nat → List ByteArray → Int → Int → Int → Int → Int → Int → Int → Int → Int → Int → Int → Int → Int → Int → Int → List ByteArray → Option (Bool)
 | 0, _, _, _, _, _, _, _, _, _, _, _, _, _, _, _, _, _ => none
 | k + 1, x9, x10, x11, Xb0, Xb1, Xb2, Xb3, Xb4, Xb5, Xb6, Xb7, Xb8, Xb9, Xb10, Xb11, Xc0, Xc1 => if x11 < x10 then (if 0 ≤ x11 then (if x11 < (x9.length : Int) then (c_table_keeps.l1 k (rdOf ByteArray.empty x9 x11) x9 x10 x11 Xb1 0 Xb0 Xb1 Xb2 Xb3 Xb4 Xb5 Xb6 Xb7 Xb8 Xb9 Xb10 Xb11 Xc0 Xc1) else (none)) else (none)) else (some (Xb0 == Xc0))
def c_table_keeps.l1 : Nat → ByteArray → List ByteArray → Int → Int → Int → Int → Int → Int → Int → Int → Int → Int → Int → Int → Int → Int → Int → Int → Int → List ByteArray → Option (Bool)
 | 0, _, _, _, _, _, _, _, _, _, _, _, _, _, _, _, _, _, _, _, _ => none
 | k + 1, x6, x9, x10, x11, x16, x17, Xb0, Xb1, Xb2, Xb3, Xb4, Xb5, Xb6, Xb7, Xb8, Xb9, Xb10, Xb11, Xc0, Xc1 => if x17 < x16 then ((c_table_follow.f k Xb0 Xb1 Xb2 Xb3 Xb4 Xb5 Xb6 Xb7 Xb8 Xb9 Xb10 Xb11 x17 x6).bind fun t750 => (if t750 = x17 then (c_table_keeps.l1 k x6 x9 x10 x11 x16 (wrap64 (x17 + 1)) Xb0 Xb1 Xb2 Xb3 Xb4 Xb5 Xb6 Xb7 Xb8 Xb9 Xb10 Xb11 Xc0 Xc1) else (some false))) else (c_table_keeps.l0 k x9 x10 (wrap64 (x11 + 1)) Xb0 Xb1 Xb2 Xb3 Xb4 Xb5 Xb6 Xb7 Xb8 Xb9 Xb10 Xb11 Xc0 Xc1)
end
def c_table_keeps.f (k : Nat) (a0_0 : Int) (a0_1 : Int) (a0_2 : Int) (a0_3 : Int) (a0_4 : Int) (a0_5 : Int) (a0_6 : Int) (a0_7 : Int) (a0_8 : Int) (a0_9 : Int) (a0_10 : Int) (a0_11 : Int) (a1_0 : Int) (l1_1 : List ByteArray) : Option (Bool) := c_table_keeps.l0 k l1_1 (l1_1.length : Int) 0 a0_0 a0_1 a0_2 a0_3 a0_4 a0_5 a0_6 a0_7 a0_8 a0_9 a0_10 a0_11 a1_0 l1_1
theorem c_table_keeps.calls (k : Nat) (a0_0 : Int) (a0_1 : Int) (a0_2 : Int) (a0_3 : Int) (a0_4 : Int) (a0_5 : Int) (a0_6 : Int) (a0_7 : Int) (a0_8 : Int) (a0_9 : Int) (a0_10 : Int) (a0_11 : Int) (a1_0 : Int) (A1_1 : Option Addr) (c1_1 : Nat) (l1_1 : List ByteArray) (r : Bool) (w : World) (hr1_1 : Kd.C Kd.string w A1_1 l1_1.length l1_1) (hc1_1 : l1_1.length ≤ c1_1) (h : c_table_keeps.f k a0_0 a0_1 a0_2 a0_3 a0_4 a0_5 a0_6 a0_7 a0_8 a0_9 a0_10 a0_11 a1_0 l1_1 = some r) :
  Calls Try.prog 94 #[.agg #[.int .i64 a0_0, .int .i64 a0_1, .int .i64 a0_2, .int .i64 a0_3, .int .i64 a0_4, .int .i64 a0_5, .int .i64 a0_6, .int .i64 a0_7, .int .i64 a0_8, .int .i64 a0_9, .int .i64 a0_10, .int .i64 a0_11], .agg #[.int .i64 a1_0, .slice A1_1 l1_1.length c1_1]] w fun e w' => e = .returned (.bool r) ∧ Below w.heap.size w w' := by
 have hu78 := Try.underlying78
 have hu55 := Try.underlying55
 have HR1_1 := a_ hr1_1
 have HC1_1 := a_ hc1_1
 clear hr1_1 hc1_1
 have HB := a_ (Below.refl w.heap.size w)
 have H : (c_table_keeps.l0 k l1_1 (l1_1.length : Int) 0 a0_0 a0_1 a0_2 a0_3 a0_4 a0_5 a0_6 a0_7 a0_8 a0_9 a0_10 a0_11 a1_0 l1_1) = some r := h
 clear h
 have H' := a_ H
 clear H
 go_enter Try.func94, Try.ntmps94
 go_wp2_with (first | ((with_reducible refine gate_dst (N := 2) rfl ?_); refine box_event ?hg (N := 2) ?hd (cs := #[.int .i64 a0_0, .int .i64 a0_1, .int .i64 a0_2, .int .i64 a0_3, .int .i64 a0_4, .int .i64 a0_5, .int .i64 a0_6, .int .i64 a0_7, .int .i64 a0_8, .int .i64 a0_9, .int .i64 a0_10, .int .i64 a0_11]) (t := 78) ?hr ?_; (case hd => rfl); (case hg => rfl); (case hr => first | (go_simp; done) | (go_simp; rfl)); intro gb747 hg w3 hbox hb; have BK747 := a_ (hbox); have GW747 := a_ ((by rw [hg]; exact (bZ_ (gr HB.out)) : w.heap.size ≤ gb747)); have GE747 := GEc.mk ((by rw [hg]; exact (bZ_ (gr HB.out)) : w.heap.size ≤ gb747)); replace HB := a_ (bT_ HB.out (tr hb)); clear hb hbox hg) | ((with_reducible refine gate_dst (N := 3) rfl ?_); refine box_event ?hg (N := 3) ?hd (cs := #[.int .i64 a1_0, .slice A1_1 l1_1.length c1_1]) (t := 55) ?hr ?_; (case hd => rfl); (case hg => rfl); (case hr => first | (go_simp; done) | (go_simp; rfl)); intro gb748 hg w4 hbox hb; have BK748 := a_ (hbox); have GW748 := a_ ((by rw [hg]; exact (bZ_ (by exact gs HB.out)) : w.heap.size ≤ gb748)); have GE748 := GEc.mk ((by rw [hg]; exact (bZ_ (by exact gs HB.out)) : w.heap.size ≤ gb748)); have NB747_748 := NEc.mk ((by rw [hg]; exact Nat.ne_of_lt (blk_lt (g := gb747) (o := .cells #[.int .i64 a0_0, .int .i64 a0_1, .int .i64 a0_2, .int .i64 a0_3, .int .i64 a0_4, .int .i64 a0_5, .int .i64 a0_6, .int .i64 a0_7, .int .i64 a0_8, .int .i64 a0_9, .int .i64 a0_10, .int .i64 a0_11] 78 (0, 0)) (by exact bk BK747.out)) : gb747 ≠ gb748)); have NB748_747 := NEc.mk ((by rw [hg]; exact Nat.ne_of_gt (blk_lt (g := gb747) (o := .cells #[.int .i64 a0_0, .int .i64 a0_1, .int .i64 a0_2, .int .i64 a0_3, .int .i64 a0_4, .int .i64 a0_5, .int .i64 a0_6, .int .i64 a0_7, .int .i64 a0_8, .int .i64 a0_9, .int .i64 a0_10, .int .i64 a0_11] 78 (0, 0)) (by exact bk BK747.out)) : gb748 ≠ gb747)); replace BK747 := a_ (kB_ BK747.out (tr hb)); replace HB := a_ (bT_ (by exact gs HB.out) hb); clear hb hbox hg; have hnb5 := NB748_747.out; have hnc5 := NB747_748.out; have hcz6_0 : w4.cell? ⟨gb748, 0, none⟩ = some (.int .i64 a1_0) := (kc_ BK748.out 0).trans rfl; have hcz6_1 : w4.cell? ⟨gb748, 1, none⟩ = some (.slice A1_1 l1_1.length c1_1) := (kc_ BK748.out 1).trans rfl; have hfz6_0 := kf_ BK748.out 0; have hfz6_1 := kf_ BK748.out 1))
 go_loopg [11] k (fun kq v11 w' => ∃ (x11_1 : Int), v11 = .int .i64 x11_1 ∧ Aside0 (c_table_keeps.l0 kq l1_1 (l1_1.length : Int) x11_1 a0_0 a0_1 a0_2 a0_3 a0_4 a0_5 a0_6 a0_7 a0_8 a0_9 a0_10 a0_11 a1_0 l1_1 = some r) ∧ Aside0 (kq ≤ k) ∧ Aside0 (w'.heap[gb747]? = some (.cells #[.int .i64 a0_0, .int .i64 a0_1, .int .i64 a0_2, .int .i64 a0_3, .int .i64 a0_4, .int .i64 a0_5, .int .i64 a0_6, .int .i64 a0_7, .int .i64 a0_8, .int .i64 a0_9, .int .i64 a0_10, .int .i64 a0_11] 78 (0, 0))) ∧ Aside0 (w'.heap[gb748]? = some (.cells #[.int .i64 a1_0, (.slice A1_1 l1_1.length c1_1)] 55 (0, 0))) ∧ Aside0 (Below w.heap.size w w'))
 case atStart => exact ⟨(0), (by first | rfl | (simp; done) | (simp [*]; done)), H', ⟨Nat.le_refl _⟩, ⟨by exact bk BK747.out⟩, ⟨by exact bk BK748.out⟩, ⟨by exact gs HB.out⟩⟩
 clear H'
 try clear c1
 try clear p2
 try clear c5
 try clear hcz6_0 hcz6_1
 try clear hfz6_0 hfz6_1
 obtain ⟨x11_1, rfl, HA, HK1, BK747, BK748, HB⟩ := hrel
 cases gk with
 | zero => exact absurd HA.out (by simp [c_table_keeps.l0])
 | succ k1 =>
  have H := HA.out
  clear HA
  simp only [c_table_keeps.l0] at H
  by_cases c7 : x11_1 < (l1_1.length : Int)
  rotate_left
  ·rw [if_neg c7] at H
   have c7b0 : decide (x11_1 < (l1_1.length : Int)) = false := decide_eq_false c7
   clear c7
   obtain rfl := Option.some.inj H
   have hnb21 := NB747_748.out
   have hnc21 := NB748_747.out
   obtain ⟨hcz22_0, hcz22_1, hcz22_2, hcz22_3, hcz22_4, hcz22_5, hcz22_6, hcz22_7, hcz22_8, hcz22_9, hcz22_10, hcz22_11⟩ := cs12 BK747.out
   have hfz22_0 := kf_ BK747.out 0
   have hfz22_1 := kf_ BK747.out 1
   have hfz22_2 := kf_ BK747.out 2
   have hfz22_3 := kf_ BK747.out 3
   have hfz22_4 := kf_ BK747.out 4
   have hfz22_5 := kf_ BK747.out 5
   have hfz22_6 := kf_ BK747.out 6
   have hfz22_7 := kf_ BK747.out 7
   have hfz22_8 := kf_ BK747.out 8
   have hfz22_9 := kf_ BK747.out 9
   have hfz22_10 := kf_ BK747.out 10
   have hfz22_11 := kf_ BK747.out 11
   have hcz23_0 : wr.cell? ⟨gb748, 0, none⟩ = some (.int .i64 a1_0) := (kc_ BK748.out 0).trans rfl
   have hcz23_1 : wr.cell? ⟨gb748, 1, none⟩ = some (.slice A1_1 l1_1.length c1_1) := (kc_ BK748.out 1).trans rfl
   have hfz23_0 := kf_ BK748.out 0
   have hfz23_1 := kf_ BK748.out 1
   go_wp2
   go_ret
   exact ⟨by first | rfl | (simp [errW_none, errW_some] <;> rfl) | (simp [*, errW_none, errW_some] <;> rfl), by exact gs HB.out⟩
  rw [if_pos c7] at H
  have c7b0 : decide (x11_1 < (l1_1.length : Int)) = true := decide_eq_true c7
  clear c7
  by_cases c8 : 0 ≤ x11_1
  rotate_left
  ·rw [if_neg c8] at H
   exact absurd H (by simp)
  rw [if_pos c8] at H
  have c8b0 : decide (0 ≤ x11_1) = true := decide_eq_true c8
  clear c8
  by_cases c9 : x11_1 < (l1_1.length : Int)
  rotate_left
  ·rw [if_neg c9] at H
   exact absurd H (by simp)
  rw [if_pos c9] at H
  have c9b0 : decide (x11_1 < (l1_1.length : Int)) = true := decide_eq_true c9
  clear c9
  have H' := a_ H
  clear H
  have p749 : 0 ≤ (x11_1 : Int) := of_decide_eq_true (by first | (with_reducible assumption) | assumption)
  have q749 : x11_1 < (l1_1.length : Int) := of_decide_eq_true (by first | (with_reducible assumption) | assumption)
  obtain ⟨ad749, e749, hx749_0⟩ := Kd.at_string HR1_1.out x11_1 p749 q749
  cases e749
  replace hx749_0 := (HB.out.cell (World.block_lt_of_cell? w _ hx749_0)).trans hx749_0
  replace p749 := eq_true p749
  replace q749 := eq_true q749
  have hnb10 := NB747_748.out
  have hnc10 := NB748_747.out
  obtain ⟨hcz11_0, hcz11_1, hcz11_2, hcz11_3, hcz11_4, hcz11_5, hcz11_6, hcz11_7, hcz11_8, hcz11_9, hcz11_10, hcz11_11⟩ := cs12 BK747.out
  have hfz11_0 := kf_ BK747.out 0
  have hfz11_1 := kf_ BK747.out 1
  have hfz11_2 := kf_ BK747.out 2
  have hfz11_3 := kf_ BK747.out 3
  have hfz11_4 := kf_ BK747.out 4
  have hfz11_5 := kf_ BK747.out 5
  have hfz11_6 := kf_ BK747.out 6
  have hfz11_7 := kf_ BK747.out 7
  have hfz11_8 := kf_ BK747.out 8
  have hfz11_9 := kf_ BK747.out 9
  have hfz11_10 := kf_ BK747.out 10
  have hfz11_11 := kf_ BK747.out 11
  go_wp2
  go_loopg [17] k1 (fun kq v17 w' => ∃ (x17_2 : Int), v17 = .int .i64 x17_2 ∧ Aside0 (c_table_keeps.l1 kq (rdOf ByteArray.empty l1_1 x11_1) l1_1 (l1_1.length : Int) x11_1 a0_1 x17_2 a0_0 a0_1 a0_2 a0_3 a0_4 a0_5 a0_6 a0_7 a0_8 a0_9 a0_10 a0_11 a1_0 l1_1 = some r) ∧ Aside0 (kq ≤ k1) ∧ Aside0 (w'.heap[gb747]? = some (.cells #[.int .i64 a0_0, .int .i64 a0_1, .int .i64 a0_2, .int .i64 a0_3, .int .i64 a0_4, .int .i64 a0_5, .int .i64 a0_6, .int .i64 a0_7, .int .i64 a0_8, .int .i64 a0_9, .int .i64 a0_10, .int .i64 a0_11] 78 (0, 0))) ∧ Aside0 (w'.heap[gb748]? = some (.cells #[.int .i64 a1_0, (.slice (some ad749) l1_1.length c1_1)] 55 (0, 0))) ∧ Aside0 (Below w.heap.size w w'))
  case atStart => exact ⟨(0), (by first | rfl | (simp; done) | (simp [*]; done)), H', ⟨Nat.le_refl _⟩, ⟨by exact bk BK747.out⟩, ⟨by exact bk BK748.out⟩, ⟨by exact gs HB.out⟩⟩
  clear H'
  try clear c1
  try clear p2
  try clear c5
  try clear c7
  try clear c7b0
  try clear p7
  try clear q7
  try clear hx7
  try clear c8
  try clear c8b0
  try clear c9
  try clear c9b0
  try clear c10
  try clear hcz11_0 hcz11_1 hcz11_10 hcz11_11 hcz11_2 hcz11_3 hcz11_4 hcz11_5 hcz11_6 hcz11_7 hcz11_8 hcz11_9
  try clear hcz6_0 hcz6_1
  try clear hfz11_0 hfz11_1 hfz11_10 hfz11_11 hfz11_2 hfz11_3 hfz11_4 hfz11_5 hfz11_6 hfz11_7 hfz11_8 hfz11_9
  try clear hfz6_0 hfz6_1
  try clear hx749_0
  try clear p2
  try clear p749
  try clear q749
  obtain ⟨x17_2, rfl, HA, HK2, BK747, BK748, HB⟩ := hrel
  cases gk with
  | zero => exact absurd HA.out (by simp [c_table_keeps.l1])
  | succ k2 =>
   have H := HA.out
   clear HA
   simp only [c_table_keeps.l1] at H
   by_cases c12 : x17_2 < a0_1
   rotate_left
   ·rw [if_neg c12] at H
    have c12b0 : decide (x17_2 < a0_1) = false := decide_eq_false c12
    clear c12
    have H' := a_ H
    clear H
    go_wp2
    go_roundg k2
    case measure => have := HK1.out; have := HK2.out; omega
    case rel => exact ⟨(wrap64 (x11_1 + 1)), (by first | rfl | (simp; done) | (simp [*]; done)), H', ⟨by have := HK1.out; have := HK2.out; omega⟩, ⟨by exact bk BK747.out⟩, ⟨by exact bk BK748.out⟩, ⟨by exact gs HB.out⟩⟩
   rw [if_pos c12] at H
   have c12b0 : decide (x17_2 < a0_1) = true := decide_eq_true c12
   clear c12
   replace H := Option.bind_eq_some_iff.mp H
   obtain ⟨t750, A130, H⟩ := H
   try dsimp only at H
   have A13 := a_ A130
   clear A130
   by_cases c14 : t750 = x17_2
   rotate_left
   ·rw [if_neg c14] at H
    have c14b0 : (t750 == x17_2) = false := beq_eq_false_iff_ne.mpr c14
    have c14b1 : (t750 != x17_2) = true := bne_iff_ne.mpr c14
    obtain rfl := Option.some.inj H
    have hnb18 := NB747_748.out
    have hnc18 := NB748_747.out
    obtain ⟨hcz19_0, hcz19_1, hcz19_2, hcz19_3, hcz19_4, hcz19_5, hcz19_6, hcz19_7, hcz19_8, hcz19_9, hcz19_10, hcz19_11⟩ := cs12 BK747.out
    have hfz19_0 := kf_ BK747.out 0
    have hfz19_1 := kf_ BK747.out 1
    have hfz19_2 := kf_ BK747.out 2
    have hfz19_3 := kf_ BK747.out 3
    have hfz19_4 := kf_ BK747.out 4
    have hfz19_5 := kf_ BK747.out 5
    have hfz19_6 := kf_ BK747.out 6
    have hfz19_7 := kf_ BK747.out 7
    have hfz19_8 := kf_ BK747.out 8
    have hfz19_9 := kf_ BK747.out 9
    have hfz19_10 := kf_ BK747.out 10
    have hfz19_11 := kf_ BK747.out 11
    go_wp2_with (first | ((with_reducible refine gate_callee (f := 61) rfl ?_); refine goesL_ (some 23) rfl rfl Try.func61 (by kernel_rfl) rfl #[.agg #[.int .i64 a0_0, .int .i64 a0_1, .int .i64 a0_2, .int .i64 a0_3, .int .i64 a0_4, .int .i64 a0_5, .int .i64 a0_6, .int .i64 a0_7, .int .i64 a0_8, .int .i64 a0_9, .int .i64 a0_10, .int .i64 a0_11], .int .i64 x17_2, .string (rdOf ByteArray.empty l1_1 x11_1)] rfl (by (try simp only [List.map_toArray, List.map_cons, List.map_nil]); first | done | rfl | (simp only [List.length_drop, List.length_take]; rfl)) ?_; (with_reducible refine (c_table_follow.calls k2 a0_0 a0_1 a0_2 a0_3 a0_4 a0_5 a0_6 a0_7 a0_8 a0_9 a0_10 a0_11 x17_2 (rdOf ByteArray.empty l1_1 x11_1) t750 _ A13.out).mono ?_); rintro e w20 ⟨rfl, hb⟩; refine ⟨_, rfl, ?_⟩; replace BK747 := a_ (kB_ BK747.out (tr hb)); replace BK748 := a_ (kB_ BK748.out (tr hb)); replace HB := a_ (bT_ (by exact gs HB.out) hb); (try clear hb); (try clear hb2); (try clear hk); (try clear hi)))
    go_ret
    exact ⟨by first | rfl | (simp [errW_none, errW_some] <;> rfl) | (simp [*, errW_none, errW_some] <;> rfl), by exact gs HB.out⟩
   rw [if_pos c14] at H
   have c14b0 : (t750 == x17_2) = true := beq_iff_eq.mpr c14
   have c14b1 : (t750 != x17_2) = false := bne_eq_false_iff_eq.mpr c14
   clear c14
   have H' := a_ H
   clear H
   have hnb15 := NB747_748.out
   have hnc15 := NB748_747.out
   obtain ⟨hcz16_0, hcz16_1, hcz16_2, hcz16_3, hcz16_4, hcz16_5, hcz16_6, hcz16_7, hcz16_8, hcz16_9, hcz16_10, hcz16_11⟩ := cs12 BK747.out
   have hfz16_0 := kf_ BK747.out 0
   have hfz16_1 := kf_ BK747.out 1
   have hfz16_2 := kf_ BK747.out 2
   have hfz16_3 := kf_ BK747.out 3
   have hfz16_4 := kf_ BK747.out 4
   have hfz16_5 := kf_ BK747.out 5
   have hfz16_6 := kf_ BK747.out 6
   have hfz16_7 := kf_ BK747.out 7
   have hfz16_8 := kf_ BK747.out 8
   have hfz16_9 := kf_ BK747.out 9
   have hfz16_10 := kf_ BK747.out 10
   have hfz16_11 := kf_ BK747.out 11
   go_wp2_with (first | ((with_reducible refine gate_callee (f := 61) rfl ?_); refine goesL_ (some 23) rfl rfl Try.func61 (by kernel_rfl) rfl #[.agg #[.int .i64 a0_0, .int .i64 a0_1, .int .i64 a0_2, .int .i64 a0_3, .int .i64 a0_4, .int .i64 a0_5, .int .i64 a0_6, .int .i64 a0_7, .int .i64 a0_8, .int .i64 a0_9, .int .i64 a0_10, .int .i64 a0_11], .int .i64 x17_2, .string (rdOf ByteArray.empty l1_1 x11_1)] rfl (by (try simp only [List.map_toArray, List.map_cons, List.map_nil]); first | done | rfl | (simp only [List.length_drop, List.length_take]; rfl)) ?_; (with_reducible refine (c_table_follow.calls k2 a0_0 a0_1 a0_2 a0_3 a0_4 a0_5 a0_6 a0_7 a0_8 a0_9 a0_10 a0_11 x17_2 (rdOf ByteArray.empty l1_1 x11_1) t750 _ A13.out).mono ?_); rintro e w17 ⟨rfl, hb⟩; refine ⟨_, rfl, ?_⟩; replace BK747 := a_ (kB_ BK747.out (tr hb)); replace BK748 := a_ (kB_ BK748.out (tr hb)); replace HB := a_ (bT_ (by exact gs HB.out) hb); (try clear hb); (try clear hb2); (try clear hk); (try clear hi)))
   go_roundg k2
   case measure => have := HK1.out; have := HK2.out; omega
   case rel => exact ⟨(wrap64 (x17_2 + 1)), (by first | rfl | (simp; done) | (simp [*]; done)), H', ⟨by have := HK1.out; have := HK2.out; omega⟩, ⟨by exact bk BK747.out⟩, ⟨by exact bk BK748.out⟩, ⟨by exact gs HB.out⟩⟩
end Go.Proofs.Ytifkldehbaphgaa.PAll
end
section
namespace Go.Proofs.Ytifkldehbaphgaa.PAll
open Go.RowKit Go.PW.PrintWords Go.PW.PrintLast Go.PW.PrintMore
def cellsTab (t : S78) : List Value := [.int .i64 t.f0, .int .i64 t.f1, .int .i64 t.f2.f0.f0, .int .i64 t.f2.f0.f1, .int .i64 t.f2.f0.f2, .int .i64 t.f2.f0.f3, .int .i64 t.f2.f0.f4, .int .i64 t.f2.f1.f0, .int .i64 t.f2.f1.f1, .int .i64 t.f2.f1.f2, .int .i64 t.f2.f1.f3, .int .i64 t.f2.f1.f4]
def keepQ (K : Nat) (p0 : Int) (rules : List ByteArray) (t : S78) : Option Bool :=
 (c_table_isStandard.f K t.f0 t.f1 t.f2.f0.f0 t.f2.f0.f1 t.f2.f0.f2 t.f2.f0.f3 t.f2.f0.f4 t.f2.f1.f0 t.f2.f1.f1 t.f2.f1.f2 t.f2.f1.f3 t.f2.f1.f4).bind fun b =>
  if b = true then c_table_keeps.f K t.f0 t.f1 t.f2.f0.f0 t.f2.f0.f1 t.f2.f0.f2 t.f2.f0.f3 t.f2.f0.f4 t.f2.f1.f0 t.f2.f1.f1 t.f2.f1.f2 t.f2.f1.f3 t.f2.f1.f4 p0 rules else some false
def setCol (t : S78) (k : Nat) (c : S75) : S78 := if k = 0 then { t with f2 := { t.f2 with f0 := c } } else { t with f2 := { t.f2 with f1 := c } }
def catM {α β : Type} (f : α → Option (List β)) : List α → Option (List β)
 | [] => some []
 | x :: xs => (f x).bind fun a => (catM f xs).bind fun b => some (a ++ b)
def collT (K : Nat) (p0 : Int) (rules : List ByteArray) (d : Nat) : Nat → Nat → S78 → Option (List S78)
 | 0, _, t => (keepQ K p0 rules t).bind fun b => some (if b = true then [t] else [])
 | n + 1, k, t => catM (fun c => collT K p0 rules d n (k + 1) (setCol t k c)) (colsS d)
structure St (w0 : World) (Bo : Nat) (W : World) (v : Value) (xs : List S78) : Prop where
 box : W.heap[Bo]? = some (.cells #[v] 108 (0, 0))
 row : Kd.R k78 78 W w0.heap.size (fun _ => True) v xs
 below : Below w0.heap.size w0 W
structure KeepOf (B : Nat) (own : Option Nat) (W W' : World) : Prop where
 os : W'.os = W.os
 tape : W'.tape = W.tape
 output : W'.output = W.output
 size : W.heap.size ≤ W'.heap.size
 same : ∀ i, i < W.heap.size → i ≠ B → some i ≠ own → W'.heap[i]? = W.heap[i]?
theorem KeepOf.of_below {B : Nat} {own : Option Nat} {W W' : World} (h : Below W.heap.size W W') : KeepOf B own W W' := ⟨h.os, h.tape, h.output, h.size, fun i hi _ _ => h.block i hi⟩
theorem KeepOf.trans {B : Nat} {o o' : Option Nat} {W W1 W2 : World} (h : KeepOf B o W W1) (g : KeepOf B o' W1 W2) (ho : o' = o ∨ ∃ b, o' = some b ∧ W.heap.size ≤ b) : KeepOf B o W W2 :=
 ⟨g.os.trans h.os, g.tape.trans h.tape, g.output.trans h.output, Nat.le_trans h.size g.size, fun i hi h1 h2 => (g.same i (Nat.lt_of_lt_of_le hi h.size) h1 (by
  rcases ho with rfl | ⟨b, rfl, hb⟩
  ·exact h2
  ·intro e; cases e; omega)).trans (h.same i hi h1 h2)⟩
theorem St.move {w0 W W' : World} {Bo : Nat} {v : Value} {xs : List S78} (h : St w0 Bo W v xs) (hb : Below W.heap.size W W') : St w0 Bo W' v xs := by
 have hlt : Bo < W.heap.size := by
  rcases Nat.lt_or_ge Bo W.heap.size with h' | h'
  ·exact h'
  ·have := h.box; simp [Array.getElem?_eq_none h'] at this
 exact ⟨(hb.block Bo hlt).trans h.box, Kd.R_below h.row hb, h.below.trans (hb.mono h.below.size)⟩
def zTab : Value := .agg #[.int .i64 0, .int .i64 0, .int .i64 0, .int .i64 0, .int .i64 0, .int .i64 0, .int .i64 0, .int .i64 0, .int .i64 0, .int .i64 0, .int .i64 0, .int .i64 0]
theorem info98T : (Try.prog.info? 78).map (fun i => (i.zero, i.size, i.bytes)) = some (some zTab, k78.sz, 96) := by kernel_rfl
def TabsR (w0 : World) (Bo : Nat) (v : Value) (W : World) (zs : List S78) (e : Ending) (W' : World) : Prop :=
 e = .returned (.tuple #[]) ∧ ∃ v', St w0 Bo W' v' zs ∧ KeepOf Bo v.ownBlock W W' ∧ (v'.ownBlock = v.ownBlock ∨ ∃ b, v'.ownBlock = some b ∧ W.heap.size ≤ b)
theorem tabs_base (K : Nat) (p0 : Int) (A : Option Addr) (c : Nat) (rules : List ByteArray) (d : Nat) (w0 : World) (Bp Bo Bd Be : Nat) (hC : Kd.C Kd.string w0 A rules.length rules) (hc : rules.length ≤ c)
  (t : S78) (k : Nat) (v : Value) (xs ys : List S78) (W : World) (hg : t.f0 = k) (hS : St w0 Bo W v xs) (hBp : W.heap[Bp]? = some (.cells #[.int .i64 p0, .slice A rules.length c] 55 (0, 0)))
  (hN : xs.length < 1000000) (hBo0 : w0.heap.size ≤ Bo) (hq : collT K p0 rules d 0 k t = some ys) :
  Calls Try.prog 93 #[.agg (cellsTab t).toArray, .int .i64 k, .pointer (some ⟨Bp, 0, none⟩), .pointer (some ⟨Bo, 0, none⟩), .pointer (some ⟨Bd, 0, none⟩), .pointer (some ⟨Be, 0, none⟩)] W (TabsR w0 Bo v W (xs ++ ys)) := by
 obtain ⟨g, d1, ⟨⟨a0, a1, a2, a3, a4⟩, ⟨b0, b1, b2, b3, b4⟩⟩⟩ := t
 obtain rfl : g = (k : Int) := hg
 have hne : some Bo ≠ v.ownBlock := by
  intro e
  obtain ⟨cells, hcell⟩ := Kd.R_typed hS.row Bo e.symm
  rw [hS.box] at hcell
  cases hcell
 have hu78 := Try.underlying78
 have hu55 := Try.underlying55
 have HS := a_ hS
 have HC := a_ hC
 have Hc := a_ hc
 have HN := a_ hN
 have Hne := a_ hne
 have BKp0 := a_ hBp
 clear hS hC hc hN hne hBp
 simp only [collT, keepQ, Option.bind_eq_some_iff] at hq
 obtain ⟨b, ⟨s, hq1, hq2⟩, hq3⟩ := hq
 have Hq1 := a_ hq1
 obtain rfl := Option.some.inj hq3
 clear hq1 hq3
 simp only [cellsTab]
 cases s
 ·obtain rfl := Option.some.inj hq2
  clear hq2
  go_enter Try.func93, Try.ntmps93
  go_wp2_with (first | ((with_reducible refine gate_dst (N := 6) rfl ?_); refine box_event ?hg (N := 6) ?hd (cs := #[.int .i64 (k : Int), .int .i64 d1, .int .i64 a0, .int .i64 a1, .int .i64 a2, .int .i64 a3, .int .i64 a4, .int .i64 b0, .int .i64 b1, .int .i64 b2, .int .i64 b3, .int .i64 b4]) (t := 78) ?hr ?_; (case hd => rfl); (case hg => rfl); (case hr => first | (go_simp; done) | (go_simp; rfl)); intro gt hg w1 hbox hb; have n0_ := a_ hb; have n1_ := a_ hbox; clear hg hb hbox; have HB1 := n0_; have BKt1 := n1_; clear n0_ n1_) | ((with_reducible refine gate_dst (N := 7) rfl ?_); refine box_event ?hg (N := 7) ?hd (cs := #[.int .i64 (k : Int)]) (t := 3) ?hr ?_; (case hd => rfl); (case hg => rfl); (case hr => first | (go_simp; done) | (go_simp; rfl)); intro gk hg w2 hbox hb; have n0_ := a_ (HB1.out.trans (hb.mono HB1.out.size)); have n1_ := a_ hbox; have n2_ := a_ (kB_ BKt1.out hb); have n3_ := a_ (kB_ BKp0.out n0_.out); have n4_ := a_ (kB_ HS.out.box n0_.out); clear BKp0 HB1 BKt1 hg hb hbox; have HB := n0_; have BKk := n1_; have BKt := n2_; have BKp := n3_; have BKo := n4_; clear n0_ n1_ n2_ n3_ n4_; have hk1 : w2.cell? ⟨gk, 0, none⟩ = some (.int .i64 (k : Int)) := (kc_ BKk.out 0).trans rfl; have hp10 : w2.cell? ⟨Bp, 0, none⟩ = some (.int .i64 p0) := (kc_ BKp.out 0).trans rfl; have hp11 : w2.cell? ⟨Bp, 1, none⟩ = some (.slice A rules.length c) := (kc_ BKp.out 1).trans rfl; have ho1 : w2.cell? ⟨Bo, 0, none⟩ = some v := (kc_ BKo.out 0).trans rfl; obtain ⟨hz2_0, hz2_1, hz2_2, hz2_3, hz2_4, hz2_5, hz2_6, hz2_7, hz2_8, hz2_9, hz2_10, hz2_11⟩ := cs12 BKt.out) | ((with_reducible refine gate_callee (f := 52) rfl ?_); refine goesL_ (some 14) rfl rfl Try.func52 (by kernel_rfl) rfl #[.agg #[.int .i64 (k : Int), .int .i64 d1, .int .i64 a0, .int .i64 a1, .int .i64 a2, .int .i64 a3, .int .i64 a4, .int .i64 b0, .int .i64 b1, .int .i64 b2, .int .i64 b3, .int .i64 b4]] rfl (by (try simp only [List.map_toArray, List.map_cons, List.map_nil]); first | done | rfl) ?_; (with_reducible refine (c_table_isStandard.calls K (k : Int) d1 a0 a1 a2 a3 a4 b0 b1 b2 b3 b4 false _ Hq1.out).mono ?_); rintro e w3 ⟨rfl, hb⟩; refine ⟨_, rfl, ?_⟩; replace HB := a_ (HB.out.trans (hb.mono HB.out.size)); replace BKt := a_ (kB_ BKt.out hb); replace BKk := a_ (kB_ BKk.out hb); replace BKp := a_ (kB_ BKp.out hb); replace BKo := a_ (kB_ BKo.out hb); clear hb; have hk3 : w3.cell? ⟨gk, 0, none⟩ = some (.int .i64 (k : Int)) := (kc_ BKk.out 0).trans rfl; have hp30 : w3.cell? ⟨Bp, 0, none⟩ = some (.int .i64 p0) := (kc_ BKp.out 0).trans rfl; have hp31 : w3.cell? ⟨Bp, 1, none⟩ = some (.slice A rules.length c) := (kc_ BKp.out 1).trans rfl; have ho3 : w3.cell? ⟨Bo, 0, none⟩ = some v := (kc_ BKo.out 0).trans rfl; obtain ⟨hz4_0, hz4_1, hz4_2, hz4_3, hz4_4, hz4_5, hz4_6, hz4_7, hz4_8, hz4_9, hz4_10, hz4_11⟩ := cs12 BKt.out))
  repeat (go_quiet (first | ((with_reducible refine gate_dst (N := 6) rfl ?_); refine box_event ?hg (N := 6) ?hd (cs := #[.int .i64 (k : Int), .int .i64 d1, .int .i64 a0, .int .i64 a1, .int .i64 a2, .int .i64 a3, .int .i64 a4, .int .i64 b0, .int .i64 b1, .int .i64 b2, .int .i64 b3, .int .i64 b4]) (t := 78) ?hr ?_; (case hd => rfl); (case hg => rfl); (case hr => first | (go_simp; done) | (go_simp; rfl)); intro gt hg w1 hbox hb; have n0_ := a_ hb; have n1_ := a_ hbox; clear hg hb hbox; have HB1 := n0_; have BKt1 := n1_; clear n0_ n1_) | ((with_reducible refine gate_dst (N := 7) rfl ?_); refine box_event ?hg (N := 7) ?hd (cs := #[.int .i64 (k : Int)]) (t := 3) ?hr ?_; (case hd => rfl); (case hg => rfl); (case hr => first | (go_simp; done) | (go_simp; rfl)); intro gk hg w2 hbox hb; have n0_ := a_ (HB1.out.trans (hb.mono HB1.out.size)); have n1_ := a_ hbox; have n2_ := a_ (kB_ BKt1.out hb); have n3_ := a_ (kB_ BKp0.out n0_.out); have n4_ := a_ (kB_ HS.out.box n0_.out); clear BKp0 HB1 BKt1 hg hb hbox; have HB := n0_; have BKk := n1_; have BKt := n2_; have BKp := n3_; have BKo := n4_; clear n0_ n1_ n2_ n3_ n4_; have hk1 : w2.cell? ⟨gk, 0, none⟩ = some (.int .i64 (k : Int)) := (kc_ BKk.out 0).trans rfl; have hp10 : w2.cell? ⟨Bp, 0, none⟩ = some (.int .i64 p0) := (kc_ BKp.out 0).trans rfl; have hp11 : w2.cell? ⟨Bp, 1, none⟩ = some (.slice A rules.length c) := (kc_ BKp.out 1).trans rfl; have ho1 : w2.cell? ⟨Bo, 0, none⟩ = some v := (kc_ BKo.out 0).trans rfl; obtain ⟨hz2_0, hz2_1, hz2_2, hz2_3, hz2_4, hz2_5, hz2_6, hz2_7, hz2_8, hz2_9, hz2_10, hz2_11⟩ := cs12 BKt.out) | ((with_reducible refine gate_callee (f := 52) rfl ?_); refine goesL_ (some 14) rfl rfl Try.func52 (by kernel_rfl) rfl #[.agg #[.int .i64 (k : Int), .int .i64 d1, .int .i64 a0, .int .i64 a1, .int .i64 a2, .int .i64 a3, .int .i64 a4, .int .i64 b0, .int .i64 b1, .int .i64 b2, .int .i64 b3, .int .i64 b4]] rfl (by (try simp only [List.map_toArray, List.map_cons, List.map_nil]); first | done | rfl) ?_; (with_reducible refine (c_table_isStandard.calls K (k : Int) d1 a0 a1 a2 a3 a4 b0 b1 b2 b3 b4 false _ Hq1.out).mono ?_); rintro e w3 ⟨rfl, hb⟩; refine ⟨_, rfl, ?_⟩; replace HB := a_ (HB.out.trans (hb.mono HB.out.size)); replace BKt := a_ (kB_ BKt.out hb); replace BKk := a_ (kB_ BKk.out hb); replace BKp := a_ (kB_ BKp.out hb); replace BKo := a_ (kB_ BKo.out hb); clear hb; have hk3 : w3.cell? ⟨gk, 0, none⟩ = some (.int .i64 (k : Int)) := (kc_ BKk.out 0).trans rfl; have hp30 : w3.cell? ⟨Bp, 0, none⟩ = some (.int .i64 p0) := (kc_ BKp.out 0).trans rfl; have hp31 : w3.cell? ⟨Bp, 1, none⟩ = some (.slice A rules.length c) := (kc_ BKp.out 1).trans rfl; have ho3 : w3.cell? ⟨Bo, 0, none⟩ = some v := (kc_ BKo.out 0).trans rfl; obtain ⟨hz4_0, hz4_1, hz4_2, hz4_3, hz4_4, hz4_5, hz4_6, hz4_7, hz4_8, hz4_9, hz4_10, hz4_11⟩ := cs12 BKt.out)))
  go_end0
  exact ⟨rfl, v, by simpa using HS.out.move HB.out, KeepOf.of_below HB.out, Or.inl rfl⟩
 ·have Hq2 := a_ (show c_table_keeps.f K (k : Int) d1 a0 a1 a2 a3 a4 b0 b1 b2 b3 b4 p0 rules = some b from hq2)
  clear hq2
  cases b
  ·go_enter Try.func93, Try.ntmps93
   go_wp2_with (first | ((with_reducible refine gate_dst (N := 6) rfl ?_); refine box_event ?hg (N := 6) ?hd (cs := #[.int .i64 (k : Int), .int .i64 d1, .int .i64 a0, .int .i64 a1, .int .i64 a2, .int .i64 a3, .int .i64 a4, .int .i64 b0, .int .i64 b1, .int .i64 b2, .int .i64 b3, .int .i64 b4]) (t := 78) ?hr ?_; (case hd => rfl); (case hg => rfl); (case hr => first | (go_simp; done) | (go_simp; rfl)); intro gt hg w1 hbox hb; have n0_ := a_ hb; have n1_ := a_ hbox; clear hg hb hbox; have HB1 := n0_; have BKt1 := n1_; clear n0_ n1_) | ((with_reducible refine gate_dst (N := 7) rfl ?_); refine box_event ?hg (N := 7) ?hd (cs := #[.int .i64 (k : Int)]) (t := 3) ?hr ?_; (case hd => rfl); (case hg => rfl); (case hr => first | (go_simp; done) | (go_simp; rfl)); intro gk hg w2 hbox hb; have n0_ := a_ (HB1.out.trans (hb.mono HB1.out.size)); have n1_ := a_ hbox; have n2_ := a_ (kB_ BKt1.out hb); have n3_ := a_ (kB_ BKp0.out n0_.out); have n4_ := a_ (kB_ HS.out.box n0_.out); clear BKp0 HB1 BKt1 hg hb hbox; have HB := n0_; have BKk := n1_; have BKt := n2_; have BKp := n3_; have BKo := n4_; clear n0_ n1_ n2_ n3_ n4_; have hk1 : w2.cell? ⟨gk, 0, none⟩ = some (.int .i64 (k : Int)) := (kc_ BKk.out 0).trans rfl; have hp10 : w2.cell? ⟨Bp, 0, none⟩ = some (.int .i64 p0) := (kc_ BKp.out 0).trans rfl; have hp11 : w2.cell? ⟨Bp, 1, none⟩ = some (.slice A rules.length c) := (kc_ BKp.out 1).trans rfl; have ho1 : w2.cell? ⟨Bo, 0, none⟩ = some v := (kc_ BKo.out 0).trans rfl; obtain ⟨hz2_0, hz2_1, hz2_2, hz2_3, hz2_4, hz2_5, hz2_6, hz2_7, hz2_8, hz2_9, hz2_10, hz2_11⟩ := cs12 BKt.out) | ((with_reducible refine gate_callee (f := 52) rfl ?_); refine goesL_ (some 14) rfl rfl Try.func52 (by kernel_rfl) rfl #[.agg #[.int .i64 (k : Int), .int .i64 d1, .int .i64 a0, .int .i64 a1, .int .i64 a2, .int .i64 a3, .int .i64 a4, .int .i64 b0, .int .i64 b1, .int .i64 b2, .int .i64 b3, .int .i64 b4]] rfl (by (try simp only [List.map_toArray, List.map_cons, List.map_nil]); first | done | rfl) ?_; (with_reducible refine (c_table_isStandard.calls K (k : Int) d1 a0 a1 a2 a3 a4 b0 b1 b2 b3 b4 true _ Hq1.out).mono ?_); rintro e w3 ⟨rfl, hb⟩; refine ⟨_, rfl, ?_⟩; replace HB := a_ (HB.out.trans (hb.mono HB.out.size)); replace BKt := a_ (kB_ BKt.out hb); replace BKk := a_ (kB_ BKk.out hb); replace BKp := a_ (kB_ BKp.out hb); replace BKo := a_ (kB_ BKo.out hb); clear hb; have hk5 : w3.cell? ⟨gk, 0, none⟩ = some (.int .i64 (k : Int)) := (kc_ BKk.out 0).trans rfl; have hp50 : w3.cell? ⟨Bp, 0, none⟩ = some (.int .i64 p0) := (kc_ BKp.out 0).trans rfl; have hp51 : w3.cell? ⟨Bp, 1, none⟩ = some (.slice A rules.length c) := (kc_ BKp.out 1).trans rfl; have ho5 : w3.cell? ⟨Bo, 0, none⟩ = some v := (kc_ BKo.out 0).trans rfl; obtain ⟨hz6_0, hz6_1, hz6_2, hz6_3, hz6_4, hz6_5, hz6_6, hz6_7, hz6_8, hz6_9, hz6_10, hz6_11⟩ := cs12 BKt.out) | (go_at_call 94; have hC86 := Kd.C_below HC.out (HS.out.below.trans (HB.out.mono HS.out.below.size)); (with_reducible refine (c_table_keeps.calls K (k : Int) d1 a0 a1 a2 a3 a4 b0 b1 b2 b3 b4 p0 A c rules false _ hC86 Hc.out Hq2.out).mono ?_); rintro e w4 ⟨rfl, hb⟩; clear hC86; replace HB := a_ (HB.out.trans (hb.mono HB.out.size)); replace BKt := a_ (kB_ BKt.out hb); replace BKk := a_ (kB_ BKk.out hb); replace BKp := a_ (kB_ BKp.out hb); replace BKo := a_ (kB_ BKo.out hb); clear hb; have hk7 : w4.cell? ⟨gk, 0, none⟩ = some (.int .i64 (k : Int)) := (kc_ BKk.out 0).trans rfl; have hp70 : w4.cell? ⟨Bp, 0, none⟩ = some (.int .i64 p0) := (kc_ BKp.out 0).trans rfl; have hp71 : w4.cell? ⟨Bp, 1, none⟩ = some (.slice A rules.length c) := (kc_ BKp.out 1).trans rfl; have ho7 : w4.cell? ⟨Bo, 0, none⟩ = some v := (kc_ BKo.out 0).trans rfl; obtain ⟨hz8_0, hz8_1, hz8_2, hz8_3, hz8_4, hz8_5, hz8_6, hz8_7, hz8_8, hz8_9, hz8_10, hz8_11⟩ := cs12 BKt.out))
   repeat (go_quiet (first | ((with_reducible refine gate_dst (N := 6) rfl ?_); refine box_event ?hg (N := 6) ?hd (cs := #[.int .i64 (k : Int), .int .i64 d1, .int .i64 a0, .int .i64 a1, .int .i64 a2, .int .i64 a3, .int .i64 a4, .int .i64 b0, .int .i64 b1, .int .i64 b2, .int .i64 b3, .int .i64 b4]) (t := 78) ?hr ?_; (case hd => rfl); (case hg => rfl); (case hr => first | (go_simp; done) | (go_simp; rfl)); intro gt hg w1 hbox hb; have n0_ := a_ hb; have n1_ := a_ hbox; clear hg hb hbox; have HB1 := n0_; have BKt1 := n1_; clear n0_ n1_) | ((with_reducible refine gate_dst (N := 7) rfl ?_); refine box_event ?hg (N := 7) ?hd (cs := #[.int .i64 (k : Int)]) (t := 3) ?hr ?_; (case hd => rfl); (case hg => rfl); (case hr => first | (go_simp; done) | (go_simp; rfl)); intro gk hg w2 hbox hb; have n0_ := a_ (HB1.out.trans (hb.mono HB1.out.size)); have n1_ := a_ hbox; have n2_ := a_ (kB_ BKt1.out hb); have n3_ := a_ (kB_ BKp0.out n0_.out); have n4_ := a_ (kB_ HS.out.box n0_.out); clear BKp0 HB1 BKt1 hg hb hbox; have HB := n0_; have BKk := n1_; have BKt := n2_; have BKp := n3_; have BKo := n4_; clear n0_ n1_ n2_ n3_ n4_; have hk1 : w2.cell? ⟨gk, 0, none⟩ = some (.int .i64 (k : Int)) := (kc_ BKk.out 0).trans rfl; have hp10 : w2.cell? ⟨Bp, 0, none⟩ = some (.int .i64 p0) := (kc_ BKp.out 0).trans rfl; have hp11 : w2.cell? ⟨Bp, 1, none⟩ = some (.slice A rules.length c) := (kc_ BKp.out 1).trans rfl; have ho1 : w2.cell? ⟨Bo, 0, none⟩ = some v := (kc_ BKo.out 0).trans rfl; obtain ⟨hz2_0, hz2_1, hz2_2, hz2_3, hz2_4, hz2_5, hz2_6, hz2_7, hz2_8, hz2_9, hz2_10, hz2_11⟩ := cs12 BKt.out) | ((with_reducible refine gate_callee (f := 52) rfl ?_); refine goesL_ (some 14) rfl rfl Try.func52 (by kernel_rfl) rfl #[.agg #[.int .i64 (k : Int), .int .i64 d1, .int .i64 a0, .int .i64 a1, .int .i64 a2, .int .i64 a3, .int .i64 a4, .int .i64 b0, .int .i64 b1, .int .i64 b2, .int .i64 b3, .int .i64 b4]] rfl (by (try simp only [List.map_toArray, List.map_cons, List.map_nil]); first | done | rfl) ?_; (with_reducible refine (c_table_isStandard.calls K (k : Int) d1 a0 a1 a2 a3 a4 b0 b1 b2 b3 b4 true _ Hq1.out).mono ?_); rintro e w3 ⟨rfl, hb⟩; refine ⟨_, rfl, ?_⟩; replace HB := a_ (HB.out.trans (hb.mono HB.out.size)); replace BKt := a_ (kB_ BKt.out hb); replace BKk := a_ (kB_ BKk.out hb); replace BKp := a_ (kB_ BKp.out hb); replace BKo := a_ (kB_ BKo.out hb); clear hb; have hk5 : w3.cell? ⟨gk, 0, none⟩ = some (.int .i64 (k : Int)) := (kc_ BKk.out 0).trans rfl; have hp50 : w3.cell? ⟨Bp, 0, none⟩ = some (.int .i64 p0) := (kc_ BKp.out 0).trans rfl; have hp51 : w3.cell? ⟨Bp, 1, none⟩ = some (.slice A rules.length c) := (kc_ BKp.out 1).trans rfl; have ho5 : w3.cell? ⟨Bo, 0, none⟩ = some v := (kc_ BKo.out 0).trans rfl; obtain ⟨hz6_0, hz6_1, hz6_2, hz6_3, hz6_4, hz6_5, hz6_6, hz6_7, hz6_8, hz6_9, hz6_10, hz6_11⟩ := cs12 BKt.out) | (go_at_call 94; have hC86 := Kd.C_below HC.out (HS.out.below.trans (HB.out.mono HS.out.below.size)); (with_reducible refine (c_table_keeps.calls K (k : Int) d1 a0 a1 a2 a3 a4 b0 b1 b2 b3 b4 p0 A c rules false _ hC86 Hc.out Hq2.out).mono ?_); rintro e w4 ⟨rfl, hb⟩; clear hC86; replace HB := a_ (HB.out.trans (hb.mono HB.out.size)); replace BKt := a_ (kB_ BKt.out hb); replace BKk := a_ (kB_ BKk.out hb); replace BKp := a_ (kB_ BKp.out hb); replace BKo := a_ (kB_ BKo.out hb); clear hb; have hk7 : w4.cell? ⟨gk, 0, none⟩ = some (.int .i64 (k : Int)) := (kc_ BKk.out 0).trans rfl; have hp70 : w4.cell? ⟨Bp, 0, none⟩ = some (.int .i64 p0) := (kc_ BKp.out 0).trans rfl; have hp71 : w4.cell? ⟨Bp, 1, none⟩ = some (.slice A rules.length c) := (kc_ BKp.out 1).trans rfl; have ho7 : w4.cell? ⟨Bo, 0, none⟩ = some v := (kc_ BKo.out 0).trans rfl; obtain ⟨hz8_0, hz8_1, hz8_2, hz8_3, hz8_4, hz8_5, hz8_6, hz8_7, hz8_8, hz8_9, hz8_10, hz8_11⟩ := cs12 BKt.out)))
   go_end0
   exact ⟨rfl, v, by simpa using HS.out.move HB.out, KeepOf.of_below HB.out, Or.inl rfl⟩
  ·go_enter Try.func93, Try.ntmps93
   go_wp2_with (first | ((with_reducible refine gate_dst (N := 6) rfl ?_); refine box_event ?hg (N := 6) ?hd (cs := #[.int .i64 (k : Int), .int .i64 d1, .int .i64 a0, .int .i64 a1, .int .i64 a2, .int .i64 a3, .int .i64 a4, .int .i64 b0, .int .i64 b1, .int .i64 b2, .int .i64 b3, .int .i64 b4]) (t := 78) ?hr ?_; (case hd => rfl); (case hg => rfl); (case hr => first | (go_simp; done) | (go_simp; rfl)); intro gt hg w1 hbox hb; have n0_ := a_ hb; have n1_ := a_ hbox; clear hg hb hbox; have HB1 := n0_; have BKt1 := n1_; clear n0_ n1_) | ((with_reducible refine gate_dst (N := 7) rfl ?_); refine box_event ?hg (N := 7) ?hd (cs := #[.int .i64 (k : Int)]) (t := 3) ?hr ?_; (case hd => rfl); (case hg => rfl); (case hr => first | (go_simp; done) | (go_simp; rfl)); intro gk hg w2 hbox hb; have n0_ := a_ (HB1.out.trans (hb.mono HB1.out.size)); have n1_ := a_ hbox; have n2_ := a_ (kB_ BKt1.out hb); have n3_ := a_ (kB_ BKp0.out n0_.out); have n4_ := a_ (kB_ HS.out.box n0_.out); clear BKp0 HB1 BKt1 hg hb hbox; have HB := n0_; have BKk := n1_; have BKt := n2_; have BKp := n3_; have BKo := n4_; clear n0_ n1_ n2_ n3_ n4_; have hk1 : w2.cell? ⟨gk, 0, none⟩ = some (.int .i64 (k : Int)) := (kc_ BKk.out 0).trans rfl; have hp10 : w2.cell? ⟨Bp, 0, none⟩ = some (.int .i64 p0) := (kc_ BKp.out 0).trans rfl; have hp11 : w2.cell? ⟨Bp, 1, none⟩ = some (.slice A rules.length c) := (kc_ BKp.out 1).trans rfl; have ho1 : w2.cell? ⟨Bo, 0, none⟩ = some v := (kc_ BKo.out 0).trans rfl; obtain ⟨hz2_0, hz2_1, hz2_2, hz2_3, hz2_4, hz2_5, hz2_6, hz2_7, hz2_8, hz2_9, hz2_10, hz2_11⟩ := cs12 BKt.out) | ((with_reducible refine gate_callee (f := 52) rfl ?_); refine goesL_ (some 14) rfl rfl Try.func52 (by kernel_rfl) rfl #[.agg #[.int .i64 (k : Int), .int .i64 d1, .int .i64 a0, .int .i64 a1, .int .i64 a2, .int .i64 a3, .int .i64 a4, .int .i64 b0, .int .i64 b1, .int .i64 b2, .int .i64 b3, .int .i64 b4]] rfl (by (try simp only [List.map_toArray, List.map_cons, List.map_nil]); first | done | rfl) ?_; (with_reducible refine (c_table_isStandard.calls K (k : Int) d1 a0 a1 a2 a3 a4 b0 b1 b2 b3 b4 true _ Hq1.out).mono ?_); rintro e w3 ⟨rfl, hb⟩; refine ⟨_, rfl, ?_⟩; replace HB := a_ (HB.out.trans (hb.mono HB.out.size)); replace BKt := a_ (kB_ BKt.out hb); replace BKk := a_ (kB_ BKk.out hb); replace BKp := a_ (kB_ BKp.out hb); replace BKo := a_ (kB_ BKo.out hb); clear hb; have hk9 : w3.cell? ⟨gk, 0, none⟩ = some (.int .i64 (k : Int)) := (kc_ BKk.out 0).trans rfl; have hp90 : w3.cell? ⟨Bp, 0, none⟩ = some (.int .i64 p0) := (kc_ BKp.out 0).trans rfl; have hp91 : w3.cell? ⟨Bp, 1, none⟩ = some (.slice A rules.length c) := (kc_ BKp.out 1).trans rfl; have ho9 : w3.cell? ⟨Bo, 0, none⟩ = some v := (kc_ BKo.out 0).trans rfl; obtain ⟨hz10_0, hz10_1, hz10_2, hz10_3, hz10_4, hz10_5, hz10_6, hz10_7, hz10_8, hz10_9, hz10_10, hz10_11⟩ := cs12 BKt.out) | (go_at_call 94; have hC86 := Kd.C_below HC.out (HS.out.below.trans (HB.out.mono HS.out.below.size)); (with_reducible refine (c_table_keeps.calls K (k : Int) d1 a0 a1 a2 a3 a4 b0 b1 b2 b3 b4 p0 A c rules true _ hC86 Hc.out Hq2.out).mono ?_); rintro e w4 ⟨rfl, hb⟩; clear hC86; replace HB := a_ (HB.out.trans (hb.mono HB.out.size)); replace BKt := a_ (kB_ BKt.out hb); replace BKk := a_ (kB_ BKk.out hb); replace BKp := a_ (kB_ BKp.out hb); replace BKo := a_ (kB_ BKo.out hb); clear hb; have hk11 : w4.cell? ⟨gk, 0, none⟩ = some (.int .i64 (k : Int)) := (kc_ BKk.out 0).trans rfl; have hp110 : w4.cell? ⟨Bp, 0, none⟩ = some (.int .i64 p0) := (kc_ BKp.out 0).trans rfl; have hp111 : w4.cell? ⟨Bp, 1, none⟩ = some (.slice A rules.length c) := (kc_ BKp.out 1).trans rfl; have ho11 : w4.cell? ⟨Bo, 0, none⟩ = some v := (kc_ BKo.out 0).trans rfl; obtain ⟨hz12_0, hz12_1, hz12_2, hz12_3, hz12_4, hz12_5, hz12_6, hz12_7, hz12_8, hz12_9, hz12_10, hz12_11⟩ := cs12 BKt.out) | ((with_reducible refine gate_builtin (b := .append) (xs := #[.tmp 20, .tmp 22]) rfl ?_); at_builtin; refine Kd.R_append k78 (w0 := w0) w0.heap.size rfl (.tmp 20) (.tmp 22) 108 78 zTab 96 rfl Try.underlying108 info98T (by kernel_rfl) (by decide) (by omega) v xs ⟨(k : Int), d1, ⟨⟨a0, a1, a2, a3, a4⟩, ⟨b0, b1, b2, b3, b4⟩⟩⟩ _ (fun _ => True) (fun _ => False) rfl rfl (k78_mkM _ _ _ _) (fun _ hk => hk.elim) (fun _ _ => trivial) (Kd.R_below HS.out.row HB.out) (HS.out.below.trans (HB.out.mono HS.out.below.size)) (Nat.le_trans HS.out.below.size HB.out.size) (by have := HN.out; omega) ?_; intro v1 w5 ho hb hg hat; have n0_ := a_ ho; have n1_ := a_ hb; have n2_ := a_ hg; have n3_ := a_ hat; have n4_ := a_ ((hg.block Bo (blk_lt BKo.out) (fun e => Hne.out e)).trans BKo.out); clear ho hb hg hat; have HO := n0_; have HB5 := n1_; have HG5 := n2_; have HAT := n3_; have BKo5 := n4_; clear n0_ n1_ n2_ n3_ n4_; have hz5 : w5.cell? ⟨Bo, 0, none⟩ = some v := (kc_ BKo5.out 0).trans rfl; have hf5 := kf_ BKo5.out 0; obtain ⟨A5, c5, e5⟩ := Kd.R_slice HO.out; subst e5))
   repeat (go_quiet (first | ((with_reducible refine gate_dst (N := 6) rfl ?_); refine box_event ?hg (N := 6) ?hd (cs := #[.int .i64 (k : Int), .int .i64 d1, .int .i64 a0, .int .i64 a1, .int .i64 a2, .int .i64 a3, .int .i64 a4, .int .i64 b0, .int .i64 b1, .int .i64 b2, .int .i64 b3, .int .i64 b4]) (t := 78) ?hr ?_; (case hd => rfl); (case hg => rfl); (case hr => first | (go_simp; done) | (go_simp; rfl)); intro gt hg w1 hbox hb; have n0_ := a_ hb; have n1_ := a_ hbox; clear hg hb hbox; have HB1 := n0_; have BKt1 := n1_; clear n0_ n1_) | ((with_reducible refine gate_dst (N := 7) rfl ?_); refine box_event ?hg (N := 7) ?hd (cs := #[.int .i64 (k : Int)]) (t := 3) ?hr ?_; (case hd => rfl); (case hg => rfl); (case hr => first | (go_simp; done) | (go_simp; rfl)); intro gk hg w2 hbox hb; have n0_ := a_ (HB1.out.trans (hb.mono HB1.out.size)); have n1_ := a_ hbox; have n2_ := a_ (kB_ BKt1.out hb); have n3_ := a_ (kB_ BKp0.out n0_.out); have n4_ := a_ (kB_ HS.out.box n0_.out); clear BKp0 HB1 BKt1 hg hb hbox; have HB := n0_; have BKk := n1_; have BKt := n2_; have BKp := n3_; have BKo := n4_; clear n0_ n1_ n2_ n3_ n4_; have hk1 : w2.cell? ⟨gk, 0, none⟩ = some (.int .i64 (k : Int)) := (kc_ BKk.out 0).trans rfl; have hp10 : w2.cell? ⟨Bp, 0, none⟩ = some (.int .i64 p0) := (kc_ BKp.out 0).trans rfl; have hp11 : w2.cell? ⟨Bp, 1, none⟩ = some (.slice A rules.length c) := (kc_ BKp.out 1).trans rfl; have ho1 : w2.cell? ⟨Bo, 0, none⟩ = some v := (kc_ BKo.out 0).trans rfl; obtain ⟨hz2_0, hz2_1, hz2_2, hz2_3, hz2_4, hz2_5, hz2_6, hz2_7, hz2_8, hz2_9, hz2_10, hz2_11⟩ := cs12 BKt.out) | ((with_reducible refine gate_callee (f := 52) rfl ?_); refine goesL_ (some 14) rfl rfl Try.func52 (by kernel_rfl) rfl #[.agg #[.int .i64 (k : Int), .int .i64 d1, .int .i64 a0, .int .i64 a1, .int .i64 a2, .int .i64 a3, .int .i64 a4, .int .i64 b0, .int .i64 b1, .int .i64 b2, .int .i64 b3, .int .i64 b4]] rfl (by (try simp only [List.map_toArray, List.map_cons, List.map_nil]); first | done | rfl) ?_; (with_reducible refine (c_table_isStandard.calls K (k : Int) d1 a0 a1 a2 a3 a4 b0 b1 b2 b3 b4 true _ Hq1.out).mono ?_); rintro e w3 ⟨rfl, hb⟩; refine ⟨_, rfl, ?_⟩; replace HB := a_ (HB.out.trans (hb.mono HB.out.size)); replace BKt := a_ (kB_ BKt.out hb); replace BKk := a_ (kB_ BKk.out hb); replace BKp := a_ (kB_ BKp.out hb); replace BKo := a_ (kB_ BKo.out hb); clear hb; have hk9 : w3.cell? ⟨gk, 0, none⟩ = some (.int .i64 (k : Int)) := (kc_ BKk.out 0).trans rfl; have hp90 : w3.cell? ⟨Bp, 0, none⟩ = some (.int .i64 p0) := (kc_ BKp.out 0).trans rfl; have hp91 : w3.cell? ⟨Bp, 1, none⟩ = some (.slice A rules.length c) := (kc_ BKp.out 1).trans rfl; have ho9 : w3.cell? ⟨Bo, 0, none⟩ = some v := (kc_ BKo.out 0).trans rfl; obtain ⟨hz10_0, hz10_1, hz10_2, hz10_3, hz10_4, hz10_5, hz10_6, hz10_7, hz10_8, hz10_9, hz10_10, hz10_11⟩ := cs12 BKt.out) | (go_at_call 94; have hC86 := Kd.C_below HC.out (HS.out.below.trans (HB.out.mono HS.out.below.size)); (with_reducible refine (c_table_keeps.calls K (k : Int) d1 a0 a1 a2 a3 a4 b0 b1 b2 b3 b4 p0 A c rules true _ hC86 Hc.out Hq2.out).mono ?_); rintro e w4 ⟨rfl, hb⟩; clear hC86; replace HB := a_ (HB.out.trans (hb.mono HB.out.size)); replace BKt := a_ (kB_ BKt.out hb); replace BKk := a_ (kB_ BKk.out hb); replace BKp := a_ (kB_ BKp.out hb); replace BKo := a_ (kB_ BKo.out hb); clear hb; have hk11 : w4.cell? ⟨gk, 0, none⟩ = some (.int .i64 (k : Int)) := (kc_ BKk.out 0).trans rfl; have hp110 : w4.cell? ⟨Bp, 0, none⟩ = some (.int .i64 p0) := (kc_ BKp.out 0).trans rfl; have hp111 : w4.cell? ⟨Bp, 1, none⟩ = some (.slice A rules.length c) := (kc_ BKp.out 1).trans rfl; have ho11 : w4.cell? ⟨Bo, 0, none⟩ = some v := (kc_ BKo.out 0).trans rfl; obtain ⟨hz12_0, hz12_1, hz12_2, hz12_3, hz12_4, hz12_5, hz12_6, hz12_7, hz12_8, hz12_9, hz12_10, hz12_11⟩ := cs12 BKt.out) | ((with_reducible refine gate_builtin (b := .append) (xs := #[.tmp 20, .tmp 22]) rfl ?_); at_builtin; refine Kd.R_append k78 (w0 := w0) w0.heap.size rfl (.tmp 20) (.tmp 22) 108 78 zTab 96 rfl Try.underlying108 info98T (by kernel_rfl) (by decide) (by omega) v xs ⟨(k : Int), d1, ⟨⟨a0, a1, a2, a3, a4⟩, ⟨b0, b1, b2, b3, b4⟩⟩⟩ _ (fun _ => True) (fun _ => False) rfl rfl (k78_mkM _ _ _ _) (fun _ hk => hk.elim) (fun _ _ => trivial) (Kd.R_below HS.out.row HB.out) (HS.out.below.trans (HB.out.mono HS.out.below.size)) (Nat.le_trans HS.out.below.size HB.out.size) (by have := HN.out; omega) ?_; intro v1 w5 ho hb hg hat; have n0_ := a_ ho; have n1_ := a_ hb; have n2_ := a_ hg; have n3_ := a_ hat; have n4_ := a_ ((hg.block Bo (blk_lt BKo.out) (fun e => Hne.out e)).trans BKo.out); clear ho hb hg hat; have HO := n0_; have HB5 := n1_; have HG5 := n2_; have HAT := n3_; have BKo5 := n4_; clear n0_ n1_ n2_ n3_ n4_; have hz5 : w5.cell? ⟨Bo, 0, none⟩ = some v := (kc_ BKo5.out 0).trans rfl; have hf5 := kf_ BKo5.out 0; obtain ⟨A5, c5, e5⟩ := Kd.R_slice HO.out; subst e5)))
   go_end0
   have HO' : Kd.R k78 78 w5 w0.heap.size (fun _ => True) (.slice A5 (xs.length + 1) c5) (xs ++ [(⟨(k : Int), d1, ⟨⟨a0, a1, a2, a3, a4⟩, ⟨b0, b1, b2, b3, b4⟩⟩⟩ : S78)]) := by have h := HO.out; rw [List.length_append] at h; exact h
   have hg6 := grownBy_setCell' w5 Bo (Value.slice A5 (xs.length + 1) c5)
   refine ⟨rfl, .slice A5 (xs.length + 1) c5, ⟨?_, ?_, ?_⟩, ?_, ?_⟩
   rotate_left
   ·exact Kd.R_set HO' BKo5.out (by decide) 0 _
   ·exact bS_ HB5.out hBo0
   ·exact ⟨hg6.os.trans (HG5.out.os.trans HB.out.os), hg6.tape.trans (HG5.out.tape.trans HB.out.tape), hg6.output.trans (HG5.out.output.trans HB.out.output), Nat.le_trans HB.out.size (Nat.le_trans HG5.out.size hg6.size), fun i hi h1 h2 =>
     (hg6.block i (Nat.lt_of_lt_of_le hi (Nat.le_trans HB.out.size HG5.out.size)) (fun e => h1 (by cases e; rfl))).trans ((HG5.out.block i (Nat.lt_of_lt_of_le hi HB.out.size) h2).trans (HB.out.block i hi))⟩
   ·have h := HAT.out
    rw [List.length_append] at h
    rcases h with h | ⟨b, h, hb⟩
    ·exact Or.inl h
    ·exact Or.inr ⟨b, h, Nat.le_trans HB.out.size hb⟩
   ·exact (Boxed.set _ (show Boxed w5 Bo 108 v from BKo5.out))
end Go.Proofs.Ytifkldehbaphgaa.PAll
end
section
namespace Go.Proofs.Ytifkldehbaphgaa.PAll
open Go.RowKit Go.PW.PrintWords Go.PW.PrintLast Go.PW.PrintMore
attribute [local go_sem] Oper.semAt_some
theorem catM_append {α β : Type} (f : α → Option (List β)) : ∀ (a b : List α) (ys zs : List β), catM f a = some ys → catM f b = some zs → catM f (a ++ b) = some (ys ++ zs)
 | [], b, ys, zs, h1, h2 => by simp [catM] at h1; subst h1; simpa using h2
 | x :: a, b, ys, zs, h1, h2 => by
  simp only [catM, Option.bind_eq_some_iff] at h1
  obtain ⟨y, hy, r, hr, e⟩ := h1
  obtain rfl := Option.some.inj e
  simp only [List.cons_append, catM, hy, catM_append f a b r zs hr h2, Option.bind_some, List.append_assoc]
theorem catM_mem {α β : Type} (f : α → Option (List β)) : ∀ (a : List α) (ys : List β), catM f a = some ys → ∀ x ∈ a, ∃ y, f x = some y
 | x :: a, ys, h, z, hz => by
  simp only [catM, Option.bind_eq_some_iff] at h
  obtain ⟨y, hy, r, hr, e⟩ := h
  rcases List.mem_cons.1 hz with rfl | hz
  ·exact ⟨y, hy⟩
  ·exact catM_mem f a r hr z hz
theorem catM_len {α β : Type} (f : α → Option (List β)) (m : Nat) (hf : ∀ x y, f x = some y → y.length ≤ m) : ∀ (a : List α) (ys : List β), catM f a = some ys → ys.length ≤ a.length * m
 | [], ys, h => by simp [catM] at h; subst h; simp
 | x :: a, ys, h => by
  simp only [catM, Option.bind_eq_some_iff] at h
  obtain ⟨y, hy, r, hr, e⟩ := h
  obtain rfl := Option.some.inj e
  have h1 := hf x y hy
  have h2 := catM_len f m hf a r hr
  simp only [List.length_append, List.length_cons]
  rw [Nat.add_mul]
  omega
theorem colsS_len (d : Nat) (hd : d ≤ 5) : (colsS d).length ≤ 120 := by
 match d, hd with
 | 0, _ => decide +kernel
 | 1, _ => decide +kernel
 | 2, _ => decide +kernel
 | 3, _ => decide +kernel
 | 4, _ => decide +kernel
 | 5, _ => decide +kernel
theorem collT_len (K : Nat) (p0 : Int) (rules : List ByteArray) (d : Nat) (hd : d ≤ 5) : ∀ (n k : Nat) (t : S78) (ys : List S78), collT K p0 rules d n k t = some ys → ys.length ≤ 120 ^ n
 | 0, k, t, ys, h => by
  simp only [collT, Option.bind_eq_some_iff] at h
  obtain ⟨b, hb, e⟩ := h
  obtain rfl := Option.some.inj e
  cases b <;> simp
 | n + 1, k, t, ys, h => by
  have h1 := catM_len _ (120 ^ n) (fun x y hy => collT_len K p0 rules d hd n (k + 1) _ y hy) _ _ h
  have h2 := Nat.mul_le_mul_right (120 ^ n) (colsS_len d hd)
  rw [Nat.pow_succ, Nat.mul_comm (120 ^ n)]
  omega
theorem blk_own {B i : Nat} {W W' : World} {row : Option Nat} {c : Array Value} {e : TypeId} {fz : Nat × Nat} (h : W.heap[i]? = some (.cells c e fz)) (hg : W.grownBy W' row) (hr : ∀ r, row = some r → B ≤ r ∧ ∃ o : Obj, W.heap[r]? = some o ∧ o.isCells = false) : W'.heap[i]? = some (.cells c e fz) :=
 (hg.block i (blk_lt h) (fun e' => by obtain ⟨_, o, ho, hc⟩ := hr i e'.symm; rw [h] at ho; cases ho; cases hc)).trans h
theorem St.own {w0 W W' : World} {Bo B : Nat} {v : Value} {xs : List S78} {row : Option Nat} (h : St w0 Bo W v xs) (hB : w0.heap.size ≤ B) (hg : W.grownBy W' row) (hr : ∀ r, row = some r → B ≤ r ∧ ∃ o : Obj, W.heap[r]? = some o ∧ o.isCells = false) : St w0 Bo W' v xs :=
 ⟨blk_own h.box hg hr, Kd.R_grown2 h.row rfl hg (fun k e e' => by
  obtain ⟨_, o, ho, hc⟩ := hr k e
  obtain ⟨cells, hcell⟩ := Kd.R_typed h.row k e'.symm
  rw [hcell] at ho; cases ho; cases hc), h.below.grown hg h.below.size (fun k e => Nat.le_trans hB (hr k e).1)⟩
theorem KeepOf.own {W0 W W' : World} {Bo B : Nat} {o : Option Nat} {row : Option Nat} (h : KeepOf Bo o W0 W) (hB : W0.heap.size ≤ B) (hg : W.grownBy W' row) (hr : ∀ r, row = some r → B ≤ r ∧ ∃ o : Obj, W.heap[r]? = some o ∧ o.isCells = false) : KeepOf Bo o W0 W' :=
 ⟨hg.os.trans h.os, hg.tape.trans h.tape, hg.output.trans h.output, Nat.le_trans h.size hg.size, fun i hi h1 h2 => (hg.block i (Nat.lt_of_lt_of_le hi h.size) (fun e => by have := (hr i e.symm).1; omega)).trans (h.same i hi h1 h2)⟩
theorem KT.putObj {B : Nat} (W : World) (l : Nat) (o o' : Obj) (_ : B ≤ l) (h : W.heap[l]? = some o) (hc : o.isCells = false) (_ : o.isWalk = false) : KT W (W.putObj l o') := by
 have hg := grownBy_putObj' W l o'
 exact ⟨hg.os, hg.tape, hg.output, hg.size, fun k c e fz hk _ _ => (hg.block k (blk_lt hk) (fun e' => by cases e'; rw [hk] at h; cases h; cases hc)).trans hk⟩
structure LpI (K : Nat) (p0 : Int) (rules : List ByteArray) (d : Nat) (w0 : World) (Bo : Nat) (t : S78) (n k : Nat) (v : Value) (xs : List S78) (W0 : World) (gt gk : Nat) (pre : List S75) (W : World) (ys : List S78) (v' : Value) (cc : S75) : Prop where
 cat : catM (fun c => collT K p0 rules d n (k + 1) (setCol t k c)) pre = some ys
 st : St w0 Bo W v' (xs ++ ys)
 keep : KeepOf Bo v.ownBlock W0 W
 own : v'.ownBlock = v.ownBlock ∨ ∃ b, v'.ownBlock = some b ∧ W0.heap.size ≤ b
 tab : W.heap[gt]? = some (.cells (cellsTab (setCol t k cc)).toArray 78 (0, 0))
 ne : some gt ≠ v'.ownBlock
 num : W.heap[gk]? = some (.cells #[.int .i64 (k : Int)] 3 (0, 0))
theorem LpI.moved {K : Nat} {p0 : Int} {rules : List ByteArray} {d : Nat} {w0 : World} {Bo : Nat} {t : S78} {n k : Nat} {v : Value} {xs : List S78} {W0 : World} {gt gk : Nat} {pre : List S75} {W : World} {ys : List S78} {v' : Value} {cc : S75} {B : Nat} {W' : World} {row : Option Nat}
  (h : LpI K p0 rules d w0 Bo t n k v xs W0 gt gk pre W ys v' cc) (hB : w0.heap.size ≤ B) (hB' : W0.heap.size ≤ B) (hg : W.grownBy W' row) (hr : ∀ r, row = some r → B ≤ r ∧ ∃ o : Obj, W.heap[r]? = some o ∧ o.isCells = false) :
  LpI K p0 rules d w0 Bo t n k v xs W0 gt gk pre W' ys v' cc := ⟨h.cat, h.st.own hB hg hr, h.keep.own hB' hg hr, h.own, blk_own h.tab hg hr, h.ne, blk_own h.num hg hr⟩
theorem one_grown (W : World) (g i : Nat) (u : Value) : W.grownBy (W.setCell ⟨g, i, none⟩ u) (some g) :=
 ⟨rfl, rfl, rfl, (KeepsWalks.setCell W _ u).size, fun k _ hk => Below.heap_setCell _ _ _ k (fun e => hk (by rw [e]))⟩
theorem two_grown {A B C : World} {r : Option Nat} (h : A.grownBy B r) (g : B.grownBy C r) : A.grownBy C r :=
 ⟨g.os.trans h.os, g.tape.trans h.tape, g.output.trans h.output, Nat.le_trans h.size g.size, fun k hk hr => (g.block k (Nat.lt_of_lt_of_le hk h.size) hr).trans (h.block k hk hr)⟩
theorem five_grown (W : World) (g i j k l m : Nat) (u0 u1 u2 u3 u4 : Value) : W.grownBy (((((W.setCell ⟨g, i, none⟩ u0).setCell ⟨g, j, none⟩ u1).setCell ⟨g, k, none⟩ u2).setCell ⟨g, l, none⟩ u3).setCell ⟨g, m, none⟩ u4) (some g) :=
 two_grown (two_grown (two_grown (two_grown (one_grown _ _ _ _) (one_grown _ _ _ _)) (one_grown _ _ _ _)) (one_grown _ _ _ _)) (one_grown _ _ _ _)
theorem blk_ty {W : World} {i : Nat} {a b : Array Value} {e e' : TypeId} {f f' : Nat × Nat} (h : W.heap[i]? = some (.cells a e f)) (g : W.heap[i]? = some (.cells b e' f')) : e = e' := by
 rw [h] at g; cases g; rfl
theorem round_keeps {w0 W' W4 W5 : World} {Bo gt : Nat} {v' : Value} {xs : List S78} {ct : Array Value} (hS : St w0 Bo W' v' xs) (ht : W'.heap[gt]? = some (.cells ct 78 (0, 0))) (hg4 : W'.grownBy W4 (some gt)) (hk : KeepOf Bo v'.ownBlock W4 W5)
  (i : Nat) (o : Obj) (hi : W'.heap[i]? = some o) (ho : ∀ c e f, o = .cells c e f → e ≠ 78 ∧ e ≠ 108) : W5.heap[i]? = some o := by
 have h1 : i ≠ gt := fun e => by subst e; rw [ht] at hi; cases hi; exact (ho _ _ _ rfl).1 rfl
 have h2 : i ≠ Bo := fun e => by subst e; rw [hS.box] at hi; cases hi; exact (ho _ _ _ rfl).2 rfl
 have h3 : some i ≠ v'.ownBlock := fun e => by
  obtain ⟨cells, hcell⟩ := Kd.R_typed hS.row i e.symm
  rw [hcell] at hi; cases hi; exact (ho _ _ _ rfl).1 rfl
 rw [hk.same i (Nat.lt_of_lt_of_le (blk_lt hi) hg4.size) h2 h3, hg4.block i (blk_lt hi) (fun e => h1 (by cases e; rfl)), hi]
theorem KeepOf.far {W0 W W' : World} {Bo g : Nat} {o : Option Nat} (h : KeepOf Bo o W0 W) (hg : W.grownBy W' (some g)) (hl : W0.heap.size ≤ g) : KeepOf Bo o W0 W' :=
 ⟨hg.os.trans h.os, hg.tape.trans h.tape, hg.output.trans h.output, Nat.le_trans h.size hg.size, fun i hi h1 h2 => (hg.block i (Nat.lt_of_lt_of_le hi h.size) (fun e => by cases e; omega)).trans (h.same i hi h1 h2)⟩
theorem St.far {w0 W W' : World} {Bo g : Nat} {v : Value} {xs : List S78} (h : St w0 Bo W v xs) (hg : W.grownBy W' (some g)) (hl : w0.heap.size ≤ g) (h1 : Bo ≠ g) (h2 : some g ≠ v.ownBlock) : St w0 Bo W' v xs :=
 ⟨(hg.block Bo (blk_lt h.box) (fun e => h1 (by cases e; rfl))).trans h.box, Kd.R_grown2 h.row rfl hg (fun k e => by cases e; exact h2), h.below.grown hg h.below.size (fun k e => by cases e; exact hl)⟩
theorem keep_env {w0 W W' : World} {Bo i : Nat} {v : Value} {xs : List S78} {c : Array Value} {e : TypeId} {fz : Nat × Nat} (h : St w0 Bo W v xs) (hk : KeepOf Bo v.ownBlock W W') (hi : W.heap[i]? = some (.cells c e fz)) (h1 : e ≠ 108) (h2 : e ≠ 78) : W'.heap[i]? = some (.cells c e fz) :=
 (hk.same i (blk_lt hi) (fun e' => by subst e'; rw [h.box] at hi; cases hi; exact h1 rfl) (fun e' => by
  obtain ⟨cells, hcell⟩ := Kd.R_typed h.row i e'.symm
  rw [hcell] at hi; cases hi; exact h2 rfl)).trans hi
theorem setCol_self (t : S78) (k : Nat) : ∃ c, setCol t k c = t := by
 unfold setCol
 by_cases h : k = 0
 ·exact ⟨t.f2.f0, by simp [h]⟩
 ·exact ⟨t.f2.f1, by simp [h]⟩
set_option maxHeartbeats 16000000 in
theorem tabs_any (K : Nat) (p0 : Int) (A : Option Addr) (c : Nat) (rules : List ByteArray) (d : Nat) (hd1 : 1 ≤ d) (hd : d ≤ 5) (w0 : World) (Bp Bo Bd Be : Nat) (hC : Kd.C Kd.string w0 A rules.length rules) (hc : rules.length ≤ c) (hBo0 : w0.heap.size ≤ Bo) :
  ∀ (n k : Nat) (t : S78) (v : Value) (xs ys : List S78) (W : World), t.f0 = ((k + n : Nat) : Int) → k + n ≤ 2 → St w0 Bo W v xs → W.heap[Bp]? = some (.cells #[.int .i64 p0, .slice A rules.length c] 55 (0, 0)) →
   W.heap[Bd]? = some (.cells #[.int .i64 (d : Int)] 3 (0, 0)) → W.heap[Be]? = some (.cells #[.func (.func 93) #[] #[.pointer (some ⟨Bp, 0, none⟩), .pointer (some ⟨Bo, 0, none⟩), .pointer (some ⟨Bd, 0, none⟩), .pointer (some ⟨Be, 0, none⟩)]] 127 (0, 0)) →
   xs.length + 120 ^ n ≤ 1000000 → collT K p0 rules d n k t = some ys →
   Calls Try.prog 93 #[.agg (cellsTab t).toArray, .int .i64 (k : Int), .pointer (some ⟨Bp, 0, none⟩), .pointer (some ⟨Bo, 0, none⟩), .pointer (some ⟨Bd, 0, none⟩), .pointer (some ⟨Be, 0, none⟩)] W (TabsR w0 Bo v W (xs ++ ys)) := by
 intro n
 induction n with
 | zero =>
  intro k t v xs ys W hg hk hS hBp hBd hBe hN hq
  exact tabs_base K p0 A c rules d w0 Bp Bo Bd Be hC hc t k v xs ys W (by simpa using hg) hS hBp (by simp at hN; omega) hBo0 hq
 | succ n ih =>
  intro k t0 v xs ys W hg hk2 hS hBp hBd hBe hN hq
  have hTE : cellsTab t0 = cellsTab t0 := rfl
  obtain ⟨t, ht⟩ : ∃ t, t = t0 := ⟨t0, rfl⟩
  obtain ⟨g, d1, ⟨⟨a0, a1, a2, a3, a4⟩, ⟨b0, b1, b2, b3, b4⟩⟩⟩ := t0
  have hgl : ((k : Int) == g) = false := by
   have : g = ((k + (n + 1) : Nat) : Int) := hg
   rw [this]; simp; omega
  have hne : some Bo ≠ v.ownBlock := by
   intro e
   obtain ⟨cells, hcell⟩ := Kd.R_typed hS.row Bo e.symm
   rw [hS.box] at hcell
   cases hcell
  have HT := a_ ht
  have HS := a_ hS
  have HC := a_ hC
  have Hc := a_ hc
  have HN := a_ hN
  have Hne := a_ hne
  have HBp := a_ hBp
  have HBd := a_ hBd
  have HBe := a_ hBe
  have Hq := a_ hq
  have Hg := a_ hg
  have Hk2 := a_ hk2
  have IH := a_ ih
  clear hS hC hc hN hne hBp hBd hBe hq hg hk2 ih ht hTE
  simp only [cellsTab]
  refine callsIn_wide.1 (callsIn_of_wp_marks (F := Fence.wide) (n := 5) Try.func93 rfl trivial ?_ rfl)
  simp only [Try.ntmps93, List.size_toArray, List.length_cons, List.length_nil, Nat.reduceAdd, Nat.reduceSub, Array.replicate_succ, Array.replicate_zero, List.push_toArray, List.append_toArray, List.nil_append, List.cons_append]
  refine wpIn_wide.2 ?_
  go_wp2_with (first | ((with_reducible refine gate_dst (N := 6) rfl ?_); refine box_event ?hg (N := 6) ?hd (cs := #[.int .i64 g, .int .i64 d1, .int .i64 a0, .int .i64 a1, .int .i64 a2, .int .i64 a3, .int .i64 a4, .int .i64 b0, .int .i64 b1, .int .i64 b2, .int .i64 b3, .int .i64 b4]) (t := 78) ?hr ?_; (case hd => rfl); (case hg => rfl); (case hr => first | (go_simp; done) | (go_simp; rfl)); intro gt hg w1 hbox hb; have n0_ := a_ hb; have n1_ := a_ hbox; have n2_ := a_ (show W.heap.size ≤ gt by rw [hg]; exact Nat.le_refl _); have n3_ := a_ (blk_lt hbox); clear hg hb hbox; have HB1 := n0_; have BKt1 := n1_; have GT := n2_; have GTl := n3_; clear n0_ n1_ n2_ n3_; obtain ⟨hu0, hu1, hu2, hu3, hu4, hu5, hu6, hu7, hu8, hu9, hu10, hu11⟩ := cs12 BKt1.out) | ((with_reducible refine gate_dst (N := 7) rfl ?_); refine box_event ?hg (N := 7) ?hd (cs := #[.int .i64 (k : Int)]) (t := 3) ?hr ?_; (case hd => rfl); (case hg => rfl); (case hr => first | (go_simp; done) | (go_simp; rfl)); intro gk hg w2 hbox hb; have n0_ := a_ (HB1.out.trans (hb.mono HB1.out.size)); have n1_ := a_ hbox; have n2_ := a_ (kB_ BKt1.out hb); have n3_ := a_ (show w1.heap.size ≤ gk by rw [hg]; exact Nat.le_refl _); have n5_ := a_ (kB_ HBd.out n0_.out); clear HB1 BKt1 hg hb hbox; have HB := n0_; have BKk := n1_; have BKt := n2_; have GK := n3_; have BKd := n5_; clear n0_ n1_ n2_ n3_ n5_; have hk1 : w2.cell? ⟨gk, 0, none⟩ = some (.int .i64 (k : Int)) := (kc_ BKk.out 0).trans rfl; have hdd1 : w2.cell? ⟨Bd, 0, none⟩ = some (.int .i64 (d : Int)) := (kc_ BKd.out 0).trans rfl; obtain ⟨hv0, hv1, hv2, hv3, hv4, hv5, hv6, hv7, hv8, hv9, hv10, hv11⟩ := cs12 BKt.out) | ((with_reducible refine gate_callee (f := 95) rfl ?_); refine goesL_ (some 25) rfl rfl Try.func95 (by kernel_rfl) rfl #[.int .i64 (d : Int)] rfl (by (try simp only [List.map_toArray, List.map_cons, List.map_nil]); first | done | rfl) ?_; (with_reducible refine (columns_any (d : Int) w2).mono ?_); rintro e w3 ⟨rfl, rfl⟩; refine ⟨_, rfl, ?_⟩; skip))
  refine (wpIn_wide (n := 5)).1 ?_
  obtain ⟨W3, hW3⟩ : ∃ W3, w2.alloc (Obj.cells #[.int .i64 (d : Int)] 3) = W3 := ⟨_, rfl⟩
  have hb3 : Below W.heap.size W W3 := by rw [← hW3]; exact bA_ HB.out _
  have hb23 : Below w2.heap.size w2 W3 := by rw [← hW3]; exact bA_ (Below.refl _ _) _
  have hBd3 : W3.heap[w2.heap.size]? = some (.cells #[.int .i64 (d : Int)] 3 (0, 0)) := by rw [← hW3]; exact World.alloc_heap_new _ _
  rw [hW3]
  obtain ⟨cc0, hcc0⟩ := setCol_self t k
  have hct : cellsTab t = [.int .i64 g, .int .i64 d1, .int .i64 a0, .int .i64 a1, .int .i64 a2, .int .i64 a3, .int .i64 a4, .int .i64 b0, .int .i64 b1, .int .i64 b2, .int .i64 b3, .int .i64 b4] := by rw [HT.out]; rfl
  refine wpIn_rangeFunc_ownH (α := {c // c ∈ colsS d}) rfl (by omega) (gf := 100) (lb := #[.pointer (some ⟨w2.heap.size, 0, none⟩)]) rfl trivial (enters_of Try.func100 (by kernel_rfl) rfl)
   (cols_stops d hd1 hd w2.heap.size 4 120 W3 hBd3 (colsS_len d hd)) KT.trans KT.putObj (Below.refl _ _) (fun _ => rfl)
   (fun pre W' => ∃ ys v' cc, LpI K p0 rules d w0 Bo t n k v xs W gt gk (pre.map Subtype.val) W' ys v' cc)
   (fun _ _ _ => False)
   ?own (fun _ _ _ _ _ hs _ _ => hs) ?start
   (fun x a' W' => ∃ Bx, W'.heap[Bx]? = some (.cells (cellsCol x.1).toArray 75 (0, 0)) ∧ a' = { tmps := #[.agg #[.int .i64 g, .int .i64 d1, .int .i64 a0, .int .i64 a1, .int .i64 a2, .int .i64 a3, .int .i64 a4, .int .i64 b0, .int .i64 b1, .int .i64 b2, .int .i64 b3, .int .i64 b4], .int .i64 (k : Int), .pointer (some ⟨Bp, 0, none⟩), .pointer (some ⟨Bo, 0, none⟩), .pointer (some ⟨Bd, 0, none⟩), .pointer (some ⟨Be, 0, none⟩), .pointer (some ⟨gt, 0, none⟩), .pointer (some ⟨gk, 0, none⟩), .pointer (some ⟨Bx, 0, none⟩), .int .i64 (k : Int), .pointer (some ⟨gt, 0, none⟩), .int .i64 g, .bool false, undef, undef, undef, undef, undef, undef, undef, undef, undef, undef, undef, .int .i64 (d : Int), .func (.func 100) #[] #[.pointer (some ⟨w2.heap.size, 0, none⟩)], .agg (cellsCol x.1).toArray, undef, undef, undef, undef, undef, undef, undef, undef, undef], defers := [] })
   ?ax ?assign ?body ?done ?stop
  case own =>
   rintro pre X Y row ⟨ys', v', cc, h⟩ hg hr
   exact ⟨ys', v', cc, h.moved (Nat.le_trans HS.out.below.size hb3.size) hb3.size hg hr⟩
  case start =>
   refine ⟨[], v, cc0, rfl, by rw [List.append_nil]; exact HS.out.move hb3, KeepOf.of_below hb3, Or.inl rfl, ?_, ?_, kB_ BKk.out hb23⟩
   ·rw [hcc0, hct]
    exact kB_ BKt.out hb23
   ·intro e
    obtain ⟨cells, hcell⟩ := Kd.R_typed HS.out.row gt e.symm
    have h1 := blk_lt hcell
    have h2 := GT.out
    omega
  case ax =>
   rintro x a' _ X Y row ⟨Bx, h1, h3⟩ hg hr
   exact ⟨Bx, blk_own h1 hg hr, h3⟩
  case stop =>
   rintro D c pre W _ _ h _
   exact h.elim
  case done =>
   rintro D zs W' hD rfl ⟨ys', v', cc, h⟩ hK
   gi_wp2
   refine ⟨by simp, .inl ⟨_, _, rfl, run_takeDeferred hK, ?_⟩⟩
   have hgr := grownBy_putObj' W' D (Obj.deferred none)
   have hrr : ∀ r, some D = some r → W3.heap.size ≤ r ∧ ∃ o : Obj, W'.heap[r]? = some o ∧ o.isCells = false := fun r e => by cases e; exact ⟨hD, _, hK, rfl⟩
   have hzs : ys' = ys := by
    have h1 := h.cat
    rw [List.attach_map_subtype_val, HT.out] at h1
    exact Option.some.inj (h1.symm.trans Hq.out)
   subst hzs
   refine ⟨_, results_none rfl _ _ _, rfl, v', h.st.own (Nat.le_trans HS.out.below.size hb3.size) hgr hrr, h.keep.own hb3.size hgr hrr, h.own⟩
  case assign =>
   rintro l pre ⟨⟨x0, x1, x2, x3, x4⟩, hx⟩ W' Kk ⟨ys', v', cc, h⟩ hK
   simp only [cellsCol]
   gi_wp2
   exact hK _ _ ((KeepsOthers.alloc _ _).from _) (KT.of_below (bA_ (Below.refl _ _) _)) ⟨ys', v', cc, h.moved (Nat.le_trans HS.out.below.size hb3.size) hb3.size (World.grownBy_alloc _ _ none) (fun r e => by cases e)⟩ ⟨W'.heap.size, World.alloc_heap_new _ _, rfl⟩
  case body =>
   rintro l pre ⟨⟨x0, x1, x2, x3, x4⟩, hx⟩ a' W' hl ⟨r, hr⟩ ⟨ys', v', cc, h⟩ ⟨Bx, hBx, rfl⟩ hlt
   simp only [cellsCol] at hBx ⊢
   have hx0 : W'.cell? ⟨Bx, 0, none⟩ = some (.int .i64 x0) := (kc_ hBx 0).trans rfl
   have hx1 : W'.cell? ⟨Bx, 1, none⟩ = some (.int .i64 x1) := (kc_ hBx 1).trans rfl
   have hx2 : W'.cell? ⟨Bx, 2, none⟩ = some (.int .i64 x2) := (kc_ hBx 2).trans rfl
   have hx3 : W'.cell? ⟨Bx, 3, none⟩ = some (.int .i64 x3) := (kc_ hBx 3).trans rfl
   have hx4 : W'.cell? ⟨Bx, 4, none⟩ = some (.int .i64 x4) := (kc_ hBx 4).trans rfl
   have hkc : W'.cell? ⟨gk, 0, none⟩ = some (.int .i64 (k : Int)) := (kc_ h.num 0).trans rfl
   have Ht := a_ h.tab
   have Hh := a_ h
   clear h
   obtain rfl | rfl : k = 0 ∨ k = 1 := by have := Hk2.out; omega
   ·have ht' := Ht.out
    rw [HT.out] at ht'
    have hz0 : W'.cell? ⟨gt, 0, none⟩ = some (.int .i64 g) := (kc_ ht' 0).trans rfl
    have hf0 := kf_ ht' 0
    have hz1 : W'.cell? ⟨gt, 1, none⟩ = some (.int .i64 d1) := (kc_ ht' 1).trans rfl
    have hf1 := kf_ ht' 1
    have hz2 : W'.cell? ⟨gt, 2, none⟩ = some (.int .i64 cc.f0) := (kc_ ht' 2).trans rfl
    have hf2 := kf_ ht' 2
    have hz3 : W'.cell? ⟨gt, 3, none⟩ = some (.int .i64 cc.f1) := (kc_ ht' 3).trans rfl
    have hf3 := kf_ ht' 3
    have hz4 : W'.cell? ⟨gt, 4, none⟩ = some (.int .i64 cc.f2) := (kc_ ht' 4).trans rfl
    have hf4 := kf_ ht' 4
    have hz5 : W'.cell? ⟨gt, 5, none⟩ = some (.int .i64 cc.f3) := (kc_ ht' 5).trans rfl
    have hf5 := kf_ ht' 5
    have hz6 : W'.cell? ⟨gt, 6, none⟩ = some (.int .i64 cc.f4) := (kc_ ht' 6).trans rfl
    have hf6 := kf_ ht' 6
    have hz7 : W'.cell? ⟨gt, 7, none⟩ = some (.int .i64 b0) := (kc_ ht' 7).trans rfl
    have hf7 := kf_ ht' 7
    have hz8 : W'.cell? ⟨gt, 8, none⟩ = some (.int .i64 b1) := (kc_ ht' 8).trans rfl
    have hf8 := kf_ ht' 8
    have hz9 : W'.cell? ⟨gt, 9, none⟩ = some (.int .i64 b2) := (kc_ ht' 9).trans rfl
    have hf9 := kf_ ht' 9
    have hz10 : W'.cell? ⟨gt, 10, none⟩ = some (.int .i64 b3) := (kc_ ht' 10).trans rfl
    have hf10 := kf_ ht' 10
    have hz11 : W'.cell? ⟨gt, 11, none⟩ = some (.int .i64 b4) := (kc_ ht' 11).trans rfl
    have hf11 := kf_ ht' 11
    have HT' := a_ ht'
    clear ht'
    gi_upto_region 7 with (fail)
    obtain ⟨W4, hW4⟩ : ∃ W4, (((((W'.setCell ⟨gt, 2, none⟩ (.int .i64 x0)).setCell ⟨gt, 3, none⟩ (.int .i64 x1)).setCell ⟨gt, 4, none⟩ (.int .i64 x2)).setCell ⟨gt, 5, none⟩ (.int .i64 x3)).setCell ⟨gt, 6, none⟩ (.int .i64 x4)) = W4 := ⟨_, rfl⟩
    have hb4 : W4.heap[gt]? = some (.cells (cellsTab (setCol t 0 ⟨x0, x1, x2, x3, x4⟩)).toArray 78 (0, 0)) := by rw [← hW4, HT.out]; exact ((blk_set (blk_set (blk_set (blk_set (blk_set HT'.out 2 _) 3 _) 4 _) 5 _) 6 _)).trans rfl
    have hg4 : W'.grownBy W4 (some gt) := by rw [← hW4]; exact five_grown W' gt 2 3 4 5 6 _ _ _ _ _
    rw [hW4]
    clear hW4 hz0 hf0 hz1 hf1 hz2 hf2 hz3 hf3 hz4 hf4 hz5 hf5 hz6 hf6 hz7 hf7 hz8 hf8 hz9 hf9 hz10 hf10 hz11 hf11 hx0 hx1 hx2 hx3 hx4 hBx
    have hne4 : Bo ≠ gt := fun e => by have h1 := Hh.out.st.box; have h2 := Hh.out.tab; rw [e] at h1; exact absurd (blk_ty h1 h2) (by decide)
    have he4 := keep_env HS.out (Hh.out.keep) HBe.out (by decide) (by decide)
    have hp4 := keep_env HS.out (Hh.out.keep) HBp.out (by decide) (by decide)
    have hd4 := keep_env HS.out (Hh.out.keep) HBd.out (by decide) (by decide)
    have he5 : W4.heap[Be]? = some (.cells #[.func (.func 93) #[] #[.pointer (some ⟨Bp, 0, none⟩), .pointer (some ⟨Bo, 0, none⟩), .pointer (some ⟨Bd, 0, none⟩), .pointer (some ⟨Be, 0, none⟩)]] 127 (0, 0)) := (hg4.block Be (blk_lt he4) (fun e => by cases e; exact absurd (blk_ty Hh.out.tab he4) (by decide))).trans he4
    have hp5 : W4.heap[Bp]? = some (.cells #[.int .i64 p0, .slice A rules.length c] 55 (0, 0)) := (hg4.block Bp (blk_lt hp4) (fun e => by cases e; exact absurd (blk_ty Hh.out.tab hp4) (by decide))).trans hp4
    have hd5 : W4.heap[Bd]? = some (.cells #[.int .i64 (d : Int)] 3 (0, 0)) := (hg4.block Bd (blk_lt hd4) (fun e => by cases e; exact absurd (blk_ty Hh.out.tab hd4) (by decide))).trans hd4
    have hn4 : W4.heap[gk]? = some (.cells #[.int .i64 0] 3 (0, 0)) := (hg4.block gk (blk_lt Hh.out.num) (fun e => by cases e; exact absurd (blk_ty Hh.out.tab Hh.out.num) (by decide))).trans Hh.out.num
    obtain ⟨ya, hya⟩ := catM_mem _ _ _ (show catM (fun c => collT K p0 rules d n (0 + 1) (setCol t 0 c)) (colsS d) = some ys by rw [HT.out]; exact Hq.out) ⟨x0, x1, x2, x3, x4⟩ hx
    have hcat := catM_append _ (pre.map Subtype.val) [⟨x0, x1, x2, x3, x4⟩] ys' ya Hh.out.cat (by show (collT K p0 rules d n (0 + 1) (setCol t 0 ⟨x0, x1, x2, x3, x4⟩)).bind _ = _; rw [hya]; simp [catM])
    have hlen : xs.length + ys'.length + 120 ^ n ≤ 1000000 := by
     have h1 := catM_len _ (120 ^ n) (fun x y hy => collT_len K p0 rules d hd n (0 + 1) _ y hy) _ _ Hh.out.cat
     have h2 := Nat.mul_le_mul_right (120 ^ n) (show (pre.map Subtype.val).length + 1 ≤ 120 by simp; omega)
     have h3 := HN.out
     rw [Nat.add_mul, Nat.one_mul] at h2
     rw [Nat.pow_succ, Nat.mul_comm] at h3
     omega
    have hlt0 : w0.heap.size ≤ gt := Nat.le_trans HS.out.below.size GT.out
    have hcall : Calls Try.prog 93 #[.agg #[.int .i64 g, .int .i64 d1, .int .i64 x0, .int .i64 x1, .int .i64 x2, .int .i64 x3, .int .i64 x4, .int .i64 b0, .int .i64 b1, .int .i64 b2, .int .i64 b3, .int .i64 b4], .int .i64 (0 + 1), .pointer (some ⟨Bp, 0, none⟩), .pointer (some ⟨Bo, 0, none⟩), .pointer (some ⟨Bd, 0, none⟩), .pointer (some ⟨Be, 0, none⟩)] W4 (TabsR w0 Bo v' W4 ((xs ++ ys') ++ ya)) := by
     have h := IH.out (0 + 1) (setCol t 0 ⟨x0, x1, x2, x3, x4⟩) v' (xs ++ ys') ya W4 (by rw [HT.out]; have h := Hg.out; show g = _; rw [h]; congr 1; omega) (by have := Hk2.out; omega) (Hh.out.st.far hg4 hlt0 hne4 Hh.out.ne) hp5 hd5 he5 (by simpa using hlen) hya
     rw [HT.out] at h
     exact h
    have hec : W4.cell? ⟨Be, 0, none⟩ = some (.func (.func 93) #[] #[.pointer (some ⟨Bp, 0, none⟩), .pointer (some ⟨Bo, 0, none⟩), .pointer (some ⟨Bd, 0, none⟩), .pointer (some ⟨Be, 0, none⟩)]) := (kc_ he5 0).trans rfl
    clear hkc
    have hkc : W4.cell? ⟨gk, 0, none⟩ = some (.int .i64 0) := (kc_ hn4 0).trans rfl
    have hy0 : W4.cell? ⟨gt, 0, none⟩ = some (.int .i64 g) := by have h := hb4; rw [HT.out] at h; exact (kc_ h 0).trans rfl
    have hy1 : W4.cell? ⟨gt, 1, none⟩ = some (.int .i64 d1) := by have h := hb4; rw [HT.out] at h; exact (kc_ h 1).trans rfl
    have hy2 : W4.cell? ⟨gt, 2, none⟩ = some (.int .i64 x0) := by have h := hb4; rw [HT.out] at h; exact (kc_ h 2).trans rfl
    have hy3 : W4.cell? ⟨gt, 3, none⟩ = some (.int .i64 x1) := by have h := hb4; rw [HT.out] at h; exact (kc_ h 3).trans rfl
    have hy4 : W4.cell? ⟨gt, 4, none⟩ = some (.int .i64 x2) := by have h := hb4; rw [HT.out] at h; exact (kc_ h 4).trans rfl
    have hy5 : W4.cell? ⟨gt, 5, none⟩ = some (.int .i64 x3) := by have h := hb4; rw [HT.out] at h; exact (kc_ h 5).trans rfl
    have hy6 : W4.cell? ⟨gt, 6, none⟩ = some (.int .i64 x4) := by have h := hb4; rw [HT.out] at h; exact (kc_ h 6).trans rfl
    have hy7 : W4.cell? ⟨gt, 7, none⟩ = some (.int .i64 b0) := by have h := hb4; rw [HT.out] at h; exact (kc_ h 7).trans rfl
    have hy8 : W4.cell? ⟨gt, 8, none⟩ = some (.int .i64 b1) := by have h := hb4; rw [HT.out] at h; exact (kc_ h 8).trans rfl
    have hy9 : W4.cell? ⟨gt, 9, none⟩ = some (.int .i64 b2) := by have h := hb4; rw [HT.out] at h; exact (kc_ h 9).trans rfl
    have hy10 : W4.cell? ⟨gt, 10, none⟩ = some (.int .i64 b3) := by have h := hb4; rw [HT.out] at h; exact (kc_ h 10).trans rfl
    have hy11 : W4.cell? ⟨gt, 11, none⟩ = some (.int .i64 b4) := by have h := hb4; rw [HT.out] at h; exact (kc_ h 11).trans rfl
    have HCALL := a_ hcall
    have HB4 := a_ hb4
    have HG4 := a_ hg4
    have HCAT := a_ hcat
    have HNE4 := a_ hne4
    have HN4 := a_ hn4
    have HLT0 := a_ hlt0
    clear hcall hb4 hg4 hcat hne4 hn4 he4 hp4 hd4 he5 hp5 hd5 hya hlen hlt0 hb3 hb23 hBd3 hW3 hct hcc0
    gi_wp2
    refine ⟨trivial, (CallsIn.inRound l (callsIn_wide.2 HCALL.out)).mono ?_⟩
    rintro e W5 ⟨rfl, v5, hS5, hK5, hO5⟩
    gi_wp2
    have hgl4 := blk_lt HB4.out
    have hs4 := HG4.out.size
    have hs0 := Hh.out.keep.size
    refine ⟨⟨Nat.le_trans hs4 hK5.size, fun i o _ hi ho => round_keeps Hh.out.st Hh.out.tab HG4.out hK5 i o hi (fun c e f h => by subst h; cases ho)⟩,
     ⟨hK5.os.trans HG4.out.os, hK5.tape.trans HG4.out.tape, hK5.output.trans HG4.out.output, Nat.le_trans hs4 hK5.size, fun i c e fz hi h1 h2 => round_keeps Hh.out.st Hh.out.tab HG4.out hK5 i _ hi (fun c' e' f' h => by cases h; exact ⟨h1, h2⟩)⟩,
     ys' ++ ya, v5, ⟨x0, x1, x2, x3, x4⟩, ?_, ?_, (Hh.out.keep.far HG4.out GT.out).trans hK5 Hh.out.own, ?_, ?_, ?_, ?_⟩
    ·rw [List.map_append]; exact HCAT.out
    ·rw [← List.append_assoc]; exact hS5
    ·rcases hO5 with h1 | ⟨bb, h1, h2⟩
     ·rw [h1]; exact Hh.out.own
     ·exact Or.inr ⟨bb, h1, by omega⟩
    ·exact (hK5.same gt hgl4 (fun e => HNE4.out e.symm) Hh.out.ne).trans HB4.out
    ·rcases hO5 with h1 | ⟨bb, h1, h2⟩
     ·rw [h1]; exact Hh.out.ne
     ·rw [h1]; intro e; cases e; omega
    ·exact round_keeps Hh.out.st Hh.out.tab HG4.out hK5 gk _ Hh.out.num (fun c' e' f' h => by cases h; decide)
   ·have ht' := Ht.out
    rw [HT.out] at ht'
    have hz0 : W'.cell? ⟨gt, 0, none⟩ = some (.int .i64 g) := (kc_ ht' 0).trans rfl
    have hf0 := kf_ ht' 0
    have hz1 : W'.cell? ⟨gt, 1, none⟩ = some (.int .i64 d1) := (kc_ ht' 1).trans rfl
    have hf1 := kf_ ht' 1
    have hz2 : W'.cell? ⟨gt, 2, none⟩ = some (.int .i64 a0) := (kc_ ht' 2).trans rfl
    have hf2 := kf_ ht' 2
    have hz3 : W'.cell? ⟨gt, 3, none⟩ = some (.int .i64 a1) := (kc_ ht' 3).trans rfl
    have hf3 := kf_ ht' 3
    have hz4 : W'.cell? ⟨gt, 4, none⟩ = some (.int .i64 a2) := (kc_ ht' 4).trans rfl
    have hf4 := kf_ ht' 4
    have hz5 : W'.cell? ⟨gt, 5, none⟩ = some (.int .i64 a3) := (kc_ ht' 5).trans rfl
    have hf5 := kf_ ht' 5
    have hz6 : W'.cell? ⟨gt, 6, none⟩ = some (.int .i64 a4) := (kc_ ht' 6).trans rfl
    have hf6 := kf_ ht' 6
    have hz7 : W'.cell? ⟨gt, 7, none⟩ = some (.int .i64 cc.f0) := (kc_ ht' 7).trans rfl
    have hf7 := kf_ ht' 7
    have hz8 : W'.cell? ⟨gt, 8, none⟩ = some (.int .i64 cc.f1) := (kc_ ht' 8).trans rfl
    have hf8 := kf_ ht' 8
    have hz9 : W'.cell? ⟨gt, 9, none⟩ = some (.int .i64 cc.f2) := (kc_ ht' 9).trans rfl
    have hf9 := kf_ ht' 9
    have hz10 : W'.cell? ⟨gt, 10, none⟩ = some (.int .i64 cc.f3) := (kc_ ht' 10).trans rfl
    have hf10 := kf_ ht' 10
    have hz11 : W'.cell? ⟨gt, 11, none⟩ = some (.int .i64 cc.f4) := (kc_ ht' 11).trans rfl
    have hf11 := kf_ ht' 11
    have HT' := a_ ht'
    clear ht'
    gi_upto_region 7 with (fail)
    obtain ⟨W4, hW4⟩ : ∃ W4, (((((W'.setCell ⟨gt, 7, none⟩ (.int .i64 x0)).setCell ⟨gt, 8, none⟩ (.int .i64 x1)).setCell ⟨gt, 9, none⟩ (.int .i64 x2)).setCell ⟨gt, 10, none⟩ (.int .i64 x3)).setCell ⟨gt, 11, none⟩ (.int .i64 x4)) = W4 := ⟨_, rfl⟩
    have hb4 : W4.heap[gt]? = some (.cells (cellsTab (setCol t 1 ⟨x0, x1, x2, x3, x4⟩)).toArray 78 (0, 0)) := by rw [← hW4, HT.out]; exact ((blk_set (blk_set (blk_set (blk_set (blk_set HT'.out 7 _) 8 _) 9 _) 10 _) 11 _)).trans rfl
    have hg4 : W'.grownBy W4 (some gt) := by rw [← hW4]; exact five_grown W' gt 7 8 9 10 11 _ _ _ _ _
    rw [hW4]
    clear hW4 hz0 hf0 hz1 hf1 hz2 hf2 hz3 hf3 hz4 hf4 hz5 hf5 hz6 hf6 hz7 hf7 hz8 hf8 hz9 hf9 hz10 hf10 hz11 hf11 hx0 hx1 hx2 hx3 hx4 hBx
    have hne4 : Bo ≠ gt := fun e => by have h1 := Hh.out.st.box; have h2 := Hh.out.tab; rw [e] at h1; exact absurd (blk_ty h1 h2) (by decide)
    have he4 := keep_env HS.out (Hh.out.keep) HBe.out (by decide) (by decide)
    have hp4 := keep_env HS.out (Hh.out.keep) HBp.out (by decide) (by decide)
    have hd4 := keep_env HS.out (Hh.out.keep) HBd.out (by decide) (by decide)
    have he5 : W4.heap[Be]? = some (.cells #[.func (.func 93) #[] #[.pointer (some ⟨Bp, 0, none⟩), .pointer (some ⟨Bo, 0, none⟩), .pointer (some ⟨Bd, 0, none⟩), .pointer (some ⟨Be, 0, none⟩)]] 127 (0, 0)) := (hg4.block Be (blk_lt he4) (fun e => by cases e; exact absurd (blk_ty Hh.out.tab he4) (by decide))).trans he4
    have hp5 : W4.heap[Bp]? = some (.cells #[.int .i64 p0, .slice A rules.length c] 55 (0, 0)) := (hg4.block Bp (blk_lt hp4) (fun e => by cases e; exact absurd (blk_ty Hh.out.tab hp4) (by decide))).trans hp4
    have hd5 : W4.heap[Bd]? = some (.cells #[.int .i64 (d : Int)] 3 (0, 0)) := (hg4.block Bd (blk_lt hd4) (fun e => by cases e; exact absurd (blk_ty Hh.out.tab hd4) (by decide))).trans hd4
    have hn4 : W4.heap[gk]? = some (.cells #[.int .i64 1] 3 (0, 0)) := (hg4.block gk (blk_lt Hh.out.num) (fun e => by cases e; exact absurd (blk_ty Hh.out.tab Hh.out.num) (by decide))).trans Hh.out.num
    obtain ⟨ya, hya⟩ := catM_mem _ _ _ (show catM (fun c => collT K p0 rules d n (1 + 1) (setCol t 1 c)) (colsS d) = some ys by rw [HT.out]; exact Hq.out) ⟨x0, x1, x2, x3, x4⟩ hx
    have hcat := catM_append _ (pre.map Subtype.val) [⟨x0, x1, x2, x3, x4⟩] ys' ya Hh.out.cat (by show (collT K p0 rules d n (1 + 1) (setCol t 1 ⟨x0, x1, x2, x3, x4⟩)).bind _ = _; rw [hya]; simp [catM])
    have hlen : xs.length + ys'.length + 120 ^ n ≤ 1000000 := by
     have h1 := catM_len _ (120 ^ n) (fun x y hy => collT_len K p0 rules d hd n (1 + 1) _ y hy) _ _ Hh.out.cat
     have h2 := Nat.mul_le_mul_right (120 ^ n) (show (pre.map Subtype.val).length + 1 ≤ 120 by simp; omega)
     have h3 := HN.out
     rw [Nat.add_mul, Nat.one_mul] at h2
     rw [Nat.pow_succ, Nat.mul_comm] at h3
     omega
    have hlt0 : w0.heap.size ≤ gt := Nat.le_trans HS.out.below.size GT.out
    have hcall : Calls Try.prog 93 #[.agg #[.int .i64 g, .int .i64 d1, .int .i64 a0, .int .i64 a1, .int .i64 a2, .int .i64 a3, .int .i64 a4, .int .i64 x0, .int .i64 x1, .int .i64 x2, .int .i64 x3, .int .i64 x4], .int .i64 (1 + 1), .pointer (some ⟨Bp, 0, none⟩), .pointer (some ⟨Bo, 0, none⟩), .pointer (some ⟨Bd, 0, none⟩), .pointer (some ⟨Be, 0, none⟩)] W4 (TabsR w0 Bo v' W4 ((xs ++ ys') ++ ya)) := by
     have h := IH.out (1 + 1) (setCol t 1 ⟨x0, x1, x2, x3, x4⟩) v' (xs ++ ys') ya W4 (by rw [HT.out]; have h := Hg.out; show g = _; rw [h]; congr 1; omega) (by have := Hk2.out; omega) (Hh.out.st.far hg4 hlt0 hne4 Hh.out.ne) hp5 hd5 he5 (by simpa using hlen) hya
     rw [HT.out] at h
     exact h
    have hec : W4.cell? ⟨Be, 0, none⟩ = some (.func (.func 93) #[] #[.pointer (some ⟨Bp, 0, none⟩), .pointer (some ⟨Bo, 0, none⟩), .pointer (some ⟨Bd, 0, none⟩), .pointer (some ⟨Be, 0, none⟩)]) := (kc_ he5 0).trans rfl
    clear hkc
    have hkc : W4.cell? ⟨gk, 0, none⟩ = some (.int .i64 1) := (kc_ hn4 0).trans rfl
    have hy0 : W4.cell? ⟨gt, 0, none⟩ = some (.int .i64 g) := by have h := hb4; rw [HT.out] at h; exact (kc_ h 0).trans rfl
    have hy1 : W4.cell? ⟨gt, 1, none⟩ = some (.int .i64 d1) := by have h := hb4; rw [HT.out] at h; exact (kc_ h 1).trans rfl
    have hy2 : W4.cell? ⟨gt, 2, none⟩ = some (.int .i64 a0) := by have h := hb4; rw [HT.out] at h; exact (kc_ h 2).trans rfl
    have hy3 : W4.cell? ⟨gt, 3, none⟩ = some (.int .i64 a1) := by have h := hb4; rw [HT.out] at h; exact (kc_ h 3).trans rfl
    have hy4 : W4.cell? ⟨gt, 4, none⟩ = some (.int .i64 a2) := by have h := hb4; rw [HT.out] at h; exact (kc_ h 4).trans rfl
    have hy5 : W4.cell? ⟨gt, 5, none⟩ = some (.int .i64 a3) := by have h := hb4; rw [HT.out] at h; exact (kc_ h 5).trans rfl
    have hy6 : W4.cell? ⟨gt, 6, none⟩ = some (.int .i64 a4) := by have h := hb4; rw [HT.out] at h; exact (kc_ h 6).trans rfl
    have hy7 : W4.cell? ⟨gt, 7, none⟩ = some (.int .i64 x0) := by have h := hb4; rw [HT.out] at h; exact (kc_ h 7).trans rfl
    have hy8 : W4.cell? ⟨gt, 8, none⟩ = some (.int .i64 x1) := by have h := hb4; rw [HT.out] at h; exact (kc_ h 8).trans rfl
    have hy9 : W4.cell? ⟨gt, 9, none⟩ = some (.int .i64 x2) := by have h := hb4; rw [HT.out] at h; exact (kc_ h 9).trans rfl
    have hy10 : W4.cell? ⟨gt, 10, none⟩ = some (.int .i64 x3) := by have h := hb4; rw [HT.out] at h; exact (kc_ h 10).trans rfl
    have hy11 : W4.cell? ⟨gt, 11, none⟩ = some (.int .i64 x4) := by have h := hb4; rw [HT.out] at h; exact (kc_ h 11).trans rfl
    have HCALL := a_ hcall
    have HB4 := a_ hb4
    have HG4 := a_ hg4
    have HCAT := a_ hcat
    have HNE4 := a_ hne4
    have HN4 := a_ hn4
    have HLT0 := a_ hlt0
    clear hcall hb4 hg4 hcat hne4 hn4 he4 hp4 hd4 he5 hp5 hd5 hya hlen hlt0 hb3 hb23 hBd3 hW3 hct hcc0
    gi_wp2
    refine ⟨trivial, (CallsIn.inRound l (callsIn_wide.2 HCALL.out)).mono ?_⟩
    rintro e W5 ⟨rfl, v5, hS5, hK5, hO5⟩
    gi_wp2
    have hgl4 := blk_lt HB4.out
    have hs4 := HG4.out.size
    have hs0 := Hh.out.keep.size
    refine ⟨⟨Nat.le_trans hs4 hK5.size, fun i o _ hi ho => round_keeps Hh.out.st Hh.out.tab HG4.out hK5 i o hi (fun c e f h => by subst h; cases ho)⟩,
     ⟨hK5.os.trans HG4.out.os, hK5.tape.trans HG4.out.tape, hK5.output.trans HG4.out.output, Nat.le_trans hs4 hK5.size, fun i c e fz hi h1 h2 => round_keeps Hh.out.st Hh.out.tab HG4.out hK5 i _ hi (fun c' e' f' h => by cases h; exact ⟨h1, h2⟩)⟩,
     ys' ++ ya, v5, ⟨x0, x1, x2, x3, x4⟩, ?_, ?_, (Hh.out.keep.far HG4.out GT.out).trans hK5 Hh.out.own, ?_, ?_, ?_, ?_⟩
    ·rw [List.map_append]; exact HCAT.out
    ·rw [← List.append_assoc]; exact hS5
    ·rcases hO5 with h1 | ⟨bb, h1, h2⟩
     ·rw [h1]; exact Hh.out.own
     ·exact Or.inr ⟨bb, h1, by omega⟩
    ·exact (hK5.same gt hgl4 (fun e => HNE4.out e.symm) Hh.out.ne).trans HB4.out
    ·rcases hO5 with h1 | ⟨bb, h1, h2⟩
     ·rw [h1]; exact Hh.out.ne
     ·rw [h1]; intro e; cases e; omega
    ·exact round_keeps Hh.out.st Hh.out.tab HG4.out hK5 gk _ Hh.out.num (fun c' e' f' h => by cases h; decide)
end Go.Proofs.Ytifkldehbaphgaa.PAll
end
section
namespace Go.Proofs.Ytifkldehbaphgaa.PAll
open Go.RowKit Go.PW.PrintWords Go.PW.PrintLast Go.PW.PrintMore
def c_tables.f (k : Nat) (a0_0 : Int) (l0_1 : List ByteArray) (a1 : Int) : Option (List S78) :=
 if 1 ≤ a1 ∧ a1 ≤ 5 ∧ 0 ≤ a0_0 ∧ a0_0 ≤ 2 then collT k a0_0 l0_1 a1.toNat a0_0.toNat 0 ⟨a0_0, a1, z76⟩ else none
theorem c_tables.calls (k : Nat) (a0_0 : Int) (A0_1 : Option Addr) (c0_1 : Nat) (l0_1 : List ByteArray) (a1 : Int) (r : List (S78)) (w : World) (hr0_1 : Kd.C Kd.string w A0_1 l0_1.length l0_1) (hc0_1 : l0_1.length ≤ c0_1) (h : c_tables.f k a0_0 l0_1 a1 = some r) :
  Calls Try.prog 75 #[.agg #[.int .i64 a0_0, .slice A0_1 l0_1.length c0_1], .int .i64 a1] w fun e w' => ∃ v0_ : Value, e = .returned (v0_) ∧ Kd.R k78 78 w' w.heap.size (fun _ => True) v0_ r ∧ Below w.heap.size w w' := by
 unfold c_tables.f at h
 by_cases hcd : 1 ≤ a1 ∧ a1 ≤ 5 ∧ 0 ≤ a0_0 ∧ a0_0 ≤ 2
 rotate_left
 ·rw [if_neg hcd] at h; cases h
 rw [if_pos hcd] at h
 obtain ⟨h1, h2, h3, h4⟩ := hcd
 obtain ⟨d, rfl⟩ := Int.eq_ofNat_of_zero_le (show 0 ≤ a1 by omega)
 obtain ⟨g, rfl⟩ := Int.eq_ofNat_of_zero_le h3
 simp only [Int.toNat_natCast] at h
 have hu78 := Try.underlying78
 have hu55 := Try.underlying55
 have HC := a_ hr0_1
 have Hc := a_ hc0_1
 have H := a_ h
 have D1 := a_ (show 1 ≤ d by omega)
 have D5 := a_ (show d ≤ 5 by omega)
 have G2 := a_ (show g ≤ 2 by omega)
 clear hr0_1 hc0_1 h h1 h2 h3 h4
 go_enter Try.func75, Try.ntmps75
 go_upto_region 4 with (fail)
 obtain ⟨W4, hW4⟩ : ∃ W4, ((((w.alloc (Obj.cells #[.int .i64 (g : Int), .slice A0_1 l0_1.length c0_1] 55)).alloc (Obj.cells #[.int .i64 (d : Int)] 3)).alloc (Obj.cells #[.slice none 0 0] 108)).alloc (Obj.cells #[.func (.func 93) #[] #[.pointer (some ⟨w.heap.size, 0, none⟩), .pointer (some ⟨w.heap.size + 1 + 1, 0, none⟩), .pointer (some ⟨w.heap.size + 1, 0, none⟩), .pointer (some ⟨w.heap.size + 1 + 1 + 1, 0, none⟩)]] 127)) = W4 := ⟨_, rfl⟩
 have hp : W4.heap[w.heap.size]? = some (.cells #[.int .i64 (g : Int), .slice A0_1 l0_1.length c0_1] 55 (0, 0)) := by
  rw [← hW4]; exact kA_ (kA_ (kA_ (World.alloc_heap_new w _) _) _) _
 have hd : W4.heap[w.heap.size + 1]? = some (.cells #[.int .i64 (d : Int)] 3 (0, 0)) := by
  rw [← hW4]; refine kA_ (kA_ ?_ _) _; have h := World.alloc_heap_new (w.alloc (Obj.cells #[.int .i64 (g : Int), .slice A0_1 l0_1.length c0_1] 55)) (Obj.cells #[.int .i64 (d : Int)] 3); rwa [World.size_alloc] at h
 have ho : W4.heap[w.heap.size + 1 + 1]? = some (.cells #[.slice none 0 0] 108 (0, 0)) := by
  rw [← hW4]; refine kA_ ?_ _; have h := World.alloc_heap_new ((w.alloc (Obj.cells #[.int .i64 (g : Int), .slice A0_1 l0_1.length c0_1] 55)).alloc (Obj.cells #[.int .i64 (d : Int)] 3)) (Obj.cells #[.slice none 0 0] 108); rwa [World.size_alloc, World.size_alloc] at h
 have he : W4.heap[w.heap.size + 1 + 1 + 1]? = some (.cells #[.func (.func 93) #[] #[.pointer (some ⟨w.heap.size, 0, none⟩), .pointer (some ⟨w.heap.size + 1 + 1, 0, none⟩), .pointer (some ⟨w.heap.size + 1, 0, none⟩), .pointer (some ⟨w.heap.size + 1 + 1 + 1, 0, none⟩)]] 127 (0, 0)) := by
  rw [← hW4]; have h := World.alloc_heap_new (((w.alloc (Obj.cells #[.int .i64 (g : Int), .slice A0_1 l0_1.length c0_1] 55)).alloc (Obj.cells #[.int .i64 (d : Int)] 3)).alloc (Obj.cells #[.slice none 0 0] 108)) (Obj.cells #[.func (.func 93) #[] #[.pointer (some ⟨w.heap.size, 0, none⟩), .pointer (some ⟨w.heap.size + 1 + 1, 0, none⟩), .pointer (some ⟨w.heap.size + 1, 0, none⟩), .pointer (some ⟨w.heap.size + 1 + 1 + 1, 0, none⟩)]] 127); rwa [World.size_alloc, World.size_alloc, World.size_alloc] at h
 have hb4 : Below w.heap.size w W4 := by rw [← hW4]; exact bA_ (bA_ (bA_ (bA_ (Below.refl _ _) _) _) _) _
 rw [hW4]
 clear hW4
 have hS : St w (w.heap.size + 1 + 1) W4 (.slice none 0 0) [] := ⟨ho, Kd.R_nil _ _ _ _ _, hb4⟩
 have hcall : Calls Try.prog 93 #[.agg #[.int .i64 (g : Int), .int .i64 (d : Int), .int .i64 0, .int .i64 0, .int .i64 0, .int .i64 0, .int .i64 0, .int .i64 0, .int .i64 0, .int .i64 0, .int .i64 0, .int .i64 0], .int .i64 0, .pointer (some ⟨w.heap.size, 0, none⟩), .pointer (some ⟨w.heap.size + 1 + 1, 0, none⟩), .pointer (some ⟨w.heap.size + 1, 0, none⟩), .pointer (some ⟨w.heap.size + 1 + 1 + 1, 0, none⟩)] W4 (TabsR w (w.heap.size + 1 + 1) (.slice none 0 0) W4 ([] ++ r)) := tabs_any k (g : Int) A0_1 c0_1 l0_1 d D1.out D5.out w w.heap.size (w.heap.size + 1 + 1) (w.heap.size + 1) (w.heap.size + 1 + 1 + 1) HC.out Hc.out (by omega) g 0 ⟨(g : Int), (d : Int), z76⟩ (.slice none 0 0) [] r W4 (by simp) (by have := G2.out; omega) hS hp hd he
  (by have h2 := G2.out; have : 120 ^ g ≤ 120 ^ 2 := Nat.pow_le_pow_right (by omega) h2; simp; omega) H.out
 have HCALL := a_ hcall
 have c0 : W4.cell? ⟨w.heap.size, 0, none⟩ = some (.int .i64 (g : Int)) := (kc_ hp 0).trans rfl
 have c1 : W4.cell? ⟨w.heap.size + 1, 0, none⟩ = some (.int .i64 (d : Int)) := (kc_ hd 0).trans rfl
 have c2 : W4.cell? ⟨w.heap.size + 1 + 1 + 1, 0, none⟩ = some (.func (.func 93) #[] #[.pointer (some ⟨w.heap.size, 0, none⟩), .pointer (some ⟨w.heap.size + 1 + 1, 0, none⟩), .pointer (some ⟨w.heap.size + 1, 0, none⟩), .pointer (some ⟨w.heap.size + 1 + 1 + 1, 0, none⟩)]) := (kc_ he 0).trans rfl
 clear hcall hp hd ho he
 go_wp2_with (first | (go_at_call 93; (with_reducible refine (HCALL.out).mono ?_); rintro e W5 ⟨rfl, v5, hS5, hK5, hO5⟩; have c5 : W5.cell? ⟨w.heap.size + 1 + 1, 0, none⟩ = some v5 := (kc_ hS5.box 0).trans rfl; obtain ⟨A5, n5, e5⟩ := Kd.R_slice hS5.row; subst e5))
 go_ret
 exact ⟨_, rfl, hS5.row, hS5.below⟩
end Go.Proofs.Ytifkldehbaphgaa.PAll
end
section
namespace Go.Proofs.Ytifkldehbaphgaa.PAll
open Go.RowKit Go.PW.PrintWords Go.PW.PrintLast Go.PW.PrintMore
attribute [local go_sem] max2_int max_two
mutual
def c_Tables.j0 : Nat → Int → Bool → Int → List ByteArray → Option ((List (List (List Int))) × Int)
 | 0, _, _, _, _ => none
 | k + 1, x1, x16, Xd0, Xd1 => if x16 = true then (some (([] : List (List (List Int))), 2)) else ((c_tables.f k Xd0 Xd1 x1).bind fun t233 => (c_Tables.l0 k ([] : List (List (List Int))) t233 (t233.length : Int) 0))
def c_Tables.l0 : Nat → List (List (List Int)) → List (S78) → Int → Int → Option ((List (List (List Int))) × Int)
 | 0, _, _, _, _ => none
 | k + 1, x6, x19, x20, x21 => if x21 < x20 then (if 0 ≤ x21 then (if x21 < (x19.length : Int) then ((c_table_lists.f ((rd_T78 x19 x21).f0) ((rd_T78 x19 x21).f1) ((rd_T78 x19 x21).f2.f0.f0) ((rd_T78 x19 x21).f2.f0.f1) ((rd_T78 x19 x21).f2.f0.f2) ((rd_T78 x19 x21).f2.f0.f3) ((rd_T78 x19 x21).f2.f0.f4) ((rd_T78 x19 x21).f2.f1.f0) ((rd_T78 x19 x21).f2.f1.f1) ((rd_T78 x19 x21).f2.f1.f2) ((rd_T78 x19 x21).f2.f1.f3) ((rd_T78 x19 x21).f2.f1.f4)).bind fun t238 => (if x6.length < 5864062014805 then (c_Tables.l0 k (x6 ++ [t238]) x19 x20 (wrap64 (x21 + 1))) else (none))) else (none)) else (none)) else (some (x6, 0))
end
def c_Tables.f (k : Nat) (a0_0 : Int) (l0_1 : List ByteArray) (a1 : Int) : Option ((List (List (List Int))) × Int) := (c_isGroup.f a0_0 l0_1).bind fun t231 => (if t231 = true then ((c_within.f a1 1 5).bind fun t232 => (c_Tables.j0 k a1 (!t232) a0_0 l0_1)) else (c_Tables.j0 k a1 true a0_0 l0_1))
theorem c_Tables.calls (k : Nat) (a0_0 : Int) (A0_1 : Option Addr) (c0_1 : Nat) (l0_1 : List ByteArray) (a1 : Int) (r1 : List (List (List Int))) (r2 : Int) (w : World) (hr0_1 : Kd.C Kd.string w A0_1 l0_1.length l0_1) (hc0_1 : l0_1.length ≤ c0_1) (h : c_Tables.f k a0_0 l0_1 a1 = some (r1, r2)) :
  Calls Try.prog 40 #[.agg #[.int .i64 a0_0, .slice A0_1 l0_1.length c0_1], .int .i64 a1] w fun e w' => ∃ v0_ : Value, e = .returned (.tuple #[v0_, .int .i64 r2]) ∧ Kd.R (Kd.slice 22 (Kd.slice 3 (Kd.int .i64))) 23 w' w.heap.size (fun _ => True) v0_ r1 ∧ Below w.heap.size w w' := by
 have hu55 := Try.underlying55
 have hu78 := Try.underlying78
 have HR0_1 := a_ hr0_1
 have HC0_1 := a_ hc0_1
 clear hr0_1 hc0_1
 have HB := a_ (Below.refl w.heap.size w)
 have H : ((c_isGroup.f a0_0 l0_1).bind fun t231 => (if t231 = true then ((c_within.f a1 1 5).bind fun t232 => (c_Tables.j0 k a1 (!t232) a0_0 l0_1)) else (c_Tables.j0 k a1 true a0_0 l0_1))) = some (r1, r2) := h
 clear h
 have HC3 := a_ H
 clear H
 go_enter Try.func40, Try.ntmps40
 go_upto_region 1 with (first | ((with_reducible refine gate_dst (N := 2) rfl ?_); refine box_event ?hg (N := 2) ?hd (cs := #[.int .i64 a0_0, .slice A0_1 l0_1.length c0_1]) (t := 55) ?hr ?_; (case hd => rfl); (case hg => rfl); (case hr => first | (go_simp; done) | (go_simp; rfl)); intro gb230 hg w4 hbox hb; have BK230 := a_ (hbox); have GW230 := a_ ((by rw [hg]; exact (bZ_ (gr HB.out)) : w.heap.size ≤ gb230)); have GE230 := GEc.mk ((by rw [hg]; exact (bZ_ (gr HB.out)) : w.heap.size ≤ gb230)); replace HB := a_ (bT_ HB.out (tr hb)); clear hb hbox hg))
 (try simp only [Act.put, List.setIfInBounds_toArray, List.set_cons_zero, List.set_cons_succ])
 go_cut [16] (fun v16 wc => ∃ (kq : Nat) (x16_2 : Bool), v16 = .bool x16_2 ∧ Aside0 (c_Tables.j0 kq a1 x16_2 a0_0 l0_1 = some (r1, r2)) ∧ Aside0 (kq ≤ k) ∧ Aside0 (wc.heap[gb230]? = some (.cells #[.int .i64 a0_0, (.slice A0_1 l0_1.length c0_1)] 55 (0, 0))) ∧ Aside0 (Below w.heap.size w wc))
 case first =>
  have H := HC3.out
  clear HC3
  replace H := Option.bind_eq_some_iff.mp H
  obtain ⟨t231, A50, H⟩ := H
  try dsimp only at H
  have A5 := a_ A50
  clear A50
  by_cases c6 : t231 = true
  rotate_left
  ·replace c6 := Bool.eq_false_iff.mpr c6
   subst c6
   have H1 := H; rw [if_neg (show ¬ (false = true) by decide)] at H1
   clear H
   have H := H1
   clear H1
   have H' := a_ H
   clear H
   have hcz10_0 : w4.cell? ⟨gb230, 0, none⟩ = some (.int .i64 a0_0) := (kc_ BK230.out 0).trans rfl
   have hcz10_1 : w4.cell? ⟨gb230, 1, none⟩ = some (.slice A0_1 l0_1.length c0_1) := (kc_ BK230.out 1).trans rfl
   have hfz10_0 := kf_ BK230.out 0
   have hfz10_1 := kf_ BK230.out 1
   go_wp2_with (first | ((with_reducible refine gate_callee (f := 74) rfl ?_); refine goesL_ (some 10) rfl rfl Try.func74 (by kernel_rfl) rfl #[.agg #[.int .i64 a0_0, .slice A0_1 l0_1.length c0_1]] rfl (by (try simp only [List.map_toArray, List.map_cons, List.map_nil]); first | done | rfl | (simp only [List.length_drop, List.length_take]; rfl)) ?_; (with_reducible refine (c_isGroup.calls a0_0 _ _ l0_1 false _ ?side1 ?side2 A5.out).mono ?_); (case side1 => repeat (first | exact (Kd.C_below HR0_1.out HB.out) | (with_reducible refine Kd.C_alloc ?_ _) | (with_reducible refine Kd.C_drewN ?_ _) | (with_reducible refine Kd.C_drew ?_))); (case side2 => exact HC0_1.out); rintro e w11 ⟨rfl, hb⟩; refine ⟨_, rfl, ?_⟩; replace BK230 := a_ (kB_ BK230.out (tr hb)); replace HB := a_ (bT_ (by exact gs HB.out) hb); (try clear hb); (try clear hb2); (try clear hk); (try clear hi)))
   go_meet
   case rel => exact ⟨_, (true), (by first | rfl | (simp; done) | (simp [*]; done)), H', ⟨by first | omega | exact Nat.le_refl _⟩, ⟨by exact bk BK230.out⟩, ⟨by exact gs HB.out⟩⟩
  subst c6
  have H1 := H; rw [if_pos rfl] at H1
  clear H
  have H := H1
  clear H1
  replace H := Option.bind_eq_some_iff.mp H
  obtain ⟨t232, A70, H⟩ := H
  try dsimp only at H
  have A7 := a_ A70
  clear A70
  have H' := a_ H
  clear H
  have hcz8_0 : w4.cell? ⟨gb230, 0, none⟩ = some (.int .i64 a0_0) := (kc_ BK230.out 0).trans rfl
  have hcz8_1 : w4.cell? ⟨gb230, 1, none⟩ = some (.slice A0_1 l0_1.length c0_1) := (kc_ BK230.out 1).trans rfl
  have hfz8_0 := kf_ BK230.out 0
  have hfz8_1 := kf_ BK230.out 1
  go_wp2_with (first | ((with_reducible refine gate_callee (f := 74) rfl ?_); refine goesL_ (some 10) rfl rfl Try.func74 (by kernel_rfl) rfl #[.agg #[.int .i64 a0_0, .slice A0_1 l0_1.length c0_1]] rfl (by (try simp only [List.map_toArray, List.map_cons, List.map_nil]); first | done | rfl | (simp only [List.length_drop, List.length_take]; rfl)) ?_; (with_reducible refine (c_isGroup.calls a0_0 _ _ l0_1 true _ ?side1 ?side2 A5.out).mono ?_); (case side1 => repeat (first | exact (Kd.C_below HR0_1.out HB.out) | (with_reducible refine Kd.C_alloc ?_ _) | (with_reducible refine Kd.C_drewN ?_ _) | (with_reducible refine Kd.C_drew ?_))); (case side2 => exact HC0_1.out); rintro e w9 ⟨rfl, hb⟩; refine ⟨_, rfl, ?_⟩; replace BK230 := a_ (kB_ BK230.out (tr hb)); replace HB := a_ (bT_ (by exact gs HB.out) hb); (try clear hb); (try clear hb2); (try clear hk); (try clear hi)) | (go_at_call 59; (with_reducible refine (c_within.calls a1 1 5 t232 _ A7.out).mono ?_); rintro e w' ⟨rfl, ⟨nd, rfl⟩⟩))
  go_meet
  case rel => exact ⟨_, (!t232), (by first | rfl | (simp; done) | (simp [*]; done)), H', ⟨by first | omega | exact Nat.le_refl _⟩, ⟨by exact bk BK230.out⟩, ⟨by exact gs HB.out⟩⟩
 case rest =>
  clear HC3
  try clear p2
  try clear c4
  try clear c6
  try clear c7
  try clear hcz10_0 hcz10_1
  try clear hcz8_0 hcz8_1
  try clear hfz10_0 hfz10_1
  try clear hfz8_0 hfz8_1
  obtain ⟨kq, x16_2, rfl, HA, HJ2, BK230, HB⟩ := hcut
  cases kq with
  | zero => exact absurd HA.out (by simp [c_Tables.j0])
  | succ kj2 =>
   have H := HA.out
   clear HA
   simp only [c_Tables.j0] at H
   by_cases c12 : x16_2 = true
   ·subst c12
    have H1 := H; rw [if_pos rfl] at H1
    clear H
    have H := H1
    clear H1
    simp only [Option.some.injEq, Prod.mk.injEq] at H
    obtain ⟨rfl, rfl⟩ := H
    go_wp2
    go_ret2
    exact ⟨_, by first | rfl | (simp [errW_none, errW_some] <;> rfl) | (simp [*, errW_none, errW_some] <;> rfl), by first | exact Kd.R_nil _ _ _ _ _ | exact Kd.N_nil _ _ _ _ _ | exact Kd.V_nil _ _ _ _ _ | exact Kd.Q_nil _ _ _ _ _ | exact Kd.S_nil _ _ _ _ _, by exact gs HB.out⟩
   replace c12 := Bool.eq_false_iff.mpr c12
   subst c12
   have H1 := H; rw [if_neg (show ¬ (false = true) by decide)] at H1
   clear H
   have H := H1
   clear H1
   replace H := Option.bind_eq_some_iff.mp H
   obtain ⟨t233, A130, H⟩ := H
   try dsimp only at H
   have A13 := a_ A130
   clear A130
   have H' := a_ H
   clear H
   have hcz14_0 : wc.cell? ⟨gb230, 0, none⟩ = some (.int .i64 a0_0) := (kc_ BK230.out 0).trans rfl
   have hcz14_1 : wc.cell? ⟨gb230, 1, none⟩ = some (.slice A0_1 l0_1.length c0_1) := (kc_ BK230.out 1).trans rfl
   have hfz14_0 := kf_ BK230.out 0
   have hfz14_1 := kf_ BK230.out 1
   go_wp2_with (first | ((with_reducible refine gate_callee (f := 75) rfl ?_); refine goesL_ (some 19) rfl rfl Try.func75 (by kernel_rfl) rfl #[.agg #[.int .i64 a0_0, .slice A0_1 l0_1.length c0_1], .int .i64 a1] rfl (by (try simp only [List.map_toArray, List.map_cons, List.map_nil]); first | done | rfl | (simp only [List.length_drop, List.length_take]; rfl)) ?_; (with_reducible refine (c_tables.calls kj2 a0_0 _ _ l0_1 a1 t233 _ ?side1 ?side2 A13.out).mono ?_); (case side1 => repeat (first | exact (Kd.C_below HR0_1.out HB.out) | (with_reducible refine Kd.C_alloc ?_ _) | (with_reducible refine Kd.C_drewN ?_ _) | (with_reducible refine Kd.C_drew ?_))); (case side2 => exact HC0_1.out); rintro e w15 ⟨v234, rfl, ho0, hb⟩; refine ⟨_, rfl, ?_⟩; have HO235 := a_ (Kd.R_lower ho0 (bZ_ (by exact gs HB.out))); replace BK230 := a_ (kB_ BK230.out (tr hb)); replace HB := a_ (bT_ (by exact gs HB.out) hb); (try clear hb); (try clear hb2); (try clear hk); (try clear hi); (try clear ho0); obtain ⟨Ao16, co16, eo16⟩ := Kd.R_slice HO235.out; subst eo16))
   go_loopg [6, 21] kj2 (fun kq v6 v21 w' => ∃ (x6_2 : List (List (List Int))) (x21_2 : Int), v21 = .int .i64 x21_2 ∧ Aside0 (c_Tables.l0 kq x6_2 t233 (t233.length : Int) x21_2 = some (r1, r2)) ∧ Aside0 (kq ≤ kj2) ∧ Aside0 (Kd.R (Kd.slice 22 (Kd.slice 3 (Kd.int .i64))) 23 w' w.heap.size (fun _ => True) v6 x6_2) ∧ Aside0 (Kd.R k78 78 w' w.heap.size (fun _ => True) (.slice Ao16 t233.length co16) t233) ∧ Aside0 (w'.heap[gb230]? = some (.cells #[.int .i64 a0_0, (.slice A0_1 l0_1.length c0_1)] 55 (0, 0))) ∧ Aside0 (Below w.heap.size w w'))
   case atStart => exact ⟨(([] : List (List (List Int)))), (0), (by first | rfl | (simp; done) | (simp [*]; done)), H', ⟨Nat.le_refl _⟩, ⟨by first | exact Kd.R_nil _ _ _ _ _ | exact Kd.N_nil _ _ _ _ _ | exact Kd.V_nil _ _ _ _ _ | exact Kd.Q_nil _ _ _ _ _ | exact Kd.S_nil _ _ _ _ _⟩, ⟨by exact rk HO235.out⟩, ⟨by exact bk BK230.out⟩, ⟨by exact gs HB.out⟩⟩
   clear H'
   try clear c1
   try clear p2
   try clear c4
   try clear c6
   try clear c7
   try clear c12
   try clear hcz10_0 hcz10_1
   try clear hcz14_0 hcz14_1
   try clear hcz8_0 hcz8_1
   try clear hfz10_0 hfz10_1
   try clear hfz14_0 hfz14_1
   try clear hfz8_0 hfz8_1
   try clear p2
   obtain ⟨x6_2, x21_2, rfl, HA, HK2, HO_6, HO_19, BK230, HB⟩ := hrel
   cases gk with
   | zero => exact absurd HA.out (by simp [c_Tables.l0])
   | succ k2 =>
    have H := HA.out
    clear HA
    simp only [c_Tables.l0] at H
    by_cases c17 : x21_2 < (t233.length : Int)
    rotate_left
    ·rw [if_neg c17] at H
     have c17b0 : decide (x21_2 < (t233.length : Int)) = false := decide_eq_false c17
     clear c17
     simp only [Option.some.injEq, Prod.mk.injEq] at H
     obtain ⟨rfl, rfl⟩ := H
     go_wp2
     go_ret2
     exact ⟨_, by first | rfl | (simp [errW_none, errW_some] <;> rfl) | (simp [*, errW_none, errW_some] <;> rfl), by exact rk HO_6.out, by exact gs HB.out⟩
    rw [if_pos c17] at H
    have c17b0 : decide (x21_2 < (t233.length : Int)) = true := decide_eq_true c17
    clear c17
    by_cases c18 : 0 ≤ x21_2
    rotate_left
    ·rw [if_neg c18] at H
     exact absurd H (by simp)
    rw [if_pos c18] at H
    have c18b0 : decide (0 ≤ x21_2) = true := decide_eq_true c18
    clear c18
    by_cases c19 : x21_2 < (t233.length : Int)
    rotate_left
    ·rw [if_neg c19] at H
     exact absurd H (by simp)
    rw [if_pos c19] at H
    have c19b0 : decide (x21_2 < (t233.length : Int)) = true := decide_eq_true c19
    clear c19
    replace H := Option.bind_eq_some_iff.mp H
    obtain ⟨t238, A200, H⟩ := H
    try dsimp only at H
    have A20 := a_ A200
    clear A200
    by_cases c21 : x6_2.length < 5864062014805
    rotate_left
    ·rw [if_neg c21] at H
     exact absurd H (by simp)
    rw [if_pos c21] at H
    have LMc21 := a_ c21
    clear c21
    obtain ⟨y241, hy241⟩ : ∃ y_ : List (List (List Int)), y_ = (x6_2 ++ [t238]) := ⟨_, rfl⟩
    replace H : (c_Tables.l0 k2 y241 t233 (t233.length : Int) (wrap64 (x21_2 + 1))) = some (r1, r2) := by first | (rw [hy241]; with_reducible exact H) | (have H2_ := (Option.bind_some _ _).symm.trans H; rw [hy241]; with_reducible exact H2_) | (have H2_ := (Option.bind_some _ _).symm.trans H; with_reducible exact H2_) | with_reducible exact H | (rw [hy241]; exact H) | exact H
    have Ny241 := a_ hy241
    clear hy241
    have H' := a_ H
    clear H
    have p236 : 0 ≤ (x21_2 : Int) := of_decide_eq_true (by first | (with_reducible assumption) | assumption)
    have q236 : x21_2 < (t233.length : Int) := of_decide_eq_true (by first | (with_reducible assumption) | assumption)
    obtain ⟨ad236, e236, hx236_0, hx236_1, hx236_2, hx236_3, hx236_4, hx236_5, hx236_6, hx236_7, hx236_8, hx236_9, hx236_10, hx236_11⟩ := at_T78 (Kd.R_reads' HO_19.out).2.2 x21_2 p236 q236
    cases e236
    replace p236 := eq_true p236
    replace q236 := eq_true q236
    go_wp2_with (first | ((with_reducible refine gate_dst (N := 8) rfl ?_); refine box_event ?hg (N := 8) ?hd (cs := #[.int .i64 0, .int .i64 0, .int .i64 0, .int .i64 0, .int .i64 0, .int .i64 0, .int .i64 0, .int .i64 0, .int .i64 0, .int .i64 0, .int .i64 0, .int .i64 0]) (t := 78) ?hr ?_; (case hd => rfl); (case hg => rfl); (case hr => first | (go_simp; done) | (go_simp; rfl)); intro gb237 hg w22 hbox hb; have BK237 := a_ (hbox); have GW237 := a_ ((by rw [hg]; exact (bZ_ (by exact gs HB.out)) : w.heap.size ≤ gb237)); have GE237 := GEc.mk ((by rw [hg]; exact (bZ_ (by exact gs HB.out)) : w.heap.size ≤ gb237)); have NB230_237 := NEc.mk ((by rw [hg]; exact Nat.ne_of_lt (blk_lt (g := gb230) (o := .cells #[.int .i64 a0_0, .slice A0_1 l0_1.length c0_1] 55 (0, 0)) (by exact bk BK230.out)) : gb230 ≠ gb237)); have NB237_230 := NEc.mk ((by rw [hg]; exact Nat.ne_of_gt (blk_lt (g := gb230) (o := .cells #[.int .i64 a0_0, .slice A0_1 l0_1.length c0_1] 55 (0, 0)) (by exact bk BK230.out)) : gb237 ≠ gb230)); replace HO_6 := a_ (Kd.R_below HO_6.out (tr hb)); replace HO_19 := a_ (Kd.R_below (Kd.R_elderB (by exact rk HO_19.out) gb237 (Nat.le_of_eq hg.symm)) hb); replace BK230 := a_ (kB_ BK230.out (tr hb)); replace HB := a_ (bT_ (by exact gs HB.out) hb); clear hb hbox hg; have hnb23 := NB237_230.out; have hnc23 := NB230_237.out; obtain ⟨hcz24_0, hcz24_1, hcz24_2, hcz24_3, hcz24_4, hcz24_5, hcz24_6, hcz24_7, hcz24_8, hcz24_9, hcz24_10, hcz24_11⟩ := cs12 BK237.out; have hfz24_0 := kf_ BK237.out 0; have hfz24_1 := kf_ BK237.out 1; have hfz24_2 := kf_ BK237.out 2; have hfz24_3 := kf_ BK237.out 3; have hfz24_4 := kf_ BK237.out 4; have hfz24_5 := kf_ BK237.out 5; have hfz24_6 := kf_ BK237.out 6; have hfz24_7 := kf_ BK237.out 7; have hfz24_8 := kf_ BK237.out 8; have hfz24_9 := kf_ BK237.out 9; have hfz24_10 := kf_ BK237.out 10; have hfz24_11 := kf_ BK237.out 11) | ((with_reducible refine gate_callee (f := 66) rfl ?_); refine goesL_ (some 27) rfl rfl Try.func66 (by kernel_rfl) rfl #[.agg #[.int .i64 ((rd_T78 t233 x21_2).f0), .int .i64 ((rd_T78 t233 x21_2).f1), .int .i64 ((rd_T78 t233 x21_2).f2.f0.f0), .int .i64 ((rd_T78 t233 x21_2).f2.f0.f1), .int .i64 ((rd_T78 t233 x21_2).f2.f0.f2), .int .i64 ((rd_T78 t233 x21_2).f2.f0.f3), .int .i64 ((rd_T78 t233 x21_2).f2.f0.f4), .int .i64 ((rd_T78 t233 x21_2).f2.f1.f0), .int .i64 ((rd_T78 t233 x21_2).f2.f1.f1), .int .i64 ((rd_T78 t233 x21_2).f2.f1.f2), .int .i64 ((rd_T78 t233 x21_2).f2.f1.f3), .int .i64 ((rd_T78 t233 x21_2).f2.f1.f4)]] rfl (by (try simp only [List.map_toArray, List.map_cons, List.map_nil]); first | done | rfl | (simp only [List.length_drop, List.length_take]; rfl)) ?_; (with_reducible refine (c_table_lists.calls ((rd_T78 t233 x21_2).f0) ((rd_T78 t233 x21_2).f1) ((rd_T78 t233 x21_2).f2.f0.f0) ((rd_T78 t233 x21_2).f2.f0.f1) ((rd_T78 t233 x21_2).f2.f0.f2) ((rd_T78 t233 x21_2).f2.f0.f3) ((rd_T78 t233 x21_2).f2.f0.f4) ((rd_T78 t233 x21_2).f2.f1.f0) ((rd_T78 t233 x21_2).f2.f1.f1) ((rd_T78 t233 x21_2).f2.f1.f2) ((rd_T78 t233 x21_2).f2.f1.f3) ((rd_T78 t233 x21_2).f2.f1.f4) t238 _ A20.out).mono ?_); rintro e w25 ⟨v239, rfl, ho0, hb⟩; refine ⟨_, rfl, ?_⟩; have HO240 := a_ (Kd.S_lower ho0 (bZ_ (by exact gs HB.out))); replace HO_6 := a_ (Kd.R_elder' (by exact rk ((Kd.R_mono (Kd.R_far (p := ⟨gb237, 11, none⟩) (Kd.R_far (p := ⟨gb237, 10, none⟩) (Kd.R_far (p := ⟨gb237, 9, none⟩) (Kd.R_far (p := ⟨gb237, 8, none⟩) (Kd.R_far (p := ⟨gb237, 7, none⟩) (Kd.R_far (p := ⟨gb237, 6, none⟩) (Kd.R_far (p := ⟨gb237, 5, none⟩) (Kd.R_far (p := ⟨gb237, 4, none⟩) (Kd.R_far (p := ⟨gb237, 3, none⟩) (Kd.R_far (p := ⟨gb237, 2, none⟩) (Kd.R_far (p := ⟨gb237, 1, none⟩) (Kd.R_far (p := ⟨gb237, 0, none⟩) (Kd.R_types HO_6.out BK237.out (by decide)) (fun _ hk => hk.2) (.int .i64 ((rd_T78 t233 x21_2).f0))) (fun _ hk => hk.2) (.int .i64 ((rd_T78 t233 x21_2).f1))) (fun _ hk => hk.2) (.int .i64 ((rd_T78 t233 x21_2).f2.f0.f0))) (fun _ hk => hk.2) (.int .i64 ((rd_T78 t233 x21_2).f2.f0.f1))) (fun _ hk => hk.2) (.int .i64 ((rd_T78 t233 x21_2).f2.f0.f2))) (fun _ hk => hk.2) (.int .i64 ((rd_T78 t233 x21_2).f2.f0.f3))) (fun _ hk => hk.2) (.int .i64 ((rd_T78 t233 x21_2).f2.f0.f4))) (fun _ hk => hk.2) (.int .i64 ((rd_T78 t233 x21_2).f2.f1.f0))) (fun _ hk => hk.2) (.int .i64 ((rd_T78 t233 x21_2).f2.f1.f1))) (fun _ hk => hk.2) (.int .i64 ((rd_T78 t233 x21_2).f2.f1.f2))) (fun _ hk => hk.2) (.int .i64 ((rd_T78 t233 x21_2).f2.f1.f3))) (fun _ hk => hk.2) (.int .i64 ((rd_T78 t233 x21_2).f2.f1.f4))) (fun _ h_ => h_.1)))) (Kd.S_base ho0) hb); replace HO_19 := a_ (Kd.R_below (by exact rk ((Kd.R_mono (Kd.R_far (p := ⟨gb237, 11, none⟩) (Kd.R_far (p := ⟨gb237, 10, none⟩) (Kd.R_far (p := ⟨gb237, 9, none⟩) (Kd.R_far (p := ⟨gb237, 8, none⟩) (Kd.R_far (p := ⟨gb237, 7, none⟩) (Kd.R_far (p := ⟨gb237, 6, none⟩) (Kd.R_far (p := ⟨gb237, 5, none⟩) (Kd.R_far (p := ⟨gb237, 4, none⟩) (Kd.R_far (p := ⟨gb237, 3, none⟩) (Kd.R_far (p := ⟨gb237, 2, none⟩) (Kd.R_far (p := ⟨gb237, 1, none⟩) (Kd.R_far (p := ⟨gb237, 0, none⟩) (Kd.R_mono HO_19.out (fun k_ hk => (⟨hk, hk.2⟩ : _ ∧ k_ ≠ gb237))) (fun _ hk => hk.2) (.int .i64 ((rd_T78 t233 x21_2).f0))) (fun _ hk => hk.2) (.int .i64 ((rd_T78 t233 x21_2).f1))) (fun _ hk => hk.2) (.int .i64 ((rd_T78 t233 x21_2).f2.f0.f0))) (fun _ hk => hk.2) (.int .i64 ((rd_T78 t233 x21_2).f2.f0.f1))) (fun _ hk => hk.2) (.int .i64 ((rd_T78 t233 x21_2).f2.f0.f2))) (fun _ hk => hk.2) (.int .i64 ((rd_T78 t233 x21_2).f2.f0.f3))) (fun _ hk => hk.2) (.int .i64 ((rd_T78 t233 x21_2).f2.f0.f4))) (fun _ hk => hk.2) (.int .i64 ((rd_T78 t233 x21_2).f2.f1.f0))) (fun _ hk => hk.2) (.int .i64 ((rd_T78 t233 x21_2).f2.f1.f1))) (fun _ hk => hk.2) (.int .i64 ((rd_T78 t233 x21_2).f2.f1.f2))) (fun _ hk => hk.2) (.int .i64 ((rd_T78 t233 x21_2).f2.f1.f3))) (fun _ hk => hk.2) (.int .i64 ((rd_T78 t233 x21_2).f2.f1.f4))) (fun _ h_ => h_.1)))) hb); replace BK230 := a_ (kB_ (g := gb230) (o := .cells #[.int .i64 a0_0, .slice A0_1 l0_1.length c0_1] 55 (0, 0)) (by exact bk BK230.out) hb); replace BK237 := a_ (kB_ (g := gb237) (o := .cells #[.int .i64 ((rd_T78 t233 x21_2).f0), .int .i64 ((rd_T78 t233 x21_2).f1), .int .i64 ((rd_T78 t233 x21_2).f2.f0.f0), .int .i64 ((rd_T78 t233 x21_2).f2.f0.f1), .int .i64 ((rd_T78 t233 x21_2).f2.f0.f2), .int .i64 ((rd_T78 t233 x21_2).f2.f0.f3), .int .i64 ((rd_T78 t233 x21_2).f2.f0.f4), .int .i64 ((rd_T78 t233 x21_2).f2.f1.f0), .int .i64 ((rd_T78 t233 x21_2).f2.f1.f1), .int .i64 ((rd_T78 t233 x21_2).f2.f1.f2), .int .i64 ((rd_T78 t233 x21_2).f2.f1.f3), .int .i64 ((rd_T78 t233 x21_2).f2.f1.f4)] 78 (0, 0)) (by exact pb BK237.out (by rfl)) hb); replace HB := a_ (bT_ (by exact gs HB.out) hb); (try clear hb); (try clear hb2); (try clear hk); (try clear hi); (try clear ho0); obtain ⟨Ao27, co27, eo27⟩ := Kd.S_slice HO240.out; subst eo27) | ((with_reducible refine gate_builtin (b := .append) (xs := #[.tmp 25, .tmp 28]) rfl ?_); at_builtin; refine Kd.R_append (Kd.slice 22 (Kd.slice 3 (Kd.int .i64))) (w0 := w) w.heap.size rfl (.tmp 25) (.tmp 28) 57 23 (.slice none 0 0) 24 rfl Try.underlying57 info23 rfl (by decide) (by omega) u6 x6_2 t238 [.slice Ao27 t238.length co27] (fun _ => True) (fun k_ => ((fun _ => True)) k_ ∧ some k_ ≠ (u6 : Value).ownBlock) rfl rfl ?aP (fun _ hk => hk) ?aF ?aO ?aB ?aS ?aL ?_; (case aP => exact Kd.M_row (Kd.R_mono (Kd.R_apart' ((Kd.S_R HO240.out)) (Kd.R_typed HO_6.out) (by decide)) (fun k_ hk => ⟨trivial, hk.2⟩))); (case aB => exact (by exact gs HB.out)); (case aF => exact (fun _ _ => trivial)); (case aO => exact (by exact rk (Kd.R_mono HO_6.out (fun _ hk => trivial)))); (case aS => exact (bZ_ (by exact gs HB.out))); (case aL => have := LMc21.out; omega); intro v242 w26 ho hb hg hat; rw [← Ny241.out] at ho; have HO243 := a_ (ho); replace HO_19 := a_ (Kd.R_over' (by exact rk HO_19.out) (Kd.R_typed (by exact rk HO_6.out)) (by decide) hg); replace BK230 := a_ (blk_grown (g := gb230) (o := .cells #[.int .i64 a0_0, .slice A0_1 l0_1.length c0_1] 55 (0, 0)) (by exact bk BK230.out) hg (Kd.R_ne HO_6.out BK230.out (by decide))); replace BK237 := a_ (blk_grown (g := gb237) (o := .cells #[.int .i64 ((rd_T78 t233 x21_2).f0), .int .i64 ((rd_T78 t233 x21_2).f1), .int .i64 ((rd_T78 t233 x21_2).f2.f0.f0), .int .i64 ((rd_T78 t233 x21_2).f2.f0.f1), .int .i64 ((rd_T78 t233 x21_2).f2.f0.f2), .int .i64 ((rd_T78 t233 x21_2).f2.f0.f3), .int .i64 ((rd_T78 t233 x21_2).f2.f0.f4), .int .i64 ((rd_T78 t233 x21_2).f2.f1.f0), .int .i64 ((rd_T78 t233 x21_2).f2.f1.f1), .int .i64 ((rd_T78 t233 x21_2).f2.f1.f2), .int .i64 ((rd_T78 t233 x21_2).f2.f1.f3), .int .i64 ((rd_T78 t233 x21_2).f2.f1.f4)] 78 (0, 0)) (by exact bk BK237.out) hg (Kd.R_ne HO_6.out BK237.out (by decide))); replace HB := a_ (hb); clear HO_6 HO240; clear ho hb hg hat))
    go_roundg k2
    case measure => have := HJ2.out; have := HK2.out; omega
    case rel => exact ⟨(y241), (wrap64 (x21_2 + 1)), (by first | rfl | (simp; done) | (simp [*]; done)), H', ⟨by have := HJ2.out; have := HK2.out; omega⟩, ⟨by exact rk HO243.out⟩, ⟨by exact rk (Kd.R_mono HO_19.out (fun _ hk => trivial))⟩, ⟨by exact bk BK230.out⟩, ⟨by exact gs HB.out⟩⟩
mutual
def rr_Same.l0 : Nat → List (List Int) → List (List Int) → Int → Option (Bool)
 | 0, _, _, _ => none
 | k + 1, x0, x1, x5 => if x5 < (x0.length : Int) then (if 0 ≤ x5 then (if x5 < (x1.length : Int) then (if ((rd_L1 x0 x5).length : Int) = ((rd_L1 x1 x5).length : Int) then (rr_Same.l1 k x0 x1 x5 0) else (some false)) else (none)) else (none)) else (some true)
def rr_Same.l1 : Nat → List (List Int) → List (List Int) → Int → Int → Option (Bool)
 | 0, _, _, _, _ => none
 | k + 1, x0, x1, x5, x6 => if 0 ≤ x5 then (if x5 < (x0.length : Int) then (if x6 < ((rd_L1 x0 x5).length : Int) then (if 0 ≤ x6 then (if x5 < (x1.length : Int) then (if x6 < ((rd_L1 x1 x5).length : Int) then (if (rd (rd_L1 x0 x5) x6) = (rd (rd_L1 x1 x5) x6) then (rr_Same.l1 k x0 x1 x5 (wrap64 (x6 + 1))) else (some false)) else (none)) else (none)) else (none)) else (rr_Same.l0 k x0 x1 (wrap64 (x5 + 1)))) else (none)) else (none)
end
def rr_Same.f (k : Nat) (l0 : List (List Int)) (l1 : List (List Int)) : Option (Bool) := if (l0.length : Int) = (l1.length : Int) then (rr_Same.l0 k l0 l1 0) else (some false)
theorem rr_Same.calls (k : Nat) (A0 : Option Addr) (c0 : Nat) (l0 : List (List Int)) (A1 : Option Addr) (c1 : Nat) (l1 : List (List Int)) (r : Bool) (w : World) (hr0 : Kd.C (Kd.slice 3 (Kd.int .i64)) w A0 l0.length l0) (hc0 : l0.length ≤ c0) (hr1 : Kd.C (Kd.slice 3 (Kd.int .i64)) w A1 l1.length l1) (hc1 : l1.length ≤ c1) (h : rr_Same.f k l0 l1 = some r) :
  Calls Try.prog 31 #[.slice A0 l0.length c0, .slice A1 l1.length c1] w fun e w' => e = .returned (.bool r) ∧ Drawn0 w w' := by
 have HR0 := a_ hr0
 have HC0 := a_ hc0
 clear hr0 hc0
 have HR1 := a_ hr1
 have HC1 := a_ hc1
 clear hr1 hc1
 have H : (if (l0.length : Int) = (l1.length : Int) then (rr_Same.l0 k l0 l1 0) else (some false)) = some r := h
 clear h
 by_cases c3 : (l0.length : Int) = (l1.length : Int)
 rotate_left
 ·rw [if_neg c3] at H
  have c3b0 : ((l0.length : Int) == (l1.length : Int)) = false := beq_eq_false_iff_ne.mpr c3
  have c3b1 : ((l0.length : Int) != (l1.length : Int)) = true := bne_iff_ne.mpr c3
  have c3b2 : (l0.length == l1.length) = false := by first | simpa using c3 | (simp at c3 ⊢; omega)
  obtain rfl := Option.some.inj H
  go_enter Try.func31, Try.ntmps31
  go_wp2
  repeat (go_quiet (fail); try go_wp2)
  go_ret
  exact ⟨by first | rfl | (simp; done) | (simp [*]; done), by repeat (first | exact Drawn0.refl _ | apply Drawn0.step)⟩
 rw [if_pos c3] at H
 have c3b0 : ((l0.length : Int) == (l1.length : Int)) = true := beq_iff_eq.mpr c3
 have c3b1 : ((l0.length : Int) != (l1.length : Int)) = false := bne_eq_false_iff_eq.mpr c3
 have c3b2 : (l0.length == l1.length) = true := by first | simpa using c3 | (simp at c3 ⊢; omega)
 clear c3
 have H' := a_ H
 clear H
 go_enter Try.func31, Try.ntmps31
 go_wp2
 repeat (go_quiet (fail); try go_wp2)
 go_loopg [5] k (fun kq v5 w' => ∃ (x5_1 : Int), v5 = .int .i64 x5_1 ∧ Aside0 (rr_Same.l0 kq l0 l1 x5_1 = some r) ∧ Aside0 (kq ≤ k) ∧ Drawn0 w w')
 case atStart => exact ⟨(0), (by first | rfl | (simp; done) | (simp [*]; done)), H', ⟨Nat.le_refl _⟩, by repeat (first | exact Drawn0.refl _ | apply Drawn0.step)⟩
 clear H'
 try clear c1
 try clear p2
 try clear c3
 try clear c3b0
 try clear c3b1
 try clear c3b2
 obtain ⟨x5_1, rfl, HA, HK1, ⟨m1, rfl⟩⟩ := hrel
 cases gk with
 | zero => exact absurd HA.out (by simp [rr_Same.l0])
 | succ k1 =>
  have H := HA.out
  clear HA
  simp only [rr_Same.l0] at H
  by_cases c4 : x5_1 < (l0.length : Int)
  rotate_left
  ·rw [if_neg c4] at H
   have c4b0 : decide (x5_1 < (l0.length : Int)) = false := decide_eq_false c4
   clear c4
   obtain rfl := Option.some.inj H
   go_wp2
   repeat (go_quiet (fail); try go_wp2)
   go_ret
   exact ⟨by first | rfl | (simp; done) | (simp [*]; done), by repeat (first | exact Drawn0.refl _ | apply Drawn0.step)⟩
  rw [if_pos c4] at H
  have c4b0 : decide (x5_1 < (l0.length : Int)) = true := decide_eq_true c4
  clear c4
  by_cases c5 : 0 ≤ x5_1
  rotate_left
  ·rw [if_neg c5] at H
   exact absurd H (by simp)
  rw [if_pos c5] at H
  have c5b0 : decide (0 ≤ x5_1) = true := decide_eq_true c5
  clear c5
  by_cases c6 : x5_1 < (l1.length : Int)
  rotate_left
  ·rw [if_neg c6] at H
   exact absurd H (by simp)
  rw [if_pos c6] at H
  have c6b0 : decide (x5_1 < (l1.length : Int)) = true := decide_eq_true c6
  clear c6
  by_cases c7 : ((rd_L1 l0 x5_1).length : Int) = ((rd_L1 l1 x5_1).length : Int)
  rotate_left
  ·rw [if_neg c7] at H
   have c7b0 : (((rd_L1 l0 x5_1).length : Int) == ((rd_L1 l1 x5_1).length : Int)) = false := beq_eq_false_iff_ne.mpr c7
   have c7b1 : (((rd_L1 l0 x5_1).length : Int) != ((rd_L1 l1 x5_1).length : Int)) = true := bne_iff_ne.mpr c7
   have c7b2 : ((rd_L1 l0 x5_1).length == (rd_L1 l1 x5_1).length) = false := by first | simpa using c7 | (simp at c7 ⊢; omega)
   obtain rfl := Option.some.inj H
   have p223 : 0 ≤ (x5_1 : Int) := of_decide_eq_true (by first | (with_reducible assumption) | assumption)
   have q223 : x5_1 < (l0.length : Int) := of_decide_eq_true (by first | (with_reducible assumption) | assumption)
   obtain ⟨ad223, A223_0, c223_0, e223, hx223_0, hl223_0, hi223_0⟩ := at_L1 HR0.out x5_1 p223 q223
   cases e223
   have HR223_0 := a_ hi223_0
   have HC223_0 := a_ hl223_0
   clear hi223_0 hl223_0
   replace p223 := eq_true p223
   replace q223 := eq_true q223
   have p224 : 0 ≤ (x5_1 : Int) := of_decide_eq_true (by first | (with_reducible assumption) | assumption)
   have q224 : x5_1 < (l1.length : Int) := of_decide_eq_true (by first | (with_reducible assumption) | assumption)
   obtain ⟨ad224, A224_0, c224_0, e224, hx224_0, hl224_0, hi224_0⟩ := at_L1 HR1.out x5_1 p224 q224
   cases e224
   have HR224_0 := a_ hi224_0
   have HC224_0 := a_ hl224_0
   clear hi224_0 hl224_0
   replace p224 := eq_true p224
   replace q224 := eq_true q224
   go_wp2
   repeat (go_quiet (fail); try go_wp2)
   go_ret
   exact ⟨by first | rfl | (simp; done) | (simp [*]; done), by repeat (first | exact Drawn0.refl _ | apply Drawn0.step)⟩
  rw [if_pos c7] at H
  have c7b0 : (((rd_L1 l0 x5_1).length : Int) == ((rd_L1 l1 x5_1).length : Int)) = true := beq_iff_eq.mpr c7
  have c7b1 : (((rd_L1 l0 x5_1).length : Int) != ((rd_L1 l1 x5_1).length : Int)) = false := bne_eq_false_iff_eq.mpr c7
  have c7b2 : ((rd_L1 l0 x5_1).length == (rd_L1 l1 x5_1).length) = true := by first | simpa using c7 | (simp at c7 ⊢; omega)
  clear c7
  have H' := a_ H
  clear H
  have p223 : 0 ≤ (x5_1 : Int) := of_decide_eq_true (by first | (with_reducible assumption) | assumption)
  have q223 : x5_1 < (l0.length : Int) := of_decide_eq_true (by first | (with_reducible assumption) | assumption)
  obtain ⟨ad223, A223_0, c223_0, e223, hx223_0, hl223_0, hi223_0⟩ := at_L1 HR0.out x5_1 p223 q223
  cases e223
  have HR223_0 := a_ hi223_0
  have HC223_0 := a_ hl223_0
  clear hi223_0 hl223_0
  replace p223 := eq_true p223
  replace q223 := eq_true q223
  have p224 : 0 ≤ (x5_1 : Int) := of_decide_eq_true (by first | (with_reducible assumption) | assumption)
  have q224 : x5_1 < (l1.length : Int) := of_decide_eq_true (by first | (with_reducible assumption) | assumption)
  obtain ⟨ad224, A224_0, c224_0, e224, hx224_0, hl224_0, hi224_0⟩ := at_L1 HR1.out x5_1 p224 q224
  cases e224
  have HR224_0 := a_ hi224_0
  have HC224_0 := a_ hl224_0
  clear hi224_0 hl224_0
  replace p224 := eq_true p224
  replace q224 := eq_true q224
  go_wp2
  repeat (go_quiet (fail); try go_wp2)
  go_loopg [6] k1 (fun kq v6 w' => ∃ (x6_2 : Int), v6 = .int .i64 x6_2 ∧ Aside0 (rr_Same.l1 kq l0 l1 x5_1 x6_2 = some r) ∧ Aside0 (kq ≤ k1) ∧ Drawn0 w w')
  case atStart => exact ⟨(0), (by first | rfl | (simp; done) | (simp [*]; done)), H', ⟨Nat.le_refl _⟩, by repeat (first | exact Drawn0.refl _ | apply Drawn0.step)⟩
  clear H'
  try clear c1
  try clear c2
  try clear p2
  try clear q2
  try clear hx2
  try clear c3
  try clear c3b0
  try clear c3b1
  try clear c3b2
  try clear c4
  try clear c4b0
  try clear c5
  try clear c5b0
  try clear c6
  try clear c6b0
  try clear c7
  try clear c7b0
  try clear c7b1
  try clear c7b2
  try clear hx223_0
  try clear hx224_0
  try clear p2
  try clear p223
  try clear p224
  try clear q223
  try clear q224
  obtain ⟨x6_2, rfl, HA, HK2, ⟨m2, rfl⟩⟩ := hrel
  cases gk with
  | zero => exact absurd HA.out (by simp [rr_Same.l1])
  | succ k2 =>
   have H := HA.out
   clear HA
   simp only [rr_Same.l1] at H
   by_cases c8 : 0 ≤ x5_1
   rotate_left
   ·rw [if_neg c8] at H
    exact absurd H (by simp)
   rw [if_pos c8] at H
   have c8b0 : decide (0 ≤ x5_1) = true := decide_eq_true c8
   clear c8
   by_cases c9 : x5_1 < (l0.length : Int)
   rotate_left
   ·rw [if_neg c9] at H
    exact absurd H (by simp)
   rw [if_pos c9] at H
   have c9b0 : decide (x5_1 < (l0.length : Int)) = true := decide_eq_true c9
   clear c9
   by_cases c10 : x6_2 < ((rd_L1 l0 x5_1).length : Int)
   rotate_left
   ·rw [if_neg c10] at H
    have c10b0 : decide (x6_2 < ((rd_L1 l0 x5_1).length : Int)) = false := decide_eq_false c10
    clear c10
    have H' := a_ H
    clear H
    have p225 : 0 ≤ (x5_1 : Int) := of_decide_eq_true (by first | (with_reducible assumption) | assumption)
    have q225 : x5_1 < (l0.length : Int) := of_decide_eq_true (by first | (with_reducible assumption) | assumption)
    obtain ⟨ad225, A225_0, c225_0, e225, hx225_0, hl225_0, hi225_0⟩ := at_L1 HR0.out x5_1 p225 q225
    obtain rfl : ad223 = ad225 := (by injection e225)
    have HR225_0 := a_ hi225_0
    have HC225_0 := a_ hl225_0
    clear hi225_0 hl225_0
    replace p225 := eq_true p225
    replace q225 := eq_true q225
    go_wp2
    repeat (go_quiet (fail); try go_wp2)
    go_roundg k2
    case measure => have := HK1.out; have := HK2.out; omega
    case rel => exact ⟨(wrap64 (x5_1 + 1)), (by first | rfl | (simp; done) | (simp [*]; done)), H', ⟨by have := HK1.out; have := HK2.out; omega⟩, by repeat (first | exact Drawn0.refl _ | apply Drawn0.step)⟩
   rw [if_pos c10] at H
   have c10b0 : decide (x6_2 < ((rd_L1 l0 x5_1).length : Int)) = true := decide_eq_true c10
   clear c10
   by_cases c11 : 0 ≤ x6_2
   rotate_left
   ·rw [if_neg c11] at H
    exact absurd H (by simp)
   rw [if_pos c11] at H
   have c11b0 : decide (0 ≤ x6_2) = true := decide_eq_true c11
   clear c11
   by_cases c12 : x5_1 < (l1.length : Int)
   rotate_left
   ·rw [if_neg c12] at H
    exact absurd H (by simp)
   rw [if_pos c12] at H
   have c12b0 : decide (x5_1 < (l1.length : Int)) = true := decide_eq_true c12
   clear c12
   by_cases c13 : x6_2 < ((rd_L1 l1 x5_1).length : Int)
   rotate_left
   ·rw [if_neg c13] at H
    exact absurd H (by simp)
   rw [if_pos c13] at H
   have c13b0 : decide (x6_2 < ((rd_L1 l1 x5_1).length : Int)) = true := decide_eq_true c13
   clear c13
   by_cases c14 : (rd (rd_L1 l0 x5_1) x6_2) = (rd (rd_L1 l1 x5_1) x6_2)
   rotate_left
   ·rw [if_neg c14] at H
    have c14b0 : ((rd (rd_L1 l0 x5_1) x6_2) == (rd (rd_L1 l1 x5_1) x6_2)) = false := beq_eq_false_iff_ne.mpr c14
    have c14b1 : ((rd (rd_L1 l0 x5_1) x6_2) != (rd (rd_L1 l1 x5_1) x6_2)) = true := bne_iff_ne.mpr c14
    obtain rfl := Option.some.inj H
    have p225 : 0 ≤ (x5_1 : Int) := of_decide_eq_true (by first | (with_reducible assumption) | assumption)
    have q225 : x5_1 < (l0.length : Int) := of_decide_eq_true (by first | (with_reducible assumption) | assumption)
    obtain ⟨ad225, A225_0, c225_0, e225, hx225_0, hl225_0, hi225_0⟩ := at_L1 HR0.out x5_1 p225 q225
    obtain rfl : ad223 = ad225 := (by injection e225)
    have HR225_0 := a_ hi225_0
    have HC225_0 := a_ hl225_0
    clear hi225_0 hl225_0
    replace p225 := eq_true p225
    replace q225 := eq_true q225
    have p226 : 0 ≤ (x5_1 : Int) := of_decide_eq_true (by first | (with_reducible assumption) | assumption)
    have q226 : x5_1 < (l0.length : Int) := of_decide_eq_true (by first | (with_reducible assumption) | assumption)
    obtain ⟨ad226, A226_0, c226_0, e226, hx226_0, hl226_0, hi226_0⟩ := at_L1 HR0.out x5_1 p226 q226
    obtain rfl : ad223 = ad226 := (by injection e226)
    have HR226_0 := a_ hi226_0
    have HC226_0 := a_ hl226_0
    clear hi226_0 hl226_0
    replace p226 := eq_true p226
    replace q226 := eq_true q226
    have ea_ := Option.some.inj (hx225_0.symm.trans hx226_0)
    injection ea_ with ea_ en_ ec_
    subst ea_
    subst ec_
    clear en_
    have p227 : 0 ≤ (x6_2 : Int) := of_decide_eq_true (by first | (with_reducible assumption) | assumption)
    have q227 : x6_2 < ((rd_L1 l0 x5_1).length : Int) := of_decide_eq_true (by first | (with_reducible assumption) | assumption)
    obtain ⟨ad227, e227, hx227_0⟩ := Kd.at_int HR226_0.out x6_2 p227 q227
    cases e227
    replace p227 := eq_true p227
    replace q227 := eq_true q227
    have p228 : 0 ≤ (x5_1 : Int) := of_decide_eq_true (by first | (with_reducible assumption) | assumption)
    have q228 : x5_1 < (l1.length : Int) := of_decide_eq_true (by first | (with_reducible assumption) | assumption)
    obtain ⟨ad228, A228_0, c228_0, e228, hx228_0, hl228_0, hi228_0⟩ := at_L1 HR1.out x5_1 p228 q228
    obtain rfl : ad224 = ad228 := (by injection e228)
    have HR228_0 := a_ hi228_0
    have HC228_0 := a_ hl228_0
    clear hi228_0 hl228_0
    replace p228 := eq_true p228
    replace q228 := eq_true q228
    have p229 : 0 ≤ (x6_2 : Int) := of_decide_eq_true (by first | (with_reducible assumption) | assumption)
    have q229 : x6_2 < ((rd_L1 l1 x5_1).length : Int) := of_decide_eq_true (by first | (with_reducible assumption) | assumption)
    obtain ⟨ad229, e229, hx229_0⟩ := Kd.at_int HR228_0.out x6_2 p229 q229
    cases e229
    replace p229 := eq_true p229
    replace q229 := eq_true q229
    go_wp2
    repeat (go_quiet (fail); try go_wp2)
    go_ret
    exact ⟨by first | rfl | (simp; done) | (simp [*]; done), by repeat (first | exact Drawn0.refl _ | apply Drawn0.step)⟩
   rw [if_pos c14] at H
   have c14b0 : ((rd (rd_L1 l0 x5_1) x6_2) == (rd (rd_L1 l1 x5_1) x6_2)) = true := beq_iff_eq.mpr c14
   have c14b1 : ((rd (rd_L1 l0 x5_1) x6_2) != (rd (rd_L1 l1 x5_1) x6_2)) = false := bne_eq_false_iff_eq.mpr c14
   clear c14
   have H' := a_ H
   clear H
   have p225 : 0 ≤ (x5_1 : Int) := of_decide_eq_true (by first | (with_reducible assumption) | assumption)
   have q225 : x5_1 < (l0.length : Int) := of_decide_eq_true (by first | (with_reducible assumption) | assumption)
   obtain ⟨ad225, A225_0, c225_0, e225, hx225_0, hl225_0, hi225_0⟩ := at_L1 HR0.out x5_1 p225 q225
   obtain rfl : ad223 = ad225 := (by injection e225)
   have HR225_0 := a_ hi225_0
   have HC225_0 := a_ hl225_0
   clear hi225_0 hl225_0
   replace p225 := eq_true p225
   replace q225 := eq_true q225
   have p226 : 0 ≤ (x5_1 : Int) := of_decide_eq_true (by first | (with_reducible assumption) | assumption)
   have q226 : x5_1 < (l0.length : Int) := of_decide_eq_true (by first | (with_reducible assumption) | assumption)
   obtain ⟨ad226, A226_0, c226_0, e226, hx226_0, hl226_0, hi226_0⟩ := at_L1 HR0.out x5_1 p226 q226
   obtain rfl : ad223 = ad226 := (by injection e226)
   have HR226_0 := a_ hi226_0
   have HC226_0 := a_ hl226_0
   clear hi226_0 hl226_0
   replace p226 := eq_true p226
   replace q226 := eq_true q226
   have ea_ := Option.some.inj (hx225_0.symm.trans hx226_0)
   injection ea_ with ea_ en_ ec_
   subst ea_
   subst ec_
   clear en_
   have p227 : 0 ≤ (x6_2 : Int) := of_decide_eq_true (by first | (with_reducible assumption) | assumption)
   have q227 : x6_2 < ((rd_L1 l0 x5_1).length : Int) := of_decide_eq_true (by first | (with_reducible assumption) | assumption)
   obtain ⟨ad227, e227, hx227_0⟩ := Kd.at_int HR226_0.out x6_2 p227 q227
   cases e227
   replace p227 := eq_true p227
   replace q227 := eq_true q227
   have p228 : 0 ≤ (x5_1 : Int) := of_decide_eq_true (by first | (with_reducible assumption) | assumption)
   have q228 : x5_1 < (l1.length : Int) := of_decide_eq_true (by first | (with_reducible assumption) | assumption)
   obtain ⟨ad228, A228_0, c228_0, e228, hx228_0, hl228_0, hi228_0⟩ := at_L1 HR1.out x5_1 p228 q228
   obtain rfl : ad224 = ad228 := (by injection e228)
   have HR228_0 := a_ hi228_0
   have HC228_0 := a_ hl228_0
   clear hi228_0 hl228_0
   replace p228 := eq_true p228
   replace q228 := eq_true q228
   have p229 : 0 ≤ (x6_2 : Int) := of_decide_eq_true (by first | (with_reducible assumption) | assumption)
   have q229 : x6_2 < ((rd_L1 l1 x5_1).length : Int) := of_decide_eq_true (by first | (with_reducible assumption) | assumption)
   obtain ⟨ad229, e229, hx229_0⟩ := Kd.at_int HR228_0.out x6_2 p229 q229
   cases e229
   replace p229 := eq_true p229
   replace q229 := eq_true q229
   go_wp2
   repeat (go_quiet (fail); try go_wp2)
   go_roundg k2
   case measure => have := HK1.out; have := HK2.out; omega
   case rel => exact ⟨(wrap64 (x6_2 + 1)), (by first | rfl | (simp; done) | (simp [*]; done)), H', ⟨by have := HK1.out; have := HK2.out; omega⟩, by repeat (first | exact Drawn0.refl _ | apply Drawn0.step)⟩
def c_exponents.l0 : Nat → ByteArray → Int → Int → Int → Int → Option (Int × Int)
 | 0, _, _, _, _, _ => none
 | k + 1, x0, x7, x8, Xe0, Xe1 => if x8 < x7 then (if 0 ≤ x8 then (if x8 < (x0.size : Int) then ((strings_IndexByte.f (⟨#[97, 65, 98, 66]⟩ : ByteArray) (bt x0 x8)).bind fun t254 => (if (wrap64 (Int.tdiv t254 2)) = 0 then (c_exponents.l0 k x0 x7 (wrap64 (x8 + 1)) (wrap64 (Xe0 + (wrap64 (1 - (wrap64 ((Int.tmod t254 2) * 2)))))) Xe1) else (if (wrap64 (Int.tdiv t254 2)) = 1 then (c_exponents.l0 k x0 x7 (wrap64 (x8 + 1)) Xe0 (wrap64 (Xe1 + (wrap64 (1 - (wrap64 ((Int.tmod t254 2) * 2))))))) else (none)))) else (none)) else (none)) else (some (Xe0, Xe1))
def c_exponents.f (k : Nat) (a0 : ByteArray) : Option (Int × Int) := c_exponents.l0 k a0 (a0.size : Int) 0 0 0
theorem c_exponents.calls (k : Nat) (a0 : ByteArray) (r1 : Int) (r2 : Int) (w : World) (h : c_exponents.f k a0 = some (r1, r2)) :
  Calls Try.prog 86 #[.string a0] w fun e w' => e = .returned (.agg #[.int .i64 r1, .int .i64 r2]) ∧ Below w.heap.size w w' := by
 have hu99 := Try.underlying99
 have HB := a_ (Below.refl w.heap.size w)
 have H : (c_exponents.l0 k a0 (a0.size : Int) 0 0 0) = some (r1, r2) := h
 clear h
 have H' := a_ H
 clear H
 go_enter Try.func86, Try.ntmps86
 go_wp2_with (first | ((with_reducible refine gate_dst (N := 2) rfl ?_); refine box_event ?hg (N := 2) ?hd (cs := #[.int .i64 0, .int .i64 0]) (t := 99) ?hr ?_; (case hd => rfl); (case hg => rfl); (case hr => first | (go_simp; done) | (go_simp; rfl)); intro gb252 hg w2 hbox hb; have BK252 := a_ (hbox); have GW252 := a_ ((by rw [hg]; exact (bZ_ (gr HB.out)) : w.heap.size ≤ gb252)); have GE252 := GEc.mk ((by rw [hg]; exact (bZ_ (gr HB.out)) : w.heap.size ≤ gb252)); replace HB := a_ (bT_ HB.out (tr hb)); clear hb hbox hg) | ((with_reducible refine gate_dst (N := 3) rfl ?_); refine box_event ?hg (N := 3) ?hd (cs := #[.int .i64 0, .int .i64 0]) (t := 99) ?hr ?_; (case hd => rfl); (case hg => rfl); (case hr => first | (go_simp; done) | (go_simp; rfl)); intro gb253 hg w3 hbox hb; have BK253 := a_ (hbox); have GW253 := a_ ((by rw [hg]; exact (bZ_ (by exact gs HB.out)) : w.heap.size ≤ gb253)); have GE253 := GEc.mk ((by rw [hg]; exact (bZ_ (by exact gs HB.out)) : w.heap.size ≤ gb253)); have NB252_253 := NEc.mk ((by rw [hg]; exact Nat.ne_of_lt (blk_lt (g := gb252) (o := .cells #[.int .i64 0, .int .i64 0] 99 (0, 0)) (by exact bk BK252.out)) : gb252 ≠ gb253)); have NB253_252 := NEc.mk ((by rw [hg]; exact Nat.ne_of_gt (blk_lt (g := gb252) (o := .cells #[.int .i64 0, .int .i64 0] 99 (0, 0)) (by exact bk BK252.out)) : gb253 ≠ gb252)); replace BK252 := a_ (kB_ BK252.out (tr hb)); replace HB := a_ (bT_ (by exact gs HB.out) hb); clear hb hbox hg))
 go_loopg [8] k (fun kq v8 w' => ∃ (x8_1 : Int) (Xe0_1 : Int) (Xe1_1 : Int), v8 = .int .i64 x8_1 ∧ Aside0 (c_exponents.l0 kq a0 (a0.size : Int) x8_1 Xe0_1 Xe1_1 = some (r1, r2)) ∧ Aside0 (kq ≤ k) ∧ Aside0 (w'.heap[gb252]? = some (.cells #[.int .i64 0, .int .i64 0] 99 (0, 0))) ∧ Aside0 (w'.heap[gb253]? = some (.cells #[.int .i64 Xe0_1, .int .i64 Xe1_1] 99 (0, 0))) ∧ Aside0 (Below w.heap.size w w'))
 case atStart => exact ⟨(0), (0), (0), (by first | rfl | (simp; done) | (simp [*]; done)), H', ⟨Nat.le_refl _⟩, ⟨by exact bk BK252.out⟩, ⟨by exact bk BK253.out⟩, ⟨by exact gs HB.out⟩⟩
 clear H'
 try clear p2
 obtain ⟨x8_1, Xe0_1, Xe1_1, rfl, HA, HK1, BK252, BK253, HB⟩ := hrel
 cases gk with
 | zero => exact absurd HA.out (by simp [c_exponents.l0])
 | succ k1 =>
  have H := HA.out
  clear HA
  simp only [c_exponents.l0] at H
  by_cases c4 : x8_1 < (a0.size : Int)
  rotate_left
  ·rw [if_neg c4] at H
   have c4b0 : decide (x8_1 < (a0.size : Int)) = false := decide_eq_false c4
   clear c4
   simp only [Option.some.injEq, Prod.mk.injEq] at H
   obtain ⟨rfl, rfl⟩ := H
   have hnb16 := NB253_252.out
   have hnc16 := NB252_253.out
   have hcz17_0 : wr.cell? ⟨gb253, 0, none⟩ = some (.int .i64 Xe0_1) := (kc_ BK253.out 0).trans rfl
   have hcz17_1 : wr.cell? ⟨gb253, 1, none⟩ = some (.int .i64 Xe1_1) := (kc_ BK253.out 1).trans rfl
   have hfz17_0 := kf_ BK253.out 0
   have hfz17_1 := kf_ BK253.out 1
   have hcz18_0 : wr.cell? ⟨gb252, 0, none⟩ = some (.int .i64 0) := (kc_ BK252.out 0).trans rfl
   have hcz18_1 : wr.cell? ⟨gb252, 1, none⟩ = some (.int .i64 0) := (kc_ BK252.out 1).trans rfl
   have hfz18_0 := kf_ BK252.out 0
   have hfz18_1 := kf_ BK252.out 1
   go_wp2
   refine bodyPost_ret (results_cell_row rfl _ _ gb252 99 #[.int .i64 Xe0_1, .int .i64 Xe1_1] (0, 0) _ rfl (by exact pb BK252.out (by rfl)) Try.underlying99 rfl (by kernel_rfl)) rfl ?_
   exact ⟨by first | rfl | (simp [errW_none, errW_some] <;> rfl) | (simp [*, errW_none, errW_some] <;> rfl), by exact gs HB.out⟩
  rw [if_pos c4] at H
  have c4b0 : decide (x8_1 < (a0.size : Int)) = true := decide_eq_true c4
  clear c4
  by_cases c5 : 0 ≤ x8_1
  rotate_left
  ·rw [if_neg c5] at H
   exact absurd H (by simp)
  rw [if_pos c5] at H
  have c5b0 : decide (0 ≤ x8_1) = true := decide_eq_true c5
  clear c5
  by_cases c6 : x8_1 < (a0.size : Int)
  rotate_left
  ·rw [if_neg c6] at H
   exact absurd H (by simp)
  rw [if_pos c6] at H
  have c6b0 : decide (x8_1 < (a0.size : Int)) = true := decide_eq_true c6
  clear c6
  replace H := Option.bind_eq_some_iff.mp H
  obtain ⟨t254, A80, H⟩ := H
  try dsimp only at H
  have A8 := a_ A80
  clear A80
  obtain ⟨ji9, hji9⟩ : ∃ j_ : Int, (wrap64 (Int.tdiv t254 2)) = j_ := ⟨_, rfl⟩
  replace H : (if ji9 = 0 then (c_exponents.l0 k1 a0 (a0.size : Int) (wrap64 (x8_1 + 1)) (wrap64 (Xe0_1 + (wrap64 (1 - (wrap64 ((Int.tmod t254 2) * 2)))))) Xe1_1) else (if ji9 = 1 then (c_exponents.l0 k1 a0 (a0.size : Int) (wrap64 (x8_1 + 1)) Xe0_1 (wrap64 (Xe1_1 + (wrap64 (1 - (wrap64 ((Int.tmod t254 2) * 2))))))) else (none))) = some (r1, r2) := by first | (rw [hji9] at H; exact H) | (simp only [hji9] at H ⊢; exact H)
  by_cases c10 : ji9 = 0
  ·subst c10
   have H1 := H; rw [if_pos rfl] at H1
   clear H
   have H := H1
   clear H1
   have H' := a_ H
   clear H
   have p7 : 0 ≤ (x8_1 : Int) := of_decide_eq_true (by first | (with_reducible assumption) | assumption)
   have q7 : x8_1 < (a0.size : Int) := of_decide_eq_true (by first | (with_reducible assumption) | assumption)
   have hx7 := bt_at a0 x8_1
   replace p7 := eq_true p7
   replace q7 := eq_true q7
   go_wp2_with (first | ((with_reducible refine gate_callee (f := 90) rfl ?_); refine goesL_ (some 14) rfl rfl Try.func90 (by kernel_rfl) rfl #[.string (⟨#[97, 65, 98, 66]⟩ : ByteArray), .int .u8 (bt a0 x8_1)] rfl (by (try simp only [List.map_toArray, List.map_cons, List.map_nil]); first | done | rfl | (simp only [List.length_drop, List.length_take]; rfl)) ?_; (with_reducible refine (strings_IndexByte.calls (⟨#[97, 65, 98, 66]⟩ : ByteArray) (bt a0 x8_1) t254 _ A8.out).mono ?_); rintro e w' ⟨rfl, ⟨nd, rfl⟩⟩; refine ⟨_, rfl, ?_⟩; (try (rw [drewN_self wr]; generalize hq_ : World.drewN wr _ = wr; have n0_ : Aside0 (wr.heap[gb252]? = some (.cells #[.int .i64 0, .int .i64 0] 99 (0, 0))) := ⟨by rw [← hq_]; exact (by exact bk BK252.out)⟩; have n1_ : Aside0 (wr.heap[gb253]? = some (.cells #[.int .i64 Xe0_1, .int .i64 Xe1_1] 99 (0, 0))) := ⟨by rw [← hq_]; exact (by exact bk BK253.out)⟩; have n2_ : Aside0 (Below w.heap.size w wr) := ⟨by rw [← hq_]; exact (by exact gs HB.out)⟩; clear BK252 BK253 HB hq_; have BK252 := n0_; have BK253 := n1_; have HB := n2_; clear n0_ n1_ n2_)); have hnb11 := NB253_252.out; have hnc11 := NB252_253.out; have hcz12_0 : wr.cell? ⟨gb253, 0, none⟩ = some (.int .i64 Xe0_1) := (kc_ BK253.out 0).trans rfl; have hcz12_1 : wr.cell? ⟨gb253, 1, none⟩ = some (.int .i64 Xe1_1) := (kc_ BK253.out 1).trans rfl; have hfz12_0 := kf_ BK253.out 0; have hfz12_1 := kf_ BK253.out 1))
   go_roundg k1
   case measure => have := HK1.out; omega
   case rel => exact ⟨(wrap64 (x8_1 + 1)), (wrap64 (Xe0_1 + (wrap64 (1 - (wrap64 ((Int.tmod t254 2) * 2)))))), (Xe1_1), (by first | rfl | (simp; done) | (simp [*]; done)), H', ⟨by have := HK1.out; omega⟩, ⟨by exact bk BK252.out⟩, ⟨by exact pb BK253.out (by rfl)⟩, ⟨by exact gs HB.out⟩⟩
  rw [if_neg c10] at H
  clear c10
  by_cases c13 : ji9 = 1
  rotate_left
  ·rw [if_neg c13] at H
   exact absurd H (by simp)
  subst c13
  have H1 := H; rw [if_pos rfl] at H1
  clear H
  have H := H1
  clear H1
  have H' := a_ H
  clear H
  have p7 : 0 ≤ (x8_1 : Int) := of_decide_eq_true (by first | (with_reducible assumption) | assumption)
  have q7 : x8_1 < (a0.size : Int) := of_decide_eq_true (by first | (with_reducible assumption) | assumption)
  have hx7 := bt_at a0 x8_1
  replace p7 := eq_true p7
  replace q7 := eq_true q7
  go_wp2_with (first | ((with_reducible refine gate_callee (f := 90) rfl ?_); refine goesL_ (some 14) rfl rfl Try.func90 (by kernel_rfl) rfl #[.string (⟨#[97, 65, 98, 66]⟩ : ByteArray), .int .u8 (bt a0 x8_1)] rfl (by (try simp only [List.map_toArray, List.map_cons, List.map_nil]); first | done | rfl | (simp only [List.length_drop, List.length_take]; rfl)) ?_; (with_reducible refine (strings_IndexByte.calls (⟨#[97, 65, 98, 66]⟩ : ByteArray) (bt a0 x8_1) t254 _ A8.out).mono ?_); rintro e w' ⟨rfl, ⟨nd, rfl⟩⟩; refine ⟨_, rfl, ?_⟩; (try (rw [drewN_self wr]; generalize hq_ : World.drewN wr _ = wr; have n0_ : Aside0 (wr.heap[gb252]? = some (.cells #[.int .i64 0, .int .i64 0] 99 (0, 0))) := ⟨by rw [← hq_]; exact (by exact bk BK252.out)⟩; have n1_ : Aside0 (wr.heap[gb253]? = some (.cells #[.int .i64 Xe0_1, .int .i64 Xe1_1] 99 (0, 0))) := ⟨by rw [← hq_]; exact (by exact bk BK253.out)⟩; have n2_ : Aside0 (Below w.heap.size w wr) := ⟨by rw [← hq_]; exact (by exact gs HB.out)⟩; clear BK252 BK253 HB hq_; have BK252 := n0_; have BK253 := n1_; have HB := n2_; clear n0_ n1_ n2_)); have hnb14 := NB253_252.out; have hnc14 := NB252_253.out; have hcz15_0 : wr.cell? ⟨gb253, 0, none⟩ = some (.int .i64 Xe0_1) := (kc_ BK253.out 0).trans rfl; have hcz15_1 : wr.cell? ⟨gb253, 1, none⟩ = some (.int .i64 Xe1_1) := (kc_ BK253.out 1).trans rfl; have hfz15_0 := kf_ BK253.out 0; have hfz15_1 := kf_ BK253.out 1))
  go_roundg k1
  case measure => have := HK1.out; omega
  case rel => exact ⟨(wrap64 (x8_1 + 1)), (Xe0_1), (wrap64 (Xe1_1 + (wrap64 (1 - (wrap64 ((Int.tmod t254 2) * 2)))))), (by first | rfl | (simp; done) | (simp [*]; done)), H', ⟨by have := HK1.out; omega⟩, ⟨by exact bk BK252.out⟩, ⟨by exact pb BK253.out (by rfl)⟩, ⟨by exact gs HB.out⟩⟩
def c_gcd.l0 : Nat → Int → Int → Option (Int)
 | 0, _, _ => none
 | k + 1, x0, x1 => if x1 = 0 then (some (mx x0 (wrap64 (-x0)))) else (c_gcd.l0 k x1 (Int.tmod x0 x1))
def c_gcd.f (k : Nat) (a0 : Int) (a1 : Int) : Option (Int) := c_gcd.l0 k a0 a1
theorem c_gcd.calls (k : Nat) (a0 : Int) (a1 : Int) (r : Int) (w : World) (h : c_gcd.f k a0 a1 = some r) :
  Calls Try.prog 87 #[.int .i64 a0, .int .i64 a1] w fun e w' => e = .returned (.int .i64 r) ∧ Below w.heap.size w w' := by
 have HB := a_ (Below.refl w.heap.size w)
 have H : (c_gcd.l0 k a0 a1) = some r := h
 clear h
 have H' := a_ H
 clear H
 go_enter Try.func87, Try.ntmps87
 go_wp2
 repeat (go_quiet (fail); try go_wp2)
 go_loopg [0, 1] k (fun kq v0 v1 w' => ∃ (x0_1 : Int) (x1_1 : Int), v0 = .int .i64 x0_1 ∧ v1 = .int .i64 x1_1 ∧ Aside0 (c_gcd.l0 kq x0_1 x1_1 = some r) ∧ Aside0 (kq ≤ k) ∧ Aside0 (Below w.heap.size w w'))
 case atStart => exact ⟨(a0), (a1), (by first | rfl | (simp; done) | (simp [*]; done)), (by first | rfl | (simp; done) | (simp [*]; done)), H', ⟨Nat.le_refl _⟩, ⟨by exact gs HB.out⟩⟩
 clear H'
 try clear p2
 obtain ⟨x0_1, x1_1, rfl, rfl, HA, HK1, HB⟩ := hrel
 cases gk with
 | zero => exact absurd HA.out (by simp [c_gcd.l0])
 | succ k1 =>
  have H := HA.out
  clear HA
  simp only [c_gcd.l0] at H
  by_cases c3 : x1_1 = 0
  rotate_left
  ·rw [if_neg c3] at H
   have c3b0 : (x1_1 == 0) = false := beq_eq_false_iff_ne.mpr c3
   have c3b1 : (x1_1 != 0) = true := bne_iff_ne.mpr c3
   have H' := a_ H
   clear H
   go_wp2
   repeat (go_quiet (fail); try go_wp2)
   go_roundg k1
   case measure => have := HK1.out; omega
   case rel => exact ⟨(x1_1), (Int.tmod x0_1 x1_1), (by first | rfl | (simp; done) | (simp [*]; done)), (by first | rfl | (simp; done) | (simp [*]; done)), H', ⟨by have := HK1.out; omega⟩, ⟨by exact gs HB.out⟩⟩
  rw [if_pos c3] at H
  have c3b0 : (x1_1 == 0) = true := beq_iff_eq.mpr c3
  have c3b1 : (x1_1 != 0) = false := bne_eq_false_iff_eq.mpr c3
  clear c3
  obtain ⟨ji4, hji4⟩ : ∃ j_ : Int, (mx x0_1 (wrap64 (-x0_1))) = j_ := ⟨_, rfl⟩
  replace H : (some ji4) = some r := by first | (rw [hji4] at H; exact H) | (simp only [hji4] at H ⊢; exact H)
  have hji4_ : (if x0_1 < (wrap64 (-x0_1)) then (wrap64 (-x0_1)) else x0_1) = ji4 := hji4
  obtain rfl := Option.some.inj H
  go_wp2
  repeat (go_quiet (fail); try go_wp2)
  go_ret
  exact ⟨by first | rfl | (simp [errW_none, errW_some] <;> rfl) | (simp only [← hji4]; first | rfl | (simp [errW_none, errW_some] <;> rfl)) | (simp [*, errW_none, errW_some] <;> rfl), by exact gs HB.out⟩
mutual
def c_Factors.l0 : Nat → Int → Int → List ByteArray → Int → Int → Int → List ByteArray → Option (List Int × Int × Int)
 | 0, _, _, _, _, _, _, _ => none
 | k + 1, x5, x6, x22, x23, x24, Xf0, Xf1 => if x24 < x23 then (if 0 ≤ x24 then (if x24 < (x22.length : Int) then ((c_exponents.f k (rdOf ByteArray.empty x22 x24)).bind fun bt258 => ((c_gcd.f k bt258.1 bt258.2).bind fun t261 => ((c_gcd.f k x5 t261).bind fun t262 => (if x24 ≤ (Xf1.length : Int) then (c_Factors.l1 k t262 x6 x22 x23 x24 (Xf1.take (x24 : Int).toNat) ((Xf1.take (x24 : Int).toNat).length : Int) 0 Xf0 Xf1 bt258.1 bt258.2) else (none))))) else (none)) else (none)) else (if Xf0 = 2 then (if (mx x5 1) = 0 then (none) else (c_Factors.j2 k (([x5, wrap64 (Int.tdiv x6 (mx x5 1))] : List Int)))) else (c_Factors.j2 k (([x5] : List Int))))
def c_Factors.l1 : Nat → Int → Int → List ByteArray → Int → Int → List ByteArray → Int → Int → Int → List ByteArray → Int → Int → Option (List Int × Int × Int)
 | 0, _, _, _, _, _, _, _, _, _, _, _, _ => none
 | k + 1, x5, x6, x22, x23, x24, x41, x42, x43, Xf0, Xf1, Xg0, Xg1 => if x43 < x42 then (if 0 ≤ x43 then (if x43 < (x41.length : Int) then ((c_exponents.f k (rdOf ByteArray.empty x41 x43)).bind fun bt265 => ((c_gcd.f k x6 (wrap64 ((wrap64 (Xg0 * bt265.2)) - (wrap64 (Xg1 * bt265.1))))).bind fun t268 => (c_Factors.l1 k x5 t268 x22 x23 x24 x41 x42 (wrap64 (x43 + 1)) Xf0 Xf1 Xg0 Xg1))) else (none)) else (none)) else (c_Factors.l0 k x5 x6 x22 x23 (wrap64 (x24 + 1)) Xf0 Xf1)
def c_Factors.j2 : Nat → List Int → Option (List Int × Int × Int)
 | 0, _ => none
 | k + 1, x13 => c_Factors.l2 k ([] : List Int) 0 x13 (x13.length : Int) 0
def c_Factors.l2 : Nat → List Int → Int → List Int → Int → Int → Option (List Int × Int × Int)
 | 0, _, _, _, _, _ => none
 | k + 1, x14, x15, x75, x76, x77 => if x77 < x76 then (if 0 ≤ x77 then (if x77 < (x75.length : Int) then (if (rd x75 x77) = 0 then (c_Factors.l2 k x14 (wrap64 (x15 + 1)) x75 x76 (wrap64 (x77 + 1))) else (if (rd x75 x77) > 1 then (if x14.length < 17592186044416 then (c_Factors.l2 k (x14 ++ [rd x75 x77]) x15 x75 x76 (wrap64 (x77 + 1))) else (none)) else (c_Factors.l2 k x14 x15 x75 x76 (wrap64 (x77 + 1))))) else (none)) else (none)) else (some (x14, x15, 0))
end
def c_Factors.f (k : Nat) (a0_0 : Int) (l0_1 : List ByteArray) : Option (List Int × Int × Int) := (c_isGroup.f a0_0 l0_1).bind fun t256 => (if t256 = true then (c_Factors.l0 k 0 0 l0_1 (l0_1.length : Int) 0 a0_0 l0_1) else (some (([] : List Int), 0, 2)))
theorem c_Factors.calls (k : Nat) (a0_0 : Int) (A0_1 : Option Addr) (c0_1 : Nat) (l0_1 : List ByteArray) (r1 : List Int) (r2 : Int) (r3 : Int) (w : World) (hr0_1 : Kd.C Kd.string w A0_1 l0_1.length l0_1) (hc0_1 : l0_1.length ≤ c0_1) (h : c_Factors.f k a0_0 l0_1 = some (r1, r2, r3)) :
  Calls Try.prog 62 #[.agg #[.int .i64 a0_0, .slice A0_1 l0_1.length c0_1]] w fun e w' => ∃ v0_ : Value, e = .returned (.tuple #[v0_, .int .i64 r2, .int .i64 r3]) ∧ Kd.R (Kd.int .i64) 3 w' w.heap.size (fun _ => True) v0_ r1 ∧ Below w.heap.size w w' := by
 have hu55 := Try.underlying55
 have hu99 := Try.underlying99
 have HR0_1 := a_ hr0_1
 have HC0_1 := a_ hc0_1
 clear hr0_1 hc0_1
 have HB := a_ (Below.refl w.heap.size w)
 have H : ((c_isGroup.f a0_0 l0_1).bind fun t256 => (if t256 = true then (c_Factors.l0 k 0 0 l0_1 (l0_1.length : Int) 0 a0_0 l0_1) else (some (([] : List Int), 0, 2)))) = some (r1, r2, r3) := h
 clear h
 replace H := Option.bind_eq_some_iff.mp H
 obtain ⟨t256, A20, H⟩ := H
 try dsimp only at H
 have A2 := a_ A20
 clear A20
 by_cases c3 : t256 = true
 rotate_left
 ·replace c3 := Bool.eq_false_iff.mpr c3
  subst c3
  have H1 := H; rw [if_neg (show ¬ (false = true) by decide)] at H1
  clear H
  have H := H1
  clear H1
  simp only [Option.some.injEq, Prod.mk.injEq] at H
  obtain ⟨rfl, rfl, rfl⟩ := H
  go_enter Try.func62, Try.ntmps62
  go_wp2_with (first | ((with_reducible refine gate_dst (N := 1) rfl ?_); refine box_event ?hg (N := 1) ?hd (cs := #[.int .i64 a0_0, .slice A0_1 l0_1.length c0_1]) (t := 55) ?hr ?_; (case hd => rfl); (case hg => rfl); (case hr => first | (go_simp; done) | (go_simp; rfl)); intro gb255 hg w54 hbox hb; have BK255 := a_ (hbox); have GW255 := a_ ((by rw [hg]; exact (bZ_ (gr HB.out)) : w.heap.size ≤ gb255)); have GE255 := GEc.mk ((by rw [hg]; exact (bZ_ (gr HB.out)) : w.heap.size ≤ gb255)); replace HB := a_ (bT_ HB.out (tr hb)); clear hb hbox hg; have hcz55_0 : w54.cell? ⟨gb255, 0, none⟩ = some (.int .i64 a0_0) := (kc_ BK255.out 0).trans rfl; have hcz55_1 : w54.cell? ⟨gb255, 1, none⟩ = some (.slice A0_1 l0_1.length c0_1) := (kc_ BK255.out 1).trans rfl; have hfz55_0 := kf_ BK255.out 0; have hfz55_1 := kf_ BK255.out 1) | ((with_reducible refine gate_callee (f := 74) rfl ?_); refine goesL_ (some 19) rfl rfl Try.func74 (by kernel_rfl) rfl #[.agg #[.int .i64 a0_0, .slice A0_1 l0_1.length c0_1]] rfl (by (try simp only [List.map_toArray, List.map_cons, List.map_nil]); first | done | rfl | (simp only [List.length_drop, List.length_take]; rfl)) ?_; (with_reducible refine (c_isGroup.calls a0_0 _ _ l0_1 false _ ?side1 ?side2 A2.out).mono ?_); (case side1 => repeat (first | exact (Kd.C_below HR0_1.out HB.out) | (with_reducible refine Kd.C_alloc ?_ _) | (with_reducible refine Kd.C_drewN ?_ _) | (with_reducible refine Kd.C_drew ?_))); (case side2 => exact HC0_1.out); rintro e w56 ⟨rfl, hb⟩; refine ⟨_, rfl, ?_⟩; replace BK255 := a_ (kB_ BK255.out (tr hb)); replace HB := a_ (bT_ (by exact gs HB.out) hb); (try clear hb); (try clear hb2); (try clear hk); (try clear hi)))
  go_ret3
  exact ⟨_, by first | rfl | (simp [errW_none, errW_some] <;> rfl) | (simp [*, errW_none, errW_some] <;> rfl), by first | exact Kd.R_nil _ _ _ _ _ | exact Kd.N_nil _ _ _ _ _ | exact Kd.V_nil _ _ _ _ _ | exact Kd.Q_nil _ _ _ _ _ | exact Kd.S_nil _ _ _ _ _, by exact gs HB.out⟩
 subst c3
 have H1 := H; rw [if_pos rfl] at H1
 clear H
 have H := H1
 clear H1
 have H' := a_ H
 clear H
 go_enter Try.func62, Try.ntmps62
 go_wp2_with (first | ((with_reducible refine gate_dst (N := 1) rfl ?_); refine box_event ?hg (N := 1) ?hd (cs := #[.int .i64 a0_0, .slice A0_1 l0_1.length c0_1]) (t := 55) ?hr ?_; (case hd => rfl); (case hg => rfl); (case hr => first | (go_simp; done) | (go_simp; rfl)); intro gb255 hg w4 hbox hb; have BK255 := a_ (hbox); have GW255 := a_ ((by rw [hg]; exact (bZ_ (gr HB.out)) : w.heap.size ≤ gb255)); have GE255 := GEc.mk ((by rw [hg]; exact (bZ_ (gr HB.out)) : w.heap.size ≤ gb255)); replace HB := a_ (bT_ HB.out (tr hb)); clear hb hbox hg; have hcz5_0 : w4.cell? ⟨gb255, 0, none⟩ = some (.int .i64 a0_0) := (kc_ BK255.out 0).trans rfl; have hcz5_1 : w4.cell? ⟨gb255, 1, none⟩ = some (.slice A0_1 l0_1.length c0_1) := (kc_ BK255.out 1).trans rfl; have hfz5_0 := kf_ BK255.out 0; have hfz5_1 := kf_ BK255.out 1) | ((with_reducible refine gate_callee (f := 74) rfl ?_); refine goesL_ (some 19) rfl rfl Try.func74 (by kernel_rfl) rfl #[.agg #[.int .i64 a0_0, .slice A0_1 l0_1.length c0_1]] rfl (by (try simp only [List.map_toArray, List.map_cons, List.map_nil]); first | done | rfl | (simp only [List.length_drop, List.length_take]; rfl)) ?_; (with_reducible refine (c_isGroup.calls a0_0 _ _ l0_1 true _ ?side1 ?side2 A2.out).mono ?_); (case side1 => repeat (first | exact (Kd.C_below HR0_1.out HB.out) | (with_reducible refine Kd.C_alloc ?_ _) | (with_reducible refine Kd.C_drewN ?_ _) | (with_reducible refine Kd.C_drew ?_))); (case side2 => exact HC0_1.out); rintro e w6 ⟨rfl, hb⟩; refine ⟨_, rfl, ?_⟩; replace BK255 := a_ (kB_ BK255.out (tr hb)); replace HB := a_ (bT_ (by exact gs HB.out) hb); (try clear hb); (try clear hb2); (try clear hk); (try clear hi); have hcz7_0 : w6.cell? ⟨gb255, 0, none⟩ = some (.int .i64 a0_0) := (kc_ BK255.out 0).trans rfl; have hcz7_1 : w6.cell? ⟨gb255, 1, none⟩ = some (.slice A0_1 l0_1.length c0_1) := (kc_ BK255.out 1).trans rfl; have hfz7_0 := kf_ BK255.out 0; have hfz7_1 := kf_ BK255.out 1))
 go_loopg [5, 6, 24] k (fun kq v5 v6 v24 w' => ∃ (x5_1 : Int) (x6_1 : Int) (x24_1 : Int), v5 = .int .i64 x5_1 ∧ v6 = .int .i64 x6_1 ∧ v24 = .int .i64 x24_1 ∧ Aside0 (c_Factors.l0 kq x5_1 x6_1 l0_1 (l0_1.length : Int) x24_1 a0_0 l0_1 = some (r1, r2, r3)) ∧ Aside0 (kq ≤ k) ∧ Aside0 (w'.heap[gb255]? = some (.cells #[.int .i64 a0_0, (.slice A0_1 l0_1.length c0_1)] 55 (0, 0))) ∧ Aside0 (Below w.heap.size w w'))
 case atStart => exact ⟨(0), (0), (0), (by first | rfl | (simp; done) | (simp [*]; done)), (by first | rfl | (simp; done) | (simp [*]; done)), (by first | rfl | (simp; done) | (simp [*]; done)), H', ⟨Nat.le_refl _⟩, ⟨by exact bk BK255.out⟩, ⟨by exact gs HB.out⟩⟩
 clear H'
 try clear p2
 try clear c3
 try clear c6
 try clear c7
 try clear hcz5_0 hcz5_1
 try clear hcz7_0 hcz7_1
 try clear hfz5_0 hfz5_1
 try clear hfz7_0 hfz7_1
 obtain ⟨x5_1, x6_1, x24_1, rfl, rfl, rfl, HA, HK1, BK255, HB⟩ := hrel
 cases gk with
 | zero => exact absurd HA.out (by simp [c_Factors.l0])
 | succ k1 =>
  have H := HA.out
  clear HA
  simp only [c_Factors.l0] at H
  by_cases c8 : x24_1 < (l0_1.length : Int)
  ·rw [if_pos c8] at H
   have c8b0 : decide (x24_1 < (l0_1.length : Int)) = true := decide_eq_true c8
   clear c8
   by_cases c9 : 0 ≤ x24_1
   rotate_left
   ·rw [if_neg c9] at H
    exact absurd H (by simp)
   rw [if_pos c9] at H
   have c9b0 : decide (0 ≤ x24_1) = true := decide_eq_true c9
   clear c9
   by_cases c10 : x24_1 < (l0_1.length : Int)
   rotate_left
   ·rw [if_neg c10] at H
    exact absurd H (by simp)
   rw [if_pos c10] at H
   have c10b0 : decide (x24_1 < (l0_1.length : Int)) = true := decide_eq_true c10
   clear c10
   replace H := Option.bind_eq_some_iff.mp H
   obtain ⟨⟨t258, t259⟩, A110, H⟩ := H
   try dsimp only at H
   have A11 := a_ A110
   clear A110
   replace H := Option.bind_eq_some_iff.mp H
   obtain ⟨t261, A120, H⟩ := H
   try dsimp only at H
   have A12 := a_ A120
   clear A120
   replace H := Option.bind_eq_some_iff.mp H
   obtain ⟨t262, A130, H⟩ := H
   try dsimp only at H
   have A13 := a_ A130
   clear A130
   have c14b0 := eq_true (of_decide_eq_true (by first | (with_reducible assumption) | assumption) : 0 ≤ x24_1)
   by_cases c15 : x24_1 ≤ (l0_1.length : Int)
   rotate_left
   ·rw [if_neg c15] at H
    exact absurd H (by simp)
   rw [if_pos c15] at H
   have c15b0 := eq_true c15
   have c15b1 : decide (x24_1 ≤ (l0_1.length : Int)) = true := decide_eq_true c15
   have KFc15 := a_ c15
   clear c15
   have H' := a_ H
   clear H
   have p257 : 0 ≤ (x24_1 : Int) := of_decide_eq_true (by first | (with_reducible assumption) | assumption)
   have q257 : x24_1 < (l0_1.length : Int) := of_decide_eq_true (by first | (with_reducible assumption) | assumption)
   obtain ⟨ad257, e257, hx257_0⟩ := Kd.at_string HR0_1.out x24_1 p257 q257
   cases e257
   replace hx257_0 := (HB.out.cell (World.block_lt_of_cell? w _ hx257_0)).trans hx257_0
   replace p257 := eq_true p257
   replace q257 := eq_true q257
   go_wp2_with (first | ((with_reducible refine gate_callee (f := 86) rfl ?_); refine goesL_ (some 30) rfl rfl Try.func86 (by kernel_rfl) rfl #[.string (rdOf ByteArray.empty l0_1 x24_1)] rfl (by (try simp only [List.map_toArray, List.map_cons, List.map_nil]); first | done | rfl | (simp only [List.length_drop, List.length_take]; rfl)) ?_; (with_reducible refine (c_exponents.calls k1 (rdOf ByteArray.empty l0_1 x24_1) t258 t259 _ A11.out).mono ?_); rintro e w16 ⟨rfl, hb⟩; refine ⟨_, rfl, ?_⟩; replace BK255 := a_ (kB_ BK255.out (tr hb)); replace HB := a_ (bT_ (by exact gs HB.out) hb); (try clear hb); (try clear hb2); (try clear hk); (try clear hi)) | ((with_reducible refine gate_dst (N := 9) rfl ?_); refine box_event ?hg (N := 9) ?hd (cs := #[.int .i64 0, .int .i64 0]) (t := 99) ?hr ?_; (case hd => rfl); (case hg => rfl); (case hr => first | (go_simp; done) | (go_simp; rfl)); intro gb260 hg w17 hbox hb; have BK260 := a_ (hbox); have GW260 := a_ ((by rw [hg]; exact (bZ_ (by exact gs HB.out)) : w.heap.size ≤ gb260)); have GE260 := GEc.mk ((by rw [hg]; exact (bZ_ (by exact gs HB.out)) : w.heap.size ≤ gb260)); have NB255_260 := NEc.mk ((by rw [hg]; exact Nat.ne_of_lt (blk_lt (g := gb255) (o := .cells #[.int .i64 a0_0, .slice (some ad257) l0_1.length c0_1] 55 (0, 0)) (by exact bk BK255.out)) : gb255 ≠ gb260)); have NB260_255 := NEc.mk ((by rw [hg]; exact Nat.ne_of_gt (blk_lt (g := gb255) (o := .cells #[.int .i64 a0_0, .slice (some ad257) l0_1.length c0_1] 55 (0, 0)) (by exact bk BK255.out)) : gb260 ≠ gb255)); replace BK255 := a_ (kB_ BK255.out (tr hb)); replace HB := a_ (bT_ (by exact gs HB.out) hb); clear hb hbox hg; have hnb18 := NB260_255.out; have hnc18 := NB255_260.out; have hcz19_0 : w17.cell? ⟨gb260, 0, none⟩ = some (.int .i64 0) := (kc_ BK260.out 0).trans rfl; have hcz19_1 : w17.cell? ⟨gb260, 1, none⟩ = some (.int .i64 0) := (kc_ BK260.out 1).trans rfl; have hfz19_0 := kf_ BK260.out 0; have hfz19_1 := kf_ BK260.out 1) | ((with_reducible refine gate_callee (f := 87) rfl ?_); refine goesL_ (some 36) rfl rfl Try.func87 (by kernel_rfl) rfl #[.int .i64 t258, .int .i64 t259] rfl (by (try simp only [List.map_toArray, List.map_cons, List.map_nil]); first | done | rfl | (simp only [List.length_drop, List.length_take]; rfl)) ?_; (with_reducible refine (c_gcd.calls k1 t258 t259 t261 _ A12.out).mono ?_); rintro e w20 ⟨rfl, hb⟩; refine ⟨_, rfl, ?_⟩; replace BK255 := a_ (kB_ (g := gb255) (o := .cells #[.int .i64 a0_0, .slice (some ad257) l0_1.length c0_1] 55 (0, 0)) (by exact bk BK255.out) hb); replace BK260 := a_ (kB_ (g := gb260) (o := .cells #[.int .i64 t258, .int .i64 t259] 99 (0, 0)) (by exact pb BK260.out (by rfl)) hb); replace HB := a_ (bT_ (by exact gs HB.out) hb); (try clear hb); (try clear hb2); (try clear hk); (try clear hi)) | ((with_reducible refine gate_callee (f := 87) rfl ?_); refine goesL_ (some 37) rfl rfl Try.func87 (by kernel_rfl) rfl #[.int .i64 x5_1, .int .i64 t261] rfl (by (try simp only [List.map_toArray, List.map_cons, List.map_nil]); first | done | rfl | (simp only [List.length_drop, List.length_take]; rfl)) ?_; (with_reducible refine (c_gcd.calls k1 x5_1 t261 t262 _ A13.out).mono ?_); rintro e w21 ⟨rfl, hb⟩; refine ⟨_, rfl, ?_⟩; replace BK255 := a_ (kB_ BK255.out (tr hb)); replace BK260 := a_ (kB_ BK260.out (tr hb)); replace HB := a_ (bT_ (by exact gs HB.out) hb); (try clear hb); (try clear hb2); (try clear hk); (try clear hi); have hcz22_0 : w21.cell? ⟨gb255, 0, none⟩ = some (.int .i64 a0_0) := (kc_ BK255.out 0).trans rfl; have hcz22_1 : w21.cell? ⟨gb255, 1, none⟩ = some (.slice (some ad257) l0_1.length c0_1) := (kc_ BK255.out 1).trans rfl; have hfz22_0 := kf_ BK255.out 0; have hfz22_1 := kf_ BK255.out 1; obtain ⟨i023, hi023, _, hsz23, _⟩ := info_parts info9; obtain ⟨hcut23, hA23, hC23⟩ := print_take_of (P := Try.prog) Value.string (⟨#[]⟩ : ByteArray) 26 9 .i64 Try.underlying26 hi023 hsz23 (some ad257) c0_1 l0_1 x24_1 (of_decide_eq_true (by first | (with_reducible assumption) | assumption)) (of_decide_eq_true (by first | (with_reducible assumption) | assumption)) HC0_1.out; have HR263 := a_ (Kd.C_of_reads (h1 := fun _ => rfl) (hA23 _ (Kd.reads_of_C HR0_1.out))); have HC263 := a_ hC23; clear hA23 hC23 hi023 hsz23))
   go_loopg [6, 43] k1 (fun kq v6 v43 w' => ∃ (x6_2 : Int) (x43_2 : Int), v6 = .int .i64 x6_2 ∧ v43 = .int .i64 x43_2 ∧ Aside0 (c_Factors.l1 kq t262 x6_2 l0_1 (l0_1.length : Int) x24_1 (l0_1.take (x24_1 : Int).toNat) ((l0_1.take (x24_1 : Int).toNat).length : Int) x43_2 a0_0 l0_1 t258 t259 = some (r1, r2, r3)) ∧ Aside0 (kq ≤ k1) ∧ Aside0 (w'.heap[gb255]? = some (.cells #[.int .i64 a0_0, (.slice (some ad257) l0_1.length c0_1)] 55 (0, 0))) ∧ Aside0 (w'.heap[gb260]? = some (.cells #[.int .i64 t258, .int .i64 t259] 99 (0, 0))) ∧ Aside0 (Below w.heap.size w w'))
   case atStart => exact ⟨(x6_1), (0), (by first | rfl | (simp; done) | (simp [*]; done)), (by first | rfl | (simp; done) | (simp [*]; done)), H', ⟨Nat.le_refl _⟩, ⟨by exact bk BK255.out⟩, ⟨by exact bk BK260.out⟩, ⟨by exact gs HB.out⟩⟩
   clear H'
   try clear c1
   try clear p2
   try clear q2
   try clear hx2
   try clear c3
   try clear c6
   try clear c7
   try clear c8
   try clear c8b0
   try clear c9
   try clear c9b0
   try clear c10
   try clear c10b0
   try clear c14
   try clear c14b0
   try clear c15
   try clear c15b0
   try clear c15b1
   try clear c18
   try clear hcz19_0 hcz19_1
   try clear hcz22_0 hcz22_1
   try clear hcz5_0 hcz5_1
   try clear hcz7_0 hcz7_1
   try clear hfz19_0 hfz19_1
   try clear hfz22_0 hfz22_1
   try clear hfz5_0 hfz5_1
   try clear hfz7_0 hfz7_1
   try clear hx257_0
   try clear p2
   try clear p257
   try clear q257
   obtain ⟨x6_2, x43_2, rfl, rfl, HA, HK2, BK255, BK260, HB⟩ := hrel
   cases gk with
   | zero => exact absurd HA.out (by simp [c_Factors.l1])
   | succ k2 =>
    have H := HA.out
    clear HA
    simp only [c_Factors.l1] at H
    by_cases c24 : x43_2 < ((l0_1.take (x24_1 : Int).toNat).length : Int)
    rotate_left
    ·rw [if_neg c24] at H
     have c24b0 : decide (x43_2 < ((l0_1.take (x24_1 : Int).toNat).length : Int)) = false := decide_eq_false c24
     (try (have c24bm : decide (x43_2 < max x24_1 0) = false := by have q_ : ((l0_1.take (x24_1 : Int).toNat).length : Int) = max x24_1 0 := (by rw [List.length_take]; first | omega | (have h_0 := KFc15.out; omega) | (have h_ : (x24_1 : Int) ≤ (l0_1.length : Int) := of_decide_eq_true (by first | (with_reducible assumption) | assumption); omega)); rw [← q_]; exact decide_eq_false c24))
     (try (have c24bn : (x43_2 < max x24_1 0) = False := eq_false (of_decide_eq_false c24bm)))
     clear c24
     have H' := a_ H
     clear H
     go_wp2
     go_roundg k2
     case measure => have := HK1.out; have := HK2.out; omega
     case rel => exact ⟨(t262), (x6_2), (wrap64 (x24_1 + 1)), (by first | rfl | (simp; done) | (simp [*]; done)), (by first | rfl | (simp; done) | (simp [*]; done)), (by first | rfl | (simp; done) | (simp [*]; done)), H', ⟨by have := HK1.out; have := HK2.out; omega⟩, ⟨by exact bk BK255.out⟩, ⟨by exact gs HB.out⟩⟩
    rw [if_pos c24] at H
    have c24b0 : decide (x43_2 < ((l0_1.take (x24_1 : Int).toNat).length : Int)) = true := decide_eq_true c24
    (try (have c24bm : decide (x43_2 < max x24_1 0) = true := by have q_ : ((l0_1.take (x24_1 : Int).toNat).length : Int) = max x24_1 0 := (by rw [List.length_take]; first | omega | (have h_0 := KFc15.out; omega) | (have h_ : (x24_1 : Int) ≤ (l0_1.length : Int) := of_decide_eq_true (by first | (with_reducible assumption) | assumption); omega)); rw [← q_]; exact decide_eq_true c24))
    (try (have c24bn : (x43_2 < max x24_1 0) = True := eq_true (of_decide_eq_true c24bm)))
    clear c24
    by_cases c25 : 0 ≤ x43_2
    rotate_left
    ·rw [if_neg c25] at H
     exact absurd H (by simp)
    rw [if_pos c25] at H
    have c25b0 : decide (0 ≤ x43_2) = true := decide_eq_true c25
    clear c25
    by_cases c26 : x43_2 < ((l0_1.take (x24_1 : Int).toNat).length : Int)
    rotate_left
    ·rw [if_neg c26] at H
     exact absurd H (by simp)
    rw [if_pos c26] at H
    have c26b0 : decide (x43_2 < ((l0_1.take (x24_1 : Int).toNat).length : Int)) = true := decide_eq_true c26
    (try (have c26bm : decide (x43_2 < max x24_1 0) = true := by have q_ : ((l0_1.take (x24_1 : Int).toNat).length : Int) = max x24_1 0 := (by rw [List.length_take]; first | omega | (have h_0 := KFc15.out; omega) | (have h_ : (x24_1 : Int) ≤ (l0_1.length : Int) := of_decide_eq_true (by first | (with_reducible assumption) | assumption); omega)); rw [← q_]; exact decide_eq_true c26))
    (try (have c26bn : (x43_2 < max x24_1 0) = True := eq_true (of_decide_eq_true c26bm)))
    clear c26
    replace H := Option.bind_eq_some_iff.mp H
    obtain ⟨⟨t265, t266⟩, A270, H⟩ := H
    try dsimp only at H
    have A27 := a_ A270
    clear A270
    replace H := Option.bind_eq_some_iff.mp H
    obtain ⟨t268, A280, H⟩ := H
    try dsimp only at H
    have A28 := a_ A280
    clear A280
    have H' := a_ H
    clear H
    have p264 : 0 ≤ (x43_2 : Int) := of_decide_eq_true (by first | (with_reducible assumption) | assumption)
    have q264 : x43_2 < ((l0_1.take (x24_1 : Int).toNat).length : Int) := of_decide_eq_true (by first | (with_reducible assumption) | assumption)
    obtain ⟨ad264, e264, hx264_0⟩ := Kd.at_string HR263.out x43_2 p264 q264
    obtain rfl : ad257 = ad264 := (by injection e264)
    replace hx264_0 := (HB.out.cell (World.block_lt_of_cell? w _ hx264_0)).trans hx264_0
    replace p264 := eq_true p264
    replace q264 := eq_true q264
    go_wp2_with (first | ((with_reducible refine gate_callee (f := 86) rfl ?_); refine goesL_ (some 48) rfl rfl Try.func86 (by kernel_rfl) rfl #[.string (rdOf ByteArray.empty (l0_1.take (x24_1 : Int).toNat) x43_2)] rfl (by (try simp only [List.map_toArray, List.map_cons, List.map_nil]); first | done | rfl | (simp only [List.length_drop, List.length_take]; rfl)) ?_; (with_reducible refine (c_exponents.calls k2 (rdOf ByteArray.empty (l0_1.take (x24_1 : Int).toNat) x43_2) t265 t266 _ A27.out).mono ?_); rintro e w29 ⟨rfl, hb⟩; refine ⟨_, rfl, ?_⟩; replace BK255 := a_ (kB_ BK255.out (tr hb)); replace BK260 := a_ (kB_ BK260.out (tr hb)); replace HB := a_ (bT_ (by exact gs HB.out) hb); (try clear hb); (try clear hb2); (try clear hk); (try clear hi)) | ((with_reducible refine gate_dst (N := 12) rfl ?_); refine box_event ?hg (N := 12) ?hd (cs := #[.int .i64 0, .int .i64 0]) (t := 99) ?hr ?_; (case hd => rfl); (case hg => rfl); (case hr => first | (go_simp; done) | (go_simp; rfl)); intro gb267 hg w30 hbox hb; have BK267 := a_ (hbox); have GW267 := a_ ((by rw [hg]; exact (bZ_ (by exact gs HB.out)) : w.heap.size ≤ gb267)); have GE267 := GEc.mk ((by rw [hg]; exact (bZ_ (by exact gs HB.out)) : w.heap.size ≤ gb267)); have NB255_267 := NEc.mk ((by rw [hg]; exact Nat.ne_of_lt (blk_lt (g := gb255) (o := .cells #[.int .i64 a0_0, .slice (some ad257) l0_1.length c0_1] 55 (0, 0)) (by exact bk BK255.out)) : gb255 ≠ gb267)); have NB267_255 := NEc.mk ((by rw [hg]; exact Nat.ne_of_gt (blk_lt (g := gb255) (o := .cells #[.int .i64 a0_0, .slice (some ad257) l0_1.length c0_1] 55 (0, 0)) (by exact bk BK255.out)) : gb267 ≠ gb255)); have NB260_267 := NEc.mk ((by rw [hg]; exact Nat.ne_of_lt (blk_lt (g := gb260) (o := .cells #[.int .i64 t258, .int .i64 t259] 99 (0, 0)) (by exact bk BK260.out)) : gb260 ≠ gb267)); have NB267_260 := NEc.mk ((by rw [hg]; exact Nat.ne_of_gt (blk_lt (g := gb260) (o := .cells #[.int .i64 t258, .int .i64 t259] 99 (0, 0)) (by exact bk BK260.out)) : gb267 ≠ gb260)); replace BK255 := a_ (kB_ BK255.out (tr hb)); replace BK260 := a_ (kB_ BK260.out (tr hb)); replace HB := a_ (bT_ (by exact gs HB.out) hb); clear hb hbox hg; have hnb31 := NB267_255.out; have hnc31 := NB255_267.out; have hnb32 := NB267_260.out; have hnc32 := NB260_267.out; have hcz33_0 : w30.cell? ⟨gb267, 0, none⟩ = some (.int .i64 0) := (kc_ BK267.out 0).trans rfl; have hcz33_1 : w30.cell? ⟨gb267, 1, none⟩ = some (.int .i64 0) := (kc_ BK267.out 1).trans rfl; have hfz33_0 := kf_ BK267.out 0; have hfz33_1 := kf_ BK267.out 1; have hnb34 := NB260_255.out; have hnc34 := NB255_260.out; have hcz35_0 : w30.cell? ⟨gb260, 0, none⟩ = some (.int .i64 t258) := (kc_ BK260.out 0).trans rfl; have hcz35_1 : w30.cell? ⟨gb260, 1, none⟩ = some (.int .i64 t259) := (kc_ BK260.out 1).trans rfl; have hfz35_0 := kf_ BK260.out 0; have hfz35_1 := kf_ BK260.out 1) | ((with_reducible refine gate_callee (f := 87) rfl ?_); refine goesL_ (some 61) rfl rfl Try.func87 (by kernel_rfl) rfl #[.int .i64 x6_2, .int .i64 (wrap64 ((wrap64 (t258 * t266)) - (wrap64 (t259 * t265))))] rfl (by (try simp only [List.map_toArray, List.map_cons, List.map_nil]); first | done | rfl | (simp only [List.length_drop, List.length_take]; rfl)) ?_; (with_reducible refine (c_gcd.calls k2 x6_2 (wrap64 ((wrap64 (t258 * t266)) - (wrap64 (t259 * t265)))) t268 _ A28.out).mono ?_); rintro e w36 ⟨rfl, hb⟩; refine ⟨_, rfl, ?_⟩; replace BK255 := a_ (kB_ (g := gb255) (o := .cells #[.int .i64 a0_0, .slice (some ad257) l0_1.length c0_1] 55 (0, 0)) (by exact bk BK255.out) hb); replace BK260 := a_ (kB_ (g := gb260) (o := .cells #[.int .i64 t258, .int .i64 t259] 99 (0, 0)) (by exact bk BK260.out) hb); replace BK267 := a_ (kB_ (g := gb267) (o := .cells #[.int .i64 t265, .int .i64 t266] 99 (0, 0)) (by exact pb BK267.out (by rfl)) hb); replace HB := a_ (bT_ (by exact gs HB.out) hb); (try clear hb); (try clear hb2); (try clear hk); (try clear hi)))
    go_roundg k2
    case measure => have := HK1.out; have := HK2.out; omega
    case rel => exact ⟨(t268), (wrap64 (x43_2 + 1)), (by first | rfl | (simp; done) | (simp [*]; done)), (by first | rfl | (simp; done) | (simp [*]; done)), H', ⟨by have := HK1.out; have := HK2.out; omega⟩, ⟨by exact bk BK255.out⟩, ⟨by exact bk BK260.out⟩, ⟨by exact gs HB.out⟩⟩
  rw [if_neg c8] at H
  have c8b0 : decide (x24_1 < (l0_1.length : Int)) = false := decide_eq_false c8
  clear c8
  obtain ⟨y269, hy269⟩ : ∃ y_ : List Int, y_ = (([x5_1] : List Int)) := ⟨_, rfl⟩
  replace H : (if a0_0 = 2 then (if (mx x5_1 1) = 0 then (none) else (c_Factors.j2 k1 (([x5_1, wrap64 (Int.tdiv x6_1 (mx x5_1 1))] : List Int)))) else (c_Factors.j2 k1 y269)) = some (r1, r2, r3) := by first | (rw [hy269]; with_reducible exact H) | (have H2_ := (Option.bind_some _ _).symm.trans H; rw [hy269]; with_reducible exact H2_) | (have H2_ := (Option.bind_some _ _).symm.trans H; with_reducible exact H2_) | with_reducible exact H | (rw [hy269]; exact H) | exact H
  have Ny269 := a_ hy269
  clear hy269
  have HC37 := a_ H
  clear H
  go_upto_if 68 with (first | ((with_reducible refine gate_dst (N := 65) rfl ?_); refine Kd.R_lit (Kd.int .i64) _ 3 ?hg (N := 65) ?hd (xs := ([x5_1] : List Int)) (inner := [.int .i64 x5_1]) (ok := fun _ => True) (okp := fun _ => True) ?hr ?hp (fun _ hk => hk) trivial (Below.refl _ _) (Nat.le_refl _) (by simp) ?_; (case hd => rfl); (case hg => rfl); (case hr => first | (go_simp; done) | (go_simp; rfl)); (case hp => exact (Reps.one (show Kd.M (Kd.int .i64) _ _ _ x5_1 [.int .i64 x5_1] from rfl) (Reps.none _ _))); intro v270 w38 ho39 hb hg_ hnew_; clear hg_ hnew_; (first | rw [← Ny269.out] at ho39 | (simp only [Int.reduceToNat] at ho39; rw [← Ny269.out] at ho39)); have HO271 := a_ (Kd.R_lower ho39 (bZ_ (by exact gs HB.out))); replace BK255 := a_ (kB_ BK255.out (tr hb)); replace HB := a_ (bT_ (by exact gs HB.out) hb); clear hb ho39; have hcz40_0 : w38.cell? ⟨gb255, 0, none⟩ = some (.int .i64 a0_0) := (kc_ BK255.out 0).trans rfl; have hcz40_1 : w38.cell? ⟨gb255, 1, none⟩ = some (.slice A0_1 l0_1.length c0_1) := (kc_ BK255.out 1).trans rfl; have hfz40_0 := kf_ BK255.out 0; have hfz40_1 := kf_ BK255.out 1))
  (try simp only [Act.put, List.setIfInBounds_toArray, List.set_cons_zero, List.set_cons_succ])
  go_cut [13] (fun v13 wc => ∃ (kq : Nat) (x13_36 : List Int), Aside0 (c_Factors.j2 kq x13_36 = some (r1, r2, r3)) ∧ Aside0 (kq ≤ k1) ∧ Aside0 (Kd.R (Kd.int .i64) 3 wc w.heap.size (fun _ => True) v13 x13_36) ∧ Aside0 (wc.heap[gb255]? = some (.cells #[.int .i64 a0_0, (.slice A0_1 l0_1.length c0_1)] 55 (0, 0))) ∧ Aside0 (Below w.heap.size w wc))
  case first =>
   have H := HC37.out
   clear HC37
   by_cases c41 : a0_0 = 2
   rotate_left
   ·rw [if_neg c41] at H
    have c41b0 : (a0_0 == 2) = false := beq_eq_false_iff_ne.mpr c41
    have c41b1 : (a0_0 != 2) = true := bne_iff_ne.mpr c41
    (first | rw [c41b0] | (simp only [i64_w, i32_w]; rw [c41b0]) | skip)
    have H' := a_ H
    clear H
    go_wp2
    go_meet
    case rel => exact ⟨_, (y269), H', ⟨by have := HK1.out; first | omega | exact Nat.le_refl _⟩, ⟨by exact rk HO271.out⟩, ⟨by exact bk BK255.out⟩, ⟨by exact gs HB.out⟩⟩
   rw [if_pos c41] at H
   have c41b0 : (a0_0 == 2) = true := beq_iff_eq.mpr c41
   have c41b1 : (a0_0 != 2) = false := bne_eq_false_iff_eq.mpr c41
   clear c41
   (first | rw [c41b0] | (simp only [i64_w, i32_w]; rw [c41b0]) | skip)
   obtain ⟨ji42, hji42⟩ : ∃ j_ : Int, (mx x5_1 1) = j_ := ⟨_, rfl⟩
   replace H : (if (ji42) = 0 then (none) else (c_Factors.j2 k1 (([x5_1, wrap64 (Int.tdiv x6_1 (ji42))] : List Int)))) = some (r1, r2, r3) := by first | (rw [hji42] at H; exact H) | (simp only [hji42] at H ⊢; exact H)
   have hji42_ : (if x5_1 < 1 then 1 else x5_1) = ji42 := hji42
   by_cases c43 : (ji42) = 0
   ·rw [if_pos c43] at H
    exact absurd H (by simp)
   rw [if_neg c43] at H
   have c43b0 : ((ji42) == 0) = false := beq_eq_false_iff_ne.mpr c43
   have c43b1 : ((ji42) != 0) = true := bne_iff_ne.mpr c43
   obtain ⟨y272, hy272⟩ : ∃ y_ : List Int, y_ = (([x5_1, wrap64 (Int.tdiv x6_1 (ji42))] : List Int)) := ⟨_, rfl⟩
   replace H : (c_Factors.j2 k1 y272) = some (r1, r2, r3) := by first | (rw [hy272]; with_reducible exact H) | (have H2_ := (Option.bind_some _ _).symm.trans H; rw [hy272]; with_reducible exact H2_) | (have H2_ := (Option.bind_some _ _).symm.trans H; with_reducible exact H2_) | with_reducible exact H | (rw [hy272]; exact H) | exact H
   have Ny272 := a_ hy272
   clear hy272
   have H' := a_ H
   clear H
   go_wp2_with (first | ((with_reducible refine gate_dst (N := 74) rfl ?_); refine Kd.R_lit (Kd.int .i64) _ 3 ?hg (N := 74) ?hd (xs := ([x5_1, wrap64 (Int.tdiv x6_1 (ji42))] : List Int)) (inner := [.int .i64 x5_1, .int .i64 (wrap64 (Int.tdiv x6_1 (ji42)))]) (ok := fun _ => True) (okp := fun _ => True) ?hr ?hp (fun _ hk => hk) trivial (Below.refl _ _) (Nat.le_refl _) (by simp) ?_; (case hd => rfl); (case hg => rfl); (case hr => first | (go_simp; done) | (go_simp; rfl)); (case hp => exact (Reps.one (show Kd.M (Kd.int .i64) _ _ _ x5_1 [.int .i64 x5_1] from rfl) (Reps.one (show Kd.M (Kd.int .i64) _ _ _ (wrap64 (Int.tdiv x6_1 (ji42))) [.int .i64 (wrap64 (Int.tdiv x6_1 (ji42)))] from rfl) (Reps.none _ _)))); intro v273 w44 ho45 hb hg_ hnew_; clear hg_ hnew_; (first | rw [← Ny272.out] at ho45 | (simp only [Int.reduceToNat] at ho45; rw [← Ny272.out] at ho45)); have HO274 := a_ (Kd.R_lower (Kd.R_new' ho45 (Kd.R_lt (by exact rk HO271.out))) (bZ_ (by exact gs HB.out))); replace HO271 := a_ (Kd.R_elder' (by exact rk HO271.out) (Kd.R_base ho45) hb); replace BK255 := a_ (kB_ BK255.out (tr hb)); replace HB := a_ (bT_ (by exact gs HB.out) hb); clear hb ho45))
   go_meet
   case rel => exact ⟨_, (y272), H', ⟨by have := HK1.out; first | omega | exact Nat.le_refl _⟩, ⟨by exact rk (Kd.R_mono HO274.out (fun _ hk => trivial))⟩, ⟨by exact bk BK255.out⟩, ⟨by exact gs HB.out⟩⟩
  case rest =>
   clear HC37
   try clear c1
   try clear c2
   try clear p2
   try clear q2
   try clear hx2
   try clear c3
   try clear c4
   try clear c6
   try clear p6
   try clear c7
   try clear c8
   try clear c8b0
   try clear c9
   try clear c9b0
   try clear c10
   try clear c10b0
   try clear c14
   try clear c14b0
   try clear c15
   try clear c15b0
   try clear c15b1
   try clear c18
   try clear c24
   try clear c24b0
   try clear c25
   try clear c25b0
   try clear p25
   try clear q25
   try clear hx25
   try clear c26
   try clear c26b0
   try clear p26
   try clear q26
   try clear hx26
   try clear c31
   try clear c32
   try clear c34
   try clear c41
   try clear c41b0
   try clear c41b1
   try clear c43
   try clear c43b0
   try clear c43b1
   try clear hcz19_0 hcz19_1
   try clear hcz22_0 hcz22_1
   try clear hcz33_0 hcz33_1
   try clear hcz35_0 hcz35_1
   try clear hcz40_0 hcz40_1
   try clear hcz5_0 hcz5_1
   try clear hcz7_0 hcz7_1
   try clear hfz19_0 hfz19_1
   try clear hfz22_0 hfz22_1
   try clear hfz33_0 hfz33_1
   try clear hfz35_0 hfz35_1
   try clear hfz40_0 hfz40_1
   try clear hfz5_0 hfz5_1
   try clear hfz7_0 hfz7_1
   try clear hx257_0
   try clear hx264_0
   try clear p2
   try clear p257
   try clear p264
   try clear q2
   try clear q257
   try clear q264
   obtain ⟨kq, x13_36, HA, HJ36, HO_13, BK255, HB⟩ := hcut
   cases kq with
   | zero => exact absurd HA.out (by simp [c_Factors.j2])
   | succ kj36 =>
    have H := HA.out
    clear HA
    simp only [c_Factors.j2] at H
    have H' := a_ H
    clear H
    obtain ⟨Ao46, co46, eo46⟩ := Kd.R_slice HO_13.out
    subst eo46
    go_wp2
    go_loopg [14, 15, 77] kj36 (fun kq v14 v15 v77 w' => ∃ (x14_3 : List Int) (x15_3 : Int) (x77_3 : Int), v15 = .int .i64 x15_3 ∧ v77 = .int .i64 x77_3 ∧ Aside0 (c_Factors.l2 kq x14_3 x15_3 x13_36 (x13_36.length : Int) x77_3 = some (r1, r2, r3)) ∧ Aside0 (kq ≤ kj36) ∧ Aside0 (Kd.R (Kd.int .i64) 3 w' w.heap.size (fun k_ => some k_ ≠ ((.slice Ao46 x13_36.length co46) : Value).ownBlock) v14 x14_3) ∧ Aside0 (Kd.R (Kd.int .i64) 3 w' w.heap.size (fun k_ => some k_ ≠ (v14 : Value).ownBlock) (.slice Ao46 x13_36.length co46) x13_36) ∧ Aside0 (w'.heap[gb255]? = some (.cells #[.int .i64 a0_0, (.slice A0_1 l0_1.length c0_1)] 55 (0, 0))) ∧ Aside0 (Below w.heap.size w w'))
    case atStart => exact ⟨(([] : List Int)), (0), (0), (by first | rfl | (simp; done) | (simp [*]; done)), (by first | rfl | (simp; done) | (simp [*]; done)), H', ⟨Nat.le_refl _⟩, ⟨by first | exact Kd.R_nil _ _ _ _ _ | exact Kd.N_nil _ _ _ _ _ | exact Kd.V_nil _ _ _ _ _ | exact Kd.Q_nil _ _ _ _ _ | exact Kd.S_nil _ _ _ _ _⟩, ⟨by exact rk (Kd.R_mono HO_13.out (fun _ hk => (by simp [Value.ownBlock])))⟩, ⟨by exact bk BK255.out⟩, ⟨by exact gs HB.out⟩⟩
    clear H'
    try clear c1
    try clear c2
    try clear p2
    try clear q2
    try clear hx2
    try clear c3
    try clear c4
    try clear c6
    try clear p6
    try clear c7
    try clear c8
    try clear c8b0
    try clear c9
    try clear c9b0
    try clear c10
    try clear c10b0
    try clear c14
    try clear c14b0
    try clear c15
    try clear c15b0
    try clear c15b1
    try clear c18
    try clear c24
    try clear c24b0
    try clear c25
    try clear c25b0
    try clear p25
    try clear q25
    try clear hx25
    try clear c26
    try clear c26b0
    try clear p26
    try clear q26
    try clear hx26
    try clear c31
    try clear c32
    try clear c34
    try clear c41
    try clear c41b0
    try clear c41b1
    try clear c43
    try clear c43b0
    try clear c43b1
    try clear hcz19_0 hcz19_1
    try clear hcz22_0 hcz22_1
    try clear hcz33_0 hcz33_1
    try clear hcz35_0 hcz35_1
    try clear hcz40_0 hcz40_1
    try clear hcz5_0 hcz5_1
    try clear hcz7_0 hcz7_1
    try clear hfz19_0 hfz19_1
    try clear hfz22_0 hfz22_1
    try clear hfz33_0 hfz33_1
    try clear hfz35_0 hfz35_1
    try clear hfz40_0 hfz40_1
    try clear hfz5_0 hfz5_1
    try clear hfz7_0 hfz7_1
    try clear hx257_0
    try clear hx264_0
    try clear p2
    try clear p25
    try clear p257
    try clear p26
    try clear p264
    try clear p6
    try clear q2
    try clear q25
    try clear q257
    try clear q26
    try clear q264
    obtain ⟨x14_3, x15_3, x77_3, rfl, rfl, HA, HK3, HO_14, HO_75, BK255, HB⟩ := hrel
    cases gk with
    | zero => exact absurd HA.out (by simp [c_Factors.l2])
    | succ k3 =>
     have H := HA.out
     clear HA
     simp only [c_Factors.l2] at H
     by_cases c47 : x77_3 < (x13_36.length : Int)
     rotate_left
     ·rw [if_neg c47] at H
      have c47b0 : decide (x77_3 < (x13_36.length : Int)) = false := decide_eq_false c47
      clear c47
      simp only [Option.some.injEq, Prod.mk.injEq] at H
      obtain ⟨rfl, rfl, rfl⟩ := H
      go_wp2
      go_ret3
      exact ⟨_, by first | rfl | (simp [errW_none, errW_some] <;> rfl) | (simp [*, errW_none, errW_some] <;> rfl), by exact rk (Kd.R_mono HO_14.out (fun _ hk => trivial)), by exact gs HB.out⟩
     rw [if_pos c47] at H
     have c47b0 : decide (x77_3 < (x13_36.length : Int)) = true := decide_eq_true c47
     clear c47
     by_cases c48 : 0 ≤ x77_3
     rotate_left
     ·rw [if_neg c48] at H
      exact absurd H (by simp)
     rw [if_pos c48] at H
     have c48b0 : decide (0 ≤ x77_3) = true := decide_eq_true c48
     clear c48
     by_cases c49 : x77_3 < (x13_36.length : Int)
     rotate_left
     ·rw [if_neg c49] at H
      exact absurd H (by simp)
     rw [if_pos c49] at H
     have c49b0 : decide (x77_3 < (x13_36.length : Int)) = true := decide_eq_true c49
     clear c49
     by_cases c50 : (rd x13_36 x77_3) = 0
     ·rw [if_pos c50] at H
      have c50b0 : ((rd x13_36 x77_3) == 0) = true := beq_iff_eq.mpr c50
      have c50b1 : ((rd x13_36 x77_3) != 0) = false := bne_eq_false_iff_eq.mpr c50
      clear c50
      have H' := a_ H
      clear H
      have p275 : 0 ≤ (x77_3 : Int) := of_decide_eq_true (by first | (with_reducible assumption) | assumption)
      have q275 : x77_3 < (x13_36.length : Int) := of_decide_eq_true (by first | (with_reducible assumption) | assumption)
      obtain ⟨ad275, e275, hx275_0⟩ := Kd.at_int (Kd.R_reads' HO_75.out).2.2 x77_3 p275 q275
      cases e275
      replace p275 := eq_true p275
      replace q275 := eq_true q275
      go_wp2
      go_roundg k3
      case measure => have := HK1.out; have := HJ36.out; have := HK3.out; omega
      case rel => exact ⟨(x14_3), (wrap64 (x15_3 + 1)), (wrap64 (x77_3 + 1)), (by first | rfl | (simp; done) | (simp [*]; done)), (by first | rfl | (simp; done) | (simp [*]; done)), H', ⟨by have := HK1.out; have := HJ36.out; have := HK3.out; omega⟩, ⟨by exact rk HO_14.out⟩, ⟨by exact rk HO_75.out⟩, ⟨by exact bk BK255.out⟩, ⟨by exact gs HB.out⟩⟩
     rw [if_neg c50] at H
     have c50b0 : ((rd x13_36 x77_3) == 0) = false := beq_eq_false_iff_ne.mpr c50
     have c50b1 : ((rd x13_36 x77_3) != 0) = true := bne_iff_ne.mpr c50
     by_cases c51 : (rd x13_36 x77_3) > 1
     rotate_left
     ·rw [if_neg c51] at H
      have c51b0 : decide (1 < (rd x13_36 x77_3)) = false := decide_eq_false c51
      clear c51
      have H' := a_ H
      clear H
      have p275 : 0 ≤ (x77_3 : Int) := of_decide_eq_true (by first | (with_reducible assumption) | assumption)
      have q275 : x77_3 < (x13_36.length : Int) := of_decide_eq_true (by first | (with_reducible assumption) | assumption)
      obtain ⟨ad275, e275, hx275_0⟩ := Kd.at_int (Kd.R_reads' HO_75.out).2.2 x77_3 p275 q275
      cases e275
      replace p275 := eq_true p275
      replace q275 := eq_true q275
      go_wp2
      go_roundg k3
      case measure => have := HK1.out; have := HJ36.out; have := HK3.out; omega
      case rel => exact ⟨(x14_3), (x15_3), (wrap64 (x77_3 + 1)), (by first | rfl | (simp; done) | (simp [*]; done)), (by first | rfl | (simp; done) | (simp [*]; done)), H', ⟨by have := HK1.out; have := HJ36.out; have := HK3.out; omega⟩, ⟨by exact rk HO_14.out⟩, ⟨by exact rk HO_75.out⟩, ⟨by exact bk BK255.out⟩, ⟨by exact gs HB.out⟩⟩
     rw [if_pos c51] at H
     have c51b0 : decide (1 < (rd x13_36 x77_3)) = true := decide_eq_true c51
     clear c51
     by_cases c52 : x14_3.length < 17592186044416
     rotate_left
     ·rw [if_neg c52] at H
      exact absurd H (by simp)
     rw [if_pos c52] at H
     have LMc52 := a_ c52
     clear c52
     obtain ⟨y276, hy276⟩ : ∃ y_ : List Int, y_ = (x14_3 ++ [rd x13_36 x77_3]) := ⟨_, rfl⟩
     replace H : (c_Factors.l2 k3 y276 x15_3 x13_36 (x13_36.length : Int) (wrap64 (x77_3 + 1))) = some (r1, r2, r3) := by first | (rw [hy276]; with_reducible exact H) | (have H2_ := (Option.bind_some _ _).symm.trans H; rw [hy276]; with_reducible exact H2_) | (have H2_ := (Option.bind_some _ _).symm.trans H; with_reducible exact H2_) | with_reducible exact H | (rw [hy276]; exact H) | exact H
     have Ny276 := a_ hy276
     clear hy276
     have H' := a_ H
     clear H
     have p275 : 0 ≤ (x77_3 : Int) := of_decide_eq_true (by first | (with_reducible assumption) | assumption)
     have q275 : x77_3 < (x13_36.length : Int) := of_decide_eq_true (by first | (with_reducible assumption) | assumption)
     obtain ⟨ad275, e275, hx275_0⟩ := Kd.at_int (Kd.R_reads' HO_75.out).2.2 x77_3 p275 q275
     cases e275
     replace p275 := eq_true p275
     replace q275 := eq_true q275
     go_wp2_with (first | ((with_reducible refine gate_builtin (b := .append) (xs := #[.tmp 89, .tmp 91]) rfl ?_); at_builtin; refine Kd.R_append (Kd.int .i64) (w0 := w) w.heap.size rfl (.tmp 89) (.tmp 91) 22 3 (.int .i64 0) 8 rfl Try.underlying22 info3 rfl (by decide) (by omega) u14 x14_3 (rd x13_36 x77_3) [.int .i64 (rd x13_36 x77_3)] (fun k_ => some k_ ≠ (.slice (some ad275) x13_36.length co46 : Value).ownBlock) (fun _ => False) rfl rfl ?aP (fun _ hk => hk.elim) ?aF ?aO ?aB ?aS ?aL ?_; (case aP => exact rfl); (case aB => exact (by exact gs HB.out)); (case aF => exact (fun k_ hk => Kd.fresh' (Kd.R_lt (by exact rk HO_75.out)) k_ hk)); (case aO => exact (by exact rk HO_14.out)); (case aS => exact (bZ_ (by exact gs HB.out))); (case aL => have := LMc52.out; omega); intro v277 w53 ho hb hg hat; rw [← Ny276.out] at ho; have HO278 := a_ (ho); replace HO_75 := a_ (Kd.R_after (ok := (fun _ => True)) (by exact rk (Kd.R_mono HO_75.out (fun _ hk => ⟨trivial, hk⟩))) hg hat); replace BK255 := a_ (blk_grown (g := gb255) (o := .cells #[.int .i64 a0_0, .slice A0_1 l0_1.length c0_1] 55 (0, 0)) (by exact bk BK255.out) hg (Kd.R_ne HO_14.out BK255.out (by decide))); replace HB := a_ (hb); clear HO_14; clear ho hb hg hat))
     go_roundg k3
     case measure => have := HK1.out; have := HJ36.out; have := HK3.out; omega
     case rel => exact ⟨(y276), (x15_3), (wrap64 (x77_3 + 1)), (by first | rfl | (simp; done) | (simp [*]; done)), (by first | rfl | (simp; done) | (simp [*]; done)), H', ⟨by have := HK1.out; have := HJ36.out; have := HK3.out; omega⟩, ⟨by exact rk HO278.out⟩, ⟨by exact rk (Kd.R_mono HO_75.out (fun _ hk => hk.2))⟩, ⟨by exact bk BK255.out⟩, ⟨by exact gs HB.out⟩⟩
def rl_ints.l0 : Nat → List Int → List Int → Int → Option (Bool)
 | 0, _, _, _ => none
 | k + 1, x0, x1, x5 => if x5 < (x0.length : Int) then (if 0 ≤ x5 then (if x5 < (x1.length : Int) then (if (rd x0 x5) = (rd x1 x5) then (rl_ints.l0 k x0 x1 (wrap64 (x5 + 1))) else (some false)) else (none)) else (none)) else (some true)
def rl_ints.f (k : Nat) (l0 : List Int) (l1 : List Int) : Option (Bool) := if (l0.length : Int) = (l1.length : Int) then (rl_ints.l0 k l0 l1 0) else (some false)
theorem rl_ints.calls (k : Nat) (A0 : Option Addr) (c0 : Nat) (l0 : List Int) (A1 : Option Addr) (c1 : Nat) (l1 : List Int) (r : Bool) (w : World) (hr0 : Kd.C (Kd.int .i64) w A0 l0.length l0) (hc0 : l0.length ≤ c0) (hr1 : Kd.C (Kd.int .i64) w A1 l1.length l1) (hc1 : l1.length ≤ c1) (h : rl_ints.f k l0 l1 = some r) :
  Calls Try.prog 47 #[.slice A0 l0.length c0, .slice A1 l1.length c1] w fun e w' => e = .returned (.bool r) ∧ Drawn0 w w' := by
 have HR0 := a_ hr0
 have HC0 := a_ hc0
 clear hr0 hc0
 have HR1 := a_ hr1
 have HC1 := a_ hc1
 clear hr1 hc1
 have H : (if (l0.length : Int) = (l1.length : Int) then (rl_ints.l0 k l0 l1 0) else (some false)) = some r := h
 clear h
 by_cases c3 : (l0.length : Int) = (l1.length : Int)
 rotate_left
 ·rw [if_neg c3] at H
  have c3b0 : ((l0.length : Int) == (l1.length : Int)) = false := beq_eq_false_iff_ne.mpr c3
  have c3b1 : ((l0.length : Int) != (l1.length : Int)) = true := bne_iff_ne.mpr c3
  have c3b2 : (l0.length == l1.length) = false := by first | simpa using c3 | (simp at c3 ⊢; omega)
  obtain rfl := Option.some.inj H
  go_enter Try.func47, Try.ntmps47
  go_wp2
  repeat (go_quiet (fail); try go_wp2)
  go_ret
  exact ⟨by first | rfl | (simp; done) | (simp [*]; done), by repeat (first | exact Drawn0.refl _ | apply Drawn0.step)⟩
 rw [if_pos c3] at H
 have c3b0 : ((l0.length : Int) == (l1.length : Int)) = true := beq_iff_eq.mpr c3
 have c3b1 : ((l0.length : Int) != (l1.length : Int)) = false := bne_eq_false_iff_eq.mpr c3
 have c3b2 : (l0.length == l1.length) = true := by first | simpa using c3 | (simp at c3 ⊢; omega)
 clear c3
 have H' := a_ H
 clear H
 go_enter Try.func47, Try.ntmps47
 go_wp2
 repeat (go_quiet (fail); try go_wp2)
 go_loopg [5] k (fun kq v5 w' => ∃ (x5_1 : Int), v5 = .int .i64 x5_1 ∧ Aside0 (rl_ints.l0 kq l0 l1 x5_1 = some r) ∧ Aside0 (kq ≤ k) ∧ Drawn0 w w')
 case atStart => exact ⟨(0), (by first | rfl | (simp; done) | (simp [*]; done)), H', ⟨Nat.le_refl _⟩, by repeat (first | exact Drawn0.refl _ | apply Drawn0.step)⟩
 clear H'
 try clear c1
 try clear p2
 try clear c3
 try clear c3b0
 try clear c3b1
 try clear c3b2
 obtain ⟨x5_1, rfl, HA, HK1, ⟨m1, rfl⟩⟩ := hrel
 cases gk with
 | zero => exact absurd HA.out (by simp [rl_ints.l0])
 | succ k1 =>
  have H := HA.out
  clear HA
  simp only [rl_ints.l0] at H
  by_cases c4 : x5_1 < (l0.length : Int)
  rotate_left
  ·rw [if_neg c4] at H
   have c4b0 : decide (x5_1 < (l0.length : Int)) = false := decide_eq_false c4
   clear c4
   obtain rfl := Option.some.inj H
   go_wp2
   repeat (go_quiet (fail); try go_wp2)
   go_ret
   exact ⟨by first | rfl | (simp; done) | (simp [*]; done), by repeat (first | exact Drawn0.refl _ | apply Drawn0.step)⟩
  rw [if_pos c4] at H
  have c4b0 : decide (x5_1 < (l0.length : Int)) = true := decide_eq_true c4
  clear c4
  by_cases c5 : 0 ≤ x5_1
  rotate_left
  ·rw [if_neg c5] at H
   exact absurd H (by simp)
  rw [if_pos c5] at H
  have c5b0 : decide (0 ≤ x5_1) = true := decide_eq_true c5
  clear c5
  by_cases c6 : x5_1 < (l1.length : Int)
  rotate_left
  ·rw [if_neg c6] at H
   exact absurd H (by simp)
  rw [if_pos c6] at H
  have c6b0 : decide (x5_1 < (l1.length : Int)) = true := decide_eq_true c6
  clear c6
  by_cases c7 : (rd l0 x5_1) = (rd l1 x5_1)
  rotate_left
  ·rw [if_neg c7] at H
   have c7b0 : ((rd l0 x5_1) == (rd l1 x5_1)) = false := beq_eq_false_iff_ne.mpr c7
   have c7b1 : ((rd l0 x5_1) != (rd l1 x5_1)) = true := bne_iff_ne.mpr c7
   obtain rfl := Option.some.inj H
   have p250 : 0 ≤ (x5_1 : Int) := of_decide_eq_true (by first | (with_reducible assumption) | assumption)
   have q250 : x5_1 < (l0.length : Int) := of_decide_eq_true (by first | (with_reducible assumption) | assumption)
   obtain ⟨ad250, e250, hx250_0⟩ := Kd.at_int HR0.out x5_1 p250 q250
   cases e250
   replace p250 := eq_true p250
   replace q250 := eq_true q250
   have p251 : 0 ≤ (x5_1 : Int) := of_decide_eq_true (by first | (with_reducible assumption) | assumption)
   have q251 : x5_1 < (l1.length : Int) := of_decide_eq_true (by first | (with_reducible assumption) | assumption)
   obtain ⟨ad251, e251, hx251_0⟩ := Kd.at_int HR1.out x5_1 p251 q251
   cases e251
   replace p251 := eq_true p251
   replace q251 := eq_true q251
   go_wp2
   repeat (go_quiet (fail); try go_wp2)
   go_ret
   exact ⟨by first | rfl | (simp; done) | (simp [*]; done), by repeat (first | exact Drawn0.refl _ | apply Drawn0.step)⟩
  rw [if_pos c7] at H
  have c7b0 : ((rd l0 x5_1) == (rd l1 x5_1)) = true := beq_iff_eq.mpr c7
  have c7b1 : ((rd l0 x5_1) != (rd l1 x5_1)) = false := bne_eq_false_iff_eq.mpr c7
  clear c7
  have H' := a_ H
  clear H
  have p250 : 0 ≤ (x5_1 : Int) := of_decide_eq_true (by first | (with_reducible assumption) | assumption)
  have q250 : x5_1 < (l0.length : Int) := of_decide_eq_true (by first | (with_reducible assumption) | assumption)
  obtain ⟨ad250, e250, hx250_0⟩ := Kd.at_int HR0.out x5_1 p250 q250
  cases e250
  replace p250 := eq_true p250
  replace q250 := eq_true q250
  have p251 : 0 ≤ (x5_1 : Int) := of_decide_eq_true (by first | (with_reducible assumption) | assumption)
  have q251 : x5_1 < (l1.length : Int) := of_decide_eq_true (by first | (with_reducible assumption) | assumption)
  obtain ⟨ad251, e251, hx251_0⟩ := Kd.at_int HR1.out x5_1 p251 q251
  cases e251
  replace p251 := eq_true p251
  replace q251 := eq_true q251
  go_wp2
  repeat (go_quiet (fail); try go_wp2)
  go_roundg k1
  case measure => have := HK1.out; omega
  case rel => exact ⟨(wrap64 (x5_1 + 1)), (by first | rfl | (simp; done) | (simp [*]; done)), H', ⟨by have := HK1.out; omega⟩, by repeat (first | exact Drawn0.refl _ | apply Drawn0.step)⟩
def c_Count.f (k : Nat) (a0_0 : Int) (l0_1 : List ByteArray) (a1 : Int) : Option (Int × Int) := (c_isGroup.f a0_0 l0_1).bind fun t245 => (if t245 = true then ((c_within.f a1 1 5).bind fun t246 => (if t246 = true then ((c_tables.f k a0_0 l0_1 a1).bind fun t247 => (some ((t247.length : Int), 0))) else (some (0, 2)))) else (some (0, 2)))
theorem c_Count.calls (k : Nat) (a0_0 : Int) (A0_1 : Option Addr) (c0_1 : Nat) (l0_1 : List ByteArray) (a1 : Int) (r1 : Int) (r2 : Int) (w : World) (hr0_1 : Kd.C Kd.string w A0_1 l0_1.length l0_1) (hc0_1 : l0_1.length ≤ c0_1) (h : c_Count.f k a0_0 l0_1 a1 = some (r1, r2)) :
  Calls Try.prog 41 #[.agg #[.int .i64 a0_0, .slice A0_1 l0_1.length c0_1], .int .i64 a1] w fun e w' => e = .returned (.tuple #[.int .i64 r1, .int .i64 r2]) ∧ Below w.heap.size w w' := by
 have hu55 := Try.underlying55
 have HR0_1 := a_ hr0_1
 have HC0_1 := a_ hc0_1
 clear hr0_1 hc0_1
 have HB := a_ (Below.refl w.heap.size w)
 have H : ((c_isGroup.f a0_0 l0_1).bind fun t245 => (if t245 = true then ((c_within.f a1 1 5).bind fun t246 => (if t246 = true then ((c_tables.f k a0_0 l0_1 a1).bind fun t247 => (some ((t247.length : Int), 0))) else (some (0, 2)))) else (some (0, 2)))) = some (r1, r2) := h
 clear h
 replace H := Option.bind_eq_some_iff.mp H
 obtain ⟨t245, A30, H⟩ := H
 try dsimp only at H
 have A3 := a_ A30
 clear A30
 by_cases c4 : t245 = true
 rotate_left
 ·replace c4 := Bool.eq_false_iff.mpr c4
  subst c4
  have H1 := H; rw [if_neg (show ¬ (false = true) by decide)] at H1
  clear H
  have H := H1
  clear H1
  simp only [Option.some.injEq, Prod.mk.injEq] at H
  obtain ⟨rfl, rfl⟩ := H
  go_enter Try.func41, Try.ntmps41
  go_wp2_with (first | ((with_reducible refine gate_dst (N := 2) rfl ?_); refine box_event ?hg (N := 2) ?hd (cs := #[.int .i64 a0_0, .slice A0_1 l0_1.length c0_1]) (t := 55) ?hr ?_; (case hd => rfl); (case hg => rfl); (case hr => first | (go_simp; done) | (go_simp; rfl)); intro gb244 hg w17 hbox hb; have BK244 := a_ (hbox); have GW244 := a_ ((by rw [hg]; exact (bZ_ (gr HB.out)) : w.heap.size ≤ gb244)); have GE244 := GEc.mk ((by rw [hg]; exact (bZ_ (gr HB.out)) : w.heap.size ≤ gb244)); replace HB := a_ (bT_ HB.out (tr hb)); clear hb hbox hg; have hcz18_0 : w17.cell? ⟨gb244, 0, none⟩ = some (.int .i64 a0_0) := (kc_ BK244.out 0).trans rfl; have hcz18_1 : w17.cell? ⟨gb244, 1, none⟩ = some (.slice A0_1 l0_1.length c0_1) := (kc_ BK244.out 1).trans rfl; have hfz18_0 := kf_ BK244.out 0; have hfz18_1 := kf_ BK244.out 1) | ((with_reducible refine gate_callee (f := 74) rfl ?_); refine goesL_ (some 7) rfl rfl Try.func74 (by kernel_rfl) rfl #[.agg #[.int .i64 a0_0, .slice A0_1 l0_1.length c0_1]] rfl (by (try simp only [List.map_toArray, List.map_cons, List.map_nil]); first | done | rfl | (simp only [List.length_drop, List.length_take]; rfl)) ?_; (with_reducible refine (c_isGroup.calls a0_0 _ _ l0_1 false _ ?side1 ?side2 A3.out).mono ?_); (case side1 => repeat (first | exact (Kd.C_below HR0_1.out HB.out) | (with_reducible refine Kd.C_alloc ?_ _) | (with_reducible refine Kd.C_drewN ?_ _) | (with_reducible refine Kd.C_drew ?_))); (case side2 => exact HC0_1.out); rintro e w19 ⟨rfl, hb⟩; refine ⟨_, rfl, ?_⟩; replace BK244 := a_ (kB_ BK244.out (tr hb)); replace HB := a_ (bT_ (by exact gs HB.out) hb); (try clear hb); (try clear hb2); (try clear hk); (try clear hi)))
  go_ret2
  exact ⟨by first | rfl | (simp [errW_none, errW_some] <;> rfl) | (simp [*, errW_none, errW_some] <;> rfl), by exact gs HB.out⟩
 subst c4
 have H1 := H; rw [if_pos rfl] at H1
 clear H
 have H := H1
 clear H1
 replace H := Option.bind_eq_some_iff.mp H
 obtain ⟨t246, A50, H⟩ := H
 try dsimp only at H
 have A5 := a_ A50
 clear A50
 by_cases c6 : t246 = true
 rotate_left
 ·replace c6 := Bool.eq_false_iff.mpr c6
  subst c6
  have H1 := H; rw [if_neg (show ¬ (false = true) by decide)] at H1
  clear H
  have H := H1
  clear H1
  simp only [Option.some.injEq, Prod.mk.injEq] at H
  obtain ⟨rfl, rfl⟩ := H
  go_enter Try.func41, Try.ntmps41
  go_wp2_with (first | ((with_reducible refine gate_dst (N := 2) rfl ?_); refine box_event ?hg (N := 2) ?hd (cs := #[.int .i64 a0_0, .slice A0_1 l0_1.length c0_1]) (t := 55) ?hr ?_; (case hd => rfl); (case hg => rfl); (case hr => first | (go_simp; done) | (go_simp; rfl)); intro gb244 hg w14 hbox hb; have BK244 := a_ (hbox); have GW244 := a_ ((by rw [hg]; exact (bZ_ (gr HB.out)) : w.heap.size ≤ gb244)); have GE244 := GEc.mk ((by rw [hg]; exact (bZ_ (gr HB.out)) : w.heap.size ≤ gb244)); replace HB := a_ (bT_ HB.out (tr hb)); clear hb hbox hg; have hcz15_0 : w14.cell? ⟨gb244, 0, none⟩ = some (.int .i64 a0_0) := (kc_ BK244.out 0).trans rfl; have hcz15_1 : w14.cell? ⟨gb244, 1, none⟩ = some (.slice A0_1 l0_1.length c0_1) := (kc_ BK244.out 1).trans rfl; have hfz15_0 := kf_ BK244.out 0; have hfz15_1 := kf_ BK244.out 1) | ((with_reducible refine gate_callee (f := 74) rfl ?_); refine goesL_ (some 7) rfl rfl Try.func74 (by kernel_rfl) rfl #[.agg #[.int .i64 a0_0, .slice A0_1 l0_1.length c0_1]] rfl (by (try simp only [List.map_toArray, List.map_cons, List.map_nil]); first | done | rfl | (simp only [List.length_drop, List.length_take]; rfl)) ?_; (with_reducible refine (c_isGroup.calls a0_0 _ _ l0_1 true _ ?side1 ?side2 A3.out).mono ?_); (case side1 => repeat (first | exact (Kd.C_below HR0_1.out HB.out) | (with_reducible refine Kd.C_alloc ?_ _) | (with_reducible refine Kd.C_drewN ?_ _) | (with_reducible refine Kd.C_drew ?_))); (case side2 => exact HC0_1.out); rintro e w16 ⟨rfl, hb⟩; refine ⟨_, rfl, ?_⟩; replace BK244 := a_ (kB_ BK244.out (tr hb)); replace HB := a_ (bT_ (by exact gs HB.out) hb); (try clear hb); (try clear hb2); (try clear hk); (try clear hi)) | (go_at_call 59; (with_reducible refine (c_within.calls a1 1 5 false _ A5.out).mono ?_); rintro e w' ⟨rfl, ⟨nd, rfl⟩⟩))
  go_ret2
  exact ⟨by first | rfl | (simp [errW_none, errW_some] <;> rfl) | (simp [*, errW_none, errW_some] <;> rfl), by exact gs HB.out⟩
 subst c6
 have H1 := H; rw [if_pos rfl] at H1
 clear H
 have H := H1
 clear H1
 replace H := Option.bind_eq_some_iff.mp H
 obtain ⟨t247, A70, H⟩ := H
 try dsimp only at H
 have A7 := a_ A70
 clear A70
 simp only [Option.some.injEq, Prod.mk.injEq] at H
 obtain ⟨rfl, rfl⟩ := H
 go_enter Try.func41, Try.ntmps41
 go_wp2_with (first | ((with_reducible refine gate_dst (N := 2) rfl ?_); refine box_event ?hg (N := 2) ?hd (cs := #[.int .i64 a0_0, .slice A0_1 l0_1.length c0_1]) (t := 55) ?hr ?_; (case hd => rfl); (case hg => rfl); (case hr => first | (go_simp; done) | (go_simp; rfl)); intro gb244 hg w8 hbox hb; have BK244 := a_ (hbox); have GW244 := a_ ((by rw [hg]; exact (bZ_ (gr HB.out)) : w.heap.size ≤ gb244)); have GE244 := GEc.mk ((by rw [hg]; exact (bZ_ (gr HB.out)) : w.heap.size ≤ gb244)); replace HB := a_ (bT_ HB.out (tr hb)); clear hb hbox hg; have hcz9_0 : w8.cell? ⟨gb244, 0, none⟩ = some (.int .i64 a0_0) := (kc_ BK244.out 0).trans rfl; have hcz9_1 : w8.cell? ⟨gb244, 1, none⟩ = some (.slice A0_1 l0_1.length c0_1) := (kc_ BK244.out 1).trans rfl; have hfz9_0 := kf_ BK244.out 0; have hfz9_1 := kf_ BK244.out 1) | ((with_reducible refine gate_callee (f := 74) rfl ?_); refine goesL_ (some 7) rfl rfl Try.func74 (by kernel_rfl) rfl #[.agg #[.int .i64 a0_0, .slice A0_1 l0_1.length c0_1]] rfl (by (try simp only [List.map_toArray, List.map_cons, List.map_nil]); first | done | rfl | (simp only [List.length_drop, List.length_take]; rfl)) ?_; (with_reducible refine (c_isGroup.calls a0_0 _ _ l0_1 true _ ?side1 ?side2 A3.out).mono ?_); (case side1 => repeat (first | exact (Kd.C_below HR0_1.out HB.out) | (with_reducible refine Kd.C_alloc ?_ _) | (with_reducible refine Kd.C_drewN ?_ _) | (with_reducible refine Kd.C_drew ?_))); (case side2 => exact HC0_1.out); rintro e w10 ⟨rfl, hb⟩; refine ⟨_, rfl, ?_⟩; replace BK244 := a_ (kB_ BK244.out (tr hb)); replace HB := a_ (bT_ (by exact gs HB.out) hb); (try clear hb); (try clear hb2); (try clear hk); (try clear hi)) | (go_at_call 59; (with_reducible refine (c_within.calls a1 1 5 true _ A5.out).mono ?_); rintro e w' ⟨rfl, ⟨nd, rfl⟩⟩; have hcz11_0 : w10.cell? ⟨gb244, 0, none⟩ = some (.int .i64 a0_0) := (kc_ BK244.out 0).trans rfl; have hcz11_1 : w10.cell? ⟨gb244, 1, none⟩ = some (.slice A0_1 l0_1.length c0_1) := (kc_ BK244.out 1).trans rfl; have hfz11_0 := kf_ BK244.out 0; have hfz11_1 := kf_ BK244.out 1) | ((with_reducible refine gate_callee (f := 75) rfl ?_); refine goesL_ (some 16) rfl rfl Try.func75 (by kernel_rfl) rfl #[.agg #[.int .i64 a0_0, .slice A0_1 l0_1.length c0_1], .int .i64 a1] rfl (by (try simp only [List.map_toArray, List.map_cons, List.map_nil]); first | done | rfl | (simp only [List.length_drop, List.length_take]; rfl)) ?_; (with_reducible refine (c_tables.calls k a0_0 _ _ l0_1 a1 t247 _ ?side1 ?side2 A7.out).mono ?_); (case side1 => repeat (first | exact (Kd.C_below HR0_1.out (by exact gs HB.out)) | (with_reducible refine Kd.C_alloc ?_ _) | (with_reducible refine Kd.C_drewN ?_ _) | (with_reducible refine Kd.C_drew ?_))); (case side2 => exact HC0_1.out); rintro e w12 ⟨v248, rfl, ho0, hb⟩; refine ⟨_, rfl, ?_⟩; have HO249 := a_ (Kd.R_lower ho0 (bZ_ (by exact gs HB.out))); replace BK244 := a_ (kB_ BK244.out (tr hb)); replace HB := a_ (bT_ (by exact gs HB.out) hb); (try clear hb); (try clear hb2); (try clear hk); (try clear hi); (try clear ho0); obtain ⟨Ao13, co13, eo13⟩ := Kd.R_slice HO249.out; subst eo13))
 go_ret2
 exact ⟨by first | rfl | (simp [errW_none, errW_some] <;> rfl) | (simp [*, errW_none, errW_some] <;> rfl), by exact gs HB.out⟩
def rl_texts.l0 : Nat → List ByteArray → List ByteArray → Int → Option (Bool)
 | 0, _, _, _ => none
 | k + 1, x0, x1, x5 => if x5 < (x0.length : Int) then (if 0 ≤ x5 then (if x5 < (x1.length : Int) then (if (rdOf ByteArray.empty x0 x5).toList = (rdOf ByteArray.empty x1 x5).toList then (rl_texts.l0 k x0 x1 (wrap64 (x5 + 1))) else (some false)) else (none)) else (none)) else (some true)
def rl_texts.f (k : Nat) (l0 : List ByteArray) (l1 : List ByteArray) : Option (Bool) := if (l0.length : Int) = (l1.length : Int) then (rl_texts.l0 k l0 l1 0) else (some false)
theorem rl_texts.calls (k : Nat) (A0 : Option Addr) (c0 : Nat) (l0 : List ByteArray) (A1 : Option Addr) (c1 : Nat) (l1 : List ByteArray) (r : Bool) (w : World) (hr0 : Kd.C Kd.string w A0 l0.length l0) (hc0 : l0.length ≤ c0) (hr1 : Kd.C Kd.string w A1 l1.length l1) (hc1 : l1.length ≤ c1) (h : rl_texts.f k l0 l1 = some r) :
  Calls Try.prog 63 #[.slice A0 l0.length c0, .slice A1 l1.length c1] w fun e w' => e = .returned (.bool r) ∧ Drawn0 w w' := by
 have HR0 := a_ hr0
 have HC0 := a_ hc0
 clear hr0 hc0
 have HR1 := a_ hr1
 have HC1 := a_ hc1
 clear hr1 hc1
 have H : (if (l0.length : Int) = (l1.length : Int) then (rl_texts.l0 k l0 l1 0) else (some false)) = some r := h
 clear h
 by_cases c3 : (l0.length : Int) = (l1.length : Int)
 rotate_left
 ·rw [if_neg c3] at H
  have c3b0 : ((l0.length : Int) == (l1.length : Int)) = false := beq_eq_false_iff_ne.mpr c3
  have c3b1 : ((l0.length : Int) != (l1.length : Int)) = true := bne_iff_ne.mpr c3
  have c3b2 : (l0.length == l1.length) = false := by first | simpa using c3 | (simp at c3 ⊢; omega)
  obtain rfl := Option.some.inj H
  go_enter Try.func63, Try.ntmps63
  go_wp2
  repeat (go_quiet (fail); try go_wp2)
  go_ret
  exact ⟨by first | rfl | (simp; done) | (simp [*]; done), by repeat (first | exact Drawn0.refl _ | apply Drawn0.step)⟩
 rw [if_pos c3] at H
 have c3b0 : ((l0.length : Int) == (l1.length : Int)) = true := beq_iff_eq.mpr c3
 have c3b1 : ((l0.length : Int) != (l1.length : Int)) = false := bne_eq_false_iff_eq.mpr c3
 have c3b2 : (l0.length == l1.length) = true := by first | simpa using c3 | (simp at c3 ⊢; omega)
 clear c3
 have H' := a_ H
 clear H
 go_enter Try.func63, Try.ntmps63
 go_wp2
 repeat (go_quiet (fail); try go_wp2)
 go_loopg [5] k (fun kq v5 w' => ∃ (x5_1 : Int), v5 = .int .i64 x5_1 ∧ Aside0 (rl_texts.l0 kq l0 l1 x5_1 = some r) ∧ Aside0 (kq ≤ k) ∧ Drawn0 w w')
 case atStart => exact ⟨(0), (by first | rfl | (simp; done) | (simp [*]; done)), H', ⟨Nat.le_refl _⟩, by repeat (first | exact Drawn0.refl _ | apply Drawn0.step)⟩
 clear H'
 try clear c1
 try clear p2
 try clear c3
 try clear c3b0
 try clear c3b1
 try clear c3b2
 obtain ⟨x5_1, rfl, HA, HK1, ⟨m1, rfl⟩⟩ := hrel
 cases gk with
 | zero => exact absurd HA.out (by simp [rl_texts.l0])
 | succ k1 =>
  have H := HA.out
  clear HA
  simp only [rl_texts.l0] at H
  by_cases c4 : x5_1 < (l0.length : Int)
  rotate_left
  ·rw [if_neg c4] at H
   have c4b0 : decide (x5_1 < (l0.length : Int)) = false := decide_eq_false c4
   clear c4
   obtain rfl := Option.some.inj H
   go_wp2
   repeat (go_quiet (fail); try go_wp2)
   go_ret
   exact ⟨by first | rfl | (simp; done) | (simp [*]; done), by repeat (first | exact Drawn0.refl _ | apply Drawn0.step)⟩
  rw [if_pos c4] at H
  have c4b0 : decide (x5_1 < (l0.length : Int)) = true := decide_eq_true c4
  clear c4
  by_cases c5 : 0 ≤ x5_1
  rotate_left
  ·rw [if_neg c5] at H
   exact absurd H (by simp)
  rw [if_pos c5] at H
  have c5b0 : decide (0 ≤ x5_1) = true := decide_eq_true c5
  clear c5
  by_cases c6 : x5_1 < (l1.length : Int)
  rotate_left
  ·rw [if_neg c6] at H
   exact absurd H (by simp)
  rw [if_pos c6] at H
  have c6b0 : decide (x5_1 < (l1.length : Int)) = true := decide_eq_true c6
  clear c6
  by_cases c7 : (rdOf ByteArray.empty l0 x5_1).toList = (rdOf ByteArray.empty l1 x5_1).toList
  rotate_left
  ·rw [if_neg c7] at H
   have c7b0 : ((rdOf ByteArray.empty l0 x5_1).toList == (rdOf ByteArray.empty l1 x5_1).toList) = false := beq_eq_false_iff_ne.mpr c7
   have c7b1 : ((rdOf ByteArray.empty l0 x5_1).toList != (rdOf ByteArray.empty l1 x5_1).toList) = true := bne_iff_ne.mpr c7
   obtain rfl := Option.some.inj H
   have p279 : 0 ≤ (x5_1 : Int) := of_decide_eq_true (by first | (with_reducible assumption) | assumption)
   have q279 : x5_1 < (l0.length : Int) := of_decide_eq_true (by first | (with_reducible assumption) | assumption)
   obtain ⟨ad279, e279, hx279_0⟩ := Kd.at_string HR0.out x5_1 p279 q279
   cases e279
   replace p279 := eq_true p279
   replace q279 := eq_true q279
   have p280 : 0 ≤ (x5_1 : Int) := of_decide_eq_true (by first | (with_reducible assumption) | assumption)
   have q280 : x5_1 < (l1.length : Int) := of_decide_eq_true (by first | (with_reducible assumption) | assumption)
   obtain ⟨ad280, e280, hx280_0⟩ := Kd.at_string HR1.out x5_1 p280 q280
   cases e280
   replace p280 := eq_true p280
   replace q280 := eq_true q280
   go_wp2
   repeat (go_quiet (fail); try go_wp2)
   go_ret
   exact ⟨by first | rfl | (simp; done) | (simp [*]; done), by repeat (first | exact Drawn0.refl _ | apply Drawn0.step)⟩
  rw [if_pos c7] at H
  have c7b0 : ((rdOf ByteArray.empty l0 x5_1).toList == (rdOf ByteArray.empty l1 x5_1).toList) = true := beq_iff_eq.mpr c7
  have c7b1 : ((rdOf ByteArray.empty l0 x5_1).toList != (rdOf ByteArray.empty l1 x5_1).toList) = false := bne_eq_false_iff_eq.mpr c7
  clear c7
  have H' := a_ H
  clear H
  have p279 : 0 ≤ (x5_1 : Int) := of_decide_eq_true (by first | (with_reducible assumption) | assumption)
  have q279 : x5_1 < (l0.length : Int) := of_decide_eq_true (by first | (with_reducible assumption) | assumption)
  obtain ⟨ad279, e279, hx279_0⟩ := Kd.at_string HR0.out x5_1 p279 q279
  cases e279
  replace p279 := eq_true p279
  replace q279 := eq_true q279
  have p280 : 0 ≤ (x5_1 : Int) := of_decide_eq_true (by first | (with_reducible assumption) | assumption)
  have q280 : x5_1 < (l1.length : Int) := of_decide_eq_true (by first | (with_reducible assumption) | assumption)
  obtain ⟨ad280, e280, hx280_0⟩ := Kd.at_string HR1.out x5_1 p280 q280
  cases e280
  replace p280 := eq_true p280
  replace q280 := eq_true q280
  go_wp2
  repeat (go_quiet (fail); try go_wp2)
  go_roundg k1
  case measure => have := HK1.out; omega
  case rel => exact ⟨(wrap64 (x5_1 + 1)), (by first | rfl | (simp; done) | (simp [*]; done)), H', ⟨by have := HK1.out; omega⟩, by repeat (first | exact Drawn0.refl _ | apply Drawn0.step)⟩
end Go.Proofs.Ytifkldehbaphgaa.PAll
end
