/- The law CasingSends returns true for every input: for any table, int and string, casing.Send returns the sheet to which a word sends a sheet, or ErrArg. No condition. Part 2 of 2. -/
import Derived.WalkKit
import Derived.ProofKit
import Derived.OpenShut
import Derived.ShutString
import Derived.SliceStrings
import Derived.Deep.Matrix
import Derived.Lib.SmallJoins
import Derived.Test.YtmcihijobilcgaaRows
import Derived.ChangeOld
import Derived.Below
import Derived.SizedLaws
import Derived.Carry
import Derived.Test.YtmcihijobilcgaaCCasingSends0
set_option linter.all false
section
namespace Go.Proofs.Ytmcihijobilcgaa.PAll
open Go.RowKit Go.Proofs.YtmcihijobilcgaaW.PrintWords Go.Proofs.YtmcihijobilcgaaW.PrintLast Go.Proofs.YtmcihijobilcgaaW.PrintMore
attribute [local go_sem] max2_int min2_int max_two min_two max_three min_three max_four min_four
mutual
def remouldref01_Keeps.l0 : Nat → List (List Int) → Int → Int → List ByteArray → Option (Bool)
  | 0, _, _, _, _ => none
  | k + 1, x1, x5, x212000, x212001 => if x5 < (x212001.length : Int) then (remouldref01_Keeps.l1 k x1 x5 0 x212000 x212001) else (some true)
def remouldref01_Keeps.l1 : Nat → List (List Int) → Int → Int → Int → List ByteArray → Option (Bool)
  | 0, _, _, _, _, _ => none
  | k + 1, x1, x5, x6, x212000, x212001 => if 0 < (x1.length : Int) then (if x6 < ((rd_L5 x1 0).length : Int) then (if 0 ≤ x5 then (if x5 < (x212001.length : Int) then ((remouldref01_Send.f k x1 x6 (rdOf ByteArray.empty x212001 x5)).bind fun t214 => (if t214 = x6 then (remouldref01_Keeps.l1 k x1 x5 (wrap64 (x6 + 1)) x212000 x212001) else (some false))) else (none)) else (none)) else (remouldref01_Keeps.l0 k x1 (wrap64 (x5 + 1)) x212000 x212001)) else (none)
end
def remouldref01_Keeps.f (k : Nat) (a0_0 : Int) (l0_1 : List ByteArray) (l1 : List (List Int)) : Option (Bool) := if (l1.length : Int) = a0_0 then (remouldref01_Keeps.l0 k l1 0 a0_0 l0_1) else (some false)
set_option maxHeartbeats 8000000 in
set_option maxRecDepth 100000 in
theorem remouldref01_Keeps.calls (k : Nat) (a0_0 : Int) (A0_1 : Option Addr) (c0_1 : Nat) (l0_1 : List ByteArray) (A1 : Option Addr) (c1 : Nat) (l1 : List (List Int)) (r : Bool) (w : World) (hr0_1 : Kd.C Kd.string w A0_1 l0_1.length l0_1) (hc0_1 : l0_1.length ≤ c0_1) (hr1 : Kd.C (Kd.slice 3 (Kd.int .i64)) w A1 l1.length l1) (hc1 : l1.length ≤ c1) (h : remouldref01_Keeps.f k a0_0 l0_1 l1 = some r) :
    Calls Try.prog 37 #[.agg #[.int .i64 a0_0, .slice A0_1 l0_1.length c0_1], .slice A1 l1.length c1] w fun e w' => e = .returned (.bool r) ∧ Below w.heap.size w w' := by
  have hu24 := Try.underlying24
  have HR0_1 := Aside0.mk hr0_1
  have HC0_1 := Aside0.mk hc0_1
  clear hr0_1 hc0_1
  have HR1 := Aside0.mk hr1
  have HC1 := Aside0.mk hc1
  clear hr1 hc1
  have HB := Aside0.mk (Below.refl w.heap.size w)
  have H : (if (l1.length : Int) = a0_0 then (remouldref01_Keeps.l0 k l1 0 a0_0 l0_1) else (some false)) = some r := h
  clear h
  by_cases c3 : (l1.length : Int) = a0_0
  rotate_left
  · rw [if_neg c3] at H
    have c3b0 : ((l1.length : Int) == a0_0) = false := beq_eq_false_iff_ne.mpr c3
    have c3b1 : ((l1.length : Int) != a0_0) = true := bne_iff_ne.mpr c3
    obtain rfl := Option.some.inj H
    go_enter Try.func37, Try.ntmps37
    go_wp2_with (first | ((with_reducible refine gate_dst (N := 2) rfl ?_); refine box_event ?hg (N := 2) ?hd (cs := #[.int .i64 a0_0, .slice A0_1 l0_1.length c0_1]) (t := 24) ?hr ?_; (case hd => rfl); (case hg => rfl); (case hr => first | (go_simp; done) | (go_simp; rfl)); intro gb211 hg w17 hbox hb; have BK211 := Aside0.mk (hbox); have GW211 := Aside0.mk ((by rw [hg]; exact (below_size (by repeat (first | (with_reducible first | exact HB.out | apply below_alloc | apply pw_below_drewN | apply below_drew1) | exact HB.out))) : w.heap.size ≤ gb211)); have GE211 := Aside0.mk ((by rw [hg]; exact (below_size (by repeat (first | (with_reducible first | exact HB.out | apply below_alloc | apply pw_below_drewN | apply below_drew1) | exact HB.out))) : w.heap.size ≤ gb211)); replace HB := Aside0.mk (below_step (by repeat (first | (with_reducible first | exact HB.out | apply below_alloc | apply pw_below_drewN | apply below_drew1) | exact HB.out)) hb); clear hb hbox hg; have hcz18_0 : w17.cell? ⟨gb211, 0, none⟩ = some (.int .i64 a0_0) := (blk_cell BK211.out 0).trans rfl; have hcz18_1 : w17.cell? ⟨gb211, 1, none⟩ = some (.slice A0_1 l0_1.length c0_1) := (blk_cell BK211.out 1).trans rfl; have hfz18_0 := blk_frozen BK211.out 0; have hfz18_1 := blk_frozen BK211.out 1))
    go_ret
    exact ⟨by first | rfl | (simp [errW_none, errW_some] <;> rfl) | (simp [*, errW_none, errW_some] <;> rfl), by repeat (first | (with_reducible first | exact HB.out | apply below_alloc | apply pw_below_drewN | apply below_drew1 | refine below_set ?_ GE211.out) | exact HB.out)⟩
  rw [if_pos c3] at H
  have c3b0 : ((l1.length : Int) == a0_0) = true := beq_iff_eq.mpr c3
  have c3b1 : ((l1.length : Int) != a0_0) = false := bne_eq_false_iff_eq.mpr c3
  clear c3
  have H' := Aside0.mk H
  clear H
  go_enter Try.func37, Try.ntmps37
  go_wp2_with (first | ((with_reducible refine gate_dst (N := 2) rfl ?_); refine box_event ?hg (N := 2) ?hd (cs := #[.int .i64 a0_0, .slice A0_1 l0_1.length c0_1]) (t := 24) ?hr ?_; (case hd => rfl); (case hg => rfl); (case hr => first | (go_simp; done) | (go_simp; rfl)); intro gb211 hg w4 hbox hb; have BK211 := Aside0.mk (hbox); have GW211 := Aside0.mk ((by rw [hg]; exact (below_size (by repeat (first | (with_reducible first | exact HB.out | apply below_alloc | apply pw_below_drewN | apply below_drew1) | exact HB.out))) : w.heap.size ≤ gb211)); have GE211 := Aside0.mk ((by rw [hg]; exact (below_size (by repeat (first | (with_reducible first | exact HB.out | apply below_alloc | apply pw_below_drewN | apply below_drew1) | exact HB.out))) : w.heap.size ≤ gb211)); replace HB := Aside0.mk (below_step (by repeat (first | (with_reducible first | exact HB.out | apply below_alloc | apply pw_below_drewN | apply below_drew1) | exact HB.out)) hb); clear hb hbox hg; have hcz5_0 : w4.cell? ⟨gb211, 0, none⟩ = some (.int .i64 a0_0) := (blk_cell BK211.out 0).trans rfl; have hcz5_1 : w4.cell? ⟨gb211, 1, none⟩ = some (.slice A0_1 l0_1.length c0_1) := (blk_cell BK211.out 1).trans rfl; have hfz5_0 := blk_frozen BK211.out 0; have hfz5_1 := blk_frozen BK211.out 1))
  go_loopg [5] k (fun kq v5 w' => ∃ (x5_1 : Int), v5 = .int .i64 x5_1 ∧ Aside0 (remouldref01_Keeps.l0 kq l1 x5_1 a0_0 l0_1 = some r) ∧ Aside0 (kq ≤ k) ∧ Aside0 (w'.heap[gb211]? = some (.cells #[.int .i64 a0_0, (.slice A0_1 l0_1.length c0_1)] 24 (0, 0))) ∧ Aside0 (Below w.heap.size w w'))
  case atStart => exact ⟨(0), (by first | rfl | (simp; done) | (simp [*]; done)), H', ⟨Nat.le_refl _⟩, ⟨by (with_reducible repeat (first | refine blk_drewN ?_ _ | refine blk_drew ?_ | refine blk_alloc ?_ _)); exact BK211.out⟩, ⟨by repeat (first | (with_reducible first | exact HB.out | apply below_alloc | apply pw_below_drewN | apply below_drew1 | refine below_set ?_ GE211.out) | exact HB.out)⟩⟩
  clear H'
  try clear c1
  try clear p2
  try clear c3
  try clear c3b0
  try clear c3b1
  try clear hcz5_0
  try clear hcz5_1
  try clear hfz5_0
  try clear hfz5_1
  obtain ⟨x5_1, rfl, HA, HK1, BK211, HB⟩ := hrel
  cases gk with
  | zero => exact absurd HA.out (by simp [remouldref01_Keeps.l0])
  | succ k1 =>
    have H := HA.out
    clear HA
    simp only [remouldref01_Keeps.l0] at H
    by_cases c6 : x5_1 < (l0_1.length : Int)
    rotate_left
    · rw [if_neg c6] at H
      have c6b0 : decide (x5_1 < (l0_1.length : Int)) = false := decide_eq_false c6
      clear c6
      obtain rfl := Option.some.inj H
      have hcz16_0 : wr.cell? ⟨gb211, 0, none⟩ = some (.int .i64 a0_0) := (blk_cell BK211.out 0).trans rfl
      have hcz16_1 : wr.cell? ⟨gb211, 1, none⟩ = some (.slice A0_1 l0_1.length c0_1) := (blk_cell BK211.out 1).trans rfl
      have hfz16_0 := blk_frozen BK211.out 0
      have hfz16_1 := blk_frozen BK211.out 1
      go_wp2
      go_ret
      exact ⟨by first | rfl | (simp [errW_none, errW_some] <;> rfl) | (simp [*, errW_none, errW_some] <;> rfl), by repeat (first | (with_reducible first | exact HB.out | apply below_alloc | apply pw_below_drewN | apply below_drew1 | refine below_set ?_ GE211.out) | exact HB.out)⟩
    rw [if_pos c6] at H
    have c6b0 : decide (x5_1 < (l0_1.length : Int)) = true := decide_eq_true c6
    clear c6
    have H' := Aside0.mk H
    clear H
    have hcz7_0 : wr.cell? ⟨gb211, 0, none⟩ = some (.int .i64 a0_0) := (blk_cell BK211.out 0).trans rfl
    have hcz7_1 : wr.cell? ⟨gb211, 1, none⟩ = some (.slice A0_1 l0_1.length c0_1) := (blk_cell BK211.out 1).trans rfl
    have hfz7_0 := blk_frozen BK211.out 0
    have hfz7_1 := blk_frozen BK211.out 1
    go_wp2
    go_loopg [6] k1 (fun kq v6 w' => ∃ (x6_2 : Int), v6 = .int .i64 x6_2 ∧ Aside0 (remouldref01_Keeps.l1 kq l1 x5_1 x6_2 a0_0 l0_1 = some r) ∧ Aside0 (kq ≤ k1) ∧ Aside0 (w'.heap[gb211]? = some (.cells #[.int .i64 a0_0, (.slice A0_1 l0_1.length c0_1)] 24 (0, 0))) ∧ Aside0 (Below w.heap.size w w'))
    case atStart => exact ⟨(0), (by first | rfl | (simp; done) | (simp [*]; done)), H', ⟨Nat.le_refl _⟩, ⟨by (with_reducible repeat (first | refine blk_drewN ?_ _ | refine blk_drew ?_ | refine blk_alloc ?_ _)); exact BK211.out⟩, ⟨by repeat (first | (with_reducible first | exact HB.out | apply below_alloc | apply pw_below_drewN | apply below_drew1 | refine below_set ?_ GE211.out) | exact HB.out)⟩⟩
    clear H'
    try clear c1
    try clear p2
    try clear c3
    try clear c3b0
    try clear c3b1
    try clear c6
    try clear c6b0
    try clear hcz5_0
    try clear hcz5_1
    try clear hcz7_0
    try clear hcz7_1
    try clear hfz5_0
    try clear hfz5_1
    try clear hfz7_0
    try clear hfz7_1
    try clear p2
    obtain ⟨x6_2, rfl, HA, HK2, BK211, HB⟩ := hrel
    cases gk with
    | zero => exact absurd HA.out (by simp [remouldref01_Keeps.l1])
    | succ k2 =>
      have H := HA.out
      clear HA
      simp only [remouldref01_Keeps.l1] at H
      by_cases c8 : 0 < (l1.length : Int)
      rotate_left
      · rw [if_neg c8] at H
        exact absurd H (by simp)
      rw [if_pos c8] at H
      have c8b0 : decide (0 < (l1.length : Int)) = true := decide_eq_true c8
      have c8b1 : decide (0 < l1.length) = true := decide_eq_true (by omega)
      clear c8
      by_cases c9 : x6_2 < ((rd_L5 l1 0).length : Int)
      rotate_left
      · rw [if_neg c9] at H
        have c9b0 : decide (x6_2 < ((rd_L5 l1 0).length : Int)) = false := decide_eq_false c9
        clear c9
        have H' := Aside0.mk H
        clear H
        have p212 : 0 ≤ (0 : Int) := (by omega)
        have q212 : 0 < (l1.length : Int) := of_decide_eq_true (by first | (with_reducible assumption) | assumption)
        obtain ⟨ad212, A212_0, c212_0, e212, hx212_0, hl212_0, hi212_0⟩ := at_L5 HR1.out 0 p212 q212
        cases e212
        have qi212 : (0 < l1.length) = True := eq_true (by omega)
        (try rw [show ((0 : Int)).toNat = 0 from rfl] at hx212_0)
        (try rw [Addr.add_zero'] at hx212_0)
        replace hx212_0 := (HB.out.cell (World.block_lt_of_cell? w _ hx212_0)).trans hx212_0
        have HR212_0 := Aside0.mk hi212_0
        have HC212_0 := Aside0.mk hl212_0
        clear hi212_0 hl212_0
        replace p212 := eq_true p212
        replace q212 := eq_true q212
        go_wp2
        go_roundg k2
        case measure => have := HK1.out; have := HK2.out; omega
        case rel => exact ⟨(wrap64 (x5_1 + 1)), (by first | rfl | (simp; done) | (simp [*]; done)), H', ⟨by have := HK1.out; have := HK2.out; omega⟩, ⟨by (with_reducible repeat (first | refine blk_drewN ?_ _ | refine blk_drew ?_ | refine blk_alloc ?_ _)); exact BK211.out⟩, ⟨by repeat (first | (with_reducible first | exact HB.out | apply below_alloc | apply pw_below_drewN | apply below_drew1 | refine below_set ?_ GE211.out) | exact HB.out)⟩⟩
      rw [if_pos c9] at H
      have c9b0 : decide (x6_2 < ((rd_L5 l1 0).length : Int)) = true := decide_eq_true c9
      clear c9
      by_cases c10 : 0 ≤ x5_1
      rotate_left
      · rw [if_neg c10] at H
        exact absurd H (by simp)
      rw [if_pos c10] at H
      have c10b0 : decide (0 ≤ x5_1) = true := decide_eq_true c10
      clear c10
      by_cases c11 : x5_1 < (l0_1.length : Int)
      rotate_left
      · rw [if_neg c11] at H
        exact absurd H (by simp)
      rw [if_pos c11] at H
      have c11b0 : decide (x5_1 < (l0_1.length : Int)) = true := decide_eq_true c11
      clear c11
      replace H := Option.bind_eq_some_iff.mp H
      obtain ⟨t214, A120, H⟩ := H
      replace H : (if t214 = x6_2 then (remouldref01_Keeps.l1 k2 l1 x5_1 (wrap64 (x6_2 + 1)) a0_0 l0_1) else (some false)) = some r := H
      have A12 := Aside0.mk A120
      clear A120
      by_cases c13 : t214 = x6_2
      rotate_left
      · rw [if_neg c13] at H
        have c13b0 : (t214 == x6_2) = false := beq_eq_false_iff_ne.mpr c13
        have c13b1 : (t214 != x6_2) = true := bne_iff_ne.mpr c13
        obtain rfl := Option.some.inj H
        have p212 : 0 ≤ (0 : Int) := (by omega)
        have q212 : 0 < (l1.length : Int) := of_decide_eq_true (by first | (with_reducible assumption) | assumption)
        obtain ⟨ad212, A212_0, c212_0, e212, hx212_0, hl212_0, hi212_0⟩ := at_L5 HR1.out 0 p212 q212
        cases e212
        have qi212 : (0 < l1.length) = True := eq_true (by omega)
        (try rw [show ((0 : Int)).toNat = 0 from rfl] at hx212_0)
        (try rw [Addr.add_zero'] at hx212_0)
        replace hx212_0 := (HB.out.cell (World.block_lt_of_cell? w _ hx212_0)).trans hx212_0
        have HR212_0 := Aside0.mk hi212_0
        have HC212_0 := Aside0.mk hl212_0
        clear hi212_0 hl212_0
        replace p212 := eq_true p212
        replace q212 := eq_true q212
        have hcz15_0 : wr.cell? ⟨gb211, 0, none⟩ = some (.int .i64 a0_0) := (blk_cell BK211.out 0).trans rfl
        have hcz15_1 : wr.cell? ⟨gb211, 1, none⟩ = some (.slice A0_1 l0_1.length c0_1) := (blk_cell BK211.out 1).trans rfl
        have hfz15_0 := blk_frozen BK211.out 0
        have hfz15_1 := blk_frozen BK211.out 1
        have p213 : 0 ≤ (x5_1 : Int) := of_decide_eq_true (by first | (with_reducible assumption) | assumption)
        have q213 : x5_1 < (l0_1.length : Int) := of_decide_eq_true (by first | (with_reducible assumption) | assumption)
        obtain ⟨ad213, e213, hx213_0⟩ := Kd.at_string HR0_1.out x5_1 p213 q213
        cases e213
        replace hx213_0 := (HB.out.cell (World.block_lt_of_cell? w _ hx213_0)).trans hx213_0
        replace p213 := eq_true p213
        replace q213 := eq_true q213
        go_wp2_with (first | ((with_reducible refine gate_callee (f := 39) rfl ?_); refine goesL_ (some 34) rfl rfl Try.func39 (by kernel_rfl) rfl #[.slice (some ad212) l1.length c1, .int .i64 x6_2, .string (rdOf ByteArray.empty l0_1 x5_1)] rfl (by (try simp only [List.map_toArray, List.map_cons, List.map_nil]); first | done | rfl | (simp only [List.length_drop, List.length_take]; rfl)) ?_; (with_reducible refine (remouldref01_Send.calls k2 _ _ l1 x6_2 (rdOf ByteArray.empty l0_1 x5_1) t214 _ ?side1 ?side2 A12.out).mono ?_); (case side1 => repeat (first | exact (Kd.C_below HR1.out HB.out) | (with_reducible refine Kd.C_alloc ?_ _) | (with_reducible refine Kd.C_drewN ?_ _) | (with_reducible refine Kd.C_drew ?_))); (case side2 => exact HC1.out); rintro e w' ⟨rfl, ⟨nd, rfl⟩⟩; refine ⟨_, rfl, ?_⟩))
        go_ret
        exact ⟨by first | rfl | (simp [errW_none, errW_some] <;> rfl) | (simp [*, errW_none, errW_some] <;> rfl), by repeat (first | (with_reducible first | exact HB.out | apply below_alloc | apply pw_below_drewN | apply below_drew1 | refine below_set ?_ GE211.out) | exact HB.out)⟩
      rw [if_pos c13] at H
      have c13b0 : (t214 == x6_2) = true := beq_iff_eq.mpr c13
      have c13b1 : (t214 != x6_2) = false := bne_eq_false_iff_eq.mpr c13
      clear c13
      have H' := Aside0.mk H
      clear H
      have p212 : 0 ≤ (0 : Int) := (by omega)
      have q212 : 0 < (l1.length : Int) := of_decide_eq_true (by first | (with_reducible assumption) | assumption)
      obtain ⟨ad212, A212_0, c212_0, e212, hx212_0, hl212_0, hi212_0⟩ := at_L5 HR1.out 0 p212 q212
      cases e212
      have qi212 : (0 < l1.length) = True := eq_true (by omega)
      (try rw [show ((0 : Int)).toNat = 0 from rfl] at hx212_0)
      (try rw [Addr.add_zero'] at hx212_0)
      replace hx212_0 := (HB.out.cell (World.block_lt_of_cell? w _ hx212_0)).trans hx212_0
      have HR212_0 := Aside0.mk hi212_0
      have HC212_0 := Aside0.mk hl212_0
      clear hi212_0 hl212_0
      replace p212 := eq_true p212
      replace q212 := eq_true q212
      have hcz14_0 : wr.cell? ⟨gb211, 0, none⟩ = some (.int .i64 a0_0) := (blk_cell BK211.out 0).trans rfl
      have hcz14_1 : wr.cell? ⟨gb211, 1, none⟩ = some (.slice A0_1 l0_1.length c0_1) := (blk_cell BK211.out 1).trans rfl
      have hfz14_0 := blk_frozen BK211.out 0
      have hfz14_1 := blk_frozen BK211.out 1
      have p213 : 0 ≤ (x5_1 : Int) := of_decide_eq_true (by first | (with_reducible assumption) | assumption)
      have q213 : x5_1 < (l0_1.length : Int) := of_decide_eq_true (by first | (with_reducible assumption) | assumption)
      obtain ⟨ad213, e213, hx213_0⟩ := Kd.at_string HR0_1.out x5_1 p213 q213
      cases e213
      replace hx213_0 := (HB.out.cell (World.block_lt_of_cell? w _ hx213_0)).trans hx213_0
      replace p213 := eq_true p213
      replace q213 := eq_true q213
      go_wp2_with (first | ((with_reducible refine gate_callee (f := 39) rfl ?_); refine goesL_ (some 34) rfl rfl Try.func39 (by kernel_rfl) rfl #[.slice (some ad212) l1.length c1, .int .i64 x6_2, .string (rdOf ByteArray.empty l0_1 x5_1)] rfl (by (try simp only [List.map_toArray, List.map_cons, List.map_nil]); first | done | rfl | (simp only [List.length_drop, List.length_take]; rfl)) ?_; (with_reducible refine (remouldref01_Send.calls k2 _ _ l1 x6_2 (rdOf ByteArray.empty l0_1 x5_1) t214 _ ?side1 ?side2 A12.out).mono ?_); (case side1 => repeat (first | exact (Kd.C_below HR1.out HB.out) | (with_reducible refine Kd.C_alloc ?_ _) | (with_reducible refine Kd.C_drewN ?_ _) | (with_reducible refine Kd.C_drew ?_))); (case side2 => exact HC1.out); rintro e w' ⟨rfl, ⟨nd, rfl⟩⟩; refine ⟨_, rfl, ?_⟩))
      go_roundg k2
      case measure => have := HK1.out; have := HK2.out; omega
      case rel => exact ⟨(wrap64 (x6_2 + 1)), (by first | rfl | (simp; done) | (simp [*]; done)), H', ⟨by have := HK1.out; have := HK2.out; omega⟩, ⟨by (with_reducible repeat (first | refine blk_drewN ?_ _ | refine blk_drew ?_ | refine blk_alloc ?_ _)); exact BK211.out⟩, ⟨by repeat (first | (with_reducible first | exact HB.out | apply below_alloc | apply pw_below_drewN | apply below_drew1 | refine below_set ?_ GE211.out) | exact HB.out)⟩⟩
end Go.Proofs.Ytmcihijobilcgaa.PAll
end
section
namespace Go.Proofs.Ytmcihijobilcgaa.PAll
open Go.RowKit Go.Proofs.YtmcihijobilcgaaW.PrintWords Go.Proofs.YtmcihijobilcgaaW.PrintLast Go.Proofs.YtmcihijobilcgaaW.PrintMore
theorem Send_yes {T : List (List Int)} (hok : okT T) {i : Int} (h0 : 0 ≤ i) (h1 : i < nT T) {w : ByteArray} (hw : wordOK (T.length : Int) w = true) (k : Nat) (hk : 40 ≤ k) :
    casing_Send.f k T i w = some (followT T i (strBytes w), 0) := by
  have tab := (okT_tab T).1 hok
  have hg1 := tab.g1
  have hg2 := tab.g2
  have hd5 := tab.d5
  unfold wordOK at hw
  simp only [Bool.and_eq_true, decide_eq_true_eq, Int.toNat_natCast] at hw
  have hlet := letG_bytes hw.2
  unfold casing_Send.f
  rw [newTable_yes hok]
  simp only [Option.bind_some, if_true]
  have h1' := h1
  unfold nT at h1' hd5
  rw [wrapN _ (by omega) (by omega), within_true (by omega) (by omega)]
  simp only [Option.bind_some, if_true]
  rw [isWord_f _ (by omega)]
  simp only [Option.bind_some, Int.toNat_natCast]
  rw [hw.2, decide_eq_true hw.1, Bool.and_self, if_pos rfl, follow_f tab w (by omega) hlet _ i h0 h1 k (by omega)]
  rfl
theorem Send_no {T : List (List Int)} {i : Int} {w : ByteArray} (h : ¬ (okT T ∧ (0 ≤ i ∧ i < nT T) ∧ wordOK (T.length : Int) w = true)) (k : Nat) :
    casing_Send.f k T i w = some (0, 2) := by
  unfold casing_Send.f
  by_cases hok : okT T
  rotate_left
  · rw [newTable_no hok]
    rfl
  have tab := (okT_tab T).1 hok
  have hg1 := tab.g1
  have hg2 := tab.g2
  have hd5 := tab.d5
  have hd1 := tab.d1
  rw [newTable_yes hok]
  simp only [Option.bind_some, if_true]
  unfold nT at hd5 hd1 h
  rw [wrapN _ (by omega) (by omega)]
  by_cases h1 : 0 ≤ i ∧ i < ((rd_L5 T 0).length : Int)
  rotate_left
  · rw [within_false (by omega)]
    rfl
  rw [within_true (by omega) (by omega)]
  simp only [Option.bind_some, if_true]
  rw [isWord_f _ (by omega)]
  simp only [Option.bind_some]
  have hw : ¬ (decide (w.size ≤ 30) && allLet ((T.length : Int)).toNat w) = true := fun hw => h ⟨hok, h1, hw⟩
  rw [if_neg hw]
def keepsP (T : List (List Int)) (R : List ByteArray) : Prop := ∀ s ∈ R, ∀ i : Nat, i < nT T → followT T i (strBytes s) = i
section
variable {T : List (List Int)} (h : Tab T) (R : List ByteArray) (hR : R.length ≤ 10) (hs : ∀ s ∈ R, s.size ≤ 100) (hlet : ∀ s ∈ R, ∀ c ∈ strBytes s, letG T.length c)
include h hR hs hlet
open Classical in
theorem keeps_l1 (a0 : Int) (q : Nat) (hq : q < R.length) (p0 : Int) (p1 : List ByteArray) : ∀ (m i k : Nat), i + m = nT T → m + 150 ≤ k →
    casing_table_keeps.l1 k R[q] R (R.length : Int) (q : Int) ((rd_L5 T 0).length : Int) (i : Int) a0 ((rd_L5 T 0).length : Int) ((tabL T).getD 0 0) ((tabL T).getD 1 0) ((tabL T).getD 2 0) ((tabL T).getD 3 0) ((tabL T).getD 4 0) ((tabL T).getD 5 0) ((tabL T).getD 6 0) ((tabL T).getD 7 0) ((tabL T).getD 8 0) ((tabL T).getD 9 0) p0 p1 =
    if (∀ i' : Nat, i ≤ i' → i' < nT T → followT T i' (strBytes R[q]) = i') then casing_table_keeps.l0 (k - m - 1) R (R.length : Int) ((q + 1 : Nat) : Int) a0 ((rd_L5 T 0).length : Int) ((tabL T).getD 0 0) ((tabL T).getD 1 0) ((tabL T).getD 2 0) ((tabL T).getD 3 0) ((tabL T).getD 4 0) ((tabL T).getD 5 0) ((tabL T).getD 6 0) ((tabL T).getD 7 0) ((tabL T).getD 8 0) ((tabL T).getD 9 0) p0 p1 else some false
  | 0, i, k, e, hk => by
    obtain ⟨k, rfl⟩ : ∃ r, k = r + 1 := ⟨k - 1, by omega⟩
    simp only [casing_table_keeps.l1]
    have hn : nT T = (rd_L5 T 0).length := rfl
    rw [if_neg (by omega), if_pos (fun i' h1 h2 => by omega), wrapN _ (by omega) (by omega)]
    rfl
  | m + 1, i, k, e, hk => by
    obtain ⟨k, rfl⟩ : ∃ r, k = r + 1 := ⟨k - 1, by omega⟩
    have hn : nT T = (rd_L5 T 0).length := rfl
    have hd5 := h.d5
    have hm := List.getElem_mem hq
    have hsz := hs _ hm
    simp only [casing_table_keeps.l1]
    rw [if_pos (by omega), follow_f h _ (by omega) (hlet _ hm) a0 (i : Int) (by omega) (by omega) k (by omega)]
    simp only [Option.bind_some]
    by_cases e1 : followT T i (strBytes R[q]) = i
    rotate_left
    · rw [if_neg e1, if_neg (fun hh => e1 (hh i (Nat.le_refl _) (by omega)))]
    rw [if_pos e1, wrapN _ (by omega) (by omega), show ((i : Int) + 1) = ((i + 1 : Nat) : Int) from by omega, keeps_l1 a0 q hq p0 p1 m (i + 1) k (by omega) (by omega), show k + 1 - (m + 1) - 1 = k - m - 1 from by omega]
    have hiff : (∀ i' : Nat, i ≤ i' → i' < nT T → followT T i' (strBytes R[q]) = i') ↔ (∀ i' : Nat, i + 1 ≤ i' → i' < nT T → followT T i' (strBytes R[q]) = i') := by
      constructor
      · exact fun hh i' h1 h2 => hh i' (by omega) h2
      · intro hh i' h1 h2
        by_cases e' : i' = i
        · rw [e']; exact e1
        · exact hh i' (by omega) h2
    by_cases hc : (∀ i' : Nat, i + 1 ≤ i' → i' < nT T → followT T i' (strBytes R[q]) = i')
    · rw [if_pos hc, if_pos (hiff.2 hc)]
    · rw [if_neg hc, if_neg (fun hh => hc (hiff.1 hh))]
theorem keeps_l0 (a0 p0 : Int) (p1 : List ByteArray) : ∀ (m q k : Nat), q + m = R.length → 20 * m + 200 ≤ k →
    ∃ b : Bool, casing_table_keeps.l0 k R (R.length : Int) (q : Int) a0 ((rd_L5 T 0).length : Int) ((tabL T).getD 0 0) ((tabL T).getD 1 0) ((tabL T).getD 2 0) ((tabL T).getD 3 0) ((tabL T).getD 4 0) ((tabL T).getD 5 0) ((tabL T).getD 6 0) ((tabL T).getD 7 0) ((tabL T).getD 8 0) ((tabL T).getD 9 0) p0 p1 = some b ∧
      (b = true ↔ (∀ s ∈ R.drop q, ∀ i : Nat, i < nT T → followT T i (strBytes s) = i) ∧ a0 = p0)
  | 0, q, k, e, hk => by
    obtain ⟨k, rfl⟩ : ∃ r, k = r + 1 := ⟨k - 1, by omega⟩
    simp only [casing_table_keeps.l0]
    rw [if_neg (by omega), List.drop_eq_nil_of_le (by omega)]
    exact ⟨_, rfl, by simp⟩
  | m + 1, q, k, e, hk => by
    obtain ⟨k, rfl⟩ : ∃ r, k = r + 1 := ⟨k - 1, by omega⟩
    have hq : q < R.length := by omega
    have hd5 := h.d5
    have hr : rdOf ByteArray.empty R (q : Int) = R[q] := by simp [rdOf, hq]
    simp only [casing_table_keeps.l0]
    have l1 := keeps_l1 h R hR hs hlet a0 q hq p0 p1 (nT T) 0 k (by omega) (by omega)
    simp only [Int.natCast_zero] at l1
    rw [if_pos (by omega), if_pos (by omega), if_pos (by omega), hr, l1]
    obtain ⟨b, hb, ib⟩ := keeps_l0 a0 p0 p1 m (q + 1) (k - nT T - 1) (by omega) (by omega)
    rw [List.drop_eq_getElem_cons hq]
    by_cases hc : (∀ i' : Nat, 0 ≤ i' → i' < nT T → followT T i' (strBytes R[q]) = i')
    rotate_left
    · rw [if_neg hc]
      refine ⟨false, rfl, by simp, ?_⟩
      rintro ⟨h1, _⟩
      exact absurd (fun i _ hi => h1 _ (List.mem_cons_self) i hi) hc
    rw [if_pos hc]
    refine ⟨b, hb, ?_⟩
    rw [ib]
    constructor
    · rintro ⟨h1, h2⟩
      refine ⟨fun s hs' => ?_, h2⟩
      rcases List.mem_cons.1 hs' with rfl | hs'
      · exact fun i hi => hc i (by omega) hi
      · exact h1 s hs'
    · rintro ⟨h1, h2⟩
      exact ⟨fun s hs' => h1 s (List.mem_cons_of_mem _ hs'), h2⟩
open Classical in
theorem refKeeps_l1 (q : Nat) (hq : q < R.length) (p0 : Int) : ∀ (m i k : Nat), i + m = nT T → m + 150 ≤ k →
    remouldref01_Keeps.l1 k T (q : Int) (i : Int) p0 R =
    if (∀ i' : Nat, i ≤ i' → i' < nT T → followT T i' (strBytes R[q]) = i') then remouldref01_Keeps.l0 (k - m - 1) T ((q + 1 : Nat) : Int) p0 R else some false
  | 0, i, k, e, hk => by
    obtain ⟨k, rfl⟩ : ∃ r, k = r + 1 := ⟨k - 1, by omega⟩
    simp only [remouldref01_Keeps.l1]
    have hn : nT T = (rd_L5 T 0).length := rfl
    have hg := h.g1
    rw [if_pos (by omega), if_neg (by omega), if_pos (fun i' h1 h2 => by omega), wrapN _ (by omega) (by omega)]
    rfl
  | m + 1, i, k, e, hk => by
    obtain ⟨k, rfl⟩ : ∃ r, k = r + 1 := ⟨k - 1, by omega⟩
    have hn : nT T = (rd_L5 T 0).length := rfl
    have hd5 := h.d5
    have hg := h.g1
    have hm := List.getElem_mem hq
    have hsz := hs _ hm
    have hr : rdOf ByteArray.empty R (q : Int) = R[q] := by simp [rdOf, hq]
    simp only [remouldref01_Keeps.l1]
    rw [if_pos (by omega), if_pos (by omega), if_pos (by omega), if_pos (by omega), hr, refSend_f h _ (by omega) (hlet _ hm) (i : Int) (by omega) (by omega) k (by omega)]
    simp only [Option.bind_some]
    by_cases e1 : followT T i (strBytes R[q]) = i
    rotate_left
    · rw [if_neg e1, if_neg (fun hh => e1 (hh i (Nat.le_refl _) (by omega)))]
    rw [if_pos e1, wrapN _ (by omega) (by omega), show ((i : Int) + 1) = ((i + 1 : Nat) : Int) from by omega, refKeeps_l1 q hq p0 m (i + 1) k (by omega) (by omega), show k + 1 - (m + 1) - 1 = k - m - 1 from by omega]
    have hiff : (∀ i' : Nat, i ≤ i' → i' < nT T → followT T i' (strBytes R[q]) = i') ↔ (∀ i' : Nat, i + 1 ≤ i' → i' < nT T → followT T i' (strBytes R[q]) = i') := by
      constructor
      · exact fun hh i' h1 h2 => hh i' (by omega) h2
      · intro hh i' h1 h2
        by_cases e' : i' = i
        · rw [e']; exact e1
        · exact hh i' (by omega) h2
    by_cases hc : (∀ i' : Nat, i + 1 ≤ i' → i' < nT T → followT T i' (strBytes R[q]) = i')
    · rw [if_pos hc, if_pos (hiff.2 hc)]
    · rw [if_neg hc, if_neg (fun hh => hc (hiff.1 hh))]
theorem refKeeps_l0 (p0 : Int) : ∀ (m q k : Nat), q + m = R.length → 20 * m + 200 ≤ k →
    ∃ b : Bool, remouldref01_Keeps.l0 k T (q : Int) p0 R = some b ∧ (b = true ↔ (∀ s ∈ R.drop q, ∀ i : Nat, i < nT T → followT T i (strBytes s) = i))
  | 0, q, k, e, hk => by
    obtain ⟨k, rfl⟩ : ∃ r, k = r + 1 := ⟨k - 1, by omega⟩
    simp only [remouldref01_Keeps.l0]
    rw [if_neg (by omega), List.drop_eq_nil_of_le (by omega)]
    exact ⟨_, rfl, by simp⟩
  | m + 1, q, k, e, hk => by
    obtain ⟨k, rfl⟩ : ∃ r, k = r + 1 := ⟨k - 1, by omega⟩
    have hq : q < R.length := by omega
    have hd5 := h.d5
    simp only [remouldref01_Keeps.l0]
    have l1 := refKeeps_l1 h R hR hs hlet q hq p0 (nT T) 0 k (by omega) (by omega)
    simp only [Int.natCast_zero] at l1
    rw [if_pos (by omega), l1]
    obtain ⟨b, hb, ib⟩ := refKeeps_l0 p0 m (q + 1) (k - nT T - 1) (by omega) (by omega)
    rw [List.drop_eq_getElem_cons hq]
    by_cases hc : (∀ i' : Nat, 0 ≤ i' → i' < nT T → followT T i' (strBytes R[q]) = i')
    rotate_left
    · rw [if_neg hc]
      refine ⟨false, rfl, by simp, ?_⟩
      intro h1
      exact absurd (fun i _ hi => h1 _ (List.mem_cons_self) i hi) hc
    rw [if_pos hc]
    refine ⟨b, hb, ?_⟩
    rw [ib]
    constructor
    · intro h1 s hs'
      rcases List.mem_cons.1 hs' with rfl | hs'
      · exact fun i hi => hc i (by omega) hi
      · exact h1 s hs'
    · exact fun h1 s hs' => h1 s (List.mem_cons_of_mem _ hs')
end
theorem keeps_f {T : List (List Int)} (h : Tab T) (R : List ByteArray) (hR : R.length ≤ 10) (hs : ∀ s ∈ R, s.size ≤ 100) (hlet : ∀ s ∈ R, ∀ c ∈ strBytes s, letG T.length c) (a0 p0 : Int) (k : Nat) (hk : 500 ≤ k) :
    ∃ b : Bool, casing_table_keeps.f k a0 ((rd_L5 T 0).length : Int) ((tabL T).getD 0 0) ((tabL T).getD 1 0) ((tabL T).getD 2 0) ((tabL T).getD 3 0) ((tabL T).getD 4 0) ((tabL T).getD 5 0) ((tabL T).getD 6 0) ((tabL T).getD 7 0) ((tabL T).getD 8 0) ((tabL T).getD 9 0) p0 R = some b ∧ (b = true ↔ keepsP T R ∧ a0 = p0) := by
  have := keeps_l0 h R hR hs hlet a0 p0 R R.length 0 k (by omega) (by omega)
  simpa [casing_table_keeps.f, keepsP] using this
theorem refKeeps_f {T : List (List Int)} (h : Tab T) (R : List ByteArray) (hR : R.length ≤ 10) (hs : ∀ s ∈ R, s.size ≤ 100) (hlet : ∀ s ∈ R, ∀ c ∈ strBytes s, letG T.length c) (k : Nat) (hk : 500 ≤ k) :
    ∃ b : Bool, remouldref01_Keeps.f k (T.length : Int) R T = some b ∧ (b = true ↔ keepsP T R) := by
  obtain ⟨b, h1, h2⟩ := refKeeps_l0 h R hR hs hlet (T.length : Int) R.length 0 k (by omega) (by omega)
  refine ⟨b, ?_, by simpa [keepsP] using h2⟩
  unfold remouldref01_Keeps.f
  rw [if_pos rfl]
  exact h1
theorem refKeeps_no {T : List (List Int)} (R : List ByteArray) (p0 : Int) (hne : (T.length : Int) ≠ p0) (k : Nat) : remouldref01_Keeps.f k p0 R T = some false := by
  unfold remouldref01_Keeps.f
  rw [if_neg hne]
end Go.Proofs.Ytmcihijobilcgaa.PAll
end
section
namespace Go.Proofs.Ytmcihijobilcgaa.Pure
open Go.RowKit Go.Proofs.Ytmcihijobilcgaa.PAll Go.Proofs.YtmcihijobilcgaaW.PrintWords Go.Proofs.YtmcihijobilcgaaW.PrintLast
theorem CasingSends (l : List (List Int)) (i : Int) (s : ByteArray) (hl : l.length ≤ 9223372036854775807) (hw : ∀ r ∈ l, ∀ n ∈ r, (Lit.int .i64 n).wf = true) (hi : (Lit.int .i64 i).wf = true) (hs : s.size ≤ 140737488351232) : ∃ k, remouldlaw01_CasingSends.f k l i s = some true := by
  refine ⟨1001, ?_⟩
  have hb := briefB_size s
  have hT3 := tableR_len l
  have hT6 := tableR_row l
  unfold remouldlaw01_CasingSends.f
  rw [table_f l 1001 (by omega), brief_eq s]
  simp only [Option.bind_some]
  rw [refTable_f (tableR l) hT3 hT6 1001 (by omega)]
  simp only [Option.bind_some, remouldlaw01_CasingSends.j0]
  obtain ⟨T, hT⟩ : ∃ T, tableR l = T := ⟨_, rfl⟩
  obtain ⟨w, hw'⟩ : ∃ w, briefB s = w := ⟨_, rfl⟩
  rw [hT] at hT3 hT6 ⊢
  rw [hw'] at hb ⊢
  by_cases hok : okT T
  rotate_left
  · rw [Send_no (fun h => hok h.1), decide_eq_false hok]
    simp [remouldlaw01_awake.f]
  have tab := (okT_tab T).1 hok
  have hg1 := tab.g1
  have hg2 := tab.g2
  have hn : nT T = (rd_L5 T 0).length := rfl
  rw [decide_eq_true hok, refWord_f _ _ (by omega) 1001 (by omega)]
  simp only [Int.toNat_natCast, Option.bind_some, if_true]
  by_cases hin : 0 ≤ i ∧ i < ((rd_L5 T 0).length : Int)
  rotate_left
  · rw [Send_no (fun h => hin ⟨h.2.1.1, by have := h.2.1.2; omega⟩)]
    simp only [Option.bind_some]
    by_cases h0 : i < 0
    · rw [if_pos h0]
      simp [remouldlaw01_awake.f]
    · rw [if_neg h0, if_pos (by omega), if_pos (by omega)]
      simp [remouldlaw01_awake.f]
  by_cases hwd : wordOK (T.length : Int) w = true
  rotate_left
  · rw [Send_no (fun h => hwd h.2.2)]
    simp only [Option.bind_some]
    have hf : (decide (((T.length : Int) = 1 ∨ (T.length : Int) = 2) ∧ w.size ≤ 30) && allLet T.length w) = false := by
      rw [← Bool.not_eq_true]
      unfold wordOK at hwd
      simp only [Bool.and_eq_true, decide_eq_true_eq, Int.toNat_natCast] at hwd ⊢
      exact fun h => hwd ⟨h.1.2, h.2⟩
    rw [if_neg (by omega), if_pos (by omega), if_neg (by omega), hf]
    simp [remouldlaw01_awake.f]
  rw [Send_yes hok hin.1 (by omega) hwd 1001 (by omega)]
  simp only [Option.bind_some]
  unfold wordOK at hwd
  simp only [Bool.and_eq_true, decide_eq_true_eq, Int.toNat_natCast] at hwd
  rw [if_neg (by omega), if_pos (by omega), if_neg (by omega), decide_eq_true ⟨by omega, hwd.1⟩, hwd.2]
  simp only [Bool.and_self, Bool.not_true, Bool.false_eq_true, if_false]
  rw [refSend_f tab w (by omega) (letG_bytes hwd.2) i hin.1 (by omega) 1000 (by omega)]
  simp [remouldlaw01_awake.f]
end Go.Proofs.Ytmcihijobilcgaa.Pure
end
section
namespace Go.Proofs.Ytmcihijobilcgaa.PAll
open Go.RowKit Go.ChangeShapes Go.WideShapes Go.ChangeAt Go.Deep Go.Proofs.YtmcihijobilcgaaW.PrintWords
section
variable {H : Type} {enc : TypeId × Value → H} {P : Program} {w : World} {base : Nat}
theorem open_stringsC {t e : TypeId} {fuel : Nat} {v : Value} {x : DataW H × List MemPlace} (ht : P.underlying t = some (.slice e)) (he : P.underlying e = some .string) (ce : P.cellsOf e = 1)
    (h : DataW.trod enc P w base (fun _ => true) true fuel t [v] = some x) :
    ∃ (A : Option Addr) (c : Nat) (l : List ByteArray), v = .slice A l.length c ∧ l.length ≤ c ∧ Kd.C Kd.string w A l.length l := by
  rcases open_strings ht he ce h with ⟨hcs, _⟩ | ⟨a, l, c, zs, hcs, _, hl, hm, hz, _, hcell, hwz⟩
  · obtain rfl := List.singleton_inj.1 hcs
    exact ⟨none, 0, [], rfl, Nat.le_refl _, Kd.C_nil _ _⟩
  · obtain rfl := List.singleton_inj.1 hcs
    simp at hz
    have hlen : (zs.take l).length = l := by simp; omega
    refine ⟨some a, c, zs.take l, by rw [hlen], by omega, Kd.C_of_reads (enc := Value.string) (d := ByteArray.empty) (h1 := fun _ => rfl) ⟨rfl, by rw [hlen]; unfold maxLen at hm; omega, fun _ => ⟨a, rfl, fun j hj => ?_⟩⟩⟩
    rw [hlen] at hj
    rw [hcell j (by omega)]
    simp [List.getD, List.getElem?_take, hj]
theorem open_rowsC {k : IntKind} {t e q : TypeId} {fuel : Nat} {v : Value} {x : DataW H × List MemPlace} (ht : P.underlying t = some (.slice e)) (he : P.underlying e = some (.slice q)) (hq : P.underlying q = some (.int k)) (ce : P.cellsOf e = 1) (cq : P.cellsOf q = 1)
    (h : DataW.trod enc P w base (fun _ => true) true fuel t [v] = some x) :
    ∃ (A : Option Addr) (c : Nat) (l : List (List Int)), v = .slice A l.length c ∧ l.length ≤ c ∧ Kd.C (Kd.slice q (Kd.int k)) w A l.length l ∧ ∀ r ∈ l, ∀ n ∈ r, (Lit.int k n).wf = true := by
  rcases open_int_rows ht he hq ce cq h with ⟨hcs, _⟩ | ⟨a, l, c, A, L, C, Z, hcs, _, hl, hm, _, hcell⟩
  · obtain rfl := List.singleton_inj.1 hcs
    exact ⟨none, 0, [], rfl, Nat.le_refl _, Kd.C_nil _ _, fun r hr => by cases hr⟩
  · obtain rfl := List.singleton_inj.1 hcs
    have hlen : ((List.range l).map fun r => (Z r).take (L r)).length = l := by simp
    refine ⟨some a, c, (List.range l).map fun r => (Z r).take (L r), by rw [hlen], by omega, ⟨rfl, by rw [hlen]; unfold maxLen at hm; omega, fun _ => ⟨a, rfl, fun j p hp => ?_⟩⟩, fun r hr n hn => ?_⟩
    · have hj : j < l := by
        have := (List.getElem?_eq_some_iff.1 hp).1
        omega
      have hp' : p = (Z j).take (L j) := by
        simp [hj] at hp
        exact hp.symm
      subst hp'
      obtain ⟨h1, h2, h3, h4, h5, h6, h7⟩ := hcell j (by omega)
      have hle : ((Z j).take (L j)).length = L j := by simp; omega
      refine ⟨[.slice (A j) (L j) (C j)], rfl, ⟨A j, C j, by rw [hle], by omega, ?_⟩, fun i u hu => ?_⟩
      · refine Kd.C_of_reads (enc := Value.int k) (d := (0 : Int)) (h1 := fun _ => rfl) ⟨rfl, by rw [hle]; unfold maxLen at h3; omega, fun h0 => ?_⟩
        cases hA : A j with
        | none => have := h6 hA; omega
        | some a' =>
          refine ⟨a', rfl, fun i hi => ?_⟩
          rw [hle] at hi
          rw [(h7 a' hA).2 i (by omega)]
          simp [List.getD, List.getElem?_take, hi]
      · have hi : i = 0 := by
          have := (List.getElem?_eq_some_iff.1 hu).1
          simp at this
          exact this
        subst hi
        simp at hu
        subst hu
        show w.cell? (a.add (j * 1 + 0)) = _
        rw [Nat.mul_one, Nat.add_zero]
        exact h1
    · obtain ⟨j, hj, rfl⟩ := List.mem_map.1 hr
      have hj' : j < l := by simpa using hj
      exact (hcell j (by omega)).2.2.2.2.1 n (List.mem_of_mem_take hn)
end
end Go.Proofs.Ytmcihijobilcgaa.PAll
end
section
namespace Go.Proofs.Ytmcihijobilcgaa.casingSends
open Go.ChangeShapes Go.WideShapes Go.ChangeAt Go.RowKit
open Go.ChangeMaps (open_string shut_string)
theorem own : ownKnob Try.prog.godebug = none := by kernel_rfl
theorem laidOut : laidOutB Try.prog = true := by kernel_rfl
set_option maxRecDepth 100000 in
theorem lifted (os : Os) (started : os.Started) (H : Type) (enc : TypeId × Value → H) :
    ReturnsInHanded {} Try.checked os 10 .any (Rows.casingSendsSpec.pre6 enc Try.prog Try.f10 Rows.casingSendsRow.domain false) (Rows.casingSendsSpec.post enc Try.prog Try.f10 false true false false) := by
  refine returnsInHanded_of_change_sized (C := Try.checked) own started (by kernel_rfl) Try.func10
    (ChangeSpec.witness6 (enc := enc) (C := Try.checked) false ⟨#[], #[.slice none 0 0, .int .i64 0, .string ByteArray.empty], []⟩ 8 (by kernel_rfl) (by kernel_rfl) (by kernel_rfl) (by kernel_rfl)) ?_
  intro W base args ds gs before hval0 hW hcnd hsz0 _
  have hsz : (DataW.weightsEach Try.prog (Try.f10.params.toList ++ Rows.casingSendsSpec.plain.varTypes Try.prog) (ds ++ gs)).all (· ≤ reachBytes) = true := hsz0
  have hval : ∀ (j : Nat) t v, Try.f10.params[j]? = some t → args[j]? = some v → Value.okWide Try.prog W .any base t v := hval0
  have hW' := hW
  obtain ⟨p, q, hA0, hV, rfl, hfz, hnd⟩ := hW
  have hA : DataW.TrodAll enc Try.prog W 0 (fun _ => true) true Try.f10.params.toList args.toList ds p := hA0
  rw [Try.params10] at hA hval hsz
  obtain ⟨v0, vs0, d0, ds0, p0, q0, hargs, rfl, rfl, h0, r0⟩ := trodAll_cons hA
  obtain ⟨v1, vs1, d1, ds1, p1, q1, rfl, rfl, rfl, h1, r1⟩ := trodAll_cons r0
  obtain ⟨v2, vs2, d2, ds2, p2, q2, rfl, rfl, rfl, h2, r2⟩ := trodAll_cons r1
  obtain ⟨rfl, rfl, rfl⟩ := trodAll_nil r2
  obtain rfl : args = #[v0, v1, v2] := by cases args; simp_all
  obtain ⟨rfl, rfl⟩ := trodVars_none hV
  have k0 := h0
  have lt0 : ∀ x ∈ p0, x.block < W.heap.size := by obtain ⟨m, hm⟩ := k0; exact DataW.trod_lt m _ _ _ hm
  obtain ⟨A0, len0, c0, rfl⟩ := okWide_slice Try.underlying34 (hval 0 34 v0 rfl rfl)
  obtain ⟨m0, g0⟩ := h0
  obtain ⟨B0, b0, l0, e0, j0, C0, w0⟩ := PAll.open_rowsC (v := .slice A0 len0 c0) Try.underlying34 Try.underlying36 Try.underlying3 (by kernel_rfl) (by kernel_rfl) g0
  cases e0
  obtain ⟨a1, rfl, rfl, rfl, w1⟩ := open_int Try.underlying3 (hval 1 3 v1 rfl rfl) h1
  obtain ⟨a2, rfl, rfl, rfl, y2⟩ := open_string Try.underlying9 (hval 2 9 v2 rfl rfl) h2
  have w2 : a2.size ≤ 140737488351232 := by
    have z := sized_string hsz (j := 2) (t := 9) rfl rfl
    rw [Array.length_toList] at z
    exact z
  clear hA0 hval0 hsz0 hsz
  obtain ⟨k, h⟩ := Pure.CasingSends l0 a1 a2 C0.2.1 w0 w1 w2
  refine (PAll.remouldlaw01_CasingSends.calls k _ _ l0 a1 a2 true ⟨rfl⟩ W C0 j0 h).mono fun e W' ⟨he, bel⟩ => ?_
  subst he
  exact ⟨_, rfl, _, _, _, [], _, [], hW', trodAll_mk1 (shut_bool Try.underlying4 _), (trodAll_cons_mk (Below.trod laidOut (by kernel_rfl) (of_decide_eq_true (by kernel_rfl)) k0 bel lt0) (trodAll_cons_mk (shut_int Try.underlying3 w1) (trodAll_cons_mk (shut_string Try.underlying9 y2) trodAll_mk0))), rfl, bel.frame _, fun h => by cases h⟩
theorem over : Rows.casingSendsRow.holds Try.pinned (OpenSpec.ofChange Rows.casingSendsSpec) :=
  OpenClaim.holds_of_wide 10 Try.f10 rfl rfl rfl rfl rfl rfl rfl ⟨rfl, rfl, rfl, rfl, rfl⟩ rfl rfl rfl rfl rfl (by kernel_rfl) Try.func10 (by kernel_rfl)
    (of_decide_eq_true (by kernel_rfl)) (by unfold Func.isWrapper; first | (rw [if_pos (by decide +kernel)]; kernel_rfl) | (rw [if_neg (by decide +kernel)]; exact ⟨rfl, rfl⟩))
    (fun os started H enc _ => lifted os started H enc)
theorem proved : Rows.CasingSendsSaid := over
end Go.Proofs.Ytmcihijobilcgaa.casingSends
namespace Go.Proofs.Ytmcihijobilcgaa
theorem casingSends_holds : Rows.CasingSendsSaid := casingSends.proved
end Go.Proofs.Ytmcihijobilcgaa
end
