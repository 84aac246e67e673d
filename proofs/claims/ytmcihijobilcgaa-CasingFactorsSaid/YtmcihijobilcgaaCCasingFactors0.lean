/- The law CasingFactors returns true for every input: for any presentation, casing.Factors returns the factors and the number of infinite ones, or ErrArg. No condition. Part 1 of 1. -/
import Derived.Lib.SpaceUEq
import Derived.WalkKit
import Derived.ProofKit
import Derived.OpenShut
import Derived.ShutString
import Derived.SliceStrings
import Derived.Deep.Matrix
import Derived.Lib.SmallJoins
import Derived.Test.YtmcihijobilcgaaRows
import Derived.ChangeOld
import Derived.Below
import Derived.SizedLaws
import Derived.Carry
import Derived.Test.YtmcihijobilcgaaB4
set_option linter.all false
section
namespace Go.Proofs.Ytmcihijobilcgaa.PAll
open Go.RowKit Go.Proofs.YtmcihijobilcgaaW.PrintWords Go.Proofs.YtmcihijobilcgaaW.PrintLast Go.Proofs.YtmcihijobilcgaaW.PrintMore
attribute [local go_sem] max2_int min2_int max_two min_two max_three min_three max_four min_four
def remouldlaw01_brief.f (a0 : ByteArray) : Option (ByteArray) := if 0 ≤ (mn (a0.size : Int) 31) then (if (mn (a0.size : Int) 31) ≤ (a0.size : Int) then (some (a0.extract 0 ((mn (a0.size : Int) 31) : Int).toNat)) else (none)) else (none)
set_option maxHeartbeats 8000000 in
set_option maxRecDepth 100000 in
theorem remouldlaw01_brief.calls (a0 : ByteArray) (r : ByteArray) (w : World) (h : remouldlaw01_brief.f a0 = some r) :
    Calls Try.prog 30 #[.string a0] w fun e w' => e = .returned (.string r) ∧ Below w.heap.size w w' := by
  have HB := Aside0.mk (Below.refl w.heap.size w)
  have H : (if 0 ≤ (mn (a0.size : Int) 31) then (if (mn (a0.size : Int) 31) ≤ (a0.size : Int) then (some (a0.extract 0 ((mn (a0.size : Int) 31) : Int).toNat)) else (none)) else (none)) = some r := h
  clear h
  obtain ⟨ji2, hji2⟩ : ∃ j_ : Int, (mn (a0.size : Int) 31) = j_ := ⟨_, rfl⟩
  replace H : (if 0 ≤ (ji2) then (if (ji2) ≤ (a0.size : Int) then (some (a0.extract 0 ((ji2) : Int).toNat)) else (none)) else (none)) = some r := by first | (rw [hji2] at H; exact H) | (simp only [hji2] at H ⊢; exact H)
  (try (have hji2h : ji2 ≤ 31 := by (rw [← hji2]; unfold mn; (repeat' split) <;> omega)))
  (try (have hji2g : ji2 ≤ 64 := by omega))
  (try (have hji2l : 0 ≤ ji2 := by (rw [← hji2]; unfold mn; (repeat' split) <;> omega)))
  (try (have hji2m : 0 ≤ ji2 := by omega))
  have hji2_ : (if 31 < (a0.size : Int) then 31 else (a0.size : Int)) = ji2 := hji2
  by_cases c3 : 0 ≤ (ji2)
  rotate_left
  · rw [if_neg c3] at H
    exact absurd H (by simp)
  rw [if_pos c3] at H
  have c3b0 := eq_true c3
  have c3b1 : decide (0 ≤ (ji2)) = true := decide_eq_true c3
  clear c3
  by_cases c4 : (ji2) ≤ (a0.size : Int)
  rotate_left
  · rw [if_neg c4] at H
    exact absurd H (by simp)
  rw [if_pos c4] at H
  have c4b0 := eq_true c4
  have c4b1 : decide ((ji2) ≤ (a0.size : Int)) = true := decide_eq_true c4
  clear c4
  obtain rfl := Option.some.inj H
  go_enter Try.func30, Try.ntmps30
  go_wp2
  go_ret
  exact ⟨by first | rfl | (simp [errW_none, errW_some] <;> rfl) | (simp only [← hji2]; first | rfl | (simp [errW_none, errW_some] <;> rfl)) | (simp [*, errW_none, errW_some] <;> rfl), by repeat (first | (with_reducible first | exact HB.out | apply below_alloc | apply pw_below_drewN | apply below_drew1) | exact HB.out)⟩
end Go.Proofs.Ytmcihijobilcgaa.PAll
end
section
namespace Go.Proofs.Ytmcihijobilcgaa.PAll
open Go.RowKit Go.Proofs.YtmcihijobilcgaaW.PrintWords Go.Proofs.YtmcihijobilcgaaW.PrintLast Go.Proofs.YtmcihijobilcgaaW.PrintMore
attribute [local go_sem] max2_int min2_int max_two min_two max_three min_three max_four min_four
def remouldlaw01_group.l0 : Nat → List ByteArray → Int → Int → List ByteArray → Option (Int × List ByteArray)
  | 0, _, _, _, _ => none
  | k + 1, x3, x4, x102000, x102001 => if x4 < (x102001.length : Int) then (if x4 ≤ 6 then (if 0 ≤ x4 then ((remouldlaw01_brief.f (rdOf ByteArray.empty x102001 x4)).bind fun t104 => (if x3.length < 8796093022208 then (remouldlaw01_group.l0 k (x3 ++ [t104]) (wrap64 (x4 + 1)) x102000 x102001) else (none))) else (none)) else (some (x102000, x3))) else (some (x102000, x3))
def remouldlaw01_group.f (k : Nat) (a0_0 : Int) (l0_1 : List ByteArray) : Option (Int × List ByteArray) := remouldlaw01_group.l0 k ([] : List ByteArray) 0 a0_0 l0_1
set_option maxHeartbeats 8000000 in
set_option maxRecDepth 100000 in
theorem remouldlaw01_group.calls (k : Nat) (a0_0 : Int) (A0_1 : Option Addr) (c0_1 : Nat) (l0_1 : List ByteArray) (r1 : Int) (r2 : List ByteArray) (w : World) (hr0_1 : Kd.C Kd.string w A0_1 l0_1.length l0_1) (hc0_1 : l0_1.length ≤ c0_1) (h : remouldlaw01_group.f k a0_0 l0_1 = some (r1, r2)) :
    Calls Try.prog 14 #[.agg #[.int .i64 a0_0, .slice A0_1 l0_1.length c0_1]] w fun e w' => ∃ v1_ : Value, e = .returned (.agg #[.int .i64 r1, v1_]) ∧ Kd.R Kd.string 9 w' w.heap.size (fun _ => True) v1_ r2 ∧ Below w.heap.size w w' := by
  have hu24 := Try.underlying24
  have HR0_1 := Aside0.mk hr0_1
  have HC0_1 := Aside0.mk hc0_1
  clear hr0_1 hc0_1
  have HB := Aside0.mk (Below.refl w.heap.size w)
  have H : (remouldlaw01_group.l0 k ([] : List ByteArray) 0 a0_0 l0_1) = some (r1, r2) := h
  clear h
  have H' := Aside0.mk H
  clear H
  go_enter Try.func14, Try.ntmps14
  go_wp2_with (first | ((with_reducible refine gate_dst (N := 1) rfl ?_); refine box_event ?hg (N := 1) ?hd (cs := #[.int .i64 a0_0, .slice A0_1 l0_1.length c0_1]) (t := 24) ?hr ?_; (case hd => rfl); (case hg => rfl); (case hr => first | (go_simp; done) | (go_simp; rfl)); intro gb101 hg w2 hbox hb; have BK101 := Aside0.mk (hbox); have GW101 := Aside0.mk ((by rw [hg]; exact (below_size (by repeat (first | (with_reducible first | exact HB.out | apply below_alloc | apply pw_below_drewN | apply below_drew1) | exact HB.out))) : w.heap.size ≤ gb101)); have GE101 := Aside0.mk ((by rw [hg]; exact (below_size (by repeat (first | (with_reducible first | exact HB.out | apply below_alloc | apply pw_below_drewN | apply below_drew1) | exact HB.out))) : w.heap.size ≤ gb101)); replace HB := Aside0.mk (below_step (by repeat (first | (with_reducible first | exact HB.out | apply below_alloc | apply pw_below_drewN | apply below_drew1) | exact HB.out)) hb); clear hb hbox hg) | ((with_reducible refine gate_dst (N := 2) rfl ?_); refine box_event ?hg (N := 2) ?hd (cs := #[.int .i64 0, .slice none 0 0]) (t := 24) ?hr ?_; (case hd => rfl); (case hg => rfl); (case hr => first | (go_simp; done) | (go_simp; rfl)); intro gb102 hg w3 hbox hb; have BK102 := Aside0.mk (hbox); have GW102 := Aside0.mk ((by rw [hg]; exact (below_size (by repeat (first | (with_reducible first | exact HB.out | apply below_alloc | apply pw_below_drewN | apply below_drew1 | refine below_set ?_ GE101.out) | exact HB.out))) : w.heap.size ≤ gb102)); have GE102 := Aside0.mk ((by rw [hg]; exact (below_size (by repeat (first | (with_reducible first | exact HB.out | apply below_alloc | apply pw_below_drewN | apply below_drew1 | refine below_set ?_ GE101.out) | exact HB.out))) : w.heap.size ≤ gb102)); have NB101_102 := Aside0.mk ((by rw [hg]; exact Nat.ne_of_lt (blk_lt (g := gb101) (o := .cells #[.int .i64 a0_0, .slice A0_1 l0_1.length c0_1] 24 (0, 0)) (by (with_reducible repeat (first | refine blk_drewN ?_ _ | refine blk_drew ?_ | refine blk_alloc ?_ _)); exact BK101.out)) : gb101 ≠ gb102)); have NB102_101 := Aside0.mk ((by rw [hg]; exact Nat.ne_of_gt (blk_lt (g := gb101) (o := .cells #[.int .i64 a0_0, .slice A0_1 l0_1.length c0_1] 24 (0, 0)) (by (with_reducible repeat (first | refine blk_drewN ?_ _ | refine blk_drew ?_ | refine blk_alloc ?_ _)); exact BK101.out)) : gb102 ≠ gb101)); replace BK101 := Aside0.mk (blk_below (g := gb101) (o := .cells #[.int .i64 a0_0, .slice A0_1 l0_1.length c0_1] 24 (0, 0)) (by (with_reducible repeat (first | refine blk_drewN ?_ _ | refine blk_drew ?_ | refine blk_alloc ?_ _)); exact BK101.out) hb); replace HB := Aside0.mk (below_step (by repeat (first | (with_reducible first | exact HB.out | apply below_alloc | apply pw_below_drewN | apply below_drew1 | refine below_set ?_ GE101.out) | exact HB.out)) hb); clear hb hbox hg))
  go_loopg [3, 4] k (fun kq v3 v4 w' => ∃ (x3_1 : List ByteArray) (x4_1 : Int), v4 = .int .i64 x4_1 ∧ Aside0 (remouldlaw01_group.l0 kq x3_1 x4_1 a0_0 l0_1 = some (r1, r2)) ∧ Aside0 (kq ≤ k) ∧ Aside0 (Kd.R Kd.string 9 w' w.heap.size (fun _ => True) v3 x3_1) ∧ Aside0 (w'.heap[gb101]? = some (.cells #[.int .i64 a0_0, (.slice A0_1 l0_1.length c0_1)] 24 (0, 0))) ∧ Aside0 (w'.heap[gb102]? = some (.cells #[.int .i64 0, (.slice none 0 0)] 24 (0, 0))) ∧ Aside0 (Below w.heap.size w w'))
  case atStart => exact ⟨(([] : List ByteArray)), (0), (by first | rfl | (simp; done) | (simp [*]; done)), H', ⟨Nat.le_refl _⟩, ⟨by first | exact Kd.R_nil _ _ _ _ _ | exact Kd.N_nil _ _ _ _ _ | exact Kd.V_nil _ _ _ _ _ | exact Kd.Q_nil _ _ _ _ _ | exact Kd.S_nil _ _ _ _ _⟩, ⟨by (with_reducible repeat (first | refine blk_drewN ?_ _ | refine blk_drew ?_ | refine blk_alloc ?_ _)); exact BK101.out⟩, ⟨by (with_reducible repeat (first | refine blk_drewN ?_ _ | refine blk_drew ?_ | refine blk_alloc ?_ _)); exact BK102.out⟩, ⟨by repeat (first | (with_reducible first | exact HB.out | apply below_alloc | apply pw_below_drewN | apply below_drew1 | refine below_set ?_ GE101.out | refine below_set ?_ GE102.out) | exact HB.out)⟩⟩
  clear H'
  try clear c1
  try clear p2
  obtain ⟨x3_1, x4_1, rfl, HA, HK1, HO_3, BK101, BK102, HB⟩ := hrel
  cases gk with
  | zero => exact absurd HA.out (by simp [remouldlaw01_group.l0])
  | succ k1 =>
    have H := HA.out
    clear HA
    simp only [remouldlaw01_group.l0] at H
    by_cases c4 : x4_1 < (l0_1.length : Int)
    rotate_left
    · rw [if_neg c4] at H
      have c4b0 : decide (x4_1 < (l0_1.length : Int)) = false := decide_eq_false c4
      clear c4
      simp only [Option.some.injEq, Prod.mk.injEq] at H
      obtain ⟨rfl, rfl⟩ := H
      have hnb17 := NB101_102.out
      have hnc17 := NB102_101.out
      have hcz18_0 : wr.cell? ⟨gb101, 0, none⟩ = some (.int .i64 a0_0) := (blk_cell BK101.out 0).trans rfl
      have hcz18_1 : wr.cell? ⟨gb101, 1, none⟩ = some (.slice A0_1 l0_1.length c0_1) := (blk_cell BK101.out 1).trans rfl
      have hfz18_0 := blk_frozen BK101.out 0
      have hfz18_1 := blk_frozen BK101.out 1
      obtain ⟨Ao19, co19, eo19⟩ := Kd.R_slice HO_3.out
      subst eo19
      have hcz20_0 : wr.cell? ⟨gb102, 0, none⟩ = some (.int .i64 0) := (blk_cell BK102.out 0).trans rfl
      have hcz20_1 : wr.cell? ⟨gb102, 1, none⟩ = some (.slice none 0 0) := (blk_cell BK102.out 1).trans rfl
      have hfz20_0 := blk_frozen BK102.out 0
      have hfz20_1 := blk_frozen BK102.out 1
      go_wp2
      refine bodyPost_ret (results_cell_row rfl _ _ gb102 24 #[.int .i64 a0_0, .slice Ao19 x3_1.length co19] (0, 0) _ rfl (by (with_reducible repeat (first | refine blk_drewN ?_ _ | refine blk_drew ?_ | refine blk_alloc ?_ _)); refine blk_put (cs := #[.int .i64 a0_0, .slice none 0 0]) ?_ 1 _ rfl; (with_reducible repeat (first | refine blk_drewN ?_ _ | refine blk_drew ?_ | refine blk_alloc ?_ _)); refine blk_put (cs := #[.int .i64 0, .slice none 0 0]) ?_ 0 _ rfl; (with_reducible repeat (first | refine blk_drewN ?_ _ | refine blk_drew ?_ | refine blk_alloc ?_ _)); exact BK102.out) Try.underlying24 rfl (by kernel_rfl)) rfl ?_
      exact ⟨_, by first | rfl | (simp [errW_none, errW_some] <;> rfl) | (simp [*, errW_none, errW_some] <;> rfl), by (with_reducible repeat (first | apply Kd.R_alloc | apply Kd.R_drewN | apply Kd.R_drew)); exact Kd.R_mono (Kd.R_far (p := ⟨gb102, 1, none⟩) (Kd.R_far (p := ⟨gb102, 0, none⟩) (Kd.R_types HO_3.out BK102.out (by decide)) (fun _ hk => hk.2) (.int .i64 a0_0)) (fun _ hk => hk.2) (.slice Ao19 x3_1.length co19)) (fun _ hk => trivial), by repeat (first | (with_reducible first | exact HB.out | apply below_alloc | apply pw_below_drewN | apply below_drew1 | refine below_set ?_ GE101.out | refine below_set ?_ GE102.out) | exact HB.out)⟩
    rw [if_pos c4] at H
    have c4b0 : decide (x4_1 < (l0_1.length : Int)) = true := decide_eq_true c4
    clear c4
    by_cases c5 : x4_1 ≤ 6
    rotate_left
    · rw [if_neg c5] at H
      have c5b0 : decide (x4_1 ≤ 6) = false := decide_eq_false c5
      clear c5
      simp only [Option.some.injEq, Prod.mk.injEq] at H
      obtain ⟨rfl, rfl⟩ := H
      have hnb13 := NB101_102.out
      have hnc13 := NB102_101.out
      have hcz14_0 : wr.cell? ⟨gb101, 0, none⟩ = some (.int .i64 a0_0) := (blk_cell BK101.out 0).trans rfl
      have hcz14_1 : wr.cell? ⟨gb101, 1, none⟩ = some (.slice A0_1 l0_1.length c0_1) := (blk_cell BK101.out 1).trans rfl
      have hfz14_0 := blk_frozen BK101.out 0
      have hfz14_1 := blk_frozen BK101.out 1
      obtain ⟨Ao15, co15, eo15⟩ := Kd.R_slice HO_3.out
      subst eo15
      have hcz16_0 : wr.cell? ⟨gb102, 0, none⟩ = some (.int .i64 0) := (blk_cell BK102.out 0).trans rfl
      have hcz16_1 : wr.cell? ⟨gb102, 1, none⟩ = some (.slice none 0 0) := (blk_cell BK102.out 1).trans rfl
      have hfz16_0 := blk_frozen BK102.out 0
      have hfz16_1 := blk_frozen BK102.out 1
      go_wp2
      refine bodyPost_ret (results_cell_row rfl _ _ gb102 24 #[.int .i64 a0_0, .slice Ao15 x3_1.length co15] (0, 0) _ rfl (by (with_reducible repeat (first | refine blk_drewN ?_ _ | refine blk_drew ?_ | refine blk_alloc ?_ _)); refine blk_put (cs := #[.int .i64 a0_0, .slice none 0 0]) ?_ 1 _ rfl; (with_reducible repeat (first | refine blk_drewN ?_ _ | refine blk_drew ?_ | refine blk_alloc ?_ _)); refine blk_put (cs := #[.int .i64 0, .slice none 0 0]) ?_ 0 _ rfl; (with_reducible repeat (first | refine blk_drewN ?_ _ | refine blk_drew ?_ | refine blk_alloc ?_ _)); exact BK102.out) Try.underlying24 rfl (by kernel_rfl)) rfl ?_
      exact ⟨_, by first | rfl | (simp [errW_none, errW_some] <;> rfl) | (simp [*, errW_none, errW_some] <;> rfl), by (with_reducible repeat (first | apply Kd.R_alloc | apply Kd.R_drewN | apply Kd.R_drew)); exact Kd.R_mono (Kd.R_far (p := ⟨gb102, 1, none⟩) (Kd.R_far (p := ⟨gb102, 0, none⟩) (Kd.R_types HO_3.out BK102.out (by decide)) (fun _ hk => hk.2) (.int .i64 a0_0)) (fun _ hk => hk.2) (.slice Ao15 x3_1.length co15)) (fun _ hk => trivial), by repeat (first | (with_reducible first | exact HB.out | apply below_alloc | apply pw_below_drewN | apply below_drew1 | refine below_set ?_ GE101.out | refine below_set ?_ GE102.out) | exact HB.out)⟩
    rw [if_pos c5] at H
    have c5b0 : decide (x4_1 ≤ 6) = true := decide_eq_true c5
    clear c5
    by_cases c6 : 0 ≤ x4_1
    rotate_left
    · rw [if_neg c6] at H
      exact absurd H (by simp)
    rw [if_pos c6] at H
    have c6b0 : decide (0 ≤ x4_1) = true := decide_eq_true c6
    clear c6
    replace H := Option.bind_eq_some_iff.mp H
    obtain ⟨t104, A70, H⟩ := H
    replace H : (if x3_1.length < 8796093022208 then (remouldlaw01_group.l0 k1 (x3_1 ++ [t104]) (wrap64 (x4_1 + 1)) a0_0 l0_1) else (none)) = some (r1, r2) := H
    have A7 := Aside0.mk A70
    clear A70
    by_cases c8 : x3_1.length < 8796093022208
    rotate_left
    · rw [if_neg c8] at H
      exact absurd H (by simp)
    rw [if_pos c8] at H
    have LMc8 := Aside0.mk c8
    clear c8
    obtain ⟨y105, hy105⟩ : ∃ y_ : List ByteArray, y_ = (x3_1 ++ [t104]) := ⟨_, rfl⟩
    replace H : (remouldlaw01_group.l0 k1 y105 (wrap64 (x4_1 + 1)) a0_0 l0_1) = some (r1, r2) := by first | (rw [hy105]; with_reducible exact H) | (have H2_ := (Option.bind_some _ _).symm.trans H; rw [hy105]; with_reducible exact H2_) | (have H2_ := (Option.bind_some _ _).symm.trans H; with_reducible exact H2_) | with_reducible exact H | (rw [hy105]; exact H) | exact H
    have Ny105 := Aside0.mk hy105
    clear hy105
    have H' := Aside0.mk H
    clear H
    have hnb9 := NB101_102.out
    have hnc9 := NB102_101.out
    have hcz10_0 : wr.cell? ⟨gb101, 0, none⟩ = some (.int .i64 a0_0) := (blk_cell BK101.out 0).trans rfl
    have hcz10_1 : wr.cell? ⟨gb101, 1, none⟩ = some (.slice A0_1 l0_1.length c0_1) := (blk_cell BK101.out 1).trans rfl
    have hfz10_0 := blk_frozen BK101.out 0
    have hfz10_1 := blk_frozen BK101.out 1
    have p103 : 0 ≤ (x4_1 : Int) := of_decide_eq_true (by first | (with_reducible assumption) | assumption)
    have q103 : x4_1 < (l0_1.length : Int) := of_decide_eq_true (by first | (with_reducible assumption) | assumption)
    obtain ⟨ad103, e103, hx103_0⟩ := Kd.at_string HR0_1.out x4_1 p103 q103
    cases e103
    replace hx103_0 := (HB.out.cell (World.block_lt_of_cell? w _ hx103_0)).trans hx103_0
    replace p103 := eq_true p103
    replace q103 := eq_true q103
    go_wp2_with (first | ((with_reducible refine gate_callee (f := 30) rfl ?_); refine goesL_ (some 22) rfl rfl Try.func30 (by kernel_rfl) rfl #[.string (rdOf ByteArray.empty l0_1 x4_1)] rfl (by (try simp only [List.map_toArray, List.map_cons, List.map_nil]); first | done | rfl | (simp only [List.length_drop, List.length_take]; rfl)) ?_; (with_reducible refine (remouldlaw01_brief.calls (rdOf ByteArray.empty l0_1 x4_1) t104 _ A7.out).mono ?_); rintro e w11 ⟨rfl, hb⟩; refine ⟨_, rfl, ?_⟩; replace HO_3 := Aside0.mk (Kd.R_below (by (with_reducible repeat (first | apply Kd.R_alloc | apply Kd.R_drewN | apply Kd.R_drew)); exact HO_3.out) hb); replace BK101 := Aside0.mk (blk_below (g := gb101) (o := .cells #[.int .i64 a0_0, .slice (some ad103) l0_1.length c0_1] 24 (0, 0)) (by (with_reducible repeat (first | refine blk_drewN ?_ _ | refine blk_drew ?_ | refine blk_alloc ?_ _)); exact BK101.out) hb); replace BK102 := Aside0.mk (blk_below (g := gb102) (o := .cells #[.int .i64 0, .slice none 0 0] 24 (0, 0)) (by (with_reducible repeat (first | refine blk_drewN ?_ _ | refine blk_drew ?_ | refine blk_alloc ?_ _)); exact BK102.out) hb); replace HB := Aside0.mk (below_step (by repeat (first | (with_reducible first | exact HB.out | apply below_alloc | apply pw_below_drewN | apply below_drew1 | refine below_set ?_ GE101.out | refine below_set ?_ GE102.out) | exact HB.out)) hb); (try clear hb); (try clear hb2); (try clear hk); (try clear hi)) | ((with_reducible refine gate_builtin (b := .append) (xs := #[.tmp 16, .tmp 23]) rfl ?_); at_builtin; refine Kd.R_append Kd.string (w0 := w) w.heap.size rfl (.tmp 16) (.tmp 23) 22 9 (.string ⟨#[]⟩) 16 rfl Try.underlying22 info9 rfl (by decide) (by omega) u3 x3_1 t104 [.string t104] (fun _ => True) (fun _ => False) rfl rfl ?aP (fun _ hk => hk.elim) ?aF ?aO ?aB ?aS ?aL ?_; (case aP => exact rfl); (case aB => exact (by repeat (first | (with_reducible first | exact HB.out | apply below_alloc | apply pw_below_drewN | apply below_drew1 | refine below_set ?_ GE101.out | refine below_set ?_ GE102.out) | exact HB.out))); (case aF => exact (fun _ _ => trivial)); (case aO => exact (by (with_reducible repeat (first | apply Kd.R_alloc | apply Kd.R_drewN | apply Kd.R_drew)); exact HO_3.out)); (case aS => exact (below_size (by repeat (first | (with_reducible first | exact HB.out | apply below_alloc | apply pw_below_drewN | apply below_drew1 | refine below_set ?_ GE101.out | refine below_set ?_ GE102.out) | exact HB.out)))); (case aL => have := LMc8.out; omega); intro v106 w12 ho hb hg hat; rw [← Ny105.out] at ho; have HO107 := Aside0.mk (ho); replace BK101 := Aside0.mk (blk_grown (g := gb101) (o := .cells #[.int .i64 a0_0, .slice (some ad103) l0_1.length c0_1] 24 (0, 0)) (by (with_reducible repeat (first | refine blk_drewN ?_ _ | refine blk_drew ?_ | refine blk_alloc ?_ _)); exact BK101.out) hg (Kd.R_ne HO_3.out BK101.out (by decide))); replace BK102 := Aside0.mk (blk_grown (g := gb102) (o := .cells #[.int .i64 0, .slice none 0 0] 24 (0, 0)) (by (with_reducible repeat (first | refine blk_drewN ?_ _ | refine blk_drew ?_ | refine blk_alloc ?_ _)); exact BK102.out) hg (Kd.R_ne HO_3.out BK102.out (by decide))); replace HB := Aside0.mk (hb); clear HO_3; clear ho hb hg hat))
    go_roundg k1
    case measure => have := HK1.out; omega
    case rel => exact ⟨(y105), (wrap64 (x4_1 + 1)), (by first | rfl | (simp; done) | (simp [*]; done)), H', ⟨by have := HK1.out; omega⟩, ⟨by (with_reducible repeat (first | apply Kd.R_alloc | apply Kd.R_drewN | apply Kd.R_drew)); exact HO107.out⟩, ⟨by (with_reducible repeat (first | refine blk_drewN ?_ _ | refine blk_drew ?_ | refine blk_alloc ?_ _)); exact BK101.out⟩, ⟨by (with_reducible repeat (first | refine blk_drewN ?_ _ | refine blk_drew ?_ | refine blk_alloc ?_ _)); exact BK102.out⟩, ⟨by repeat (first | (with_reducible first | exact HB.out | apply below_alloc | apply pw_below_drewN | apply below_drew1 | refine below_set ?_ GE101.out | refine below_set ?_ GE102.out) | exact HB.out)⟩⟩
end Go.Proofs.Ytmcihijobilcgaa.PAll
end
section
namespace Go.Proofs.Ytmcihijobilcgaa.PAll
open Go.RowKit Go.Proofs.YtmcihijobilcgaaW.PrintWords Go.Proofs.YtmcihijobilcgaaW.PrintLast Go.Proofs.YtmcihijobilcgaaW.PrintMore
attribute [local go_sem] max2_int min2_int max_two min_two max_three min_three max_four min_four
def remouldref01_letter.j0 : Nat → Int → Int → Bool → Option (Int × Bool × Bool)
  | 0, _, _, _ => none
  | k + 1, x0, x1, x7 => if x7 = true then (some ((x0 - 97) % 256, false, true)) else (if x0 = 65 then (some ((x0 - 65) % 256, true, true)) else (if x0 = 66 then (if x1 = 2 then (some ((x0 - 65) % 256, true, true)) else (some (0, false, false))) else (some (0, false, false))))
def remouldref01_letter.f (k : Nat) (a0 : Int) (a1 : Int) : Option (Int × Bool × Bool) := if a0 = 97 then (remouldref01_letter.j0 k a0 a1 true) else (if a0 = 98 then (remouldref01_letter.j0 k a0 a1 (a1 == 2)) else (remouldref01_letter.j0 k a0 a1 false))
set_option maxHeartbeats 8000000 in
set_option maxRecDepth 100000 in
theorem remouldref01_letter.calls (k : Nat) (a0 : Int) (a1 : Int) (r1 : Int) (r2 : Bool) (r3 : Bool) (w : World) (h : remouldref01_letter.f k a0 a1 = some (r1, r2, r3)) :
    Calls Try.prog 57 #[.int .u8 a0, .int .i64 a1] w fun e w' => e = .returned (.tuple #[.int .i64 r1, .bool r2, .bool r3]) ∧ Drawn0 w w' := by
  have H : (if a0 = 97 then (remouldref01_letter.j0 k a0 a1 true) else (if a0 = 98 then (remouldref01_letter.j0 k a0 a1 (a1 == 2)) else (remouldref01_letter.j0 k a0 a1 false))) = some (r1, r2, r3) := h
  clear h
  have HC3 := Aside0.mk H
  clear H
  go_enter Try.func57, Try.ntmps57
  go_upto_region 1 with (fail)
  go_cut [7] (fun v7 wc => ∃ (kq : Nat) (x7_2 : Bool), v7 = .bool x7_2 ∧ Aside0 (remouldref01_letter.j0 kq a0 a1 x7_2 = some (r1, r2, r3)) ∧ Aside0 (kq ≤ k) ∧ Drawn0 w wc)
  case first =>
    have H := HC3.out
    clear HC3
    by_cases c4 : a0 = 97
    · rw [if_pos c4] at H
      have c4b0 : (a0 == 97) = true := beq_iff_eq.mpr c4
      have c4b1 : (a0 != 97) = false := bne_eq_false_iff_eq.mpr c4
      clear c4
      (first | rw [c4b0] | (simp only [i64_w, i32_w]; rw [c4b0]) | skip)
      have H' := Aside0.mk H
      clear H
      go_wp2
      go_meet
      case rel => exact ⟨_, (true), (by first | rfl | (simp; done) | (simp [*]; done)), H', ⟨by first | omega | exact Nat.le_refl _⟩, by repeat (first | exact Drawn0.refl _ | apply Drawn0.step)⟩
    rw [if_neg c4] at H
    have c4b0 : (a0 == 97) = false := beq_eq_false_iff_ne.mpr c4
    have c4b1 : (a0 != 97) = true := bne_iff_ne.mpr c4
    (first | rw [c4b0] | (simp only [i64_w, i32_w]; rw [c4b0]) | skip)
    by_cases c5 : a0 = 98
    rotate_left
    · rw [if_neg c5] at H
      have c5b0 : (a0 == 98) = false := beq_eq_false_iff_ne.mpr c5
      have c5b1 : (a0 != 98) = true := bne_iff_ne.mpr c5
      have H' := Aside0.mk H
      clear H
      go_wp2
      go_meet
      case rel => exact ⟨_, (false), (by first | rfl | (simp; done) | (simp [*]; done)), H', ⟨by first | omega | exact Nat.le_refl _⟩, by repeat (first | exact Drawn0.refl _ | apply Drawn0.step)⟩
    rw [if_pos c5] at H
    have c5b0 : (a0 == 98) = true := beq_iff_eq.mpr c5
    have c5b1 : (a0 != 98) = false := bne_eq_false_iff_eq.mpr c5
    clear c5
    have H' := Aside0.mk H
    clear H
    go_wp2
    go_meet
    case rel => exact ⟨_, ((a1 == 2)), (by first | rfl | (simp; done) | (simp [*]; done)), H', ⟨by first | omega | exact Nat.le_refl _⟩, by repeat (first | exact Drawn0.refl _ | apply Drawn0.step)⟩
  case rest =>
    clear HC3
    try clear p2
    try clear c4
    try clear c4b0
    try clear c4b1
    try clear c5
    try clear c5b0
    try clear c5b1
    obtain ⟨kq, x7_2, rfl, HA, HJ2, ⟨mc2, rfl⟩⟩ := hcut
    cases kq with
    | zero => exact absurd HA.out (by simp [remouldref01_letter.j0])
    | succ kj2 =>
      have H := HA.out
      clear HA
      simp only [remouldref01_letter.j0] at H
      by_cases c6 : x7_2 = true
      · subst c6
        have H1 : (some ((a0 - 97) % 256, false, true)) = some (r1, r2, r3) := by rw [if_pos rfl] at H; exact H
        clear H
        have H := H1
        clear H1
        simp only [Option.some.injEq, Prod.mk.injEq] at H
        obtain ⟨rfl, rfl, rfl⟩ := H
        go_wp2
        go_ret3
        exact ⟨by first | rfl | (simp; done) | (simp [*]; done), by repeat (first | exact Drawn0.refl _ | apply Drawn0.step)⟩
      replace c6 := Bool.eq_false_iff.mpr c6
      subst c6
      have H1 : (if a0 = 65 then (some ((a0 - 65) % 256, true, true)) else (if a0 = 66 then (if a1 = 2 then (some ((a0 - 65) % 256, true, true)) else (some (0, false, false))) else (some (0, false, false)))) = some (r1, r2, r3) := by rw [if_neg (show ¬ (false = true) by decide)] at H; exact H
      clear H
      have H := H1
      clear H1
      by_cases c7 : a0 = 65
      · rw [if_pos c7] at H
        have c7b0 : (a0 == 65) = true := beq_iff_eq.mpr c7
        have c7b1 : (a0 != 65) = false := bne_eq_false_iff_eq.mpr c7
        clear c7
        simp only [Option.some.injEq, Prod.mk.injEq] at H
        obtain ⟨rfl, rfl, rfl⟩ := H
        go_wp2
        go_ret3
        exact ⟨by first | rfl | (simp; done) | (simp [*]; done), by repeat (first | exact Drawn0.refl _ | apply Drawn0.step)⟩
      rw [if_neg c7] at H
      have c7b0 : (a0 == 65) = false := beq_eq_false_iff_ne.mpr c7
      have c7b1 : (a0 != 65) = true := bne_iff_ne.mpr c7
      by_cases c8 : a0 = 66
      rotate_left
      · rw [if_neg c8] at H
        have c8b0 : (a0 == 66) = false := beq_eq_false_iff_ne.mpr c8
        have c8b1 : (a0 != 66) = true := bne_iff_ne.mpr c8
        simp only [Option.some.injEq, Prod.mk.injEq] at H
        obtain ⟨rfl, rfl, rfl⟩ := H
        go_wp2
        go_ret3
        exact ⟨by first | rfl | (simp; done) | (simp [*]; done), by repeat (first | exact Drawn0.refl _ | apply Drawn0.step)⟩
      rw [if_pos c8] at H
      have c8b0 : (a0 == 66) = true := beq_iff_eq.mpr c8
      have c8b1 : (a0 != 66) = false := bne_eq_false_iff_eq.mpr c8
      clear c8
      by_cases c9 : a1 = 2
      rotate_left
      · rw [if_neg c9] at H
        have c9b0 : (a1 == 2) = false := beq_eq_false_iff_ne.mpr c9
        have c9b1 : (a1 != 2) = true := bne_iff_ne.mpr c9
        simp only [Option.some.injEq, Prod.mk.injEq] at H
        obtain ⟨rfl, rfl, rfl⟩ := H
        go_wp2
        go_ret3
        exact ⟨by first | rfl | (simp; done) | (simp [*]; done), by repeat (first | exact Drawn0.refl _ | apply Drawn0.step)⟩
      rw [if_pos c9] at H
      have c9b0 : (a1 == 2) = true := beq_iff_eq.mpr c9
      have c9b1 : (a1 != 2) = false := bne_eq_false_iff_eq.mpr c9
      clear c9
      simp only [Option.some.injEq, Prod.mk.injEq] at H
      obtain ⟨rfl, rfl, rfl⟩ := H
      go_wp2
      go_ret3
      exact ⟨by first | rfl | (simp; done) | (simp [*]; done), by repeat (first | exact Drawn0.refl _ | apply Drawn0.step)⟩
end Go.Proofs.Ytmcihijobilcgaa.PAll
end
section
namespace Go.Proofs.Ytmcihijobilcgaa.PAll
open Go.RowKit Go.Proofs.YtmcihijobilcgaaW.PrintWords Go.Proofs.YtmcihijobilcgaaW.PrintLast Go.Proofs.YtmcihijobilcgaaW.PrintMore
attribute [local go_sem] max2_int min2_int max_two min_two max_three min_three max_four min_four
def remouldref01_Word.l0 : Nat → Int → ByteArray → Int → Option (Bool)
  | 0, _, _, _ => none
  | k + 1, x0, x1, x5 => if x5 < (x1.size : Int) then (if 0 ≤ x5 then ((remouldref01_letter.f k (bt x1 x5) x0).bind fun bt108 => (if bt108.2.2 = true then (remouldref01_Word.l0 k x0 x1 (wrap64 (x5 + 1))) else (some false))) else (none)) else (if x0 = 1 then (some (decide ((x1.size : Int) ≤ 30))) else (if x0 = 2 then (some (decide ((x1.size : Int) ≤ 30))) else (some false)))
def remouldref01_Word.f (k : Nat) (a0 : Int) (a1 : ByteArray) : Option (Bool) := remouldref01_Word.l0 k a0 a1 0
set_option maxHeartbeats 8000000 in
set_option maxRecDepth 100000 in
theorem remouldref01_Word.calls (k : Nat) (a0 : Int) (a1 : ByteArray) (r : Bool) (w : World) (h : remouldref01_Word.f k a0 a1 = some r) :
    Calls Try.prog 32 #[.int .i64 a0, .string a1] w fun e w' => e = .returned (.bool r) ∧ Drawn0 w w' := by
  have H : (remouldref01_Word.l0 k a0 a1 0) = some r := h
  clear h
  have H' := Aside0.mk H
  clear H
  go_enter Try.func32, Try.ntmps32
  go_wp2
  go_loopg [5] k (fun kq v5 w' => ∃ (x5_1 : Int), v5 = .int .i64 x5_1 ∧ Aside0 (remouldref01_Word.l0 kq a0 a1 x5_1 = some r) ∧ Aside0 (kq ≤ k) ∧ Drawn0 w w')
  case atStart => exact ⟨(0), (by first | rfl | (simp; done) | (simp [*]; done)), H', ⟨Nat.le_refl _⟩, by repeat (first | exact Drawn0.refl _ | apply Drawn0.step)⟩
  clear H'
  try clear p2
  obtain ⟨x5_1, rfl, HA, HK1, ⟨m1, rfl⟩⟩ := hrel
  cases gk with
  | zero => exact absurd HA.out (by simp [remouldref01_Word.l0])
  | succ k1 =>
    have H := HA.out
    clear HA
    simp only [remouldref01_Word.l0] at H
    by_cases c3 : x5_1 < (a1.size : Int)
    rotate_left
    · rw [if_neg c3] at H
      have c3b0 : decide (x5_1 < (a1.size : Int)) = false := decide_eq_false c3
      clear c3
      by_cases c8 : a0 = 1
      · rw [if_pos c8] at H
        have c8b0 : (a0 == 1) = true := beq_iff_eq.mpr c8
        have c8b1 : (a0 != 1) = false := bne_eq_false_iff_eq.mpr c8
        clear c8
        obtain rfl := Option.some.inj H
        go_wp2
        go_ret
        exact ⟨by first | rfl | (simp; done) | (simp [*]; done), by repeat (first | exact Drawn0.refl _ | apply Drawn0.step)⟩
      rw [if_neg c8] at H
      have c8b0 : (a0 == 1) = false := beq_eq_false_iff_ne.mpr c8
      have c8b1 : (a0 != 1) = true := bne_iff_ne.mpr c8
      by_cases c9 : a0 = 2
      rotate_left
      · rw [if_neg c9] at H
        have c9b0 : (a0 == 2) = false := beq_eq_false_iff_ne.mpr c9
        have c9b1 : (a0 != 2) = true := bne_iff_ne.mpr c9
        obtain rfl := Option.some.inj H
        go_wp2
        go_ret
        exact ⟨by first | rfl | (simp; done) | (simp [*]; done), by repeat (first | exact Drawn0.refl _ | apply Drawn0.step)⟩
      rw [if_pos c9] at H
      have c9b0 : (a0 == 2) = true := beq_iff_eq.mpr c9
      have c9b1 : (a0 != 2) = false := bne_eq_false_iff_eq.mpr c9
      clear c9
      obtain rfl := Option.some.inj H
      go_wp2
      go_ret
      exact ⟨by first | rfl | (simp; done) | (simp [*]; done), by repeat (first | exact Drawn0.refl _ | apply Drawn0.step)⟩
    rw [if_pos c3] at H
    have c3b0 : decide (x5_1 < (a1.size : Int)) = true := decide_eq_true c3
    clear c3
    by_cases c4 : 0 ≤ x5_1
    rotate_left
    · rw [if_neg c4] at H
      exact absurd H (by simp)
    rw [if_pos c4] at H
    have c4b0 : decide (0 ≤ x5_1) = true := decide_eq_true c4
    clear c4
    replace H := Option.bind_eq_some_iff.mp H
    obtain ⟨⟨t108, t109, t110⟩, A60, H⟩ := H
    replace H : (if t110 = true then (remouldref01_Word.l0 k1 a0 a1 (wrap64 (x5_1 + 1))) else (some false)) = some r := H
    have A6 := Aside0.mk A60
    clear A60
    by_cases c7 : t110 = true
    rotate_left
    · replace c7 := Bool.eq_false_iff.mpr c7
      subst c7
      have H1 : (some false) = some r := by rw [if_neg (show ¬ (false = true) by decide)] at H; exact H
      clear H
      have H := H1
      clear H1
      obtain rfl := Option.some.inj H
      have p5 : 0 ≤ (x5_1 : Int) := of_decide_eq_true (by first | (with_reducible assumption) | assumption)
      have q5 : x5_1 < (a1.size : Int) := of_decide_eq_true (by first | (with_reducible assumption) | assumption)
      have hx5 := bt_at a1 x5_1
      replace p5 := eq_true p5
      replace q5 := eq_true q5
      go_wp2_with (first | ((with_reducible refine gate_callee (f := 57) rfl ?_); refine goesL_ (some 20) rfl rfl Try.func57 (by kernel_rfl) rfl #[.int .u8 (bt a1 x5_1), .int .i64 a0] rfl (by (try simp only [List.map_toArray, List.map_cons, List.map_nil]); first | done | rfl | (simp only [List.length_drop, List.length_take]; rfl)) ?_; (with_reducible refine (remouldref01_letter.calls k1 (bt a1 x5_1) a0 t108 t109 false _ A6.out).mono ?_); rintro e w' ⟨rfl, ⟨nd, rfl⟩⟩; refine ⟨_, rfl, ?_⟩))
      go_ret
      exact ⟨by first | rfl | (simp; done) | (simp [*]; done), by repeat (first | exact Drawn0.refl _ | apply Drawn0.step)⟩
    subst c7
    have H1 : (remouldref01_Word.l0 k1 a0 a1 (wrap64 (x5_1 + 1))) = some r := by rw [if_pos rfl] at H; exact H
    clear H
    have H := H1
    clear H1
    have H' := Aside0.mk H
    clear H
    have p5 : 0 ≤ (x5_1 : Int) := of_decide_eq_true (by first | (with_reducible assumption) | assumption)
    have q5 : x5_1 < (a1.size : Int) := of_decide_eq_true (by first | (with_reducible assumption) | assumption)
    have hx5 := bt_at a1 x5_1
    replace p5 := eq_true p5
    replace q5 := eq_true q5
    go_wp2_with (first | ((with_reducible refine gate_callee (f := 57) rfl ?_); refine goesL_ (some 20) rfl rfl Try.func57 (by kernel_rfl) rfl #[.int .u8 (bt a1 x5_1), .int .i64 a0] rfl (by (try simp only [List.map_toArray, List.map_cons, List.map_nil]); first | done | rfl | (simp only [List.length_drop, List.length_take]; rfl)) ?_; (with_reducible refine (remouldref01_letter.calls k1 (bt a1 x5_1) a0 t108 t109 true _ A6.out).mono ?_); rintro e w' ⟨rfl, ⟨nd, rfl⟩⟩; refine ⟨_, rfl, ?_⟩))
    go_roundg k1
    case measure => have := HK1.out; omega
    case rel => exact ⟨(wrap64 (x5_1 + 1)), (by first | rfl | (simp; done) | (simp [*]; done)), H', ⟨by have := HK1.out; omega⟩, by repeat (first | exact Drawn0.refl _ | apply Drawn0.step)⟩
end Go.Proofs.Ytmcihijobilcgaa.PAll
end
section
namespace Go.Proofs.Ytmcihijobilcgaa.PAll
open Go.RowKit Go.Proofs.YtmcihijobilcgaaW.PrintWords Go.Proofs.YtmcihijobilcgaaW.PrintLast Go.Proofs.YtmcihijobilcgaaW.PrintMore
attribute [local go_sem] max2_int min2_int max_two min_two max_three min_three max_four min_four
mutual
def remouldref01_Group.j0 : Nat → Bool → Int → List ByteArray → Option (Bool)
  | 0, _, _, _ => none
  | k + 1, x17, x112000, x112001 => if x17 = true then (some false) else (remouldref01_Group.l0 k 0 x112000 x112001)
def remouldref01_Group.l0 : Nat → Int → Int → List ByteArray → Option (Bool)
  | 0, _, _, _ => none
  | k + 1, x3, x112000, x112001 => if x3 < (x112001.length : Int) then (if 0 ≤ x3 then ((remouldref01_Word.f k x112000 (rdOf ByteArray.empty x112001 x3)).bind fun t113 => (if t113 = true then (remouldref01_Group.l0 k (wrap64 (x3 + 1)) x112000 x112001) else (some false))) else (none)) else (some true)
end
def remouldref01_Group.f (k : Nat) (a0_0 : Int) (l0_1 : List ByteArray) : Option (Bool) := if a0_0 < 1 then (remouldref01_Group.j0 k true a0_0 l0_1) else (if a0_0 > 2 then (remouldref01_Group.j0 k true a0_0 l0_1) else (remouldref01_Group.j0 k (decide ((l0_1.length : Int) > 6)) a0_0 l0_1))
set_option maxHeartbeats 8000000 in
set_option maxRecDepth 100000 in
theorem remouldref01_Group.calls (k : Nat) (a0_0 : Int) (A0_1 : Option Addr) (c0_1 : Nat) (l0_1 : List ByteArray) (r : Bool) (w : World) (hr0_1 : Kd.C Kd.string w A0_1 l0_1.length l0_1) (hc0_1 : l0_1.length ≤ c0_1) (h : remouldref01_Group.f k a0_0 l0_1 = some r) :
    Calls Try.prog 16 #[.agg #[.int .i64 a0_0, .slice A0_1 l0_1.length c0_1]] w fun e w' => e = .returned (.bool r) ∧ Below w.heap.size w w' := by
  have hu24 := Try.underlying24
  have HR0_1 := Aside0.mk hr0_1
  have HC0_1 := Aside0.mk hc0_1
  clear hr0_1 hc0_1
  have HB := Aside0.mk (Below.refl w.heap.size w)
  have H : (if a0_0 < 1 then (remouldref01_Group.j0 k true a0_0 l0_1) else (if a0_0 > 2 then (remouldref01_Group.j0 k true a0_0 l0_1) else (remouldref01_Group.j0 k (decide ((l0_1.length : Int) > 6)) a0_0 l0_1))) = some r := h
  clear h
  have HC2 := Aside0.mk H
  clear H
  go_enter Try.func16, Try.ntmps16
  go_upto_region 1 with (first | ((with_reducible refine gate_dst (N := 1) rfl ?_); (try (refine gate_guard (by rfl) ?_; dsimp only)); refine box_event ?hg (N := 1) ?hd (cs := #[.int .i64 a0_0, .slice A0_1 l0_1.length c0_1]) (t := 24) ?hr ?_; (case hd => rfl); (case hg => rfl); (case hr => first | (go_simp; done) | (go_simp; rfl)); intro gb111 hg w3 hbox hb; have BK111 := Aside0.mk (hbox); have GW111 := Aside0.mk ((by rw [hg]; exact (below_size (by repeat (first | (with_reducible first | exact HB.out | apply below_alloc | apply pw_below_drewN | apply below_drew1) | exact HB.out))) : w.heap.size ≤ gb111)); have GE111 := Aside0.mk ((by rw [hg]; exact (below_size (by repeat (first | (with_reducible first | exact HB.out | apply below_alloc | apply pw_below_drewN | apply below_drew1) | exact HB.out))) : w.heap.size ≤ gb111)); replace HB := Aside0.mk (below_step (by repeat (first | (with_reducible first | exact HB.out | apply below_alloc | apply pw_below_drewN | apply below_drew1) | exact HB.out)) hb); clear hb hbox hg))
  repeat (go_quiet (first | ((with_reducible refine gate_dst (N := 1) rfl ?_); (try (refine gate_guard (by rfl) ?_; dsimp only)); refine box_event ?hg (N := 1) ?hd (cs := #[.int .i64 a0_0, .slice A0_1 l0_1.length c0_1]) (t := 24) ?hr ?_; (case hd => rfl); (case hg => rfl); (case hr => first | (go_simp; done) | (go_simp; rfl)); intro gb111 hg w3 hbox hb; have BK111 := Aside0.mk (hbox); have GW111 := Aside0.mk ((by rw [hg]; exact (below_size (by repeat (first | (with_reducible first | exact HB.out | apply below_alloc | apply pw_below_drewN | apply below_drew1) | exact HB.out))) : w.heap.size ≤ gb111)); have GE111 := Aside0.mk ((by rw [hg]; exact (below_size (by repeat (first | (with_reducible first | exact HB.out | apply below_alloc | apply pw_below_drewN | apply below_drew1) | exact HB.out))) : w.heap.size ≤ gb111)); replace HB := Aside0.mk (below_step (by repeat (first | (with_reducible first | exact HB.out | apply below_alloc | apply pw_below_drewN | apply below_drew1) | exact HB.out)) hb); clear hb hbox hg)); go_upto_region 1 with (first | ((with_reducible refine gate_dst (N := 1) rfl ?_); (try (refine gate_guard (by rfl) ?_; dsimp only)); refine box_event ?hg (N := 1) ?hd (cs := #[.int .i64 a0_0, .slice A0_1 l0_1.length c0_1]) (t := 24) ?hr ?_; (case hd => rfl); (case hg => rfl); (case hr => first | (go_simp; done) | (go_simp; rfl)); intro gb111 hg w3 hbox hb; have BK111 := Aside0.mk (hbox); have GW111 := Aside0.mk ((by rw [hg]; exact (below_size (by repeat (first | (with_reducible first | exact HB.out | apply below_alloc | apply pw_below_drewN | apply below_drew1) | exact HB.out))) : w.heap.size ≤ gb111)); have GE111 := Aside0.mk ((by rw [hg]; exact (below_size (by repeat (first | (with_reducible first | exact HB.out | apply below_alloc | apply pw_below_drewN | apply below_drew1) | exact HB.out))) : w.heap.size ≤ gb111)); replace HB := Aside0.mk (below_step (by repeat (first | (with_reducible first | exact HB.out | apply below_alloc | apply pw_below_drewN | apply below_drew1) | exact HB.out)) hb); clear hb hbox hg)))
  (try simp only [Act.put, List.setIfInBounds_toArray, List.set_cons_zero, List.set_cons_succ])
  go_cut [17] (fun v17 wc => ∃ (kq : Nat) (x17_1 : Bool), v17 = .bool x17_1 ∧ Aside0 (remouldref01_Group.j0 kq x17_1 a0_0 l0_1 = some r) ∧ Aside0 (kq ≤ k) ∧ Aside0 (wc.heap[gb111]? = some (.cells #[.int .i64 a0_0, (.slice A0_1 l0_1.length c0_1)] 24 (0, 0))) ∧ Aside0 (Below w.heap.size w wc))
  case first =>
    have H := HC2.out
    clear HC2
    by_cases c4 : a0_0 < 1
    · rw [if_pos c4] at H
      have c4b0 : decide (a0_0 < 1) = true := decide_eq_true c4
      clear c4
      (first | rw [c4b0] | (simp only [i64_w, i32_w]; rw [c4b0]) | skip)
      have H' := Aside0.mk H
      clear H
      have hcz5_0 : w3.cell? ⟨gb111, 0, none⟩ = some (.int .i64 a0_0) := (blk_cell BK111.out 0).trans rfl
      have hcz5_1 : w3.cell? ⟨gb111, 1, none⟩ = some (.slice A0_1 l0_1.length c0_1) := (blk_cell BK111.out 1).trans rfl
      have hfz5_0 := blk_frozen BK111.out 0
      have hfz5_1 := blk_frozen BK111.out 1
      go_wp2
      repeat (go_quiet (fail); try go_wp2)
      go_meet
      case rel => exact ⟨_, (true), (by first | rfl | (simp; done) | (simp [*]; done)), H', ⟨by first | omega | exact Nat.le_refl _⟩, ⟨by (with_reducible repeat (first | refine blk_drewN ?_ _ | refine blk_drew ?_ | refine blk_alloc ?_ _)); exact BK111.out⟩, ⟨by repeat (first | (with_reducible first | exact HB.out | apply below_alloc | apply pw_below_drewN | apply below_drew1 | refine below_set ?_ GE111.out) | exact HB.out)⟩⟩
    rw [if_neg c4] at H
    have c4b0 : decide (a0_0 < 1) = false := decide_eq_false c4
    clear c4
    (first | rw [c4b0] | (simp only [i64_w, i32_w]; rw [c4b0]) | skip)
    by_cases c6 : a0_0 > 2
    · rw [if_pos c6] at H
      have c6b0 : decide (2 < a0_0) = true := decide_eq_true c6
      clear c6
      have H' := Aside0.mk H
      clear H
      have hcz7_0 : w3.cell? ⟨gb111, 0, none⟩ = some (.int .i64 a0_0) := (blk_cell BK111.out 0).trans rfl
      have hcz7_1 : w3.cell? ⟨gb111, 1, none⟩ = some (.slice A0_1 l0_1.length c0_1) := (blk_cell BK111.out 1).trans rfl
      have hfz7_0 := blk_frozen BK111.out 0
      have hfz7_1 := blk_frozen BK111.out 1
      go_wp2
      repeat (go_quiet (fail); try go_wp2)
      go_meet
      case rel => exact ⟨_, (true), (by first | rfl | (simp; done) | (simp [*]; done)), H', ⟨by first | omega | exact Nat.le_refl _⟩, ⟨by (with_reducible repeat (first | refine blk_drewN ?_ _ | refine blk_drew ?_ | refine blk_alloc ?_ _)); exact BK111.out⟩, ⟨by repeat (first | (with_reducible first | exact HB.out | apply below_alloc | apply pw_below_drewN | apply below_drew1 | refine below_set ?_ GE111.out) | exact HB.out)⟩⟩
    rw [if_neg c6] at H
    have c6b0 : decide (2 < a0_0) = false := decide_eq_false c6
    clear c6
    have H' := Aside0.mk H
    clear H
    have hcz8_0 : w3.cell? ⟨gb111, 0, none⟩ = some (.int .i64 a0_0) := (blk_cell BK111.out 0).trans rfl
    have hcz8_1 : w3.cell? ⟨gb111, 1, none⟩ = some (.slice A0_1 l0_1.length c0_1) := (blk_cell BK111.out 1).trans rfl
    have hfz8_0 := blk_frozen BK111.out 0
    have hfz8_1 := blk_frozen BK111.out 1
    go_wp2
    repeat (go_quiet (fail); try go_wp2)
    go_meet
    case rel => exact ⟨_, (decide ((l0_1.length : Int) > 6)), (by first | rfl | (simp; done) | (simp [*]; done)), H', ⟨by first | omega | exact Nat.le_refl _⟩, ⟨by (with_reducible repeat (first | refine blk_drewN ?_ _ | refine blk_drew ?_ | refine blk_alloc ?_ _)); exact BK111.out⟩, ⟨by repeat (first | (with_reducible first | exact HB.out | apply below_alloc | apply pw_below_drewN | apply below_drew1 | refine below_set ?_ GE111.out) | exact HB.out)⟩⟩
  case rest =>
    clear HC2
    try clear c1
    try clear p2
    try clear c4
    try clear c4b0
    try clear c6
    try clear c6b0
    try clear hcz5_0
    try clear hcz5_1
    try clear hcz7_0
    try clear hcz7_1
    try clear hcz8_0
    try clear hcz8_1
    try clear hfz5_0
    try clear hfz5_1
    try clear hfz7_0
    try clear hfz7_1
    try clear hfz8_0
    try clear hfz8_1
    obtain ⟨kq, x17_1, rfl, HA, HJ1, BK111, HB⟩ := hcut
    cases kq with
    | zero => exact absurd HA.out (by simp [remouldref01_Group.j0])
    | succ kj1 =>
      have H := HA.out
      clear HA
      simp only [remouldref01_Group.j0] at H
      by_cases c9 : x17_1 = true
      · subst c9
        have H1 : (some false) = some r := by rw [if_pos rfl] at H; exact H
        clear H
        have H := H1
        clear H1
        obtain rfl := Option.some.inj H
        go_wp2
        repeat (go_quiet (fail); try go_wp2)
        go_ret
        exact ⟨by first | rfl | (simp [errW_none, errW_some] <;> rfl) | (simp [*, errW_none, errW_some] <;> rfl), by repeat (first | (with_reducible first | exact HB.out | apply below_alloc | apply pw_below_drewN | apply below_drew1 | refine below_set ?_ GE111.out) | exact HB.out)⟩
      replace c9 := Bool.eq_false_iff.mpr c9
      subst c9
      have H1 : (remouldref01_Group.l0 kj1 0 a0_0 l0_1) = some r := by rw [if_neg (show ¬ (false = true) by decide)] at H; exact H
      clear H
      have H := H1
      clear H1
      have H' := Aside0.mk H
      clear H
      go_wp2
      repeat (go_quiet (fail); try go_wp2)
      go_loopg [3] kj1 (fun kq v3 w' => ∃ (x3_2 : Int), v3 = .int .i64 x3_2 ∧ Aside0 (remouldref01_Group.l0 kq x3_2 a0_0 l0_1 = some r) ∧ Aside0 (kq ≤ kj1) ∧ Aside0 (w'.heap[gb111]? = some (.cells #[.int .i64 a0_0, (.slice A0_1 l0_1.length c0_1)] 24 (0, 0))) ∧ Aside0 (Below w.heap.size w w'))
      case atStart => exact ⟨(0), (by first | rfl | (simp; done) | (simp [*]; done)), H', ⟨Nat.le_refl _⟩, ⟨by (with_reducible repeat (first | refine blk_drewN ?_ _ | refine blk_drew ?_ | refine blk_alloc ?_ _)); exact BK111.out⟩, ⟨by repeat (first | (with_reducible first | exact HB.out | apply below_alloc | apply pw_below_drewN | apply below_drew1 | refine below_set ?_ GE111.out) | exact HB.out)⟩⟩
      clear H'
      try clear c1
      try clear p2
      try clear c4
      try clear c4b0
      try clear c6
      try clear c6b0
      try clear c9
      try clear hcz5_0
      try clear hcz5_1
      try clear hcz7_0
      try clear hcz7_1
      try clear hcz8_0
      try clear hcz8_1
      try clear hfz5_0
      try clear hfz5_1
      try clear hfz7_0
      try clear hfz7_1
      try clear hfz8_0
      try clear hfz8_1
      try clear p2
      obtain ⟨x3_2, rfl, HA, HK2, BK111, HB⟩ := hrel
      cases gk with
      | zero => exact absurd HA.out (by simp [remouldref01_Group.l0])
      | succ k2 =>
        have H := HA.out
        clear HA
        simp only [remouldref01_Group.l0] at H
        by_cases c10 : x3_2 < (l0_1.length : Int)
        rotate_left
        · rw [if_neg c10] at H
          have c10b0 : decide (x3_2 < (l0_1.length : Int)) = false := decide_eq_false c10
          clear c10
          obtain rfl := Option.some.inj H
          have hcz16_0 : wr.cell? ⟨gb111, 0, none⟩ = some (.int .i64 a0_0) := (blk_cell BK111.out 0).trans rfl
          have hcz16_1 : wr.cell? ⟨gb111, 1, none⟩ = some (.slice A0_1 l0_1.length c0_1) := (blk_cell BK111.out 1).trans rfl
          have hfz16_0 := blk_frozen BK111.out 0
          have hfz16_1 := blk_frozen BK111.out 1
          go_wp2
          repeat (go_quiet (fail); try go_wp2)
          go_ret
          exact ⟨by first | rfl | (simp [errW_none, errW_some] <;> rfl) | (simp [*, errW_none, errW_some] <;> rfl), by repeat (first | (with_reducible first | exact HB.out | apply below_alloc | apply pw_below_drewN | apply below_drew1 | refine below_set ?_ GE111.out) | exact HB.out)⟩
        rw [if_pos c10] at H
        have c10b0 : decide (x3_2 < (l0_1.length : Int)) = true := decide_eq_true c10
        clear c10
        by_cases c11 : 0 ≤ x3_2
        rotate_left
        · rw [if_neg c11] at H
          exact absurd H (by simp)
        rw [if_pos c11] at H
        have c11b0 : decide (0 ≤ x3_2) = true := decide_eq_true c11
        clear c11
        replace H := Option.bind_eq_some_iff.mp H
        obtain ⟨t113, A120, H⟩ := H
        replace H : (if t113 = true then (remouldref01_Group.l0 k2 (wrap64 (x3_2 + 1)) a0_0 l0_1) else (some false)) = some r := H
        have A12 := Aside0.mk A120
        clear A120
        by_cases c13 : t113 = true
        rotate_left
        · replace c13 := Bool.eq_false_iff.mpr c13
          subst c13
          have H1 : (some false) = some r := by rw [if_neg (show ¬ (false = true) by decide)] at H; exact H
          clear H
          have H := H1
          clear H1
          obtain rfl := Option.some.inj H
          have hcz15_0 : wr.cell? ⟨gb111, 0, none⟩ = some (.int .i64 a0_0) := (blk_cell BK111.out 0).trans rfl
          have hcz15_1 : wr.cell? ⟨gb111, 1, none⟩ = some (.slice A0_1 l0_1.length c0_1) := (blk_cell BK111.out 1).trans rfl
          have hfz15_0 := blk_frozen BK111.out 0
          have hfz15_1 := blk_frozen BK111.out 1
          have p112 : 0 ≤ (x3_2 : Int) := of_decide_eq_true (by first | (with_reducible assumption) | assumption)
          have q112 : x3_2 < (l0_1.length : Int) := of_decide_eq_true (by first | (with_reducible assumption) | assumption)
          obtain ⟨ad112, e112, hx112_0⟩ := Kd.at_string HR0_1.out x3_2 p112 q112
          cases e112
          replace hx112_0 := (HB.out.cell (World.block_lt_of_cell? w _ hx112_0)).trans hx112_0
          replace p112 := eq_true p112
          replace q112 := eq_true q112
          go_wp2_with (first | (go_at_call 32; (with_reducible refine (remouldref01_Word.calls k2 a0_0 (rdOf ByteArray.empty l0_1 x3_2) false _ A12.out).mono ?_); rintro e w' ⟨rfl, ⟨nd, rfl⟩⟩; (try first | exact ⟨rfl, _, World.drewN_drewN _ _ _⟩ | exact ⟨rfl, _, Eq.trans (World.drewN_drewN _ _ _) (congrArg (World.drewN _) (Nat.add_assoc _ _ _))⟩)))
          repeat (go_quiet (first | (go_at_call 32; (with_reducible refine (remouldref01_Word.calls k2 a0_0 (rdOf ByteArray.empty l0_1 x3_2) false _ A12.out).mono ?_); rintro e w' ⟨rfl, ⟨nd, rfl⟩⟩; (try first | exact ⟨rfl, _, World.drewN_drewN _ _ _⟩ | exact ⟨rfl, _, Eq.trans (World.drewN_drewN _ _ _) (congrArg (World.drewN _) (Nat.add_assoc _ _ _))⟩))); try go_wp2_with (first | (go_at_call 32; (with_reducible refine (remouldref01_Word.calls k2 a0_0 (rdOf ByteArray.empty l0_1 x3_2) false _ A12.out).mono ?_); rintro e w' ⟨rfl, ⟨nd, rfl⟩⟩; (try first | exact ⟨rfl, _, World.drewN_drewN _ _ _⟩ | exact ⟨rfl, _, Eq.trans (World.drewN_drewN _ _ _) (congrArg (World.drewN _) (Nat.add_assoc _ _ _))⟩))))
          go_ret
          exact ⟨by first | rfl | (simp [errW_none, errW_some] <;> rfl) | (simp [*, errW_none, errW_some] <;> rfl), by repeat (first | (with_reducible first | exact HB.out | apply below_alloc | apply pw_below_drewN | apply below_drew1 | refine below_set ?_ GE111.out) | exact HB.out)⟩
        subst c13
        have H1 : (remouldref01_Group.l0 k2 (wrap64 (x3_2 + 1)) a0_0 l0_1) = some r := by rw [if_pos rfl] at H; exact H
        clear H
        have H := H1
        clear H1
        have H' := Aside0.mk H
        clear H
        have hcz14_0 : wr.cell? ⟨gb111, 0, none⟩ = some (.int .i64 a0_0) := (blk_cell BK111.out 0).trans rfl
        have hcz14_1 : wr.cell? ⟨gb111, 1, none⟩ = some (.slice A0_1 l0_1.length c0_1) := (blk_cell BK111.out 1).trans rfl
        have hfz14_0 := blk_frozen BK111.out 0
        have hfz14_1 := blk_frozen BK111.out 1
        have p112 : 0 ≤ (x3_2 : Int) := of_decide_eq_true (by first | (with_reducible assumption) | assumption)
        have q112 : x3_2 < (l0_1.length : Int) := of_decide_eq_true (by first | (with_reducible assumption) | assumption)
        obtain ⟨ad112, e112, hx112_0⟩ := Kd.at_string HR0_1.out x3_2 p112 q112
        cases e112
        replace hx112_0 := (HB.out.cell (World.block_lt_of_cell? w _ hx112_0)).trans hx112_0
        replace p112 := eq_true p112
        replace q112 := eq_true q112
        go_wp2_with (first | (go_at_call 32; (with_reducible refine (remouldref01_Word.calls k2 a0_0 (rdOf ByteArray.empty l0_1 x3_2) true _ A12.out).mono ?_); rintro e w' ⟨rfl, ⟨nd, rfl⟩⟩; (try first | exact ⟨rfl, _, World.drewN_drewN _ _ _⟩ | exact ⟨rfl, _, Eq.trans (World.drewN_drewN _ _ _) (congrArg (World.drewN _) (Nat.add_assoc _ _ _))⟩)))
        repeat (go_quiet (first | (go_at_call 32; (with_reducible refine (remouldref01_Word.calls k2 a0_0 (rdOf ByteArray.empty l0_1 x3_2) true _ A12.out).mono ?_); rintro e w' ⟨rfl, ⟨nd, rfl⟩⟩; (try first | exact ⟨rfl, _, World.drewN_drewN _ _ _⟩ | exact ⟨rfl, _, Eq.trans (World.drewN_drewN _ _ _) (congrArg (World.drewN _) (Nat.add_assoc _ _ _))⟩))); try go_wp2_with (first | (go_at_call 32; (with_reducible refine (remouldref01_Word.calls k2 a0_0 (rdOf ByteArray.empty l0_1 x3_2) true _ A12.out).mono ?_); rintro e w' ⟨rfl, ⟨nd, rfl⟩⟩; (try first | exact ⟨rfl, _, World.drewN_drewN _ _ _⟩ | exact ⟨rfl, _, Eq.trans (World.drewN_drewN _ _ _) (congrArg (World.drewN _) (Nat.add_assoc _ _ _))⟩))))
        go_roundg k2
        case measure => have := HJ1.out; have := HK2.out; omega
        case rel => exact ⟨(wrap64 (x3_2 + 1)), (by first | rfl | (simp; done) | (simp [*]; done)), H', ⟨by have := HJ1.out; have := HK2.out; omega⟩, ⟨by (with_reducible repeat (first | refine blk_drewN ?_ _ | refine blk_drew ?_ | refine blk_alloc ?_ _)); exact BK111.out⟩, ⟨by repeat (first | (with_reducible first | exact HB.out | apply below_alloc | apply pw_below_drewN | apply below_drew1 | refine below_set ?_ GE111.out) | exact HB.out)⟩⟩
end Go.Proofs.Ytmcihijobilcgaa.PAll
end
section
namespace Go.Proofs.Ytmcihijobilcgaa.PAll
open Go.RowKit Go.Proofs.YtmcihijobilcgaaW.PrintWords Go.Proofs.YtmcihijobilcgaaW.PrintLast Go.Proofs.YtmcihijobilcgaaW.PrintMore
attribute [local go_sem] max2_int min2_int max_two min_two max_three min_three max_four min_four
def remouldref01_Exponents.l0 : Nat → ByteArray → Int → Int → Int → Option (Int × Int)
  | 0, _, _, _, _ => none
  | k + 1, x0, x4, x336000, x336001 => if x4 < (x0.size : Int) then (if 0 ≤ x4 then ((remouldref01_letter.f k (bt x0 x4) 2).bind fun bt336 => (if bt336.2.1 = true then (if bt336.1 = 0 then (remouldref01_Exponents.l0 k x0 (wrap64 (x4 + 1)) (wrap64 (x336000 - 1)) x336001) else (if bt336.1 = 1 then (remouldref01_Exponents.l0 k x0 (wrap64 (x4 + 1)) x336000 (wrap64 (x336001 - 1))) else (none))) else (if bt336.1 = 0 then (remouldref01_Exponents.l0 k x0 (wrap64 (x4 + 1)) (wrap64 (x336000 + 1)) x336001) else (if bt336.1 = 1 then (remouldref01_Exponents.l0 k x0 (wrap64 (x4 + 1)) x336000 (wrap64 (x336001 + 1))) else (none))))) else (none)) else (some (x336000, x336001))
def remouldref01_Exponents.f (k : Nat) (a0 : ByteArray) : Option (Int × Int) := remouldref01_Exponents.l0 k a0 0 0 0
set_option maxHeartbeats 8000000 in
set_option maxRecDepth 100000 in
theorem remouldref01_Exponents.calls (k : Nat) (a0 : ByteArray) (r1 : Int) (r2 : Int) (w : World) (h : remouldref01_Exponents.f k a0 = some (r1, r2)) :
    Calls Try.prog 28 #[.string a0] w fun e w' => e = .returned (.agg #[.int .i64 r1, .int .i64 r2]) ∧ Below w.heap.size w w' := by
  have hu50 := Try.underlying50
  have HB := Aside0.mk (Below.refl w.heap.size w)
  have H : (remouldref01_Exponents.l0 k a0 0 0 0) = some (r1, r2) := h
  clear h
  have H' := Aside0.mk H
  clear H
  go_enter Try.func28, Try.ntmps28
  go_wp2_with (first | ((with_reducible refine gate_dst (N := 2) rfl ?_); refine box_event ?hg (N := 2) ?hd (cs := #[.int .i64 0, .int .i64 0]) (t := 50) ?hr ?_; (case hd => rfl); (case hg => rfl); (case hr => first | (go_simp; done) | (go_simp; rfl)); intro gb334 hg w2 hbox hb; have BK334 := Aside0.mk (hbox); have GW334 := Aside0.mk ((by rw [hg]; exact (below_size (by repeat (first | (with_reducible first | exact HB.out | apply below_alloc | apply pw_below_drewN | apply below_drew1) | exact HB.out))) : w.heap.size ≤ gb334)); have GE334 := Aside0.mk ((by rw [hg]; exact (below_size (by repeat (first | (with_reducible first | exact HB.out | apply below_alloc | apply pw_below_drewN | apply below_drew1) | exact HB.out))) : w.heap.size ≤ gb334)); replace HB := Aside0.mk (below_step (by repeat (first | (with_reducible first | exact HB.out | apply below_alloc | apply pw_below_drewN | apply below_drew1) | exact HB.out)) hb); clear hb hbox hg) | ((with_reducible refine gate_dst (N := 3) rfl ?_); refine box_event ?hg (N := 3) ?hd (cs := #[.int .i64 0, .int .i64 0]) (t := 50) ?hr ?_; (case hd => rfl); (case hg => rfl); (case hr => first | (go_simp; done) | (go_simp; rfl)); intro gb335 hg w3 hbox hb; have BK335 := Aside0.mk (hbox); have GW335 := Aside0.mk ((by rw [hg]; exact (below_size (by repeat (first | (with_reducible first | exact HB.out | apply below_alloc | apply pw_below_drewN | apply below_drew1 | refine below_set ?_ GE334.out) | exact HB.out))) : w.heap.size ≤ gb335)); have GE335 := Aside0.mk ((by rw [hg]; exact (below_size (by repeat (first | (with_reducible first | exact HB.out | apply below_alloc | apply pw_below_drewN | apply below_drew1 | refine below_set ?_ GE334.out) | exact HB.out))) : w.heap.size ≤ gb335)); have NB334_335 := Aside0.mk ((by rw [hg]; exact Nat.ne_of_lt (blk_lt (g := gb334) (o := .cells #[.int .i64 0, .int .i64 0] 50 (0, 0)) (by (with_reducible repeat (first | refine blk_drewN ?_ _ | refine blk_drew ?_ | refine blk_alloc ?_ _)); exact BK334.out)) : gb334 ≠ gb335)); have NB335_334 := Aside0.mk ((by rw [hg]; exact Nat.ne_of_gt (blk_lt (g := gb334) (o := .cells #[.int .i64 0, .int .i64 0] 50 (0, 0)) (by (with_reducible repeat (first | refine blk_drewN ?_ _ | refine blk_drew ?_ | refine blk_alloc ?_ _)); exact BK334.out)) : gb335 ≠ gb334)); replace BK334 := Aside0.mk (blk_below (g := gb334) (o := .cells #[.int .i64 0, .int .i64 0] 50 (0, 0)) (by (with_reducible repeat (first | refine blk_drewN ?_ _ | refine blk_drew ?_ | refine blk_alloc ?_ _)); exact BK334.out) hb); replace HB := Aside0.mk (below_step (by repeat (first | (with_reducible first | exact HB.out | apply below_alloc | apply pw_below_drewN | apply below_drew1 | refine below_set ?_ GE334.out) | exact HB.out)) hb); clear hb hbox hg))
  go_loopg [4] k (fun kq v4 w' => ∃ (x4_1 : Int) (x336000_1 : Int) (x336001_1 : Int), v4 = .int .i64 x4_1 ∧ Aside0 (remouldref01_Exponents.l0 kq a0 x4_1 x336000_1 x336001_1 = some (r1, r2)) ∧ Aside0 (kq ≤ k) ∧ Aside0 (w'.heap[gb334]? = some (.cells #[.int .i64 0, .int .i64 0] 50 (0, 0))) ∧ Aside0 (w'.heap[gb335]? = some (.cells #[.int .i64 x336000_1, .int .i64 x336001_1] 50 (0, 0))) ∧ Aside0 (Below w.heap.size w w'))
  case atStart => exact ⟨(0), (0), (0), (by first | rfl | (simp; done) | (simp [*]; done)), H', ⟨Nat.le_refl _⟩, ⟨by (with_reducible repeat (first | refine blk_drewN ?_ _ | refine blk_drew ?_ | refine blk_alloc ?_ _)); exact BK334.out⟩, ⟨by (with_reducible repeat (first | refine blk_drewN ?_ _ | refine blk_drew ?_ | refine blk_alloc ?_ _)); exact BK335.out⟩, ⟨by repeat (first | (with_reducible first | exact HB.out | apply below_alloc | apply pw_below_drewN | apply below_drew1 | refine below_set ?_ GE334.out | refine below_set ?_ GE335.out) | exact HB.out)⟩⟩
  clear H'
  try clear c2
  try clear p2
  obtain ⟨x4_1, x336000_1, x336001_1, rfl, HA, HK1, BK334, BK335, HB⟩ := hrel
  cases gk with
  | zero => exact absurd HA.out (by simp [remouldref01_Exponents.l0])
  | succ k1 =>
    have H := HA.out
    clear HA
    simp only [remouldref01_Exponents.l0] at H
    by_cases c4 : x4_1 < (a0.size : Int)
    rotate_left
    · rw [if_neg c4] at H
      have c4b0 : decide (x4_1 < (a0.size : Int)) = false := decide_eq_false c4
      clear c4
      simp only [Option.some.injEq, Prod.mk.injEq] at H
      obtain ⟨rfl, rfl⟩ := H
      have hnb21 := NB335_334.out
      have hnc21 := NB334_335.out
      have hcz22_0 : wr.cell? ⟨gb335, 0, none⟩ = some (.int .i64 x336000_1) := (blk_cell BK335.out 0).trans rfl
      have hcz22_1 : wr.cell? ⟨gb335, 1, none⟩ = some (.int .i64 x336001_1) := (blk_cell BK335.out 1).trans rfl
      have hfz22_0 := blk_frozen BK335.out 0
      have hfz22_1 := blk_frozen BK335.out 1
      have hcz23_0 : wr.cell? ⟨gb334, 0, none⟩ = some (.int .i64 0) := (blk_cell BK334.out 0).trans rfl
      have hcz23_1 : wr.cell? ⟨gb334, 1, none⟩ = some (.int .i64 0) := (blk_cell BK334.out 1).trans rfl
      have hfz23_0 := blk_frozen BK334.out 0
      have hfz23_1 := blk_frozen BK334.out 1
      go_wp2
      refine bodyPost_ret (results_cell_row rfl _ _ gb334 50 #[.int .i64 x336000_1, .int .i64 x336001_1] (0, 0) _ rfl (by (with_reducible repeat (first | refine blk_drewN ?_ _ | refine blk_drew ?_ | refine blk_alloc ?_ _)); refine blk_put (cs := #[.int .i64 x336000_1, .int .i64 0]) ?_ 1 _ rfl; (with_reducible repeat (first | refine blk_drewN ?_ _ | refine blk_drew ?_ | refine blk_alloc ?_ _)); refine blk_put (cs := #[.int .i64 0, .int .i64 0]) ?_ 0 _ rfl; (with_reducible repeat (first | refine blk_drewN ?_ _ | refine blk_drew ?_ | refine blk_alloc ?_ _)); exact BK334.out) Try.underlying50 rfl (by kernel_rfl)) rfl ?_
      exact ⟨by first | rfl | (simp [errW_none, errW_some] <;> rfl) | (simp [*, errW_none, errW_some] <;> rfl), by repeat (first | (with_reducible first | exact HB.out | apply below_alloc | apply pw_below_drewN | apply below_drew1 | refine below_set ?_ GE334.out | refine below_set ?_ GE335.out) | exact HB.out)⟩
    rw [if_pos c4] at H
    have c4b0 : decide (x4_1 < (a0.size : Int)) = true := decide_eq_true c4
    clear c4
    by_cases c5 : 0 ≤ x4_1
    rotate_left
    · rw [if_neg c5] at H
      exact absurd H (by simp)
    rw [if_pos c5] at H
    have c5b0 : decide (0 ≤ x4_1) = true := decide_eq_true c5
    clear c5
    replace H := Option.bind_eq_some_iff.mp H
    obtain ⟨⟨t336, t337, t338⟩, A70, H⟩ := H
    replace H : (if t337 = true then (if t336 = 0 then (remouldref01_Exponents.l0 k1 a0 (wrap64 (x4_1 + 1)) (wrap64 (x336000_1 - 1)) x336001_1) else (if t336 = 1 then (remouldref01_Exponents.l0 k1 a0 (wrap64 (x4_1 + 1)) x336000_1 (wrap64 (x336001_1 - 1))) else (none))) else (if t336 = 0 then (remouldref01_Exponents.l0 k1 a0 (wrap64 (x4_1 + 1)) (wrap64 (x336000_1 + 1)) x336001_1) else (if t336 = 1 then (remouldref01_Exponents.l0 k1 a0 (wrap64 (x4_1 + 1)) x336000_1 (wrap64 (x336001_1 + 1))) else (none)))) = some (r1, r2) := H
    have A7 := Aside0.mk A70
    clear A70
    by_cases c8 : t337 = true
    · subst c8
      have H1 : (if t336 = 0 then (remouldref01_Exponents.l0 k1 a0 (wrap64 (x4_1 + 1)) (wrap64 (x336000_1 - 1)) x336001_1) else (if t336 = 1 then (remouldref01_Exponents.l0 k1 a0 (wrap64 (x4_1 + 1)) x336000_1 (wrap64 (x336001_1 - 1))) else (none))) = some (r1, r2) := by rw [if_pos rfl] at H; exact H
      clear H
      have H := H1
      clear H1
      by_cases c9 : t336 = 0
      · subst c9
        have H1 : (remouldref01_Exponents.l0 k1 a0 (wrap64 (x4_1 + 1)) (wrap64 (x336000_1 - 1)) x336001_1) = some (r1, r2) := by rw [if_pos rfl] at H; exact H
        clear H
        have H := H1
        clear H1
        have H' := Aside0.mk H
        clear H
        have p6 : 0 ≤ (x4_1 : Int) := of_decide_eq_true (by first | (with_reducible assumption) | assumption)
        have q6 : x4_1 < (a0.size : Int) := of_decide_eq_true (by first | (with_reducible assumption) | assumption)
        have hx6 := bt_at a0 x4_1
        replace p6 := eq_true p6
        replace q6 := eq_true q6
        go_wp2_with (first | ((with_reducible refine gate_callee (f := 57) rfl ?_); refine goesL_ (some 18) rfl rfl Try.func57 (by kernel_rfl) rfl #[.int .u8 (bt a0 x4_1), .int .i64 2] rfl (by (try simp only [List.map_toArray, List.map_cons, List.map_nil]); first | done | rfl | (simp only [List.length_drop, List.length_take]; rfl)) ?_; (with_reducible refine (remouldref01_letter.calls k1 (bt a0 x4_1) 2 0 true t338 _ A7.out).mono ?_); rintro e w' ⟨rfl, ⟨nd, rfl⟩⟩; refine ⟨_, rfl, ?_⟩; (try (rw [drewN_self wr]; generalize hq_ : World.drewN wr _ = wr; have n0_ : Aside0 (wr.heap[gb334]? = some (.cells #[.int .i64 0, .int .i64 0] 50 (0, 0))) := ⟨by rw [← hq_]; exact (by (with_reducible repeat (first | refine blk_drewN ?_ _ | refine blk_drew ?_ | refine blk_alloc ?_ _)); exact BK334.out)⟩; have n1_ : Aside0 (wr.heap[gb335]? = some (.cells #[.int .i64 x336000_1, .int .i64 x336001_1] 50 (0, 0))) := ⟨by rw [← hq_]; exact (by (with_reducible repeat (first | refine blk_drewN ?_ _ | refine blk_drew ?_ | refine blk_alloc ?_ _)); exact BK335.out)⟩; have n2_ : Aside0 (Below w.heap.size w wr) := ⟨by rw [← hq_]; exact (by repeat (first | (with_reducible first | exact HB.out | apply below_alloc | apply pw_below_drewN | apply below_drew1 | refine below_set ?_ GE334.out | refine below_set ?_ GE335.out) | exact HB.out))⟩; clear BK334 BK335 HB hq_; have BK334 := n0_; have BK335 := n1_; have HB := n2_; clear n0_ n1_ n2_)); have hnb10 := NB335_334.out; have hnc10 := NB334_335.out; have hcz11_0 : wr.cell? ⟨gb335, 0, none⟩ = some (.int .i64 x336000_1) := (blk_cell BK335.out 0).trans rfl; have hcz11_1 : wr.cell? ⟨gb335, 1, none⟩ = some (.int .i64 x336001_1) := (blk_cell BK335.out 1).trans rfl; have hfz11_0 := blk_frozen BK335.out 0; have hfz11_1 := blk_frozen BK335.out 1))
        go_roundg k1
        case measure => have := HK1.out; omega
        case rel => exact ⟨(wrap64 (x4_1 + 1)), (wrap64 (x336000_1 - 1)), (x336001_1), (by first | rfl | (simp; done) | (simp [*]; done)), H', ⟨by have := HK1.out; omega⟩, ⟨by (with_reducible repeat (first | refine blk_drewN ?_ _ | refine blk_drew ?_ | refine blk_alloc ?_ _)); refine blk_far ?_ NB334_335.out _; (with_reducible repeat (first | refine blk_drewN ?_ _ | refine blk_drew ?_ | refine blk_alloc ?_ _)); exact BK334.out⟩, ⟨by (with_reducible repeat (first | refine blk_drewN ?_ _ | refine blk_drew ?_ | refine blk_alloc ?_ _)); refine blk_put (cs := #[.int .i64 x336000_1, .int .i64 x336001_1]) ?_ 0 _ rfl; (with_reducible repeat (first | refine blk_drewN ?_ _ | refine blk_drew ?_ | refine blk_alloc ?_ _)); exact BK335.out⟩, ⟨by repeat (first | (with_reducible first | exact HB.out | apply below_alloc | apply pw_below_drewN | apply below_drew1 | refine below_set ?_ GE334.out | refine below_set ?_ GE335.out) | exact HB.out)⟩⟩
      rw [if_neg c9] at H
      clear c9
      by_cases c12 : t336 = 1
      rotate_left
      · rw [if_neg c12] at H
        exact absurd H (by simp)
      subst c12
      have H1 : (remouldref01_Exponents.l0 k1 a0 (wrap64 (x4_1 + 1)) x336000_1 (wrap64 (x336001_1 - 1))) = some (r1, r2) := by rw [if_pos rfl] at H; exact H
      clear H
      have H := H1
      clear H1
      have H' := Aside0.mk H
      clear H
      have p6 : 0 ≤ (x4_1 : Int) := of_decide_eq_true (by first | (with_reducible assumption) | assumption)
      have q6 : x4_1 < (a0.size : Int) := of_decide_eq_true (by first | (with_reducible assumption) | assumption)
      have hx6 := bt_at a0 x4_1
      replace p6 := eq_true p6
      replace q6 := eq_true q6
      go_wp2_with (first | ((with_reducible refine gate_callee (f := 57) rfl ?_); refine goesL_ (some 18) rfl rfl Try.func57 (by kernel_rfl) rfl #[.int .u8 (bt a0 x4_1), .int .i64 2] rfl (by (try simp only [List.map_toArray, List.map_cons, List.map_nil]); first | done | rfl | (simp only [List.length_drop, List.length_take]; rfl)) ?_; (with_reducible refine (remouldref01_letter.calls k1 (bt a0 x4_1) 2 1 true t338 _ A7.out).mono ?_); rintro e w' ⟨rfl, ⟨nd, rfl⟩⟩; refine ⟨_, rfl, ?_⟩; (try (rw [drewN_self wr]; generalize hq_ : World.drewN wr _ = wr; have n0_ : Aside0 (wr.heap[gb334]? = some (.cells #[.int .i64 0, .int .i64 0] 50 (0, 0))) := ⟨by rw [← hq_]; exact (by (with_reducible repeat (first | refine blk_drewN ?_ _ | refine blk_drew ?_ | refine blk_alloc ?_ _)); exact BK334.out)⟩; have n1_ : Aside0 (wr.heap[gb335]? = some (.cells #[.int .i64 x336000_1, .int .i64 x336001_1] 50 (0, 0))) := ⟨by rw [← hq_]; exact (by (with_reducible repeat (first | refine blk_drewN ?_ _ | refine blk_drew ?_ | refine blk_alloc ?_ _)); exact BK335.out)⟩; have n2_ : Aside0 (Below w.heap.size w wr) := ⟨by rw [← hq_]; exact (by repeat (first | (with_reducible first | exact HB.out | apply below_alloc | apply pw_below_drewN | apply below_drew1 | refine below_set ?_ GE334.out | refine below_set ?_ GE335.out) | exact HB.out))⟩; clear BK334 BK335 HB hq_; have BK334 := n0_; have BK335 := n1_; have HB := n2_; clear n0_ n1_ n2_)); have hnb13 := NB335_334.out; have hnc13 := NB334_335.out; have hcz14_0 : wr.cell? ⟨gb335, 0, none⟩ = some (.int .i64 x336000_1) := (blk_cell BK335.out 0).trans rfl; have hcz14_1 : wr.cell? ⟨gb335, 1, none⟩ = some (.int .i64 x336001_1) := (blk_cell BK335.out 1).trans rfl; have hfz14_0 := blk_frozen BK335.out 0; have hfz14_1 := blk_frozen BK335.out 1))
      go_roundg k1
      case measure => have := HK1.out; omega
      case rel => exact ⟨(wrap64 (x4_1 + 1)), (x336000_1), (wrap64 (x336001_1 - 1)), (by first | rfl | (simp; done) | (simp [*]; done)), H', ⟨by have := HK1.out; omega⟩, ⟨by (with_reducible repeat (first | refine blk_drewN ?_ _ | refine blk_drew ?_ | refine blk_alloc ?_ _)); refine blk_far ?_ NB334_335.out _; (with_reducible repeat (first | refine blk_drewN ?_ _ | refine blk_drew ?_ | refine blk_alloc ?_ _)); exact BK334.out⟩, ⟨by (with_reducible repeat (first | refine blk_drewN ?_ _ | refine blk_drew ?_ | refine blk_alloc ?_ _)); refine blk_put (cs := #[.int .i64 x336000_1, .int .i64 x336001_1]) ?_ 1 _ rfl; (with_reducible repeat (first | refine blk_drewN ?_ _ | refine blk_drew ?_ | refine blk_alloc ?_ _)); exact BK335.out⟩, ⟨by repeat (first | (with_reducible first | exact HB.out | apply below_alloc | apply pw_below_drewN | apply below_drew1 | refine below_set ?_ GE334.out | refine below_set ?_ GE335.out) | exact HB.out)⟩⟩
    replace c8 := Bool.eq_false_iff.mpr c8
    subst c8
    have H1 : (if t336 = 0 then (remouldref01_Exponents.l0 k1 a0 (wrap64 (x4_1 + 1)) (wrap64 (x336000_1 + 1)) x336001_1) else (if t336 = 1 then (remouldref01_Exponents.l0 k1 a0 (wrap64 (x4_1 + 1)) x336000_1 (wrap64 (x336001_1 + 1))) else (none))) = some (r1, r2) := by rw [if_neg (show ¬ (false = true) by decide)] at H; exact H
    clear H
    have H := H1
    clear H1
    by_cases c15 : t336 = 0
    · subst c15
      have H1 : (remouldref01_Exponents.l0 k1 a0 (wrap64 (x4_1 + 1)) (wrap64 (x336000_1 + 1)) x336001_1) = some (r1, r2) := by rw [if_pos rfl] at H; exact H
      clear H
      have H := H1
      clear H1
      have H' := Aside0.mk H
      clear H
      have p6 : 0 ≤ (x4_1 : Int) := of_decide_eq_true (by first | (with_reducible assumption) | assumption)
      have q6 : x4_1 < (a0.size : Int) := of_decide_eq_true (by first | (with_reducible assumption) | assumption)
      have hx6 := bt_at a0 x4_1
      replace p6 := eq_true p6
      replace q6 := eq_true q6
      go_wp2_with (first | ((with_reducible refine gate_callee (f := 57) rfl ?_); refine goesL_ (some 18) rfl rfl Try.func57 (by kernel_rfl) rfl #[.int .u8 (bt a0 x4_1), .int .i64 2] rfl (by (try simp only [List.map_toArray, List.map_cons, List.map_nil]); first | done | rfl | (simp only [List.length_drop, List.length_take]; rfl)) ?_; (with_reducible refine (remouldref01_letter.calls k1 (bt a0 x4_1) 2 0 false t338 _ A7.out).mono ?_); rintro e w' ⟨rfl, ⟨nd, rfl⟩⟩; refine ⟨_, rfl, ?_⟩; (try (rw [drewN_self wr]; generalize hq_ : World.drewN wr _ = wr; have n0_ : Aside0 (wr.heap[gb334]? = some (.cells #[.int .i64 0, .int .i64 0] 50 (0, 0))) := ⟨by rw [← hq_]; exact (by (with_reducible repeat (first | refine blk_drewN ?_ _ | refine blk_drew ?_ | refine blk_alloc ?_ _)); exact BK334.out)⟩; have n1_ : Aside0 (wr.heap[gb335]? = some (.cells #[.int .i64 x336000_1, .int .i64 x336001_1] 50 (0, 0))) := ⟨by rw [← hq_]; exact (by (with_reducible repeat (first | refine blk_drewN ?_ _ | refine blk_drew ?_ | refine blk_alloc ?_ _)); exact BK335.out)⟩; have n2_ : Aside0 (Below w.heap.size w wr) := ⟨by rw [← hq_]; exact (by repeat (first | (with_reducible first | exact HB.out | apply below_alloc | apply pw_below_drewN | apply below_drew1 | refine below_set ?_ GE334.out | refine below_set ?_ GE335.out) | exact HB.out))⟩; clear BK334 BK335 HB hq_; have BK334 := n0_; have BK335 := n1_; have HB := n2_; clear n0_ n1_ n2_)); have hnb16 := NB335_334.out; have hnc16 := NB334_335.out; have hcz17_0 : wr.cell? ⟨gb335, 0, none⟩ = some (.int .i64 x336000_1) := (blk_cell BK335.out 0).trans rfl; have hcz17_1 : wr.cell? ⟨gb335, 1, none⟩ = some (.int .i64 x336001_1) := (blk_cell BK335.out 1).trans rfl; have hfz17_0 := blk_frozen BK335.out 0; have hfz17_1 := blk_frozen BK335.out 1))
      go_roundg k1
      case measure => have := HK1.out; omega
      case rel => exact ⟨(wrap64 (x4_1 + 1)), (wrap64 (x336000_1 + 1)), (x336001_1), (by first | rfl | (simp; done) | (simp [*]; done)), H', ⟨by have := HK1.out; omega⟩, ⟨by (with_reducible repeat (first | refine blk_drewN ?_ _ | refine blk_drew ?_ | refine blk_alloc ?_ _)); refine blk_far ?_ NB334_335.out _; (with_reducible repeat (first | refine blk_drewN ?_ _ | refine blk_drew ?_ | refine blk_alloc ?_ _)); exact BK334.out⟩, ⟨by (with_reducible repeat (first | refine blk_drewN ?_ _ | refine blk_drew ?_ | refine blk_alloc ?_ _)); refine blk_put (cs := #[.int .i64 x336000_1, .int .i64 x336001_1]) ?_ 0 _ rfl; (with_reducible repeat (first | refine blk_drewN ?_ _ | refine blk_drew ?_ | refine blk_alloc ?_ _)); exact BK335.out⟩, ⟨by repeat (first | (with_reducible first | exact HB.out | apply below_alloc | apply pw_below_drewN | apply below_drew1 | refine below_set ?_ GE334.out | refine below_set ?_ GE335.out) | exact HB.out)⟩⟩
    rw [if_neg c15] at H
    clear c15
    by_cases c18 : t336 = 1
    rotate_left
    · rw [if_neg c18] at H
      exact absurd H (by simp)
    subst c18
    have H1 : (remouldref01_Exponents.l0 k1 a0 (wrap64 (x4_1 + 1)) x336000_1 (wrap64 (x336001_1 + 1))) = some (r1, r2) := by rw [if_pos rfl] at H; exact H
    clear H
    have H := H1
    clear H1
    have H' := Aside0.mk H
    clear H
    have p6 : 0 ≤ (x4_1 : Int) := of_decide_eq_true (by first | (with_reducible assumption) | assumption)
    have q6 : x4_1 < (a0.size : Int) := of_decide_eq_true (by first | (with_reducible assumption) | assumption)
    have hx6 := bt_at a0 x4_1
    replace p6 := eq_true p6
    replace q6 := eq_true q6
    go_wp2_with (first | ((with_reducible refine gate_callee (f := 57) rfl ?_); refine goesL_ (some 18) rfl rfl Try.func57 (by kernel_rfl) rfl #[.int .u8 (bt a0 x4_1), .int .i64 2] rfl (by (try simp only [List.map_toArray, List.map_cons, List.map_nil]); first | done | rfl | (simp only [List.length_drop, List.length_take]; rfl)) ?_; (with_reducible refine (remouldref01_letter.calls k1 (bt a0 x4_1) 2 1 false t338 _ A7.out).mono ?_); rintro e w' ⟨rfl, ⟨nd, rfl⟩⟩; refine ⟨_, rfl, ?_⟩; (try (rw [drewN_self wr]; generalize hq_ : World.drewN wr _ = wr; have n0_ : Aside0 (wr.heap[gb334]? = some (.cells #[.int .i64 0, .int .i64 0] 50 (0, 0))) := ⟨by rw [← hq_]; exact (by (with_reducible repeat (first | refine blk_drewN ?_ _ | refine blk_drew ?_ | refine blk_alloc ?_ _)); exact BK334.out)⟩; have n1_ : Aside0 (wr.heap[gb335]? = some (.cells #[.int .i64 x336000_1, .int .i64 x336001_1] 50 (0, 0))) := ⟨by rw [← hq_]; exact (by (with_reducible repeat (first | refine blk_drewN ?_ _ | refine blk_drew ?_ | refine blk_alloc ?_ _)); exact BK335.out)⟩; have n2_ : Aside0 (Below w.heap.size w wr) := ⟨by rw [← hq_]; exact (by repeat (first | (with_reducible first | exact HB.out | apply below_alloc | apply pw_below_drewN | apply below_drew1 | refine below_set ?_ GE334.out | refine below_set ?_ GE335.out) | exact HB.out))⟩; clear BK334 BK335 HB hq_; have BK334 := n0_; have BK335 := n1_; have HB := n2_; clear n0_ n1_ n2_)); have hnb19 := NB335_334.out; have hnc19 := NB334_335.out; have hcz20_0 : wr.cell? ⟨gb335, 0, none⟩ = some (.int .i64 x336000_1) := (blk_cell BK335.out 0).trans rfl; have hcz20_1 : wr.cell? ⟨gb335, 1, none⟩ = some (.int .i64 x336001_1) := (blk_cell BK335.out 1).trans rfl; have hfz20_0 := blk_frozen BK335.out 0; have hfz20_1 := blk_frozen BK335.out 1))
    go_roundg k1
    case measure => have := HK1.out; omega
    case rel => exact ⟨(wrap64 (x4_1 + 1)), (x336000_1), (wrap64 (x336001_1 + 1)), (by first | rfl | (simp; done) | (simp [*]; done)), H', ⟨by have := HK1.out; omega⟩, ⟨by (with_reducible repeat (first | refine blk_drewN ?_ _ | refine blk_drew ?_ | refine blk_alloc ?_ _)); refine blk_far ?_ NB334_335.out _; (with_reducible repeat (first | refine blk_drewN ?_ _ | refine blk_drew ?_ | refine blk_alloc ?_ _)); exact BK334.out⟩, ⟨by (with_reducible repeat (first | refine blk_drewN ?_ _ | refine blk_drew ?_ | refine blk_alloc ?_ _)); refine blk_put (cs := #[.int .i64 x336000_1, .int .i64 x336001_1]) ?_ 1 _ rfl; (with_reducible repeat (first | refine blk_drewN ?_ _ | refine blk_drew ?_ | refine blk_alloc ?_ _)); exact BK335.out⟩, ⟨by repeat (first | (with_reducible first | exact HB.out | apply below_alloc | apply pw_below_drewN | apply below_drew1 | refine below_set ?_ GE334.out | refine below_set ?_ GE335.out) | exact HB.out)⟩⟩
end Go.Proofs.Ytmcihijobilcgaa.PAll
end
section
namespace Go.Proofs.Ytmcihijobilcgaa.PAll
open Go.RowKit Go.Proofs.YtmcihijobilcgaaW.PrintWords Go.Proofs.YtmcihijobilcgaaW.PrintLast Go.Proofs.YtmcihijobilcgaaW.PrintMore
attribute [local go_sem] max2_int min2_int max_two min_two max_three min_three max_four min_four
def remouldref01_Gcd.l0 : Nat → Int → Int → Option (Int)
  | 0, _, _ => none
  | k + 1, x0, x1 => if x1 > 0 then (if x1 = 0 then (none) else (remouldref01_Gcd.l0 k x1 (Int.tmod x0 x1))) else (some x0)
def remouldref01_Gcd.f (k : Nat) (a0 : Int) (a1 : Int) : Option (Int) := remouldref01_Gcd.l0 k (mx a0 (wrap64 (-a0))) (mx a1 (wrap64 (-a1)))
set_option maxHeartbeats 8000000 in
set_option maxRecDepth 100000 in
theorem remouldref01_Gcd.calls (k : Nat) (a0 : Int) (a1 : Int) (r : Int) (w : World) (h : remouldref01_Gcd.f k a0 a1 = some r) :
    Calls Try.prog 29 #[.int .i64 a0, .int .i64 a1] w fun e w' => e = .returned (.int .i64 r) ∧ Below w.heap.size w w' := by
  have HB := Aside0.mk (Below.refl w.heap.size w)
  have H : (remouldref01_Gcd.l0 k (mx a0 (wrap64 (-a0))) (mx a1 (wrap64 (-a1)))) = some r := h
  clear h
  obtain ⟨ji3, hji3⟩ : ∃ j_ : Int, (mx a0 (wrap64 (-a0))) = j_ := ⟨_, rfl⟩
  replace H : (remouldref01_Gcd.l0 k ji3 (mx a1 (wrap64 (-a1)))) = some r := by first | (rw [hji3] at H; exact H) | (simp only [hji3] at H ⊢; exact H)
  have hji3_ : (if a0 < (wrap64 (-a0)) then (wrap64 (-a0)) else a0) = ji3 := hji3
  obtain ⟨ji4, hji4⟩ : ∃ j_ : Int, (mx a1 (wrap64 (-a1))) = j_ := ⟨_, rfl⟩
  replace H : (remouldref01_Gcd.l0 k ji3 ji4) = some r := by first | (rw [hji4] at H; exact H) | (simp only [hji4] at H ⊢; exact H)
  have hji4_ : (if a1 < (wrap64 (-a1)) then (wrap64 (-a1)) else a1) = ji4 := hji4
  have H' := Aside0.mk H
  clear H
  go_enter Try.func29, Try.ntmps29
  go_wp2
  go_loopg [0, 1] k (fun kq v0 v1 w' => ∃ (x0_1 : Int) (x1_1 : Int), v0 = .int .i64 x0_1 ∧ v1 = .int .i64 x1_1 ∧ Aside0 (remouldref01_Gcd.l0 kq x0_1 x1_1 = some r) ∧ Aside0 (kq ≤ k) ∧ Aside0 (Below w.heap.size w w'))
  case atStart => exact ⟨(ji3), (ji4), (by first | rfl | (simp; done) | (simp only [← hji3] <;> (first | rfl | simp)) | (simp [*]; done)), (by first | rfl | (simp; done) | (simp only [← hji4] <;> (first | rfl | simp)) | (simp [*]; done)), H', ⟨Nat.le_refl _⟩, ⟨by repeat (first | (with_reducible first | exact HB.out | apply below_alloc | apply pw_below_drewN | apply below_drew1) | exact HB.out)⟩⟩
  clear H'
  try clear c2
  try clear p2
  obtain ⟨x0_1, x1_1, rfl, rfl, HA, HK1, HB⟩ := hrel
  cases gk with
  | zero => exact absurd HA.out (by simp [remouldref01_Gcd.l0])
  | succ k1 =>
    have H := HA.out
    clear HA
    simp only [remouldref01_Gcd.l0] at H
    by_cases c5 : x1_1 > 0
    rotate_left
    · rw [if_neg c5] at H
      have c5b0 : decide (0 < x1_1) = false := decide_eq_false c5
      clear c5
      obtain rfl := Option.some.inj H
      go_wp2
      go_ret
      exact ⟨by first | rfl | (simp [errW_none, errW_some] <;> rfl) | (simp only [← hji3, ← hji4]; first | rfl | (simp [errW_none, errW_some] <;> rfl)) | (simp [*, errW_none, errW_some] <;> rfl), by repeat (first | (with_reducible first | exact HB.out | apply below_alloc | apply pw_below_drewN | apply below_drew1) | exact HB.out)⟩
    rw [if_pos c5] at H
    have c5b0 : decide (0 < x1_1) = true := decide_eq_true c5
    clear c5
    by_cases c6 : x1_1 = 0
    · rw [if_pos c6] at H
      exact absurd H (by simp)
    rw [if_neg c6] at H
    have c6b0 : (x1_1 == 0) = false := beq_eq_false_iff_ne.mpr c6
    have c6b1 : (x1_1 != 0) = true := bne_iff_ne.mpr c6
    have H' := Aside0.mk H
    clear H
    go_wp2
    go_roundg k1
    case measure => have := HK1.out; omega
    case rel => exact ⟨(x1_1), (Int.tmod x0_1 x1_1), (by first | rfl | (simp; done) | (simp [*]; done)), (by first | rfl | (simp; done) | (simp [*]; done)), H', ⟨by have := HK1.out; omega⟩, ⟨by repeat (first | (with_reducible first | exact HB.out | apply below_alloc | apply pw_below_drewN | apply below_drew1) | exact HB.out)⟩⟩
end Go.Proofs.Ytmcihijobilcgaa.PAll
end
section
namespace Go.Proofs.Ytmcihijobilcgaa.PAll
open Go.RowKit Go.Proofs.YtmcihijobilcgaaW.PrintWords Go.Proofs.YtmcihijobilcgaaW.PrintLast Go.Proofs.YtmcihijobilcgaaW.PrintMore
attribute [local go_sem] max2_int min2_int max_two min_two max_three min_three max_four min_four
mutual
def remouldref01_Factors.l0 : Nat → Int → Int → Int → Int → List ByteArray → Option (List Int × Int)
  | 0, _, _, _, _, _ => none
  | k + 1, x4, x5, x6, x361000, x361001 => if x6 < (x361001.length : Int) then (if 0 ≤ x6 then ((remouldref01_Exponents.f k (rdOf ByteArray.empty x361001 x6)).bind fun bt362 => ((remouldref01_Gcd.f k bt362.1 bt362.2).bind fun t365 => ((remouldref01_Gcd.f k x4 t365).bind fun t366 => (remouldref01_Factors.l1 k t366 x5 x6 0 x361000 x361001 bt362.1 bt362.2)))) else (none)) else ((some (([x4] : List Int) : List Int)).bind fun y372 => (if x361000 = 2 then (remouldref01_Factors.j2 k x4 x5 y372 (decide (x4 > 0)) x361000 x361001) else (remouldref01_Factors.j2 k x4 x5 y372 false x361000 x361001)))
def remouldref01_Factors.l1 : Nat → Int → Int → Int → Int → Int → List ByteArray → Int → Int → Option (List Int × Int)
  | 0, _, _, _, _, _, _, _, _ => none
  | k + 1, x4, x5, x6, x8, x361000, x361001, x365000, x365001 => if x8 < x6 then (if 0 ≤ x8 then (if x8 < (x361001.length : Int) then ((remouldref01_Exponents.f k (rdOf ByteArray.empty x361001 x8)).bind fun bt368 => ((remouldref01_Gcd.f k x5 (wrap64 ((wrap64 (x365000 * bt368.2)) - (wrap64 (x365001 * bt368.1))))).bind fun t371 => (remouldref01_Factors.l1 k x4 t371 x6 (wrap64 (x8 + 1)) x361000 x361001 x365000 x365001))) else (none)) else (none)) else (remouldref01_Factors.l0 k x4 x5 (wrap64 (x6 + 1)) x361000 x361001)
def remouldref01_Factors.j2 : Nat → Int → Int → List Int → Bool → Int → List ByteArray → Option (List Int × Int)
  | 0, _, _, _, _, _, _ => none
  | k + 1, x4, x5, x10, x66, x361000, x361001 => if x66 = true then (if x4 = 0 then (none) else (if x10.length < 17592186044416 then (remouldref01_Factors.j3 k (x10 ++ [wrap64 (Int.tdiv x5 x4)])) else (none))) else (if x361000 = 2 then (if x10.length < 17592186044416 then (remouldref01_Factors.j3 k (x10 ++ [0])) else (none)) else (remouldref01_Factors.j3 k x10))
def remouldref01_Factors.j3 : Nat → List Int → Option (List Int × Int)
  | 0, _ => none
  | k + 1, x10 => remouldref01_Factors.l2 k x10 ([] : List Int) 0 0
def remouldref01_Factors.l2 : Nat → List Int → List Int → Int → Int → Option (List Int × Int)
  | 0, _, _, _, _ => none
  | k + 1, x10, x11, x12, x13 => if x13 < (x10.length : Int) then (if 0 ≤ x13 then (if (rd x10 x13) = 0 then (if (rd x10 x13) > 1 then (if x11.length < 17592186044416 then (remouldref01_Factors.l2 k x10 (x11 ++ [rd x10 x13]) (wrap64 (x12 + 1)) (wrap64 (x13 + 1))) else (none)) else (remouldref01_Factors.l2 k x10 x11 (wrap64 (x12 + 1)) (wrap64 (x13 + 1)))) else (if (rd x10 x13) > 1 then (if x11.length < 17592186044416 then (remouldref01_Factors.l2 k x10 (x11 ++ [rd x10 x13]) x12 (wrap64 (x13 + 1))) else (none)) else (remouldref01_Factors.l2 k x10 x11 x12 (wrap64 (x13 + 1))))) else (none)) else (some (x11, x12))
end
def remouldref01_Factors.f (k : Nat) (a0_0 : Int) (l0_1 : List ByteArray) : Option (List Int × Int) := remouldref01_Factors.l0 k 0 0 0 a0_0 l0_1
set_option maxHeartbeats 8000000 in
set_option maxRecDepth 100000 in
theorem remouldref01_Factors.calls (k : Nat) (a0_0 : Int) (A0_1 : Option Addr) (c0_1 : Nat) (l0_1 : List ByteArray) (r1 : List Int) (r2 : Int) (w : World) (hr0_1 : Kd.C Kd.string w A0_1 l0_1.length l0_1) (hc0_1 : l0_1.length ≤ c0_1) (h : remouldref01_Factors.f k a0_0 l0_1 = some (r1, r2)) :
    Calls Try.prog 21 #[.agg #[.int .i64 a0_0, .slice A0_1 l0_1.length c0_1]] w fun e w' => ∃ v0_ : Value, e = .returned (.tuple #[v0_, .int .i64 r2]) ∧ Kd.R (Kd.int .i64) 3 w' w.heap.size (fun _ => True) v0_ r1 ∧ Below w.heap.size w w' := by
  have hu24 := Try.underlying24
  have hu50 := Try.underlying50
  have HR0_1 := Aside0.mk hr0_1
  have HC0_1 := Aside0.mk hc0_1
  clear hr0_1 hc0_1
  have HB := Aside0.mk (Below.refl w.heap.size w)
  have H : (remouldref01_Factors.l0 k 0 0 0 a0_0 l0_1) = some (r1, r2) := h
  clear h
  have H' := Aside0.mk H
  clear H
  go_enter Try.func21, Try.ntmps21
  go_wp2_with (first | ((with_reducible refine gate_dst (N := 1) rfl ?_); refine box_event ?hg (N := 1) ?hd (cs := #[.int .i64 a0_0, .slice A0_1 l0_1.length c0_1]) (t := 24) ?hr ?_; (case hd => rfl); (case hg => rfl); (case hr => first | (go_simp; done) | (go_simp; rfl)); intro gb360 hg w2 hbox hb; have BK360 := Aside0.mk (hbox); have GW360 := Aside0.mk ((by rw [hg]; exact (below_size (by repeat (first | (with_reducible first | exact HB.out | apply below_alloc | apply pw_below_drewN | apply below_drew1) | exact HB.out))) : w.heap.size ≤ gb360)); have GE360 := Aside0.mk ((by rw [hg]; exact (below_size (by repeat (first | (with_reducible first | exact HB.out | apply below_alloc | apply pw_below_drewN | apply below_drew1) | exact HB.out))) : w.heap.size ≤ gb360)); replace HB := Aside0.mk (below_step (by repeat (first | (with_reducible first | exact HB.out | apply below_alloc | apply pw_below_drewN | apply below_drew1) | exact HB.out)) hb); clear hb hbox hg))
  go_loopg [4, 5, 6] k (fun kq v4 v5 v6 w' => ∃ (x4_1 : Int) (x5_1 : Int) (x6_1 : Int), v4 = .int .i64 x4_1 ∧ v5 = .int .i64 x5_1 ∧ v6 = .int .i64 x6_1 ∧ Aside0 (remouldref01_Factors.l0 kq x4_1 x5_1 x6_1 a0_0 l0_1 = some (r1, r2)) ∧ Aside0 (kq ≤ k) ∧ Aside0 (w'.heap[gb360]? = some (.cells #[.int .i64 a0_0, (.slice A0_1 l0_1.length c0_1)] 24 (0, 0))) ∧ Aside0 (Below w.heap.size w w'))
  case atStart => exact ⟨(0), (0), (0), (by first | rfl | (simp; done) | (simp [*]; done)), (by first | rfl | (simp; done) | (simp [*]; done)), (by first | rfl | (simp; done) | (simp [*]; done)), H', ⟨Nat.le_refl _⟩, ⟨by (with_reducible repeat (first | refine blk_drewN ?_ _ | refine blk_drew ?_ | refine blk_alloc ?_ _)); exact BK360.out⟩, ⟨by repeat (first | (with_reducible first | exact HB.out | apply below_alloc | apply pw_below_drewN | apply below_drew1 | refine below_set ?_ GE360.out) | exact HB.out)⟩⟩
  clear H'
  try clear c2
  try clear p2
  obtain ⟨x4_1, x5_1, x6_1, rfl, rfl, rfl, HA, HK1, BK360, HB⟩ := hrel
  cases gk with
  | zero => exact absurd HA.out (by simp [remouldref01_Factors.l0])
  | succ k1 =>
    have H := HA.out
    clear HA
    simp only [remouldref01_Factors.l0] at H
    by_cases c3 : x6_1 < (l0_1.length : Int)
    · rw [if_pos c3] at H
      have c3b0 : decide (x6_1 < (l0_1.length : Int)) = true := decide_eq_true c3
      clear c3
      by_cases c4 : 0 ≤ x6_1
      rotate_left
      · rw [if_neg c4] at H
        exact absurd H (by simp)
      rw [if_pos c4] at H
      have c4b0 : decide (0 ≤ x6_1) = true := decide_eq_true c4
      clear c4
      replace H := Option.bind_eq_some_iff.mp H
      obtain ⟨⟨t362, t363⟩, A50, H⟩ := H
      replace H : ((remouldref01_Gcd.f k1 t362 t363).bind fun t365 => ((remouldref01_Gcd.f k1 x4_1 t365).bind fun t366 => (remouldref01_Factors.l1 k1 t366 x5_1 x6_1 0 a0_0 l0_1 t362 t363))) = some (r1, r2) := H
      have A5 := Aside0.mk A50
      clear A50
      replace H := Option.bind_eq_some_iff.mp H
      obtain ⟨t365, A60, H⟩ := H
      replace H : ((remouldref01_Gcd.f k1 x4_1 t365).bind fun t366 => (remouldref01_Factors.l1 k1 t366 x5_1 x6_1 0 a0_0 l0_1 t362 t363)) = some (r1, r2) := H
      have A6 := Aside0.mk A60
      clear A60
      replace H := Option.bind_eq_some_iff.mp H
      obtain ⟨t366, A70, H⟩ := H
      replace H : (remouldref01_Factors.l1 k1 t366 x5_1 x6_1 0 a0_0 l0_1 t362 t363) = some (r1, r2) := H
      have A7 := Aside0.mk A70
      clear A70
      have H' := Aside0.mk H
      clear H
      have hcz8_0 : wr.cell? ⟨gb360, 0, none⟩ = some (.int .i64 a0_0) := (blk_cell BK360.out 0).trans rfl
      have hcz8_1 : wr.cell? ⟨gb360, 1, none⟩ = some (.slice A0_1 l0_1.length c0_1) := (blk_cell BK360.out 1).trans rfl
      have hfz8_0 := blk_frozen BK360.out 0
      have hfz8_1 := blk_frozen BK360.out 1
      have p361 : 0 ≤ (x6_1 : Int) := of_decide_eq_true (by first | (with_reducible assumption) | assumption)
      have q361 : x6_1 < (l0_1.length : Int) := of_decide_eq_true (by first | (with_reducible assumption) | assumption)
      obtain ⟨ad361, e361, hx361_0⟩ := Kd.at_string HR0_1.out x6_1 p361 q361
      cases e361
      replace hx361_0 := (HB.out.cell (World.block_lt_of_cell? w _ hx361_0)).trans hx361_0
      replace p361 := eq_true p361
      replace q361 := eq_true q361
      go_wp2_with (first | ((with_reducible refine gate_callee (f := 28) rfl ?_); refine goesL_ (some 26) rfl rfl Try.func28 (by kernel_rfl) rfl #[.string (rdOf ByteArray.empty l0_1 x6_1)] rfl (by (try simp only [List.map_toArray, List.map_cons, List.map_nil]); first | done | rfl | (simp only [List.length_drop, List.length_take]; rfl)) ?_; (with_reducible refine (remouldref01_Exponents.calls k1 (rdOf ByteArray.empty l0_1 x6_1) t362 t363 _ A5.out).mono ?_); rintro e w9 ⟨rfl, hb⟩; refine ⟨_, rfl, ?_⟩; replace BK360 := Aside0.mk (blk_below (g := gb360) (o := .cells #[.int .i64 a0_0, .slice (some ad361) l0_1.length c0_1] 24 (0, 0)) (by (with_reducible repeat (first | refine blk_drewN ?_ _ | refine blk_drew ?_ | refine blk_alloc ?_ _)); exact BK360.out) hb); replace HB := Aside0.mk (below_step (by repeat (first | (with_reducible first | exact HB.out | apply below_alloc | apply pw_below_drewN | apply below_drew1 | refine below_set ?_ GE360.out) | exact HB.out)) hb); (try clear hb); (try clear hb2); (try clear hk); (try clear hi)) | ((with_reducible refine gate_dst (N := 7) rfl ?_); refine box_event ?hg (N := 7) ?hd (cs := #[.int .i64 0, .int .i64 0]) (t := 50) ?hr ?_; (case hd => rfl); (case hg => rfl); (case hr => first | (go_simp; done) | (go_simp; rfl)); intro gb364 hg w10 hbox hb; have BK364 := Aside0.mk (hbox); have GW364 := Aside0.mk ((by rw [hg]; exact (below_size (by repeat (first | (with_reducible first | exact HB.out | apply below_alloc | apply pw_below_drewN | apply below_drew1 | refine below_set ?_ GE360.out) | exact HB.out))) : w.heap.size ≤ gb364)); have GE364 := Aside0.mk ((by rw [hg]; exact (below_size (by repeat (first | (with_reducible first | exact HB.out | apply below_alloc | apply pw_below_drewN | apply below_drew1 | refine below_set ?_ GE360.out) | exact HB.out))) : w.heap.size ≤ gb364)); have NB360_364 := Aside0.mk ((by rw [hg]; exact Nat.ne_of_lt (blk_lt (g := gb360) (o := .cells #[.int .i64 a0_0, .slice (some ad361) l0_1.length c0_1] 24 (0, 0)) (by (with_reducible repeat (first | refine blk_drewN ?_ _ | refine blk_drew ?_ | refine blk_alloc ?_ _)); exact BK360.out)) : gb360 ≠ gb364)); have NB364_360 := Aside0.mk ((by rw [hg]; exact Nat.ne_of_gt (blk_lt (g := gb360) (o := .cells #[.int .i64 a0_0, .slice (some ad361) l0_1.length c0_1] 24 (0, 0)) (by (with_reducible repeat (first | refine blk_drewN ?_ _ | refine blk_drew ?_ | refine blk_alloc ?_ _)); exact BK360.out)) : gb364 ≠ gb360)); replace BK360 := Aside0.mk (blk_below (g := gb360) (o := .cells #[.int .i64 a0_0, .slice (some ad361) l0_1.length c0_1] 24 (0, 0)) (by (with_reducible repeat (first | refine blk_drewN ?_ _ | refine blk_drew ?_ | refine blk_alloc ?_ _)); exact BK360.out) hb); replace HB := Aside0.mk (below_step (by repeat (first | (with_reducible first | exact HB.out | apply below_alloc | apply pw_below_drewN | apply below_drew1 | refine below_set ?_ GE360.out) | exact HB.out)) hb); clear hb hbox hg; have hnb11 := NB364_360.out; have hnc11 := NB360_364.out; have hcz12_0 : w10.cell? ⟨gb364, 0, none⟩ = some (.int .i64 0) := (blk_cell BK364.out 0).trans rfl; have hcz12_1 : w10.cell? ⟨gb364, 1, none⟩ = some (.int .i64 0) := (blk_cell BK364.out 1).trans rfl; have hfz12_0 := blk_frozen BK364.out 0; have hfz12_1 := blk_frozen BK364.out 1) | ((with_reducible refine gate_callee (f := 29) rfl ?_); refine goesL_ (some 32) rfl rfl Try.func29 (by kernel_rfl) rfl #[.int .i64 t362, .int .i64 t363] rfl (by (try simp only [List.map_toArray, List.map_cons, List.map_nil]); first | done | rfl | (simp only [List.length_drop, List.length_take]; rfl)) ?_; (with_reducible refine (remouldref01_Gcd.calls k1 t362 t363 t365 _ A6.out).mono ?_); rintro e w13 ⟨rfl, hb⟩; refine ⟨_, rfl, ?_⟩; replace BK360 := Aside0.mk (blk_below (g := gb360) (o := .cells #[.int .i64 a0_0, .slice (some ad361) l0_1.length c0_1] 24 (0, 0)) (by (with_reducible repeat (first | refine blk_drewN ?_ _ | refine blk_drew ?_ | refine blk_alloc ?_ _)); refine blk_far ?_ NB360_364.out _; (with_reducible repeat (first | refine blk_drewN ?_ _ | refine blk_drew ?_ | refine blk_alloc ?_ _)); refine blk_far ?_ NB360_364.out _; (with_reducible repeat (first | refine blk_drewN ?_ _ | refine blk_drew ?_ | refine blk_alloc ?_ _)); exact BK360.out) hb); replace BK364 := Aside0.mk (blk_below (g := gb364) (o := .cells #[.int .i64 t362, .int .i64 t363] 50 (0, 0)) (by (with_reducible repeat (first | refine blk_drewN ?_ _ | refine blk_drew ?_ | refine blk_alloc ?_ _)); refine blk_put (cs := #[.int .i64 t362, .int .i64 0]) ?_ 1 _ rfl; (with_reducible repeat (first | refine blk_drewN ?_ _ | refine blk_drew ?_ | refine blk_alloc ?_ _)); refine blk_put (cs := #[.int .i64 0, .int .i64 0]) ?_ 0 _ rfl; (with_reducible repeat (first | refine blk_drewN ?_ _ | refine blk_drew ?_ | refine blk_alloc ?_ _)); exact BK364.out) hb); replace HB := Aside0.mk (below_step (by repeat (first | (with_reducible first | exact HB.out | apply below_alloc | apply pw_below_drewN | apply below_drew1 | refine below_set ?_ GE360.out | refine below_set ?_ GE364.out) | exact HB.out)) hb); (try clear hb); (try clear hb2); (try clear hk); (try clear hi)) | ((with_reducible refine gate_callee (f := 29) rfl ?_); refine goesL_ (some 33) rfl rfl Try.func29 (by kernel_rfl) rfl #[.int .i64 x4_1, .int .i64 t365] rfl (by (try simp only [List.map_toArray, List.map_cons, List.map_nil]); first | done | rfl | (simp only [List.length_drop, List.length_take]; rfl)) ?_; (with_reducible refine (remouldref01_Gcd.calls k1 x4_1 t365 t366 _ A7.out).mono ?_); rintro e w14 ⟨rfl, hb⟩; refine ⟨_, rfl, ?_⟩; replace BK360 := Aside0.mk (blk_below (g := gb360) (o := .cells #[.int .i64 a0_0, .slice (some ad361) l0_1.length c0_1] 24 (0, 0)) (by (with_reducible repeat (first | refine blk_drewN ?_ _ | refine blk_drew ?_ | refine blk_alloc ?_ _)); exact BK360.out) hb); replace BK364 := Aside0.mk (blk_below (g := gb364) (o := .cells #[.int .i64 t362, .int .i64 t363] 50 (0, 0)) (by (with_reducible repeat (first | refine blk_drewN ?_ _ | refine blk_drew ?_ | refine blk_alloc ?_ _)); exact BK364.out) hb); replace HB := Aside0.mk (below_step (by repeat (first | (with_reducible first | exact HB.out | apply below_alloc | apply pw_below_drewN | apply below_drew1 | refine below_set ?_ GE360.out | refine below_set ?_ GE364.out) | exact HB.out)) hb); (try clear hb); (try clear hb2); (try clear hk); (try clear hi)))
      go_loopg [5, 8] k1 (fun kq v5 v8 w' => ∃ (x5_2 : Int) (x8_2 : Int), v5 = .int .i64 x5_2 ∧ v8 = .int .i64 x8_2 ∧ Aside0 (remouldref01_Factors.l1 kq t366 x5_2 x6_1 x8_2 a0_0 l0_1 t362 t363 = some (r1, r2)) ∧ Aside0 (kq ≤ k1) ∧ Aside0 (w'.heap[gb360]? = some (.cells #[.int .i64 a0_0, (.slice (some ad361) l0_1.length c0_1)] 24 (0, 0))) ∧ Aside0 (w'.heap[gb364]? = some (.cells #[.int .i64 t362, .int .i64 t363] 50 (0, 0))) ∧ Aside0 (Below w.heap.size w w'))
      case atStart => exact ⟨(x5_1), (0), (by first | rfl | (simp; done) | (simp [*]; done)), (by first | rfl | (simp; done) | (simp [*]; done)), H', ⟨Nat.le_refl _⟩, ⟨by (with_reducible repeat (first | refine blk_drewN ?_ _ | refine blk_drew ?_ | refine blk_alloc ?_ _)); exact BK360.out⟩, ⟨by (with_reducible repeat (first | refine blk_drewN ?_ _ | refine blk_drew ?_ | refine blk_alloc ?_ _)); exact BK364.out⟩, ⟨by repeat (first | (with_reducible first | exact HB.out | apply below_alloc | apply pw_below_drewN | apply below_drew1 | refine below_set ?_ GE360.out | refine below_set ?_ GE364.out) | exact HB.out)⟩⟩
      clear H'
      try clear c1
      try clear c2
      try clear p2
      try clear c3
      try clear c3b0
      try clear p3
      try clear q3
      try clear hx3
      try clear c4
      try clear c4b0
      try clear c11
      try clear hcz12_0
      try clear hcz12_1
      try clear hcz8_0
      try clear hcz8_1
      try clear hfz12_0
      try clear hfz12_1
      try clear hfz8_0
      try clear hfz8_1
      try clear hx361_0
      try clear p2
      try clear p361
      try clear q361
      obtain ⟨x5_2, x8_2, rfl, rfl, HA, HK2, BK360, BK364, HB⟩ := hrel
      cases gk with
      | zero => exact absurd HA.out (by simp [remouldref01_Factors.l1])
      | succ k2 =>
        have H := HA.out
        clear HA
        simp only [remouldref01_Factors.l1] at H
        by_cases c15 : x8_2 < x6_1
        rotate_left
        · rw [if_neg c15] at H
          have c15b0 : decide (x8_2 < x6_1) = false := decide_eq_false c15
          clear c15
          have H' := Aside0.mk H
          clear H
          go_wp2
          go_roundg k2
          case measure => have := HK1.out; have := HK2.out; omega
          case rel => exact ⟨(t366), (x5_2), (wrap64 (x6_1 + 1)), (by first | rfl | (simp; done) | (simp [*]; done)), (by first | rfl | (simp; done) | (simp [*]; done)), (by first | rfl | (simp; done) | (simp [*]; done)), H', ⟨by have := HK1.out; have := HK2.out; omega⟩, ⟨by (with_reducible repeat (first | refine blk_drewN ?_ _ | refine blk_drew ?_ | refine blk_alloc ?_ _)); exact BK360.out⟩, ⟨by repeat (first | (with_reducible first | exact HB.out | apply below_alloc | apply pw_below_drewN | apply below_drew1 | refine below_set ?_ GE360.out | refine below_set ?_ GE364.out) | exact HB.out)⟩⟩
        rw [if_pos c15] at H
        have c15b0 : decide (x8_2 < x6_1) = true := decide_eq_true c15
        clear c15
        by_cases c16 : 0 ≤ x8_2
        rotate_left
        · rw [if_neg c16] at H
          exact absurd H (by simp)
        rw [if_pos c16] at H
        have c16b0 : decide (0 ≤ x8_2) = true := decide_eq_true c16
        clear c16
        by_cases c17 : x8_2 < (l0_1.length : Int)
        rotate_left
        · rw [if_neg c17] at H
          exact absurd H (by simp)
        rw [if_pos c17] at H
        have c17b0 : decide (x8_2 < (l0_1.length : Int)) = true := decide_eq_true c17
        clear c17
        replace H := Option.bind_eq_some_iff.mp H
        obtain ⟨⟨t368, t369⟩, A180, H⟩ := H
        replace H : ((remouldref01_Gcd.f k2 x5_2 (wrap64 ((wrap64 (t362 * t369)) - (wrap64 (t363 * t368))))).bind fun t371 => (remouldref01_Factors.l1 k2 t366 t371 x6_1 (wrap64 (x8_2 + 1)) a0_0 l0_1 t362 t363)) = some (r1, r2) := H
        have A18 := Aside0.mk A180
        clear A180
        replace H := Option.bind_eq_some_iff.mp H
        obtain ⟨t371, A190, H⟩ := H
        replace H : (remouldref01_Factors.l1 k2 t366 t371 x6_1 (wrap64 (x8_2 + 1)) a0_0 l0_1 t362 t363) = some (r1, r2) := H
        have A19 := Aside0.mk A190
        clear A190
        have H' := Aside0.mk H
        clear H
        have hnb20 := NB360_364.out
        have hnc20 := NB364_360.out
        have hcz21_0 : wr.cell? ⟨gb360, 0, none⟩ = some (.int .i64 a0_0) := (blk_cell BK360.out 0).trans rfl
        have hcz21_1 : wr.cell? ⟨gb360, 1, none⟩ = some (.slice (some ad361) l0_1.length c0_1) := (blk_cell BK360.out 1).trans rfl
        have hfz21_0 := blk_frozen BK360.out 0
        have hfz21_1 := blk_frozen BK360.out 1
        have p367 : 0 ≤ (x8_2 : Int) := of_decide_eq_true (by first | (with_reducible assumption) | assumption)
        have q367 : x8_2 < (l0_1.length : Int) := of_decide_eq_true (by first | (with_reducible assumption) | assumption)
        obtain ⟨ad367, e367, hx367_0⟩ := Kd.at_string HR0_1.out x8_2 p367 q367
        obtain rfl : ad361 = ad367 := (by injection e367)
        replace hx367_0 := (HB.out.cell (World.block_lt_of_cell? w _ hx367_0)).trans hx367_0
        replace p367 := eq_true p367
        replace q367 := eq_true q367
        go_wp2_with (first | ((with_reducible refine gate_callee (f := 28) rfl ?_); refine goesL_ (some 44) rfl rfl Try.func28 (by kernel_rfl) rfl #[.string (rdOf ByteArray.empty l0_1 x8_2)] rfl (by (try simp only [List.map_toArray, List.map_cons, List.map_nil]); first | done | rfl | (simp only [List.length_drop, List.length_take]; rfl)) ?_; (with_reducible refine (remouldref01_Exponents.calls k2 (rdOf ByteArray.empty l0_1 x8_2) t368 t369 _ A18.out).mono ?_); rintro e w22 ⟨rfl, hb⟩; refine ⟨_, rfl, ?_⟩; replace BK360 := Aside0.mk (blk_below (g := gb360) (o := .cells #[.int .i64 a0_0, .slice (some ad361) l0_1.length c0_1] 24 (0, 0)) (by (with_reducible repeat (first | refine blk_drewN ?_ _ | refine blk_drew ?_ | refine blk_alloc ?_ _)); exact BK360.out) hb); replace BK364 := Aside0.mk (blk_below (g := gb364) (o := .cells #[.int .i64 t362, .int .i64 t363] 50 (0, 0)) (by (with_reducible repeat (first | refine blk_drewN ?_ _ | refine blk_drew ?_ | refine blk_alloc ?_ _)); exact BK364.out) hb); replace HB := Aside0.mk (below_step (by repeat (first | (with_reducible first | exact HB.out | apply below_alloc | apply pw_below_drewN | apply below_drew1 | refine below_set ?_ GE360.out | refine below_set ?_ GE364.out) | exact HB.out)) hb); (try clear hb); (try clear hb2); (try clear hk); (try clear hi)) | ((with_reducible refine gate_dst (N := 9) rfl ?_); refine box_event ?hg (N := 9) ?hd (cs := #[.int .i64 0, .int .i64 0]) (t := 50) ?hr ?_; (case hd => rfl); (case hg => rfl); (case hr => first | (go_simp; done) | (go_simp; rfl)); intro gb370 hg w23 hbox hb; have BK370 := Aside0.mk (hbox); have GW370 := Aside0.mk ((by rw [hg]; exact (below_size (by repeat (first | (with_reducible first | exact HB.out | apply below_alloc | apply pw_below_drewN | apply below_drew1 | refine below_set ?_ GE360.out | refine below_set ?_ GE364.out) | exact HB.out))) : w.heap.size ≤ gb370)); have GE370 := Aside0.mk ((by rw [hg]; exact (below_size (by repeat (first | (with_reducible first | exact HB.out | apply below_alloc | apply pw_below_drewN | apply below_drew1 | refine below_set ?_ GE360.out | refine below_set ?_ GE364.out) | exact HB.out))) : w.heap.size ≤ gb370)); have NB360_370 := Aside0.mk ((by rw [hg]; exact Nat.ne_of_lt (blk_lt (g := gb360) (o := .cells #[.int .i64 a0_0, .slice (some ad361) l0_1.length c0_1] 24 (0, 0)) (by (with_reducible repeat (first | refine blk_drewN ?_ _ | refine blk_drew ?_ | refine blk_alloc ?_ _)); exact BK360.out)) : gb360 ≠ gb370)); have NB370_360 := Aside0.mk ((by rw [hg]; exact Nat.ne_of_gt (blk_lt (g := gb360) (o := .cells #[.int .i64 a0_0, .slice (some ad361) l0_1.length c0_1] 24 (0, 0)) (by (with_reducible repeat (first | refine blk_drewN ?_ _ | refine blk_drew ?_ | refine blk_alloc ?_ _)); exact BK360.out)) : gb370 ≠ gb360)); have NB364_370 := Aside0.mk ((by rw [hg]; exact Nat.ne_of_lt (blk_lt (g := gb364) (o := .cells #[.int .i64 t362, .int .i64 t363] 50 (0, 0)) (by (with_reducible repeat (first | refine blk_drewN ?_ _ | refine blk_drew ?_ | refine blk_alloc ?_ _)); exact BK364.out)) : gb364 ≠ gb370)); have NB370_364 := Aside0.mk ((by rw [hg]; exact Nat.ne_of_gt (blk_lt (g := gb364) (o := .cells #[.int .i64 t362, .int .i64 t363] 50 (0, 0)) (by (with_reducible repeat (first | refine blk_drewN ?_ _ | refine blk_drew ?_ | refine blk_alloc ?_ _)); exact BK364.out)) : gb370 ≠ gb364)); replace BK360 := Aside0.mk (blk_below (g := gb360) (o := .cells #[.int .i64 a0_0, .slice (some ad361) l0_1.length c0_1] 24 (0, 0)) (by (with_reducible repeat (first | refine blk_drewN ?_ _ | refine blk_drew ?_ | refine blk_alloc ?_ _)); exact BK360.out) hb); replace BK364 := Aside0.mk (blk_below (g := gb364) (o := .cells #[.int .i64 t362, .int .i64 t363] 50 (0, 0)) (by (with_reducible repeat (first | refine blk_drewN ?_ _ | refine blk_drew ?_ | refine blk_alloc ?_ _)); exact BK364.out) hb); replace HB := Aside0.mk (below_step (by repeat (first | (with_reducible first | exact HB.out | apply below_alloc | apply pw_below_drewN | apply below_drew1 | refine below_set ?_ GE360.out | refine below_set ?_ GE364.out) | exact HB.out)) hb); clear hb hbox hg; have hnb24 := NB370_360.out; have hnc24 := NB360_370.out; have hnb25 := NB370_364.out; have hnc25 := NB364_370.out; have hcz26_0 : w23.cell? ⟨gb370, 0, none⟩ = some (.int .i64 0) := (blk_cell BK370.out 0).trans rfl; have hcz26_1 : w23.cell? ⟨gb370, 1, none⟩ = some (.int .i64 0) := (blk_cell BK370.out 1).trans rfl; have hfz26_0 := blk_frozen BK370.out 0; have hfz26_1 := blk_frozen BK370.out 1; have hcz27_0 : w23.cell? ⟨gb364, 0, none⟩ = some (.int .i64 t362) := (blk_cell BK364.out 0).trans rfl; have hcz27_1 : w23.cell? ⟨gb364, 1, none⟩ = some (.int .i64 t363) := (blk_cell BK364.out 1).trans rfl; have hfz27_0 := blk_frozen BK364.out 0; have hfz27_1 := blk_frozen BK364.out 1) | ((with_reducible refine gate_callee (f := 29) rfl ?_); refine goesL_ (some 57) rfl rfl Try.func29 (by kernel_rfl) rfl #[.int .i64 x5_2, .int .i64 (wrap64 ((wrap64 (t362 * t369)) - (wrap64 (t363 * t368))))] rfl (by (try simp only [List.map_toArray, List.map_cons, List.map_nil]); first | done | rfl | (simp only [List.length_drop, List.length_take]; rfl)) ?_; (with_reducible refine (remouldref01_Gcd.calls k2 x5_2 (wrap64 ((wrap64 (t362 * t369)) - (wrap64 (t363 * t368)))) t371 _ A19.out).mono ?_); rintro e w28 ⟨rfl, hb⟩; refine ⟨_, rfl, ?_⟩; replace BK360 := Aside0.mk (blk_below (g := gb360) (o := .cells #[.int .i64 a0_0, .slice (some ad361) l0_1.length c0_1] 24 (0, 0)) (by (with_reducible repeat (first | refine blk_drewN ?_ _ | refine blk_drew ?_ | refine blk_alloc ?_ _)); refine blk_far ?_ NB360_370.out _; (with_reducible repeat (first | refine blk_drewN ?_ _ | refine blk_drew ?_ | refine blk_alloc ?_ _)); refine blk_far ?_ NB360_370.out _; (with_reducible repeat (first | refine blk_drewN ?_ _ | refine blk_drew ?_ | refine blk_alloc ?_ _)); exact BK360.out) hb); replace BK364 := Aside0.mk (blk_below (g := gb364) (o := .cells #[.int .i64 t362, .int .i64 t363] 50 (0, 0)) (by (with_reducible repeat (first | refine blk_drewN ?_ _ | refine blk_drew ?_ | refine blk_alloc ?_ _)); refine blk_far ?_ NB364_370.out _; (with_reducible repeat (first | refine blk_drewN ?_ _ | refine blk_drew ?_ | refine blk_alloc ?_ _)); refine blk_far ?_ NB364_370.out _; (with_reducible repeat (first | refine blk_drewN ?_ _ | refine blk_drew ?_ | refine blk_alloc ?_ _)); exact BK364.out) hb); replace BK370 := Aside0.mk (blk_below (g := gb370) (o := .cells #[.int .i64 t368, .int .i64 t369] 50 (0, 0)) (by (with_reducible repeat (first | refine blk_drewN ?_ _ | refine blk_drew ?_ | refine blk_alloc ?_ _)); refine blk_put (cs := #[.int .i64 t368, .int .i64 0]) ?_ 1 _ rfl; (with_reducible repeat (first | refine blk_drewN ?_ _ | refine blk_drew ?_ | refine blk_alloc ?_ _)); refine blk_put (cs := #[.int .i64 0, .int .i64 0]) ?_ 0 _ rfl; (with_reducible repeat (first | refine blk_drewN ?_ _ | refine blk_drew ?_ | refine blk_alloc ?_ _)); exact BK370.out) hb); replace HB := Aside0.mk (below_step (by repeat (first | (with_reducible first | exact HB.out | apply below_alloc | apply pw_below_drewN | apply below_drew1 | refine below_set ?_ GE360.out | refine below_set ?_ GE364.out | refine below_set ?_ GE370.out) | exact HB.out)) hb); (try clear hb); (try clear hb2); (try clear hk); (try clear hi)))
        go_roundg k2
        case measure => have := HK1.out; have := HK2.out; omega
        case rel => exact ⟨(t371), (wrap64 (x8_2 + 1)), (by first | rfl | (simp; done) | (simp [*]; done)), (by first | rfl | (simp; done) | (simp [*]; done)), H', ⟨by have := HK1.out; have := HK2.out; omega⟩, ⟨by (with_reducible repeat (first | refine blk_drewN ?_ _ | refine blk_drew ?_ | refine blk_alloc ?_ _)); exact BK360.out⟩, ⟨by (with_reducible repeat (first | refine blk_drewN ?_ _ | refine blk_drew ?_ | refine blk_alloc ?_ _)); exact BK364.out⟩, ⟨by repeat (first | (with_reducible first | exact HB.out | apply below_alloc | apply pw_below_drewN | apply below_drew1 | refine below_set ?_ GE360.out | refine below_set ?_ GE364.out | refine below_set ?_ GE370.out) | exact HB.out)⟩⟩
    rw [if_neg c3] at H
    have c3b0 : decide (x6_1 < (l0_1.length : Int)) = false := decide_eq_false c3
    clear c3
    obtain ⟨y372, hy372⟩ : ∃ y_ : List Int, y_ = (([x4_1] : List Int)) := ⟨_, rfl⟩
    replace H : (if a0_0 = 2 then (remouldref01_Factors.j2 k1 x4_1 x5_1 y372 (decide (x4_1 > 0)) a0_0 l0_1) else (remouldref01_Factors.j2 k1 x4_1 x5_1 y372 false a0_0 l0_1)) = some (r1, r2) := by first | (rw [hy372]; with_reducible exact H) | (have H2_ := (Option.bind_some _ _).symm.trans H; rw [hy372]; with_reducible exact H2_) | (have H2_ := (Option.bind_some _ _).symm.trans H; with_reducible exact H2_) | with_reducible exact H | (rw [hy372]; exact H) | exact H
    have Ny372 := Aside0.mk hy372
    clear hy372
    have HC29 := Aside0.mk H
    clear H
    have hcz30_0 : wr.cell? ⟨gb360, 0, none⟩ = some (.int .i64 a0_0) := (blk_cell BK360.out 0).trans rfl
    have hcz30_1 : wr.cell? ⟨gb360, 1, none⟩ = some (.slice A0_1 l0_1.length c0_1) := (blk_cell BK360.out 1).trans rfl
    have hfz30_0 := blk_frozen BK360.out 0
    have hfz30_1 := blk_frozen BK360.out 1
    go_upto_region 13 with (first | ((with_reducible refine gate_dst (N := 59) rfl ?_); refine Kd.R_lit (Kd.int .i64) _ 3 ?hg (N := 59) ?hd (xs := ([x4_1] : List Int)) (inner := [.int .i64 x4_1]) (ok := fun _ => True) (okp := fun _ => True) ?hr ?hp (fun _ hk => hk) trivial (Below.refl _ _) (Nat.le_refl _) (by simp) ?_; (case hd => rfl); (case hg => rfl); (case hr => first | (go_simp; done) | (go_simp; rfl)); (case hp => exact (Reps.one (show Kd.M (Kd.int .i64) _ _ _ x4_1 [.int .i64 x4_1] from rfl) (Reps.none _ _))); intro v373 w31 ho32 hb hg_ hnew_; clear hg_ hnew_; (first | rw [← Ny372.out] at ho32 | (simp only [Int.reduceToNat] at ho32; rw [← Ny372.out] at ho32)); have HO374 := Aside0.mk (Kd.R_lower ho32 (below_size (by repeat (first | (with_reducible first | exact HB.out | apply below_alloc | apply pw_below_drewN | apply below_drew1 | refine below_set ?_ GE360.out) | exact HB.out)))); replace BK360 := Aside0.mk (blk_below (g := gb360) (o := .cells #[.int .i64 a0_0, .slice A0_1 l0_1.length c0_1] 24 (0, 0)) (by (with_reducible repeat (first | refine blk_drewN ?_ _ | refine blk_drew ?_ | refine blk_alloc ?_ _)); exact BK360.out) hb); replace HB := Aside0.mk (below_step (by repeat (first | (with_reducible first | exact HB.out | apply below_alloc | apply pw_below_drewN | apply below_drew1 | refine below_set ?_ GE360.out) | exact HB.out)) hb); clear hb ho32))
    (try simp only [Act.put, List.setIfInBounds_toArray, List.set_cons_zero, List.set_cons_succ])
    go_cut [66] (fun v66 wc => ∃ (kq : Nat) (x66_28 : Bool), v66 = .bool x66_28 ∧ Aside0 (remouldref01_Factors.j2 kq x4_1 x5_1 y372 x66_28 a0_0 l0_1 = some (r1, r2)) ∧ Aside0 (kq ≤ k1) ∧ Aside0 (Kd.R (Kd.int .i64) 3 wc w.heap.size (fun _ => True) v373 y372) ∧ Aside0 (wc.heap[gb360]? = some (.cells #[.int .i64 a0_0, (.slice A0_1 l0_1.length c0_1)] 24 (0, 0))) ∧ Aside0 (Below w.heap.size w wc))
    case first =>
      have H := HC29.out
      clear HC29
      by_cases c33 : a0_0 = 2
      rotate_left
      · rw [if_neg c33] at H
        have c33b0 : (a0_0 == 2) = false := beq_eq_false_iff_ne.mpr c33
        have c33b1 : (a0_0 != 2) = true := bne_iff_ne.mpr c33
        (first | rw [c33b0] | (simp only [i64_w, i32_w]; rw [c33b0]) | skip)
        have H' := Aside0.mk H
        clear H
        have hcz35_0 : w31.cell? ⟨gb360, 0, none⟩ = some (.int .i64 a0_0) := (blk_cell BK360.out 0).trans rfl
        have hcz35_1 : w31.cell? ⟨gb360, 1, none⟩ = some (.slice A0_1 l0_1.length c0_1) := (blk_cell BK360.out 1).trans rfl
        have hfz35_0 := blk_frozen BK360.out 0
        have hfz35_1 := blk_frozen BK360.out 1
        go_wp2
        go_meet
        case rel => exact ⟨_, (false), (by first | rfl | (simp; done) | (simp [*]; done)), H', ⟨by have := HK1.out; first | omega | exact Nat.le_refl _⟩, ⟨by (with_reducible repeat (first | apply Kd.R_alloc | apply Kd.R_drewN | apply Kd.R_drew)); exact HO374.out⟩, ⟨by (with_reducible repeat (first | refine blk_drewN ?_ _ | refine blk_drew ?_ | refine blk_alloc ?_ _)); exact BK360.out⟩, ⟨by repeat (first | (with_reducible first | exact HB.out | apply below_alloc | apply pw_below_drewN | apply below_drew1 | refine below_set ?_ GE360.out) | exact HB.out)⟩⟩
      rw [if_pos c33] at H
      have c33b0 : (a0_0 == 2) = true := beq_iff_eq.mpr c33
      have c33b1 : (a0_0 != 2) = false := bne_eq_false_iff_eq.mpr c33
      clear c33
      (first | rw [c33b0] | (simp only [i64_w, i32_w]; rw [c33b0]) | skip)
      have H' := Aside0.mk H
      clear H
      have hcz34_0 : w31.cell? ⟨gb360, 0, none⟩ = some (.int .i64 a0_0) := (blk_cell BK360.out 0).trans rfl
      have hcz34_1 : w31.cell? ⟨gb360, 1, none⟩ = some (.slice A0_1 l0_1.length c0_1) := (blk_cell BK360.out 1).trans rfl
      have hfz34_0 := blk_frozen BK360.out 0
      have hfz34_1 := blk_frozen BK360.out 1
      go_wp2
      go_meet
      case rel => exact ⟨_, (decide (x4_1 > 0)), (by first | rfl | (simp; done) | (simp [*]; done)), H', ⟨by have := HK1.out; first | omega | exact Nat.le_refl _⟩, ⟨by (with_reducible repeat (first | apply Kd.R_alloc | apply Kd.R_drewN | apply Kd.R_drew)); exact HO374.out⟩, ⟨by (with_reducible repeat (first | refine blk_drewN ?_ _ | refine blk_drew ?_ | refine blk_alloc ?_ _)); exact BK360.out⟩, ⟨by repeat (first | (with_reducible first | exact HB.out | apply below_alloc | apply pw_below_drewN | apply below_drew1 | refine below_set ?_ GE360.out) | exact HB.out)⟩⟩
    case rest =>
      clear HC29
      try clear c1
      try clear c2
      try clear p2
      try clear c3
      try clear c3b0
      try clear p3
      try clear q3
      try clear hx3
      try clear c4
      try clear c4b0
      try clear p6
      try clear c11
      try clear c15
      try clear c15b0
      try clear c16
      try clear c16b0
      try clear c17
      try clear c17b0
      try clear c20
      try clear c21
      try clear c24
      try clear c25
      try clear c28
      try clear c29
      try clear c33
      try clear c33b0
      try clear c33b1
      try clear hcz12_0
      try clear hcz12_1
      try clear hcz21_0
      try clear hcz21_1
      try clear hcz26_0
      try clear hcz26_1
      try clear hcz27_0
      try clear hcz27_1
      try clear hcz30_0
      try clear hcz30_1
      try clear hcz34_0
      try clear hcz34_1
      try clear hcz35_0
      try clear hcz35_1
      try clear hcz8_0
      try clear hcz8_1
      try clear hfz12_0
      try clear hfz12_1
      try clear hfz21_0
      try clear hfz21_1
      try clear hfz26_0
      try clear hfz26_1
      try clear hfz27_0
      try clear hfz27_1
      try clear hfz30_0
      try clear hfz30_1
      try clear hfz34_0
      try clear hfz34_1
      try clear hfz35_0
      try clear hfz35_1
      try clear hfz8_0
      try clear hfz8_1
      try clear hx361_0
      try clear hx367_0
      try clear p2
      try clear p3
      try clear p361
      try clear p367
      try clear q3
      try clear q361
      try clear q367
      obtain ⟨kq, x66_28, rfl, HA, HJ28, HO_10, BK360, HB⟩ := hcut
      cases kq with
      | zero => exact absurd HA.out (by simp [remouldref01_Factors.j2])
      | succ kj28 =>
        have H := HA.out
        clear HA
        simp only [remouldref01_Factors.j2] at H
        have HC36 := Aside0.mk H
        clear H
        go_upto_if 66 with (fail)
        go_cut [10] (fun v10 wc => ∃ (kq : Nat) (x10_35 : List Int), Aside0 (remouldref01_Factors.j3 kq x10_35 = some (r1, r2)) ∧ Aside0 (kq ≤ kj28) ∧ Aside0 (Kd.R (Kd.int .i64) 3 wc w.heap.size (fun _ => True) v10 x10_35) ∧ Aside0 (wc.heap[gb360]? = some (.cells #[.int .i64 a0_0, (.slice A0_1 l0_1.length c0_1)] 24 (0, 0))) ∧ Aside0 (Below w.heap.size w wc))
        case first =>
          have H := HC36.out
          clear HC36
          by_cases c37 : x66_28 = true
          · subst c37
            have H1 : (if x4_1 = 0 then (none) else (if y372.length < 17592186044416 then (remouldref01_Factors.j3 kj28 (y372 ++ [wrap64 (Int.tdiv x5_1 x4_1)])) else (none))) = some (r1, r2) := by rw [if_pos rfl] at H; exact H
            clear H
            have H := H1
            clear H1
            by_cases c38 : x4_1 = 0
            · rw [if_pos c38] at H
              exact absurd H (by simp)
            rw [if_neg c38] at H
            have c38b0 : (x4_1 == 0) = false := beq_eq_false_iff_ne.mpr c38
            have c38b1 : (x4_1 != 0) = true := bne_iff_ne.mpr c38
            (first | rw [c38b0] | (simp only [i64_w, i32_w]; rw [c38b0]) | skip)
            by_cases c39 : y372.length < 17592186044416
            rotate_left
            · rw [if_neg c39] at H
              exact absurd H (by simp)
            rw [if_pos c39] at H
            have LMc39 := Aside0.mk c39
            clear c39
            obtain ⟨y375, hy375⟩ : ∃ y_ : List Int, y_ = (y372 ++ [wrap64 (Int.tdiv x5_1 x4_1)]) := ⟨_, rfl⟩
            replace H : (remouldref01_Factors.j3 kj28 y375) = some (r1, r2) := by first | (rw [hy375]; with_reducible exact H) | (have H2_ := (Option.bind_some _ _).symm.trans H; rw [hy375]; with_reducible exact H2_) | (have H2_ := (Option.bind_some _ _).symm.trans H; with_reducible exact H2_) | with_reducible exact H | (rw [hy375]; exact H) | exact H
            have Ny375 := Aside0.mk hy375
            clear hy375
            have H' := Aside0.mk H
            clear H
            go_wp2_with (first | ((with_reducible refine gate_builtin (b := .append) (xs := #[.tmp 67, .tmp 71]) rfl ?_); at_builtin; refine Kd.R_append (Kd.int .i64) (w0 := w) w.heap.size rfl (.tmp 67) (.tmp 71) 36 3 (.int .i64 0) 8 rfl Try.underlying36 info3 rfl (by decide) (by omega) v373 y372 (wrap64 (Int.tdiv x5_1 x4_1)) [.int .i64 (wrap64 (Int.tdiv x5_1 x4_1))] (fun _ => True) (fun _ => False) rfl rfl ?aP (fun _ hk => hk.elim) ?aF ?aO ?aB ?aS ?aL ?_; (case aP => exact rfl); (case aB => exact (by repeat (first | (with_reducible first | exact HB.out | apply below_alloc | apply pw_below_drewN | apply below_drew1 | refine below_set ?_ GE360.out) | exact HB.out))); (case aF => exact (fun _ _ => trivial)); (case aO => exact (by (with_reducible repeat (first | apply Kd.R_alloc | apply Kd.R_drewN | apply Kd.R_drew)); exact HO_10.out)); (case aS => exact (below_size (by repeat (first | (with_reducible first | exact HB.out | apply below_alloc | apply pw_below_drewN | apply below_drew1 | refine below_set ?_ GE360.out) | exact HB.out)))); (case aL => have := LMc39.out; omega); intro v376 w40 ho hb hg hat; rw [← Ny375.out] at ho; have HO377 := Aside0.mk (ho); replace BK360 := Aside0.mk (blk_grown (g := gb360) (o := .cells #[.int .i64 a0_0, .slice A0_1 l0_1.length c0_1] 24 (0, 0)) (by (with_reducible repeat (first | refine blk_drewN ?_ _ | refine blk_drew ?_ | refine blk_alloc ?_ _)); exact BK360.out) hg (Kd.R_ne HO_10.out BK360.out (by decide))); replace HB := Aside0.mk (hb); clear HO_10; clear ho hb hg hat))
            go_meet
            case rel => exact ⟨_, (y375), H', ⟨by have := HK1.out; have := HJ28.out; first | omega | exact Nat.le_refl _⟩, ⟨by (with_reducible repeat (first | apply Kd.R_alloc | apply Kd.R_drewN | apply Kd.R_drew)); exact HO377.out⟩, ⟨by (with_reducible repeat (first | refine blk_drewN ?_ _ | refine blk_drew ?_ | refine blk_alloc ?_ _)); exact BK360.out⟩, ⟨by repeat (first | (with_reducible first | exact HB.out | apply below_alloc | apply pw_below_drewN | apply below_drew1 | refine below_set ?_ GE360.out) | exact HB.out)⟩⟩
          replace c37 := Bool.eq_false_iff.mpr c37
          subst c37
          have H1 : (if a0_0 = 2 then (if y372.length < 17592186044416 then (remouldref01_Factors.j3 kj28 (y372 ++ [0])) else (none)) else (remouldref01_Factors.j3 kj28 y372)) = some (r1, r2) := by rw [if_neg (show ¬ (false = true) by decide)] at H; exact H
          clear H
          have H := H1
          clear H1
          by_cases c41 : a0_0 = 2
          rotate_left
          · rw [if_neg c41] at H
            have c41b0 : (a0_0 == 2) = false := beq_eq_false_iff_ne.mpr c41
            have c41b1 : (a0_0 != 2) = true := bne_iff_ne.mpr c41
            have H' := Aside0.mk H
            clear H
            have hcz45_0 : wc.cell? ⟨gb360, 0, none⟩ = some (.int .i64 a0_0) := (blk_cell BK360.out 0).trans rfl
            have hcz45_1 : wc.cell? ⟨gb360, 1, none⟩ = some (.slice A0_1 l0_1.length c0_1) := (blk_cell BK360.out 1).trans rfl
            have hfz45_0 := blk_frozen BK360.out 0
            have hfz45_1 := blk_frozen BK360.out 1
            go_wp2
            go_meet
            case rel => exact ⟨_, (y372), H', ⟨by have := HK1.out; have := HJ28.out; first | omega | exact Nat.le_refl _⟩, ⟨by (with_reducible repeat (first | apply Kd.R_alloc | apply Kd.R_drewN | apply Kd.R_drew)); exact HO_10.out⟩, ⟨by (with_reducible repeat (first | refine blk_drewN ?_ _ | refine blk_drew ?_ | refine blk_alloc ?_ _)); exact BK360.out⟩, ⟨by repeat (first | (with_reducible first | exact HB.out | apply below_alloc | apply pw_below_drewN | apply below_drew1 | refine below_set ?_ GE360.out) | exact HB.out)⟩⟩
          rw [if_pos c41] at H
          have c41b0 : (a0_0 == 2) = true := beq_iff_eq.mpr c41
          have c41b1 : (a0_0 != 2) = false := bne_eq_false_iff_eq.mpr c41
          clear c41
          by_cases c42 : y372.length < 17592186044416
          rotate_left
          · rw [if_neg c42] at H
            exact absurd H (by simp)
          rw [if_pos c42] at H
          have LMc42 := Aside0.mk c42
          clear c42
          obtain ⟨y378, hy378⟩ : ∃ y_ : List Int, y_ = (y372 ++ [0]) := ⟨_, rfl⟩
          replace H : (remouldref01_Factors.j3 kj28 y378) = some (r1, r2) := by first | (rw [hy378]; with_reducible exact H) | (have H2_ := (Option.bind_some _ _).symm.trans H; rw [hy378]; with_reducible exact H2_) | (have H2_ := (Option.bind_some _ _).symm.trans H; with_reducible exact H2_) | with_reducible exact H | (rw [hy378]; exact H) | exact H
          have Ny378 := Aside0.mk hy378
          clear hy378
          have H' := Aside0.mk H
          clear H
          have hcz43_0 : wc.cell? ⟨gb360, 0, none⟩ = some (.int .i64 a0_0) := (blk_cell BK360.out 0).trans rfl
          have hcz43_1 : wc.cell? ⟨gb360, 1, none⟩ = some (.slice A0_1 l0_1.length c0_1) := (blk_cell BK360.out 1).trans rfl
          have hfz43_0 := blk_frozen BK360.out 0
          have hfz43_1 := blk_frozen BK360.out 1
          go_wp2_with (first | ((with_reducible refine gate_builtin (b := .append) (xs := #[.tmp 76, .tmp 77]) rfl ?_); at_builtin; refine Kd.R_append (Kd.int .i64) (w0 := w) w.heap.size rfl (.tmp 76) (.tmp 77) 36 3 (.int .i64 0) 8 rfl Try.underlying36 info3 rfl (by decide) (by omega) v373 y372 0 [.int .i64 0] (fun _ => True) (fun _ => False) rfl rfl ?aP (fun _ hk => hk.elim) ?aF ?aO ?aB ?aS ?aL ?_; (case aP => exact rfl); (case aB => exact (by repeat (first | (with_reducible first | exact HB.out | apply below_alloc | apply pw_below_drewN | apply below_drew1 | refine below_set ?_ GE360.out) | exact HB.out))); (case aF => exact (fun _ _ => trivial)); (case aO => exact (by (with_reducible repeat (first | apply Kd.R_alloc | apply Kd.R_drewN | apply Kd.R_drew)); exact HO_10.out)); (case aS => exact (below_size (by repeat (first | (with_reducible first | exact HB.out | apply below_alloc | apply pw_below_drewN | apply below_drew1 | refine below_set ?_ GE360.out) | exact HB.out)))); (case aL => have := LMc42.out; omega); intro v379 w44 ho hb hg hat; rw [← Ny378.out] at ho; have HO380 := Aside0.mk (ho); replace BK360 := Aside0.mk (blk_grown (g := gb360) (o := .cells #[.int .i64 a0_0, .slice A0_1 l0_1.length c0_1] 24 (0, 0)) (by (with_reducible repeat (first | refine blk_drewN ?_ _ | refine blk_drew ?_ | refine blk_alloc ?_ _)); exact BK360.out) hg (Kd.R_ne HO_10.out BK360.out (by decide))); replace HB := Aside0.mk (hb); clear HO_10; clear ho hb hg hat))
          go_meet
          case rel => exact ⟨_, (y378), H', ⟨by have := HK1.out; have := HJ28.out; first | omega | exact Nat.le_refl _⟩, ⟨by (with_reducible repeat (first | apply Kd.R_alloc | apply Kd.R_drewN | apply Kd.R_drew)); exact HO380.out⟩, ⟨by (with_reducible repeat (first | refine blk_drewN ?_ _ | refine blk_drew ?_ | refine blk_alloc ?_ _)); exact BK360.out⟩, ⟨by repeat (first | (with_reducible first | exact HB.out | apply below_alloc | apply pw_below_drewN | apply below_drew1 | refine below_set ?_ GE360.out) | exact HB.out)⟩⟩
        case rest =>
          clear HC36
          try clear c1
          try clear c2
          try clear p2
          try clear c3
          try clear c3b0
          try clear p3
          try clear q3
          try clear hx3
          try clear c4
          try clear c4b0
          try clear p6
          try clear c11
          try clear c15
          try clear c15b0
          try clear c16
          try clear c16b0
          try clear c17
          try clear c17b0
          try clear c20
          try clear c21
          try clear c24
          try clear c25
          try clear c28
          try clear c29
          try clear c33
          try clear c33b0
          try clear c33b1
          try clear p36
          try clear q36
          try clear hx36
          try clear c37
          try clear c38
          try clear c38b0
          try clear c38b1
          try clear c39
          try clear c41
          try clear c41b0
          try clear c41b1
          try clear c42
          try clear hcz12_0
          try clear hcz12_1
          try clear hcz21_0
          try clear hcz21_1
          try clear hcz26_0
          try clear hcz26_1
          try clear hcz27_0
          try clear hcz27_1
          try clear hcz30_0
          try clear hcz30_1
          try clear hcz34_0
          try clear hcz34_1
          try clear hcz35_0
          try clear hcz35_1
          try clear hcz43_0
          try clear hcz43_1
          try clear hcz45_0
          try clear hcz45_1
          try clear hcz8_0
          try clear hcz8_1
          try clear hfz12_0
          try clear hfz12_1
          try clear hfz21_0
          try clear hfz21_1
          try clear hfz26_0
          try clear hfz26_1
          try clear hfz27_0
          try clear hfz27_1
          try clear hfz30_0
          try clear hfz30_1
          try clear hfz34_0
          try clear hfz34_1
          try clear hfz35_0
          try clear hfz35_1
          try clear hfz43_0
          try clear hfz43_1
          try clear hfz45_0
          try clear hfz45_1
          try clear hfz8_0
          try clear hfz8_1
          try clear hx361_0
          try clear hx367_0
          try clear p2
          try clear p3
          try clear p361
          try clear p367
          try clear p6
          try clear q3
          try clear q361
          try clear q367
          obtain ⟨kq, x10_35, HA, HJ35, HO_10, BK360, HB⟩ := hcut
          cases kq with
          | zero => exact absurd HA.out (by simp [remouldref01_Factors.j3])
          | succ kj35 =>
            have H := HA.out
            clear HA
            simp only [remouldref01_Factors.j3] at H
            have H' := Aside0.mk H
            clear H
            go_wp2
            go_loopg [11, 12, 13] kj35 (fun kq v11 v12 v13 w' => ∃ (x11_4 : List Int) (x12_4 : Int) (x13_4 : Int), v12 = .int .i64 x12_4 ∧ v13 = .int .i64 x13_4 ∧ Aside0 (remouldref01_Factors.l2 kq x10_35 x11_4 x12_4 x13_4 = some (r1, r2)) ∧ Aside0 (kq ≤ kj35) ∧ Aside0 (Kd.R (Kd.int .i64) 3 w' w.heap.size (fun k_ => some k_ ≠ (v11 : Value).ownBlock) u10 x10_35) ∧ Aside0 (Kd.R (Kd.int .i64) 3 w' w.heap.size (fun k_ => some k_ ≠ (u10 : Value).ownBlock) v11 x11_4) ∧ Aside0 (w'.heap[gb360]? = some (.cells #[.int .i64 a0_0, (.slice A0_1 l0_1.length c0_1)] 24 (0, 0))) ∧ Aside0 (Below w.heap.size w w'))
            case atStart => exact ⟨(([] : List Int)), (0), (0), (by first | rfl | (simp; done) | (simp [*]; done)), (by first | rfl | (simp; done) | (simp [*]; done)), H', ⟨Nat.le_refl _⟩, ⟨by (with_reducible repeat (first | apply Kd.R_alloc | apply Kd.R_drewN | apply Kd.R_drew)); exact Kd.R_mono HO_10.out (fun _ hk => (by simp [Value.ownBlock]))⟩, ⟨by first | exact Kd.R_nil _ _ _ _ _ | exact Kd.N_nil _ _ _ _ _ | exact Kd.V_nil _ _ _ _ _ | exact Kd.Q_nil _ _ _ _ _ | exact Kd.S_nil _ _ _ _ _⟩, ⟨by (with_reducible repeat (first | refine blk_drewN ?_ _ | refine blk_drew ?_ | refine blk_alloc ?_ _)); exact BK360.out⟩, ⟨by repeat (first | (with_reducible first | exact HB.out | apply below_alloc | apply pw_below_drewN | apply below_drew1 | refine below_set ?_ GE360.out) | exact HB.out)⟩⟩
            clear H'
            try clear c1
            try clear c2
            try clear p2
            try clear c3
            try clear c3b0
            try clear p3
            try clear q3
            try clear hx3
            try clear c4
            try clear c4b0
            try clear p6
            try clear c11
            try clear c15
            try clear c15b0
            try clear c16
            try clear c16b0
            try clear c17
            try clear c17b0
            try clear c20
            try clear c21
            try clear c24
            try clear c25
            try clear c28
            try clear c29
            try clear c33
            try clear c33b0
            try clear c33b1
            try clear p36
            try clear q36
            try clear hx36
            try clear c37
            try clear c38
            try clear c38b0
            try clear c38b1
            try clear c39
            try clear c41
            try clear c41b0
            try clear c41b1
            try clear c42
            try clear hcz12_0
            try clear hcz12_1
            try clear hcz21_0
            try clear hcz21_1
            try clear hcz26_0
            try clear hcz26_1
            try clear hcz27_0
            try clear hcz27_1
            try clear hcz30_0
            try clear hcz30_1
            try clear hcz34_0
            try clear hcz34_1
            try clear hcz35_0
            try clear hcz35_1
            try clear hcz43_0
            try clear hcz43_1
            try clear hcz45_0
            try clear hcz45_1
            try clear hcz8_0
            try clear hcz8_1
            try clear hfz12_0
            try clear hfz12_1
            try clear hfz21_0
            try clear hfz21_1
            try clear hfz26_0
            try clear hfz26_1
            try clear hfz27_0
            try clear hfz27_1
            try clear hfz30_0
            try clear hfz30_1
            try clear hfz34_0
            try clear hfz34_1
            try clear hfz35_0
            try clear hfz35_1
            try clear hfz43_0
            try clear hfz43_1
            try clear hfz45_0
            try clear hfz45_1
            try clear hfz8_0
            try clear hfz8_1
            try clear hx361_0
            try clear hx367_0
            try clear p2
            try clear p3
            try clear p36
            try clear p361
            try clear p367
            try clear p6
            try clear q3
            try clear q36
            try clear q361
            try clear q367
            obtain ⟨x11_4, x12_4, x13_4, rfl, rfl, HA, HK4, HO_10, HO_11, BK360, HB⟩ := hrel
            cases gk with
            | zero => exact absurd HA.out (by simp [remouldref01_Factors.l2])
            | succ k4 =>
              have H := HA.out
              clear HA
              simp only [remouldref01_Factors.l2] at H
              by_cases c46 : x13_4 < (x10_35.length : Int)
              rotate_left
              · rw [if_neg c46] at H
                have c46b0 : decide (x13_4 < (x10_35.length : Int)) = false := decide_eq_false c46
                clear c46
                simp only [Option.some.injEq, Prod.mk.injEq] at H
                obtain ⟨rfl, rfl⟩ := H
                obtain ⟨Ao59, co59, eo59⟩ := Kd.R_slice HO_10.out
                subst eo59
                go_wp2
                go_ret2
                exact ⟨_, by first | rfl | (simp [errW_none, errW_some] <;> rfl) | (simp [*, errW_none, errW_some] <;> rfl), by (with_reducible repeat (first | apply Kd.R_alloc | apply Kd.R_drewN | apply Kd.R_drew)); exact Kd.R_mono HO_11.out (fun _ hk => trivial), by repeat (first | (with_reducible first | exact HB.out | apply below_alloc | apply pw_below_drewN | apply below_drew1 | refine below_set ?_ GE360.out) | exact HB.out)⟩
              rw [if_pos c46] at H
              have c46b0 : decide (x13_4 < (x10_35.length : Int)) = true := decide_eq_true c46
              clear c46
              by_cases c47 : 0 ≤ x13_4
              rotate_left
              · rw [if_neg c47] at H
                exact absurd H (by simp)
              rw [if_pos c47] at H
              have c47b0 : decide (0 ≤ x13_4) = true := decide_eq_true c47
              clear c47
              by_cases c48 : (rd x10_35 x13_4) = 0
              rotate_left
              · rw [if_neg c48] at H
                have c48b0 : ((rd x10_35 x13_4) == 0) = false := beq_eq_false_iff_ne.mpr c48
                have c48b1 : ((rd x10_35 x13_4) != 0) = true := bne_iff_ne.mpr c48
                by_cases c54 : (rd x10_35 x13_4) > 1
                rotate_left
                · rw [if_neg c54] at H
                  have c54b0 : decide (1 < (rd x10_35 x13_4)) = false := decide_eq_false c54
                  clear c54
                  have H' := Aside0.mk H
                  clear H
                  obtain ⟨Ao58, co58, eo58⟩ := Kd.R_slice HO_10.out
                  subst eo58
                  have p381 : 0 ≤ (x13_4 : Int) := of_decide_eq_true (by first | (with_reducible assumption) | assumption)
                  have q381 : x13_4 < (x10_35.length : Int) := of_decide_eq_true (by first | (with_reducible assumption) | assumption)
                  obtain ⟨ad381, e381, hx381_0⟩ := Kd.at_int (Kd.R_reads' HO_10.out).2.2 x13_4 p381 q381
                  cases e381
                  replace p381 := eq_true p381
                  replace q381 := eq_true q381
                  have p387 : 0 ≤ (x13_4 : Int) := of_decide_eq_true (by first | (with_reducible assumption) | assumption)
                  have q387 : x13_4 < (x10_35.length : Int) := of_decide_eq_true (by first | (with_reducible assumption) | assumption)
                  obtain ⟨ad387, e387, hx387_0⟩ := Kd.at_int (Kd.R_reads' HO_10.out).2.2 x13_4 p387 q387
                  obtain rfl : ad381 = ad387 := (by injection e387)
                  replace p387 := eq_true p387
                  replace q387 := eq_true q387
                  go_wp2
                  go_roundg k4
                  case measure => have := HK1.out; have := HJ28.out; have := HJ35.out; have := HK4.out; omega
                  case rel => exact ⟨(x11_4), (x12_4), (wrap64 (x13_4 + 1)), (by first | rfl | (simp; done) | (simp [*]; done)), (by first | rfl | (simp; done) | (simp [*]; done)), H', ⟨by have := HK1.out; have := HJ28.out; have := HJ35.out; have := HK4.out; omega⟩, ⟨by (with_reducible repeat (first | apply Kd.R_alloc | apply Kd.R_drewN | apply Kd.R_drew)); exact HO_10.out⟩, ⟨by (with_reducible repeat (first | apply Kd.R_alloc | apply Kd.R_drewN | apply Kd.R_drew)); exact HO_11.out⟩, ⟨by (with_reducible repeat (first | refine blk_drewN ?_ _ | refine blk_drew ?_ | refine blk_alloc ?_ _)); exact BK360.out⟩, ⟨by repeat (first | (with_reducible first | exact HB.out | apply below_alloc | apply pw_below_drewN | apply below_drew1 | refine below_set ?_ GE360.out) | exact HB.out)⟩⟩
                rw [if_pos c54] at H
                have c54b0 : decide (1 < (rd x10_35 x13_4)) = true := decide_eq_true c54
                clear c54
                by_cases c55 : x11_4.length < 17592186044416
                rotate_left
                · rw [if_neg c55] at H
                  exact absurd H (by simp)
                rw [if_pos c55] at H
                have LMc55 := Aside0.mk c55
                clear c55
                obtain ⟨y389, hy389⟩ : ∃ y_ : List Int, y_ = (x11_4 ++ [rd x10_35 x13_4]) := ⟨_, rfl⟩
                replace H : (remouldref01_Factors.l2 k4 x10_35 y389 x12_4 (wrap64 (x13_4 + 1))) = some (r1, r2) := by first | (rw [hy389]; with_reducible exact H) | (have H2_ := (Option.bind_some _ _).symm.trans H; rw [hy389]; with_reducible exact H2_) | (have H2_ := (Option.bind_some _ _).symm.trans H; with_reducible exact H2_) | with_reducible exact H | (rw [hy389]; exact H) | exact H
                have Ny389 := Aside0.mk hy389
                clear hy389
                have H' := Aside0.mk H
                clear H
                obtain ⟨Ao56, co56, eo56⟩ := Kd.R_slice HO_10.out
                subst eo56
                have p381 : 0 ≤ (x13_4 : Int) := of_decide_eq_true (by first | (with_reducible assumption) | assumption)
                have q381 : x13_4 < (x10_35.length : Int) := of_decide_eq_true (by first | (with_reducible assumption) | assumption)
                obtain ⟨ad381, e381, hx381_0⟩ := Kd.at_int (Kd.R_reads' HO_10.out).2.2 x13_4 p381 q381
                cases e381
                replace p381 := eq_true p381
                replace q381 := eq_true q381
                have p387 : 0 ≤ (x13_4 : Int) := of_decide_eq_true (by first | (with_reducible assumption) | assumption)
                have q387 : x13_4 < (x10_35.length : Int) := of_decide_eq_true (by first | (with_reducible assumption) | assumption)
                obtain ⟨ad387, e387, hx387_0⟩ := Kd.at_int (Kd.R_reads' HO_10.out).2.2 x13_4 p387 q387
                obtain rfl : ad381 = ad387 := (by injection e387)
                replace p387 := eq_true p387
                replace q387 := eq_true q387
                have p388 : 0 ≤ (x13_4 : Int) := of_decide_eq_true (by first | (with_reducible assumption) | assumption)
                have q388 : x13_4 < (x10_35.length : Int) := of_decide_eq_true (by first | (with_reducible assumption) | assumption)
                obtain ⟨ad388, e388, hx388_0⟩ := Kd.at_int (Kd.R_reads' HO_10.out).2.2 x13_4 p388 q388
                obtain rfl : ad381 = ad388 := (by injection e388)
                replace p388 := eq_true p388
                replace q388 := eq_true q388
                go_wp2_with (first | ((with_reducible refine gate_builtin (b := .append) (xs := #[.tmp 97, .tmp 102]) rfl ?_); at_builtin; refine Kd.R_append (Kd.int .i64) (w0 := w) w.heap.size rfl (.tmp 97) (.tmp 102) 36 3 (.int .i64 0) 8 rfl Try.underlying36 info3 rfl (by decide) (by omega) u11 x11_4 (rd x10_35 x13_4) [.int .i64 (rd x10_35 x13_4)] (fun k_ => some k_ ≠ (.slice (some ad381) x10_35.length co56 : Value).ownBlock) (fun _ => False) rfl rfl ?aP (fun _ hk => hk.elim) ?aF ?aO ?aB ?aS ?aL ?_; (case aP => exact rfl); (case aB => exact (by repeat (first | (with_reducible first | exact HB.out | apply below_alloc | apply pw_below_drewN | apply below_drew1 | refine below_set ?_ GE360.out) | exact HB.out))); (case aF => exact (fun k_ hk => Kd.fresh' (Kd.R_lt (by (with_reducible repeat (first | apply Kd.R_alloc | apply Kd.R_drewN | apply Kd.R_drew)); exact HO_10.out)) k_ hk)); (case aO => exact (by (with_reducible repeat (first | apply Kd.R_alloc | apply Kd.R_drewN | apply Kd.R_drew)); exact HO_11.out)); (case aS => exact (below_size (by repeat (first | (with_reducible first | exact HB.out | apply below_alloc | apply pw_below_drewN | apply below_drew1 | refine below_set ?_ GE360.out) | exact HB.out)))); (case aL => have := LMc55.out; omega); intro v390 w57 ho hb hg hat; rw [← Ny389.out] at ho; have HO391 := Aside0.mk (ho); replace HO_10 := Aside0.mk (Kd.R_after (ok := (fun _ => True)) (by (with_reducible repeat (first | apply Kd.R_alloc | apply Kd.R_drewN | apply Kd.R_drew)); exact Kd.R_mono HO_10.out (fun _ hk => ⟨trivial, hk⟩)) hg hat); replace BK360 := Aside0.mk (blk_grown (g := gb360) (o := .cells #[.int .i64 a0_0, .slice A0_1 l0_1.length c0_1] 24 (0, 0)) (by (with_reducible repeat (first | refine blk_drewN ?_ _ | refine blk_drew ?_ | refine blk_alloc ?_ _)); exact BK360.out) hg (Kd.R_ne HO_11.out BK360.out (by decide))); replace HB := Aside0.mk (hb); clear HO_11; clear ho hb hg hat))
                go_roundg k4
                case measure => have := HK1.out; have := HJ28.out; have := HJ35.out; have := HK4.out; omega
                case rel => exact ⟨(y389), (x12_4), (wrap64 (x13_4 + 1)), (by first | rfl | (simp; done) | (simp [*]; done)), (by first | rfl | (simp; done) | (simp [*]; done)), H', ⟨by have := HK1.out; have := HJ28.out; have := HJ35.out; have := HK4.out; omega⟩, ⟨by (with_reducible repeat (first | apply Kd.R_alloc | apply Kd.R_drewN | apply Kd.R_drew)); exact Kd.R_mono HO_10.out (fun _ hk => hk.2)⟩, ⟨by (with_reducible repeat (first | apply Kd.R_alloc | apply Kd.R_drewN | apply Kd.R_drew)); exact HO391.out⟩, ⟨by (with_reducible repeat (first | refine blk_drewN ?_ _ | refine blk_drew ?_ | refine blk_alloc ?_ _)); exact BK360.out⟩, ⟨by repeat (first | (with_reducible first | exact HB.out | apply below_alloc | apply pw_below_drewN | apply below_drew1 | refine below_set ?_ GE360.out) | exact HB.out)⟩⟩
              rw [if_pos c48] at H
              have c48b0 : ((rd x10_35 x13_4) == 0) = true := beq_iff_eq.mpr c48
              have c48b1 : ((rd x10_35 x13_4) != 0) = false := bne_eq_false_iff_eq.mpr c48
              clear c48
              by_cases c49 : (rd x10_35 x13_4) > 1
              rotate_left
              · rw [if_neg c49] at H
                have c49b0 : decide (1 < (rd x10_35 x13_4)) = false := decide_eq_false c49
                clear c49
                have H' := Aside0.mk H
                clear H
                obtain ⟨Ao53, co53, eo53⟩ := Kd.R_slice HO_10.out
                subst eo53
                have p381 : 0 ≤ (x13_4 : Int) := of_decide_eq_true (by first | (with_reducible assumption) | assumption)
                have q381 : x13_4 < (x10_35.length : Int) := of_decide_eq_true (by first | (with_reducible assumption) | assumption)
                obtain ⟨ad381, e381, hx381_0⟩ := Kd.at_int (Kd.R_reads' HO_10.out).2.2 x13_4 p381 q381
                cases e381
                replace p381 := eq_true p381
                replace q381 := eq_true q381
                have p382 : 0 ≤ (x13_4 : Int) := of_decide_eq_true (by first | (with_reducible assumption) | assumption)
                have q382 : x13_4 < (x10_35.length : Int) := of_decide_eq_true (by first | (with_reducible assumption) | assumption)
                obtain ⟨ad382, e382, hx382_0⟩ := Kd.at_int (Kd.R_reads' HO_10.out).2.2 x13_4 p382 q382
                obtain rfl : ad381 = ad382 := (by injection e382)
                replace p382 := eq_true p382
                replace q382 := eq_true q382
                go_wp2
                go_roundg k4
                case measure => have := HK1.out; have := HJ28.out; have := HJ35.out; have := HK4.out; omega
                case rel => exact ⟨(x11_4), (wrap64 (x12_4 + 1)), (wrap64 (x13_4 + 1)), (by first | rfl | (simp; done) | (simp [*]; done)), (by first | rfl | (simp; done) | (simp [*]; done)), H', ⟨by have := HK1.out; have := HJ28.out; have := HJ35.out; have := HK4.out; omega⟩, ⟨by (with_reducible repeat (first | apply Kd.R_alloc | apply Kd.R_drewN | apply Kd.R_drew)); exact HO_10.out⟩, ⟨by (with_reducible repeat (first | apply Kd.R_alloc | apply Kd.R_drewN | apply Kd.R_drew)); exact HO_11.out⟩, ⟨by (with_reducible repeat (first | refine blk_drewN ?_ _ | refine blk_drew ?_ | refine blk_alloc ?_ _)); exact BK360.out⟩, ⟨by repeat (first | (with_reducible first | exact HB.out | apply below_alloc | apply pw_below_drewN | apply below_drew1 | refine below_set ?_ GE360.out) | exact HB.out)⟩⟩
              rw [if_pos c49] at H
              have c49b0 : decide (1 < (rd x10_35 x13_4)) = true := decide_eq_true c49
              clear c49
              by_cases c50 : x11_4.length < 17592186044416
              rotate_left
              · rw [if_neg c50] at H
                exact absurd H (by simp)
              rw [if_pos c50] at H
              have LMc50 := Aside0.mk c50
              clear c50
              obtain ⟨y384, hy384⟩ : ∃ y_ : List Int, y_ = (x11_4 ++ [rd x10_35 x13_4]) := ⟨_, rfl⟩
              replace H : (remouldref01_Factors.l2 k4 x10_35 y384 (wrap64 (x12_4 + 1)) (wrap64 (x13_4 + 1))) = some (r1, r2) := by first | (rw [hy384]; with_reducible exact H) | (have H2_ := (Option.bind_some _ _).symm.trans H; rw [hy384]; with_reducible exact H2_) | (have H2_ := (Option.bind_some _ _).symm.trans H; with_reducible exact H2_) | with_reducible exact H | (rw [hy384]; exact H) | exact H
              have Ny384 := Aside0.mk hy384
              clear hy384
              have H' := Aside0.mk H
              clear H
              obtain ⟨Ao51, co51, eo51⟩ := Kd.R_slice HO_10.out
              subst eo51
              have p381 : 0 ≤ (x13_4 : Int) := of_decide_eq_true (by first | (with_reducible assumption) | assumption)
              have q381 : x13_4 < (x10_35.length : Int) := of_decide_eq_true (by first | (with_reducible assumption) | assumption)
              obtain ⟨ad381, e381, hx381_0⟩ := Kd.at_int (Kd.R_reads' HO_10.out).2.2 x13_4 p381 q381
              cases e381
              replace p381 := eq_true p381
              replace q381 := eq_true q381
              have p382 : 0 ≤ (x13_4 : Int) := of_decide_eq_true (by first | (with_reducible assumption) | assumption)
              have q382 : x13_4 < (x10_35.length : Int) := of_decide_eq_true (by first | (with_reducible assumption) | assumption)
              obtain ⟨ad382, e382, hx382_0⟩ := Kd.at_int (Kd.R_reads' HO_10.out).2.2 x13_4 p382 q382
              obtain rfl : ad381 = ad382 := (by injection e382)
              replace p382 := eq_true p382
              replace q382 := eq_true q382
              have p383 : 0 ≤ (x13_4 : Int) := of_decide_eq_true (by first | (with_reducible assumption) | assumption)
              have q383 : x13_4 < (x10_35.length : Int) := of_decide_eq_true (by first | (with_reducible assumption) | assumption)
              obtain ⟨ad383, e383, hx383_0⟩ := Kd.at_int (Kd.R_reads' HO_10.out).2.2 x13_4 p383 q383
              obtain rfl : ad381 = ad383 := (by injection e383)
              replace p383 := eq_true p383
              replace q383 := eq_true q383
              go_wp2_with (first | ((with_reducible refine gate_builtin (b := .append) (xs := #[.tmp 97, .tmp 102]) rfl ?_); at_builtin; refine Kd.R_append (Kd.int .i64) (w0 := w) w.heap.size rfl (.tmp 97) (.tmp 102) 36 3 (.int .i64 0) 8 rfl Try.underlying36 info3 rfl (by decide) (by omega) u11 x11_4 (rd x10_35 x13_4) [.int .i64 (rd x10_35 x13_4)] (fun k_ => some k_ ≠ (.slice (some ad381) x10_35.length co51 : Value).ownBlock) (fun _ => False) rfl rfl ?aP (fun _ hk => hk.elim) ?aF ?aO ?aB ?aS ?aL ?_; (case aP => exact rfl); (case aB => exact (by repeat (first | (with_reducible first | exact HB.out | apply below_alloc | apply pw_below_drewN | apply below_drew1 | refine below_set ?_ GE360.out) | exact HB.out))); (case aF => exact (fun k_ hk => Kd.fresh' (Kd.R_lt (by (with_reducible repeat (first | apply Kd.R_alloc | apply Kd.R_drewN | apply Kd.R_drew)); exact HO_10.out)) k_ hk)); (case aO => exact (by (with_reducible repeat (first | apply Kd.R_alloc | apply Kd.R_drewN | apply Kd.R_drew)); exact HO_11.out)); (case aS => exact (below_size (by repeat (first | (with_reducible first | exact HB.out | apply below_alloc | apply pw_below_drewN | apply below_drew1 | refine below_set ?_ GE360.out) | exact HB.out)))); (case aL => have := LMc50.out; omega); intro v385 w52 ho hb hg hat; rw [← Ny384.out] at ho; have HO386 := Aside0.mk (ho); replace HO_10 := Aside0.mk (Kd.R_after (ok := (fun _ => True)) (by (with_reducible repeat (first | apply Kd.R_alloc | apply Kd.R_drewN | apply Kd.R_drew)); exact Kd.R_mono HO_10.out (fun _ hk => ⟨trivial, hk⟩)) hg hat); replace BK360 := Aside0.mk (blk_grown (g := gb360) (o := .cells #[.int .i64 a0_0, .slice A0_1 l0_1.length c0_1] 24 (0, 0)) (by (with_reducible repeat (first | refine blk_drewN ?_ _ | refine blk_drew ?_ | refine blk_alloc ?_ _)); exact BK360.out) hg (Kd.R_ne HO_11.out BK360.out (by decide))); replace HB := Aside0.mk (hb); clear HO_11; clear ho hb hg hat))
              go_roundg k4
              case measure => have := HK1.out; have := HJ28.out; have := HJ35.out; have := HK4.out; omega
              case rel => exact ⟨(y384), (wrap64 (x12_4 + 1)), (wrap64 (x13_4 + 1)), (by first | rfl | (simp; done) | (simp [*]; done)), (by first | rfl | (simp; done) | (simp [*]; done)), H', ⟨by have := HK1.out; have := HJ28.out; have := HJ35.out; have := HK4.out; omega⟩, ⟨by (with_reducible repeat (first | apply Kd.R_alloc | apply Kd.R_drewN | apply Kd.R_drew)); exact Kd.R_mono HO_10.out (fun _ hk => hk.2)⟩, ⟨by (with_reducible repeat (first | apply Kd.R_alloc | apply Kd.R_drewN | apply Kd.R_drew)); exact HO386.out⟩, ⟨by (with_reducible repeat (first | refine blk_drewN ?_ _ | refine blk_drew ?_ | refine blk_alloc ?_ _)); exact BK360.out⟩, ⟨by repeat (first | (with_reducible first | exact HB.out | apply below_alloc | apply pw_below_drewN | apply below_drew1 | refine below_set ?_ GE360.out) | exact HB.out)⟩⟩
end Go.Proofs.Ytmcihijobilcgaa.PAll
end
section
namespace Go.Proofs.Ytmcihijobilcgaa.PAll
open Go.RowKit Go.Proofs.YtmcihijobilcgaaW.PrintWords Go.Proofs.YtmcihijobilcgaaW.PrintLast Go.Proofs.YtmcihijobilcgaaW.PrintMore
attribute [local go_sem] max2_int min2_int max_two min_two max_three min_three max_four min_four
def remouldlaw01_CasingFactors.f (k : Nat) (a0_0 : Int) (l0_1 : List ByteArray) : Option (Bool) := (remouldlaw01_group.f k a0_0 l0_1).bind fun bt393 => ((casing_Factors.f k bt393.1 bt393.2).bind fun bt398 => ((remouldref01_Group.f k bt393.1 bt393.2).bind fun t403 => (if t403 = true then ((remouldref01_Factors.f k bt393.1 bt393.2).bind fun bt404 => ((remouldlaw01_ints.f k bt398.1 bt404.1).bind fun t408 => (if t408 = true then (if bt398.2.1 = bt404.2 then (if bt398.2.2 = 0 then ((remouldlaw01_awake.f).bind fun t409 => (some t409)) else (some false)) else (some false)) else (some false)))) else (if (bt398.1.length : Int) = 0 then (if bt398.2.1 = 0 then (if bt398.2.2 = 2 then ((remouldlaw01_awake.f).bind fun t410 => (some t410)) else (some false)) else (some false)) else (some false)))))
set_option maxHeartbeats 8000000 in
set_option maxRecDepth 100000 in
theorem remouldlaw01_CasingFactors.calls (k : Nat) (a0_0 : Int) (A0_1 : Option Addr) (c0_1 : Nat) (l0_1 : List ByteArray) (r : Bool) (hrt : Aside0 (r = true)) (w : World) (hr0_1 : Kd.C Kd.string w A0_1 l0_1.length l0_1) (hc0_1 : l0_1.length ≤ c0_1) (h : remouldlaw01_CasingFactors.f k a0_0 l0_1 = some r) :
    Calls Try.prog 4 #[.agg #[.int .i64 a0_0, .slice A0_1 l0_1.length c0_1]] w fun e w' => e = .returned (.bool r) ∧ Below w.heap.size w w' := by
  have hu24 := Try.underlying24
  have HR0_1 := Aside0.mk hr0_1
  have HC0_1 := Aside0.mk hc0_1
  clear hr0_1 hc0_1
  have HB := Aside0.mk (Below.refl w.heap.size w)
  have H : ((remouldlaw01_group.f k a0_0 l0_1).bind fun bt393 => ((casing_Factors.f k bt393.1 bt393.2).bind fun bt398 => ((remouldref01_Group.f k bt393.1 bt393.2).bind fun t403 => (if t403 = true then ((remouldref01_Factors.f k bt393.1 bt393.2).bind fun bt404 => ((remouldlaw01_ints.f k bt398.1 bt404.1).bind fun t408 => (if t408 = true then (if bt398.2.1 = bt404.2 then (if bt398.2.2 = 0 then ((remouldlaw01_awake.f).bind fun t409 => (some t409)) else (some false)) else (some false)) else (some false)))) else (if (bt398.1.length : Int) = 0 then (if bt398.2.1 = 0 then (if bt398.2.2 = 2 then ((remouldlaw01_awake.f).bind fun t410 => (some t410)) else (some false)) else (some false)) else (some false)))))) = some r := h
  clear h
  replace H := Option.bind_eq_some_iff.mp H
  obtain ⟨⟨t393, t394⟩, A20, H⟩ := H
  replace H : ((casing_Factors.f k t393 t394).bind fun bt398 => ((remouldref01_Group.f k t393 t394).bind fun t403 => (if t403 = true then ((remouldref01_Factors.f k t393 t394).bind fun bt404 => ((remouldlaw01_ints.f k bt398.1 bt404.1).bind fun t408 => (if t408 = true then (if bt398.2.1 = bt404.2 then (if bt398.2.2 = 0 then ((remouldlaw01_awake.f).bind fun t409 => (some t409)) else (some false)) else (some false)) else (some false)))) else (if (bt398.1.length : Int) = 0 then (if bt398.2.1 = 0 then (if bt398.2.2 = 2 then ((remouldlaw01_awake.f).bind fun t410 => (some t410)) else (some false)) else (some false)) else (some false))))) = some r := H
  have A2 := Aside0.mk A20
  clear A20
  replace H := Option.bind_eq_some_iff.mp H
  obtain ⟨⟨t398, t401, t402⟩, A30, H⟩ := H
  replace H : ((remouldref01_Group.f k t393 t394).bind fun t403 => (if t403 = true then ((remouldref01_Factors.f k t393 t394).bind fun bt404 => ((remouldlaw01_ints.f k t398 bt404.1).bind fun t408 => (if t408 = true then (if t401 = bt404.2 then (if t402 = 0 then ((remouldlaw01_awake.f).bind fun t409 => (some t409)) else (some false)) else (some false)) else (some false)))) else (if (t398.length : Int) = 0 then (if t401 = 0 then (if t402 = 2 then ((remouldlaw01_awake.f).bind fun t410 => (some t410)) else (some false)) else (some false)) else (some false)))) = some r := H
  have A3 := Aside0.mk A30
  clear A30
  replace H := Option.bind_eq_some_iff.mp H
  obtain ⟨t403, A40, H⟩ := H
  replace H : (if t403 = true then ((remouldref01_Factors.f k t393 t394).bind fun bt404 => ((remouldlaw01_ints.f k t398 bt404.1).bind fun t408 => (if t408 = true then (if t401 = bt404.2 then (if t402 = 0 then ((remouldlaw01_awake.f).bind fun t409 => (some t409)) else (some false)) else (some false)) else (some false)))) else (if (t398.length : Int) = 0 then (if t401 = 0 then (if t402 = 2 then ((remouldlaw01_awake.f).bind fun t410 => (some t410)) else (some false)) else (some false)) else (some false))) = some r := H
  have A4 := Aside0.mk A40
  clear A40
  by_cases c5 : t403 = true
  rotate_left
  · replace c5 := Bool.eq_false_iff.mpr c5
    subst c5
    have H1 : (if (t398.length : Int) = 0 then (if t401 = 0 then (if t402 = 2 then ((remouldlaw01_awake.f).bind fun t410 => (some t410)) else (some false)) else (some false)) else (some false)) = some r := by rw [if_neg (show ¬ (false = true) by decide)] at H; exact H
    clear H
    have H := H1
    clear H1
    by_cases c69 : (t398.length : Int) = 0
    rotate_left
    · rw [if_neg c69] at H
      have c69b0 : ((t398.length : Int) == 0) = false := beq_eq_false_iff_ne.mpr c69
      have c69b1 : ((t398.length : Int) != 0) = true := bne_iff_ne.mpr c69
      have c69b2 : ¬ (t398 = []) := fun h_ => c69 (by rw [h_]; rfl)
      exact absurd ((Option.some.inj H).trans hrt.out) (by simp)
    rw [if_pos c69] at H
    have c69b0 : ((t398.length : Int) == 0) = true := beq_iff_eq.mpr c69
    have c69b1 : ((t398.length : Int) != 0) = false := bne_eq_false_iff_eq.mpr c69
    clear c69
    by_cases c70 : t401 = 0
    rotate_left
    · rw [if_neg c70] at H
      have c70b0 : (t401 == 0) = false := beq_eq_false_iff_ne.mpr c70
      have c70b1 : (t401 != 0) = true := bne_iff_ne.mpr c70
      exact absurd ((Option.some.inj H).trans hrt.out) (by simp)
    rw [if_pos c70] at H
    have c70b0 : (t401 == 0) = true := beq_iff_eq.mpr c70
    have c70b1 : (t401 != 0) = false := bne_eq_false_iff_eq.mpr c70
    clear c70
    by_cases c71 : t402 = 2
    rotate_left
    · rw [if_neg c71] at H
      have c71b0 : (t402 == 2) = false := beq_eq_false_iff_ne.mpr c71
      have c71b1 : (t402 != 2) = true := bne_iff_ne.mpr c71
      exact absurd ((Option.some.inj H).trans hrt.out) (by simp)
    rw [if_pos c71] at H
    have c71b0 : (t402 == 2) = true := beq_iff_eq.mpr c71
    have c71b1 : (t402 != 2) = false := bne_eq_false_iff_eq.mpr c71
    clear c71
    replace H := Option.bind_eq_some_iff.mp H
    obtain ⟨t410, A720, H⟩ := H
    replace H : (some t410) = some r := H
    have A72 := Aside0.mk A720
    clear A720
    obtain rfl := Option.some.inj H
    go_enter Try.func4, Try.ntmps4
    go_wp2_with (first | ((with_reducible refine gate_dst (N := 1) rfl ?_); refine box_event ?hg (N := 1) ?hd (cs := #[.int .i64 a0_0, .slice A0_1 l0_1.length c0_1]) (t := 24) ?hr ?_; (case hd => rfl); (case hg => rfl); (case hr => first | (go_simp; done) | (go_simp; rfl)); intro gb392 hg w73 hbox hb; have BK392 := Aside0.mk (hbox); have GW392 := Aside0.mk ((by rw [hg]; exact (below_size (by repeat (first | (with_reducible first | exact HB.out | apply below_alloc | apply pw_below_drewN | apply below_drew1) | exact HB.out))) : w.heap.size ≤ gb392)); have GE392 := Aside0.mk ((by rw [hg]; exact (below_size (by repeat (first | (with_reducible first | exact HB.out | apply below_alloc | apply pw_below_drewN | apply below_drew1) | exact HB.out))) : w.heap.size ≤ gb392)); replace HB := Aside0.mk (below_step (by repeat (first | (with_reducible first | exact HB.out | apply below_alloc | apply pw_below_drewN | apply below_drew1) | exact HB.out)) hb); clear hb hbox hg; have hcz74_0 : w73.cell? ⟨gb392, 0, none⟩ = some (.int .i64 a0_0) := (blk_cell BK392.out 0).trans rfl; have hcz74_1 : w73.cell? ⟨gb392, 1, none⟩ = some (.slice A0_1 l0_1.length c0_1) := (blk_cell BK392.out 1).trans rfl; have hfz74_0 := blk_frozen BK392.out 0; have hfz74_1 := blk_frozen BK392.out 1) | ((with_reducible refine gate_callee (f := 14) rfl ?_); refine goesL_ (some 10) rfl rfl Try.func14 (by kernel_rfl) rfl #[.agg #[.int .i64 a0_0, .slice A0_1 l0_1.length c0_1]] rfl (by (try simp only [List.map_toArray, List.map_cons, List.map_nil]); first | done | rfl | (simp only [List.length_drop, List.length_take]; rfl)) ?_; (with_reducible refine (remouldlaw01_group.calls k a0_0 _ _ l0_1 t393 t394 _ ?side1 ?side2 A2.out).mono ?_); (case side1 => repeat (first | exact (Kd.C_below HR0_1.out HB.out) | (with_reducible refine Kd.C_alloc ?_ _) | (with_reducible refine Kd.C_drewN ?_ _) | (with_reducible refine Kd.C_drew ?_))); (case side2 => exact HC0_1.out); rintro e w75 ⟨v395, rfl, ho0, hb⟩; refine ⟨_, rfl, ?_⟩; have HO396 := Aside0.mk (Kd.R_lower ho0 (below_size (by repeat (first | (with_reducible first | exact HB.out | apply below_alloc | apply pw_below_drewN | apply below_drew1 | refine below_set ?_ GE392.out) | exact HB.out)))); replace BK392 := Aside0.mk (blk_below (g := gb392) (o := .cells #[.int .i64 a0_0, .slice A0_1 l0_1.length c0_1] 24 (0, 0)) (by (with_reducible repeat (first | refine blk_drewN ?_ _ | refine blk_drew ?_ | refine blk_alloc ?_ _)); exact BK392.out) hb); replace HB := Aside0.mk (below_step (by repeat (first | (with_reducible first | exact HB.out | apply below_alloc | apply pw_below_drewN | apply below_drew1 | refine below_set ?_ GE392.out) | exact HB.out)) hb); (try clear hb); (try clear hb2); (try clear hk); (try clear hi); (try clear ho0)) | ((with_reducible refine gate_dst (N := 3) rfl ?_); refine box_event ?hg (N := 3) ?hd (cs := #[.int .i64 0, .slice none 0 0]) (t := 24) ?hr ?_; (case hd => rfl); (case hg => rfl); (case hr => first | (go_simp; done) | (go_simp; rfl)); intro gb397 hg w76 hbox hb; have BK397 := Aside0.mk (hbox); have GW397 := Aside0.mk ((by rw [hg]; exact (below_size (by repeat (first | (with_reducible first | exact HB.out | apply below_alloc | apply pw_below_drewN | apply below_drew1 | refine below_set ?_ GE392.out) | exact HB.out))) : w.heap.size ≤ gb397)); have GE397 := Aside0.mk ((by rw [hg]; exact (below_size (by repeat (first | (with_reducible first | exact HB.out | apply below_alloc | apply pw_below_drewN | apply below_drew1 | refine below_set ?_ GE392.out) | exact HB.out))) : w.heap.size ≤ gb397)); have NB392_397 := Aside0.mk ((by rw [hg]; exact Nat.ne_of_lt (blk_lt (g := gb392) (o := .cells #[.int .i64 a0_0, .slice A0_1 l0_1.length c0_1] 24 (0, 0)) (by (with_reducible repeat (first | refine blk_drewN ?_ _ | refine blk_drew ?_ | refine blk_alloc ?_ _)); exact BK392.out)) : gb392 ≠ gb397)); have NB397_392 := Aside0.mk ((by rw [hg]; exact Nat.ne_of_gt (blk_lt (g := gb392) (o := .cells #[.int .i64 a0_0, .slice A0_1 l0_1.length c0_1] 24 (0, 0)) (by (with_reducible repeat (first | refine blk_drewN ?_ _ | refine blk_drew ?_ | refine blk_alloc ?_ _)); exact BK392.out)) : gb397 ≠ gb392)); replace HO396 := Aside0.mk (Kd.R_below (by (with_reducible repeat (first | apply Kd.R_alloc | apply Kd.R_drewN | apply Kd.R_drew)); exact HO396.out) hb); replace BK392 := Aside0.mk (blk_below (g := gb392) (o := .cells #[.int .i64 a0_0, .slice A0_1 l0_1.length c0_1] 24 (0, 0)) (by (with_reducible repeat (first | refine blk_drewN ?_ _ | refine blk_drew ?_ | refine blk_alloc ?_ _)); exact BK392.out) hb); replace HB := Aside0.mk (below_step (by repeat (first | (with_reducible first | exact HB.out | apply below_alloc | apply pw_below_drewN | apply below_drew1 | refine below_set ?_ GE392.out) | exact HB.out)) hb); clear hb hbox hg; have hnb77 := NB397_392.out; have hnc77 := NB392_397.out; have hcz78_0 : w76.cell? ⟨gb397, 0, none⟩ = some (.int .i64 0) := (blk_cell BK397.out 0).trans rfl; have hcz78_1 : w76.cell? ⟨gb397, 1, none⟩ = some (.slice none 0 0) := (blk_cell BK397.out 1).trans rfl; have hfz78_0 := blk_frozen BK397.out 0; have hfz78_1 := blk_frozen BK397.out 1; obtain ⟨Ao79, co79, eo79⟩ := Kd.R_slice HO396.out; subst eo79) | ((with_reducible refine gate_callee (f := 20) rfl ?_); refine goesL_ (some 13) rfl rfl Try.func20 (by kernel_rfl) rfl #[.agg #[.int .i64 t393, .slice Ao79 t394.length co79]] rfl (by (try simp only [List.map_toArray, List.map_cons, List.map_nil]); first | done | rfl | (simp only [List.length_drop, List.length_take]; rfl)) ?_; (with_reducible refine (casing_Factors.calls k t393 _ _ t394 t398 t401 t402 _ ?side1 ?side2 A3.out).mono ?_); (case side1 => refine (Kd.R_reads' (e := 9) (base := w.heap.size) (ok := fun k_ => True) (n := t394.length) (c := co79) ?_).2.2; exact (by (with_reducible repeat (first | apply Kd.R_alloc | apply Kd.R_drewN | apply Kd.R_drew)); exact (Kd.R_mono (Kd.R_far (p := ⟨gb397, 1, none⟩) (Kd.R_far (p := ⟨gb397, 0, none⟩) (Kd.R_types HO396.out BK397.out (by decide)) (fun _ hk => hk.2) (.int .i64 t393)) (fun _ hk => hk.2) (.slice Ao79 t394.length co79)) (fun _ h_ => h_.1)))); (case side2 => exact (Kd.R_reads' HO396.out).2.1); rintro e w80 ⟨v399, rfl, ho0, hb⟩; refine ⟨_, rfl, ?_⟩; have HO400 := Aside0.mk (Kd.R_lower ho0 (below_size (by repeat (first | (with_reducible first | exact HB.out | apply below_alloc | apply pw_below_drewN | apply below_drew1 | refine below_set ?_ GE392.out | refine below_set ?_ GE397.out) | exact HB.out)))); replace HO396 := Aside0.mk (Kd.R_below (by (with_reducible repeat (first | apply Kd.R_alloc | apply Kd.R_drewN | apply Kd.R_drew)); exact (Kd.R_mono (Kd.R_far (p := ⟨gb397, 1, none⟩) (Kd.R_far (p := ⟨gb397, 0, none⟩) (Kd.R_types HO396.out BK397.out (by decide)) (fun _ hk => hk.2) (.int .i64 t393)) (fun _ hk => hk.2) (.slice Ao79 t394.length co79)) (fun _ h_ => h_.1))) hb); replace BK392 := Aside0.mk (blk_below (g := gb392) (o := .cells #[.int .i64 a0_0, .slice A0_1 l0_1.length c0_1] 24 (0, 0)) (by (with_reducible repeat (first | refine blk_drewN ?_ _ | refine blk_drew ?_ | refine blk_alloc ?_ _)); refine blk_far ?_ NB392_397.out _; (with_reducible repeat (first | refine blk_drewN ?_ _ | refine blk_drew ?_ | refine blk_alloc ?_ _)); refine blk_far ?_ NB392_397.out _; (with_reducible repeat (first | refine blk_drewN ?_ _ | refine blk_drew ?_ | refine blk_alloc ?_ _)); exact BK392.out) hb); replace BK397 := Aside0.mk (blk_below (g := gb397) (o := .cells #[.int .i64 t393, .slice Ao79 t394.length co79] 24 (0, 0)) (by (with_reducible repeat (first | refine blk_drewN ?_ _ | refine blk_drew ?_ | refine blk_alloc ?_ _)); refine blk_put (cs := #[.int .i64 t393, .slice none 0 0]) ?_ 1 _ rfl; (with_reducible repeat (first | refine blk_drewN ?_ _ | refine blk_drew ?_ | refine blk_alloc ?_ _)); refine blk_put (cs := #[.int .i64 0, .slice none 0 0]) ?_ 0 _ rfl; (with_reducible repeat (first | refine blk_drewN ?_ _ | refine blk_drew ?_ | refine blk_alloc ?_ _)); exact BK397.out) hb); replace HB := Aside0.mk (below_step (by repeat (first | (with_reducible first | exact HB.out | apply below_alloc | apply pw_below_drewN | apply below_drew1 | refine below_set ?_ GE392.out | refine below_set ?_ GE397.out) | exact HB.out)) hb); (try clear hb); (try clear hb2); (try clear hk); (try clear hi); (try clear ho0); have hcz81_0 : w80.cell? ⟨gb397, 0, none⟩ = some (.int .i64 t393) := (blk_cell BK397.out 0).trans rfl; have hcz81_1 : w80.cell? ⟨gb397, 1, none⟩ = some (.slice Ao79 t394.length co79) := (blk_cell BK397.out 1).trans rfl; have hfz81_0 := blk_frozen BK397.out 0; have hfz81_1 := blk_frozen BK397.out 1) | ((with_reducible refine gate_callee (f := 16) rfl ?_); refine goesL_ (some 18) rfl rfl Try.func16 (by kernel_rfl) rfl #[.agg #[.int .i64 t393, .slice Ao79 t394.length co79]] rfl (by (try simp only [List.map_toArray, List.map_cons, List.map_nil]); first | done | rfl | (simp only [List.length_drop, List.length_take]; rfl)) ?_; (with_reducible refine (remouldref01_Group.calls k t393 _ _ t394 false _ ?side1 ?side2 A4.out).mono ?_); (case side1 => repeat (first | exact (Kd.R_reads' HO396.out).2.2 | (with_reducible refine Kd.C_alloc ?_ _) | (with_reducible refine Kd.C_drewN ?_ _) | (with_reducible refine Kd.C_drew ?_))); (case side2 => exact (Kd.R_reads' HO396.out).2.1); rintro e w82 ⟨rfl, hb⟩; refine ⟨_, rfl, ?_⟩; replace HO396 := Aside0.mk (Kd.R_below (by (with_reducible repeat (first | apply Kd.R_alloc | apply Kd.R_drewN | apply Kd.R_drew)); exact HO396.out) hb); replace HO400 := Aside0.mk (Kd.R_below (by (with_reducible repeat (first | apply Kd.R_alloc | apply Kd.R_drewN | apply Kd.R_drew)); exact HO400.out) hb); replace BK392 := Aside0.mk (blk_below (g := gb392) (o := .cells #[.int .i64 a0_0, .slice A0_1 l0_1.length c0_1] 24 (0, 0)) (by (with_reducible repeat (first | refine blk_drewN ?_ _ | refine blk_drew ?_ | refine blk_alloc ?_ _)); exact BK392.out) hb); replace BK397 := Aside0.mk (blk_below (g := gb397) (o := .cells #[.int .i64 t393, .slice Ao79 t394.length co79] 24 (0, 0)) (by (with_reducible repeat (first | refine blk_drewN ?_ _ | refine blk_drew ?_ | refine blk_alloc ?_ _)); exact BK397.out) hb); replace HB := Aside0.mk (below_step (by repeat (first | (with_reducible first | exact HB.out | apply below_alloc | apply pw_below_drewN | apply below_drew1 | refine below_set ?_ GE392.out | refine below_set ?_ GE397.out) | exact HB.out)) hb); (try clear hb); (try clear hb2); (try clear hk); (try clear hi); obtain ⟨Ao83, co83, eo83⟩ := Kd.R_slice HO400.out; subst eo83) | (go_at_call 17; (with_reducible refine (remouldlaw01_awake.calls  t410 _ A72.out).mono ?_); rintro e w84 ⟨rfl, hb⟩; replace HO396 := Aside0.mk (Kd.R_below (by (with_reducible repeat (first | apply Kd.R_alloc | apply Kd.R_drewN | apply Kd.R_drew)); exact HO396.out) hb); replace HO400 := Aside0.mk (Kd.R_below (by (with_reducible repeat (first | apply Kd.R_alloc | apply Kd.R_drewN | apply Kd.R_drew)); exact HO400.out) hb); replace BK392 := Aside0.mk (blk_below (g := gb392) (o := .cells #[.int .i64 a0_0, .slice A0_1 l0_1.length c0_1] 24 (0, 0)) (by (with_reducible repeat (first | refine blk_drewN ?_ _ | refine blk_drew ?_ | refine blk_alloc ?_ _)); exact BK392.out) hb); replace BK397 := Aside0.mk (blk_below (g := gb397) (o := .cells #[.int .i64 t393, .slice Ao79 t394.length co79] 24 (0, 0)) (by (with_reducible repeat (first | refine blk_drewN ?_ _ | refine blk_drew ?_ | refine blk_alloc ?_ _)); exact BK397.out) hb); replace HB := Aside0.mk (below_step (by repeat (first | (with_reducible first | exact HB.out | apply below_alloc | apply pw_below_drewN | apply below_drew1 | refine below_set ?_ GE392.out | refine below_set ?_ GE397.out) | exact HB.out)) hb); (try clear hb); (try clear hb2); (try clear hk); (try clear hi)))
    go_ret
    exact ⟨by first | rfl | (simp [errW_none, errW_some] <;> rfl) | (simp [*, errW_none, errW_some] <;> rfl), by repeat (first | (with_reducible first | exact HB.out | apply below_alloc | apply pw_below_drewN | apply below_drew1 | refine below_set ?_ GE392.out | refine below_set ?_ GE397.out) | exact HB.out)⟩
  subst c5
  have H1 : ((remouldref01_Factors.f k t393 t394).bind fun bt404 => ((remouldlaw01_ints.f k t398 bt404.1).bind fun t408 => (if t408 = true then (if t401 = bt404.2 then (if t402 = 0 then ((remouldlaw01_awake.f).bind fun t409 => (some t409)) else (some false)) else (some false)) else (some false)))) = some r := by rw [if_pos rfl] at H; exact H
  clear H
  have H := H1
  clear H1
  replace H := Option.bind_eq_some_iff.mp H
  obtain ⟨⟨t404, t407⟩, A60, H⟩ := H
  replace H : ((remouldlaw01_ints.f k t398 t404).bind fun t408 => (if t408 = true then (if t401 = t407 then (if t402 = 0 then ((remouldlaw01_awake.f).bind fun t409 => (some t409)) else (some false)) else (some false)) else (some false))) = some r := H
  have A6 := Aside0.mk A60
  clear A60
  replace H := Option.bind_eq_some_iff.mp H
  obtain ⟨t408, A70, H⟩ := H
  replace H : (if t408 = true then (if t401 = t407 then (if t402 = 0 then ((remouldlaw01_awake.f).bind fun t409 => (some t409)) else (some false)) else (some false)) else (some false)) = some r := H
  have A7 := Aside0.mk A70
  clear A70
  by_cases c8 : t408 = true
  rotate_left
  · replace c8 := Bool.eq_false_iff.mpr c8
    subst c8
    have H1 : (some false) = some r := by rw [if_neg (show ¬ (false = true) by decide)] at H; exact H
    clear H
    have H := H1
    clear H1
    exact absurd ((Option.some.inj H).trans hrt.out) (by simp)
  subst c8
  have H1 : (if t401 = t407 then (if t402 = 0 then ((remouldlaw01_awake.f).bind fun t409 => (some t409)) else (some false)) else (some false)) = some r := by rw [if_pos rfl] at H; exact H
  clear H
  have H := H1
  clear H1
  by_cases c9 : t401 = t407
  rotate_left
  · rw [if_neg c9] at H
    have c9b0 : (t401 == t407) = false := beq_eq_false_iff_ne.mpr c9
    have c9b1 : (t401 != t407) = true := bne_iff_ne.mpr c9
    exact absurd ((Option.some.inj H).trans hrt.out) (by simp)
  rw [if_pos c9] at H
  have c9b0 : (t401 == t407) = true := beq_iff_eq.mpr c9
  have c9b1 : (t401 != t407) = false := bne_eq_false_iff_eq.mpr c9
  clear c9
  by_cases c10 : t402 = 0
  rotate_left
  · rw [if_neg c10] at H
    have c10b0 : (t402 == 0) = false := beq_eq_false_iff_ne.mpr c10
    have c10b1 : (t402 != 0) = true := bne_iff_ne.mpr c10
    exact absurd ((Option.some.inj H).trans hrt.out) (by simp)
  rw [if_pos c10] at H
  have c10b0 : (t402 == 0) = true := beq_iff_eq.mpr c10
  have c10b1 : (t402 != 0) = false := bne_eq_false_iff_eq.mpr c10
  clear c10
  replace H := Option.bind_eq_some_iff.mp H
  obtain ⟨t409, A110, H⟩ := H
  replace H : (some t409) = some r := H
  have A11 := Aside0.mk A110
  clear A110
  obtain rfl := Option.some.inj H
  go_enter Try.func4, Try.ntmps4
  go_wp2_with (first | ((with_reducible refine gate_dst (N := 1) rfl ?_); refine box_event ?hg (N := 1) ?hd (cs := #[.int .i64 a0_0, .slice A0_1 l0_1.length c0_1]) (t := 24) ?hr ?_; (case hd => rfl); (case hg => rfl); (case hr => first | (go_simp; done) | (go_simp; rfl)); intro gb392 hg w12 hbox hb; have BK392 := Aside0.mk (hbox); have GW392 := Aside0.mk ((by rw [hg]; exact (below_size (by repeat (first | (with_reducible first | exact HB.out | apply below_alloc | apply pw_below_drewN | apply below_drew1) | exact HB.out))) : w.heap.size ≤ gb392)); have GE392 := Aside0.mk ((by rw [hg]; exact (below_size (by repeat (first | (with_reducible first | exact HB.out | apply below_alloc | apply pw_below_drewN | apply below_drew1) | exact HB.out))) : w.heap.size ≤ gb392)); replace HB := Aside0.mk (below_step (by repeat (first | (with_reducible first | exact HB.out | apply below_alloc | apply pw_below_drewN | apply below_drew1) | exact HB.out)) hb); clear hb hbox hg; have hcz13_0 : w12.cell? ⟨gb392, 0, none⟩ = some (.int .i64 a0_0) := (blk_cell BK392.out 0).trans rfl; have hcz13_1 : w12.cell? ⟨gb392, 1, none⟩ = some (.slice A0_1 l0_1.length c0_1) := (blk_cell BK392.out 1).trans rfl; have hfz13_0 := blk_frozen BK392.out 0; have hfz13_1 := blk_frozen BK392.out 1) | ((with_reducible refine gate_callee (f := 14) rfl ?_); refine goesL_ (some 10) rfl rfl Try.func14 (by kernel_rfl) rfl #[.agg #[.int .i64 a0_0, .slice A0_1 l0_1.length c0_1]] rfl (by (try simp only [List.map_toArray, List.map_cons, List.map_nil]); first | done | rfl | (simp only [List.length_drop, List.length_take]; rfl)) ?_; (with_reducible refine (remouldlaw01_group.calls k a0_0 _ _ l0_1 t393 t394 _ ?side1 ?side2 A2.out).mono ?_); (case side1 => repeat (first | exact (Kd.C_below HR0_1.out HB.out) | (with_reducible refine Kd.C_alloc ?_ _) | (with_reducible refine Kd.C_drewN ?_ _) | (with_reducible refine Kd.C_drew ?_))); (case side2 => exact HC0_1.out); rintro e w14 ⟨v395, rfl, ho0, hb⟩; refine ⟨_, rfl, ?_⟩; have HO396 := Aside0.mk (Kd.R_lower ho0 (below_size (by repeat (first | (with_reducible first | exact HB.out | apply below_alloc | apply pw_below_drewN | apply below_drew1 | refine below_set ?_ GE392.out) | exact HB.out)))); replace BK392 := Aside0.mk (blk_below (g := gb392) (o := .cells #[.int .i64 a0_0, .slice A0_1 l0_1.length c0_1] 24 (0, 0)) (by (with_reducible repeat (first | refine blk_drewN ?_ _ | refine blk_drew ?_ | refine blk_alloc ?_ _)); exact BK392.out) hb); replace HB := Aside0.mk (below_step (by repeat (first | (with_reducible first | exact HB.out | apply below_alloc | apply pw_below_drewN | apply below_drew1 | refine below_set ?_ GE392.out) | exact HB.out)) hb); (try clear hb); (try clear hb2); (try clear hk); (try clear hi); (try clear ho0)) | ((with_reducible refine gate_dst (N := 3) rfl ?_); refine box_event ?hg (N := 3) ?hd (cs := #[.int .i64 0, .slice none 0 0]) (t := 24) ?hr ?_; (case hd => rfl); (case hg => rfl); (case hr => first | (go_simp; done) | (go_simp; rfl)); intro gb397 hg w15 hbox hb; have BK397 := Aside0.mk (hbox); have GW397 := Aside0.mk ((by rw [hg]; exact (below_size (by repeat (first | (with_reducible first | exact HB.out | apply below_alloc | apply pw_below_drewN | apply below_drew1 | refine below_set ?_ GE392.out) | exact HB.out))) : w.heap.size ≤ gb397)); have GE397 := Aside0.mk ((by rw [hg]; exact (below_size (by repeat (first | (with_reducible first | exact HB.out | apply below_alloc | apply pw_below_drewN | apply below_drew1 | refine below_set ?_ GE392.out) | exact HB.out))) : w.heap.size ≤ gb397)); have NB392_397 := Aside0.mk ((by rw [hg]; exact Nat.ne_of_lt (blk_lt (g := gb392) (o := .cells #[.int .i64 a0_0, .slice A0_1 l0_1.length c0_1] 24 (0, 0)) (by (with_reducible repeat (first | refine blk_drewN ?_ _ | refine blk_drew ?_ | refine blk_alloc ?_ _)); exact BK392.out)) : gb392 ≠ gb397)); have NB397_392 := Aside0.mk ((by rw [hg]; exact Nat.ne_of_gt (blk_lt (g := gb392) (o := .cells #[.int .i64 a0_0, .slice A0_1 l0_1.length c0_1] 24 (0, 0)) (by (with_reducible repeat (first | refine blk_drewN ?_ _ | refine blk_drew ?_ | refine blk_alloc ?_ _)); exact BK392.out)) : gb397 ≠ gb392)); replace HO396 := Aside0.mk (Kd.R_below (by (with_reducible repeat (first | apply Kd.R_alloc | apply Kd.R_drewN | apply Kd.R_drew)); exact HO396.out) hb); replace BK392 := Aside0.mk (blk_below (g := gb392) (o := .cells #[.int .i64 a0_0, .slice A0_1 l0_1.length c0_1] 24 (0, 0)) (by (with_reducible repeat (first | refine blk_drewN ?_ _ | refine blk_drew ?_ | refine blk_alloc ?_ _)); exact BK392.out) hb); replace HB := Aside0.mk (below_step (by repeat (first | (with_reducible first | exact HB.out | apply below_alloc | apply pw_below_drewN | apply below_drew1 | refine below_set ?_ GE392.out) | exact HB.out)) hb); clear hb hbox hg; have hnb16 := NB397_392.out; have hnc16 := NB392_397.out; have hcz17_0 : w15.cell? ⟨gb397, 0, none⟩ = some (.int .i64 0) := (blk_cell BK397.out 0).trans rfl; have hcz17_1 : w15.cell? ⟨gb397, 1, none⟩ = some (.slice none 0 0) := (blk_cell BK397.out 1).trans rfl; have hfz17_0 := blk_frozen BK397.out 0; have hfz17_1 := blk_frozen BK397.out 1; obtain ⟨Ao18, co18, eo18⟩ := Kd.R_slice HO396.out; subst eo18) | ((with_reducible refine gate_callee (f := 20) rfl ?_); refine goesL_ (some 13) rfl rfl Try.func20 (by kernel_rfl) rfl #[.agg #[.int .i64 t393, .slice Ao18 t394.length co18]] rfl (by (try simp only [List.map_toArray, List.map_cons, List.map_nil]); first | done | rfl | (simp only [List.length_drop, List.length_take]; rfl)) ?_; (with_reducible refine (casing_Factors.calls k t393 _ _ t394 t398 t401 t402 _ ?side1 ?side2 A3.out).mono ?_); (case side1 => refine (Kd.R_reads' (e := 9) (base := w.heap.size) (ok := fun k_ => True) (n := t394.length) (c := co18) ?_).2.2; exact (by (with_reducible repeat (first | apply Kd.R_alloc | apply Kd.R_drewN | apply Kd.R_drew)); exact (Kd.R_mono (Kd.R_far (p := ⟨gb397, 1, none⟩) (Kd.R_far (p := ⟨gb397, 0, none⟩) (Kd.R_types HO396.out BK397.out (by decide)) (fun _ hk => hk.2) (.int .i64 t393)) (fun _ hk => hk.2) (.slice Ao18 t394.length co18)) (fun _ h_ => h_.1)))); (case side2 => exact (Kd.R_reads' HO396.out).2.1); rintro e w19 ⟨v399, rfl, ho0, hb⟩; refine ⟨_, rfl, ?_⟩; have HO400 := Aside0.mk (Kd.R_lower ho0 (below_size (by repeat (first | (with_reducible first | exact HB.out | apply below_alloc | apply pw_below_drewN | apply below_drew1 | refine below_set ?_ GE392.out | refine below_set ?_ GE397.out) | exact HB.out)))); replace HO396 := Aside0.mk (Kd.R_below (by (with_reducible repeat (first | apply Kd.R_alloc | apply Kd.R_drewN | apply Kd.R_drew)); exact (Kd.R_mono (Kd.R_far (p := ⟨gb397, 1, none⟩) (Kd.R_far (p := ⟨gb397, 0, none⟩) (Kd.R_types HO396.out BK397.out (by decide)) (fun _ hk => hk.2) (.int .i64 t393)) (fun _ hk => hk.2) (.slice Ao18 t394.length co18)) (fun _ h_ => h_.1))) hb); replace BK392 := Aside0.mk (blk_below (g := gb392) (o := .cells #[.int .i64 a0_0, .slice A0_1 l0_1.length c0_1] 24 (0, 0)) (by (with_reducible repeat (first | refine blk_drewN ?_ _ | refine blk_drew ?_ | refine blk_alloc ?_ _)); refine blk_far ?_ NB392_397.out _; (with_reducible repeat (first | refine blk_drewN ?_ _ | refine blk_drew ?_ | refine blk_alloc ?_ _)); refine blk_far ?_ NB392_397.out _; (with_reducible repeat (first | refine blk_drewN ?_ _ | refine blk_drew ?_ | refine blk_alloc ?_ _)); exact BK392.out) hb); replace BK397 := Aside0.mk (blk_below (g := gb397) (o := .cells #[.int .i64 t393, .slice Ao18 t394.length co18] 24 (0, 0)) (by (with_reducible repeat (first | refine blk_drewN ?_ _ | refine blk_drew ?_ | refine blk_alloc ?_ _)); refine blk_put (cs := #[.int .i64 t393, .slice none 0 0]) ?_ 1 _ rfl; (with_reducible repeat (first | refine blk_drewN ?_ _ | refine blk_drew ?_ | refine blk_alloc ?_ _)); refine blk_put (cs := #[.int .i64 0, .slice none 0 0]) ?_ 0 _ rfl; (with_reducible repeat (first | refine blk_drewN ?_ _ | refine blk_drew ?_ | refine blk_alloc ?_ _)); exact BK397.out) hb); replace HB := Aside0.mk (below_step (by repeat (first | (with_reducible first | exact HB.out | apply below_alloc | apply pw_below_drewN | apply below_drew1 | refine below_set ?_ GE392.out | refine below_set ?_ GE397.out) | exact HB.out)) hb); (try clear hb); (try clear hb2); (try clear hk); (try clear hi); (try clear ho0); have hcz20_0 : w19.cell? ⟨gb397, 0, none⟩ = some (.int .i64 t393) := (blk_cell BK397.out 0).trans rfl; have hcz20_1 : w19.cell? ⟨gb397, 1, none⟩ = some (.slice Ao18 t394.length co18) := (blk_cell BK397.out 1).trans rfl; have hfz20_0 := blk_frozen BK397.out 0; have hfz20_1 := blk_frozen BK397.out 1) | ((with_reducible refine gate_callee (f := 16) rfl ?_); refine goesL_ (some 18) rfl rfl Try.func16 (by kernel_rfl) rfl #[.agg #[.int .i64 t393, .slice Ao18 t394.length co18]] rfl (by (try simp only [List.map_toArray, List.map_cons, List.map_nil]); first | done | rfl | (simp only [List.length_drop, List.length_take]; rfl)) ?_; (with_reducible refine (remouldref01_Group.calls k t393 _ _ t394 true _ ?side1 ?side2 A4.out).mono ?_); (case side1 => repeat (first | exact (Kd.R_reads' HO396.out).2.2 | (with_reducible refine Kd.C_alloc ?_ _) | (with_reducible refine Kd.C_drewN ?_ _) | (with_reducible refine Kd.C_drew ?_))); (case side2 => exact (Kd.R_reads' HO396.out).2.1); rintro e w21 ⟨rfl, hb⟩; refine ⟨_, rfl, ?_⟩; replace HO396 := Aside0.mk (Kd.R_below (by (with_reducible repeat (first | apply Kd.R_alloc | apply Kd.R_drewN | apply Kd.R_drew)); exact HO396.out) hb); replace HO400 := Aside0.mk (Kd.R_below (by (with_reducible repeat (first | apply Kd.R_alloc | apply Kd.R_drewN | apply Kd.R_drew)); exact HO400.out) hb); replace BK392 := Aside0.mk (blk_below (g := gb392) (o := .cells #[.int .i64 a0_0, .slice A0_1 l0_1.length c0_1] 24 (0, 0)) (by (with_reducible repeat (first | refine blk_drewN ?_ _ | refine blk_drew ?_ | refine blk_alloc ?_ _)); exact BK392.out) hb); replace BK397 := Aside0.mk (blk_below (g := gb397) (o := .cells #[.int .i64 t393, .slice Ao18 t394.length co18] 24 (0, 0)) (by (with_reducible repeat (first | refine blk_drewN ?_ _ | refine blk_drew ?_ | refine blk_alloc ?_ _)); exact BK397.out) hb); replace HB := Aside0.mk (below_step (by repeat (first | (with_reducible first | exact HB.out | apply below_alloc | apply pw_below_drewN | apply below_drew1 | refine below_set ?_ GE392.out | refine below_set ?_ GE397.out) | exact HB.out)) hb); (try clear hb); (try clear hb2); (try clear hk); (try clear hi); have hcz22_0 : w21.cell? ⟨gb397, 0, none⟩ = some (.int .i64 t393) := (blk_cell BK397.out 0).trans rfl; have hcz22_1 : w21.cell? ⟨gb397, 1, none⟩ = some (.slice Ao18 t394.length co18) := (blk_cell BK397.out 1).trans rfl; have hfz22_0 := blk_frozen BK397.out 0; have hfz22_1 := blk_frozen BK397.out 1) | ((with_reducible refine gate_callee (f := 21) rfl ?_); refine goesL_ (some 36) rfl rfl Try.func21 (by kernel_rfl) rfl #[.agg #[.int .i64 t393, .slice Ao18 t394.length co18]] rfl (by (try simp only [List.map_toArray, List.map_cons, List.map_nil]); first | done | rfl | (simp only [List.length_drop, List.length_take]; rfl)) ?_; (with_reducible refine (remouldref01_Factors.calls k t393 _ _ t394 t404 t407 _ ?side1 ?side2 A6.out).mono ?_); (case side1 => repeat (first | exact (Kd.R_reads' HO396.out).2.2 | (with_reducible refine Kd.C_alloc ?_ _) | (with_reducible refine Kd.C_drewN ?_ _) | (with_reducible refine Kd.C_drew ?_))); (case side2 => exact (Kd.R_reads' HO396.out).2.1); rintro e w23 ⟨v405, rfl, ho0, hb⟩; refine ⟨_, rfl, ?_⟩; have HO406 := Aside0.mk (Kd.R_lower (Kd.R_new' ho0 (Kd.R_lt (by (with_reducible repeat (first | apply Kd.R_alloc | apply Kd.R_drewN | apply Kd.R_drew)); exact HO400.out))) (below_size (by repeat (first | (with_reducible first | exact HB.out | apply below_alloc | apply pw_below_drewN | apply below_drew1 | refine below_set ?_ GE392.out | refine below_set ?_ GE397.out) | exact HB.out)))); replace HO396 := Aside0.mk (Kd.R_below (by (with_reducible repeat (first | apply Kd.R_alloc | apply Kd.R_drewN | apply Kd.R_drew)); exact HO396.out) hb); replace HO400 := Aside0.mk (Kd.R_elder' (by (with_reducible repeat (first | apply Kd.R_alloc | apply Kd.R_drewN | apply Kd.R_drew)); exact HO400.out) (Kd.R_base ho0) hb); replace BK392 := Aside0.mk (blk_below (g := gb392) (o := .cells #[.int .i64 a0_0, .slice A0_1 l0_1.length c0_1] 24 (0, 0)) (by (with_reducible repeat (first | refine blk_drewN ?_ _ | refine blk_drew ?_ | refine blk_alloc ?_ _)); exact BK392.out) hb); replace BK397 := Aside0.mk (blk_below (g := gb397) (o := .cells #[.int .i64 t393, .slice Ao18 t394.length co18] 24 (0, 0)) (by (with_reducible repeat (first | refine blk_drewN ?_ _ | refine blk_drew ?_ | refine blk_alloc ?_ _)); exact BK397.out) hb); replace HB := Aside0.mk (below_step (by repeat (first | (with_reducible first | exact HB.out | apply below_alloc | apply pw_below_drewN | apply below_drew1 | refine below_set ?_ GE392.out | refine below_set ?_ GE397.out) | exact HB.out)) hb); (try clear hb); (try clear hb2); (try clear hk); (try clear hi); (try clear ho0); obtain ⟨Ao24, co24, eo24⟩ := Kd.R_slice HO400.out; subst eo24; obtain ⟨Ao25, co25, eo25⟩ := Kd.R_slice HO406.out; subst eo25) | ((with_reducible refine gate_callee (f := 22) rfl ?_); refine goesL_ (some 41) rfl rfl Try.func22 (by kernel_rfl) rfl #[.slice Ao24 t398.length co24, .slice Ao25 t404.length co25] rfl (by (try simp only [List.map_toArray, List.map_cons, List.map_nil]); first | done | rfl | (simp only [List.length_drop, List.length_take]; rfl)) ?_; (with_reducible refine (remouldlaw01_ints.calls k _ _ t398 _ _ t404 true _ ?side1 ?side2 ?side3 ?side4 A7.out).mono ?_); (case side1 => repeat (first | exact (Kd.R_reads' HO400.out).2.2 | (with_reducible refine Kd.C_alloc ?_ _) | (with_reducible refine Kd.C_drewN ?_ _) | (with_reducible refine Kd.C_drew ?_))); (case side2 => exact (Kd.R_reads' HO400.out).2.1); (case side3 => repeat (first | exact (Kd.R_reads' HO406.out).2.2 | (with_reducible refine Kd.C_alloc ?_ _) | (with_reducible refine Kd.C_drewN ?_ _) | (with_reducible refine Kd.C_drew ?_))); (case side4 => exact (Kd.R_reads' HO406.out).2.1); rintro e w' ⟨rfl, ⟨nd, rfl⟩⟩; refine ⟨_, rfl, ?_⟩) | (go_at_call 17; (with_reducible refine (remouldlaw01_awake.calls  t409 _ A11.out).mono ?_); rintro e w26 ⟨rfl, hb⟩; replace HO396 := Aside0.mk (Kd.R_below (by (with_reducible repeat (first | apply Kd.R_alloc | apply Kd.R_drewN | apply Kd.R_drew)); exact HO396.out) hb); replace HO400 := Aside0.mk (Kd.R_below (by (with_reducible repeat (first | apply Kd.R_alloc | apply Kd.R_drewN | apply Kd.R_drew)); exact HO400.out) hb); replace HO406 := Aside0.mk (Kd.R_below (by (with_reducible repeat (first | apply Kd.R_alloc | apply Kd.R_drewN | apply Kd.R_drew)); exact HO406.out) hb); replace BK392 := Aside0.mk (blk_below (g := gb392) (o := .cells #[.int .i64 a0_0, .slice A0_1 l0_1.length c0_1] 24 (0, 0)) (by (with_reducible repeat (first | refine blk_drewN ?_ _ | refine blk_drew ?_ | refine blk_alloc ?_ _)); exact BK392.out) hb); replace BK397 := Aside0.mk (blk_below (g := gb397) (o := .cells #[.int .i64 t393, .slice Ao18 t394.length co18] 24 (0, 0)) (by (with_reducible repeat (first | refine blk_drewN ?_ _ | refine blk_drew ?_ | refine blk_alloc ?_ _)); exact BK397.out) hb); replace HB := Aside0.mk (below_step (by repeat (first | (with_reducible first | exact HB.out | apply below_alloc | apply pw_below_drewN | apply below_drew1 | refine below_set ?_ GE392.out | refine below_set ?_ GE397.out) | exact HB.out)) hb); (try clear hb); (try clear hb2); (try clear hk); (try clear hi)))
  go_ret
  exact ⟨by first | rfl | (simp [errW_none, errW_some] <;> rfl) | (simp [*, errW_none, errW_some] <;> rfl), by repeat (first | (with_reducible first | exact HB.out | apply below_alloc | apply pw_below_drewN | apply below_drew1 | refine below_set ?_ GE392.out | refine below_set ?_ GE397.out) | exact HB.out)⟩
end Go.Proofs.Ytmcihijobilcgaa.PAll
end
section
namespace Go.Proofs.Ytmcihijobilcgaa.PAll
open Go.RowKit Go.Proofs.YtmcihijobilcgaaW.PrintWords Go.Proofs.YtmcihijobilcgaaW.PrintLast Go.Proofs.YtmcihijobilcgaaW.PrintMore
attribute [local go_sem] max2_int min2_int max_two min_two max_three min_three max_four min_four
def remouldref01_inverse.f (a0 : Int) : Option (Int) := if a0 ≥ 97 then (some ((((a0 - 97) % 256) + 65) % 256)) else (some ((((a0 - 65) % 256) + 97) % 256))
set_option maxHeartbeats 8000000 in
set_option maxRecDepth 100000 in
theorem remouldref01_inverse.calls (a0 : Int) (r : Int) (w : World) (h : remouldref01_inverse.f a0 = some r) :
    Calls Try.prog 56 #[.int .u8 a0] w fun e w' => e = .returned (.int .u8 r) ∧ Drawn0 w w' := by
  have H : (if a0 ≥ 97 then (some ((((a0 - 97) % 256) + 65) % 256)) else (some ((((a0 - 65) % 256) + 97) % 256))) = some r := h
  clear h
  by_cases c2 : a0 ≥ 97
  · rw [if_pos c2] at H
    have c2b0 : decide (97 ≤ a0) = true := decide_eq_true c2
    clear c2
    obtain rfl := Option.some.inj H
    go_enter Try.func56, Try.ntmps56
    go_wp2
    go_ret
    exact ⟨by first | rfl | (simp; done) | (simp [*]; done), by repeat (first | exact Drawn0.refl _ | apply Drawn0.step)⟩
  rw [if_neg c2] at H
  have c2b0 : decide (97 ≤ a0) = false := decide_eq_false c2
  clear c2
  obtain rfl := Option.some.inj H
  go_enter Try.func56, Try.ntmps56
  go_wp2
  go_ret
  exact ⟨by first | rfl | (simp; done) | (simp [*]; done), by repeat (first | exact Drawn0.refl _ | apply Drawn0.step)⟩
end Go.Proofs.Ytmcihijobilcgaa.PAll
end
section
namespace Go.Proofs.Ytmcihijobilcgaa.PAll
open Go.RowKit Go.Proofs.YtmcihijobilcgaaW.PrintWords Go.Proofs.YtmcihijobilcgaaW.PrintLast Go.Proofs.YtmcihijobilcgaaW.PrintMore
attribute [local go_sem] max2_int min2_int max_two min_two max_three min_three max_four min_four
def remouldref01_Reduce.l0 : Nat → ByteArray → List Int → Int → Option (ByteArray)
  | 0, _, _, _ => none
  | k + 1, x0, x3, x4 => if x4 < (x0.size : Int) then (if (x3.length : Int) > 0 then (if 0 ≤ (wrap64 ((x3.length : Int) - 1)) then (if (wrap64 ((x3.length : Int) - 1)) < (x3.length : Int) then (if 0 ≤ x4 then ((remouldref01_inverse.f (bt x0 x4)).bind fun t515 => (if (rd x3 (wrap64 ((x3.length : Int) - 1))) = t515 then (if (wrap64 ((x3.length : Int) - 1)) ≤ (x3.length : Int) then (remouldref01_Reduce.l0 k x0 (x3.take ((wrap64 ((x3.length : Int) - 1)) : Int).toNat) (wrap64 (x4 + 1))) else (none)) else (if x3.length < 140737488355328 then (remouldref01_Reduce.l0 k x0 (x3 ++ [bt x0 x4]) (wrap64 (x4 + 1))) else (none)))) else (none)) else (none)) else (none)) else (if 0 ≤ x4 then (if x3.length < 140737488355328 then (remouldref01_Reduce.l0 k x0 (x3 ++ [bt x0 x4]) (wrap64 (x4 + 1))) else (none)) else (none))) else (some (strOfNums x3))
def remouldref01_Reduce.f (k : Nat) (a0 : ByteArray) : Option (ByteArray) := remouldref01_Reduce.l0 k a0 ([] : List Int) 0
set_option maxHeartbeats 8000000 in
set_option maxRecDepth 100000 in
theorem remouldref01_Reduce.calls (k : Nat) (a0 : ByteArray) (r : ByteArray) (w : World) (h : remouldref01_Reduce.f k a0 = some r) :
    Calls Try.prog 33 #[.string a0] w fun e w' => e = .returned (.string r) ∧ Below w.heap.size w w' := by
  have HB := Aside0.mk (Below.refl w.heap.size w)
  have H : (remouldref01_Reduce.l0 k a0 ([] : List Int) 0) = some r := h
  clear h
  have H' := Aside0.mk H
  clear H
  go_enter Try.func33, Try.ntmps33
  go_wp2
  repeat (go_quiet (fail); try go_wp2)
  go_loopg [3, 4] k (fun kq v3 v4 w' => ∃ (x3_1 : List Int) (x4_1 : Int), v4 = .int .i64 x4_1 ∧ Aside0 (remouldref01_Reduce.l0 kq a0 x3_1 x4_1 = some r) ∧ Aside0 (kq ≤ k) ∧ Aside0 (Kd.R (Kd.int .u8) 5 w' w.heap.size (fun _ => True) v3 x3_1) ∧ Aside0 (Below w.heap.size w w'))
  case atStart => exact ⟨(([] : List Int)), (0), (by first | rfl | (simp; done) | (simp [*]; done)), H', ⟨Nat.le_refl _⟩, ⟨by first | exact Kd.R_nil _ _ _ _ _ | exact Kd.N_nil _ _ _ _ _ | exact Kd.V_nil _ _ _ _ _ | exact Kd.Q_nil _ _ _ _ _ | exact Kd.S_nil _ _ _ _ _⟩, ⟨by repeat (first | (with_reducible first | exact HB.out | apply below_alloc | apply pw_below_drewN | apply below_drew1) | exact HB.out)⟩⟩
  clear H'
  obtain ⟨x3_1, x4_1, rfl, HA, HK1, HO_3, HB⟩ := hrel
  cases gk with
  | zero => exact absurd HA.out (by simp [remouldref01_Reduce.l0])
  | succ k1 =>
    have H := HA.out
    clear HA
    simp only [remouldref01_Reduce.l0] at H
    by_cases c2 : x4_1 < (a0.size : Int)
    rotate_left
    · rw [if_neg c2] at H
      have c2b0 : decide (x4_1 < (a0.size : Int)) = false := decide_eq_false c2
      clear c2
      obtain rfl := Option.some.inj H
      have hcv23 := own_string (P := Try.prog) Try.underlying83 Try.underlying5 Try.underlying9 (Kd.own_of_R HO_3.out)
      go_wp2
      repeat (go_quiet (fail); try go_wp2)
      go_ret
      exact ⟨by first | rfl | (simp [errW_none, errW_some] <;> rfl) | (simp [*, errW_none, errW_some] <;> rfl), by repeat (first | (with_reducible first | exact HB.out | apply below_alloc | apply pw_below_drewN | apply below_drew1) | exact HB.out)⟩
    rw [if_pos c2] at H
    have c2b0 : decide (x4_1 < (a0.size : Int)) = true := decide_eq_true c2
    clear c2
    by_cases c3 : (x3_1.length : Int) > 0
    rotate_left
    · rw [if_neg c3] at H
      have c3b0 : decide (0 < (x3_1.length : Int)) = false := decide_eq_false c3
      have c3b1 : decide (0 < x3_1.length) = false := decide_eq_false (by omega)
      clear c3
      by_cases c18 : 0 ≤ x4_1
      rotate_left
      · rw [if_neg c18] at H
        exact absurd H (by simp)
      rw [if_pos c18] at H
      have c18b0 : decide (0 ≤ x4_1) = true := decide_eq_true c18
      clear c18
      by_cases c20 : x3_1.length < 140737488355328
      rotate_left
      · rw [if_neg c20] at H
        exact absurd H (by simp)
      rw [if_pos c20] at H
      have LMc20 := Aside0.mk c20
      clear c20
      obtain ⟨y522, hy522⟩ : ∃ y_ : List Int, y_ = (x3_1 ++ [bt a0 x4_1]) := ⟨_, rfl⟩
      replace H : (remouldref01_Reduce.l0 k1 a0 y522 (wrap64 (x4_1 + 1))) = some r := by first | (rw [hy522]; with_reducible exact H) | (have H2_ := (Option.bind_some _ _).symm.trans H; rw [hy522]; with_reducible exact H2_) | (have H2_ := (Option.bind_some _ _).symm.trans H; with_reducible exact H2_) | with_reducible exact H | (rw [hy522]; exact H) | exact H
      have Ny522 := Aside0.mk hy522
      clear hy522
      have H' := Aside0.mk H
      clear H
      obtain ⟨Ao21, co21, eo21⟩ := Kd.R_slice HO_3.out
      subst eo21
      have p19 : 0 ≤ (x4_1 : Int) := of_decide_eq_true (by first | (with_reducible assumption) | assumption)
      have q19 : x4_1 < (a0.size : Int) := of_decide_eq_true (by first | (with_reducible assumption) | assumption)
      have hx19 := bt_at a0 x4_1
      replace p19 := eq_true p19
      replace q19 := eq_true q19
      go_wp2_with (first | ((with_reducible refine gate_builtin (b := .append) (xs := #[.tmp 32, .tmp 36]) rfl ?_); at_builtin; refine Kd.R_append (Kd.int .u8) (w0 := w) w.heap.size rfl (.tmp 32) (.tmp 36) 83 5 (.int .u8 0) 1 rfl Try.underlying83 info5 rfl (by decide) (by omega) (.slice Ao21 x3_1.length co21) x3_1 (bt a0 x4_1) [.int .u8 (bt a0 x4_1)] (fun _ => True) (fun _ => False) rfl rfl ?aP (fun _ hk => hk.elim) ?aF ?aO ?aB ?aS ?aL ?_; (case aP => exact rfl); (case aB => exact (by repeat (first | (with_reducible first | exact HB.out | apply below_alloc | apply pw_below_drewN | apply below_drew1) | exact HB.out))); (case aF => exact (fun _ _ => trivial)); (case aO => exact (by (with_reducible repeat (first | apply Kd.R_alloc | apply Kd.R_drewN | apply Kd.R_drew)); exact HO_3.out)); (case aS => exact (below_size (by repeat (first | (with_reducible first | exact HB.out | apply below_alloc | apply pw_below_drewN | apply below_drew1) | exact HB.out)))); (case aL => have := LMc20.out; omega); intro v523 w22 ho hb hg hat; rw [← Ny522.out] at ho; have HO524 := Aside0.mk (ho); replace HB := Aside0.mk (hb); clear HO_3; clear ho hb hg hat))
      repeat (go_quiet (first | ((with_reducible refine gate_builtin (b := .append) (xs := #[.tmp 32, .tmp 36]) rfl ?_); at_builtin; refine Kd.R_append (Kd.int .u8) (w0 := w) w.heap.size rfl (.tmp 32) (.tmp 36) 83 5 (.int .u8 0) 1 rfl Try.underlying83 info5 rfl (by decide) (by omega) (.slice Ao21 x3_1.length co21) x3_1 (bt a0 x4_1) [.int .u8 (bt a0 x4_1)] (fun _ => True) (fun _ => False) rfl rfl ?aP (fun _ hk => hk.elim) ?aF ?aO ?aB ?aS ?aL ?_; (case aP => exact rfl); (case aB => exact (by repeat (first | (with_reducible first | exact HB.out | apply below_alloc | apply pw_below_drewN | apply below_drew1) | exact HB.out))); (case aF => exact (fun _ _ => trivial)); (case aO => exact (by (with_reducible repeat (first | apply Kd.R_alloc | apply Kd.R_drewN | apply Kd.R_drew)); exact HO_3.out)); (case aS => exact (below_size (by repeat (first | (with_reducible first | exact HB.out | apply below_alloc | apply pw_below_drewN | apply below_drew1) | exact HB.out)))); (case aL => have := LMc20.out; omega); intro v523 w22 ho hb hg hat; rw [← Ny522.out] at ho; have HO524 := Aside0.mk (ho); replace HB := Aside0.mk (hb); clear HO_3; clear ho hb hg hat)); try go_wp2_with (first | ((with_reducible refine gate_builtin (b := .append) (xs := #[.tmp 32, .tmp 36]) rfl ?_); at_builtin; refine Kd.R_append (Kd.int .u8) (w0 := w) w.heap.size rfl (.tmp 32) (.tmp 36) 83 5 (.int .u8 0) 1 rfl Try.underlying83 info5 rfl (by decide) (by omega) (.slice Ao21 x3_1.length co21) x3_1 (bt a0 x4_1) [.int .u8 (bt a0 x4_1)] (fun _ => True) (fun _ => False) rfl rfl ?aP (fun _ hk => hk.elim) ?aF ?aO ?aB ?aS ?aL ?_; (case aP => exact rfl); (case aB => exact (by repeat (first | (with_reducible first | exact HB.out | apply below_alloc | apply pw_below_drewN | apply below_drew1) | exact HB.out))); (case aF => exact (fun _ _ => trivial)); (case aO => exact (by (with_reducible repeat (first | apply Kd.R_alloc | apply Kd.R_drewN | apply Kd.R_drew)); exact HO_3.out)); (case aS => exact (below_size (by repeat (first | (with_reducible first | exact HB.out | apply below_alloc | apply pw_below_drewN | apply below_drew1) | exact HB.out)))); (case aL => have := LMc20.out; omega); intro v523 w22 ho hb hg hat; rw [← Ny522.out] at ho; have HO524 := Aside0.mk (ho); replace HB := Aside0.mk (hb); clear HO_3; clear ho hb hg hat)))
      go_roundg k1
      case measure => have := HK1.out; omega
      case rel => exact ⟨(y522), (wrap64 (x4_1 + 1)), (by first | rfl | (simp; done) | (simp [*]; done)), H', ⟨by have := HK1.out; omega⟩, ⟨by (with_reducible repeat (first | apply Kd.R_alloc | apply Kd.R_drewN | apply Kd.R_drew)); exact HO524.out⟩, ⟨by repeat (first | (with_reducible first | exact HB.out | apply below_alloc | apply pw_below_drewN | apply below_drew1) | exact HB.out)⟩⟩
    rw [if_pos c3] at H
    have c3b0 : decide (0 < (x3_1.length : Int)) = true := decide_eq_true c3
    have c3b1 : decide (0 < x3_1.length) = true := decide_eq_true (by omega)
    clear c3
    obtain ⟨ji4, hji4⟩ : ∃ j_ : Int, (wrap64 ((x3_1.length : Int) - 1)) = j_ := ⟨_, rfl⟩
    replace H : (if 0 ≤ (ji4) then (if (ji4) < (x3_1.length : Int) then (if 0 ≤ x4_1 then ((remouldref01_inverse.f (bt a0 x4_1)).bind fun t515 => (if (rd x3_1 (ji4)) = t515 then (if (ji4) ≤ (x3_1.length : Int) then (remouldref01_Reduce.l0 k1 a0 (x3_1.take ((ji4) : Int).toNat) (wrap64 (x4_1 + 1))) else (none)) else (if x3_1.length < 140737488355328 then (remouldref01_Reduce.l0 k1 a0 (x3_1 ++ [bt a0 x4_1]) (wrap64 (x4_1 + 1))) else (none)))) else (none)) else (none)) else (none)) = some r := by first | (rw [hji4] at H; exact H) | (simp only [hji4] at H ⊢; exact H)
    have hji4w : (IntKind.i64.wrap ((x3_1.length : Int) - 1)) = ji4 := (i64_w _).trans hji4
    by_cases c5 : 0 ≤ (ji4)
    rotate_left
    · rw [if_neg c5] at H
      exact absurd H (by simp)
    rw [if_pos c5] at H
    have c5b0 : decide (0 ≤ (ji4)) = true := decide_eq_true c5
    clear c5
    by_cases c6 : (ji4) < (x3_1.length : Int)
    rotate_left
    · rw [if_neg c6] at H
      exact absurd H (by simp)
    rw [if_pos c6] at H
    have c6b0 : decide ((ji4) < (x3_1.length : Int)) = true := decide_eq_true c6
    clear c6
    by_cases c7 : 0 ≤ x4_1
    rotate_left
    · rw [if_neg c7] at H
      exact absurd H (by simp)
    rw [if_pos c7] at H
    have c7b0 : decide (0 ≤ x4_1) = true := decide_eq_true c7
    clear c7
    replace H := Option.bind_eq_some_iff.mp H
    obtain ⟨t515, A90, H⟩ := H
    replace H : (if (rd x3_1 (ji4)) = t515 then (if (ji4) ≤ (x3_1.length : Int) then (remouldref01_Reduce.l0 k1 a0 (x3_1.take ((ji4) : Int).toNat) (wrap64 (x4_1 + 1))) else (none)) else (if x3_1.length < 140737488355328 then (remouldref01_Reduce.l0 k1 a0 (x3_1 ++ [bt a0 x4_1]) (wrap64 (x4_1 + 1))) else (none))) = some r := H
    have A9 := Aside0.mk A90
    clear A90
    by_cases c10 : (rd x3_1 (ji4)) = t515
    · rw [if_pos c10] at H
      have c10b0 : ((rd x3_1 (ji4)) == t515) = true := beq_iff_eq.mpr c10
      have c10b1 : ((rd x3_1 (ji4)) != t515) = false := bne_eq_false_iff_eq.mpr c10
      clear c10
      by_cases c11 : (ji4) ≤ (x3_1.length : Int)
      rotate_left
      · rw [if_neg c11] at H
        exact absurd H (by simp)
      rw [if_pos c11] at H
      have c11b0 := eq_true c11
      have c11b1 : decide ((ji4) ≤ (x3_1.length : Int)) = true := decide_eq_true c11
      have KFc11 := Aside0.mk c11
      clear c11
      obtain ⟨y516, hy516⟩ : ∃ y_ : List Int, y_ = (x3_1.take ((ji4) : Int).toNat) := ⟨_, rfl⟩
      replace H : (remouldref01_Reduce.l0 k1 a0 y516 (wrap64 (x4_1 + 1))) = some r := by first | (rw [hy516]; with_reducible exact H) | (have H2_ := (Option.bind_some _ _).symm.trans H; rw [hy516]; with_reducible exact H2_) | (have H2_ := (Option.bind_some _ _).symm.trans H; with_reducible exact H2_) | with_reducible exact H | (rw [hy516]; exact H) | exact H
      have Ny516 := Aside0.mk hy516
      clear hy516
      have H' := Aside0.mk H
      clear H
      obtain ⟨Ao12, co12, eo12⟩ := Kd.R_slice HO_3.out
      subst eo12
      have p514 : 0 ≤ ((ji4) : Int) := of_decide_eq_true (by first | (with_reducible assumption) | assumption)
      have q514 : (ji4) < (x3_1.length : Int) := of_decide_eq_true (by first | (with_reducible assumption) | assumption)
      obtain ⟨ad514, e514, hx514_0⟩ := Kd.at_int (Kd.R_reads' HO_3.out).2.2 (ji4) p514 q514
      cases e514
      replace p514 := eq_true p514
      replace q514 := eq_true q514
      have p8 : 0 ≤ (x4_1 : Int) := of_decide_eq_true (by first | (with_reducible assumption) | assumption)
      have q8 : x4_1 < (a0.size : Int) := of_decide_eq_true (by first | (with_reducible assumption) | assumption)
      have hx8 := bt_at a0 x4_1
      replace p8 := eq_true p8
      replace q8 := eq_true q8
      go_wp2_with (first | (go_at_call 56; (with_reducible refine (remouldref01_inverse.calls (bt a0 x4_1) t515 _ A9.out).mono ?_); rintro e w' ⟨rfl, ⟨nd, rfl⟩⟩; (try first | exact ⟨rfl, _, World.drewN_drewN _ _ _⟩ | exact ⟨rfl, _, Eq.trans (World.drewN_drewN _ _ _) (congrArg (World.drewN _) (Nat.add_assoc _ _ _))⟩); have q13 : ((ji4) : Int) ≤ ((x3_1.length : Int) : Int) := of_decide_eq_true (by first | (with_reducible assumption) | assumption); obtain ⟨i013, hi013, _, hsz13, _⟩ := info_parts info5; have hcut13 := cut_to (P := Try.prog) 83 5 .i64 Try.underlying83 hi013 (some ad514) x3_1.length co12 (ji4) (of_decide_eq_true (by first | (with_reducible assumption) | assumption)) q13 (Kd.R_reads' HO_3.out).2.1; have hr13 := Kd.R_take (m := ((ji4) : Int).toNat) HO_3.out (by omega); have hy13 : y516.length = ((ji4) : Int).toNat := (by rw [Ny516.out, List.length_take]; omega); rw [← Ny516.out] at hr13; rw [← hy13] at hr13 hcut13; clear hy13 hi013 hsz13 HO_3; have HO518 := Aside0.mk hr13; clear hr13; replace q13 := eq_true q13))
      repeat (go_quiet (first | (go_at_call 56; (with_reducible refine (remouldref01_inverse.calls (bt a0 x4_1) t515 _ A9.out).mono ?_); rintro e w' ⟨rfl, ⟨nd, rfl⟩⟩; (try first | exact ⟨rfl, _, World.drewN_drewN _ _ _⟩ | exact ⟨rfl, _, Eq.trans (World.drewN_drewN _ _ _) (congrArg (World.drewN _) (Nat.add_assoc _ _ _))⟩); have q13 : ((ji4) : Int) ≤ ((x3_1.length : Int) : Int) := of_decide_eq_true (by first | (with_reducible assumption) | assumption); obtain ⟨i013, hi013, _, hsz13, _⟩ := info_parts info5; have hcut13 := cut_to (P := Try.prog) 83 5 .i64 Try.underlying83 hi013 (some ad514) x3_1.length co12 (ji4) (of_decide_eq_true (by first | (with_reducible assumption) | assumption)) q13 (Kd.R_reads' HO_3.out).2.1; have hr13 := Kd.R_take (m := ((ji4) : Int).toNat) HO_3.out (by omega); have hy13 : y516.length = ((ji4) : Int).toNat := (by rw [Ny516.out, List.length_take]; omega); rw [← Ny516.out] at hr13; rw [← hy13] at hr13 hcut13; clear hy13 hi013 hsz13 HO_3; have HO518 := Aside0.mk hr13; clear hr13; replace q13 := eq_true q13)); try go_wp2_with (first | (go_at_call 56; (with_reducible refine (remouldref01_inverse.calls (bt a0 x4_1) t515 _ A9.out).mono ?_); rintro e w' ⟨rfl, ⟨nd, rfl⟩⟩; (try first | exact ⟨rfl, _, World.drewN_drewN _ _ _⟩ | exact ⟨rfl, _, Eq.trans (World.drewN_drewN _ _ _) (congrArg (World.drewN _) (Nat.add_assoc _ _ _))⟩); have q13 : ((ji4) : Int) ≤ ((x3_1.length : Int) : Int) := of_decide_eq_true (by first | (with_reducible assumption) | assumption); obtain ⟨i013, hi013, _, hsz13, _⟩ := info_parts info5; have hcut13 := cut_to (P := Try.prog) 83 5 .i64 Try.underlying83 hi013 (some ad514) x3_1.length co12 (ji4) (of_decide_eq_true (by first | (with_reducible assumption) | assumption)) q13 (Kd.R_reads' HO_3.out).2.1; have hr13 := Kd.R_take (m := ((ji4) : Int).toNat) HO_3.out (by omega); have hy13 : y516.length = ((ji4) : Int).toNat := (by rw [Ny516.out, List.length_take]; omega); rw [← Ny516.out] at hr13; rw [← hy13] at hr13 hcut13; clear hy13 hi013 hsz13 HO_3; have HO518 := Aside0.mk hr13; clear hr13; replace q13 := eq_true q13)))
      go_roundg k1
      case measure => have := HK1.out; omega
      case rel => exact ⟨(y516), (wrap64 (x4_1 + 1)), (by first | rfl | (simp; done) | (simp [*]; done)), H', ⟨by have := HK1.out; omega⟩, ⟨by (with_reducible repeat (first | apply Kd.R_alloc | apply Kd.R_drewN | apply Kd.R_drew)); exact HO518.out⟩, ⟨by repeat (first | (with_reducible first | exact HB.out | apply below_alloc | apply pw_below_drewN | apply below_drew1) | exact HB.out)⟩⟩
    rw [if_neg c10] at H
    have c10b0 : ((rd x3_1 (ji4)) == t515) = false := beq_eq_false_iff_ne.mpr c10
    have c10b1 : ((rd x3_1 (ji4)) != t515) = true := bne_iff_ne.mpr c10
    by_cases c15 : x3_1.length < 140737488355328
    rotate_left
    · rw [if_neg c15] at H
      exact absurd H (by simp)
    rw [if_pos c15] at H
    have LMc15 := Aside0.mk c15
    clear c15
    obtain ⟨y519, hy519⟩ : ∃ y_ : List Int, y_ = (x3_1 ++ [bt a0 x4_1]) := ⟨_, rfl⟩
    replace H : (remouldref01_Reduce.l0 k1 a0 y519 (wrap64 (x4_1 + 1))) = some r := by first | (rw [hy519]; with_reducible exact H) | (have H2_ := (Option.bind_some _ _).symm.trans H; rw [hy519]; with_reducible exact H2_) | (have H2_ := (Option.bind_some _ _).symm.trans H; with_reducible exact H2_) | with_reducible exact H | (rw [hy519]; exact H) | exact H
    have Ny519 := Aside0.mk hy519
    clear hy519
    have H' := Aside0.mk H
    clear H
    obtain ⟨Ao16, co16, eo16⟩ := Kd.R_slice HO_3.out
    subst eo16
    have p514 : 0 ≤ ((ji4) : Int) := of_decide_eq_true (by first | (with_reducible assumption) | assumption)
    have q514 : (ji4) < (x3_1.length : Int) := of_decide_eq_true (by first | (with_reducible assumption) | assumption)
    obtain ⟨ad514, e514, hx514_0⟩ := Kd.at_int (Kd.R_reads' HO_3.out).2.2 (ji4) p514 q514
    cases e514
    replace p514 := eq_true p514
    replace q514 := eq_true q514
    have p8 : 0 ≤ (x4_1 : Int) := of_decide_eq_true (by first | (with_reducible assumption) | assumption)
    have q8 : x4_1 < (a0.size : Int) := of_decide_eq_true (by first | (with_reducible assumption) | assumption)
    have hx8 := bt_at a0 x4_1
    replace p8 := eq_true p8
    replace q8 := eq_true q8
    go_wp2_with (first | (go_at_call 56; (with_reducible refine (remouldref01_inverse.calls (bt a0 x4_1) t515 _ A9.out).mono ?_); rintro e w' ⟨rfl, ⟨nd, rfl⟩⟩; (try first | exact ⟨rfl, _, World.drewN_drewN _ _ _⟩ | exact ⟨rfl, _, Eq.trans (World.drewN_drewN _ _ _) (congrArg (World.drewN _) (Nat.add_assoc _ _ _))⟩); have p14 : 0 ≤ (x4_1 : Int) := of_decide_eq_true (by first | (with_reducible assumption) | assumption); have q14 : x4_1 < (a0.size : Int) := of_decide_eq_true (by first | (with_reducible assumption) | assumption); have hx14 := bt_at a0 x4_1; replace p14 := eq_true p14; replace q14 := eq_true q14) | ((with_reducible refine gate_builtin (b := .append) (xs := #[.tmp 32, .tmp 36]) rfl ?_); at_builtin; refine Kd.R_append (Kd.int .u8) (w0 := w) w.heap.size rfl (.tmp 32) (.tmp 36) 83 5 (.int .u8 0) 1 rfl Try.underlying83 info5 rfl (by decide) (by omega) (.slice (some ad514) x3_1.length co16) x3_1 (bt a0 x4_1) [.int .u8 (bt a0 x4_1)] (fun _ => True) (fun _ => False) rfl rfl ?aP (fun _ hk => hk.elim) ?aF ?aO ?aB ?aS ?aL ?_; (case aP => exact rfl); (case aB => exact (by repeat (first | (with_reducible first | exact HB.out | apply below_alloc | apply pw_below_drewN | apply below_drew1) | exact HB.out))); (case aF => exact (fun _ _ => trivial)); (case aO => exact (by (with_reducible repeat (first | apply Kd.R_alloc | apply Kd.R_drewN | apply Kd.R_drew)); exact HO_3.out)); (case aS => exact (below_size (by repeat (first | (with_reducible first | exact HB.out | apply below_alloc | apply pw_below_drewN | apply below_drew1) | exact HB.out)))); (case aL => have := LMc15.out; omega); intro v520 w17 ho hb hg hat; rw [← Ny519.out] at ho; have HO521 := Aside0.mk (ho); replace HB := Aside0.mk (hb); clear HO_3; clear ho hb hg hat))
    repeat (go_quiet (first | (go_at_call 56; (with_reducible refine (remouldref01_inverse.calls (bt a0 x4_1) t515 _ A9.out).mono ?_); rintro e w' ⟨rfl, ⟨nd, rfl⟩⟩; (try first | exact ⟨rfl, _, World.drewN_drewN _ _ _⟩ | exact ⟨rfl, _, Eq.trans (World.drewN_drewN _ _ _) (congrArg (World.drewN _) (Nat.add_assoc _ _ _))⟩); have p14 : 0 ≤ (x4_1 : Int) := of_decide_eq_true (by first | (with_reducible assumption) | assumption); have q14 : x4_1 < (a0.size : Int) := of_decide_eq_true (by first | (with_reducible assumption) | assumption); have hx14 := bt_at a0 x4_1; replace p14 := eq_true p14; replace q14 := eq_true q14) | ((with_reducible refine gate_builtin (b := .append) (xs := #[.tmp 32, .tmp 36]) rfl ?_); at_builtin; refine Kd.R_append (Kd.int .u8) (w0 := w) w.heap.size rfl (.tmp 32) (.tmp 36) 83 5 (.int .u8 0) 1 rfl Try.underlying83 info5 rfl (by decide) (by omega) (.slice (some ad514) x3_1.length co16) x3_1 (bt a0 x4_1) [.int .u8 (bt a0 x4_1)] (fun _ => True) (fun _ => False) rfl rfl ?aP (fun _ hk => hk.elim) ?aF ?aO ?aB ?aS ?aL ?_; (case aP => exact rfl); (case aB => exact (by repeat (first | (with_reducible first | exact HB.out | apply below_alloc | apply pw_below_drewN | apply below_drew1) | exact HB.out))); (case aF => exact (fun _ _ => trivial)); (case aO => exact (by (with_reducible repeat (first | apply Kd.R_alloc | apply Kd.R_drewN | apply Kd.R_drew)); exact HO_3.out)); (case aS => exact (below_size (by repeat (first | (with_reducible first | exact HB.out | apply below_alloc | apply pw_below_drewN | apply below_drew1) | exact HB.out)))); (case aL => have := LMc15.out; omega); intro v520 w17 ho hb hg hat; rw [← Ny519.out] at ho; have HO521 := Aside0.mk (ho); replace HB := Aside0.mk (hb); clear HO_3; clear ho hb hg hat)); try go_wp2_with (first | (go_at_call 56; (with_reducible refine (remouldref01_inverse.calls (bt a0 x4_1) t515 _ A9.out).mono ?_); rintro e w' ⟨rfl, ⟨nd, rfl⟩⟩; (try first | exact ⟨rfl, _, World.drewN_drewN _ _ _⟩ | exact ⟨rfl, _, Eq.trans (World.drewN_drewN _ _ _) (congrArg (World.drewN _) (Nat.add_assoc _ _ _))⟩); have p14 : 0 ≤ (x4_1 : Int) := of_decide_eq_true (by first | (with_reducible assumption) | assumption); have q14 : x4_1 < (a0.size : Int) := of_decide_eq_true (by first | (with_reducible assumption) | assumption); have hx14 := bt_at a0 x4_1; replace p14 := eq_true p14; replace q14 := eq_true q14) | ((with_reducible refine gate_builtin (b := .append) (xs := #[.tmp 32, .tmp 36]) rfl ?_); at_builtin; refine Kd.R_append (Kd.int .u8) (w0 := w) w.heap.size rfl (.tmp 32) (.tmp 36) 83 5 (.int .u8 0) 1 rfl Try.underlying83 info5 rfl (by decide) (by omega) (.slice (some ad514) x3_1.length co16) x3_1 (bt a0 x4_1) [.int .u8 (bt a0 x4_1)] (fun _ => True) (fun _ => False) rfl rfl ?aP (fun _ hk => hk.elim) ?aF ?aO ?aB ?aS ?aL ?_; (case aP => exact rfl); (case aB => exact (by repeat (first | (with_reducible first | exact HB.out | apply below_alloc | apply pw_below_drewN | apply below_drew1) | exact HB.out))); (case aF => exact (fun _ _ => trivial)); (case aO => exact (by (with_reducible repeat (first | apply Kd.R_alloc | apply Kd.R_drewN | apply Kd.R_drew)); exact HO_3.out)); (case aS => exact (below_size (by repeat (first | (with_reducible first | exact HB.out | apply below_alloc | apply pw_below_drewN | apply below_drew1) | exact HB.out)))); (case aL => have := LMc15.out; omega); intro v520 w17 ho hb hg hat; rw [← Ny519.out] at ho; have HO521 := Aside0.mk (ho); replace HB := Aside0.mk (hb); clear HO_3; clear ho hb hg hat)))
    go_roundg k1
    case measure => have := HK1.out; omega
    case rel => exact ⟨(y519), (wrap64 (x4_1 + 1)), (by first | rfl | (simp; done) | (simp [*]; done)), H', ⟨by have := HK1.out; omega⟩, ⟨by (with_reducible repeat (first | apply Kd.R_alloc | apply Kd.R_drewN | apply Kd.R_drew)); exact HO521.out⟩, ⟨by repeat (first | (with_reducible first | exact HB.out | apply below_alloc | apply pw_below_drewN | apply below_drew1) | exact HB.out)⟩⟩
end Go.Proofs.Ytmcihijobilcgaa.PAll
end
section
namespace Go.Proofs.Ytmcihijobilcgaa.PAll
open Go.RowKit Go.Proofs.YtmcihijobilcgaaW.PrintWords Go.Proofs.YtmcihijobilcgaaW.PrintLast Go.Proofs.YtmcihijobilcgaaW.PrintMore
def isLet (g : Nat) (b : Nat) : Bool := b == 97 || b == 65 || (g == 2 && (b == 98 || b == 66))
def allLet (g : Nat) (s : ByteArray) : Bool := s.data.toList.all fun b => isLet g b.toNat
theorem isLet_small {g b : Nat} (h : isLet g b = true) : b < 128 := by
  simp [isLet] at h; omega
theorem noLetter_eq (g : Nat) (hg : g = 1 ∨ g = 2) (x : Nat) : noLetter g x = !(isLet g x) := by
  obtain rfl | rfl := hg
  · have d0 : Utf8.decode (sgn 1) 0 = (97, 1) := by kernel_rfl
    have d1 : Utf8.decode (sgn 1) 1 = (65, 1) := by kernel_rfl
    have e : (sgn 1).size = 2 := by kernel_rfl
    unfold noLetter hasR
    rw [e]
    simp only [hasFrom, e, d0, d1]
    by_cases h1 : x = 97
    · subst h1; simp [isLet]
    by_cases h2 : x = 65
    · subst h2; simp [isLet]
    · have a1 : ¬ (97 : Int) = (x : Int) := by omega
      have a2 : ¬ (65 : Int) = (x : Int) := by omega
      simp [isLet, h1, h2, a1, a2]
  · have d0 : Utf8.decode (sgn 2) 0 = (97, 1) := by kernel_rfl
    have d1 : Utf8.decode (sgn 2) 1 = (65, 1) := by kernel_rfl
    have d2 : Utf8.decode (sgn 2) 2 = (98, 1) := by kernel_rfl
    have d3 : Utf8.decode (sgn 2) 3 = (66, 1) := by kernel_rfl
    have e : (sgn 2).size = 4 := by kernel_rfl
    unfold noLetter hasR
    rw [e]
    simp only [hasFrom, e, d0, d1, d2, d3]
    by_cases h1 : x = 97
    · subst h1; simp [isLet]
    by_cases h2 : x = 65
    · subst h2; simp [isLet]
    by_cases h3 : x = 98
    · subst h3; simp [isLet]
    by_cases h4 : x = 66
    · subst h4; simp [isLet]
    have a1 : ¬ (97 : Int) = (x : Int) := by omega
    have a2 : ¬ (65 : Int) = (x : Int) := by omega
    have a3 : ¬ (98 : Int) = (x : Int) := by omega
    have a4 : ¬ (66 : Int) = (x : Int) := by omega
    simp [isLet, h1, h2, h3, h4, a1, a2, a3, a4]
theorem get!_toNat (s : ByteArray) (i : Nat) (h : i < s.size) : (s.get! i).toNat = (s.data.toList[i]'(by simpa using h)).toNat := by
  have e : s.data[i]? = some (s.data[i]'h) := Array.getElem?_eq_getElem h
  rw [ByteArray.get!]
  simp [getElem!_def, e]
theorem idx_word (g : Nat) (hg : g = 1 ∨ g = 2) (s : ByteArray) : ∀ (f pos : Nat), s.size ≤ pos + f →
    decide (0 ≤ Lib.idxFuncFrom (noLetter g) true s f pos) = !((s.data.toList.drop pos).all fun b => isLet g b.toNat)
  | 0, pos, h => by
    rw [List.drop_eq_nil_of_le (by simpa using h)]
    simp [Lib.idxFuncFrom]
  | f + 1, pos, h => by
    by_cases hp : pos < s.size
    rotate_left
    · rw [List.drop_eq_nil_of_le (by simpa using hp)]
      rw [Lib.idxFuncFrom_end _ _ _ _ _ hp]
      simp
    have hp' : pos < s.data.toList.length := by simpa using hp
    rw [List.drop_eq_getElem_cons hp', List.all_cons]
    simp only [Lib.idxFuncFrom, hp, if_true]
    rw [noLetter_eq g hg]
    have hd := Lib.decode_at s pos
    rw [get!_toNat s pos hp] at hd
    rcases Lib.decodeN_cases (s.size - pos) (s.data.toList[pos]).toNat (s.get! (pos + 1)).toNat (s.get! (pos + 2)).toNat (s.get! (pos + 3)).toNat with h1 | h1 | h1 | h1 | h1
    · rw [hd, h1.2]
      dsimp only
      cases hl : isLet g (s.data.toList[pos]).toNat
      · simp
      · simp only [Bool.not_true, Bool.false_eq_true, if_false, Bool.true_and]
        exact idx_word g hg s f (pos + 1) (by omega)
    all_goals
      have hb : ¬ (s.data.toList[pos]).toNat < 128 → isLet g (s.data.toList[pos]).toNat = false := fun hn => by
        cases hl : isLet g (s.data.toList[pos]).toNat
        · rfl
        · exact absurd (isLet_small hl) hn
    · have hR : isLet g (Utf8.decode s pos).1 = false := by
        cases hl : isLet g (Utf8.decode s pos).1
        · rfl
        · have := isLet_small hl; rw [hd, h1.2.2.2.2] at this; dsimp only at this; omega
      rw [hR, hb (by omega)]
      simp
    · have hR : isLet g (Utf8.decode s pos).1 = false := by
        cases hl : isLet g (Utf8.decode s pos).1
        · rfl
        · have := isLet_small hl; rw [hd, h1.2.2.2.2.2] at this; dsimp only at this; omega
      rw [hR, hb (by omega)]
      simp
    · have hR : isLet g (Utf8.decode s pos).1 = false := by
        cases hl : isLet g (Utf8.decode s pos).1
        · rfl
        · have := isLet_small hl; rw [hd] at this; omega
      have hn : ¬ (s.data.toList[pos]).toNat < 128 := fun hlt => by
        have : Lib.decodeN (s.size - pos) (s.data.toList[pos]).toNat (s.get! (pos + 1)).toNat (s.get! (pos + 2)).toNat (s.get! (pos + 3)).toNat = ((s.data.toList[pos]).toNat, 1) := by
          unfold Lib.decodeN; rw [if_pos hlt]
        rw [this] at h1
        dsimp only at h1
        omega
      rw [hR, hb hn]
      simp
    · have hR : isLet g (Utf8.decode s pos).1 = false := by
        rw [hd, h1]
        simp [isLet]
      have hn : ¬ (s.data.toList[pos]).toNat < 128 := fun hlt => by
        have : Lib.decodeN (s.size - pos) (s.data.toList[pos]).toNat (s.get! (pos + 1)).toNat (s.get! (pos + 2)).toNat (s.get! (pos + 3)).toNat = ((s.data.toList[pos]).toNat, 1) := by
          unfold Lib.decodeN; rw [if_pos hlt]
        rw [this] at h1
        have := congrArg Prod.fst h1
        dsimp only at this
        omega
      rw [hR, hb hn]
      simp
theorem wordB_eq (g : Nat) (hg : g = 1 ∨ g = 2) (s : ByteArray) : wordB g s = (decide (s.size ≤ 30) && allLet g s) := by
  unfold wordB Lib.idxFunc
  rw [idx_word g hg s s.size 0 (by omega)]
  simp [allLet]
theorem letter_ok (k : Nat) (c : Int) (g : Int) (b : Nat) (hc : c = b) (hg : g = 1 ∨ g = 2) : ∃ x y, remouldref01_letter.f (k + 1) c g = some (x, y, isLet g.toNat b) := by
  subst hc
  obtain rfl | rfl := hg
  all_goals
    unfold remouldref01_letter.f
    simp only [remouldref01_letter.j0]
    by_cases h1 : b = 97
    · subst h1; exact ⟨_, _, by simp [isLet]; exact ⟨rfl, rfl⟩⟩
    by_cases h2 : b = 65
    · subst h2; exact ⟨_, _, by simp [isLet]; exact ⟨rfl, rfl⟩⟩
    by_cases h3 : b = 98
    · subst h3; exact ⟨_, _, by simp [isLet]; exact ⟨rfl, rfl⟩⟩
    by_cases h4 : b = 66
    · subst h4; exact ⟨_, _, by simp [isLet]; exact ⟨rfl, rfl⟩⟩
    · refine ⟨0, false, ?_⟩
      rw [if_neg (by omega), if_neg (by omega), if_neg (by simp), if_neg (by omega), if_neg (by omega)]
      simp [isLet, h1, h2, h3, h4]
theorem bt_data (s : ByteArray) (i : Nat) (h : i < s.size) : bt s (i : Int) = ((s.data.toList[i]'(by simpa using h)).toNat : Int) := by
  simp [bt, h]
  rfl
theorem letter_any (k : Nat) (c g : Int) : ∃ x y b, remouldref01_letter.f (k + 1) c g = some (x, y, b) := by
  unfold remouldref01_letter.f
  simp only [remouldref01_letter.j0]
  repeat' split
  all_goals exact ⟨_, _, _, rfl⟩
theorem refWord_l0 (g : Int) (s : ByteArray) (hs : s.size ≤ 1000000) : ∀ (m k i : Nat), i + m = s.size → m + 2 ≤ k →
    remouldref01_Word.l0 k g s (i : Int) = some (decide ((g = 1 ∨ g = 2) ∧ s.size ≤ 30) && (s.data.toList.drop i).all fun b => isLet g.toNat b.toNat)
  | 0, k, i, h, hk => by
    obtain ⟨k, rfl⟩ : ∃ q, k = q + 1 := ⟨k - 1, by omega⟩
    simp only [remouldref01_Word.l0]
    rw [if_neg (by omega), List.drop_eq_nil_of_le (by simp; omega)]
    have e30 : ((s.size : Int) ≤ 30) = (s.size ≤ 30) := by apply propext; omega
    by_cases h1 : g = 1
    · subst h1; simp [e30]
    rw [if_neg h1]
    by_cases h2 : g = 2
    · subst h2; simp [e30]
    · rw [if_neg h2]; simp [h1, h2]
  | m + 1, k, i, h, hk => by
    obtain ⟨k, rfl⟩ : ∃ q, k = q + 1 := ⟨k - 1, by omega⟩
    have hi : i < s.size := by omega
    have hi' : i < s.data.toList.length := by simpa using hi
    simp only [remouldref01_Word.l0]
    rw [if_pos (by omega), if_pos (by omega), wrap64_small _ (by omega) (by omega)]
    have ih := refWord_l0 g s hs m k (i + 1) (by omega) (by omega)
    rw [show ((i : Int) + 1) = ((i + 1 : Nat) : Int) from by omega, ih, List.drop_eq_getElem_cons hi', List.all_cons]
    obtain ⟨q, rfl⟩ : ∃ q, k = q + 1 := ⟨k - 1, by omega⟩
    by_cases hg : g = 1 ∨ g = 2
    · obtain ⟨x, y, hl⟩ := letter_ok q (bt s i) g (s.data.toList[i]).toNat (bt_data s i hi) hg
      rw [hl]
      simp only [Option.bind_some]
      cases hb : isLet g.toNat (s.data.toList[i]).toNat <;> simp
    obtain ⟨x, y, b, hl⟩ := letter_any q (bt s i) g
    rw [hl]
    simp only [Option.bind_some]
    have : decide ((g = 1 ∨ g = 2) ∧ s.size ≤ 30) = false := decide_eq_false fun h => hg h.1
    rw [this]
    cases b <;> simp
theorem refWord_f (g : Int) (s : ByteArray) (hs : s.size ≤ 1000000) (k : Nat) (hk : s.size + 2 ≤ k) :
    remouldref01_Word.f k g s = some (decide ((g = 1 ∨ g = 2) ∧ s.size ≤ 30) && allLet g.toNat s) := by
  have := refWord_l0 g s hs s.size k 0 (by omega) hk
  simpa [remouldref01_Word.f, allLet] using this
theorem isWord_f (g : Int) (hg : g = 1 ∨ g = 2) (s : ByteArray) : casing_isWord.f g s = some (decide (s.size ≤ 30) && allLet g.toNat s) := by
  unfold casing_isWord.f
  rw [if_pos hg, wordB_eq g.toNat (by omega) s]
def invI (c : Int) : Int := Go.bits .xor .u8 c 32
def pushW (out : List Int) (c : Int) : List Int := if 0 < out.length ∧ rd out ((out.length : Int) - 1) = invI c then out.take (out.length - 1) else out ++ [c]
def redW (out : List Int) (l : List Int) : List Int := l.foldl pushW out
theorem pushW_len (out : List Int) (c : Int) : (pushW out c).length ≤ out.length + 1 := by
  unfold pushW; split
  · simp; omega
  · simp
theorem rd_strBytes (s : ByteArray) (i : Nat) (h : i < s.size) : (strBytes s)[i]'(by rw [strBytes_length]; exact h) = bt s (i : Int) := by
  rw [bt_data s i h]
  simp [strBytes]
theorem joined_l1 (x5 : ByteArray) (hs : x5.size ≤ 1000000) (x8 : List ByteArray) (x9 x10 : Int) : ∀ (m k i : Nat) (x3 : List Int), i + m = x5.size → x3.length + m ≤ 100000000 →
    casing_joined.l1 (k + m + 1) x3 x5 x8 x9 x10 (x5.size : Int) (i : Int) = casing_joined.l0 k (redW x3 ((strBytes x5).drop i)) x8 x9 (wrap64 (x10 + 1))
  | 0, k, i, x3, h, hl => by
    simp only [casing_joined.l1]
    rw [if_neg (by omega), List.drop_eq_nil_of_le (by rw [strBytes_length]; omega)]
    rfl
  | m + 1, k, i, x3, h, hl => by
    have hi : i < x5.size := by omega
    rw [show k + (m + 1) + 1 = (k + m + 1) + 1 from by omega]
    simp only [casing_joined.l1]
    rw [if_pos (by omega)]
    have hw : wrap64 ((i : Int) + 1) = ((i + 1 : Nat) : Int) := by rw [wrap64_small _ (by omega) (by omega)]; omega
    have hd : (strBytes x5).drop i = bt x5 i :: (strBytes x5).drop (i + 1) := by
      rw [List.drop_eq_getElem_cons (by rw [strBytes_length]; exact hi), rd_strBytes x5 i hi]
    have hstep : ∀ y, redW y ((strBytes x5).drop i) = redW (pushW y (bt x5 i)) ((strBytes x5).drop (i + 1)) := fun y => by rw [hd]; rfl
    rw [hstep, hw]
    by_cases h0 : 0 < x3.length
    rotate_left
    · rw [if_neg (by omega), if_pos (by omega), if_pos (by omega), if_pos (by omega)]
      have hp : pushW x3 (bt x5 i) = x3 ++ [bt x5 i] := by unfold pushW; rw [if_neg (fun h => h0 h.1)]
      rw [hp]
      exact joined_l1 x5 hs x8 x9 x10 m k (i + 1) _ (by omega) (by simp; omega)
    have hw1 : wrap64 ((x3.length : Int) - 1) = (x3.length : Int) - 1 := wrap64_small _ (by omega) (by omega)
    rw [if_pos (show (x3.length : Int) > 0 by omega), hw1, if_pos (by omega), if_pos (by omega), if_pos (by omega), if_pos (by omega)]
    show (some (invI (bt x5 i))).bind _ = _
    simp only [Option.bind_some]
    by_cases he : rd x3 ((x3.length : Int) - 1) = invI (bt x5 i)
    rotate_left
    · rw [if_neg he, if_pos (by omega)]
      have hp : pushW x3 (bt x5 i) = x3 ++ [bt x5 i] := by unfold pushW; rw [if_neg (fun h => he h.2)]
      rw [hp]
      exact joined_l1 x5 hs x8 x9 x10 m k (i + 1) _ (by omega) (by simp; omega)
    rw [if_pos he, if_pos (by omega)]
    have hp : pushW x3 (bt x5 i) = x3.take (x3.length - 1) := by unfold pushW; rw [if_pos ⟨h0, he⟩]
    rw [hp, show ((x3.length : Int) - 1).toNat = x3.length - 1 from by omega]
    exact joined_l1 x5 hs x8 x9 x10 m k (i + 1) _ (by omega) (by simp; omega)
theorem redW_len : ∀ (l out : List Int), (redW out l).length ≤ out.length + l.length
  | [], out => by simp [redW]
  | c :: l, out => by
    have h1 := redW_len l (pushW out c)
    have h2 := pushW_len out c
    show (redW (pushW out c) l).length ≤ _
    simp
    omega
def joinFuel : List ByteArray → Nat
  | [] => 1
  | s :: l => s.size + 2 + joinFuel l
def joinLen : List ByteArray → Nat
  | [] => 0
  | s :: l => s.size + joinLen l
theorem joined_l0 (ws : List ByteArray) (hn : ws.length ≤ 1000000) : ∀ (m i k : Nat) (x3 : List Int), i + m = ws.length → x3.length + joinLen (ws.drop i) ≤ 1000000 →
    casing_joined.l0 (k + joinFuel (ws.drop i)) x3 ws (ws.length : Int) (i : Int) = some (strOfNums (redW x3 ((ws.drop i).map strBytes).flatten))
  | 0, i, k, x3, h, hl => by
    rw [List.drop_eq_nil_of_le (by omega)]
    simp only [joinFuel, casing_joined.l0]
    rw [if_neg (by omega)]
    rfl
  | m + 1, i, k, x3, h, hl => by
    have hi : i < ws.length := by omega
    rw [List.drop_eq_getElem_cons hi] at hl ⊢
    simp only [joinLen] at hl
    have hr : rdOf ByteArray.empty ws (i : Int) = ws[i] := by simp [rdOf, hi]
    rw [show k + joinFuel (ws[i] :: ws.drop (i + 1)) = (k + joinFuel (ws.drop (i + 1)) + ws[i].size + 1) + 1 from by simp [joinFuel]; omega]
    simp only [casing_joined.l0]
    rw [if_pos (by omega), if_pos (by omega), if_pos (by omega), hr]
    have h1 := joined_l1 ws[i] (by omega) ws (ws.length : Int) (i : Int) ws[i].size (k + joinFuel (ws.drop (i + 1))) 0 x3 (by omega) (by omega)
    simp only [Int.natCast_zero, List.drop_zero] at h1
    rw [h1, wrap64_small _ (by omega) (by omega), show ((i : Int) + 1) = ((i + 1 : Nat) : Int) from by omega]
    have hlen := redW_len (strBytes ws[i]) x3
    rw [strBytes_length] at hlen
    rw [joined_l0 ws hn m (i + 1) k _ (by omega) (by omega)]
    simp only [List.map_cons, List.flatten_cons, redW, List.foldl_append]
theorem joined_f (ws : List ByteArray) (hn : ws.length ≤ 1000000) (hl : joinLen ws ≤ 1000000) (k : Nat) (hk : joinFuel ws ≤ k) :
    casing_joined.f k ws = some (strOfNums (redW [] (ws.map strBytes).flatten)) := by
  obtain ⟨q, rfl⟩ : ∃ q, k = q + joinFuel ws := ⟨k - joinFuel ws, by omega⟩
  have := joined_l0 ws hn ws.length 0 q [] (by omega) (by simpa using hl)
  simpa [casing_joined.f] using this
def letC (c : Int) : Prop := c = 97 ∨ c = 65 ∨ c = 98 ∨ c = 66
theorem letI_of {g b : Nat} (h : isLet g b = true) : letC (b : Int) := by
  simp [isLet] at h
  unfold letC
  omega
theorem letI_bytes {g : Nat} {s : ByteArray} (h : allLet g s = true) : ∀ c ∈ strBytes s, letC c := by
  intro c hc
  unfold strBytes at hc
  obtain ⟨b, hb, rfl⟩ := List.mem_map.1 hc
  unfold allLet at h
  exact letI_of (List.all_eq_true.1 h b hb)
theorem refInv_f {c : Int} (h : letC c) : remouldref01_inverse.f c = some (invI c) := by
  rcases h with rfl | rfl | rfl | rfl <;> kernel_rfl
theorem refReduce_l0 (s : ByteArray) (hs : s.size ≤ 1000000) (hlet : ∀ c ∈ strBytes s, letC c) : ∀ (m k i : Nat) (x3 : List Int), i + m = s.size → x3.length + m ≤ 100000000 →
    remouldref01_Reduce.l0 (k + m + 1) s x3 (i : Int) = some (strOfNums (redW x3 ((strBytes s).drop i)))
  | 0, k, i, x3, h, hl => by
    simp only [remouldref01_Reduce.l0]
    rw [if_neg (by omega), List.drop_eq_nil_of_le (by rw [strBytes_length]; omega)]
    rfl
  | m + 1, k, i, x3, h, hl => by
    have hi : i < s.size := by omega
    rw [show k + (m + 1) + 1 = (k + m + 1) + 1 from by omega]
    simp only [remouldref01_Reduce.l0]
    rw [if_pos (by omega)]
    have hw : wrap64 ((i : Int) + 1) = ((i + 1 : Nat) : Int) := by rw [wrap64_small _ (by omega) (by omega)]; omega
    have hd : (strBytes s).drop i = bt s i :: (strBytes s).drop (i + 1) := by
      rw [List.drop_eq_getElem_cons (by rw [strBytes_length]; exact hi), rd_strBytes s i hi]
    have hlc : letC (bt s i) := hlet _ (by rw [← rd_strBytes s i hi]; exact List.getElem_mem _)
    have hstep : ∀ y, redW y ((strBytes s).drop i) = redW (pushW y (bt s i)) ((strBytes s).drop (i + 1)) := fun y => by rw [hd]; rfl
    rw [hstep, hw, refInv_f hlc]
    by_cases h0 : 0 < x3.length
    rotate_left
    · rw [if_neg (by omega), if_pos (by omega), if_pos (by omega)]
      have hp : pushW x3 (bt s i) = x3 ++ [bt s i] := by unfold pushW; rw [if_neg (fun h => h0 h.1)]
      rw [hp]
      exact refReduce_l0 s hs hlet m k (i + 1) _ (by omega) (by simp; omega)
    have hw1 : wrap64 ((x3.length : Int) - 1) = (x3.length : Int) - 1 := wrap64_small _ (by omega) (by omega)
    rw [if_pos (show (x3.length : Int) > 0 by omega), hw1, if_pos (by omega), if_pos (by omega), if_pos (by omega)]
    simp only [Option.bind_some]
    by_cases he : rd x3 ((x3.length : Int) - 1) = invI (bt s i)
    rotate_left
    · rw [if_neg he, if_pos (by omega)]
      have hp : pushW x3 (bt s i) = x3 ++ [bt s i] := by unfold pushW; rw [if_neg (fun h => he h.2)]
      rw [hp]
      exact refReduce_l0 s hs hlet m k (i + 1) _ (by omega) (by simp; omega)
    rw [if_pos he, if_pos (by omega)]
    have hp : pushW x3 (bt s i) = x3.take (x3.length - 1) := by unfold pushW; rw [if_pos ⟨h0, he⟩]
    rw [hp, show ((x3.length : Int) - 1).toNat = x3.length - 1 from by omega]
    exact refReduce_l0 s hs hlet m k (i + 1) _ (by omega) (by simp; omega)
theorem refReduce_f (s : ByteArray) (hs : s.size ≤ 1000000) (hlet : ∀ c ∈ strBytes s, letC c) (k : Nat) (hk : s.size < k) :
    remouldref01_Reduce.f k s = some (strOfNums (redW [] (strBytes s))) := by
  obtain ⟨q, rfl⟩ : ∃ q, k = q + s.size + 1 := ⟨k - s.size - 1, by omega⟩
  have := refReduce_l0 s hs hlet s.size q 0 [] (by omega) (by simp; omega)
  simpa [remouldref01_Reduce.f] using this
end Go.Proofs.Ytmcihijobilcgaa.PAll
end
section
namespace Go.Proofs.Ytmcihijobilcgaa.PAll
open Go.RowKit Go.Proofs.YtmcihijobilcgaaW.PrintWords Go.Proofs.YtmcihijobilcgaaW.PrintLast Go.Proofs.YtmcihijobilcgaaW.PrintMore
theorem brief_f (s : ByteArray) : ∃ w, remouldlaw01_brief.f s = some w ∧ w.size ≤ 31 := by
  unfold remouldlaw01_brief.f
  have h1 : 0 ≤ mn (s.size : Int) 31 := by unfold mn; split <;> omega
  have h2 : mn (s.size : Int) 31 ≤ (s.size : Int) := by unfold mn; split <;> omega
  have h3 : mn (s.size : Int) 31 ≤ 31 := by unfold mn; split <;> omega
  rw [if_pos h1, if_pos h2]
  exact ⟨_, rfl, by rw [ByteArray.size_extract]; omega⟩
end Go.Proofs.Ytmcihijobilcgaa.PAll
end
section
namespace Go.Proofs.Ytmcihijobilcgaa.PAll
open Go.RowKit Go.Proofs.YtmcihijobilcgaaW.PrintWords Go.Proofs.YtmcihijobilcgaaW.PrintLast Go.Proofs.YtmcihijobilcgaaW.PrintMore
def briefB (s : ByteArray) : ByteArray := s.extract 0 (mn (s.size : Int) 31).toNat
theorem brief_eq (s : ByteArray) : remouldlaw01_brief.f s = some (briefB s) := by
  unfold remouldlaw01_brief.f
  have h1 : 0 ≤ mn (s.size : Int) 31 := by unfold mn; split <;> omega
  have h2 : mn (s.size : Int) 31 ≤ (s.size : Int) := by unfold mn; split <;> omega
  rw [if_pos h1, if_pos h2]
  rfl
theorem briefB_size (s : ByteArray) : (briefB s).size ≤ 31 := by
  obtain ⟨w, h, hw⟩ := brief_f s
  rw [brief_eq] at h
  cases h
  exact hw
def groupR (l : List ByteArray) : List ByteArray := (l.take 7).map briefB
theorem groupR_len (l : List ByteArray) : (groupR l).length ≤ 7 := by simp [groupR]; omega
theorem groupR_size (l : List ByteArray) : ∀ s ∈ groupR l, s.size ≤ 31 := by
  intro s hs
  obtain ⟨t, _, rfl⟩ := List.mem_map.1 hs
  exact briefB_size t
theorem group_l0 (a : Int) (l : List ByteArray) : ∀ (m i k : Nat), i + m = 7 → m < k →
    remouldlaw01_group.l0 k ((l.take i).map briefB) (i : Int) a l = some (a, groupR l)
  | 0, i, k, h, hk => by
    obtain ⟨k, rfl⟩ : ∃ q, k = q + 1 := ⟨k - 1, by omega⟩
    obtain rfl : i = 7 := by omega
    simp only [remouldlaw01_group.l0]
    by_cases hl : (7 : Int) < (l.length : Int)
    · rw [if_pos (by simpa using hl), if_neg (by omega)]; rfl
    · rw [if_neg (by simpa using hl)]; rfl
  | m + 1, i, k, h, hk => by
    obtain ⟨k, rfl⟩ : ∃ q, k = q + 1 := ⟨k - 1, by omega⟩
    simp only [remouldlaw01_group.l0]
    by_cases hl : i < l.length
    rotate_left
    · rw [if_neg (by omega)]
      have : l.take i = l.take 7 := by rw [List.take_of_length_le (by omega), List.take_of_length_le (by omega)]
      rw [this]
      rfl
    rw [if_pos (by omega), if_pos (by omega), if_pos (by omega), brief_eq]
    simp only [Option.bind_some]
    have hlen : ((l.take i).map briefB).length ≤ 7 := by simp; omega
    rw [if_pos (by omega), wrap64_small _ (by omega) (by omega), show ((i : Int) + 1) = ((i + 1 : Nat) : Int) from by omega]
    have ih := group_l0 a l m (i + 1) k (by omega) (by omega)
    have hr : rdOf ByteArray.empty l (i : Int) = l[i] := by simp [rdOf, hl]
    rw [hr, ← ih, List.take_succ_eq_append_getElem hl, List.map_append]
    rfl
theorem group_f (a : Int) (l : List ByteArray) (k : Nat) (hk : 8 ≤ k) : remouldlaw01_group.f k a l = some (a, groupR l) := by
  have := group_l0 a l 7 0 k (by omega) (by omega)
  simpa [remouldlaw01_group.f] using this
def wordOK (a : Int) (s : ByteArray) : Bool := decide (s.size ≤ 30) && allLet a.toNat s
def isGroupB (a : Int) (R : List ByteArray) : Bool := decide ((1 ≤ a ∧ a ≤ 2) ∧ R.length ≤ 6) && R.all (wordOK a)
theorem isGroup_f (a : Int) (R : List ByteArray) : casing_isGroup.f a R = some (isGroupB a R) := by
  unfold casing_isGroup.f isGroupB
  by_cases h : (1 ≤ a ∧ a ≤ 2) ∧ R.length ≤ 6
  · rw [if_pos h, decide_eq_true h, Bool.true_and]
    congr 1
    exact congrArg (fun f => R.all f) (funext fun s => wordB_eq a.toNat (by omega) s)
  · rw [if_neg h, decide_eq_false h, Bool.false_and]
theorem refGroup_l0 (a : Int) (ha : a = 1 ∨ a = 2) (R : List ByteArray) (hR : R.length ≤ 7) (hs : ∀ s ∈ R, s.size ≤ 31) : ∀ (m i k : Nat), i + m = R.length → m + 40 ≤ k →
    remouldref01_Group.l0 k (i : Int) a R = some ((R.drop i).all (wordOK a))
  | 0, i, k, h, hk => by
    obtain ⟨k, rfl⟩ : ∃ q, k = q + 1 := ⟨k - 1, by omega⟩
    simp only [remouldref01_Group.l0]
    rw [if_neg (by omega), List.drop_eq_nil_of_le (by omega)]
    rfl
  | m + 1, i, k, h, hk => by
    obtain ⟨k, rfl⟩ : ∃ q, k = q + 1 := ⟨k - 1, by omega⟩
    have hi : i < R.length := by omega
    simp only [remouldref01_Group.l0]
    have hr : rdOf ByteArray.empty R (i : Int) = R[i] := by simp [rdOf, hi]
    have hsz : R[i].size ≤ 31 := hs _ (List.getElem_mem hi)
    rw [if_pos (by omega), if_pos (by omega), hr, refWord_f a R[i] (by omega) k (by omega)]
    simp only [Option.bind_some]
    rw [wrap64_small _ (by omega) (by omega), show ((i : Int) + 1) = ((i + 1 : Nat) : Int) from by omega, refGroup_l0 a ha R hR hs m (i + 1) k (by omega) (by omega)]
    rw [List.drop_eq_getElem_cons hi, List.all_cons]
    have e : (decide ((a = 1 ∨ a = 2) ∧ R[i].size ≤ 30) && allLet a.toNat R[i]) = wordOK a R[i] := by
      unfold wordOK
      congr 1
      exact decide_eq_decide.2 ⟨fun h => h.2, fun h => ⟨ha, h⟩⟩
    rw [e]
    cases wordOK a R[i] <;> simp
theorem refGroup_f (a : Int) (R : List ByteArray) (hR : R.length ≤ 7) (hs : ∀ s ∈ R, s.size ≤ 31) (k : Nat) (hk : 60 ≤ k) : remouldref01_Group.f k a R = some (isGroupB a R) := by
  obtain ⟨k, rfl⟩ : ∃ q, k = q + 1 := ⟨k - 1, by omega⟩
  unfold remouldref01_Group.f isGroupB
  simp only [remouldref01_Group.j0]
  by_cases h1 : a < 1
  · rw [if_pos h1, decide_eq_false (by omega)]; simp
  rw [if_neg h1]
  by_cases h2 : a > 2
  · rw [if_pos h2, decide_eq_false (by omega)]; simp
  rw [if_neg h2]
  by_cases h3 : (R.length : Int) > 6
  · rw [decide_eq_true h3, decide_eq_false (by omega)]; simp
  rw [decide_eq_false h3, decide_eq_true (by omega)]
  simp only [Bool.true_and]
  rw [if_neg (by simp)]
  have := refGroup_l0 a (by omega) R hR hs R.length 0 k (by omega) (by omega)
  simpa using this
theorem isGroupB_let {a : Int} {R : List ByteArray} (h : isGroupB a R = true) : (a = 1 ∨ a = 2) ∧ R.length ≤ 6 ∧ ∀ s ∈ R, s.size ≤ 30 ∧ allLet a.toNat s = true := by
  unfold isGroupB at h
  simp only [Bool.and_eq_true, decide_eq_true_eq, List.all_eq_true] at h
  refine ⟨by omega, h.1.2, fun s hs => ?_⟩
  have := h.2 s hs
  unfold wordOK at this
  simpa using this
end Go.Proofs.Ytmcihijobilcgaa.PAll
end
section
namespace Go.Proofs.Ytmcihijobilcgaa.PAll
open Go.RowKit Go.Proofs.YtmcihijobilcgaaW.PrintWords Go.Proofs.YtmcihijobilcgaaW.PrintLast Go.Proofs.YtmcihijobilcgaaW.PrintMore
def expStep (p : Int × Int) (c : Int) : Int × Int := if c = 97 then (p.1 + 1, p.2) else if c = 65 then (p.1 - 1, p.2) else if c = 98 then (p.1, p.2 + 1) else (p.1, p.2 - 1)
def exps (l : List Int) : Int × Int := l.foldl expStep (0, 0)
theorem expStep_bd (p : Int × Int) (c : Int) (n : Nat) (h : p.1.natAbs ≤ n ∧ p.2.natAbs ≤ n) : (expStep p c).1.natAbs ≤ n + 1 ∧ (expStep p c).2.natAbs ≤ n + 1 := by
  unfold expStep
  repeat' split
  all_goals constructor <;> dsimp only <;> omega
theorem expFold_bd : ∀ (l : List Int) (p : Int × Int) (n : Nat), (p.1.natAbs ≤ n ∧ p.2.natAbs ≤ n) → (l.foldl expStep p).1.natAbs ≤ n + l.length ∧ (l.foldl expStep p).2.natAbs ≤ n + l.length
  | [], p, n, h => by simpa using h
  | c :: l, p, n, h => by
    have := expFold_bd l (expStep p c) (n + 1) (expStep_bd p c n h)
    simp only [List.foldl_cons, List.length_cons]
    omega
theorem exps_bd (l : List Int) : (exps l).1.natAbs ≤ l.length ∧ (exps l).2.natAbs ≤ l.length := by
  have := expFold_bd l (0, 0) 0 (by simp)
  simpa [exps] using this
theorem wrapS (n : Int) (h : n.natAbs ≤ 1000000000) : wrap64 n = n := wrap64_small n (by omega) (by omega)
theorem exponents_l0 (s : ByteArray) (hs : s.size ≤ 1000000) (hlet : ∀ c ∈ strBytes s, letC c) : ∀ (m k i : Nat) (p : Int × Int), i + m = s.size → (p.1.natAbs ≤ i ∧ p.2.natAbs ≤ i) → m < k →
    casing_exponents.l0 k s (s.size : Int) (i : Int) p.1 p.2 = some (((strBytes s).drop i).foldl expStep p)
  | 0, k, i, p, h, hp, hk => by
    obtain ⟨k, rfl⟩ : ∃ q, k = q + 1 := ⟨k - 1, by omega⟩
    simp only [casing_exponents.l0]
    rw [if_neg (by omega), List.drop_eq_nil_of_le (by rw [strBytes_length]; omega)]
    rfl
  | m + 1, k, i, p, h, hp, hk => by
    obtain ⟨k, rfl⟩ : ∃ q, k = q + 1 := ⟨k - 1, by omega⟩
    have hi : i < s.size := by omega
    have hd : (strBytes s).drop i = bt s i :: (strBytes s).drop (i + 1) := by
      rw [List.drop_eq_getElem_cons (by rw [strBytes_length]; exact hi), rd_strBytes s i hi]
    have hlc : letC (bt s i) := hlet _ (by rw [← rd_strBytes s i hi]; exact List.getElem_mem _)
    simp only [casing_exponents.l0]
    rw [if_pos (by omega), if_pos (by omega), if_pos (by omega), hd, List.foldl_cons]
    rw [wrapS ((i : Int) + 1) (by omega), show ((i : Int) + 1) = ((i + 1 : Nat) : Int) from by omega]
    have ih := exponents_l0 s hs hlet m k (i + 1) (expStep p (bt s i)) (by omega) (expStep_bd p _ i hp) (by omega)
    rw [← ih]
    have f0 : wrap64 (Int.tdiv 0 2) = 0 := by kernel_rfl
    have f1 : wrap64 (Int.tdiv 1 2) = 0 := by kernel_rfl
    have f2 : wrap64 (Int.tdiv 2 2) = 1 := by kernel_rfl
    have f3 : wrap64 (Int.tdiv 3 2) = 1 := by kernel_rfl
    have g0 : wrap64 (1 - wrap64 (Int.tmod 0 2 * 2)) = 1 := by kernel_rfl
    have g1 : wrap64 (1 - wrap64 (Int.tmod 1 2 * 2)) = -1 := by kernel_rfl
    have g2 : wrap64 (1 - wrap64 (Int.tmod 2 2 * 2)) = 1 := by kernel_rfl
    have g3 : wrap64 (1 - wrap64 (Int.tmod 3 2 * 2)) = -1 := by kernel_rfl
    have ht : ¬ (1 : Int) = 0 := by omega
    rcases hlc with e | e | e | e
    · have hx : strings_IndexByte.f (⟨#[97, 65, 98, 66]⟩ : ByteArray) (bt s i) = some 0 := by rw [e]; kernel_rfl
      have hs1 : expStep p (bt s i) = (p.1 + 1, p.2) := by rw [e]; rfl
      rw [hx, hs1]
      simp only [Option.bind_some]
      rw [f0, g0, if_pos rfl, wrapS _ (by omega)]
    · have hx : strings_IndexByte.f (⟨#[97, 65, 98, 66]⟩ : ByteArray) (bt s i) = some 1 := by rw [e]; kernel_rfl
      have hs1 : expStep p (bt s i) = (p.1 + -1, p.2) := by rw [e]; rfl
      rw [hx, hs1]
      simp only [Option.bind_some]
      rw [f1, g1, if_pos rfl, wrapS _ (by omega)]
    · have hx : strings_IndexByte.f (⟨#[97, 65, 98, 66]⟩ : ByteArray) (bt s i) = some 2 := by rw [e]; kernel_rfl
      have hs1 : expStep p (bt s i) = (p.1, p.2 + 1) := by rw [e]; rfl
      rw [hx, hs1]
      simp only [Option.bind_some]
      rw [f2, g2, if_neg ht, if_pos rfl, wrapS _ (by omega)]
    · have hx : strings_IndexByte.f (⟨#[97, 65, 98, 66]⟩ : ByteArray) (bt s i) = some 3 := by rw [e]; kernel_rfl
      have hs1 : expStep p (bt s i) = (p.1, p.2 + -1) := by rw [e]; rfl
      rw [hx, hs1]
      simp only [Option.bind_some]
      rw [f3, g3, if_neg ht, if_pos rfl, wrapS _ (by omega)]
theorem exponents_f (s : ByteArray) (hs : s.size ≤ 1000000) (hlet : ∀ c ∈ strBytes s, letC c) (k : Nat) (hk : s.size < k) : casing_exponents.f k s = some (exps (strBytes s)) := by
  have := exponents_l0 s hs hlet s.size k 0 (0, 0) (by omega) (by simp) hk
  simpa [casing_exponents.f, exps] using this
theorem letter_let {c : Int} (h : letC c) (k : Nat) : remouldref01_letter.f (k + 1) c 2 = some (if c = 97 then (0, false, true) else if c = 65 then (0, true, true) else if c = 98 then (1, false, true) else (1, true, true)) := by
  rcases h with rfl | rfl | rfl | rfl <;> (unfold remouldref01_letter.f; simp only [remouldref01_letter.j0]; simp)
theorem refExponents_l0 (s : ByteArray) (hs : s.size ≤ 1000000) (hlet : ∀ c ∈ strBytes s, letC c) : ∀ (m k i : Nat) (p : Int × Int), i + m = s.size → (p.1.natAbs ≤ i ∧ p.2.natAbs ≤ i) → m + 1 < k →
    remouldref01_Exponents.l0 k s (i : Int) p.1 p.2 = some (((strBytes s).drop i).foldl expStep p)
  | 0, k, i, p, h, hp, hk => by
    obtain ⟨k, rfl⟩ : ∃ q, k = q + 1 := ⟨k - 1, by omega⟩
    simp only [remouldref01_Exponents.l0]
    rw [if_neg (by omega), List.drop_eq_nil_of_le (by rw [strBytes_length]; omega)]
    rfl
  | m + 1, k, i, p, h, hp, hk => by
    obtain ⟨k, rfl⟩ : ∃ q, k = q + 1 := ⟨k - 1, by omega⟩
    have hi : i < s.size := by omega
    have hd : (strBytes s).drop i = bt s i :: (strBytes s).drop (i + 1) := by
      rw [List.drop_eq_getElem_cons (by rw [strBytes_length]; exact hi), rd_strBytes s i hi]
    have hlc : letC (bt s i) := hlet _ (by rw [← rd_strBytes s i hi]; exact List.getElem_mem _)
    simp only [remouldref01_Exponents.l0]
    obtain ⟨q, rfl⟩ : ∃ q, k = q + 1 := ⟨k - 1, by omega⟩
    rw [if_pos (by omega), if_pos (by omega), letter_let hlc q, hd, List.foldl_cons]
    simp only [Option.bind_some]
    rw [wrapS ((i : Int) + 1) (by omega), show ((i : Int) + 1) = ((i + 1 : Nat) : Int) from by omega]
    have ih := refExponents_l0 s hs hlet m (q + 1) (i + 1) (expStep p (bt s i)) (by omega) (expStep_bd p _ i hp) (by omega)
    rw [wrapS (p.1 + 1) (by omega), wrapS (p.1 - 1) (by omega), wrapS (p.2 + 1) (by omega), wrapS (p.2 - 1) (by omega)]
    rw [← ih]
    rcases hlc with e | e | e | e <;> (rw [e]; simp [expStep])
theorem refExponents_f (s : ByteArray) (hs : s.size ≤ 1000000) (hlet : ∀ c ∈ strBytes s, letC c) (k : Nat) (hk : s.size + 1 < k) : remouldref01_Exponents.f k s = some (exps (strBytes s)) := by
  have := refExponents_l0 s hs hlet s.size k 0 (0, 0) (by omega) (by simp) hk
  simpa [remouldref01_Exponents.f, exps] using this
theorem mx_natAbs (a : Int) (h : a.natAbs ≤ 1000000000) : mx a (wrap64 (-a)) = (a.natAbs : Int) := by
  rw [wrapS _ (by omega)]
  unfold mx
  split <;> omega
theorem gcd_l0 : ∀ (n k : Nat) (a b : Int), b.natAbs < n → n ≤ k → a.natAbs ≤ 1000000000 → b.natAbs ≤ 1000000000 → casing_gcd.l0 k a b = some ((Int.gcd a b : Nat) : Int)
  | 0, k, a, b, h, _, _, _ => absurd h (by omega)
  | n + 1, k, a, b, h, hk, ha, hb => by
    obtain ⟨k, rfl⟩ : ∃ q, k = q + 1 := ⟨k - 1, by omega⟩
    simp only [casing_gcd.l0]
    by_cases h0 : b = 0
    · subst h0
      rw [if_pos rfl, mx_natAbs a ha]
      simp [Int.gcd]
    rw [if_neg h0]
    have hm : (Int.tmod a b).natAbs < b.natAbs := by
      rw [Int.natAbs_tmod]
      exact Nat.mod_lt _ (by omega)
    rw [gcd_l0 n k b (Int.tmod a b) (by omega) (by omega) hb (by omega)]
    congr 2
    unfold Int.gcd
    rw [Int.natAbs_tmod, Nat.gcd_comm, ← Nat.gcd_rec, Nat.gcd_comm]
theorem gcd_f (a b : Int) (ha : a.natAbs ≤ 1000000) (hb : b.natAbs ≤ 1000000) (k : Nat) (hk : b.natAbs < k) : casing_gcd.f k a b = some ((Int.gcd a b : Nat) : Int) :=
  gcd_l0 (b.natAbs + 1) k a b (by omega) (by omega) (by omega) (by omega)
theorem refGcd_l0 : ∀ (n k : Nat) (a b : Nat), b < n → n ≤ k → remouldref01_Gcd.l0 k (a : Int) (b : Int) = some ((Nat.gcd a b : Nat) : Int)
  | 0, k, a, b, h, _ => absurd h (by omega)
  | n + 1, k, a, b, h, hk => by
    obtain ⟨k, rfl⟩ : ∃ q, k = q + 1 := ⟨k - 1, by omega⟩
    simp only [remouldref01_Gcd.l0]
    by_cases h0 : b = 0
    · subst h0
      rw [if_neg (by simp)]
      simp
    rw [if_pos (by omega), if_neg (by omega)]
    have hm := Nat.mod_lt a (show 0 < b by omega)
    rw [show Int.tmod (a : Int) (b : Int) = ((a % b : Nat) : Int) from rfl, refGcd_l0 n k b (a % b) (by omega) (by omega)]
    congr 2
    rw [Nat.gcd_comm, ← Nat.gcd_rec, Nat.gcd_comm]
theorem refGcd_f (a b : Int) (ha : a.natAbs ≤ 1000000) (hb : b.natAbs ≤ 1000000) (k : Nat) (hk : b.natAbs < k) : remouldref01_Gcd.f k a b = some ((Int.gcd a b : Nat) : Int) := by
  unfold remouldref01_Gcd.f
  rw [mx_natAbs a (by omega), mx_natAbs b (by omega)]
  exact refGcd_l0 (b.natAbs + 1) k a.natAbs b.natAbs (by omega) (by omega)
end Go.Proofs.Ytmcihijobilcgaa.PAll
end
section
namespace Go.Proofs.Ytmcihijobilcgaa.PAll
open Go.RowKit Go.Proofs.YtmcihijobilcgaaW.PrintWords Go.Proofs.YtmcihijobilcgaaW.PrintLast Go.Proofs.YtmcihijobilcgaaW.PrintMore
def minor (x y : Int × Int) : Int := x.1 * y.2 - x.2 * y.1
def facE (x : Int × Int) (ys : List (Int × Int)) (e : Nat) : Nat := ys.foldl (fun e y => Int.gcd (e : Int) (minor x y)) e
def facAt (E : List (Int × Int)) : Nat → Nat × Nat
  | 0 => (0, 0)
  | i + 1 => (Int.gcd ((facAt E i).1 : Int) ((Int.gcd (E.getD i (0, 0)).1 (E.getD i (0, 0)).2 : Nat) : Int), facE (E.getD i (0, 0)) (E.take i) (facAt E i).2)
def expsR (R : List ByteArray) : List (Int × Int) := R.map fun s => exps (strBytes s)
theorem gcd_bd {a b B : Nat} (ha : a ≤ B) (hb : b ≤ B) : Nat.gcd a b ≤ B := by
  rcases Nat.eq_zero_or_pos a with rfl | h
  · simpa using hb
  · exact Nat.le_trans (Nat.gcd_le_left b h) ha
theorem mul_bd {a b : Int} (ha : a.natAbs ≤ 31) (hb : b.natAbs ≤ 31) : (a * b).natAbs ≤ 961 := by
  rw [Int.natAbs_mul]
  exact Nat.mul_le_mul ha hb
def smallP (x : Int × Int) : Prop := x.1.natAbs ≤ 31 ∧ x.2.natAbs ≤ 31
theorem minor_bd {x y : Int × Int} (hx : smallP x) (hy : smallP y) : (minor x y).natAbs ≤ 1922 := by
  have h1 := mul_bd hx.1 hy.2
  have h2 := mul_bd hx.2 hy.1
  unfold minor
  omega
theorem facE_bd (x : Int × Int) (hx : smallP x) : ∀ (ys : List (Int × Int)) (e : Nat), e ≤ 1922 → (∀ y ∈ ys, smallP y) → facE x ys e ≤ 1922
  | [], e, h, _ => h
  | y :: ys, e, h, hy => by
    have h1 : Int.gcd (e : Int) (minor x y) ≤ 1922 := gcd_bd (by simpa using h) (minor_bd hx (hy y (by simp)))
    exact facE_bd x hx ys _ h1 (fun z hz => hy z (by simp [hz]))
theorem getD_small {E : List (Int × Int)} (hE : ∀ x ∈ E, smallP x) (i : Nat) : smallP (E.getD i (0, 0)) := by
  by_cases h : i < E.length
  · have e : E.getD i (0, 0) = E[i] := by simp [List.getD, h]
    rw [e]
    exact hE _ (List.getElem_mem h)
  · have e : E.getD i (0, 0) = (0, 0) := by simp [List.getD, h]
    rw [e]
    exact ⟨by simp, by simp⟩
theorem facAt_bd (E : List (Int × Int)) (hE : ∀ x ∈ E, smallP x) : ∀ i, (facAt E i).1 ≤ 31 ∧ (facAt E i).2 ≤ 1922
  | 0 => by simp [facAt]
  | i + 1 => by
    have ih := facAt_bd E hE i
    have hx := getD_small hE i
    refine ⟨gcd_bd (by simpa using ih.1) ?_, facE_bd _ hx _ _ ih.2 (fun y hy => hE y (List.mem_of_mem_take hy))⟩
    simp only [Int.natAbs_natCast]
    exact gcd_bd hx.1 hx.2
theorem expsR_small {R : List ByteArray} (hs : ∀ s ∈ R, s.size ≤ 31) : ∀ x ∈ expsR R, smallP x := by
  intro x hx
  obtain ⟨s, h, rfl⟩ := List.mem_map.1 hx
  have := exps_bd (strBytes s)
  rw [strBytes_length] at this
  have := hs s h
  unfold smallP
  omega
theorem wrap_minor {x y : Int × Int} (hx : smallP x) (hy : smallP y) : wrap64 ((wrap64 (x.1 * y.2)) - (wrap64 (x.2 * y.1))) = minor x y := by
  have h1 := mul_bd hx.1 hy.2
  have h2 := mul_bd hx.2 hy.1
  rw [wrapS (x.1 * y.2) (by omega), wrapS (x.2 * y.1) (by omega), wrapS (x.1 * y.2 - x.2 * y.1) (by omega)]
  rfl
theorem expsR_getD (R : List ByteArray) (i : Nat) (h : i < R.length) : (expsR R).getD i (0, 0) = exps (strBytes R[i]) := by
  simp [expsR, List.getD, h]
section
variable (R : List ByteArray) (hR : R.length ≤ 7) (hs : ∀ s ∈ R, s.size ≤ 31) (hlet : ∀ s ∈ R, ∀ c ∈ strBytes s, letC c) (g : Int)
include hR hs hlet
theorem Factors_l1 (x : Int × Int) (hx : smallP x) (d : Int) (i : Nat) (hi : i < R.length) : ∀ (m j k : Nat) (e : Nat), j + m = i → e ≤ 1922 → m + 2000 ≤ k →
    casing_Factors.l1 k d (e : Int) R (R.length : Int) (i : Int) (R.take i) ((R.take i).length : Int) (j : Int) g R x.1 x.2 = casing_Factors.l0 (k - m - 1) d (facE x (((expsR R).take i).drop j) e : Nat) R (R.length : Int) ((i + 1 : Nat) : Int) g R
  | 0, j, k, e, h, he, hk => by
    obtain ⟨k, rfl⟩ : ∃ q, k = q + 1 := ⟨k - 1, by omega⟩
    have hlen : (R.take i).length = i := by simp; omega
    simp only [casing_Factors.l1]
    rw [if_neg (by omega), wrapS _ (by omega), List.drop_eq_nil_of_le (by simp [expsR]; omega)]
    rfl
  | m + 1, j, k, e, h, he, hk => by
    obtain ⟨k, rfl⟩ : ∃ q, k = q + 1 := ⟨k - 1, by omega⟩
    have hlen : (R.take i).length = i := by simp; omega
    have hj : j < R.length := by omega
    have hr : rdOf ByteArray.empty (R.take i) (j : Int) = R[j] := by simp [rdOf, List.getElem?_take, show j < i by omega, hj]
    have hsz : R[j].size ≤ 31 := hs _ (List.getElem_mem hj)
    have hy : smallP (exps (strBytes R[j])) := expsR_small hs _ (List.mem_map.2 ⟨R[j], List.getElem_mem hj, rfl⟩)
    have hd : ((expsR R).take i).drop j = exps (strBytes R[j]) :: ((expsR R).take i).drop (j + 1) := by
      rw [List.drop_eq_getElem_cons (by simp [expsR]; omega)]
      congr 1
      simp [expsR]
    simp only [casing_Factors.l1]
    rw [if_pos (by omega), if_pos (by omega), if_pos (by omega), hr, exponents_f _ (by omega) (hlet _ (List.getElem_mem hj)) k (by omega)]
    simp only [Option.bind_some]
    have hm := minor_bd hx hy
    rw [wrap_minor hx hy, gcd_f _ _ (by simp; omega) (by omega) k (by omega)]
    simp only [Option.bind_some]
    rw [wrapS _ (by omega), show ((j : Int) + 1) = ((j + 1 : Nat) : Int) from by omega]
    have he' : Int.gcd (e : Int) (minor x (exps (strBytes R[j]))) ≤ 1922 := gcd_bd (by simpa using he) hm
    rw [Factors_l1 x hx d i hi m (j + 1) k _ (by omega) he' (by omega), hd, show k + 1 - (m + 1) - 1 = k - m - 1 from by omega]
    rfl
theorem Factors_l0 : ∀ (m i k : Nat), i + m = R.length → 3000 + 20 * m ≤ k →
    ∃ q, 2900 ≤ q ∧ casing_Factors.l0 k ((facAt (expsR R) i).1 : Int) ((facAt (expsR R) i).2 : Int) R (R.length : Int) (i : Int) g R = casing_Factors.l0 q ((facAt (expsR R) R.length).1 : Int) ((facAt (expsR R) R.length).2 : Int) R (R.length : Int) (R.length : Int) g R
  | 0, i, k, h, hk => by
    obtain rfl : i = R.length := by omega
    exact ⟨k, by omega, rfl⟩
  | m + 1, i, k, h, hk => by
    obtain ⟨k, rfl⟩ : ∃ q, k = q + 1 := ⟨k - 1, by omega⟩
    have hi : i < R.length := by omega
    have hr : rdOf ByteArray.empty R (i : Int) = R[i] := by simp [rdOf, hi]
    have hsz : R[i].size ≤ 31 := hs _ (List.getElem_mem hi)
    have hx : smallP (exps (strBytes R[i])) := expsR_small hs _ (List.mem_map.2 ⟨R[i], List.getElem_mem hi, rfl⟩)
    have hb := facAt_bd (expsR R) (expsR_small hs) i
    have hg1 : Int.gcd (exps (strBytes R[i])).1 (exps (strBytes R[i])).2 ≤ 31 := gcd_bd hx.1 hx.2
    have he := expsR_getD R i hi
    obtain ⟨q, hq, ih⟩ := Factors_l0 m (i + 1) (k - i - 1) (by omega) (by omega)
    refine ⟨q, hq, ?_⟩
    rw [← ih]
    simp only [casing_Factors.l0]
    rw [if_pos (by omega), if_pos (by omega), if_pos (by omega), hr, exponents_f _ (by omega) (hlet _ (List.getElem_mem hi)) k (by omega)]
    simp only [Option.bind_some]
    have hx1 := hx.1
    have hx2 := hx.2
    rw [gcd_f _ _ (by omega) (by omega) k (by omega)]
    simp only [Option.bind_some]
    rw [gcd_f _ _ (by simp; omega) (by simp; omega) k (by omega)]
    simp only [Option.bind_some]
    rw [if_pos (by omega)]
    simp only [Int.toNat_natCast]
    have h1 := Factors_l1 R hR hs hlet g (exps (strBytes R[i])) hx ((Int.gcd ((facAt (expsR R) i).1 : Int) ((Int.gcd (exps (strBytes R[i])).1 (exps (strBytes R[i])).2 : Nat) : Int) : Nat) : Int) i hi i 0 k (facAt (expsR R) i).2 (by omega) hb.2 (by omega)
    simp only [List.drop_zero] at h1
    refine Eq.trans ?_ (Eq.trans h1 ?_)
    · rfl
    · simp only [facAt, he]
end
def facAll (g : Int) (d e : Nat) : List Int := if g = 2 then [(d : Int), ((e / max d 1 : Nat) : Int)] else [(d : Int)]
def facFree (l : List Int) : Nat := l.countP fun n => n == 0
def facOut (l : List Int) : List Int := l.filter fun n => decide (n > 1)
theorem Factors_l2 (l : List Int) (hl : l.length ≤ 10) : ∀ (m i k : Nat) (out : List Int) (r : Nat), i + m = l.length → out.length + m ≤ 100 → r + m ≤ 100 → m < k →
    casing_Factors.l2 k out (r : Int) l (l.length : Int) (i : Int) = some (out ++ facOut (l.drop i), ((r + facFree (l.drop i) : Nat) : Int), 0)
  | 0, i, k, out, r, h, ho, hr, hk => by
    obtain ⟨k, rfl⟩ : ∃ q, k = q + 1 := ⟨k - 1, by omega⟩
    simp only [casing_Factors.l2]
    rw [if_neg (by omega), List.drop_eq_nil_of_le (by omega)]
    simp [facOut, facFree]
  | m + 1, i, k, out, r, h, ho, hr, hk => by
    obtain ⟨k, rfl⟩ : ∃ q, k = q + 1 := ⟨k - 1, by omega⟩
    have hi : i < l.length := by omega
    have hrd : rd l (i : Int) = l[i] := by simp [rd, hi]
    simp only [casing_Factors.l2]
    rw [if_pos (by omega), if_pos (by omega), if_pos (by omega), hrd, wrapS ((i : Int) + 1) (by omega), wrapS ((r : Int) + 1) (by omega), List.drop_eq_getElem_cons hi, show ((i : Int) + 1) = ((i + 1 : Nat) : Int) from by omega, show ((r : Int) + 1) = ((r + 1 : Nat) : Int) from by omega]
    by_cases h0 : l[i] = 0
    · rw [if_pos h0, Factors_l2 l hl m (i + 1) k out (r + 1) (by omega) (by omega) (by omega) (by omega)]
      obtain ⟨rest, hrest⟩ : ∃ r, l.drop (i + 1) = r := ⟨_, rfl⟩
      rw [hrest]
      simp [facOut, facFree, h0]
      omega
    rw [if_neg h0]
    by_cases h1 : l[i] > 1
    rotate_left
    · rw [if_neg h1, Factors_l2 l hl m (i + 1) k out r (by omega) (by omega) (by omega) (by omega)]
      obtain ⟨rest, hrest⟩ : ∃ r, l.drop (i + 1) = r := ⟨_, rfl⟩
      rw [hrest]
      simp [facOut, facFree, h0, h1]
    rw [if_pos h1, if_pos (by omega), Factors_l2 l hl m (i + 1) k _ r (by omega) (by simp; omega) (by omega) (by omega)]
    obtain ⟨rest, hrest⟩ : ∃ r, l.drop (i + 1) = r := ⟨_, rfl⟩
    rw [hrest]
    simp [facOut, facFree, h0, h1]
theorem Factors_f (g : Int) (R : List ByteArray) (h : isGroupB g R = true) (k : Nat) (hk : 4000 ≤ k) :
    casing_Factors.f k g R = some (facOut (facAll g (facAt (expsR R) R.length).1 (facAt (expsR R) R.length).2), (facFree (facAll g (facAt (expsR R) R.length).1 (facAt (expsR R) R.length).2) : Int), 0) := by
  obtain ⟨hg, hR, hw⟩ := isGroupB_let h
  have hs : ∀ s ∈ R, s.size ≤ 31 := fun s hm => by have := (hw s hm).1; omega
  have hlet : ∀ s ∈ R, ∀ c ∈ strBytes s, letC c := fun s hm => letI_bytes (hw s hm).2
  unfold casing_Factors.f
  rw [isGroup_f, h]
  simp only [Option.bind_some, if_true]
  obtain ⟨q, hq, e⟩ := Factors_l0 R (by omega) hs hlet g R.length 0 k (by omega) (by omega)
  have e' : casing_Factors.l0 k 0 0 R (R.length : Int) 0 g R = _ := e
  rw [e']
  obtain ⟨q, rfl⟩ : ∃ p, q = p + 2 := ⟨q - 2, by omega⟩
  have hb := facAt_bd (expsR R) (expsR_small hs) R.length
  obtain ⟨⟨d, e⟩, hde⟩ : ∃ p, facAt (expsR R) R.length = p := ⟨_, rfl⟩
  rw [hde] at hb ⊢
  dsimp only at hb ⊢
  simp only [casing_Factors.l0]
  rw [if_neg (by omega)]
  unfold facAll
  have hmx : mx (d : Int) 1 = ((max d 1 : Nat) : Int) := by unfold mx; split <;> omega
  have hdiv : e / max d 1 ≤ e := Nat.div_le_self _ _
  by_cases h2 : g = 2
  rotate_left
  · rw [if_neg h2, if_neg h2]
    simp only [casing_Factors.j2]
    have := Factors_l2 [(d : Int)] (by simp) 1 0 q [] 0 rfl (by simp) (by omega) (by omega)
    simpa using this
  rw [if_pos h2, if_pos h2, hmx, if_neg (by omega), show Int.tdiv (e : Int) ((max d 1 : Nat) : Int) = ((e / max d 1 : Nat) : Int) from rfl, wrapS ((e / max d 1 : Nat) : Int) (by rw [Int.natAbs_natCast]; omega)]
  simp only [casing_Factors.j2]
  have := Factors_l2 [(d : Int), ((e / max d 1 : Nat) : Int)] (by simp) 2 0 q [] 0 rfl (by simp) (by omega) (by omega)
  simpa using this
theorem Factors_no (g : Int) (R : List ByteArray) (h : isGroupB g R = false) (k : Nat) : casing_Factors.f k g R = some ([], 0, 2) := by
  unfold casing_Factors.f
  rw [isGroup_f, h]
  rfl
theorem facE_zero : ∀ (ys : List (Int × Int)), facE (0, 0) ys 0 = 0
  | [] => rfl
  | y :: ys => by
    show facE (0, 0) ys (Int.gcd ((0 : Nat) : Int) (minor (0, 0) y)) = 0
    have : Int.gcd ((0 : Nat) : Int) (minor (0, 0) y) = 0 := by simp [minor]
    rw [this]
    exact facE_zero ys
theorem facAt_zero (E : List (Int × Int)) : ∀ i, (facAt E i).1 = 0 → (facAt E i).2 = 0
  | 0, _ => rfl
  | i + 1, h => by
    simp only [facAt] at h ⊢
    rw [Int.gcd_eq_zero_iff] at h
    have h1 : (facAt E i).1 = 0 := by have := h.1; omega
    have h2 : Int.gcd (E.getD i (0, 0)).1 (E.getD i (0, 0)).2 = 0 := by have := h.2; omega
    rw [Int.gcd_eq_zero_iff] at h2
    have h3 : E.getD i (0, 0) = (0, 0) := Prod.ext h2.1 h2.2
    rw [h3, facAt_zero E i h1]
    exact facE_zero _
section
variable (R : List ByteArray) (hR : R.length ≤ 7) (hs : ∀ s ∈ R, s.size ≤ 31) (hlet : ∀ s ∈ R, ∀ c ∈ strBytes s, letC c) (g : Int)
include hR hs hlet
theorem refFactors_l1 (x : Int × Int) (hx : smallP x) (d : Int) (i : Nat) (hi : i < R.length) : ∀ (m j k : Nat) (e : Nat), j + m = i → e ≤ 1922 → m + 2000 ≤ k →
    remouldref01_Factors.l1 k d (e : Int) (i : Int) (j : Int) g R x.1 x.2 = remouldref01_Factors.l0 (k - m - 1) d (facE x (((expsR R).take i).drop j) e : Nat) ((i + 1 : Nat) : Int) g R
  | 0, j, k, e, h, he, hk => by
    obtain ⟨k, rfl⟩ : ∃ q, k = q + 1 := ⟨k - 1, by omega⟩
    simp only [remouldref01_Factors.l1]
    rw [if_neg (by omega), wrapS _ (by omega), List.drop_eq_nil_of_le (by simp [expsR]; omega)]
    rfl
  | m + 1, j, k, e, h, he, hk => by
    obtain ⟨k, rfl⟩ : ∃ q, k = q + 1 := ⟨k - 1, by omega⟩
    have hj : j < R.length := by omega
    have hr : rdOf ByteArray.empty R (j : Int) = R[j] := by simp [rdOf, hj]
    have hsz : R[j].size ≤ 31 := hs _ (List.getElem_mem hj)
    have hy : smallP (exps (strBytes R[j])) := expsR_small hs _ (List.mem_map.2 ⟨R[j], List.getElem_mem hj, rfl⟩)
    have hd : ((expsR R).take i).drop j = exps (strBytes R[j]) :: ((expsR R).take i).drop (j + 1) := by
      rw [List.drop_eq_getElem_cons (by simp [expsR]; omega)]
      congr 1
      simp [expsR]
    simp only [remouldref01_Factors.l1]
    rw [if_pos (by omega), if_pos (by omega), if_pos (by omega), hr, refExponents_f _ (by omega) (hlet _ (List.getElem_mem hj)) k (by omega)]
    simp only [Option.bind_some]
    have hm := minor_bd hx hy
    rw [wrap_minor hx hy, refGcd_f _ _ (by simp; omega) (by omega) k (by omega)]
    simp only [Option.bind_some]
    rw [wrapS _ (by omega), show ((j : Int) + 1) = ((j + 1 : Nat) : Int) from by omega]
    have he' : Int.gcd (e : Int) (minor x (exps (strBytes R[j]))) ≤ 1922 := gcd_bd (by simpa using he) hm
    rw [refFactors_l1 x hx d i hi m (j + 1) k _ (by omega) he' (by omega), hd, show k + 1 - (m + 1) - 1 = k - m - 1 from by omega]
    rfl
theorem refFactors_l0 : ∀ (m i k : Nat), i + m = R.length → 3000 + 20 * m ≤ k →
    ∃ q, 2900 ≤ q ∧ remouldref01_Factors.l0 k ((facAt (expsR R) i).1 : Int) ((facAt (expsR R) i).2 : Int) (i : Int) g R = remouldref01_Factors.l0 q ((facAt (expsR R) R.length).1 : Int) ((facAt (expsR R) R.length).2 : Int) (R.length : Int) g R
  | 0, i, k, h, hk => by
    obtain rfl : i = R.length := by omega
    exact ⟨k, by omega, rfl⟩
  | m + 1, i, k, h, hk => by
    obtain ⟨k, rfl⟩ : ∃ q, k = q + 1 := ⟨k - 1, by omega⟩
    have hi : i < R.length := by omega
    have hr : rdOf ByteArray.empty R (i : Int) = R[i] := by simp [rdOf, hi]
    have hsz : R[i].size ≤ 31 := hs _ (List.getElem_mem hi)
    have hx : smallP (exps (strBytes R[i])) := expsR_small hs _ (List.mem_map.2 ⟨R[i], List.getElem_mem hi, rfl⟩)
    have hb := facAt_bd (expsR R) (expsR_small hs) i
    have hg1 : Int.gcd (exps (strBytes R[i])).1 (exps (strBytes R[i])).2 ≤ 31 := gcd_bd hx.1 hx.2
    have he := expsR_getD R i hi
    obtain ⟨q, hq, ih⟩ := refFactors_l0 m (i + 1) (k - i - 1) (by omega) (by omega)
    refine ⟨q, hq, ?_⟩
    rw [← ih]
    simp only [remouldref01_Factors.l0]
    rw [if_pos (by omega), if_pos (by omega), hr, refExponents_f _ (by omega) (hlet _ (List.getElem_mem hi)) k (by omega)]
    simp only [Option.bind_some]
    have hx1 := hx.1
    have hx2 := hx.2
    rw [refGcd_f _ _ (by omega) (by omega) k (by omega)]
    simp only [Option.bind_some]
    rw [refGcd_f _ _ (by simp; omega) (by simp; omega) k (by omega)]
    simp only [Option.bind_some]
    have h1 := refFactors_l1 R hR hs hlet g (exps (strBytes R[i])) hx ((Int.gcd ((facAt (expsR R) i).1 : Int) ((Int.gcd (exps (strBytes R[i])).1 (exps (strBytes R[i])).2 : Nat) : Int) : Nat) : Int) i hi i 0 k (facAt (expsR R) i).2 (by omega) hb.2 (by omega)
    simp only [List.drop_zero] at h1
    refine Eq.trans ?_ (Eq.trans h1 ?_)
    · rfl
    · simp only [facAt, he]
end
theorem refFactors_l2 (l : List Int) (hl : l.length ≤ 10) : ∀ (m i k : Nat) (out : List Int) (r : Nat), i + m = l.length → out.length + m ≤ 100 → r + m ≤ 100 → m < k →
    remouldref01_Factors.l2 k l out (r : Int) (i : Int) = some (out ++ facOut (l.drop i), ((r + facFree (l.drop i) : Nat) : Int))
  | 0, i, k, out, r, h, ho, hr, hk => by
    obtain ⟨k, rfl⟩ : ∃ q, k = q + 1 := ⟨k - 1, by omega⟩
    simp only [remouldref01_Factors.l2]
    rw [if_neg (by omega), List.drop_eq_nil_of_le (by omega)]
    simp [facOut, facFree]
  | m + 1, i, k, out, r, h, ho, hr, hk => by
    obtain ⟨k, rfl⟩ : ∃ q, k = q + 1 := ⟨k - 1, by omega⟩
    have hi : i < l.length := by omega
    have hrd : rd l (i : Int) = l[i] := by simp [rd, hi]
    simp only [remouldref01_Factors.l2]
    rw [if_pos (by omega), if_pos (by omega), hrd, wrapS ((i : Int) + 1) (by omega), wrapS ((r : Int) + 1) (by omega), List.drop_eq_getElem_cons hi, show ((i : Int) + 1) = ((i + 1 : Nat) : Int) from by omega, show ((r : Int) + 1) = ((r + 1 : Nat) : Int) from by omega]
    obtain ⟨rest, hrest⟩ : ∃ r, l.drop (i + 1) = r := ⟨_, rfl⟩
    by_cases h0 : l[i] = 0
    · rw [if_pos h0, if_neg (by omega), refFactors_l2 l hl m (i + 1) k out (r + 1) (by omega) (by omega) (by omega) (by omega), hrest]
      simp [facOut, facFree, h0]
      omega
    rw [if_neg h0]
    by_cases h1 : l[i] > 1
    · rw [if_pos h1, if_pos (by omega), refFactors_l2 l hl m (i + 1) k _ r (by omega) (by simp; omega) (by omega) (by omega), hrest]
      simp [facOut, facFree, h0, h1]
    · rw [if_neg h1, refFactors_l2 l hl m (i + 1) k out r (by omega) (by omega) (by omega) (by omega), hrest]
      simp [facOut, facFree, h0, h1]
theorem refFactors_f (g : Int) (R : List ByteArray) (h : isGroupB g R = true) (k : Nat) (hk : 4000 ≤ k) :
    remouldref01_Factors.f k g R = some (facOut (facAll g (facAt (expsR R) R.length).1 (facAt (expsR R) R.length).2), (facFree (facAll g (facAt (expsR R) R.length).1 (facAt (expsR R) R.length).2) : Int)) := by
  obtain ⟨hg, hR, hw⟩ := isGroupB_let h
  have hs : ∀ s ∈ R, s.size ≤ 31 := fun s hm => by have := (hw s hm).1; omega
  have hlet : ∀ s ∈ R, ∀ c ∈ strBytes s, letC c := fun s hm => letI_bytes (hw s hm).2
  unfold remouldref01_Factors.f
  obtain ⟨q, hq, e⟩ := refFactors_l0 R (by omega) hs hlet g R.length 0 k (by omega) (by omega)
  have e' : remouldref01_Factors.l0 k 0 0 0 g R = _ := e
  rw [e']
  obtain ⟨q, rfl⟩ : ∃ p, q = p + 3 := ⟨q - 3, by omega⟩
  have hb := facAt_bd (expsR R) (expsR_small hs) R.length
  have hz := facAt_zero (expsR R) R.length
  obtain ⟨⟨d, e⟩, hde⟩ : ∃ p, facAt (expsR R) R.length = p := ⟨_, rfl⟩
  rw [hde] at hb hz ⊢
  dsimp only at hb hz ⊢
  simp only [remouldref01_Factors.l0]
  rw [if_neg (by omega)]
  simp only [Option.bind_some]
  unfold facAll
  have hdiv : e / max d 1 ≤ e := Nat.div_le_self _ _
  by_cases h2 : g = 2
  rotate_left
  · rw [if_neg h2, if_neg h2]
    simp only [remouldref01_Factors.j2]
    rw [if_neg (by simp), if_neg h2]
    simp only [remouldref01_Factors.j3]
    have := refFactors_l2 [(d : Int)] (by simp) 1 0 q [] 0 rfl (by simp) (by omega) (by omega)
    simpa using this
  rw [if_pos h2, if_pos h2]
  simp only [remouldref01_Factors.j2]
  have fin := fun k hk => refFactors_l2 [(d : Int), ((e / max d 1 : Nat) : Int)] (by simp) 2 0 k [] 0 rfl (by simp) (by omega) hk
  by_cases h0 : d = 0
  · rw [if_neg (by simp; omega), if_pos h2, if_pos (by simp)]
    simp only [remouldref01_Factors.j3]
    have he : e = 0 := hz h0
    subst h0 he
    have := fin (q + 0) (by omega)
    simpa using this
  rw [if_pos (by simp; omega), if_neg (by omega), if_pos (by simp), show Int.tdiv (e : Int) (d : Int) = ((e / d : Nat) : Int) from rfl]
  simp only [remouldref01_Factors.j3]
  have hmx : max d 1 = d := by omega
  rw [hmx] at fin hdiv ⊢
  rw [wrapS ((e / d : Nat) : Int) (by rw [Int.natAbs_natCast]; omega)]
  have := fin q (by omega)
  simpa using this
end Go.Proofs.Ytmcihijobilcgaa.PAll
end
section
namespace Go.Proofs.Ytmcihijobilcgaa.PAll
open Go.RowKit Go.Proofs.YtmcihijobilcgaaW.PrintWords Go.Proofs.YtmcihijobilcgaaW.PrintLast Go.Proofs.YtmcihijobilcgaaW.PrintMore
theorem ints_l0 (l : List Int) (hl : l.length ≤ 1000000) : ∀ (m i k : Nat), i + m = l.length → m < k → remouldlaw01_ints.l0 k l l (i : Int) = some true
  | 0, i, k, h, hk => by
    obtain ⟨k, rfl⟩ : ∃ q, k = q + 1 := ⟨k - 1, by omega⟩
    simp only [remouldlaw01_ints.l0]
    rw [if_neg (by omega)]
  | m + 1, i, k, h, hk => by
    obtain ⟨k, rfl⟩ : ∃ q, k = q + 1 := ⟨k - 1, by omega⟩
    simp only [remouldlaw01_ints.l0]
    rw [if_pos (by omega), if_pos (by omega), if_pos (by omega), if_pos trivial, wrap64_small _ (by omega) (by omega)]
    exact ints_l0 l hl m (i + 1) k (by omega) (by omega)
theorem ints_same (l : List Int) (hl : l.length ≤ 1000000) (k : Nat) (hk : l.length < k) : remouldlaw01_ints.f k l l = some true := by
  unfold remouldlaw01_ints.f
  rw [if_pos rfl]
  exact ints_l0 l hl l.length 0 k (by omega) hk
end Go.Proofs.Ytmcihijobilcgaa.PAll
end
section
namespace Go.Proofs.Ytmcihijobilcgaa.Pure
open Go.RowKit Go.Proofs.Ytmcihijobilcgaa.PAll Go.Proofs.YtmcihijobilcgaaW.PrintWords Go.Proofs.YtmcihijobilcgaaW.PrintLast
theorem CasingFactors (g : Int) (l : List ByteArray) (hg : (Lit.int .i64 g).wf = true) (hl : l.length ≤ 9223372036854775807) : ∃ k, remouldlaw01_CasingFactors.f k g l = some true := by
  refine ⟨5000, ?_⟩
  unfold remouldlaw01_CasingFactors.f
  rw [group_f g l 5000 (by omega)]
  simp only [Option.bind_some]
  rw [refGroup_f g (groupR l) (groupR_len l) (groupR_size l) 5000 (by omega)]
  simp only [Option.bind_some]
  cases h : isGroupB g (groupR l)
  · rw [Factors_no g _ h]
    simp [remouldlaw01_awake.f]
  · rw [Factors_f g _ h 5000 (by omega), refFactors_f g _ h 5000 (by omega)]
    simp only [Option.bind_some, if_true]
    have hlen : ∀ d e, (facOut (facAll g d e)).length ≤ 10 := fun d e => Nat.le_trans (List.length_filter_le _ _) (by unfold facAll; split <;> simp)
    have h1 := hlen (facAt (expsR (groupR l)) (groupR l).length).1 (facAt (expsR (groupR l)) (groupR l).length).2
    rw [ints_same _ (by omega) 5000 (by omega)]
    simp [remouldlaw01_awake.f]
end Go.Proofs.Ytmcihijobilcgaa.Pure
end
section
namespace Go.Proofs.Ytmcihijobilcgaa.PAll
open Go.RowKit Go.ChangeShapes Go.WideShapes Go.ChangeAt Go.Deep Go.Proofs.YtmcihijobilcgaaW.PrintWords
section
variable {H : Type} {enc : TypeId × Value → H} {P : Program} {w : World} {base : Nat}
theorem open_stringsC {t e : TypeId} {fuel : Nat} {v : Value} {x : DataW H × List MemPlace} (ht : P.underlying t = some (.slice e)) (he : P.underlying e = some .string) (ce : P.cellsOf e = 1)
    (h : DataW.trod enc P w base (fun _ => true) true fuel t [v] = some x) :
    ∃ (A : Option Addr) (c : Nat) (l : List ByteArray), v = .slice A l.length c ∧ l.length ≤ c ∧ Kd.C Kd.string w A l.length l := by
  rcases open_strings ht he ce h with ⟨hcs, _⟩ | ⟨a, l, c, zs, hcs, _, hl, hm, hz, _, hcell, hwz⟩
  · obtain rfl := List.singleton_inj.1 hcs
    exact ⟨none, 0, [], rfl, Nat.le_refl _, Kd.C_nil _ _⟩
  · obtain rfl := List.singleton_inj.1 hcs
    simp at hz
    have hlen : (zs.take l).length = l := by simp; omega
    refine ⟨some a, c, zs.take l, by rw [hlen], by omega, Kd.C_of_reads (enc := Value.string) (d := ByteArray.empty) (h1 := fun _ => rfl) ⟨rfl, by rw [hlen]; unfold maxLen at hm; omega, fun _ => ⟨a, rfl, fun j hj => ?_⟩⟩⟩
    rw [hlen] at hj
    rw [hcell j (by omega)]
    simp [List.getD, List.getElem?_take, hj]
theorem open_rowsC {k : IntKind} {t e q : TypeId} {fuel : Nat} {v : Value} {x : DataW H × List MemPlace} (ht : P.underlying t = some (.slice e)) (he : P.underlying e = some (.slice q)) (hq : P.underlying q = some (.int k)) (ce : P.cellsOf e = 1) (cq : P.cellsOf q = 1)
    (h : DataW.trod enc P w base (fun _ => true) true fuel t [v] = some x) :
    ∃ (A : Option Addr) (c : Nat) (l : List (List Int)), v = .slice A l.length c ∧ l.length ≤ c ∧ Kd.C (Kd.slice q (Kd.int k)) w A l.length l ∧ ∀ r ∈ l, ∀ n ∈ r, (Lit.int k n).wf = true := by
  rcases open_int_rows ht he hq ce cq h with ⟨hcs, _⟩ | ⟨a, l, c, A, L, C, Z, hcs, _, hl, hm, _, hcell⟩
  · obtain rfl := List.singleton_inj.1 hcs
    exact ⟨none, 0, [], rfl, Nat.le_refl _, Kd.C_nil _ _, fun r hr => by cases hr⟩
  · obtain rfl := List.singleton_inj.1 hcs
    have hlen : ((List.range l).map fun r => (Z r).take (L r)).length = l := by simp
    refine ⟨some a, c, (List.range l).map fun r => (Z r).take (L r), by rw [hlen], by omega, ⟨rfl, by rw [hlen]; unfold maxLen at hm; omega, fun _ => ⟨a, rfl, fun j p hp => ?_⟩⟩, fun r hr n hn => ?_⟩
    · have hj : j < l := by
        have := (List.getElem?_eq_some_iff.1 hp).1
        omega
      have hp' : p = (Z j).take (L j) := by
        simp [hj] at hp
        exact hp.symm
      subst hp'
      obtain ⟨h1, h2, h3, h4, h5, h6, h7⟩ := hcell j (by omega)
      have hle : ((Z j).take (L j)).length = L j := by simp; omega
      refine ⟨[.slice (A j) (L j) (C j)], rfl, ⟨A j, C j, by rw [hle], by omega, ?_⟩, fun i u hu => ?_⟩
      · refine Kd.C_of_reads (enc := Value.int k) (d := (0 : Int)) (h1 := fun _ => rfl) ⟨rfl, by rw [hle]; unfold maxLen at h3; omega, fun h0 => ?_⟩
        cases hA : A j with
        | none => have := h6 hA; omega
        | some a' =>
          refine ⟨a', rfl, fun i hi => ?_⟩
          rw [hle] at hi
          rw [(h7 a' hA).2 i (by omega)]
          simp [List.getD, List.getElem?_take, hi]
      · have hi : i = 0 := by
          have := (List.getElem?_eq_some_iff.1 hu).1
          simp at this
          exact this
        subst hi
        simp at hu
        subst hu
        show w.cell? (a.add (j * 1 + 0)) = _
        rw [Nat.mul_one, Nat.add_zero]
        exact h1
    · obtain ⟨j, hj, rfl⟩ := List.mem_map.1 hr
      have hj' : j < l := by simpa using hj
      exact (hcell j (by omega)).2.2.2.2.1 n (List.mem_of_mem_take hn)
end
end Go.Proofs.Ytmcihijobilcgaa.PAll
end
section
namespace Go.Proofs.Ytmcihijobilcgaa.casingFactors
open Go.ChangeShapes Go.WideShapes Go.ChangeAt Go.RowKit
open Go.ChangeMaps (open_string shut_string)
theorem own : ownKnob Try.prog.godebug = none := by kernel_rfl
theorem laidOut : laidOutB Try.prog = true := by kernel_rfl
set_option maxRecDepth 100000 in
theorem lifted (os : Os) (started : os.Started) (H : Type) (enc : TypeId × Value → H) :
    ReturnsInHanded {} Try.checked os 4 .any (Rows.casingFactorsSpec.pre6 enc Try.prog Try.f4 Rows.casingFactorsRow.domain false) (Rows.casingFactorsSpec.post enc Try.prog Try.f4 false true false false) := by
  refine returnsInHanded_of_change_sized (C := Try.checked) own started (by kernel_rfl) Try.func4
    (ChangeSpec.witness6 (enc := enc) (C := Try.checked) false ⟨#[], #[.agg #[.int .i64 0, .slice none 0 0]], []⟩ 8 (by kernel_rfl) (by kernel_rfl) (by kernel_rfl) (by kernel_rfl)) ?_
  intro W base args ds gs before hval0 hW hcnd hsz0 _
  have hsz : (DataW.weightsEach Try.prog (Try.f4.params.toList ++ Rows.casingFactorsSpec.plain.varTypes Try.prog) (ds ++ gs)).all (· ≤ reachBytes) = true := hsz0
  have hval : ∀ (j : Nat) t v, Try.f4.params[j]? = some t → args[j]? = some v → Value.okWide Try.prog W .any base t v := hval0
  have hW' := hW
  obtain ⟨p, q, hA0, hV, rfl, hfz, hnd⟩ := hW
  have hA : DataW.TrodAll enc Try.prog W 0 (fun _ => true) true Try.f4.params.toList args.toList ds p := hA0
  rw [Try.params4] at hA hval hsz
  obtain ⟨v0, vs0, d0, ds0, p0, q0, hargs, rfl, rfl, h0, r0⟩ := trodAll_cons hA
  obtain ⟨rfl, rfl, rfl⟩ := trodAll_nil r0
  obtain rfl : args = #[v0] := by cases args; simp_all
  obtain ⟨rfl, rfl⟩ := trodVars_none hV
  have k0 := h0
  have lt0 : ∀ x ∈ p0, x.block < W.heap.size := by obtain ⟨m, hm⟩ := k0; exact DataW.trod_lt m _ _ _ hm
  obtain ⟨g0, u0, y0, z0, m0, rfl, -, -, e0, f0⟩ := Joins.open_agg2 Try.underlying24 (by kernel_rfl) (by kernel_rfl) (hval 0 24 v0 rfl rfl) h0
  obtain ⟨a0_0, ga0, -, w0⟩ := DataW.trod_int Try.underlying3 e0
  obtain rfl := List.singleton_inj.1 ga0
  obtain ⟨A0, c0, l0_1, rfl, b0, C0⟩ := PAll.open_stringsC Try.underlying22 Try.underlying9 (by kernel_rfl) f0
  clear hA0 hval0 hsz0 hsz
  obtain ⟨k, h⟩ := Pure.CasingFactors a0_0 l0_1 w0 C0.2.1
  refine (PAll.remouldlaw01_CasingFactors.calls k a0_0 A0 c0 l0_1 true ⟨rfl⟩ W C0 b0 h).mono fun e W' ⟨he, bel⟩ => ?_
  subst he
  exact ⟨_, rfl, _, _, _, [], _, [], hW', trodAll_mk1 (shut_bool Try.underlying4 _), (trodAll_cons_mk (Below.trod laidOut (by kernel_rfl) (of_decide_eq_true (by kernel_rfl)) k0 bel lt0) trodAll_mk0), rfl, bel.frame _, fun h => by cases h⟩
theorem over : Rows.casingFactorsRow.holds Try.pinned (OpenSpec.ofChange Rows.casingFactorsSpec) :=
  OpenClaim.holds_of_wide 4 Try.f4 rfl rfl rfl rfl rfl rfl rfl ⟨rfl, rfl, rfl, rfl, rfl⟩ rfl rfl rfl rfl rfl (by kernel_rfl) Try.func4 (by kernel_rfl)
    (of_decide_eq_true (by kernel_rfl)) (by unfold Func.isWrapper; first | (rw [if_pos (by decide +kernel)]; kernel_rfl) | (rw [if_neg (by decide +kernel)]; exact ⟨rfl, rfl⟩))
    (fun os started H enc _ => lifted os started H enc)
theorem proved : Rows.CasingFactorsSaid := over
end Go.Proofs.Ytmcihijobilcgaa.casingFactors
namespace Go.Proofs.Ytmcihijobilcgaa
theorem casingFactors_holds : Rows.CasingFactorsSaid := casingFactors.proved
end Go.Proofs.Ytmcihijobilcgaa
end
