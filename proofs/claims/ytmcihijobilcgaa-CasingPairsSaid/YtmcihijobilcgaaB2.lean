/- What the proofs of all laws of this seat lean on: what Go's functions that remouldlaw01.awake calls answer, and that awake returns true. No condition. Part 3 of 5. -/
import Derived.Sort.CutIn
import Derived.Deep.Heap
import Derived.Test.YtmcihijobilcgaaB1
set_option linter.all false
section
namespace Go.Proofs.Ytmcihijobilcgaa.PAll
open Go.RowKit Go.Proofs.YtmcihijobilcgaaW.PrintWords Go.Proofs.YtmcihijobilcgaaW.PrintLast Go.Proofs.YtmcihijobilcgaaW.PrintMore
def bytesF (s : ByteArray) : Option (List Int) := if s.size ≤ 140737488355328 then some (strBytes s) else none
attribute [local go_sem] max2_int max_two
mutual
def casing_table_order.l0 : Nat → List Int → List ByteArray → Int → Int → Int → Int → Int → Int → Int → Int → Int → Int → Int → Int → Int → Option (List Int × List ByteArray)
  | 0, _, _, _, _, _, _, _, _, _, _, _, _, _, _, _ => none
  | k + 1, x6, x7, x8, x172000, x172001, x172002, x172003, x172004, x172005, x172006, x172007, x172008, x172009, x172010, x172011 => if x8 < (x6.length : Int) then (if 0 ≤ (wrap64 (2 * x172000)) then (if (wrap64 (2 * x172000)) ≤ 4 then ((bytesF ((⟨#[97, 65, 98, 66]⟩ : ByteArray).extract 0 ((wrap64 (2 * x172000)) : Int).toNat)).bind fun t178 => (casing_table_order.l1 k x6 x7 x8 t178 (t178.length : Int) 0 x172000 x172001 x172002 x172003 x172004 x172005 x172006 x172007 x172008 x172009 x172010 x172011)) else (none)) else (none)) else (some (x6, x7))
def casing_table_order.l1 : Nat → List Int → List ByteArray → Int → List Int → Int → Int → Int → Int → Int → Int → Int → Int → Int → Int → Int → Int → Int → Int → Option (List Int × List ByteArray)
  | 0, _, _, _, _, _, _, _, _, _, _, _, _, _, _, _, _, _, _ => none
  | k + 1, x6, x7, x8, x25, x26, x27, x172000, x172001, x172002, x172003, x172004, x172005, x172006, x172007, x172008, x172009, x172010, x172011 => if x27 < x26 then (if 0 ≤ x27 then (if x27 < (x25.length : Int) then (if 0 ≤ x8 then (if x8 < (x6.length : Int) then ((casing_table_sent.f x172000 x172001 x172002 x172003 x172004 x172005 x172006 x172007 x172008 x172009 x172010 x172011 (rd x6 x8) (rd x25 x27)).bind fun t183 => ((slices_Contains_int_int.f k x6 t183).bind fun t184 => (if t184 = true then (casing_table_order.l1 k x6 x7 x8 x25 x26 (wrap64 (x27 + 1)) x172000 x172001 x172002 x172003 x172004 x172005 x172006 x172007 x172008 x172009 x172010 x172011) else (if x6.length < 17592186044416 then (if x8 < (x7.length : Int) then ((casing_joined.f k (([rdOf ByteArray.empty x7 x8, Utf8.encode (wrap32 (rd x25 x27))] : List ByteArray))).bind fun t192 => (if x7.length < 8796093022208 then (casing_table_order.l1 k (x6 ++ [t183]) (x7 ++ [t192]) x8 x25 x26 (wrap64 (x27 + 1)) x172000 x172001 x172002 x172003 x172004 x172005 x172006 x172007 x172008 x172009 x172010 x172011) else (none))) else (none)) else (none))))) else (none)) else (none)) else (none)) else (none)) else (casing_table_order.l0 k x6 x7 (wrap64 (x8 + 1)) x172000 x172001 x172002 x172003 x172004 x172005 x172006 x172007 x172008 x172009 x172010 x172011)
end
def casing_table_order.f (k : Nat) (a0_0 : Int) (a0_1 : Int) (a0_2 : Int) (a0_3 : Int) (a0_4 : Int) (a0_5 : Int) (a0_6 : Int) (a0_7 : Int) (a0_8 : Int) (a0_9 : Int) (a0_10 : Int) (a0_11 : Int) (a1 : Int) : Option (List Int × List ByteArray) := casing_table_order.l0 k (([a1] : List Int)) (([(⟨#[]⟩ : ByteArray)] : List ByteArray)) 0 a0_0 a0_1 a0_2 a0_3 a0_4 a0_5 a0_6 a0_7 a0_8 a0_9 a0_10 a0_11
def casing_table_order.T8 : Bool × List (List Nat × List Nat) := (true, [([], []), ([], []), ([], []), ([1, 2], [1, 2]), ([3], [3]), ([], []), ([0, 4, 5], [0, 4, 5]), ([6, 6, 0, 1, 2, 3, 4, 5, 6], [6])])
def casing_table_order.B8 : List Nat := [0, 0, 0, 6, 14, 0, 63, 127]
theorem casing_table_order.tab8 : rtab .any (opsOf Try.f65 8) = casing_table_order.T8 := by kernel_rfl
theorem casing_table_order.bits8 : waitsOk casing_table_order.T8.2 casing_table_order.B8 = true := by kernel_rfl
set_option maxHeartbeats 8000000 in
set_option maxRecDepth 100000 in
theorem casing_table_order.calls (k : Nat) (a0_0 : Int) (a0_1 : Int) (a0_2 : Int) (a0_3 : Int) (a0_4 : Int) (a0_5 : Int) (a0_6 : Int) (a0_7 : Int) (a0_8 : Int) (a0_9 : Int) (a0_10 : Int) (a0_11 : Int) (a1 : Int) (r1 : List Int) (r2 : List ByteArray) (w : World) (h : casing_table_order.f k a0_0 a0_1 a0_2 a0_3 a0_4 a0_5 a0_6 a0_7 a0_8 a0_9 a0_10 a0_11 a1 = some (r1, r2)) :
    Calls Try.prog 65 #[.agg #[.int .i64 a0_0, .int .i64 a0_1, .int .i64 a0_2, .int .i64 a0_3, .int .i64 a0_4, .int .i64 a0_5, .int .i64 a0_6, .int .i64 a0_7, .int .i64 a0_8, .int .i64 a0_9, .int .i64 a0_10, .int .i64 a0_11], .int .i64 a1] w fun e w' => ∃ v0_ v1_ : Value, e = .returned (.tuple #[v0_, v1_]) ∧ Kd.R (Kd.int .i64) 3 w' w.heap.size (fun _ => True) v0_ r1 ∧ Kd.R Kd.string 9 w' w.heap.size (fun _ => True) v1_ r2 ∧ Below w.heap.size w w' := by
  have hu79 := Try.underlying79
  have hcs47 : ∀ (w : World) (n : Int), (convert 21 9 (.int .i32 n)).run Try.prog w = .ok (.string (Utf8.encode n)) w := fun w n => run_convert_int_string w 21 9 _ n (by kernel_rfl) Try.underlying9
  have HB := Aside0.mk (Below.refl w.heap.size w)
  have H : (casing_table_order.l0 k (([a1] : List Int)) (([(⟨#[]⟩ : ByteArray)] : List ByteArray)) 0 a0_0 a0_1 a0_2 a0_3 a0_4 a0_5 a0_6 a0_7 a0_8 a0_9 a0_10 a0_11) = some (r1, r2) := h
  clear h
  obtain ⟨y172, hy172⟩ : ∃ y_ : List Int, y_ = (([a1] : List Int)) := ⟨_, rfl⟩
  replace H : (casing_table_order.l0 k y172 (([(⟨#[]⟩ : ByteArray)] : List ByteArray)) 0 a0_0 a0_1 a0_2 a0_3 a0_4 a0_5 a0_6 a0_7 a0_8 a0_9 a0_10 a0_11) = some (r1, r2) := by first | (rw [hy172]; with_reducible exact H) | (have H2_ := (Option.bind_some _ _).symm.trans H; rw [hy172]; with_reducible exact H2_) | (have H2_ := (Option.bind_some _ _).symm.trans H; with_reducible exact H2_) | with_reducible exact H | (rw [hy172]; exact H) | exact H
  have Ny172 := Aside0.mk hy172
  clear hy172
  obtain ⟨y175, hy175⟩ : ∃ y_ : List ByteArray, y_ = (([(⟨#[]⟩ : ByteArray)] : List ByteArray)) := ⟨_, rfl⟩
  replace H : (casing_table_order.l0 k y172 y175 0 a0_0 a0_1 a0_2 a0_3 a0_4 a0_5 a0_6 a0_7 a0_8 a0_9 a0_10 a0_11) = some (r1, r2) := by first | (rw [hy175]; with_reducible exact H) | (have H2_ := (Option.bind_some _ _).symm.trans H; rw [hy175]; with_reducible exact H2_) | (have H2_ := (Option.bind_some _ _).symm.trans H; with_reducible exact H2_) | with_reducible exact H | (rw [hy175]; exact H) | exact H
  have Ny175 := Aside0.mk hy175
  clear hy175
  have H' := Aside0.mk H
  clear H
  go_enter Try.func65, Try.ntmps65
  go_wp2_with (first | ((with_reducible refine gate_dst (N := 2) rfl ?_); refine box_event ?hg (N := 2) ?hd (cs := #[.int .i64 a0_0, .int .i64 a0_1, .int .i64 a0_2, .int .i64 a0_3, .int .i64 a0_4, .int .i64 a0_5, .int .i64 a0_6, .int .i64 a0_7, .int .i64 a0_8, .int .i64 a0_9, .int .i64 a0_10, .int .i64 a0_11]) (t := 79) ?hr ?_; (case hd => rfl); (case hg => rfl); (case hr => first | (go_simp; done) | (go_simp; rfl)); intro gb171 hg w3 hbox hb; have BK171 := Aside0.mk (hbox); have GW171 := Aside0.mk ((by rw [hg]; exact (below_size (gr HB.out)) : w.heap.size ≤ gb171)); have GE171 := Aside0.mk ((by rw [hg]; exact (below_size (gr HB.out)) : w.heap.size ≤ gb171)); replace HB := Aside0.mk (below_step HB.out (tr hb)); clear hb hbox hg) | ((with_reducible refine gate_dst (N := 13) rfl ?_); refine Kd.R_lit (Kd.int .i64) _ 3 ?hg (N := 13) ?hd (xs := ([a1] : List Int)) (inner := [.int .i64 a1]) (ok := fun _ => True) (okp := fun _ => True) ?hr ?hp (fun _ hk => hk) trivial (Below.refl _ _) (Nat.le_refl _) (by simp) ?_; (case hd => rfl); (case hg => rfl); (case hr => first | (go_simp; done) | (go_simp; rfl)); (case hp => exact (Reps.one (show Kd.M (Kd.int .i64) _ _ _ a1 [.int .i64 a1] from rfl) (Reps.none _ _))); intro v173 w4 ho5 hb hg_ hnew_; clear hg_ hnew_; (first | rw [← Ny172.out] at ho5 | (simp only [Int.reduceToNat] at ho5; rw [← Ny172.out] at ho5)); have HO174 := Aside0.mk (Kd.R_lower ho5 (below_size (by repeat (first | (with_reducible first | exact HB.out | apply below_alloc | apply pw_below_drewN | apply below_drew1 | refine below_set ?_ GE171.out) | exact HB.out)))); replace BK171 := Aside0.mk (blk_below BK171.out (tr hb)); replace HB := Aside0.mk (below_step (by repeat (first | (with_reducible first | exact HB.out | apply below_alloc | apply pw_below_drewN | apply below_drew1 | refine below_set ?_ GE171.out) | exact HB.out)) hb); clear hb ho5) | ((with_reducible refine gate_dst (N := 14) rfl ?_); refine Kd.R_lit Kd.string _ 9 ?hg (N := 14) ?hd (xs := ([(⟨#[]⟩ : ByteArray)] : List ByteArray)) (inner := [.string (⟨#[]⟩ : ByteArray)]) (ok := fun _ => True) (okp := fun _ => True) ?hr ?hp (fun _ hk => hk) trivial (Below.refl _ _) (Nat.le_refl _) (by simp) ?_; (case hd => rfl); (case hg => rfl); (case hr => first | (go_simp; done) | (go_simp; rfl)); (case hp => exact (Reps.one (show Kd.M Kd.string _ _ _ (⟨#[]⟩ : ByteArray) [.string (⟨#[]⟩ : ByteArray)] from rfl) (Reps.none _ _))); intro v176 w6 ho7 hb hg_ hnew_; clear hg_ hnew_; (first | rw [← Ny175.out] at ho7 | (simp only [Int.reduceToNat] at ho7; rw [← Ny175.out] at ho7)); have HO177 := Aside0.mk (Kd.R_lower ho7 (below_size (by repeat (first | (with_reducible first | exact HB.out | apply below_alloc | apply pw_below_drewN | apply below_drew1 | refine below_set ?_ GE171.out) | exact HB.out)))); replace HO174 := Aside0.mk (Kd.R_below HO174.out (tr hb)); replace BK171 := Aside0.mk (blk_below BK171.out (tr hb)); replace HB := Aside0.mk (below_step (by repeat (first | (with_reducible first | exact HB.out | apply below_alloc | apply pw_below_drewN | apply below_drew1 | refine below_set ?_ GE171.out) | exact HB.out)) hb); clear hb ho7))
  go_loopg [6, 7, 8] k (fun kq v6 v7 v8 w' => ∃ (x6_1 : List Int) (x7_1 : List ByteArray) (x8_1 : Int), v8 = .int .i64 x8_1 ∧ Aside0 (casing_table_order.l0 kq x6_1 x7_1 x8_1 a0_0 a0_1 a0_2 a0_3 a0_4 a0_5 a0_6 a0_7 a0_8 a0_9 a0_10 a0_11 = some (r1, r2)) ∧ Aside0 (kq ≤ k) ∧ Aside0 (Kd.R (Kd.int .i64) 3 w' w.heap.size (fun _ => True) v6 x6_1) ∧ Aside0 (Kd.R Kd.string 9 w' w.heap.size (fun _ => True) v7 x7_1) ∧ Aside0 (w'.heap[gb171]? = some (.cells #[.int .i64 a0_0, .int .i64 a0_1, .int .i64 a0_2, .int .i64 a0_3, .int .i64 a0_4, .int .i64 a0_5, .int .i64 a0_6, .int .i64 a0_7, .int .i64 a0_8, .int .i64 a0_9, .int .i64 a0_10, .int .i64 a0_11] 79 (0, 0))) ∧ Aside0 (Below w.heap.size w w'))
  case atStart => exact ⟨(y172), (y175), (0), (by first | rfl | (simp; done) | (simp [*]; done)), H', ⟨Nat.le_refl _⟩, ⟨by (with_reducible repeat (first | apply Kd.R_alloc | apply Kd.R_drewN | apply Kd.R_drew)); exact HO174.out⟩, ⟨by (with_reducible repeat (first | apply Kd.R_alloc | apply Kd.R_drewN | apply Kd.R_drew)); exact HO177.out⟩, ⟨by (with_reducible repeat (first | refine blk_drewN ?_ _ | refine blk_drew ?_ | refine blk_alloc ?_ _)); exact BK171.out⟩, ⟨by repeat (first | (with_reducible first | exact HB.out | apply below_alloc | apply pw_below_drewN | apply below_drew1 | refine below_set ?_ GE171.out) | exact HB.out)⟩⟩
  clear H'
  try clear p2
  obtain ⟨x6_1, x7_1, x8_1, rfl, HA, HK1, HO_6, HO_7, BK171, HB⟩ := hrel
  cases gk with
  | zero => exact absurd HA.out (by simp [casing_table_order.l0])
  | succ k1 =>
    have H := HA.out
    clear HA
    simp only [casing_table_order.l0] at H
    by_cases c8 : x8_1 < (x6_1.length : Int)
    rotate_left
    · rw [if_neg c8] at H
      have c8b0 : decide (x8_1 < (x6_1.length : Int)) = false := decide_eq_false c8
      clear c8
      simp only [Option.some.injEq, Prod.mk.injEq] at H
      obtain ⟨rfl, rfl⟩ := H
      obtain ⟨Ao42, co42, eo42⟩ := Kd.R_slice HO_6.out
      subst eo42
      go_wp2
      go_ret2
      exact ⟨_, _, by first | rfl | (simp [errW_none, errW_some] <;> rfl) | (simp [*, errW_none, errW_some] <;> rfl), by (with_reducible repeat (first | apply Kd.R_alloc | apply Kd.R_drewN | apply Kd.R_drew)); exact HO_6.out, by (with_reducible repeat (first | apply Kd.R_alloc | apply Kd.R_drewN | apply Kd.R_drew)); exact HO_7.out, by repeat (first | (with_reducible first | exact HB.out | apply below_alloc | apply pw_below_drewN | apply below_drew1 | refine below_set ?_ GE171.out) | exact HB.out)⟩
    rw [if_pos c8] at H
    have c8b0 : decide (x8_1 < (x6_1.length : Int)) = true := decide_eq_true c8
    clear c8
    obtain ⟨ji9, hji9⟩ : ∃ j_ : Int, (wrap64 (2 * a0_0)) = j_ := ⟨_, rfl⟩
    replace H : (if 0 ≤ (ji9) then (if (ji9) ≤ 4 then ((bytesF ((⟨#[97, 65, 98, 66]⟩ : ByteArray).extract 0 ((ji9) : Int).toNat)).bind fun t178 => (casing_table_order.l1 k1 x6_1 x7_1 x8_1 t178 (t178.length : Int) 0 a0_0 a0_1 a0_2 a0_3 a0_4 a0_5 a0_6 a0_7 a0_8 a0_9 a0_10 a0_11)) else (none)) else (none)) = some (r1, r2) := by first | (rw [hji9] at H; exact H) | (simp only [hji9] at H ⊢; exact H)
    have hji9w : (IntKind.i64.wrap (2 * a0_0)) = ji9 := (i64_w _).trans hji9
    by_cases c10 : 0 ≤ (ji9)
    rotate_left
    · rw [if_neg c10] at H
      exact absurd H (by simp)
    rw [if_pos c10] at H
    have c10b0 := eq_true c10
    have c10b1 : decide (0 ≤ (ji9)) = true := decide_eq_true c10
    clear c10
    by_cases c11 : (ji9) ≤ 4
    rotate_left
    · rw [if_neg c11] at H
      exact absurd H (by simp)
    rw [if_pos c11] at H
    have c11b0 := eq_true c11
    have c11b1 : decide ((ji9) ≤ 4) = true := decide_eq_true c11
    clear c11
    replace H := Option.bind_eq_some_iff.mp H
    obtain ⟨t178, A120, H⟩ := H
    try dsimp only at H
    have A12 := Aside0.mk A120
    clear A120
    have H' := Aside0.mk H
    clear H
    obtain ⟨Ao13, co13, eo13⟩ := Kd.R_slice HO_6.out
    subst eo13
    have hcz14_0 : wr.cell? ⟨gb171, 0, none⟩ = some (.int .i64 a0_0) := (blk_cell BK171.out 0).trans rfl
    have hcz14_1 : wr.cell? ⟨gb171, 1, none⟩ = some (.int .i64 a0_1) := (blk_cell BK171.out 1).trans rfl
    have hcz14_2 : wr.cell? ⟨gb171, 2, none⟩ = some (.int .i64 a0_2) := (blk_cell BK171.out 2).trans rfl
    have hcz14_3 : wr.cell? ⟨gb171, 3, none⟩ = some (.int .i64 a0_3) := (blk_cell BK171.out 3).trans rfl
    have hcz14_4 : wr.cell? ⟨gb171, 4, none⟩ = some (.int .i64 a0_4) := (blk_cell BK171.out 4).trans rfl
    have hcz14_5 : wr.cell? ⟨gb171, 5, none⟩ = some (.int .i64 a0_5) := (blk_cell BK171.out 5).trans rfl
    have hcz14_6 : wr.cell? ⟨gb171, 6, none⟩ = some (.int .i64 a0_6) := (blk_cell BK171.out 6).trans rfl
    have hcz14_7 : wr.cell? ⟨gb171, 7, none⟩ = some (.int .i64 a0_7) := (blk_cell BK171.out 7).trans rfl
    have hcz14_8 : wr.cell? ⟨gb171, 8, none⟩ = some (.int .i64 a0_8) := (blk_cell BK171.out 8).trans rfl
    have hcz14_9 : wr.cell? ⟨gb171, 9, none⟩ = some (.int .i64 a0_9) := (blk_cell BK171.out 9).trans rfl
    have hcz14_10 : wr.cell? ⟨gb171, 10, none⟩ = some (.int .i64 a0_10) := (blk_cell BK171.out 10).trans rfl
    have hcz14_11 : wr.cell? ⟨gb171, 11, none⟩ = some (.int .i64 a0_11) := (blk_cell BK171.out 11).trans rfl
    have hfz14_0 := blk_frozen BK171.out 0
    have hfz14_1 := blk_frozen BK171.out 1
    have hfz14_2 := blk_frozen BK171.out 2
    have hfz14_3 := blk_frozen BK171.out 3
    have hfz14_4 := blk_frozen BK171.out 4
    have hfz14_5 := blk_frozen BK171.out 5
    have hfz14_6 := blk_frozen BK171.out 6
    have hfz14_7 := blk_frozen BK171.out 7
    have hfz14_8 := blk_frozen BK171.out 8
    have hfz14_9 := blk_frozen BK171.out 9
    have hfz14_10 := blk_frozen BK171.out 10
    have hfz14_11 := blk_frozen BK171.out 11
    have hsz_ : ((⟨#[97, 65, 98, 66]⟩ : ByteArray).extract 0 ((ji9) : Int).toNat).size ≤ 140737488355328 := by have h_ := A12.out; unfold bytesF at h_; by_cases hc_ : ((⟨#[97, 65, 98, 66]⟩ : ByteArray).extract 0 ((ji9) : Int).toNat).size ≤ 140737488355328; exact hc_; rw [if_neg hc_] at h_; cases h_
    have htb_ : t178 = strBytes ((⟨#[97, 65, 98, 66]⟩ : ByteArray).extract 0 ((ji9) : Int).toNat) := by have h_ := A12.out; unfold bytesF at h_; rw [if_pos hsz_] at h_; exact (Option.some.inj h_).symm
    have HTB_ := Aside0.mk htb_
    have HSZ_ := Aside0.mk hsz_
    clear htb_ hsz_
    go_wp2_with (first | ((with_reducible refine gate_dst (N := 25) rfl ?_); refine bytes_event ?hg (N := 25) ?hd rfl (s := (⟨#[97, 65, 98, 66]⟩ : ByteArray).extract 0 ((ji9) : Int).toNat) ?hx HSZ_.out Try.underlying9 Try.underlying83 Try.underlying5 ?_; (case hd => rfl); (case hg => rfl); (case hx => first | rfl | (simp only [hji9]; rfl) | (go_simp; done) | (go_simp; rfl)); intro v179 w15 ho0 hb; rw [← HTB_.out] at ho0; have HO180 := Aside0.mk (ho0); replace HO_6 := Aside0.mk (Kd.R_below HO_6.out (tr hb)); replace HO_7 := Aside0.mk (Kd.R_below HO_7.out (tr hb)); replace BK171 := Aside0.mk (blk_below BK171.out (tr hb)); replace HB := Aside0.mk (below_step (by repeat (first | (with_reducible first | exact HB.out | apply below_alloc | apply pw_below_drewN | apply below_drew1 | refine below_set ?_ GE171.out) | exact HB.out)) hb); (try clear hb); (try clear hb2); (try clear hk); (try clear hi); (try clear ho0); obtain ⟨Ao16, co16, eo16⟩ := BR_slice HO180.out; subst eo16))
    go_loopg [6, 7, 27] k1 (fun kq v6 v7 v27 w' => ∃ (x6_2 : List Int) (x7_2 : List ByteArray) (x27_2 : Int), v27 = .int .i64 x27_2 ∧ Aside0 (casing_table_order.l1 kq x6_2 x7_2 x8_1 t178 (t178.length : Int) x27_2 a0_0 a0_1 a0_2 a0_3 a0_4 a0_5 a0_6 a0_7 a0_8 a0_9 a0_10 a0_11 = some (r1, r2)) ∧ Aside0 (kq ≤ k1) ∧ Aside0 (Kd.R (Kd.int .i64) 3 w' w.heap.size (fun _ => True) v6 x6_2) ∧ Aside0 (Kd.R Kd.string 9 w' w.heap.size (fun _ => True) v7 x7_2) ∧ Aside0 (BR w' (.slice Ao16 t178.length co16) t178) ∧ Aside0 (w'.heap[gb171]? = some (.cells #[.int .i64 a0_0, .int .i64 a0_1, .int .i64 a0_2, .int .i64 a0_3, .int .i64 a0_4, .int .i64 a0_5, .int .i64 a0_6, .int .i64 a0_7, .int .i64 a0_8, .int .i64 a0_9, .int .i64 a0_10, .int .i64 a0_11] 79 (0, 0))) ∧ Aside0 (Below w.heap.size w w'))
    case atStart => exact ⟨(x6_1), (x7_1), (0), (by first | rfl | (simp; done) | (simp [*]; done)), H', ⟨Nat.le_refl _⟩, ⟨by (with_reducible repeat (first | apply Kd.R_alloc | apply Kd.R_drewN | apply Kd.R_drew)); exact HO_6.out⟩, ⟨by (with_reducible repeat (first | apply Kd.R_alloc | apply Kd.R_drewN | apply Kd.R_drew)); exact HO_7.out⟩, ⟨by (with_reducible repeat (first | apply BR_alloc | apply BR_drewN | apply BR_drew)); exact HO180.out⟩, ⟨by (with_reducible repeat (first | refine blk_drewN ?_ _ | refine blk_drew ?_ | refine blk_alloc ?_ _)); exact BK171.out⟩, ⟨by repeat (first | (with_reducible first | exact HB.out | apply below_alloc | apply pw_below_drewN | apply below_drew1 | refine below_set ?_ GE171.out) | exact HB.out)⟩⟩
    clear H'
    try clear c1
    try clear p2
    try clear p6
    try clear c8
    try clear c8b0
    try clear c9
    try clear c10
    try clear c10b0
    try clear c10b1
    try clear c11
    try clear c11b0
    try clear c11b1
    try clear c12
    try clear hcz14_0
    try clear hcz14_1
    try clear hcz14_10
    try clear hcz14_11
    try clear hcz14_2
    try clear hcz14_3
    try clear hcz14_4
    try clear hcz14_5
    try clear hcz14_6
    try clear hcz14_7
    try clear hcz14_8
    try clear hcz14_9
    try clear hfz14_0
    try clear hfz14_1
    try clear hfz14_10
    try clear hfz14_11
    try clear hfz14_2
    try clear hfz14_3
    try clear hfz14_4
    try clear hfz14_5
    try clear hfz14_6
    try clear hfz14_7
    try clear hfz14_8
    try clear hfz14_9
    try clear p2
    obtain ⟨x6_2, x7_2, x27_2, rfl, HA, HK2, HO_6, HO_7, HO_25, BK171, HB⟩ := hrel
    cases gk with
    | zero => exact absurd HA.out (by simp [casing_table_order.l1])
    | succ k2 =>
      have H := HA.out
      clear HA
      simp only [casing_table_order.l1] at H
      by_cases c17 : x27_2 < (t178.length : Int)
      rotate_left
      · rw [if_neg c17] at H
        have c17b0 : decide (x27_2 < (t178.length : Int)) = false := decide_eq_false c17
        clear c17
        have H' := Aside0.mk H
        clear H
        go_wp2
        go_roundg k2
        case measure => have := HK1.out; have := HK2.out; omega
        case rel => exact ⟨(x6_2), (x7_2), (wrap64 (x8_1 + 1)), (by first | rfl | (simp; done) | (simp [*]; done)), H', ⟨by have := HK1.out; have := HK2.out; omega⟩, ⟨by (with_reducible repeat (first | apply Kd.R_alloc | apply Kd.R_drewN | apply Kd.R_drew)); exact HO_6.out⟩, ⟨by (with_reducible repeat (first | apply Kd.R_alloc | apply Kd.R_drewN | apply Kd.R_drew)); exact HO_7.out⟩, ⟨by (with_reducible repeat (first | refine blk_drewN ?_ _ | refine blk_drew ?_ | refine blk_alloc ?_ _)); exact BK171.out⟩, ⟨by repeat (first | (with_reducible first | exact HB.out | apply below_alloc | apply pw_below_drewN | apply below_drew1 | refine below_set ?_ GE171.out) | exact HB.out)⟩⟩
      rw [if_pos c17] at H
      have c17b0 : decide (x27_2 < (t178.length : Int)) = true := decide_eq_true c17
      clear c17
      by_cases c18 : 0 ≤ x27_2
      rotate_left
      · rw [if_neg c18] at H
        exact absurd H (by simp)
      rw [if_pos c18] at H
      have c18b0 : decide (0 ≤ x27_2) = true := decide_eq_true c18
      clear c18
      by_cases c19 : x27_2 < (t178.length : Int)
      rotate_left
      · rw [if_neg c19] at H
        exact absurd H (by simp)
      rw [if_pos c19] at H
      have c19b0 : decide (x27_2 < (t178.length : Int)) = true := decide_eq_true c19
      clear c19
      by_cases c20 : 0 ≤ x8_1
      rotate_left
      · rw [if_neg c20] at H
        exact absurd H (by simp)
      rw [if_pos c20] at H
      have c20b0 : decide (0 ≤ x8_1) = true := decide_eq_true c20
      clear c20
      by_cases c21 : x8_1 < (x6_2.length : Int)
      rotate_left
      · rw [if_neg c21] at H
        exact absurd H (by simp)
      rw [if_pos c21] at H
      have c21b0 : decide (x8_1 < (x6_2.length : Int)) = true := decide_eq_true c21
      clear c21
      replace H := Option.bind_eq_some_iff.mp H
      obtain ⟨t183, A220, H⟩ := H
      try dsimp only at H
      have A22 := Aside0.mk A220
      clear A220
      replace H := Option.bind_eq_some_iff.mp H
      obtain ⟨t184, A230, H⟩ := H
      try dsimp only at H
      have A23 := Aside0.mk A230
      clear A230
      by_cases c24 : t184 = true
      · subst c24
        have H1 : (casing_table_order.l1 k2 x6_2 x7_2 x8_1 t178 (t178.length : Int) (wrap64 (x27_2 + 1)) a0_0 a0_1 a0_2 a0_3 a0_4 a0_5 a0_6 a0_7 a0_8 a0_9 a0_10 a0_11) = some (r1, r2) := by rw [if_pos rfl] at H; exact H
        clear H
        have H := H1
        clear H1
        have H' := Aside0.mk H
        clear H
        have p181 : 0 ≤ (x27_2 : Int) := of_decide_eq_true (by first | (with_reducible assumption) | assumption)
        have q181 : x27_2 < (t178.length : Int) := of_decide_eq_true (by first | (with_reducible assumption) | assumption)
        obtain ⟨ad181, e181, hx181_0⟩ := Kd.at_int (BR_reads HO_25.out) x27_2 p181 q181
        cases e181
        replace p181 := eq_true p181
        replace q181 := eq_true q181
        try go_wp2
        replace HO_6 := Aside0.mk (Kd.R_drew HO_6.out)
        replace HO_7 := Aside0.mk (Kd.R_drew HO_7.out)
        replace HO_25 := Aside0.mk (BR_drew HO_25.out)
        replace BK171 := Aside0.mk (blk_drew BK171.out)
        replace HB := Aside0.mk (below_drew1 HB.out)
        obtain ⟨Ao26, co26, eo26⟩ := Kd.R_slice HO_6.out
        (first | subst eo26 | (injection eo26 with f1_ f2_ f3_; have f4_ := f1_.symm; have f5_ := f3_.symm; clear f1_ f2_ f3_; subst f4_; subst f5_))
        have p182 : 0 ≤ (x8_1 : Int) := of_decide_eq_true (by first | (with_reducible assumption) | assumption)
        have q182 : x8_1 < (x6_2.length : Int) := of_decide_eq_true (by first | (with_reducible assumption) | assumption)
        obtain ⟨ad182, e182, hx182_0⟩ := Kd.at_int (Kd.R_reads' HO_6.out).2.2 x8_1 p182 q182
        cases e182
        replace p182 := eq_true p182
        replace q182 := eq_true q182
        refine start_ (n := 8) (S := fun w' => w'.cell? ⟨gb171, 0, none⟩ = some (.int .i64 a0_0) ∧ w'.cell? ⟨gb171, 1, none⟩ = some (.int .i64 a0_1) ∧ w'.cell? ⟨gb171, 2, none⟩ = some (.int .i64 a0_2) ∧ w'.cell? ⟨gb171, 3, none⟩ = some (.int .i64 a0_3) ∧ w'.cell? ⟨gb171, 4, none⟩ = some (.int .i64 a0_4) ∧ w'.cell? ⟨gb171, 5, none⟩ = some (.int .i64 a0_5) ∧ w'.cell? ⟨gb171, 6, none⟩ = some (.int .i64 a0_6) ∧ w'.cell? ⟨gb171, 7, none⟩ = some (.int .i64 a0_7) ∧ w'.cell? ⟨gb171, 8, none⟩ = some (.int .i64 a0_8) ∧ w'.cell? ⟨gb171, 9, none⟩ = some (.int .i64 a0_9) ∧ w'.cell? ⟨gb171, 10, none⟩ = some (.int .i64 a0_10) ∧ w'.cell? ⟨gb171, 11, none⟩ = some (.int .i64 a0_11) ∧ w'.cell? (ad182.add (x8_1).toNat) = some (.int .i64 (rd x6_2 x8_1))) (ds := []) #[false, false, false, false, false, false, false, false] (by kernel_rfl) rfl rfl ⟨(blk_cell BK171.out 0).trans rfl, (blk_cell BK171.out 1).trans rfl, (blk_cell BK171.out 2).trans rfl, (blk_cell BK171.out 3).trans rfl, (blk_cell BK171.out 4).trans rfl, (blk_cell BK171.out 5).trans rfl, (blk_cell BK171.out 6).trans rfl, (blk_cell BK171.out 7).trans rfl, (blk_cell BK171.out 8).trans rfl, (blk_cell BK171.out 9).trans rfl, (blk_cell BK171.out 10).trans rfl, (blk_cell BK171.out 11).trans rfl, hx182_0⟩ (fun hHeld => ?_); refine with_tabW casing_table_order.tab8 casing_table_order.bits8 (fun HT_ HW_ => ?_)
        generalize wr.drew = w25 at HO_6 HO_7 HO_25 BK171 HB hx182_0 hHeld ⊢
        refine pure_ (i := 1) (N := some 32) (v := ?_) (a' := ?_) #[false, true, false, false, false, false, false, false] rfl rfl (any_of HT_.out (by kernel_rfl)) (fun _ _ _ h => h) (Or.inl ⟨by rfl, ?_⟩) ?_ ?_
        rotate_left
        · intro w'
          go_simp
          with_reducible rfl
        rotate_left
        · simp only [Act.put, List.setIfInBounds_toArray, List.set_cons_zero, List.set_cons_succ, i64_w, i32_w]
          rfl
        refine pure_ (i := 2) (N := some 33) (v := ?_) (a' := ?_) #[false, true, true, false, false, false, false, false] rfl rfl (any_of HT_.out (by kernel_rfl)) (fun _ _ _ h => h) (Or.inl ⟨by rfl, ?_⟩) ?_ ?_
        rotate_left
        · intro w'
          go_simp
          with_reducible rfl
        rotate_left
        · simp only [Act.put, List.setIfInBounds_toArray, List.set_cons_zero, List.set_cons_succ, i64_w, i32_w]
          rfl
        refine pure_ (i := 3) (N := some 34) (v := ?_) (a' := ?_) #[false, true, true, true, false, false, false, false] rfl rfl (any_of HT_.out (by kernel_rfl)) (fun _ _ _ h => h) (Or.inl ⟨by rfl, ?_⟩) ?_ ?_
        rotate_left
        · intro w'
          go_simp
          with_reducible rfl
        rotate_left
        · simp only [Act.put, List.setIfInBounds_toArray, List.set_cons_zero, List.set_cons_succ, i64_w, i32_w]
          rfl
        refine pure_ (i := 5) (N := some 36) (v := ?_) (a' := ?_) #[false, true, true, true, false, true, false, false] rfl rfl (any_of HT_.out (by kernel_rfl)) (fun _ _ _ h => h) (Or.inl ⟨by rfl, ?_⟩) ?_ ?_
        rotate_left
        · intro w'
          go_simp
          with_reducible rfl
        rotate_left
        · simp only [Act.put, List.setIfInBounds_toArray, List.set_cons_zero, List.set_cons_succ, i64_w, i32_w]
          rfl
        refine take_ (i := 0) (N := some 31) (v := ?_) (a' := ?_) #[true, true, true, true, false, true, false, false] rfl rfl (take_ofW HT_.out HW_.out (by kernel_rfl)) (fun _ _ _ h => h) (Or.inl ⟨by rfl, ?_⟩) hHeld ?_ ?_
        rotate_left
        · rintro w' ⟨s0, s1, s2, s3, s4, s5, s6, s7, s8, s9, s10, s11, s12⟩
          go_simp
          with_reducible rfl
        rotate_left
        · simp only [Act.put, List.setIfInBounds_toArray, List.set_cons_zero, List.set_cons_succ, i64_w, i32_w]
          rfl
        refine take_ (i := 4) (N := some 35) (v := ?_) (a' := ?_) #[true, true, true, true, true, true, false, false] rfl rfl (take_ofW HT_.out HW_.out (by kernel_rfl)) (fun _ _ _ h => h) (Or.inl ⟨by rfl, ?_⟩) hHeld ?_ ?_
        rotate_left
        · rintro w' ⟨s0, s1, s2, s3, s4, s5, s6, s7, s8, s9, s10, s11, s12⟩
          go_simp
          with_reducible rfl
        rotate_left
        · simp only [Act.put, List.setIfInBounds_toArray, List.set_cons_zero, List.set_cons_succ, i64_w, i32_w]
          rfl
        refine one_ (i := 6) (N := some 37) #[true, true, true, true, true, true, true, false] rfl rfl (one_of HT_.out (by kernel_rfl)) (by decide) (fun K hK => ?_)
        refine goes_ Try.func82 (by kernel_rfl) rfl #[.agg #[.int .i64 a0_0, .int .i64 a0_1, .int .i64 a0_2, .int .i64 a0_3, .int .i64 a0_4, .int .i64 a0_5, .int .i64 a0_6, .int .i64 a0_7, .int .i64 a0_8, .int .i64 a0_9, .int .i64 a0_10, .int .i64 a0_11], .int .i64 (rd x6_2 x8_1), .int .u8 (rd t178 x27_2)] (by rfl) rfl rfl (by (try simp only [List.map_toArray, List.map_cons, List.map_nil]); first | done | rfl | (simp only [List.length_drop, List.length_take]; rfl)) ?_
        with_reducible refine (casing_table_sent.calls a0_0 a0_1 a0_2 a0_3 a0_4 a0_5 a0_6 a0_7 a0_8 a0_9 a0_10 a0_11 (rd x6_2 x8_1) (rd t178 x27_2) t183 _ A22.out).mono ?_
        rintro e w27 ⟨rfl, hb⟩
        have HS12_ := (hb.cell (World.block_lt_of_cell? _ _ (hHeld.2.2.2.2.2.2.2.2.2.2.2.2))).trans (hHeld.2.2.2.2.2.2.2.2.2.2.2.2)
        refine ⟨_, rfl, ?_⟩
        replace HO_6 := Aside0.mk (Kd.R_below HO_6.out (tr hb))
        replace HO_7 := Aside0.mk (Kd.R_below HO_7.out (tr hb))
        replace HO_25 := Aside0.mk (BR_below (by (with_reducible repeat (first | apply BR_alloc | apply BR_drewN | apply BR_drew)); exact HO_25.out) hb)
        replace BK171 := Aside0.mk (blk_below BK171.out (tr hb))
        replace HB := Aside0.mk (below_step (by repeat (first | (with_reducible first | exact HB.out | apply below_alloc | apply pw_below_drewN | apply below_drew1 | refine below_set ?_ GE171.out) | exact HB.out)) hb)
        (try clear hb)
        (try clear hb2)
        (try clear hk)
        (try clear hi)
        refine hK.out _ _ ⟨(blk_cell BK171.out 0).trans rfl, (blk_cell BK171.out 1).trans rfl, (blk_cell BK171.out 2).trans rfl, (blk_cell BK171.out 3).trans rfl, (blk_cell BK171.out 4).trans rfl, (blk_cell BK171.out 5).trans rfl, (blk_cell BK171.out 6).trans rfl, (blk_cell BK171.out 7).trans rfl, (blk_cell BK171.out 8).trans rfl, (blk_cell BK171.out 9).trans rfl, (blk_cell BK171.out 10).trans rfl, (blk_cell BK171.out 11).trans rfl, HS12_⟩ (fun hHeld => ?_)
        clear hK K
        refine norm_ (a' := ?_) ?_ ?_
        rotate_left
        · show Act.put _ (some 37) _ = _
          simp only [Act.put, List.setIfInBounds_toArray, List.set_cons_zero, List.set_cons_succ, i64_w, i32_w]
          rfl
        refine pure_ (i := 7) (N := some 11) (v := ?_) (a' := ?_) #[true, true, true, true, true, true, true, true] rfl rfl (any_of HT_.out (by kernel_rfl)) (fun _ _ _ h => h) (Or.inl ⟨by rfl, ?_⟩) ?_ ?_
        rotate_left
        · intro w'
          go_simp
          with_reducible rfl
        rotate_left
        · simp only [Act.put, List.setIfInBounds_toArray, List.set_cons_zero, List.set_cons_succ, i64_w, i32_w]
          rfl
        refine done_ (done_of HT_.out (by kernel_rfl)) ?_
        try go_wp2_with (first | ((with_reducible refine gate_callee (f := 81) rfl ?_); refine goesL_ (some 40) rfl rfl Try.func81 (by kernel_rfl) rfl #[.slice (some ad182) x6_2.length co26, .int .i64 t183] rfl (by (try simp only [List.map_toArray, List.map_cons, List.map_nil]); first | done | rfl | (simp only [List.length_drop, List.length_take]; rfl)) ?_; (with_reducible refine (slices_Contains_int_int.calls k2 _ _ x6_2 t183 true _ ?side1 ?side2 A23.out).mono ?_); (case side1 => repeat (first | exact (Kd.R_reads' HO_6.out).2.2 | (with_reducible refine Kd.C_alloc ?_ _) | (with_reducible refine Kd.C_drewN ?_ _) | (with_reducible refine Kd.C_drew ?_))); (case side2 => exact (Kd.R_reads' HO_6.out).2.1); rintro e w' ⟨rfl, ⟨nd, rfl⟩⟩; refine ⟨_, rfl, ?_⟩))
        go_roundg k2
        case measure => have := HK1.out; have := HK2.out; omega
        case rel => exact ⟨(x6_2), (x7_2), (wrap64 (x27_2 + 1)), (by first | rfl | (simp; done) | (simp [*]; done)), H', ⟨by have := HK1.out; have := HK2.out; omega⟩, ⟨by (with_reducible repeat (first | apply Kd.R_alloc | apply Kd.R_drewN | apply Kd.R_drew)); exact HO_6.out⟩, ⟨by (with_reducible repeat (first | apply Kd.R_alloc | apply Kd.R_drewN | apply Kd.R_drew)); exact HO_7.out⟩, ⟨by (with_reducible repeat (first | apply BR_alloc | apply BR_drewN | apply BR_drew)); exact HO_25.out⟩, ⟨by (with_reducible repeat (first | refine blk_drewN ?_ _ | refine blk_drew ?_ | refine blk_alloc ?_ _)); exact BK171.out⟩, ⟨by repeat (first | (with_reducible first | exact HB.out | apply below_alloc | apply pw_below_drewN | apply below_drew1 | refine below_set ?_ GE171.out) | exact HB.out)⟩⟩
      replace c24 := Bool.eq_false_iff.mpr c24
      subst c24
      have H1 : (if x6_2.length < 17592186044416 then (if x8_1 < (x7_2.length : Int) then ((casing_joined.f k2 (([rdOf ByteArray.empty x7_2 x8_1, Utf8.encode (wrap32 (rd t178 x27_2))] : List ByteArray))).bind fun t192 => (if x7_2.length < 8796093022208 then (casing_table_order.l1 k2 (x6_2 ++ [t183]) (x7_2 ++ [t192]) x8_1 t178 (t178.length : Int) (wrap64 (x27_2 + 1)) a0_0 a0_1 a0_2 a0_3 a0_4 a0_5 a0_6 a0_7 a0_8 a0_9 a0_10 a0_11) else (none))) else (none)) else (none)) = some (r1, r2) := by rw [if_neg (show ¬ (false = true) by decide)] at H; exact H
      clear H
      have H := H1
      clear H1
      by_cases c28 : x6_2.length < 17592186044416
      rotate_left
      · rw [if_neg c28] at H
        exact absurd H (by simp)
      rw [if_pos c28] at H
      have LMc28 := Aside0.mk c28
      clear c28
      obtain ⟨y185, hy185⟩ : ∃ y_ : List Int, y_ = (x6_2 ++ [t183]) := ⟨_, rfl⟩
      replace H : (if x8_1 < (x7_2.length : Int) then ((casing_joined.f k2 (([rdOf ByteArray.empty x7_2 x8_1, Utf8.encode (wrap32 (rd t178 x27_2))] : List ByteArray))).bind fun t192 => (if x7_2.length < 8796093022208 then (casing_table_order.l1 k2 y185 (x7_2 ++ [t192]) x8_1 t178 (t178.length : Int) (wrap64 (x27_2 + 1)) a0_0 a0_1 a0_2 a0_3 a0_4 a0_5 a0_6 a0_7 a0_8 a0_9 a0_10 a0_11) else (none))) else (none)) = some (r1, r2) := by first | (rw [hy185]; with_reducible exact H) | (have H2_ := (Option.bind_some _ _).symm.trans H; rw [hy185]; with_reducible exact H2_) | (have H2_ := (Option.bind_some _ _).symm.trans H; with_reducible exact H2_) | with_reducible exact H | (rw [hy185]; exact H) | exact H
      have Ny185 := Aside0.mk hy185
      clear hy185
      by_cases c29 : x8_1 < (x7_2.length : Int)
      rotate_left
      · rw [if_neg c29] at H
        exact absurd H (by simp)
      rw [if_pos c29] at H
      have c29b0 : decide (x8_1 < (x7_2.length : Int)) = true := decide_eq_true c29
      clear c29
      obtain ⟨y189, hy189⟩ : ∃ y_ : List ByteArray, y_ = (([rdOf ByteArray.empty x7_2 x8_1, Utf8.encode (wrap32 (rd t178 x27_2))] : List ByteArray)) := ⟨_, rfl⟩
      replace H : ((casing_joined.f k2 y189).bind fun t192 => (if x7_2.length < 8796093022208 then (casing_table_order.l1 k2 y185 (x7_2 ++ [t192]) x8_1 t178 (t178.length : Int) (wrap64 (x27_2 + 1)) a0_0 a0_1 a0_2 a0_3 a0_4 a0_5 a0_6 a0_7 a0_8 a0_9 a0_10 a0_11) else (none))) = some (r1, r2) := by first | (rw [hy189]; with_reducible exact H) | (have H2_ := (Option.bind_some _ _).symm.trans H; rw [hy189]; with_reducible exact H2_) | (have H2_ := (Option.bind_some _ _).symm.trans H; with_reducible exact H2_) | with_reducible exact H | (rw [hy189]; exact H) | exact H
      have Ny189 := Aside0.mk hy189
      clear hy189
      replace H := Option.bind_eq_some_iff.mp H
      obtain ⟨t192, A300, H⟩ := H
      try dsimp only at H
      have A30 := Aside0.mk A300
      clear A300
      by_cases c31 : x7_2.length < 8796093022208
      rotate_left
      · rw [if_neg c31] at H
        exact absurd H (by simp)
      rw [if_pos c31] at H
      have LMc31 := Aside0.mk c31
      clear c31
      obtain ⟨y193, hy193⟩ : ∃ y_ : List ByteArray, y_ = (x7_2 ++ [t192]) := ⟨_, rfl⟩
      replace H : (casing_table_order.l1 k2 y185 y193 x8_1 t178 (t178.length : Int) (wrap64 (x27_2 + 1)) a0_0 a0_1 a0_2 a0_3 a0_4 a0_5 a0_6 a0_7 a0_8 a0_9 a0_10 a0_11) = some (r1, r2) := by first | (rw [hy193]; with_reducible exact H) | (have H2_ := (Option.bind_some _ _).symm.trans H; rw [hy193]; with_reducible exact H2_) | (have H2_ := (Option.bind_some _ _).symm.trans H; with_reducible exact H2_) | with_reducible exact H | (rw [hy193]; exact H) | exact H
      have Ny193 := Aside0.mk hy193
      clear hy193
      have H' := Aside0.mk H
      clear H
      have p181 : 0 ≤ (x27_2 : Int) := of_decide_eq_true (by first | (with_reducible assumption) | assumption)
      have q181 : x27_2 < (t178.length : Int) := of_decide_eq_true (by first | (with_reducible assumption) | assumption)
      obtain ⟨ad181, e181, hx181_0⟩ := Kd.at_int (BR_reads HO_25.out) x27_2 p181 q181
      cases e181
      replace p181 := eq_true p181
      replace q181 := eq_true q181
      try go_wp2
      replace HO_6 := Aside0.mk (Kd.R_drew HO_6.out)
      replace HO_7 := Aside0.mk (Kd.R_drew HO_7.out)
      replace HO_25 := Aside0.mk (BR_drew HO_25.out)
      replace BK171 := Aside0.mk (blk_drew BK171.out)
      replace HB := Aside0.mk (below_drew1 HB.out)
      obtain ⟨Ao33, co33, eo33⟩ := Kd.R_slice HO_6.out
      (first | subst eo33 | (injection eo33 with f1_ f2_ f3_; have f4_ := f1_.symm; have f5_ := f3_.symm; clear f1_ f2_ f3_; subst f4_; subst f5_))
      have p182 : 0 ≤ (x8_1 : Int) := of_decide_eq_true (by first | (with_reducible assumption) | assumption)
      have q182 : x8_1 < (x6_2.length : Int) := of_decide_eq_true (by first | (with_reducible assumption) | assumption)
      obtain ⟨ad182, e182, hx182_0⟩ := Kd.at_int (Kd.R_reads' HO_6.out).2.2 x8_1 p182 q182
      cases e182
      replace p182 := eq_true p182
      replace q182 := eq_true q182
      refine start_ (n := 8) (S := fun w' => w'.cell? ⟨gb171, 0, none⟩ = some (.int .i64 a0_0) ∧ w'.cell? ⟨gb171, 1, none⟩ = some (.int .i64 a0_1) ∧ w'.cell? ⟨gb171, 2, none⟩ = some (.int .i64 a0_2) ∧ w'.cell? ⟨gb171, 3, none⟩ = some (.int .i64 a0_3) ∧ w'.cell? ⟨gb171, 4, none⟩ = some (.int .i64 a0_4) ∧ w'.cell? ⟨gb171, 5, none⟩ = some (.int .i64 a0_5) ∧ w'.cell? ⟨gb171, 6, none⟩ = some (.int .i64 a0_6) ∧ w'.cell? ⟨gb171, 7, none⟩ = some (.int .i64 a0_7) ∧ w'.cell? ⟨gb171, 8, none⟩ = some (.int .i64 a0_8) ∧ w'.cell? ⟨gb171, 9, none⟩ = some (.int .i64 a0_9) ∧ w'.cell? ⟨gb171, 10, none⟩ = some (.int .i64 a0_10) ∧ w'.cell? ⟨gb171, 11, none⟩ = some (.int .i64 a0_11) ∧ w'.cell? (ad182.add (x8_1).toNat) = some (.int .i64 (rd x6_2 x8_1))) (ds := []) #[false, false, false, false, false, false, false, false] (by kernel_rfl) rfl rfl ⟨(blk_cell BK171.out 0).trans rfl, (blk_cell BK171.out 1).trans rfl, (blk_cell BK171.out 2).trans rfl, (blk_cell BK171.out 3).trans rfl, (blk_cell BK171.out 4).trans rfl, (blk_cell BK171.out 5).trans rfl, (blk_cell BK171.out 6).trans rfl, (blk_cell BK171.out 7).trans rfl, (blk_cell BK171.out 8).trans rfl, (blk_cell BK171.out 9).trans rfl, (blk_cell BK171.out 10).trans rfl, (blk_cell BK171.out 11).trans rfl, hx182_0⟩ (fun hHeld => ?_); refine with_tabW casing_table_order.tab8 casing_table_order.bits8 (fun HT_ HW_ => ?_)
      generalize wr.drew = w32 at HO_6 HO_7 HO_25 BK171 HB hx182_0 hHeld ⊢
      refine pure_ (i := 1) (N := some 32) (v := ?_) (a' := ?_) #[false, true, false, false, false, false, false, false] rfl rfl (any_of HT_.out (by kernel_rfl)) (fun _ _ _ h => h) (Or.inl ⟨by rfl, ?_⟩) ?_ ?_
      rotate_left
      · intro w'
        go_simp
        with_reducible rfl
      rotate_left
      · simp only [Act.put, List.setIfInBounds_toArray, List.set_cons_zero, List.set_cons_succ, i64_w, i32_w]
        rfl
      refine pure_ (i := 2) (N := some 33) (v := ?_) (a' := ?_) #[false, true, true, false, false, false, false, false] rfl rfl (any_of HT_.out (by kernel_rfl)) (fun _ _ _ h => h) (Or.inl ⟨by rfl, ?_⟩) ?_ ?_
      rotate_left
      · intro w'
        go_simp
        with_reducible rfl
      rotate_left
      · simp only [Act.put, List.setIfInBounds_toArray, List.set_cons_zero, List.set_cons_succ, i64_w, i32_w]
        rfl
      refine pure_ (i := 3) (N := some 34) (v := ?_) (a' := ?_) #[false, true, true, true, false, false, false, false] rfl rfl (any_of HT_.out (by kernel_rfl)) (fun _ _ _ h => h) (Or.inl ⟨by rfl, ?_⟩) ?_ ?_
      rotate_left
      · intro w'
        go_simp
        with_reducible rfl
      rotate_left
      · simp only [Act.put, List.setIfInBounds_toArray, List.set_cons_zero, List.set_cons_succ, i64_w, i32_w]
        rfl
      refine pure_ (i := 5) (N := some 36) (v := ?_) (a' := ?_) #[false, true, true, true, false, true, false, false] rfl rfl (any_of HT_.out (by kernel_rfl)) (fun _ _ _ h => h) (Or.inl ⟨by rfl, ?_⟩) ?_ ?_
      rotate_left
      · intro w'
        go_simp
        with_reducible rfl
      rotate_left
      · simp only [Act.put, List.setIfInBounds_toArray, List.set_cons_zero, List.set_cons_succ, i64_w, i32_w]
        rfl
      refine take_ (i := 0) (N := some 31) (v := ?_) (a' := ?_) #[true, true, true, true, false, true, false, false] rfl rfl (take_ofW HT_.out HW_.out (by kernel_rfl)) (fun _ _ _ h => h) (Or.inl ⟨by rfl, ?_⟩) hHeld ?_ ?_
      rotate_left
      · rintro w' ⟨s0, s1, s2, s3, s4, s5, s6, s7, s8, s9, s10, s11, s12⟩
        go_simp
        with_reducible rfl
      rotate_left
      · simp only [Act.put, List.setIfInBounds_toArray, List.set_cons_zero, List.set_cons_succ, i64_w, i32_w]
        rfl
      refine take_ (i := 4) (N := some 35) (v := ?_) (a' := ?_) #[true, true, true, true, true, true, false, false] rfl rfl (take_ofW HT_.out HW_.out (by kernel_rfl)) (fun _ _ _ h => h) (Or.inl ⟨by rfl, ?_⟩) hHeld ?_ ?_
      rotate_left
      · rintro w' ⟨s0, s1, s2, s3, s4, s5, s6, s7, s8, s9, s10, s11, s12⟩
        go_simp
        with_reducible rfl
      rotate_left
      · simp only [Act.put, List.setIfInBounds_toArray, List.set_cons_zero, List.set_cons_succ, i64_w, i32_w]
        rfl
      refine one_ (i := 6) (N := some 37) #[true, true, true, true, true, true, true, false] rfl rfl (one_of HT_.out (by kernel_rfl)) (by decide) (fun K hK => ?_)
      refine goes_ Try.func82 (by kernel_rfl) rfl #[.agg #[.int .i64 a0_0, .int .i64 a0_1, .int .i64 a0_2, .int .i64 a0_3, .int .i64 a0_4, .int .i64 a0_5, .int .i64 a0_6, .int .i64 a0_7, .int .i64 a0_8, .int .i64 a0_9, .int .i64 a0_10, .int .i64 a0_11], .int .i64 (rd x6_2 x8_1), .int .u8 (rd t178 x27_2)] (by rfl) rfl rfl (by (try simp only [List.map_toArray, List.map_cons, List.map_nil]); first | done | rfl | (simp only [List.length_drop, List.length_take]; rfl)) ?_
      with_reducible refine (casing_table_sent.calls a0_0 a0_1 a0_2 a0_3 a0_4 a0_5 a0_6 a0_7 a0_8 a0_9 a0_10 a0_11 (rd x6_2 x8_1) (rd t178 x27_2) t183 _ A22.out).mono ?_
      rintro e w34 ⟨rfl, hb⟩
      have HS12_ := (hb.cell (World.block_lt_of_cell? _ _ (hHeld.2.2.2.2.2.2.2.2.2.2.2.2))).trans (hHeld.2.2.2.2.2.2.2.2.2.2.2.2)
      refine ⟨_, rfl, ?_⟩
      replace HO_6 := Aside0.mk (Kd.R_below HO_6.out (tr hb))
      replace HO_7 := Aside0.mk (Kd.R_below HO_7.out (tr hb))
      replace HO_25 := Aside0.mk (BR_below (by (with_reducible repeat (first | apply BR_alloc | apply BR_drewN | apply BR_drew)); exact HO_25.out) hb)
      replace BK171 := Aside0.mk (blk_below BK171.out (tr hb))
      replace HB := Aside0.mk (below_step (by repeat (first | (with_reducible first | exact HB.out | apply below_alloc | apply pw_below_drewN | apply below_drew1 | refine below_set ?_ GE171.out) | exact HB.out)) hb)
      (try clear hb)
      (try clear hb2)
      (try clear hk)
      (try clear hi)
      refine hK.out _ _ ⟨(blk_cell BK171.out 0).trans rfl, (blk_cell BK171.out 1).trans rfl, (blk_cell BK171.out 2).trans rfl, (blk_cell BK171.out 3).trans rfl, (blk_cell BK171.out 4).trans rfl, (blk_cell BK171.out 5).trans rfl, (blk_cell BK171.out 6).trans rfl, (blk_cell BK171.out 7).trans rfl, (blk_cell BK171.out 8).trans rfl, (blk_cell BK171.out 9).trans rfl, (blk_cell BK171.out 10).trans rfl, (blk_cell BK171.out 11).trans rfl, HS12_⟩ (fun hHeld => ?_)
      clear hK K
      refine norm_ (a' := ?_) ?_ ?_
      rotate_left
      · show Act.put _ (some 37) _ = _
        simp only [Act.put, List.setIfInBounds_toArray, List.set_cons_zero, List.set_cons_succ, i64_w, i32_w]
        rfl
      refine pure_ (i := 7) (N := some 11) (v := ?_) (a' := ?_) #[true, true, true, true, true, true, true, true] rfl rfl (any_of HT_.out (by kernel_rfl)) (fun _ _ _ h => h) (Or.inl ⟨by rfl, ?_⟩) ?_ ?_
      rotate_left
      · intro w'
        go_simp
        with_reducible rfl
      rotate_left
      · simp only [Act.put, List.setIfInBounds_toArray, List.set_cons_zero, List.set_cons_succ, i64_w, i32_w]
        rfl
      refine done_ (done_of HT_.out (by kernel_rfl)) ?_
      go_upto_region 10 with (first | ((with_reducible refine gate_callee (f := 81) rfl ?_); refine goesL_ (some 40) rfl rfl Try.func81 (by kernel_rfl) rfl #[.slice (some ad182) x6_2.length co33, .int .i64 t183] rfl (by (try simp only [List.map_toArray, List.map_cons, List.map_nil]); first | done | rfl | (simp only [List.length_drop, List.length_take]; rfl)) ?_; (with_reducible refine (slices_Contains_int_int.calls k2 _ _ x6_2 t183 false _ ?side1 ?side2 A23.out).mono ?_); (case side1 => repeat (first | exact (Kd.R_reads' HO_6.out).2.2 | (with_reducible refine Kd.C_alloc ?_ _) | (with_reducible refine Kd.C_drewN ?_ _) | (with_reducible refine Kd.C_drew ?_))); (case side2 => exact (Kd.R_reads' HO_6.out).2.1); rintro e wq ⟨rfl, hdr_⟩; refine ⟨_, rfl, ?_⟩; have hb_ : Below w34.heap.size w34 wq := (by obtain ⟨nd, rfl⟩ := hdr_; exact pw_below_drewN (Below.refl _ _) nd); clear hdr_; replace HO_6 := Aside0.mk (Kd.R_below HO_6.out hb_); replace HO_7 := Aside0.mk (Kd.R_below HO_7.out hb_); replace HO_25 := Aside0.mk (BR_below HO_25.out hb_); replace BK171 := Aside0.mk (blk_below BK171.out hb_); replace HB := Aside0.mk (below_step HB.out hb_); clear hb_))
      obtain ⟨AoW, coW, eoW⟩ := Kd.R_slice HO_7.out
      subst eoW
      have p188 : 0 ≤ (x8_1 : Int) := of_decide_eq_true (by first | (with_reducible assumption) | assumption)
      have q188 : x8_1 < (x7_2.length : Int) := of_decide_eq_true (by first | (with_reducible assumption) | assumption)
      have HW0 := Aside0.mk (Kd.R_drew HO_6.out)
      have HW1 := Aside0.mk (Kd.R_drew HO_7.out)
      have HW2 := Aside0.mk (BR_drew HO_25.out)
      have HW3 := Aside0.mk (blk_drew BK171.out)
      have HW4 := Aside0.mk (below_drew1 HB.out)
      clear HO_6 HO_7 HO_25 BK171 HB
      have HO_6 := HW0
      have HO_7 := HW1
      have HO_25 := HW2
      have BK171 := HW3
      have HB := HW4
      clear HW0 HW1 HW2 HW3 HW4
      obtain ⟨adW, eW, hxW⟩ := Kd.at_string (Kd.R_reads' HO_7.out).2.2 x8_1 p188 q188
      cases eW
      replace p188 := eq_true p188
      replace q188 := eq_true q188
      refine start_ (n := 18) (S := fun w' => w'.cell? (adW.add (x8_1 : Int).toNat) = some (.string (rdOf ByteArray.empty x7_2 x8_1))) (ds := [15]) #[false, false, false, false, false, false, false, false, false, false, false, false, false, false, false, false, false, false] (by kernel_rfl) rfl rfl (hxW) (fun hHeld => ?_)
      clear hxW
      generalize wq.drew = wd at HO_6 HO_7 HO_25 BK171 HB hHeld ⊢
      refine pure_ (i := 0) (N := (some 42)) (v := ?_) (a' := ?_) #[true, false, false, false, false, false, false, false, false, false, false, false, false, false, false, false, false, false] rfl rfl (by kernel_rfl) (fun _ _ _ h => h) (Or.inl ⟨by rfl, ?_⟩) ?_ ?_
      rotate_left
      · intro w'
        first | (go_simp; with_reducible rfl) | rfl | (go_simp; done)
      rotate_left
      · first | (simp only [Act.put, List.setIfInBounds_toArray, List.set_cons_zero, List.set_cons_succ, i64_w, i32_w]; rfl) | rfl
      refine pure_ (i := 1) (N := (some 43)) (v := ?_) (a' := ?_) #[true, true, false, false, false, false, false, false, false, false, false, false, false, false, false, false, false, false] rfl rfl (by kernel_rfl) (fun _ _ _ h => h) (Or.inl ⟨by rfl, ?_⟩) ?_ ?_
      rotate_left
      · intro w'
        first | (go_simp; with_reducible rfl) | rfl | (go_simp; done)
      rotate_left
      · first | (simp only [Act.put, List.setIfInBounds_toArray, List.set_cons_zero, List.set_cons_succ, i64_w, i32_w]; rfl) | rfl
      refine pure_ (i := 4) (N := (some 46)) (v := ?_) (a' := ?_) #[true, true, false, false, true, false, false, false, false, false, false, false, false, false, false, false, false, false] rfl rfl (by kernel_rfl) (fun _ _ _ h => h) (Or.inl ⟨by rfl, ?_⟩) ?_ ?_
      rotate_left
      · intro w'
        first | (go_simp; with_reducible rfl) | rfl | (go_simp; done)
      rotate_left
      · first | (simp only [Act.put, List.setIfInBounds_toArray, List.set_cons_zero, List.set_cons_succ, i64_w, i32_w]; rfl) | rfl
      refine pure_ (i := 5) (N := (some 47)) (v := ?_) (a' := ?_) #[true, true, false, false, true, true, false, false, false, false, false, false, false, false, false, false, false, false] rfl rfl (by kernel_rfl) (fun _ _ _ h => h) (Or.inl ⟨by rfl, ?_⟩) ?_ ?_
      rotate_left
      · intro w'
        first | (go_simp; with_reducible rfl) | rfl | (go_simp; done)
      rotate_left
      · first | (simp only [Act.put, List.setIfInBounds_toArray, List.set_cons_zero, List.set_cons_succ, i64_w, i32_w]; rfl) | rfl
      refine pure_ (i := 6) (N := (some 48)) (v := ?_) (a' := ?_) #[true, true, false, false, true, true, true, false, false, false, false, false, false, false, false, false, false, false] rfl rfl (by kernel_rfl) (fun _ _ _ h => h) (Or.inl ⟨by rfl, ?_⟩) ?_ ?_
      rotate_left
      · intro w'
        first | (go_simp; with_reducible rfl) | rfl | (go_simp; done)
      rotate_left
      · first | (simp only [Act.put, List.setIfInBounds_toArray, List.set_cons_zero, List.set_cons_succ, i64_w, i32_w]; rfl) | rfl
      refine pure_ (i := 9) (N := (some 51)) (v := ?_) (a' := ?_) #[true, true, false, false, true, true, true, false, false, true, false, false, false, false, false, false, false, false] rfl rfl (by kernel_rfl) (fun _ _ _ h => h) (Or.inl ⟨by rfl, ?_⟩) ?_ ?_
      rotate_left
      · intro w'
        first | (go_simp; with_reducible rfl) | rfl | (go_simp; done)
      rotate_left
      · first | (simp only [Act.put, List.setIfInBounds_toArray, List.set_cons_zero, List.set_cons_succ, i64_w, i32_w]; rfl) | rfl
      refine pure_ (i := 10) (N := (some 52)) (v := ?_) (a' := ?_) #[true, true, false, false, true, true, true, false, false, true, true, false, false, false, false, false, false, false] rfl rfl (by kernel_rfl) (fun _ _ _ h => h) (Or.inl ⟨by rfl, ?_⟩) ?_ ?_
      rotate_left
      · intro w'
        first | (go_simp; with_reducible rfl) | rfl | (go_simp; done)
      rotate_left
      · first | (simp only [Act.put, List.setIfInBounds_toArray, List.set_cons_zero, List.set_cons_succ, i64_w, i32_w]; rfl) | rfl
      refine pure_ (i := 11) (N := (some 53)) (v := ?_) (a' := ?_) #[true, true, false, false, true, true, true, false, false, true, true, true, false, false, false, false, false, false] rfl rfl (by kernel_rfl) (fun _ _ _ h => h) (Or.inl ⟨by rfl, ?_⟩) ?_ ?_
      rotate_left
      · intro w'
        first | (go_simp; with_reducible rfl) | rfl | (go_simp; done)
      rotate_left
      · first | (simp only [Act.put, List.setIfInBounds_toArray, List.set_cons_zero, List.set_cons_succ, i64_w, i32_w]; rfl) | rfl
      refine pure_ (i := 7) (N := (some 49)) (v := ?_) (a' := ?_) #[true, true, false, false, true, true, true, true, false, true, true, true, false, false, false, false, false, false] rfl rfl (by kernel_rfl) (fun _ _ _ h => h) (Or.inl ⟨by rfl, ?_⟩) ?_ ?_
      rotate_left
      · intro w'
        first | (go_simp; with_reducible rfl) | rfl | (go_simp; done)
      rotate_left
      · first | (simp only [Act.put, List.setIfInBounds_toArray, List.set_cons_zero, List.set_cons_succ, i64_w, i32_w]; rfl) | rfl
      refine take_ (i := 8) (N := (some 50)) (v := ?_) (a' := ?_) #[true, true, false, false, true, true, true, true, true, true, true, true, false, false, false, false, false, false] rfl rfl (by kernel_rfl) (fun _ _ _ h => h) (Or.inl ⟨by rfl, ?_⟩) hHeld ?_ ?_
      rotate_left
      · intro w' s0
        first | (go_simp; with_reducible rfl) | rfl | (go_simp; done)
      rotate_left
      · first | (simp only [Act.put, List.setIfInBounds_toArray, List.set_cons_zero, List.set_cons_succ, i64_w, i32_w]; rfl) | rfl
      refine two_ (i := 2) (j := 12) (Ni := some 44) (Nj := some 54) #[true, true, true, false, true, true, true, true, true, true, true, true, false, false, false, false, false, false] #[true, true, false, false, true, true, true, true, true, true, true, true, true, false, false, false, false, false] rfl rfl rfl rfl (by kernel_rfl) (by decide) (by decide) (fun K hK => ?_) (fun K hK => ?_)
      · refine value_ (w1 := ?_) (v := ?_) (by rfl) rfl ?_ ?_
        rotate_left 2
        · go_simp
          constructor
          · rfl
          · rfl
        have hb_ : Below wd.heap.size wd (wd.alloc (.cells #[.int .i64 t183] 3)) := below_alloc (Below.refl _ _) _
        replace HO_6 := Aside0.mk (Kd.R_below HO_6.out hb_)
        replace HO_7 := Aside0.mk (Kd.R_below HO_7.out hb_)
        replace HO_25 := Aside0.mk (BR_below HO_25.out hb_)
        replace BK171 := Aside0.mk (blk_below BK171.out hb_)
        replace HB := Aside0.mk (below_step HB.out hb_)
        have BX2 := Aside0.mk (blk_new wd (.cells #[.int .i64 t183] 3))
        clear hb_
        refine hK.out _ _ (by obtain ⟨adz, ez, hz⟩ := Kd.at_string (Kd.R_reads' HO_7.out).2.2 x8_1 (of_eq_true p188) (of_eq_true q188); cases ez; exact hz) (fun hHeld => ?_)
        clear hK K
        refine norm_ (a' := ?_) ?_ ?_
        rotate_left
        · show Act.put _ (some 44) _ = _
          simp only [Act.put, List.setIfInBounds_toArray, List.set_cons_zero, List.set_cons_succ, i64_w, i32_w]
          rfl
        generalize wd.alloc (.cells #[.int .i64 t183] 3) = we at HO_6 HO_7 HO_25 BK171 BX2 HB hHeld ⊢
        refine two_ (i := 3) (j := 12) (Ni := some 45) (Nj := some 54) #[true, true, true, true, true, true, true, true, true, true, true, true, false, false, false, false, false, false] #[true, true, true, false, true, true, true, true, true, true, true, true, true, false, false, false, false, false] rfl rfl rfl rfl (by kernel_rfl) (by decide) (by decide) (fun K hK => ?_) (fun K hK => ?_)
        · refine Kd.R_append_rows_step (Kd.int .i64) (w0 := w) w.heap.size (by rfl) (.tmp 42) (.tmp 44) 36 3 (.int .i64 0) 8 rfl Try.underlying36 info3 rfl (by decide) (by omega) (.slice (some ad182) x6_2.length co33) x6_2 [t183] _ _ _ (fun _ => True) (fun _ => False) rfl rfl HO_6.out (C_blk (d := (0 : Int)) (h1 := fun _ => rfl) BX2.out [t183] (by simp) (fun j hj => by rcases j with _ | j <;> first | rfl | (simp at hj <;> omega))) (fun _ _ h => h) (fun _ h => h.elim) (fun _ _ => trivial) HB.out HB.out.size (by have := LMc28.out; omega) ?_
          intro vA wf ho hb hg hat
          rw [← Ny185.out] at ho
          have n0_ := Aside0.mk (Kd.R_over' HO_7.out (Kd.R_typed HO_6.out) (by decide) hg)
          have n1_ := Aside0.mk (BR_over HO_25.out (Kd.R_typed HO_6.out) (by decide) hg)
          have n2_ := Aside0.mk (blk_grown BK171.out hg (Kd.R_ne HO_6.out BK171.out (by decide)))
          have n3_ := Aside0.mk hb
          have n4_ := Aside0.mk ho
          clear HO_7 HO_25 BK171 HB HO_6 BX2
          have HO_7 := n0_
          have HO_25 := n1_
          have BK171 := n2_
          have HB := n3_
          have HO187 := n4_
          clear n0_ n1_ n2_ n3_ n4_
          clear ho hb hg hat
          refine hK.out _ _ (by obtain ⟨adz, ez, hz⟩ := Kd.at_string (Kd.R_reads' HO_7.out).2.2 x8_1 (of_eq_true p188) (of_eq_true q188); cases ez; exact hz) (fun hHeld => ?_)
          clear hK K
          refine norm_ (a' := ?_) ?_ ?_
          rotate_left
          · show Act.put _ (some 45) _ = _
            simp only [Act.put, List.setIfInBounds_toArray, List.set_cons_zero, List.set_cons_succ, i64_w, i32_w]
            rfl
          refine one_ (i := 12) (N := some 54) #[true, true, true, true, true, true, true, true, true, true, true, true, true, false, false, false, false, false] rfl rfl (by kernel_rfl) (by decide) (fun K hK => ?_)
          refine value_ (w1 := ?_) (v := ?_) (by rfl) rfl ?_ ?_
          rotate_left 2
          · go_simp
            constructor
            · rfl
            · rfl
          have hb_ : Below wf.heap.size wf (wf.alloc (.cells #[.string (rdOf ByteArray.empty x7_2 x8_1), .string (Utf8.encode (wrap32 (rd t178 x27_2)))] 9)) := below_alloc (Below.refl _ _) _
          replace HO187 := Aside0.mk (Kd.R_below HO187.out hb_)
          replace HO_7 := Aside0.mk (Kd.R_below HO_7.out hb_)
          replace HO_25 := Aside0.mk (BR_below HO_25.out hb_)
          replace BK171 := Aside0.mk (blk_below BK171.out hb_)
          replace HB := Aside0.mk (below_step HB.out hb_)
          have BX12 := Aside0.mk (blk_new wf (.cells #[.string (rdOf ByteArray.empty x7_2 x8_1), .string (Utf8.encode (wrap32 (rd t178 x27_2)))] 9))
          clear hb_
          refine hK.out _ _ (by obtain ⟨adz, ez, hz⟩ := Kd.at_string (Kd.R_reads' HO_7.out).2.2 x8_1 (of_eq_true p188) (of_eq_true q188); cases ez; exact hz) (fun hHeld => ?_)
          clear hK K
          refine norm_ (a' := ?_) ?_ ?_
          rotate_left
          · show Act.put _ (some 54) _ = _
            simp only [Act.put, List.setIfInBounds_toArray, List.set_cons_zero, List.set_cons_succ, i64_w, i32_w]
            rfl
          generalize wf.alloc (.cells #[.string (rdOf ByteArray.empty x7_2 x8_1), .string (Utf8.encode (wrap32 (rd t178 x27_2)))] 9) = wg at HO187 HO_7 HO_25 BK171 BX12 HB hHeld ⊢
          refine one_ (i := 13) (N := some 55) #[true, true, true, true, true, true, true, true, true, true, true, true, true, true, false, false, false, false] rfl rfl (by kernel_rfl) (by decide) (fun K hK => ?_)
          refine goes_ Try.func59 (by kernel_rfl) rfl #[.slice (some ⟨wf.heap.size, 0, none⟩) 2 2] (by rfl) rfl rfl (by (try simp only [List.map_toArray, List.map_cons, List.map_nil]); first | done | rfl) ?_
          have hj_ := casing_joined.calls k2 (some ⟨wf.heap.size, 0, none⟩) 2 [rdOf ByteArray.empty x7_2 x8_1, Utf8.encode (wrap32 (rd t178 x27_2))] t192 wg (C_blk (d := ByteArray.empty) (h1 := fun _ => rfl) BX12.out _ (by simp) (fun j hj => by rcases j with _ | _ | j <;> first | rfl | (simp at hj <;> omega))) (by simp) (by rw [← Ny189.out]; exact A30.out)
          refine Calls.mono hj_ ?_
          clear hj_
          rintro e wJ ⟨rfl, hb⟩
          refine ⟨_, rfl, ?_⟩
          replace HO187 := Aside0.mk (Kd.R_below HO187.out hb)
          replace HO_7 := Aside0.mk (Kd.R_below HO_7.out hb)
          replace HO_25 := Aside0.mk (BR_below HO_25.out hb)
          replace BK171 := Aside0.mk (blk_below BK171.out hb)
          replace HB := Aside0.mk (below_step HB.out hb)
          clear hb BX12
          refine hK.out _ _ (by obtain ⟨adz, ez, hz⟩ := Kd.at_string (Kd.R_reads' HO_7.out).2.2 x8_1 (of_eq_true p188) (of_eq_true q188); cases ez; exact hz) (fun hHeld => ?_)
          clear hK K
          refine norm_ (a' := ?_) ?_ ?_
          rotate_left
          · show Act.put _ (some 55) _ = _
            simp only [Act.put, List.setIfInBounds_toArray, List.set_cons_zero, List.set_cons_succ, i64_w, i32_w]
            rfl
          refine one_ (i := 14) (N := some 56) #[true, true, true, true, true, true, true, true, true, true, true, true, true, true, true, false, false, false] rfl rfl (by kernel_rfl) (by decide) (fun K hK => ?_)
          refine value_ (w1 := ?_) (v := ?_) (by rfl) rfl ?_ ?_
          rotate_left 2
          · go_simp
            constructor
            · rfl
            · rfl
          have hb_ : Below wJ.heap.size wJ (wJ.alloc (.cells #[.string t192] 9)) := below_alloc (Below.refl _ _) _
          replace HO187 := Aside0.mk (Kd.R_below HO187.out hb_)
          replace HO_7 := Aside0.mk (Kd.R_below HO_7.out hb_)
          replace HO_25 := Aside0.mk (BR_below HO_25.out hb_)
          replace BK171 := Aside0.mk (blk_below BK171.out hb_)
          replace HB := Aside0.mk (below_step HB.out hb_)
          have BX14 := Aside0.mk (blk_new wJ (.cells #[.string t192] 9))
          clear hb_
          refine hK.out _ _ (by obtain ⟨adz, ez, hz⟩ := Kd.at_string (Kd.R_reads' HO_7.out).2.2 x8_1 (of_eq_true p188) (of_eq_true q188); cases ez; exact hz) (fun hHeld => ?_)
          clear hK K
          refine norm_ (a' := ?_) ?_ ?_
          rotate_left
          · show Act.put _ (some 56) _ = _
            simp only [Act.put, List.setIfInBounds_toArray, List.set_cons_zero, List.set_cons_succ, i64_w, i32_w]
            rfl
          generalize wJ.alloc (.cells #[.string t192] 9) = wK at HO187 HO_7 HO_25 BK171 BX14 HB hHeld ⊢
          refine last_ (i := 15) (N := some 57) #[true, true, true, true, true, true, true, true, true, true, true, true, true, true, true, true, false, false] rfl rfl (by kernel_rfl) (by decide) (fun K hK => ?_)
          refine Kd.R_append_rows_step Kd.string (w0 := w) w.heap.size (by rfl) (.tmp 46) (.tmp 56) 22 9 (.string ⟨#[]⟩) 16 rfl Try.underlying22 info9 rfl (by decide) (by omega) (.slice (some adW) x7_2.length coW) x7_2 [t192] _ _ _ (fun _ => True) (fun _ => False) rfl rfl HO_7.out (C_blk (d := ByteArray.empty) (h1 := fun _ => rfl) BX14.out [t192] (by simp) (fun j hj => by rcases j with _ | j <;> first | rfl | (simp at hj <;> omega))) (fun _ _ h => h) (fun _ h => h.elim) (fun _ _ => trivial) HB.out HB.out.size (by have := LMc31.out; omega) ?_
          intro vB wL ho hb hg hat
          rw [← Ny193.out] at ho
          have n0_ := Aside0.mk (Kd.R_over' HO187.out (Kd.R_typed HO_7.out) (by decide) hg)
          have n1_ := Aside0.mk (BR_over HO_25.out (Kd.R_typed HO_7.out) (by decide) hg)
          have n2_ := Aside0.mk (blk_grown BK171.out hg (Kd.R_ne HO_7.out BK171.out (by decide)))
          have n3_ := Aside0.mk hb
          have n4_ := Aside0.mk ho
          clear HO187 HO_25 BK171 HB HO_7 BX14
          have HO187 := n0_
          have HO_25 := n1_
          have BK171 := n2_
          have HB := n3_
          have HO195 := n4_
          clear n0_ n1_ n2_ n3_ n4_ ho hb hg hat
          refine hK.out _ _ ?_
          clear hK K hHeld
          refine norm_ (a' := ?_) ?_ ?_
          rotate_left
          · show Act.put _ (some 57) _ = _
            simp only [Act.put, List.setIfInBounds_toArray, List.set_cons_zero, List.set_cons_succ, i64_w, i32_w]
            rfl
          refine pure_ (i := 16) (N := (some 6)) (v := ?_) (a' := ?_) #[true, true, true, true, true, true, true, true, true, true, true, true, true, true, true, true, true, false] rfl rfl (by kernel_rfl) (fun _ _ _ h => h) (Or.inl ⟨by rfl, ?_⟩) ?_ ?_
          rotate_left
          · intro w'
            first | (go_simp; with_reducible rfl) | rfl | (go_simp; done)
          rotate_left
          · first | (simp only [Act.put, List.setIfInBounds_toArray, List.set_cons_zero, List.set_cons_succ, i64_w, i32_w]; rfl) | rfl
          refine pure_ (i := 17) (N := (some 7)) (v := ?_) (a' := ?_) #[true, true, true, true, true, true, true, true, true, true, true, true, true, true, true, true, true, true] rfl rfl (by kernel_rfl) (fun _ _ _ h => h) (Or.inl ⟨by rfl, ?_⟩) ?_ ?_
          rotate_left
          · intro w'
            first | (go_simp; with_reducible rfl) | rfl | (go_simp; done)
          rotate_left
          · first | (simp only [Act.put, List.setIfInBounds_toArray, List.set_cons_zero, List.set_cons_succ, i64_w, i32_w]; rfl) | rfl
          refine done_ (by kernel_rfl) ?_
          try go_wp2
          go_roundg k2
          case measure => have := HK1.out; have := HK2.out; omega
          case rel => exact ⟨(y185), (y193), (wrap64 (x27_2 + 1)), (by first | rfl | (simp; done) | (simp [*]; done)), H', ⟨by have := HK1.out; have := HK2.out; omega⟩, ⟨by (with_reducible repeat (first | apply Kd.R_alloc | apply Kd.R_drewN | apply Kd.R_drew)); exact HO187.out⟩, ⟨by (with_reducible repeat (first | apply Kd.R_alloc | apply Kd.R_drewN | apply Kd.R_drew)); exact Kd.R_mono HO195.out (fun _ hk => trivial)⟩, ⟨by (with_reducible repeat (first | apply BR_alloc | apply BR_drewN | apply BR_drew)); exact HO_25.out⟩, ⟨by (with_reducible repeat (first | refine blk_drewN ?_ _ | refine blk_drew ?_ | refine blk_alloc ?_ _)); exact BK171.out⟩, ⟨by repeat (first | (with_reducible first | exact HB.out | apply below_alloc | apply pw_below_drewN | apply below_drew1 | refine below_set ?_ GE171.out) | exact HB.out)⟩⟩
        · refine value_ (w1 := ?_) (v := ?_) (by rfl) rfl ?_ ?_
          rotate_left 2
          · go_simp
            constructor
            · rfl
            · rfl
          have hb_ : Below we.heap.size we (we.alloc (.cells #[.string (rdOf ByteArray.empty x7_2 x8_1), .string (Utf8.encode (wrap32 (rd t178 x27_2)))] 9)) := below_alloc (Below.refl _ _) _
          replace HO_6 := Aside0.mk (Kd.R_below HO_6.out hb_)
          replace HO_7 := Aside0.mk (Kd.R_below HO_7.out hb_)
          replace HO_25 := Aside0.mk (BR_below HO_25.out hb_)
          replace BK171 := Aside0.mk (blk_below BK171.out hb_)
          replace BX2 := Aside0.mk (blk_below BX2.out hb_)
          replace HB := Aside0.mk (below_step HB.out hb_)
          have BX12 := Aside0.mk (blk_new we (.cells #[.string (rdOf ByteArray.empty x7_2 x8_1), .string (Utf8.encode (wrap32 (rd t178 x27_2)))] 9))
          clear hb_
          refine hK.out _ _ (by obtain ⟨adz, ez, hz⟩ := Kd.at_string (Kd.R_reads' HO_7.out).2.2 x8_1 (of_eq_true p188) (of_eq_true q188); cases ez; exact hz) (fun hHeld => ?_)
          clear hK K
          refine norm_ (a' := ?_) ?_ ?_
          rotate_left
          · show Act.put _ (some 54) _ = _
            simp only [Act.put, List.setIfInBounds_toArray, List.set_cons_zero, List.set_cons_succ, i64_w, i32_w]
            rfl
          generalize we.alloc (.cells #[.string (rdOf ByteArray.empty x7_2 x8_1), .string (Utf8.encode (wrap32 (rd t178 x27_2)))] 9) = wf at HO_6 HO_7 HO_25 BK171 BX2 BX12 HB hHeld ⊢
          refine one_ (i := 3) (N := some 45) #[true, true, true, true, true, true, true, true, true, true, true, true, true, false, false, false, false, false] rfl rfl (by kernel_rfl) (by decide) (fun K hK => ?_)
          refine Kd.R_append_rows_step (Kd.int .i64) (w0 := w) w.heap.size (by rfl) (.tmp 42) (.tmp 44) 36 3 (.int .i64 0) 8 rfl Try.underlying36 info3 rfl (by decide) (by omega) (.slice (some ad182) x6_2.length co33) x6_2 [t183] _ _ _ (fun _ => True) (fun _ => False) rfl rfl HO_6.out (C_blk (d := (0 : Int)) (h1 := fun _ => rfl) BX2.out [t183] (by simp) (fun j hj => by rcases j with _ | j <;> first | rfl | (simp at hj <;> omega))) (fun _ _ h => h) (fun _ h => h.elim) (fun _ _ => trivial) HB.out HB.out.size (by have := LMc28.out; omega) ?_
          intro vA wg ho hb hg hat
          rw [← Ny185.out] at ho
          have n0_ := Aside0.mk (Kd.R_over' HO_7.out (Kd.R_typed HO_6.out) (by decide) hg)
          have n1_ := Aside0.mk (BR_over HO_25.out (Kd.R_typed HO_6.out) (by decide) hg)
          have n2_ := Aside0.mk (blk_grown BK171.out hg (Kd.R_ne HO_6.out BK171.out (by decide)))
          have n3_ := Aside0.mk (blk_grown BX12.out hg (Kd.R_ne HO_6.out BX12.out (by decide)))
          have n4_ := Aside0.mk hb
          have n5_ := Aside0.mk ho
          clear HO_7 HO_25 BK171 BX12 HB HO_6 BX2
          have HO_7 := n0_
          have HO_25 := n1_
          have BK171 := n2_
          have BX12 := n3_
          have HB := n4_
          have HO187 := n5_
          clear n0_ n1_ n2_ n3_ n4_ n5_
          clear ho hb hg hat
          refine hK.out _ _ (by obtain ⟨adz, ez, hz⟩ := Kd.at_string (Kd.R_reads' HO_7.out).2.2 x8_1 (of_eq_true p188) (of_eq_true q188); cases ez; exact hz) (fun hHeld => ?_)
          clear hK K
          refine norm_ (a' := ?_) ?_ ?_
          rotate_left
          · show Act.put _ (some 45) _ = _
            simp only [Act.put, List.setIfInBounds_toArray, List.set_cons_zero, List.set_cons_succ, i64_w, i32_w]
            rfl
          refine one_ (i := 13) (N := some 55) #[true, true, true, true, true, true, true, true, true, true, true, true, true, true, false, false, false, false] rfl rfl (by kernel_rfl) (by decide) (fun K hK => ?_)
          refine goes_ Try.func59 (by kernel_rfl) rfl #[.slice (some ⟨we.heap.size, 0, none⟩) 2 2] (by rfl) rfl rfl (by (try simp only [List.map_toArray, List.map_cons, List.map_nil]); first | done | rfl) ?_
          have hj_ := casing_joined.calls k2 (some ⟨we.heap.size, 0, none⟩) 2 [rdOf ByteArray.empty x7_2 x8_1, Utf8.encode (wrap32 (rd t178 x27_2))] t192 wg (C_blk (d := ByteArray.empty) (h1 := fun _ => rfl) BX12.out _ (by simp) (fun j hj => by rcases j with _ | _ | j <;> first | rfl | (simp at hj <;> omega))) (by simp) (by rw [← Ny189.out]; exact A30.out)
          refine Calls.mono hj_ ?_
          clear hj_
          rintro e wJ ⟨rfl, hb⟩
          refine ⟨_, rfl, ?_⟩
          replace HO187 := Aside0.mk (Kd.R_below HO187.out hb)
          replace HO_7 := Aside0.mk (Kd.R_below HO_7.out hb)
          replace HO_25 := Aside0.mk (BR_below HO_25.out hb)
          replace BK171 := Aside0.mk (blk_below BK171.out hb)
          replace HB := Aside0.mk (below_step HB.out hb)
          clear hb BX12
          refine hK.out _ _ (by obtain ⟨adz, ez, hz⟩ := Kd.at_string (Kd.R_reads' HO_7.out).2.2 x8_1 (of_eq_true p188) (of_eq_true q188); cases ez; exact hz) (fun hHeld => ?_)
          clear hK K
          refine norm_ (a' := ?_) ?_ ?_
          rotate_left
          · show Act.put _ (some 55) _ = _
            simp only [Act.put, List.setIfInBounds_toArray, List.set_cons_zero, List.set_cons_succ, i64_w, i32_w]
            rfl
          refine one_ (i := 14) (N := some 56) #[true, true, true, true, true, true, true, true, true, true, true, true, true, true, true, false, false, false] rfl rfl (by kernel_rfl) (by decide) (fun K hK => ?_)
          refine value_ (w1 := ?_) (v := ?_) (by rfl) rfl ?_ ?_
          rotate_left 2
          · go_simp
            constructor
            · rfl
            · rfl
          have hb_ : Below wJ.heap.size wJ (wJ.alloc (.cells #[.string t192] 9)) := below_alloc (Below.refl _ _) _
          replace HO187 := Aside0.mk (Kd.R_below HO187.out hb_)
          replace HO_7 := Aside0.mk (Kd.R_below HO_7.out hb_)
          replace HO_25 := Aside0.mk (BR_below HO_25.out hb_)
          replace BK171 := Aside0.mk (blk_below BK171.out hb_)
          replace HB := Aside0.mk (below_step HB.out hb_)
          have BX14 := Aside0.mk (blk_new wJ (.cells #[.string t192] 9))
          clear hb_
          refine hK.out _ _ (by obtain ⟨adz, ez, hz⟩ := Kd.at_string (Kd.R_reads' HO_7.out).2.2 x8_1 (of_eq_true p188) (of_eq_true q188); cases ez; exact hz) (fun hHeld => ?_)
          clear hK K
          refine norm_ (a' := ?_) ?_ ?_
          rotate_left
          · show Act.put _ (some 56) _ = _
            simp only [Act.put, List.setIfInBounds_toArray, List.set_cons_zero, List.set_cons_succ, i64_w, i32_w]
            rfl
          generalize wJ.alloc (.cells #[.string t192] 9) = wK at HO187 HO_7 HO_25 BK171 BX14 HB hHeld ⊢
          refine last_ (i := 15) (N := some 57) #[true, true, true, true, true, true, true, true, true, true, true, true, true, true, true, true, false, false] rfl rfl (by kernel_rfl) (by decide) (fun K hK => ?_)
          refine Kd.R_append_rows_step Kd.string (w0 := w) w.heap.size (by rfl) (.tmp 46) (.tmp 56) 22 9 (.string ⟨#[]⟩) 16 rfl Try.underlying22 info9 rfl (by decide) (by omega) (.slice (some adW) x7_2.length coW) x7_2 [t192] _ _ _ (fun _ => True) (fun _ => False) rfl rfl HO_7.out (C_blk (d := ByteArray.empty) (h1 := fun _ => rfl) BX14.out [t192] (by simp) (fun j hj => by rcases j with _ | j <;> first | rfl | (simp at hj <;> omega))) (fun _ _ h => h) (fun _ h => h.elim) (fun _ _ => trivial) HB.out HB.out.size (by have := LMc31.out; omega) ?_
          intro vB wL ho hb hg hat
          rw [← Ny193.out] at ho
          have n0_ := Aside0.mk (Kd.R_over' HO187.out (Kd.R_typed HO_7.out) (by decide) hg)
          have n1_ := Aside0.mk (BR_over HO_25.out (Kd.R_typed HO_7.out) (by decide) hg)
          have n2_ := Aside0.mk (blk_grown BK171.out hg (Kd.R_ne HO_7.out BK171.out (by decide)))
          have n3_ := Aside0.mk hb
          have n4_ := Aside0.mk ho
          clear HO187 HO_25 BK171 HB HO_7 BX14
          have HO187 := n0_
          have HO_25 := n1_
          have BK171 := n2_
          have HB := n3_
          have HO195 := n4_
          clear n0_ n1_ n2_ n3_ n4_ ho hb hg hat
          refine hK.out _ _ ?_
          clear hK K hHeld
          refine norm_ (a' := ?_) ?_ ?_
          rotate_left
          · show Act.put _ (some 57) _ = _
            simp only [Act.put, List.setIfInBounds_toArray, List.set_cons_zero, List.set_cons_succ, i64_w, i32_w]
            rfl
          refine pure_ (i := 16) (N := (some 6)) (v := ?_) (a' := ?_) #[true, true, true, true, true, true, true, true, true, true, true, true, true, true, true, true, true, false] rfl rfl (by kernel_rfl) (fun _ _ _ h => h) (Or.inl ⟨by rfl, ?_⟩) ?_ ?_
          rotate_left
          · intro w'
            first | (go_simp; with_reducible rfl) | rfl | (go_simp; done)
          rotate_left
          · first | (simp only [Act.put, List.setIfInBounds_toArray, List.set_cons_zero, List.set_cons_succ, i64_w, i32_w]; rfl) | rfl
          refine pure_ (i := 17) (N := (some 7)) (v := ?_) (a' := ?_) #[true, true, true, true, true, true, true, true, true, true, true, true, true, true, true, true, true, true] rfl rfl (by kernel_rfl) (fun _ _ _ h => h) (Or.inl ⟨by rfl, ?_⟩) ?_ ?_
          rotate_left
          · intro w'
            first | (go_simp; with_reducible rfl) | rfl | (go_simp; done)
          rotate_left
          · first | (simp only [Act.put, List.setIfInBounds_toArray, List.set_cons_zero, List.set_cons_succ, i64_w, i32_w]; rfl) | rfl
          refine done_ (by kernel_rfl) ?_
          try go_wp2
          go_roundg k2
          case measure => have := HK1.out; have := HK2.out; omega
          case rel => exact ⟨(y185), (y193), (wrap64 (x27_2 + 1)), (by first | rfl | (simp; done) | (simp [*]; done)), H', ⟨by have := HK1.out; have := HK2.out; omega⟩, ⟨by (with_reducible repeat (first | apply Kd.R_alloc | apply Kd.R_drewN | apply Kd.R_drew)); exact HO187.out⟩, ⟨by (with_reducible repeat (first | apply Kd.R_alloc | apply Kd.R_drewN | apply Kd.R_drew)); exact Kd.R_mono HO195.out (fun _ hk => trivial)⟩, ⟨by (with_reducible repeat (first | apply BR_alloc | apply BR_drewN | apply BR_drew)); exact HO_25.out⟩, ⟨by (with_reducible repeat (first | refine blk_drewN ?_ _ | refine blk_drew ?_ | refine blk_alloc ?_ _)); exact BK171.out⟩, ⟨by repeat (first | (with_reducible first | exact HB.out | apply below_alloc | apply pw_below_drewN | apply below_drew1 | refine below_set ?_ GE171.out) | exact HB.out)⟩⟩
      · refine value_ (w1 := ?_) (v := ?_) (by rfl) rfl ?_ ?_
        rotate_left 2
        · go_simp
          constructor
          · rfl
          · rfl
        have hb_ : Below wd.heap.size wd (wd.alloc (.cells #[.string (rdOf ByteArray.empty x7_2 x8_1), .string (Utf8.encode (wrap32 (rd t178 x27_2)))] 9)) := below_alloc (Below.refl _ _) _
        replace HO_6 := Aside0.mk (Kd.R_below HO_6.out hb_)
        replace HO_7 := Aside0.mk (Kd.R_below HO_7.out hb_)
        replace HO_25 := Aside0.mk (BR_below HO_25.out hb_)
        replace BK171 := Aside0.mk (blk_below BK171.out hb_)
        replace HB := Aside0.mk (below_step HB.out hb_)
        have BX12 := Aside0.mk (blk_new wd (.cells #[.string (rdOf ByteArray.empty x7_2 x8_1), .string (Utf8.encode (wrap32 (rd t178 x27_2)))] 9))
        clear hb_
        refine hK.out _ _ (by obtain ⟨adz, ez, hz⟩ := Kd.at_string (Kd.R_reads' HO_7.out).2.2 x8_1 (of_eq_true p188) (of_eq_true q188); cases ez; exact hz) (fun hHeld => ?_)
        clear hK K
        refine norm_ (a' := ?_) ?_ ?_
        rotate_left
        · show Act.put _ (some 54) _ = _
          simp only [Act.put, List.setIfInBounds_toArray, List.set_cons_zero, List.set_cons_succ, i64_w, i32_w]
          rfl
        generalize wd.alloc (.cells #[.string (rdOf ByteArray.empty x7_2 x8_1), .string (Utf8.encode (wrap32 (rd t178 x27_2)))] 9) = we at HO_6 HO_7 HO_25 BK171 BX12 HB hHeld ⊢
        refine one_ (i := 2) (N := some 44) #[true, true, true, false, true, true, true, true, true, true, true, true, true, false, false, false, false, false] rfl rfl (by kernel_rfl) (by decide) (fun K hK => ?_)
        refine value_ (w1 := ?_) (v := ?_) (by rfl) rfl ?_ ?_
        rotate_left 2
        · go_simp
          constructor
          · rfl
          · rfl
        have hb_ : Below we.heap.size we (we.alloc (.cells #[.int .i64 t183] 3)) := below_alloc (Below.refl _ _) _
        replace HO_6 := Aside0.mk (Kd.R_below HO_6.out hb_)
        replace HO_7 := Aside0.mk (Kd.R_below HO_7.out hb_)
        replace HO_25 := Aside0.mk (BR_below HO_25.out hb_)
        replace BK171 := Aside0.mk (blk_below BK171.out hb_)
        replace BX12 := Aside0.mk (blk_below BX12.out hb_)
        replace HB := Aside0.mk (below_step HB.out hb_)
        have BX2 := Aside0.mk (blk_new we (.cells #[.int .i64 t183] 3))
        clear hb_
        refine hK.out _ _ (by obtain ⟨adz, ez, hz⟩ := Kd.at_string (Kd.R_reads' HO_7.out).2.2 x8_1 (of_eq_true p188) (of_eq_true q188); cases ez; exact hz) (fun hHeld => ?_)
        clear hK K
        refine norm_ (a' := ?_) ?_ ?_
        rotate_left
        · show Act.put _ (some 44) _ = _
          simp only [Act.put, List.setIfInBounds_toArray, List.set_cons_zero, List.set_cons_succ, i64_w, i32_w]
          rfl
        generalize we.alloc (.cells #[.int .i64 t183] 3) = wf at HO_6 HO_7 HO_25 BK171 BX12 BX2 HB hHeld ⊢
        refine one_ (i := 3) (N := some 45) #[true, true, true, true, true, true, true, true, true, true, true, true, true, false, false, false, false, false] rfl rfl (by kernel_rfl) (by decide) (fun K hK => ?_)
        refine Kd.R_append_rows_step (Kd.int .i64) (w0 := w) w.heap.size (by rfl) (.tmp 42) (.tmp 44) 36 3 (.int .i64 0) 8 rfl Try.underlying36 info3 rfl (by decide) (by omega) (.slice (some ad182) x6_2.length co33) x6_2 [t183] _ _ _ (fun _ => True) (fun _ => False) rfl rfl HO_6.out (C_blk (d := (0 : Int)) (h1 := fun _ => rfl) BX2.out [t183] (by simp) (fun j hj => by rcases j with _ | j <;> first | rfl | (simp at hj <;> omega))) (fun _ _ h => h) (fun _ h => h.elim) (fun _ _ => trivial) HB.out HB.out.size (by have := LMc28.out; omega) ?_
        intro vA wg ho hb hg hat
        rw [← Ny185.out] at ho
        have n0_ := Aside0.mk (Kd.R_over' HO_7.out (Kd.R_typed HO_6.out) (by decide) hg)
        have n1_ := Aside0.mk (BR_over HO_25.out (Kd.R_typed HO_6.out) (by decide) hg)
        have n2_ := Aside0.mk (blk_grown BK171.out hg (Kd.R_ne HO_6.out BK171.out (by decide)))
        have n3_ := Aside0.mk (blk_grown BX12.out hg (Kd.R_ne HO_6.out BX12.out (by decide)))
        have n4_ := Aside0.mk hb
        have n5_ := Aside0.mk ho
        clear HO_7 HO_25 BK171 BX12 HB HO_6 BX2
        have HO_7 := n0_
        have HO_25 := n1_
        have BK171 := n2_
        have BX12 := n3_
        have HB := n4_
        have HO187 := n5_
        clear n0_ n1_ n2_ n3_ n4_ n5_
        clear ho hb hg hat
        refine hK.out _ _ (by obtain ⟨adz, ez, hz⟩ := Kd.at_string (Kd.R_reads' HO_7.out).2.2 x8_1 (of_eq_true p188) (of_eq_true q188); cases ez; exact hz) (fun hHeld => ?_)
        clear hK K
        refine norm_ (a' := ?_) ?_ ?_
        rotate_left
        · show Act.put _ (some 45) _ = _
          simp only [Act.put, List.setIfInBounds_toArray, List.set_cons_zero, List.set_cons_succ, i64_w, i32_w]
          rfl
        refine one_ (i := 13) (N := some 55) #[true, true, true, true, true, true, true, true, true, true, true, true, true, true, false, false, false, false] rfl rfl (by kernel_rfl) (by decide) (fun K hK => ?_)
        refine goes_ Try.func59 (by kernel_rfl) rfl #[.slice (some ⟨wd.heap.size, 0, none⟩) 2 2] (by rfl) rfl rfl (by (try simp only [List.map_toArray, List.map_cons, List.map_nil]); first | done | rfl) ?_
        have hj_ := casing_joined.calls k2 (some ⟨wd.heap.size, 0, none⟩) 2 [rdOf ByteArray.empty x7_2 x8_1, Utf8.encode (wrap32 (rd t178 x27_2))] t192 wg (C_blk (d := ByteArray.empty) (h1 := fun _ => rfl) BX12.out _ (by simp) (fun j hj => by rcases j with _ | _ | j <;> first | rfl | (simp at hj <;> omega))) (by simp) (by rw [← Ny189.out]; exact A30.out)
        refine Calls.mono hj_ ?_
        clear hj_
        rintro e wJ ⟨rfl, hb⟩
        refine ⟨_, rfl, ?_⟩
        replace HO187 := Aside0.mk (Kd.R_below HO187.out hb)
        replace HO_7 := Aside0.mk (Kd.R_below HO_7.out hb)
        replace HO_25 := Aside0.mk (BR_below HO_25.out hb)
        replace BK171 := Aside0.mk (blk_below BK171.out hb)
        replace HB := Aside0.mk (below_step HB.out hb)
        clear hb BX12
        refine hK.out _ _ (by obtain ⟨adz, ez, hz⟩ := Kd.at_string (Kd.R_reads' HO_7.out).2.2 x8_1 (of_eq_true p188) (of_eq_true q188); cases ez; exact hz) (fun hHeld => ?_)
        clear hK K
        refine norm_ (a' := ?_) ?_ ?_
        rotate_left
        · show Act.put _ (some 55) _ = _
          simp only [Act.put, List.setIfInBounds_toArray, List.set_cons_zero, List.set_cons_succ, i64_w, i32_w]
          rfl
        refine one_ (i := 14) (N := some 56) #[true, true, true, true, true, true, true, true, true, true, true, true, true, true, true, false, false, false] rfl rfl (by kernel_rfl) (by decide) (fun K hK => ?_)
        refine value_ (w1 := ?_) (v := ?_) (by rfl) rfl ?_ ?_
        rotate_left 2
        · go_simp
          constructor
          · rfl
          · rfl
        have hb_ : Below wJ.heap.size wJ (wJ.alloc (.cells #[.string t192] 9)) := below_alloc (Below.refl _ _) _
        replace HO187 := Aside0.mk (Kd.R_below HO187.out hb_)
        replace HO_7 := Aside0.mk (Kd.R_below HO_7.out hb_)
        replace HO_25 := Aside0.mk (BR_below HO_25.out hb_)
        replace BK171 := Aside0.mk (blk_below BK171.out hb_)
        replace HB := Aside0.mk (below_step HB.out hb_)
        have BX14 := Aside0.mk (blk_new wJ (.cells #[.string t192] 9))
        clear hb_
        refine hK.out _ _ (by obtain ⟨adz, ez, hz⟩ := Kd.at_string (Kd.R_reads' HO_7.out).2.2 x8_1 (of_eq_true p188) (of_eq_true q188); cases ez; exact hz) (fun hHeld => ?_)
        clear hK K
        refine norm_ (a' := ?_) ?_ ?_
        rotate_left
        · show Act.put _ (some 56) _ = _
          simp only [Act.put, List.setIfInBounds_toArray, List.set_cons_zero, List.set_cons_succ, i64_w, i32_w]
          rfl
        generalize wJ.alloc (.cells #[.string t192] 9) = wK at HO187 HO_7 HO_25 BK171 BX14 HB hHeld ⊢
        refine last_ (i := 15) (N := some 57) #[true, true, true, true, true, true, true, true, true, true, true, true, true, true, true, true, false, false] rfl rfl (by kernel_rfl) (by decide) (fun K hK => ?_)
        refine Kd.R_append_rows_step Kd.string (w0 := w) w.heap.size (by rfl) (.tmp 46) (.tmp 56) 22 9 (.string ⟨#[]⟩) 16 rfl Try.underlying22 info9 rfl (by decide) (by omega) (.slice (some adW) x7_2.length coW) x7_2 [t192] _ _ _ (fun _ => True) (fun _ => False) rfl rfl HO_7.out (C_blk (d := ByteArray.empty) (h1 := fun _ => rfl) BX14.out [t192] (by simp) (fun j hj => by rcases j with _ | j <;> first | rfl | (simp at hj <;> omega))) (fun _ _ h => h) (fun _ h => h.elim) (fun _ _ => trivial) HB.out HB.out.size (by have := LMc31.out; omega) ?_
        intro vB wL ho hb hg hat
        rw [← Ny193.out] at ho
        have n0_ := Aside0.mk (Kd.R_over' HO187.out (Kd.R_typed HO_7.out) (by decide) hg)
        have n1_ := Aside0.mk (BR_over HO_25.out (Kd.R_typed HO_7.out) (by decide) hg)
        have n2_ := Aside0.mk (blk_grown BK171.out hg (Kd.R_ne HO_7.out BK171.out (by decide)))
        have n3_ := Aside0.mk hb
        have n4_ := Aside0.mk ho
        clear HO187 HO_25 BK171 HB HO_7 BX14
        have HO187 := n0_
        have HO_25 := n1_
        have BK171 := n2_
        have HB := n3_
        have HO195 := n4_
        clear n0_ n1_ n2_ n3_ n4_ ho hb hg hat
        refine hK.out _ _ ?_
        clear hK K hHeld
        refine norm_ (a' := ?_) ?_ ?_
        rotate_left
        · show Act.put _ (some 57) _ = _
          simp only [Act.put, List.setIfInBounds_toArray, List.set_cons_zero, List.set_cons_succ, i64_w, i32_w]
          rfl
        refine pure_ (i := 16) (N := (some 6)) (v := ?_) (a' := ?_) #[true, true, true, true, true, true, true, true, true, true, true, true, true, true, true, true, true, false] rfl rfl (by kernel_rfl) (fun _ _ _ h => h) (Or.inl ⟨by rfl, ?_⟩) ?_ ?_
        rotate_left
        · intro w'
          first | (go_simp; with_reducible rfl) | rfl | (go_simp; done)
        rotate_left
        · first | (simp only [Act.put, List.setIfInBounds_toArray, List.set_cons_zero, List.set_cons_succ, i64_w, i32_w]; rfl) | rfl
        refine pure_ (i := 17) (N := (some 7)) (v := ?_) (a' := ?_) #[true, true, true, true, true, true, true, true, true, true, true, true, true, true, true, true, true, true] rfl rfl (by kernel_rfl) (fun _ _ _ h => h) (Or.inl ⟨by rfl, ?_⟩) ?_ ?_
        rotate_left
        · intro w'
          first | (go_simp; with_reducible rfl) | rfl | (go_simp; done)
        rotate_left
        · first | (simp only [Act.put, List.setIfInBounds_toArray, List.set_cons_zero, List.set_cons_succ, i64_w, i32_w]; rfl) | rfl
        refine done_ (by kernel_rfl) ?_
        try go_wp2
        go_roundg k2
        case measure => have := HK1.out; have := HK2.out; omega
        case rel => exact ⟨(y185), (y193), (wrap64 (x27_2 + 1)), (by first | rfl | (simp; done) | (simp [*]; done)), H', ⟨by have := HK1.out; have := HK2.out; omega⟩, ⟨by (with_reducible repeat (first | apply Kd.R_alloc | apply Kd.R_drewN | apply Kd.R_drew)); exact HO187.out⟩, ⟨by (with_reducible repeat (first | apply Kd.R_alloc | apply Kd.R_drewN | apply Kd.R_drew)); exact Kd.R_mono HO195.out (fun _ hk => trivial)⟩, ⟨by (with_reducible repeat (first | apply BR_alloc | apply BR_drewN | apply BR_drew)); exact HO_25.out⟩, ⟨by (with_reducible repeat (first | refine blk_drewN ?_ _ | refine blk_drew ?_ | refine blk_alloc ?_ _)); exact BK171.out⟩, ⟨by repeat (first | (with_reducible first | exact HB.out | apply below_alloc | apply pw_below_drewN | apply below_drew1 | refine below_set ?_ GE171.out) | exact HB.out)⟩⟩
end Go.Proofs.Ytmcihijobilcgaa.PAll
end
section
namespace Go.Proofs.Ytmcihijobilcgaa.PAll
open Go.RowKit Go.Proofs.YtmcihijobilcgaaW.PrintWords Go.Proofs.YtmcihijobilcgaaW.PrintLast Go.Proofs.YtmcihijobilcgaaW.PrintMore
attribute [local go_sem] max2_int max_two
def casing_table_isStandard.f (k : Nat) (a0_0 : Int) (a0_1 : Int) (a0_2 : Int) (a0_3 : Int) (a0_4 : Int) (a0_5 : Int) (a0_6 : Int) (a0_7 : Int) (a0_8 : Int) (a0_9 : Int) (a0_10 : Int) (a0_11 : Int) : Option (Bool) := (casing_table_order.f k a0_0 a0_1 a0_2 a0_3 a0_4 a0_5 a0_6 a0_7 a0_8 a0_9 a0_10 a0_11 0).bind fun bt190 => (if (bt190.1.length : Int) = a0_1 then ((slices_IsSorted_int_int.f k bt190.1).bind fun t196 => (some t196)) else (some false))
set_option maxHeartbeats 8000000 in
set_option maxRecDepth 100000 in
theorem casing_table_isStandard.calls (k : Nat) (a0_0 : Int) (a0_1 : Int) (a0_2 : Int) (a0_3 : Int) (a0_4 : Int) (a0_5 : Int) (a0_6 : Int) (a0_7 : Int) (a0_8 : Int) (a0_9 : Int) (a0_10 : Int) (a0_11 : Int) (r : Bool) (w : World) (h : casing_table_isStandard.f k a0_0 a0_1 a0_2 a0_3 a0_4 a0_5 a0_6 a0_7 a0_8 a0_9 a0_10 a0_11 = some r) :
    Calls Try.prog 64 #[.agg #[.int .i64 a0_0, .int .i64 a0_1, .int .i64 a0_2, .int .i64 a0_3, .int .i64 a0_4, .int .i64 a0_5, .int .i64 a0_6, .int .i64 a0_7, .int .i64 a0_8, .int .i64 a0_9, .int .i64 a0_10, .int .i64 a0_11]] w fun e w' => e = .returned (.bool r) ∧ Below w.heap.size w w' := by
  have hu79 := Try.underlying79
  have HB := Aside0.mk (Below.refl w.heap.size w)
  have H : ((casing_table_order.f k a0_0 a0_1 a0_2 a0_3 a0_4 a0_5 a0_6 a0_7 a0_8 a0_9 a0_10 a0_11 0).bind fun bt190 => (if (bt190.1.length : Int) = a0_1 then ((slices_IsSorted_int_int.f k bt190.1).bind fun t196 => (some t196)) else (some false))) = some r := h
  clear h
  replace H := Option.bind_eq_some_iff.mp H
  obtain ⟨⟨t190, t193⟩, A20, H⟩ := H
  try dsimp only at H
  have A2 := Aside0.mk A20
  clear A20
  by_cases c3 : (t190.length : Int) = a0_1
  rotate_left
  · rw [if_neg c3] at H
    have c3b0 : ((t190.length : Int) == a0_1) = false := beq_eq_false_iff_ne.mpr c3
    have c3b1 : ((t190.length : Int) != a0_1) = true := bne_iff_ne.mpr c3
    obtain rfl := Option.some.inj H
    go_enter Try.func64, Try.ntmps64
    go_wp2_with (first | ((with_reducible refine gate_dst (N := 1) rfl ?_); refine box_event ?hg (N := 1) ?hd (cs := #[.int .i64 a0_0, .int .i64 a0_1, .int .i64 a0_2, .int .i64 a0_3, .int .i64 a0_4, .int .i64 a0_5, .int .i64 a0_6, .int .i64 a0_7, .int .i64 a0_8, .int .i64 a0_9, .int .i64 a0_10, .int .i64 a0_11]) (t := 79) ?hr ?_; (case hd => rfl); (case hg => rfl); (case hr => first | (go_simp; done) | (go_simp; rfl)); intro gb189 hg w10 hbox hb; have BK189 := Aside0.mk (hbox); have GW189 := Aside0.mk ((by rw [hg]; exact (below_size (gr HB.out)) : w.heap.size ≤ gb189)); have GE189 := Aside0.mk ((by rw [hg]; exact (below_size (gr HB.out)) : w.heap.size ≤ gb189)); replace HB := Aside0.mk (below_step HB.out (tr hb)); clear hb hbox hg; have hcz11_0 : w10.cell? ⟨gb189, 0, none⟩ = some (.int .i64 a0_0) := (blk_cell BK189.out 0).trans rfl; have hcz11_1 : w10.cell? ⟨gb189, 1, none⟩ = some (.int .i64 a0_1) := (blk_cell BK189.out 1).trans rfl; have hcz11_2 : w10.cell? ⟨gb189, 2, none⟩ = some (.int .i64 a0_2) := (blk_cell BK189.out 2).trans rfl; have hcz11_3 : w10.cell? ⟨gb189, 3, none⟩ = some (.int .i64 a0_3) := (blk_cell BK189.out 3).trans rfl; have hcz11_4 : w10.cell? ⟨gb189, 4, none⟩ = some (.int .i64 a0_4) := (blk_cell BK189.out 4).trans rfl; have hcz11_5 : w10.cell? ⟨gb189, 5, none⟩ = some (.int .i64 a0_5) := (blk_cell BK189.out 5).trans rfl; have hcz11_6 : w10.cell? ⟨gb189, 6, none⟩ = some (.int .i64 a0_6) := (blk_cell BK189.out 6).trans rfl; have hcz11_7 : w10.cell? ⟨gb189, 7, none⟩ = some (.int .i64 a0_7) := (blk_cell BK189.out 7).trans rfl; have hcz11_8 : w10.cell? ⟨gb189, 8, none⟩ = some (.int .i64 a0_8) := (blk_cell BK189.out 8).trans rfl; have hcz11_9 : w10.cell? ⟨gb189, 9, none⟩ = some (.int .i64 a0_9) := (blk_cell BK189.out 9).trans rfl; have hcz11_10 : w10.cell? ⟨gb189, 10, none⟩ = some (.int .i64 a0_10) := (blk_cell BK189.out 10).trans rfl; have hcz11_11 : w10.cell? ⟨gb189, 11, none⟩ = some (.int .i64 a0_11) := (blk_cell BK189.out 11).trans rfl; have hfz11_0 := blk_frozen BK189.out 0; have hfz11_1 := blk_frozen BK189.out 1; have hfz11_2 := blk_frozen BK189.out 2; have hfz11_3 := blk_frozen BK189.out 3; have hfz11_4 := blk_frozen BK189.out 4; have hfz11_5 := blk_frozen BK189.out 5; have hfz11_6 := blk_frozen BK189.out 6; have hfz11_7 := blk_frozen BK189.out 7; have hfz11_8 := blk_frozen BK189.out 8; have hfz11_9 := blk_frozen BK189.out 9; have hfz11_10 := blk_frozen BK189.out 10; have hfz11_11 := blk_frozen BK189.out 11) | ((with_reducible refine gate_callee (f := 65) rfl ?_); refine goesL_ (some 7) rfl rfl Try.func65 (by kernel_rfl) rfl #[.agg #[.int .i64 a0_0, .int .i64 a0_1, .int .i64 a0_2, .int .i64 a0_3, .int .i64 a0_4, .int .i64 a0_5, .int .i64 a0_6, .int .i64 a0_7, .int .i64 a0_8, .int .i64 a0_9, .int .i64 a0_10, .int .i64 a0_11], .int .i64 0] rfl (by (try simp only [List.map_toArray, List.map_cons, List.map_nil]); first | done | rfl | (simp only [List.length_drop, List.length_take]; rfl)) ?_; (with_reducible refine (casing_table_order.calls k a0_0 a0_1 a0_2 a0_3 a0_4 a0_5 a0_6 a0_7 a0_8 a0_9 a0_10 a0_11 0 t190 t193 _ A2.out).mono ?_); rintro e w12 ⟨v191, v194, rfl, ho0, ho1, hb⟩; refine ⟨_, rfl, ?_⟩; have HO192 := Aside0.mk (Kd.R_lower ho0 (below_size (by repeat (first | (with_reducible first | exact HB.out | apply below_alloc | apply pw_below_drewN | apply below_drew1 | refine below_set ?_ GE189.out) | exact HB.out)))); have HO195 := Aside0.mk (Kd.R_lower ho1 (below_size (by repeat (first | (with_reducible first | exact HB.out | apply below_alloc | apply pw_below_drewN | apply below_drew1 | refine below_set ?_ GE189.out) | exact HB.out)))); replace BK189 := Aside0.mk (blk_below BK189.out (tr hb)); replace HB := Aside0.mk (below_step (by repeat (first | (with_reducible first | exact HB.out | apply below_alloc | apply pw_below_drewN | apply below_drew1 | refine below_set ?_ GE189.out) | exact HB.out)) hb); (try clear hb); (try clear hb2); (try clear hk); (try clear hi); (try clear ho0); (try clear ho1); obtain ⟨Ao13, co13, eo13⟩ := Kd.R_slice HO192.out; subst eo13; have hcz14_0 : w12.cell? ⟨gb189, 0, none⟩ = some (.int .i64 a0_0) := (blk_cell BK189.out 0).trans rfl; have hcz14_1 : w12.cell? ⟨gb189, 1, none⟩ = some (.int .i64 a0_1) := (blk_cell BK189.out 1).trans rfl; have hcz14_2 : w12.cell? ⟨gb189, 2, none⟩ = some (.int .i64 a0_2) := (blk_cell BK189.out 2).trans rfl; have hcz14_3 : w12.cell? ⟨gb189, 3, none⟩ = some (.int .i64 a0_3) := (blk_cell BK189.out 3).trans rfl; have hcz14_4 : w12.cell? ⟨gb189, 4, none⟩ = some (.int .i64 a0_4) := (blk_cell BK189.out 4).trans rfl; have hcz14_5 : w12.cell? ⟨gb189, 5, none⟩ = some (.int .i64 a0_5) := (blk_cell BK189.out 5).trans rfl; have hcz14_6 : w12.cell? ⟨gb189, 6, none⟩ = some (.int .i64 a0_6) := (blk_cell BK189.out 6).trans rfl; have hcz14_7 : w12.cell? ⟨gb189, 7, none⟩ = some (.int .i64 a0_7) := (blk_cell BK189.out 7).trans rfl; have hcz14_8 : w12.cell? ⟨gb189, 8, none⟩ = some (.int .i64 a0_8) := (blk_cell BK189.out 8).trans rfl; have hcz14_9 : w12.cell? ⟨gb189, 9, none⟩ = some (.int .i64 a0_9) := (blk_cell BK189.out 9).trans rfl; have hcz14_10 : w12.cell? ⟨gb189, 10, none⟩ = some (.int .i64 a0_10) := (blk_cell BK189.out 10).trans rfl; have hcz14_11 : w12.cell? ⟨gb189, 11, none⟩ = some (.int .i64 a0_11) := (blk_cell BK189.out 11).trans rfl; have hfz14_0 := blk_frozen BK189.out 0; have hfz14_1 := blk_frozen BK189.out 1; have hfz14_2 := blk_frozen BK189.out 2; have hfz14_3 := blk_frozen BK189.out 3; have hfz14_4 := blk_frozen BK189.out 4; have hfz14_5 := blk_frozen BK189.out 5; have hfz14_6 := blk_frozen BK189.out 6; have hfz14_7 := blk_frozen BK189.out 7; have hfz14_8 := blk_frozen BK189.out 8; have hfz14_9 := blk_frozen BK189.out 9; have hfz14_10 := blk_frozen BK189.out 10; have hfz14_11 := blk_frozen BK189.out 11))
    go_ret
    exact ⟨by first | rfl | (simp [errW_none, errW_some] <;> rfl) | (simp [*, errW_none, errW_some] <;> rfl), by repeat (first | (with_reducible first | exact HB.out | apply below_alloc | apply pw_below_drewN | apply below_drew1 | refine below_set ?_ GE189.out) | exact HB.out)⟩
  rw [if_pos c3] at H
  have c3b0 : ((t190.length : Int) == a0_1) = true := beq_iff_eq.mpr c3
  have c3b1 : ((t190.length : Int) != a0_1) = false := bne_eq_false_iff_eq.mpr c3
  clear c3
  replace H := Option.bind_eq_some_iff.mp H
  obtain ⟨t196, A40, H⟩ := H
  try dsimp only at H
  have A4 := Aside0.mk A40
  clear A40
  obtain rfl := Option.some.inj H
  go_enter Try.func64, Try.ntmps64
  go_wp2_with (first | ((with_reducible refine gate_dst (N := 1) rfl ?_); refine box_event ?hg (N := 1) ?hd (cs := #[.int .i64 a0_0, .int .i64 a0_1, .int .i64 a0_2, .int .i64 a0_3, .int .i64 a0_4, .int .i64 a0_5, .int .i64 a0_6, .int .i64 a0_7, .int .i64 a0_8, .int .i64 a0_9, .int .i64 a0_10, .int .i64 a0_11]) (t := 79) ?hr ?_; (case hd => rfl); (case hg => rfl); (case hr => first | (go_simp; done) | (go_simp; rfl)); intro gb189 hg w5 hbox hb; have BK189 := Aside0.mk (hbox); have GW189 := Aside0.mk ((by rw [hg]; exact (below_size (gr HB.out)) : w.heap.size ≤ gb189)); have GE189 := Aside0.mk ((by rw [hg]; exact (below_size (gr HB.out)) : w.heap.size ≤ gb189)); replace HB := Aside0.mk (below_step HB.out (tr hb)); clear hb hbox hg; have hcz6_0 : w5.cell? ⟨gb189, 0, none⟩ = some (.int .i64 a0_0) := (blk_cell BK189.out 0).trans rfl; have hcz6_1 : w5.cell? ⟨gb189, 1, none⟩ = some (.int .i64 a0_1) := (blk_cell BK189.out 1).trans rfl; have hcz6_2 : w5.cell? ⟨gb189, 2, none⟩ = some (.int .i64 a0_2) := (blk_cell BK189.out 2).trans rfl; have hcz6_3 : w5.cell? ⟨gb189, 3, none⟩ = some (.int .i64 a0_3) := (blk_cell BK189.out 3).trans rfl; have hcz6_4 : w5.cell? ⟨gb189, 4, none⟩ = some (.int .i64 a0_4) := (blk_cell BK189.out 4).trans rfl; have hcz6_5 : w5.cell? ⟨gb189, 5, none⟩ = some (.int .i64 a0_5) := (blk_cell BK189.out 5).trans rfl; have hcz6_6 : w5.cell? ⟨gb189, 6, none⟩ = some (.int .i64 a0_6) := (blk_cell BK189.out 6).trans rfl; have hcz6_7 : w5.cell? ⟨gb189, 7, none⟩ = some (.int .i64 a0_7) := (blk_cell BK189.out 7).trans rfl; have hcz6_8 : w5.cell? ⟨gb189, 8, none⟩ = some (.int .i64 a0_8) := (blk_cell BK189.out 8).trans rfl; have hcz6_9 : w5.cell? ⟨gb189, 9, none⟩ = some (.int .i64 a0_9) := (blk_cell BK189.out 9).trans rfl; have hcz6_10 : w5.cell? ⟨gb189, 10, none⟩ = some (.int .i64 a0_10) := (blk_cell BK189.out 10).trans rfl; have hcz6_11 : w5.cell? ⟨gb189, 11, none⟩ = some (.int .i64 a0_11) := (blk_cell BK189.out 11).trans rfl; have hfz6_0 := blk_frozen BK189.out 0; have hfz6_1 := blk_frozen BK189.out 1; have hfz6_2 := blk_frozen BK189.out 2; have hfz6_3 := blk_frozen BK189.out 3; have hfz6_4 := blk_frozen BK189.out 4; have hfz6_5 := blk_frozen BK189.out 5; have hfz6_6 := blk_frozen BK189.out 6; have hfz6_7 := blk_frozen BK189.out 7; have hfz6_8 := blk_frozen BK189.out 8; have hfz6_9 := blk_frozen BK189.out 9; have hfz6_10 := blk_frozen BK189.out 10; have hfz6_11 := blk_frozen BK189.out 11) | ((with_reducible refine gate_callee (f := 65) rfl ?_); refine goesL_ (some 7) rfl rfl Try.func65 (by kernel_rfl) rfl #[.agg #[.int .i64 a0_0, .int .i64 a0_1, .int .i64 a0_2, .int .i64 a0_3, .int .i64 a0_4, .int .i64 a0_5, .int .i64 a0_6, .int .i64 a0_7, .int .i64 a0_8, .int .i64 a0_9, .int .i64 a0_10, .int .i64 a0_11], .int .i64 0] rfl (by (try simp only [List.map_toArray, List.map_cons, List.map_nil]); first | done | rfl | (simp only [List.length_drop, List.length_take]; rfl)) ?_; (with_reducible refine (casing_table_order.calls k a0_0 a0_1 a0_2 a0_3 a0_4 a0_5 a0_6 a0_7 a0_8 a0_9 a0_10 a0_11 0 t190 t193 _ A2.out).mono ?_); rintro e w7 ⟨v191, v194, rfl, ho0, ho1, hb⟩; refine ⟨_, rfl, ?_⟩; have HO192 := Aside0.mk (Kd.R_lower ho0 (below_size (by repeat (first | (with_reducible first | exact HB.out | apply below_alloc | apply pw_below_drewN | apply below_drew1 | refine below_set ?_ GE189.out) | exact HB.out)))); have HO195 := Aside0.mk (Kd.R_lower ho1 (below_size (by repeat (first | (with_reducible first | exact HB.out | apply below_alloc | apply pw_below_drewN | apply below_drew1 | refine below_set ?_ GE189.out) | exact HB.out)))); replace BK189 := Aside0.mk (blk_below BK189.out (tr hb)); replace HB := Aside0.mk (below_step (by repeat (first | (with_reducible first | exact HB.out | apply below_alloc | apply pw_below_drewN | apply below_drew1 | refine below_set ?_ GE189.out) | exact HB.out)) hb); (try clear hb); (try clear hb2); (try clear hk); (try clear hi); (try clear ho0); (try clear ho1); obtain ⟨Ao8, co8, eo8⟩ := Kd.R_slice HO192.out; subst eo8; have hcz9_0 : w7.cell? ⟨gb189, 0, none⟩ = some (.int .i64 a0_0) := (blk_cell BK189.out 0).trans rfl; have hcz9_1 : w7.cell? ⟨gb189, 1, none⟩ = some (.int .i64 a0_1) := (blk_cell BK189.out 1).trans rfl; have hcz9_2 : w7.cell? ⟨gb189, 2, none⟩ = some (.int .i64 a0_2) := (blk_cell BK189.out 2).trans rfl; have hcz9_3 : w7.cell? ⟨gb189, 3, none⟩ = some (.int .i64 a0_3) := (blk_cell BK189.out 3).trans rfl; have hcz9_4 : w7.cell? ⟨gb189, 4, none⟩ = some (.int .i64 a0_4) := (blk_cell BK189.out 4).trans rfl; have hcz9_5 : w7.cell? ⟨gb189, 5, none⟩ = some (.int .i64 a0_5) := (blk_cell BK189.out 5).trans rfl; have hcz9_6 : w7.cell? ⟨gb189, 6, none⟩ = some (.int .i64 a0_6) := (blk_cell BK189.out 6).trans rfl; have hcz9_7 : w7.cell? ⟨gb189, 7, none⟩ = some (.int .i64 a0_7) := (blk_cell BK189.out 7).trans rfl; have hcz9_8 : w7.cell? ⟨gb189, 8, none⟩ = some (.int .i64 a0_8) := (blk_cell BK189.out 8).trans rfl; have hcz9_9 : w7.cell? ⟨gb189, 9, none⟩ = some (.int .i64 a0_9) := (blk_cell BK189.out 9).trans rfl; have hcz9_10 : w7.cell? ⟨gb189, 10, none⟩ = some (.int .i64 a0_10) := (blk_cell BK189.out 10).trans rfl; have hcz9_11 : w7.cell? ⟨gb189, 11, none⟩ = some (.int .i64 a0_11) := (blk_cell BK189.out 11).trans rfl; have hfz9_0 := blk_frozen BK189.out 0; have hfz9_1 := blk_frozen BK189.out 1; have hfz9_2 := blk_frozen BK189.out 2; have hfz9_3 := blk_frozen BK189.out 3; have hfz9_4 := blk_frozen BK189.out 4; have hfz9_5 := blk_frozen BK189.out 5; have hfz9_6 := blk_frozen BK189.out 6; have hfz9_7 := blk_frozen BK189.out 7; have hfz9_8 := blk_frozen BK189.out 8; have hfz9_9 := blk_frozen BK189.out 9; have hfz9_10 := blk_frozen BK189.out 10; have hfz9_11 := blk_frozen BK189.out 11) | (go_at_call 83; (with_reducible refine (slices_IsSorted_int_int.calls k _ _ t190 t196 _ ?side1 ?side2 A4.out).mono ?_); (case side1 => repeat (first | exact (Kd.R_reads' HO192.out).2.2 | (with_reducible refine Kd.C_alloc ?_ _) | (with_reducible refine Kd.C_drewN ?_ _) | (with_reducible refine Kd.C_drew ?_))); (case side2 => exact (Kd.R_reads' HO192.out).2.1); rintro e w' ⟨rfl, ⟨nd, rfl⟩⟩))
  go_ret
  exact ⟨by first | rfl | (simp [errW_none, errW_some] <;> rfl) | (simp [*, errW_none, errW_some] <;> rfl), by repeat (first | (with_reducible first | exact HB.out | apply below_alloc | apply pw_below_drewN | apply below_drew1 | refine below_set ?_ GE189.out) | exact HB.out)⟩
end Go.Proofs.Ytmcihijobilcgaa.PAll
end
section
namespace Go.Proofs.Ytmcihijobilcgaa.PAll
open Go.RowKit Go.Proofs.YtmcihijobilcgaaW.PrintWords Go.Proofs.YtmcihijobilcgaaW.PrintLast Go.Proofs.YtmcihijobilcgaaW.PrintMore
attribute [local go_sem] max2_int max_two
def casing_table_follow.l0 : Nat → Int → ByteArray → Int → Int → Int → Int → Int → Int → Int → Int → Int → Int → Int → Int → Int → Int → Option (Int)
  | 0, _, _, _, _, _, _, _, _, _, _, _, _, _, _, _, _ => none
  | k + 1, x1, x2, x9, x10, x442000, x442001, x442002, x442003, x442004, x442005, x442006, x442007, x442008, x442009, x442010, x442011 => if x10 < x9 then (if 0 ≤ x10 then (if x10 < (x2.size : Int) then ((casing_table_sent.f x442000 x442001 x442002 x442003 x442004 x442005 x442006 x442007 x442008 x442009 x442010 x442011 x1 (bt x2 x10)).bind fun t442 => (casing_table_follow.l0 k t442 x2 x9 (wrap64 (x10 + 1)) x442000 x442001 x442002 x442003 x442004 x442005 x442006 x442007 x442008 x442009 x442010 x442011)) else (none)) else (none)) else (some x1)
def casing_table_follow.f (k : Nat) (a0_0 : Int) (a0_1 : Int) (a0_2 : Int) (a0_3 : Int) (a0_4 : Int) (a0_5 : Int) (a0_6 : Int) (a0_7 : Int) (a0_8 : Int) (a0_9 : Int) (a0_10 : Int) (a0_11 : Int) (a1 : Int) (a2 : ByteArray) : Option (Int) := casing_table_follow.l0 k a1 a2 (a2.size : Int) 0 a0_0 a0_1 a0_2 a0_3 a0_4 a0_5 a0_6 a0_7 a0_8 a0_9 a0_10 a0_11
set_option maxHeartbeats 8000000 in
set_option maxRecDepth 100000 in
theorem casing_table_follow.calls (k : Nat) (a0_0 : Int) (a0_1 : Int) (a0_2 : Int) (a0_3 : Int) (a0_4 : Int) (a0_5 : Int) (a0_6 : Int) (a0_7 : Int) (a0_8 : Int) (a0_9 : Int) (a0_10 : Int) (a0_11 : Int) (a1 : Int) (a2 : ByteArray) (r : Int) (w : World) (h : casing_table_follow.f k a0_0 a0_1 a0_2 a0_3 a0_4 a0_5 a0_6 a0_7 a0_8 a0_9 a0_10 a0_11 a1 a2 = some r) :
    Calls Try.prog 62 #[.agg #[.int .i64 a0_0, .int .i64 a0_1, .int .i64 a0_2, .int .i64 a0_3, .int .i64 a0_4, .int .i64 a0_5, .int .i64 a0_6, .int .i64 a0_7, .int .i64 a0_8, .int .i64 a0_9, .int .i64 a0_10, .int .i64 a0_11], .int .i64 a1, .string a2] w fun e w' => e = .returned (.int .i64 r) ∧ Below w.heap.size w w' := by
  have hu79 := Try.underlying79
  have HB := Aside0.mk (Below.refl w.heap.size w)
  have H : (casing_table_follow.l0 k a1 a2 (a2.size : Int) 0 a0_0 a0_1 a0_2 a0_3 a0_4 a0_5 a0_6 a0_7 a0_8 a0_9 a0_10 a0_11) = some r := h
  clear h
  have H' := Aside0.mk H
  clear H
  go_enter Try.func62, Try.ntmps62
  go_wp2_with (first | ((with_reducible refine gate_dst (N := 3) rfl ?_); refine box_event ?hg (N := 3) ?hd (cs := #[.int .i64 a0_0, .int .i64 a0_1, .int .i64 a0_2, .int .i64 a0_3, .int .i64 a0_4, .int .i64 a0_5, .int .i64 a0_6, .int .i64 a0_7, .int .i64 a0_8, .int .i64 a0_9, .int .i64 a0_10, .int .i64 a0_11]) (t := 79) ?hr ?_; (case hd => rfl); (case hg => rfl); (case hr => first | (go_simp; done) | (go_simp; rfl)); intro gb441 hg w4 hbox hb; have BK441 := Aside0.mk (hbox); have GW441 := Aside0.mk ((by rw [hg]; exact (below_size (gr HB.out)) : w.heap.size ≤ gb441)); have GE441 := Aside0.mk ((by rw [hg]; exact (below_size (gr HB.out)) : w.heap.size ≤ gb441)); replace HB := Aside0.mk (below_step HB.out (tr hb)); clear hb hbox hg))
  go_loopg [1, 10] k (fun kq v1 v10 w' => ∃ (x1_1 : Int) (x10_1 : Int), v1 = .int .i64 x1_1 ∧ v10 = .int .i64 x10_1 ∧ Aside0 (casing_table_follow.l0 kq x1_1 a2 (a2.size : Int) x10_1 a0_0 a0_1 a0_2 a0_3 a0_4 a0_5 a0_6 a0_7 a0_8 a0_9 a0_10 a0_11 = some r) ∧ Aside0 (kq ≤ k) ∧ Aside0 (w'.heap[gb441]? = some (.cells #[.int .i64 a0_0, .int .i64 a0_1, .int .i64 a0_2, .int .i64 a0_3, .int .i64 a0_4, .int .i64 a0_5, .int .i64 a0_6, .int .i64 a0_7, .int .i64 a0_8, .int .i64 a0_9, .int .i64 a0_10, .int .i64 a0_11] 79 (0, 0))) ∧ Aside0 (Below w.heap.size w w'))
  case atStart => exact ⟨(a1), (0), (by first | rfl | (simp; done) | (simp [*]; done)), (by first | rfl | (simp; done) | (simp [*]; done)), H', ⟨Nat.le_refl _⟩, ⟨by (with_reducible repeat (first | refine blk_drewN ?_ _ | refine blk_drew ?_ | refine blk_alloc ?_ _)); exact BK441.out⟩, ⟨by repeat (first | (with_reducible first | exact HB.out | apply below_alloc | apply pw_below_drewN | apply below_drew1 | refine below_set ?_ GE441.out) | exact HB.out)⟩⟩
  clear H'
  try clear p2
  obtain ⟨x1_1, x10_1, rfl, rfl, HA, HK1, BK441, HB⟩ := hrel
  cases gk with
  | zero => exact absurd HA.out (by simp [casing_table_follow.l0])
  | succ k1 =>
    have H := HA.out
    clear HA
    simp only [casing_table_follow.l0] at H
    by_cases c5 : x10_1 < (a2.size : Int)
    rotate_left
    · rw [if_neg c5] at H
      have c5b0 : decide (x10_1 < (a2.size : Int)) = false := decide_eq_false c5
      clear c5
      obtain rfl := Option.some.inj H
      go_wp2
      go_ret
      exact ⟨by first | rfl | (simp [errW_none, errW_some] <;> rfl) | (simp [*, errW_none, errW_some] <;> rfl), by repeat (first | (with_reducible first | exact HB.out | apply below_alloc | apply pw_below_drewN | apply below_drew1 | refine below_set ?_ GE441.out) | exact HB.out)⟩
    rw [if_pos c5] at H
    have c5b0 : decide (x10_1 < (a2.size : Int)) = true := decide_eq_true c5
    clear c5
    by_cases c6 : 0 ≤ x10_1
    rotate_left
    · rw [if_neg c6] at H
      exact absurd H (by simp)
    rw [if_pos c6] at H
    have c6b0 : decide (0 ≤ x10_1) = true := decide_eq_true c6
    clear c6
    by_cases c7 : x10_1 < (a2.size : Int)
    rotate_left
    · rw [if_neg c7] at H
      exact absurd H (by simp)
    rw [if_pos c7] at H
    have c7b0 : decide (x10_1 < (a2.size : Int)) = true := decide_eq_true c7
    clear c7
    replace H := Option.bind_eq_some_iff.mp H
    obtain ⟨t442, A90, H⟩ := H
    try dsimp only at H
    have A9 := Aside0.mk A90
    clear A90
    have H' := Aside0.mk H
    clear H
    try go_wp2
    replace BK441 := Aside0.mk (blk_drew BK441.out)
    replace HB := Aside0.mk (below_drew1 HB.out)
    have p8 : 0 ≤ (x10_1 : Int) := of_decide_eq_true (by first | (with_reducible assumption) | assumption)
    have q8 : x10_1 < (a2.size : Int) := of_decide_eq_true (by first | (with_reducible assumption) | assumption)
    have hx8 := bt_at a2 x10_1
    replace p8 := eq_true p8
    replace q8 := eq_true q8
    refine start_ (n := 7) (S := fun w' => w'.cell? ⟨gb441, 0, none⟩ = some (.int .i64 a0_0) ∧ w'.cell? ⟨gb441, 1, none⟩ = some (.int .i64 a0_1) ∧ w'.cell? ⟨gb441, 2, none⟩ = some (.int .i64 a0_2) ∧ w'.cell? ⟨gb441, 3, none⟩ = some (.int .i64 a0_3) ∧ w'.cell? ⟨gb441, 4, none⟩ = some (.int .i64 a0_4) ∧ w'.cell? ⟨gb441, 5, none⟩ = some (.int .i64 a0_5) ∧ w'.cell? ⟨gb441, 6, none⟩ = some (.int .i64 a0_6) ∧ w'.cell? ⟨gb441, 7, none⟩ = some (.int .i64 a0_7) ∧ w'.cell? ⟨gb441, 8, none⟩ = some (.int .i64 a0_8) ∧ w'.cell? ⟨gb441, 9, none⟩ = some (.int .i64 a0_9) ∧ w'.cell? ⟨gb441, 10, none⟩ = some (.int .i64 a0_10) ∧ w'.cell? ⟨gb441, 11, none⟩ = some (.int .i64 a0_11)) (ds := []) #[false, false, false, false, false, false, false] (by kernel_rfl) rfl rfl ⟨(blk_cell BK441.out 0).trans rfl, (blk_cell BK441.out 1).trans rfl, (blk_cell BK441.out 2).trans rfl, (blk_cell BK441.out 3).trans rfl, (blk_cell BK441.out 4).trans rfl, (blk_cell BK441.out 5).trans rfl, (blk_cell BK441.out 6).trans rfl, (blk_cell BK441.out 7).trans rfl, (blk_cell BK441.out 8).trans rfl, (blk_cell BK441.out 9).trans rfl, (blk_cell BK441.out 10).trans rfl, (blk_cell BK441.out 11).trans rfl⟩ (fun hHeld => ?_)
    generalize wr.drew = w10 at BK441 HB hHeld ⊢
    refine pure_ (i := 1) (N := some 14) (v := ?_) (a' := ?_) #[false, true, false, false, false, false, false] rfl rfl (by kernel_rfl) (fun _ _ _ h => h) (Or.inl ⟨by rfl, ?_⟩) ?_ ?_
    rotate_left
    · intro w'
      go_simp
      with_reducible rfl
    rotate_left
    · simp only [Act.put, List.setIfInBounds_toArray, List.set_cons_zero, List.set_cons_succ, i64_w, i32_w]
      rfl
    refine pure_ (i := 2) (N := some 15) (v := ?_) (a' := ?_) #[false, true, true, false, false, false, false] rfl rfl (by kernel_rfl) (fun _ _ _ h => h) (Or.inl ⟨by rfl, ?_⟩) ?_ ?_
    rotate_left
    · intro w'
      go_simp
      with_reducible rfl
    rotate_left
    · simp only [Act.put, List.setIfInBounds_toArray, List.set_cons_zero, List.set_cons_succ, i64_w, i32_w]
      rfl
    refine pure_ (i := 3) (N := some 16) (v := ?_) (a' := ?_) #[false, true, true, true, false, false, false] rfl rfl (by kernel_rfl) (fun _ _ _ h => h) (Or.inl ⟨by rfl, ?_⟩) ?_ ?_
    rotate_left
    · intro w'
      go_simp
      with_reducible rfl
    rotate_left
    · simp only [Act.put, List.setIfInBounds_toArray, List.set_cons_zero, List.set_cons_succ, i64_w, i32_w]
      rfl
    refine take_ (i := 0) (N := some 13) (v := ?_) (a' := ?_) #[true, true, true, true, false, false, false] rfl rfl (by kernel_rfl) (fun _ _ _ h => h) (Or.inl ⟨by rfl, ?_⟩) hHeld ?_ ?_
    rotate_left
    · rintro w' ⟨s0, s1, s2, s3, s4, s5, s6, s7, s8, s9, s10, s11⟩
      go_simp
      with_reducible rfl
    rotate_left
    · simp only [Act.put, List.setIfInBounds_toArray, List.set_cons_zero, List.set_cons_succ, i64_w, i32_w]
      rfl
    refine take_ (i := 4) (N := some 17) (v := ?_) (a' := ?_) #[true, true, true, true, true, false, false] rfl rfl (by kernel_rfl) (fun _ _ _ h => h) (Or.inl ⟨by rfl, ?_⟩) hHeld ?_ ?_
    rotate_left
    · rintro w' ⟨s0, s1, s2, s3, s4, s5, s6, s7, s8, s9, s10, s11⟩
      go_simp
      with_reducible rfl
    rotate_left
    · simp only [Act.put, List.setIfInBounds_toArray, List.set_cons_zero, List.set_cons_succ, i64_w, i32_w]
      rfl
    refine one_ (i := 5) (N := some 18) #[true, true, true, true, true, true, false] rfl rfl (by kernel_rfl) (by decide) (fun K hK => ?_)
    refine goes_ Try.func82 (by kernel_rfl) rfl #[.agg #[.int .i64 a0_0, .int .i64 a0_1, .int .i64 a0_2, .int .i64 a0_3, .int .i64 a0_4, .int .i64 a0_5, .int .i64 a0_6, .int .i64 a0_7, .int .i64 a0_8, .int .i64 a0_9, .int .i64 a0_10, .int .i64 a0_11], .int .i64 x1_1, .int .u8 (bt a2 x10_1)] (by rfl) rfl rfl (by (try simp only [List.map_toArray, List.map_cons, List.map_nil]); first | done | rfl | (simp only [List.length_drop, List.length_take]; rfl)) ?_
    with_reducible refine (casing_table_sent.calls a0_0 a0_1 a0_2 a0_3 a0_4 a0_5 a0_6 a0_7 a0_8 a0_9 a0_10 a0_11 x1_1 (bt a2 x10_1) t442 _ A9.out).mono ?_
    rintro e w11 ⟨rfl, hb⟩
    refine ⟨_, rfl, ?_⟩
    replace BK441 := Aside0.mk (blk_below BK441.out (tr hb))
    replace HB := Aside0.mk (below_step (by repeat (first | (with_reducible first | exact HB.out | apply below_alloc | apply pw_below_drewN | apply below_drew1 | refine below_set ?_ GE441.out) | exact HB.out)) hb)
    (try clear hb)
    (try clear hb2)
    (try clear hk)
    (try clear hi)
    refine hK.out _ _ ⟨(blk_cell BK441.out 0).trans rfl, (blk_cell BK441.out 1).trans rfl, (blk_cell BK441.out 2).trans rfl, (blk_cell BK441.out 3).trans rfl, (blk_cell BK441.out 4).trans rfl, (blk_cell BK441.out 5).trans rfl, (blk_cell BK441.out 6).trans rfl, (blk_cell BK441.out 7).trans rfl, (blk_cell BK441.out 8).trans rfl, (blk_cell BK441.out 9).trans rfl, (blk_cell BK441.out 10).trans rfl, (blk_cell BK441.out 11).trans rfl⟩ (fun hHeld => ?_)
    clear hK K
    refine norm_ (a' := ?_) ?_ ?_
    rotate_left
    · show Act.put _ (some 18) _ = _
      simp only [Act.put, List.setIfInBounds_toArray, List.set_cons_zero, List.set_cons_succ, i64_w, i32_w]
      rfl
    refine pure_ (i := 6) (N := some 1) (v := ?_) (a' := ?_) #[true, true, true, true, true, true, true] rfl rfl (by kernel_rfl) (fun _ _ _ h => h) (Or.inl ⟨by rfl, ?_⟩) ?_ ?_
    rotate_left
    · intro w'
      go_simp
      with_reducible rfl
    rotate_left
    · simp only [Act.put, List.setIfInBounds_toArray, List.set_cons_zero, List.set_cons_succ, i64_w, i32_w]
      rfl
    refine done_ (by kernel_rfl) ?_
    try go_wp2
    go_roundg k1
    case measure => have := HK1.out; omega
    case rel => exact ⟨(t442), (wrap64 (x10_1 + 1)), (by first | rfl | (simp; done) | (simp [*]; done)), (by first | rfl | (simp; done) | (simp [*]; done)), H', ⟨by have := HK1.out; omega⟩, ⟨by (with_reducible repeat (first | refine blk_drewN ?_ _ | refine blk_drew ?_ | refine blk_alloc ?_ _)); exact BK441.out⟩, ⟨by repeat (first | (with_reducible first | exact HB.out | apply below_alloc | apply pw_below_drewN | apply below_drew1 | refine below_set ?_ GE441.out) | exact HB.out)⟩⟩
end Go.Proofs.Ytmcihijobilcgaa.PAll
end
section
namespace Go.Proofs.Ytmcihijobilcgaa.PAll
open Go.RowKit Go.Proofs.YtmcihijobilcgaaW.PrintWords Go.Proofs.YtmcihijobilcgaaW.PrintLast Go.Proofs.YtmcihijobilcgaaW.PrintMore
attribute [local go_sem] max2_int max_two
mutual
def casing_table_keeps.l0 : Nat → List ByteArray → Int → Int → Int → Int → Int → Int → Int → Int → Int → Int → Int → Int → Int → Int → Int → List ByteArray → Option (Bool)
  | 0, _, _, _, _, _, _, _, _, _, _, _, _, _, _, _, _, _ => none
  | k + 1, x9, x10, x11, x444000, x444001, x444002, x444003, x444004, x444005, x444006, x444007, x444008, x444009, x444010, x444011, x445000, x445001 => if x11 < x10 then (if 0 ≤ x11 then (if x11 < (x9.length : Int) then (casing_table_keeps.l1 k (rdOf ByteArray.empty x9 x11) x9 x10 x11 x444001 0 x444000 x444001 x444002 x444003 x444004 x444005 x444006 x444007 x444008 x444009 x444010 x444011 x445000 x445001) else (none)) else (none)) else (some (x444000 == x445000))
def casing_table_keeps.l1 : Nat → ByteArray → List ByteArray → Int → Int → Int → Int → Int → Int → Int → Int → Int → Int → Int → Int → Int → Int → Int → Int → Int → List ByteArray → Option (Bool)
  | 0, _, _, _, _, _, _, _, _, _, _, _, _, _, _, _, _, _, _, _, _ => none
  | k + 1, x6, x9, x10, x11, x16, x17, x444000, x444001, x444002, x444003, x444004, x444005, x444006, x444007, x444008, x444009, x444010, x444011, x445000, x445001 => if x17 < x16 then ((casing_table_follow.f k x444000 x444001 x444002 x444003 x444004 x444005 x444006 x444007 x444008 x444009 x444010 x444011 x17 x6).bind fun t446 => (if t446 = x17 then (casing_table_keeps.l1 k x6 x9 x10 x11 x16 (wrap64 (x17 + 1)) x444000 x444001 x444002 x444003 x444004 x444005 x444006 x444007 x444008 x444009 x444010 x444011 x445000 x445001) else (some false))) else (casing_table_keeps.l0 k x9 x10 (wrap64 (x11 + 1)) x444000 x444001 x444002 x444003 x444004 x444005 x444006 x444007 x444008 x444009 x444010 x444011 x445000 x445001)
end
def casing_table_keeps.f (k : Nat) (a0_0 : Int) (a0_1 : Int) (a0_2 : Int) (a0_3 : Int) (a0_4 : Int) (a0_5 : Int) (a0_6 : Int) (a0_7 : Int) (a0_8 : Int) (a0_9 : Int) (a0_10 : Int) (a0_11 : Int) (a1_0 : Int) (l1_1 : List ByteArray) : Option (Bool) := casing_table_keeps.l0 k l1_1 (l1_1.length : Int) 0 a0_0 a0_1 a0_2 a0_3 a0_4 a0_5 a0_6 a0_7 a0_8 a0_9 a0_10 a0_11 a1_0 l1_1
set_option maxHeartbeats 8000000 in
set_option maxRecDepth 100000 in
theorem casing_table_keeps.calls (k : Nat) (a0_0 : Int) (a0_1 : Int) (a0_2 : Int) (a0_3 : Int) (a0_4 : Int) (a0_5 : Int) (a0_6 : Int) (a0_7 : Int) (a0_8 : Int) (a0_9 : Int) (a0_10 : Int) (a0_11 : Int) (a1_0 : Int) (A1_1 : Option Addr) (c1_1 : Nat) (l1_1 : List ByteArray) (r : Bool) (w : World) (hr1_1 : Kd.C Kd.string w A1_1 l1_1.length l1_1) (hc1_1 : l1_1.length ≤ c1_1) (h : casing_table_keeps.f k a0_0 a0_1 a0_2 a0_3 a0_4 a0_5 a0_6 a0_7 a0_8 a0_9 a0_10 a0_11 a1_0 l1_1 = some r) :
    Calls Try.prog 61 #[.agg #[.int .i64 a0_0, .int .i64 a0_1, .int .i64 a0_2, .int .i64 a0_3, .int .i64 a0_4, .int .i64 a0_5, .int .i64 a0_6, .int .i64 a0_7, .int .i64 a0_8, .int .i64 a0_9, .int .i64 a0_10, .int .i64 a0_11], .agg #[.int .i64 a1_0, .slice A1_1 l1_1.length c1_1]] w fun e w' => e = .returned (.bool r) ∧ Below w.heap.size w w' := by
  have hu79 := Try.underlying79
  have hu24 := Try.underlying24
  have HR1_1 := Aside0.mk hr1_1
  have HC1_1 := Aside0.mk hc1_1
  clear hr1_1 hc1_1
  have HB := Aside0.mk (Below.refl w.heap.size w)
  have H : (casing_table_keeps.l0 k l1_1 (l1_1.length : Int) 0 a0_0 a0_1 a0_2 a0_3 a0_4 a0_5 a0_6 a0_7 a0_8 a0_9 a0_10 a0_11 a1_0 l1_1) = some r := h
  clear h
  have H' := Aside0.mk H
  clear H
  go_enter Try.func61, Try.ntmps61
  go_wp2_with (first | ((with_reducible refine gate_dst (N := 2) rfl ?_); refine box_event ?hg (N := 2) ?hd (cs := #[.int .i64 a0_0, .int .i64 a0_1, .int .i64 a0_2, .int .i64 a0_3, .int .i64 a0_4, .int .i64 a0_5, .int .i64 a0_6, .int .i64 a0_7, .int .i64 a0_8, .int .i64 a0_9, .int .i64 a0_10, .int .i64 a0_11]) (t := 79) ?hr ?_; (case hd => rfl); (case hg => rfl); (case hr => first | (go_simp; done) | (go_simp; rfl)); intro gb443 hg w3 hbox hb; have BK443 := Aside0.mk (hbox); have GW443 := Aside0.mk ((by rw [hg]; exact (below_size (gr HB.out)) : w.heap.size ≤ gb443)); have GE443 := Aside0.mk ((by rw [hg]; exact (below_size (gr HB.out)) : w.heap.size ≤ gb443)); replace HB := Aside0.mk (below_step HB.out (tr hb)); clear hb hbox hg) | ((with_reducible refine gate_dst (N := 3) rfl ?_); refine box_event ?hg (N := 3) ?hd (cs := #[.int .i64 a1_0, .slice A1_1 l1_1.length c1_1]) (t := 24) ?hr ?_; (case hd => rfl); (case hg => rfl); (case hr => first | (go_simp; done) | (go_simp; rfl)); intro gb444 hg w4 hbox hb; have BK444 := Aside0.mk (hbox); have GW444 := Aside0.mk ((by rw [hg]; exact (below_size (by repeat (first | (with_reducible first | exact HB.out | apply below_alloc | apply pw_below_drewN | apply below_drew1 | refine below_set ?_ GE443.out) | exact HB.out))) : w.heap.size ≤ gb444)); have GE444 := Aside0.mk ((by rw [hg]; exact (below_size (by repeat (first | (with_reducible first | exact HB.out | apply below_alloc | apply pw_below_drewN | apply below_drew1 | refine below_set ?_ GE443.out) | exact HB.out))) : w.heap.size ≤ gb444)); have NB443_444 := Aside0.mk ((by rw [hg]; exact Nat.ne_of_lt (blk_lt (g := gb443) (o := .cells #[.int .i64 a0_0, .int .i64 a0_1, .int .i64 a0_2, .int .i64 a0_3, .int .i64 a0_4, .int .i64 a0_5, .int .i64 a0_6, .int .i64 a0_7, .int .i64 a0_8, .int .i64 a0_9, .int .i64 a0_10, .int .i64 a0_11] 79 (0, 0)) (by (with_reducible repeat (first | refine blk_drewN ?_ _ | refine blk_drew ?_ | refine blk_alloc ?_ _)); exact BK443.out)) : gb443 ≠ gb444)); have NB444_443 := Aside0.mk ((by rw [hg]; exact Nat.ne_of_gt (blk_lt (g := gb443) (o := .cells #[.int .i64 a0_0, .int .i64 a0_1, .int .i64 a0_2, .int .i64 a0_3, .int .i64 a0_4, .int .i64 a0_5, .int .i64 a0_6, .int .i64 a0_7, .int .i64 a0_8, .int .i64 a0_9, .int .i64 a0_10, .int .i64 a0_11] 79 (0, 0)) (by (with_reducible repeat (first | refine blk_drewN ?_ _ | refine blk_drew ?_ | refine blk_alloc ?_ _)); exact BK443.out)) : gb444 ≠ gb443)); replace BK443 := Aside0.mk (blk_below BK443.out (tr hb)); replace HB := Aside0.mk (below_step (by repeat (first | (with_reducible first | exact HB.out | apply below_alloc | apply pw_below_drewN | apply below_drew1 | refine below_set ?_ GE443.out) | exact HB.out)) hb); clear hb hbox hg; have hnb5 := NB444_443.out; have hnc5 := NB443_444.out; have hcz6_0 : w4.cell? ⟨gb444, 0, none⟩ = some (.int .i64 a1_0) := (blk_cell BK444.out 0).trans rfl; have hcz6_1 : w4.cell? ⟨gb444, 1, none⟩ = some (.slice A1_1 l1_1.length c1_1) := (blk_cell BK444.out 1).trans rfl; have hfz6_0 := blk_frozen BK444.out 0; have hfz6_1 := blk_frozen BK444.out 1))
  go_loopg [11] k (fun kq v11 w' => ∃ (x11_1 : Int), v11 = .int .i64 x11_1 ∧ Aside0 (casing_table_keeps.l0 kq l1_1 (l1_1.length : Int) x11_1 a0_0 a0_1 a0_2 a0_3 a0_4 a0_5 a0_6 a0_7 a0_8 a0_9 a0_10 a0_11 a1_0 l1_1 = some r) ∧ Aside0 (kq ≤ k) ∧ Aside0 (w'.heap[gb443]? = some (.cells #[.int .i64 a0_0, .int .i64 a0_1, .int .i64 a0_2, .int .i64 a0_3, .int .i64 a0_4, .int .i64 a0_5, .int .i64 a0_6, .int .i64 a0_7, .int .i64 a0_8, .int .i64 a0_9, .int .i64 a0_10, .int .i64 a0_11] 79 (0, 0))) ∧ Aside0 (w'.heap[gb444]? = some (.cells #[.int .i64 a1_0, (.slice A1_1 l1_1.length c1_1)] 24 (0, 0))) ∧ Aside0 (Below w.heap.size w w'))
  case atStart => exact ⟨(0), (by first | rfl | (simp; done) | (simp [*]; done)), H', ⟨Nat.le_refl _⟩, ⟨by (with_reducible repeat (first | refine blk_drewN ?_ _ | refine blk_drew ?_ | refine blk_alloc ?_ _)); exact BK443.out⟩, ⟨by (with_reducible repeat (first | refine blk_drewN ?_ _ | refine blk_drew ?_ | refine blk_alloc ?_ _)); exact BK444.out⟩, ⟨by repeat (first | (with_reducible first | exact HB.out | apply below_alloc | apply pw_below_drewN | apply below_drew1 | refine below_set ?_ GE443.out | refine below_set ?_ GE444.out) | exact HB.out)⟩⟩
  clear H'
  try clear c1
  try clear p2
  try clear c5
  try clear c6
  try clear hcz6_0
  try clear hcz6_1
  try clear hfz6_0
  try clear hfz6_1
  obtain ⟨x11_1, rfl, HA, HK1, BK443, BK444, HB⟩ := hrel
  cases gk with
  | zero => exact absurd HA.out (by simp [casing_table_keeps.l0])
  | succ k1 =>
    have H := HA.out
    clear HA
    simp only [casing_table_keeps.l0] at H
    by_cases c7 : x11_1 < (l1_1.length : Int)
    rotate_left
    · rw [if_neg c7] at H
      have c7b0 : decide (x11_1 < (l1_1.length : Int)) = false := decide_eq_false c7
      clear c7
      obtain rfl := Option.some.inj H
      have hnb21 := NB443_444.out
      have hnc21 := NB444_443.out
      have hcz22_0 : wr.cell? ⟨gb443, 0, none⟩ = some (.int .i64 a0_0) := (blk_cell BK443.out 0).trans rfl
      have hcz22_1 : wr.cell? ⟨gb443, 1, none⟩ = some (.int .i64 a0_1) := (blk_cell BK443.out 1).trans rfl
      have hcz22_2 : wr.cell? ⟨gb443, 2, none⟩ = some (.int .i64 a0_2) := (blk_cell BK443.out 2).trans rfl
      have hcz22_3 : wr.cell? ⟨gb443, 3, none⟩ = some (.int .i64 a0_3) := (blk_cell BK443.out 3).trans rfl
      have hcz22_4 : wr.cell? ⟨gb443, 4, none⟩ = some (.int .i64 a0_4) := (blk_cell BK443.out 4).trans rfl
      have hcz22_5 : wr.cell? ⟨gb443, 5, none⟩ = some (.int .i64 a0_5) := (blk_cell BK443.out 5).trans rfl
      have hcz22_6 : wr.cell? ⟨gb443, 6, none⟩ = some (.int .i64 a0_6) := (blk_cell BK443.out 6).trans rfl
      have hcz22_7 : wr.cell? ⟨gb443, 7, none⟩ = some (.int .i64 a0_7) := (blk_cell BK443.out 7).trans rfl
      have hcz22_8 : wr.cell? ⟨gb443, 8, none⟩ = some (.int .i64 a0_8) := (blk_cell BK443.out 8).trans rfl
      have hcz22_9 : wr.cell? ⟨gb443, 9, none⟩ = some (.int .i64 a0_9) := (blk_cell BK443.out 9).trans rfl
      have hcz22_10 : wr.cell? ⟨gb443, 10, none⟩ = some (.int .i64 a0_10) := (blk_cell BK443.out 10).trans rfl
      have hcz22_11 : wr.cell? ⟨gb443, 11, none⟩ = some (.int .i64 a0_11) := (blk_cell BK443.out 11).trans rfl
      have hfz22_0 := blk_frozen BK443.out 0
      have hfz22_1 := blk_frozen BK443.out 1
      have hfz22_2 := blk_frozen BK443.out 2
      have hfz22_3 := blk_frozen BK443.out 3
      have hfz22_4 := blk_frozen BK443.out 4
      have hfz22_5 := blk_frozen BK443.out 5
      have hfz22_6 := blk_frozen BK443.out 6
      have hfz22_7 := blk_frozen BK443.out 7
      have hfz22_8 := blk_frozen BK443.out 8
      have hfz22_9 := blk_frozen BK443.out 9
      have hfz22_10 := blk_frozen BK443.out 10
      have hfz22_11 := blk_frozen BK443.out 11
      have hcz23_0 : wr.cell? ⟨gb444, 0, none⟩ = some (.int .i64 a1_0) := (blk_cell BK444.out 0).trans rfl
      have hcz23_1 : wr.cell? ⟨gb444, 1, none⟩ = some (.slice A1_1 l1_1.length c1_1) := (blk_cell BK444.out 1).trans rfl
      have hfz23_0 := blk_frozen BK444.out 0
      have hfz23_1 := blk_frozen BK444.out 1
      go_wp2
      go_ret
      exact ⟨by first | rfl | (simp [errW_none, errW_some] <;> rfl) | (simp [*, errW_none, errW_some] <;> rfl), by repeat (first | (with_reducible first | exact HB.out | apply below_alloc | apply pw_below_drewN | apply below_drew1 | refine below_set ?_ GE443.out | refine below_set ?_ GE444.out) | exact HB.out)⟩
    rw [if_pos c7] at H
    have c7b0 : decide (x11_1 < (l1_1.length : Int)) = true := decide_eq_true c7
    clear c7
    by_cases c8 : 0 ≤ x11_1
    rotate_left
    · rw [if_neg c8] at H
      exact absurd H (by simp)
    rw [if_pos c8] at H
    have c8b0 : decide (0 ≤ x11_1) = true := decide_eq_true c8
    clear c8
    by_cases c9 : x11_1 < (l1_1.length : Int)
    rotate_left
    · rw [if_neg c9] at H
      exact absurd H (by simp)
    rw [if_pos c9] at H
    have c9b0 : decide (x11_1 < (l1_1.length : Int)) = true := decide_eq_true c9
    clear c9
    have H' := Aside0.mk H
    clear H
    have p445 : 0 ≤ (x11_1 : Int) := of_decide_eq_true (by first | (with_reducible assumption) | assumption)
    have q445 : x11_1 < (l1_1.length : Int) := of_decide_eq_true (by first | (with_reducible assumption) | assumption)
    obtain ⟨ad445, e445, hx445_0⟩ := Kd.at_string HR1_1.out x11_1 p445 q445
    cases e445
    replace hx445_0 := (HB.out.cell (World.block_lt_of_cell? w _ hx445_0)).trans hx445_0
    replace p445 := eq_true p445
    replace q445 := eq_true q445
    have hnb10 := NB443_444.out
    have hnc10 := NB444_443.out
    have hcz11_0 : wr.cell? ⟨gb443, 0, none⟩ = some (.int .i64 a0_0) := (blk_cell BK443.out 0).trans rfl
    have hcz11_1 : wr.cell? ⟨gb443, 1, none⟩ = some (.int .i64 a0_1) := (blk_cell BK443.out 1).trans rfl
    have hcz11_2 : wr.cell? ⟨gb443, 2, none⟩ = some (.int .i64 a0_2) := (blk_cell BK443.out 2).trans rfl
    have hcz11_3 : wr.cell? ⟨gb443, 3, none⟩ = some (.int .i64 a0_3) := (blk_cell BK443.out 3).trans rfl
    have hcz11_4 : wr.cell? ⟨gb443, 4, none⟩ = some (.int .i64 a0_4) := (blk_cell BK443.out 4).trans rfl
    have hcz11_5 : wr.cell? ⟨gb443, 5, none⟩ = some (.int .i64 a0_5) := (blk_cell BK443.out 5).trans rfl
    have hcz11_6 : wr.cell? ⟨gb443, 6, none⟩ = some (.int .i64 a0_6) := (blk_cell BK443.out 6).trans rfl
    have hcz11_7 : wr.cell? ⟨gb443, 7, none⟩ = some (.int .i64 a0_7) := (blk_cell BK443.out 7).trans rfl
    have hcz11_8 : wr.cell? ⟨gb443, 8, none⟩ = some (.int .i64 a0_8) := (blk_cell BK443.out 8).trans rfl
    have hcz11_9 : wr.cell? ⟨gb443, 9, none⟩ = some (.int .i64 a0_9) := (blk_cell BK443.out 9).trans rfl
    have hcz11_10 : wr.cell? ⟨gb443, 10, none⟩ = some (.int .i64 a0_10) := (blk_cell BK443.out 10).trans rfl
    have hcz11_11 : wr.cell? ⟨gb443, 11, none⟩ = some (.int .i64 a0_11) := (blk_cell BK443.out 11).trans rfl
    have hfz11_0 := blk_frozen BK443.out 0
    have hfz11_1 := blk_frozen BK443.out 1
    have hfz11_2 := blk_frozen BK443.out 2
    have hfz11_3 := blk_frozen BK443.out 3
    have hfz11_4 := blk_frozen BK443.out 4
    have hfz11_5 := blk_frozen BK443.out 5
    have hfz11_6 := blk_frozen BK443.out 6
    have hfz11_7 := blk_frozen BK443.out 7
    have hfz11_8 := blk_frozen BK443.out 8
    have hfz11_9 := blk_frozen BK443.out 9
    have hfz11_10 := blk_frozen BK443.out 10
    have hfz11_11 := blk_frozen BK443.out 11
    go_wp2
    go_loopg [17] k1 (fun kq v17 w' => ∃ (x17_2 : Int), v17 = .int .i64 x17_2 ∧ Aside0 (casing_table_keeps.l1 kq (rdOf ByteArray.empty l1_1 x11_1) l1_1 (l1_1.length : Int) x11_1 a0_1 x17_2 a0_0 a0_1 a0_2 a0_3 a0_4 a0_5 a0_6 a0_7 a0_8 a0_9 a0_10 a0_11 a1_0 l1_1 = some r) ∧ Aside0 (kq ≤ k1) ∧ Aside0 (w'.heap[gb443]? = some (.cells #[.int .i64 a0_0, .int .i64 a0_1, .int .i64 a0_2, .int .i64 a0_3, .int .i64 a0_4, .int .i64 a0_5, .int .i64 a0_6, .int .i64 a0_7, .int .i64 a0_8, .int .i64 a0_9, .int .i64 a0_10, .int .i64 a0_11] 79 (0, 0))) ∧ Aside0 (w'.heap[gb444]? = some (.cells #[.int .i64 a1_0, (.slice (some ad445) l1_1.length c1_1)] 24 (0, 0))) ∧ Aside0 (Below w.heap.size w w'))
    case atStart => exact ⟨(0), (by first | rfl | (simp; done) | (simp [*]; done)), H', ⟨Nat.le_refl _⟩, ⟨by (with_reducible repeat (first | refine blk_drewN ?_ _ | refine blk_drew ?_ | refine blk_alloc ?_ _)); exact BK443.out⟩, ⟨by (with_reducible repeat (first | refine blk_drewN ?_ _ | refine blk_drew ?_ | refine blk_alloc ?_ _)); exact BK444.out⟩, ⟨by repeat (first | (with_reducible first | exact HB.out | apply below_alloc | apply pw_below_drewN | apply below_drew1 | refine below_set ?_ GE443.out | refine below_set ?_ GE444.out) | exact HB.out)⟩⟩
    clear H'
    try clear c1
    try clear p2
    try clear p4
    try clear q4
    try clear hx4
    try clear c5
    try clear c6
    try clear c7
    try clear c7b0
    try clear c8
    try clear c8b0
    try clear c9
    try clear c9b0
    try clear c10
    try clear hcz11_0
    try clear hcz11_1
    try clear hcz11_10
    try clear hcz11_11
    try clear hcz11_2
    try clear hcz11_3
    try clear hcz11_4
    try clear hcz11_5
    try clear hcz11_6
    try clear hcz11_7
    try clear hcz11_8
    try clear hcz11_9
    try clear hcz6_0
    try clear hcz6_1
    try clear hfz11_0
    try clear hfz11_1
    try clear hfz11_10
    try clear hfz11_11
    try clear hfz11_2
    try clear hfz11_3
    try clear hfz11_4
    try clear hfz11_5
    try clear hfz11_6
    try clear hfz11_7
    try clear hfz11_8
    try clear hfz11_9
    try clear hfz6_0
    try clear hfz6_1
    try clear hx445_0
    try clear p2
    try clear p445
    try clear q445
    obtain ⟨x17_2, rfl, HA, HK2, BK443, BK444, HB⟩ := hrel
    cases gk with
    | zero => exact absurd HA.out (by simp [casing_table_keeps.l1])
    | succ k2 =>
      have H := HA.out
      clear HA
      simp only [casing_table_keeps.l1] at H
      by_cases c12 : x17_2 < a0_1
      rotate_left
      · rw [if_neg c12] at H
        have c12b0 : decide (x17_2 < a0_1) = false := decide_eq_false c12
        clear c12
        have H' := Aside0.mk H
        clear H
        go_wp2
        go_roundg k2
        case measure => have := HK1.out; have := HK2.out; omega
        case rel => exact ⟨(wrap64 (x11_1 + 1)), (by first | rfl | (simp; done) | (simp [*]; done)), H', ⟨by have := HK1.out; have := HK2.out; omega⟩, ⟨by (with_reducible repeat (first | refine blk_drewN ?_ _ | refine blk_drew ?_ | refine blk_alloc ?_ _)); exact BK443.out⟩, ⟨by (with_reducible repeat (first | refine blk_drewN ?_ _ | refine blk_drew ?_ | refine blk_alloc ?_ _)); exact BK444.out⟩, ⟨by repeat (first | (with_reducible first | exact HB.out | apply below_alloc | apply pw_below_drewN | apply below_drew1 | refine below_set ?_ GE443.out | refine below_set ?_ GE444.out) | exact HB.out)⟩⟩
      rw [if_pos c12] at H
      have c12b0 : decide (x17_2 < a0_1) = true := decide_eq_true c12
      clear c12
      replace H := Option.bind_eq_some_iff.mp H
      obtain ⟨t446, A130, H⟩ := H
      try dsimp only at H
      have A13 := Aside0.mk A130
      clear A130
      by_cases c14 : t446 = x17_2
      rotate_left
      · rw [if_neg c14] at H
        have c14b0 : (t446 == x17_2) = false := beq_eq_false_iff_ne.mpr c14
        have c14b1 : (t446 != x17_2) = true := bne_iff_ne.mpr c14
        obtain rfl := Option.some.inj H
        have hnb18 := NB443_444.out
        have hnc18 := NB444_443.out
        have hcz19_0 : wr.cell? ⟨gb443, 0, none⟩ = some (.int .i64 a0_0) := (blk_cell BK443.out 0).trans rfl
        have hcz19_1 : wr.cell? ⟨gb443, 1, none⟩ = some (.int .i64 a0_1) := (blk_cell BK443.out 1).trans rfl
        have hcz19_2 : wr.cell? ⟨gb443, 2, none⟩ = some (.int .i64 a0_2) := (blk_cell BK443.out 2).trans rfl
        have hcz19_3 : wr.cell? ⟨gb443, 3, none⟩ = some (.int .i64 a0_3) := (blk_cell BK443.out 3).trans rfl
        have hcz19_4 : wr.cell? ⟨gb443, 4, none⟩ = some (.int .i64 a0_4) := (blk_cell BK443.out 4).trans rfl
        have hcz19_5 : wr.cell? ⟨gb443, 5, none⟩ = some (.int .i64 a0_5) := (blk_cell BK443.out 5).trans rfl
        have hcz19_6 : wr.cell? ⟨gb443, 6, none⟩ = some (.int .i64 a0_6) := (blk_cell BK443.out 6).trans rfl
        have hcz19_7 : wr.cell? ⟨gb443, 7, none⟩ = some (.int .i64 a0_7) := (blk_cell BK443.out 7).trans rfl
        have hcz19_8 : wr.cell? ⟨gb443, 8, none⟩ = some (.int .i64 a0_8) := (blk_cell BK443.out 8).trans rfl
        have hcz19_9 : wr.cell? ⟨gb443, 9, none⟩ = some (.int .i64 a0_9) := (blk_cell BK443.out 9).trans rfl
        have hcz19_10 : wr.cell? ⟨gb443, 10, none⟩ = some (.int .i64 a0_10) := (blk_cell BK443.out 10).trans rfl
        have hcz19_11 : wr.cell? ⟨gb443, 11, none⟩ = some (.int .i64 a0_11) := (blk_cell BK443.out 11).trans rfl
        have hfz19_0 := blk_frozen BK443.out 0
        have hfz19_1 := blk_frozen BK443.out 1
        have hfz19_2 := blk_frozen BK443.out 2
        have hfz19_3 := blk_frozen BK443.out 3
        have hfz19_4 := blk_frozen BK443.out 4
        have hfz19_5 := blk_frozen BK443.out 5
        have hfz19_6 := blk_frozen BK443.out 6
        have hfz19_7 := blk_frozen BK443.out 7
        have hfz19_8 := blk_frozen BK443.out 8
        have hfz19_9 := blk_frozen BK443.out 9
        have hfz19_10 := blk_frozen BK443.out 10
        have hfz19_11 := blk_frozen BK443.out 11
        go_wp2_with (first | ((with_reducible refine gate_callee (f := 62) rfl ?_); refine goesL_ (some 23) rfl rfl Try.func62 (by kernel_rfl) rfl #[.agg #[.int .i64 a0_0, .int .i64 a0_1, .int .i64 a0_2, .int .i64 a0_3, .int .i64 a0_4, .int .i64 a0_5, .int .i64 a0_6, .int .i64 a0_7, .int .i64 a0_8, .int .i64 a0_9, .int .i64 a0_10, .int .i64 a0_11], .int .i64 x17_2, .string (rdOf ByteArray.empty l1_1 x11_1)] rfl (by (try simp only [List.map_toArray, List.map_cons, List.map_nil]); first | done | rfl | (simp only [List.length_drop, List.length_take]; rfl)) ?_; (with_reducible refine (casing_table_follow.calls k2 a0_0 a0_1 a0_2 a0_3 a0_4 a0_5 a0_6 a0_7 a0_8 a0_9 a0_10 a0_11 x17_2 (rdOf ByteArray.empty l1_1 x11_1) t446 _ A13.out).mono ?_); rintro e w20 ⟨rfl, hb⟩; refine ⟨_, rfl, ?_⟩; replace BK443 := Aside0.mk (blk_below BK443.out (tr hb)); replace BK444 := Aside0.mk (blk_below BK444.out (tr hb)); replace HB := Aside0.mk (below_step (by repeat (first | (with_reducible first | exact HB.out | apply below_alloc | apply pw_below_drewN | apply below_drew1 | refine below_set ?_ GE443.out | refine below_set ?_ GE444.out) | exact HB.out)) hb); (try clear hb); (try clear hb2); (try clear hk); (try clear hi)))
        go_ret
        exact ⟨by first | rfl | (simp [errW_none, errW_some] <;> rfl) | (simp [*, errW_none, errW_some] <;> rfl), by repeat (first | (with_reducible first | exact HB.out | apply below_alloc | apply pw_below_drewN | apply below_drew1 | refine below_set ?_ GE443.out | refine below_set ?_ GE444.out) | exact HB.out)⟩
      rw [if_pos c14] at H
      have c14b0 : (t446 == x17_2) = true := beq_iff_eq.mpr c14
      have c14b1 : (t446 != x17_2) = false := bne_eq_false_iff_eq.mpr c14
      clear c14
      have H' := Aside0.mk H
      clear H
      have hnb15 := NB443_444.out
      have hnc15 := NB444_443.out
      have hcz16_0 : wr.cell? ⟨gb443, 0, none⟩ = some (.int .i64 a0_0) := (blk_cell BK443.out 0).trans rfl
      have hcz16_1 : wr.cell? ⟨gb443, 1, none⟩ = some (.int .i64 a0_1) := (blk_cell BK443.out 1).trans rfl
      have hcz16_2 : wr.cell? ⟨gb443, 2, none⟩ = some (.int .i64 a0_2) := (blk_cell BK443.out 2).trans rfl
      have hcz16_3 : wr.cell? ⟨gb443, 3, none⟩ = some (.int .i64 a0_3) := (blk_cell BK443.out 3).trans rfl
      have hcz16_4 : wr.cell? ⟨gb443, 4, none⟩ = some (.int .i64 a0_4) := (blk_cell BK443.out 4).trans rfl
      have hcz16_5 : wr.cell? ⟨gb443, 5, none⟩ = some (.int .i64 a0_5) := (blk_cell BK443.out 5).trans rfl
      have hcz16_6 : wr.cell? ⟨gb443, 6, none⟩ = some (.int .i64 a0_6) := (blk_cell BK443.out 6).trans rfl
      have hcz16_7 : wr.cell? ⟨gb443, 7, none⟩ = some (.int .i64 a0_7) := (blk_cell BK443.out 7).trans rfl
      have hcz16_8 : wr.cell? ⟨gb443, 8, none⟩ = some (.int .i64 a0_8) := (blk_cell BK443.out 8).trans rfl
      have hcz16_9 : wr.cell? ⟨gb443, 9, none⟩ = some (.int .i64 a0_9) := (blk_cell BK443.out 9).trans rfl
      have hcz16_10 : wr.cell? ⟨gb443, 10, none⟩ = some (.int .i64 a0_10) := (blk_cell BK443.out 10).trans rfl
      have hcz16_11 : wr.cell? ⟨gb443, 11, none⟩ = some (.int .i64 a0_11) := (blk_cell BK443.out 11).trans rfl
      have hfz16_0 := blk_frozen BK443.out 0
      have hfz16_1 := blk_frozen BK443.out 1
      have hfz16_2 := blk_frozen BK443.out 2
      have hfz16_3 := blk_frozen BK443.out 3
      have hfz16_4 := blk_frozen BK443.out 4
      have hfz16_5 := blk_frozen BK443.out 5
      have hfz16_6 := blk_frozen BK443.out 6
      have hfz16_7 := blk_frozen BK443.out 7
      have hfz16_8 := blk_frozen BK443.out 8
      have hfz16_9 := blk_frozen BK443.out 9
      have hfz16_10 := blk_frozen BK443.out 10
      have hfz16_11 := blk_frozen BK443.out 11
      go_wp2_with (first | ((with_reducible refine gate_callee (f := 62) rfl ?_); refine goesL_ (some 23) rfl rfl Try.func62 (by kernel_rfl) rfl #[.agg #[.int .i64 a0_0, .int .i64 a0_1, .int .i64 a0_2, .int .i64 a0_3, .int .i64 a0_4, .int .i64 a0_5, .int .i64 a0_6, .int .i64 a0_7, .int .i64 a0_8, .int .i64 a0_9, .int .i64 a0_10, .int .i64 a0_11], .int .i64 x17_2, .string (rdOf ByteArray.empty l1_1 x11_1)] rfl (by (try simp only [List.map_toArray, List.map_cons, List.map_nil]); first | done | rfl | (simp only [List.length_drop, List.length_take]; rfl)) ?_; (with_reducible refine (casing_table_follow.calls k2 a0_0 a0_1 a0_2 a0_3 a0_4 a0_5 a0_6 a0_7 a0_8 a0_9 a0_10 a0_11 x17_2 (rdOf ByteArray.empty l1_1 x11_1) t446 _ A13.out).mono ?_); rintro e w17 ⟨rfl, hb⟩; refine ⟨_, rfl, ?_⟩; replace BK443 := Aside0.mk (blk_below BK443.out (tr hb)); replace BK444 := Aside0.mk (blk_below BK444.out (tr hb)); replace HB := Aside0.mk (below_step (by repeat (first | (with_reducible first | exact HB.out | apply below_alloc | apply pw_below_drewN | apply below_drew1 | refine below_set ?_ GE443.out | refine below_set ?_ GE444.out) | exact HB.out)) hb); (try clear hb); (try clear hb2); (try clear hk); (try clear hi)))
      go_roundg k2
      case measure => have := HK1.out; have := HK2.out; omega
      case rel => exact ⟨(wrap64 (x17_2 + 1)), (by first | rfl | (simp; done) | (simp [*]; done)), H', ⟨by have := HK1.out; have := HK2.out; omega⟩, ⟨by (with_reducible repeat (first | refine blk_drewN ?_ _ | refine blk_drew ?_ | refine blk_alloc ?_ _)); exact BK443.out⟩, ⟨by (with_reducible repeat (first | refine blk_drewN ?_ _ | refine blk_drew ?_ | refine blk_alloc ?_ _)); exact BK444.out⟩, ⟨by repeat (first | (with_reducible first | exact HB.out | apply below_alloc | apply pw_below_drewN | apply below_drew1 | refine below_set ?_ GE443.out | refine below_set ?_ GE444.out) | exact HB.out)⟩⟩
end Go.Proofs.Ytmcihijobilcgaa.PAll
end
section
namespace Go.Proofs.Ytmcihijobilcgaa.PAll
open Go.RowKit Go.Proofs.YtmcihijobilcgaaW.PrintWords Go.Proofs.YtmcihijobilcgaaW.PrintLast Go.Proofs.YtmcihijobilcgaaW.PrintMore
def cellsTab (t : S79) : List Value := [.int .i64 t.f0, .int .i64 t.f1, .int .i64 t.f2.f0.f0, .int .i64 t.f2.f0.f1, .int .i64 t.f2.f0.f2, .int .i64 t.f2.f0.f3, .int .i64 t.f2.f0.f4, .int .i64 t.f2.f1.f0, .int .i64 t.f2.f1.f1, .int .i64 t.f2.f1.f2, .int .i64 t.f2.f1.f3, .int .i64 t.f2.f1.f4]
def keepQ (K : Nat) (p0 : Int) (rules : List ByteArray) (t : S79) : Option Bool :=
  (casing_table_isStandard.f K t.f0 t.f1 t.f2.f0.f0 t.f2.f0.f1 t.f2.f0.f2 t.f2.f0.f3 t.f2.f0.f4 t.f2.f1.f0 t.f2.f1.f1 t.f2.f1.f2 t.f2.f1.f3 t.f2.f1.f4).bind fun b =>
    if b = true then casing_table_keeps.f K t.f0 t.f1 t.f2.f0.f0 t.f2.f0.f1 t.f2.f0.f2 t.f2.f0.f3 t.f2.f0.f4 t.f2.f1.f0 t.f2.f1.f1 t.f2.f1.f2 t.f2.f1.f3 t.f2.f1.f4 p0 rules else some false
def setCol (t : S79) (k : Nat) (c : S76) : S79 := if k = 0 then { t with f2 := { t.f2 with f0 := c } } else { t with f2 := { t.f2 with f1 := c } }
def catM {α β : Type} (f : α → Option (List β)) : List α → Option (List β)
  | [] => some []
  | x :: xs => (f x).bind fun a => (catM f xs).bind fun b => some (a ++ b)
def collT (K : Nat) (p0 : Int) (rules : List ByteArray) (d : Nat) : Nat → Nat → S79 → Option (List S79)
  | 0, _, t => (keepQ K p0 rules t).bind fun b => some (if b = true then [t] else [])
  | n + 1, k, t => catM (fun c => collT K p0 rules d n (k + 1) (setCol t k c)) (colsS d)
structure St (w0 : World) (Bo : Nat) (W : World) (v : Value) (xs : List S79) : Prop where
  box : W.heap[Bo]? = some (.cells #[v] 74 (0, 0))
  row : Kd.R k79 79 W w0.heap.size (fun _ => True) v xs
  below : Below w0.heap.size w0 W
structure KeepOf (B : Nat) (own : Option Nat) (W W' : World) : Prop where
  os : W'.os = W.os
  tape : W'.tape = W.tape
  output : W'.output = W.output
  size : W.heap.size ≤ W'.heap.size
  same : ∀ i, i < W.heap.size → i ≠ B → some i ≠ own → W'.heap[i]? = W.heap[i]?
theorem KeepOf.of_below {B : Nat} {own : Option Nat} {W W' : World} (h : Below W.heap.size W W') : KeepOf B own W W' := ⟨h.os, h.tape, h.output, h.size, fun i hi _ _ => h.block i hi⟩
theorem KeepOf.trans {B : Nat} {o o' : Option Nat} {W W1 W2 : World} (h : KeepOf B o W W1) (g : KeepOf B o' W1 W2) (ho : o' = o ∨ ∃ b, o' = some b ∧ W.heap.size ≤ b) : KeepOf B o W W2 :=
  ⟨g.os.trans h.os, g.tape.trans h.tape, g.output.trans h.output, Nat.le_trans h.size g.size, fun i hi h1 h2 => (g.same i (Nat.lt_of_lt_of_le hi h.size) h1 (by
    rcases ho with rfl | ⟨b, rfl, hb⟩
    · exact h2
    · intro e; cases e; omega)).trans (h.same i hi h1 h2)⟩
theorem St.move {w0 W W' : World} {Bo : Nat} {v : Value} {xs : List S79} (h : St w0 Bo W v xs) (hb : Below W.heap.size W W') : St w0 Bo W' v xs := by
  have hlt : Bo < W.heap.size := by
    rcases Nat.lt_or_ge Bo W.heap.size with h' | h'
    · exact h'
    · have := h.box; simp [Array.getElem?_eq_none h'] at this
  exact ⟨(hb.block Bo hlt).trans h.box, Kd.R_below h.row hb, h.below.trans (hb.mono h.below.size)⟩
def zTab : Value := .agg #[.int .i64 0, .int .i64 0, .int .i64 0, .int .i64 0, .int .i64 0, .int .i64 0, .int .i64 0, .int .i64 0, .int .i64 0, .int .i64 0, .int .i64 0, .int .i64 0]
theorem info98T : (Try.prog.info? 79).map (fun i => (i.zero, i.size, i.bytes)) = some (some zTab, k79.sz, 96) := by kernel_rfl
def TabsR (w0 : World) (Bo : Nat) (v : Value) (W : World) (zs : List S79) (e : Ending) (W' : World) : Prop :=
  e = .returned (.tuple #[]) ∧ ∃ v', St w0 Bo W' v' zs ∧ KeepOf Bo v.ownBlock W W' ∧ (v'.ownBlock = v.ownBlock ∨ ∃ b, v'.ownBlock = some b ∧ W.heap.size ≤ b)
set_option maxHeartbeats 8000000 in
set_option maxRecDepth 100000 in
theorem tabs_base (K : Nat) (p0 : Int) (A : Option Addr) (c : Nat) (rules : List ByteArray) (d : Nat) (w0 : World) (Bp Bo Bd Be : Nat) (hC : Kd.C Kd.string w0 A rules.length rules) (hc : rules.length ≤ c)
    (t : S79) (k : Nat) (v : Value) (xs ys : List S79) (W : World) (hg : t.f0 = k) (hS : St w0 Bo W v xs) (hBp : W.heap[Bp]? = some (.cells #[.int .i64 p0, .slice A rules.length c] 24 (0, 0)))
    (hN : xs.length < 1000000) (hBo0 : w0.heap.size ≤ Bo) (hq : collT K p0 rules d 0 k t = some ys) :
    Calls Try.prog 73 #[.agg (cellsTab t).toArray, .int .i64 k, .pointer (some ⟨Bp, 0, none⟩), .pointer (some ⟨Bo, 0, none⟩), .pointer (some ⟨Bd, 0, none⟩), .pointer (some ⟨Be, 0, none⟩)] W (TabsR w0 Bo v W (xs ++ ys)) := by
  obtain ⟨g, d1, ⟨⟨a0, a1, a2, a3, a4⟩, ⟨b0, b1, b2, b3, b4⟩⟩⟩ := t
  obtain rfl : g = (k : Int) := hg
  have hne : some Bo ≠ v.ownBlock := by
    intro e
    obtain ⟨cells, hcell⟩ := Kd.R_typed hS.row Bo e.symm
    rw [hS.box] at hcell
    cases hcell
  have hu79 := Try.underlying79
  have hu24 := Try.underlying24
  have HS := Aside0.mk hS
  have HC := Aside0.mk hC
  have Hc := Aside0.mk hc
  have HN := Aside0.mk hN
  have Hne := Aside0.mk hne
  have BKp0 := Aside0.mk hBp
  clear hS hC hc hN hne hBp
  simp only [collT, keepQ, Option.bind_eq_some_iff] at hq
  obtain ⟨b, ⟨s, hq1, hq2⟩, hq3⟩ := hq
  have Hq1 := Aside0.mk hq1
  obtain rfl := Option.some.inj hq3
  clear hq1 hq3
  simp only [cellsTab]
  cases s
  · obtain rfl := Option.some.inj hq2
    clear hq2
    go_enter Try.func73, Try.ntmps73
    go_wp2_with (first | ((with_reducible refine gate_dst (N := 6) rfl ?_); refine box_event ?hg (N := 6) ?hd (cs := #[.int .i64 (k : Int), .int .i64 d1, .int .i64 a0, .int .i64 a1, .int .i64 a2, .int .i64 a3, .int .i64 a4, .int .i64 b0, .int .i64 b1, .int .i64 b2, .int .i64 b3, .int .i64 b4]) (t := 79) ?hr ?_; (case hd => rfl); (case hg => rfl); (case hr => first | (go_simp; done) | (go_simp; rfl)); intro gt hg w1 hbox hb; have n0_ := Aside0.mk hb; have n1_ := Aside0.mk hbox; clear hg hb hbox; have HB1 := n0_; have BKt1 := n1_; clear n0_ n1_) | ((with_reducible refine gate_dst (N := 7) rfl ?_); refine box_event ?hg (N := 7) ?hd (cs := #[.int .i64 (k : Int)]) (t := 3) ?hr ?_; (case hd => rfl); (case hg => rfl); (case hr => first | (go_simp; done) | (go_simp; rfl)); intro gk hg w2 hbox hb; have n0_ := Aside0.mk (HB1.out.trans (hb.mono HB1.out.size)); have n1_ := Aside0.mk hbox; have n2_ := Aside0.mk (blk_below BKt1.out hb); have n3_ := Aside0.mk (blk_below BKp0.out n0_.out); have n4_ := Aside0.mk (blk_below HS.out.box n0_.out); clear BKp0 HB1 BKt1 hg hb hbox; have HB := n0_; have BKk := n1_; have BKt := n2_; have BKp := n3_; have BKo := n4_; clear n0_ n1_ n2_ n3_ n4_; have hk1 : w2.cell? ⟨gk, 0, none⟩ = some (.int .i64 (k : Int)) := (blk_cell BKk.out 0).trans rfl; have hp10 : w2.cell? ⟨Bp, 0, none⟩ = some (.int .i64 p0) := (blk_cell BKp.out 0).trans rfl; have hp11 : w2.cell? ⟨Bp, 1, none⟩ = some (.slice A rules.length c) := (blk_cell BKp.out 1).trans rfl; have ho1 : w2.cell? ⟨Bo, 0, none⟩ = some v := (blk_cell BKo.out 0).trans rfl; have hz2_0 : w2.cell? ⟨gt, 0, none⟩ = some (.int .i64 (k : Int)) := (blk_cell BKt.out 0).trans rfl; have hz2_1 : w2.cell? ⟨gt, 1, none⟩ = some (.int .i64 d1) := (blk_cell BKt.out 1).trans rfl; have hz2_2 : w2.cell? ⟨gt, 2, none⟩ = some (.int .i64 a0) := (blk_cell BKt.out 2).trans rfl; have hz2_3 : w2.cell? ⟨gt, 3, none⟩ = some (.int .i64 a1) := (blk_cell BKt.out 3).trans rfl; have hz2_4 : w2.cell? ⟨gt, 4, none⟩ = some (.int .i64 a2) := (blk_cell BKt.out 4).trans rfl; have hz2_5 : w2.cell? ⟨gt, 5, none⟩ = some (.int .i64 a3) := (blk_cell BKt.out 5).trans rfl; have hz2_6 : w2.cell? ⟨gt, 6, none⟩ = some (.int .i64 a4) := (blk_cell BKt.out 6).trans rfl; have hz2_7 : w2.cell? ⟨gt, 7, none⟩ = some (.int .i64 b0) := (blk_cell BKt.out 7).trans rfl; have hz2_8 : w2.cell? ⟨gt, 8, none⟩ = some (.int .i64 b1) := (blk_cell BKt.out 8).trans rfl; have hz2_9 : w2.cell? ⟨gt, 9, none⟩ = some (.int .i64 b2) := (blk_cell BKt.out 9).trans rfl; have hz2_10 : w2.cell? ⟨gt, 10, none⟩ = some (.int .i64 b3) := (blk_cell BKt.out 10).trans rfl; have hz2_11 : w2.cell? ⟨gt, 11, none⟩ = some (.int .i64 b4) := (blk_cell BKt.out 11).trans rfl) | ((with_reducible refine gate_callee (f := 64) rfl ?_); refine goesL_ (some 14) rfl rfl Try.func64 (by kernel_rfl) rfl #[.agg #[.int .i64 (k : Int), .int .i64 d1, .int .i64 a0, .int .i64 a1, .int .i64 a2, .int .i64 a3, .int .i64 a4, .int .i64 b0, .int .i64 b1, .int .i64 b2, .int .i64 b3, .int .i64 b4]] rfl (by (try simp only [List.map_toArray, List.map_cons, List.map_nil]); first | done | rfl) ?_; (with_reducible refine (casing_table_isStandard.calls K (k : Int) d1 a0 a1 a2 a3 a4 b0 b1 b2 b3 b4 false _ Hq1.out).mono ?_); rintro e w3 ⟨rfl, hb⟩; refine ⟨_, rfl, ?_⟩; replace HB := Aside0.mk (HB.out.trans (hb.mono HB.out.size)); replace BKt := Aside0.mk (blk_below BKt.out hb); replace BKk := Aside0.mk (blk_below BKk.out hb); replace BKp := Aside0.mk (blk_below BKp.out hb); replace BKo := Aside0.mk (blk_below BKo.out hb); clear hb; have hk3 : w3.cell? ⟨gk, 0, none⟩ = some (.int .i64 (k : Int)) := (blk_cell BKk.out 0).trans rfl; have hp30 : w3.cell? ⟨Bp, 0, none⟩ = some (.int .i64 p0) := (blk_cell BKp.out 0).trans rfl; have hp31 : w3.cell? ⟨Bp, 1, none⟩ = some (.slice A rules.length c) := (blk_cell BKp.out 1).trans rfl; have ho3 : w3.cell? ⟨Bo, 0, none⟩ = some v := (blk_cell BKo.out 0).trans rfl; have hz4_0 : w3.cell? ⟨gt, 0, none⟩ = some (.int .i64 (k : Int)) := (blk_cell BKt.out 0).trans rfl; have hz4_1 : w3.cell? ⟨gt, 1, none⟩ = some (.int .i64 d1) := (blk_cell BKt.out 1).trans rfl; have hz4_2 : w3.cell? ⟨gt, 2, none⟩ = some (.int .i64 a0) := (blk_cell BKt.out 2).trans rfl; have hz4_3 : w3.cell? ⟨gt, 3, none⟩ = some (.int .i64 a1) := (blk_cell BKt.out 3).trans rfl; have hz4_4 : w3.cell? ⟨gt, 4, none⟩ = some (.int .i64 a2) := (blk_cell BKt.out 4).trans rfl; have hz4_5 : w3.cell? ⟨gt, 5, none⟩ = some (.int .i64 a3) := (blk_cell BKt.out 5).trans rfl; have hz4_6 : w3.cell? ⟨gt, 6, none⟩ = some (.int .i64 a4) := (blk_cell BKt.out 6).trans rfl; have hz4_7 : w3.cell? ⟨gt, 7, none⟩ = some (.int .i64 b0) := (blk_cell BKt.out 7).trans rfl; have hz4_8 : w3.cell? ⟨gt, 8, none⟩ = some (.int .i64 b1) := (blk_cell BKt.out 8).trans rfl; have hz4_9 : w3.cell? ⟨gt, 9, none⟩ = some (.int .i64 b2) := (blk_cell BKt.out 9).trans rfl; have hz4_10 : w3.cell? ⟨gt, 10, none⟩ = some (.int .i64 b3) := (blk_cell BKt.out 10).trans rfl; have hz4_11 : w3.cell? ⟨gt, 11, none⟩ = some (.int .i64 b4) := (blk_cell BKt.out 11).trans rfl))
    repeat (go_quiet (first | ((with_reducible refine gate_dst (N := 6) rfl ?_); refine box_event ?hg (N := 6) ?hd (cs := #[.int .i64 (k : Int), .int .i64 d1, .int .i64 a0, .int .i64 a1, .int .i64 a2, .int .i64 a3, .int .i64 a4, .int .i64 b0, .int .i64 b1, .int .i64 b2, .int .i64 b3, .int .i64 b4]) (t := 79) ?hr ?_; (case hd => rfl); (case hg => rfl); (case hr => first | (go_simp; done) | (go_simp; rfl)); intro gt hg w1 hbox hb; have n0_ := Aside0.mk hb; have n1_ := Aside0.mk hbox; clear hg hb hbox; have HB1 := n0_; have BKt1 := n1_; clear n0_ n1_) | ((with_reducible refine gate_dst (N := 7) rfl ?_); refine box_event ?hg (N := 7) ?hd (cs := #[.int .i64 (k : Int)]) (t := 3) ?hr ?_; (case hd => rfl); (case hg => rfl); (case hr => first | (go_simp; done) | (go_simp; rfl)); intro gk hg w2 hbox hb; have n0_ := Aside0.mk (HB1.out.trans (hb.mono HB1.out.size)); have n1_ := Aside0.mk hbox; have n2_ := Aside0.mk (blk_below BKt1.out hb); have n3_ := Aside0.mk (blk_below BKp0.out n0_.out); have n4_ := Aside0.mk (blk_below HS.out.box n0_.out); clear BKp0 HB1 BKt1 hg hb hbox; have HB := n0_; have BKk := n1_; have BKt := n2_; have BKp := n3_; have BKo := n4_; clear n0_ n1_ n2_ n3_ n4_; have hk1 : w2.cell? ⟨gk, 0, none⟩ = some (.int .i64 (k : Int)) := (blk_cell BKk.out 0).trans rfl; have hp10 : w2.cell? ⟨Bp, 0, none⟩ = some (.int .i64 p0) := (blk_cell BKp.out 0).trans rfl; have hp11 : w2.cell? ⟨Bp, 1, none⟩ = some (.slice A rules.length c) := (blk_cell BKp.out 1).trans rfl; have ho1 : w2.cell? ⟨Bo, 0, none⟩ = some v := (blk_cell BKo.out 0).trans rfl; have hz2_0 : w2.cell? ⟨gt, 0, none⟩ = some (.int .i64 (k : Int)) := (blk_cell BKt.out 0).trans rfl; have hz2_1 : w2.cell? ⟨gt, 1, none⟩ = some (.int .i64 d1) := (blk_cell BKt.out 1).trans rfl; have hz2_2 : w2.cell? ⟨gt, 2, none⟩ = some (.int .i64 a0) := (blk_cell BKt.out 2).trans rfl; have hz2_3 : w2.cell? ⟨gt, 3, none⟩ = some (.int .i64 a1) := (blk_cell BKt.out 3).trans rfl; have hz2_4 : w2.cell? ⟨gt, 4, none⟩ = some (.int .i64 a2) := (blk_cell BKt.out 4).trans rfl; have hz2_5 : w2.cell? ⟨gt, 5, none⟩ = some (.int .i64 a3) := (blk_cell BKt.out 5).trans rfl; have hz2_6 : w2.cell? ⟨gt, 6, none⟩ = some (.int .i64 a4) := (blk_cell BKt.out 6).trans rfl; have hz2_7 : w2.cell? ⟨gt, 7, none⟩ = some (.int .i64 b0) := (blk_cell BKt.out 7).trans rfl; have hz2_8 : w2.cell? ⟨gt, 8, none⟩ = some (.int .i64 b1) := (blk_cell BKt.out 8).trans rfl; have hz2_9 : w2.cell? ⟨gt, 9, none⟩ = some (.int .i64 b2) := (blk_cell BKt.out 9).trans rfl; have hz2_10 : w2.cell? ⟨gt, 10, none⟩ = some (.int .i64 b3) := (blk_cell BKt.out 10).trans rfl; have hz2_11 : w2.cell? ⟨gt, 11, none⟩ = some (.int .i64 b4) := (blk_cell BKt.out 11).trans rfl) | ((with_reducible refine gate_callee (f := 64) rfl ?_); refine goesL_ (some 14) rfl rfl Try.func64 (by kernel_rfl) rfl #[.agg #[.int .i64 (k : Int), .int .i64 d1, .int .i64 a0, .int .i64 a1, .int .i64 a2, .int .i64 a3, .int .i64 a4, .int .i64 b0, .int .i64 b1, .int .i64 b2, .int .i64 b3, .int .i64 b4]] rfl (by (try simp only [List.map_toArray, List.map_cons, List.map_nil]); first | done | rfl) ?_; (with_reducible refine (casing_table_isStandard.calls K (k : Int) d1 a0 a1 a2 a3 a4 b0 b1 b2 b3 b4 false _ Hq1.out).mono ?_); rintro e w3 ⟨rfl, hb⟩; refine ⟨_, rfl, ?_⟩; replace HB := Aside0.mk (HB.out.trans (hb.mono HB.out.size)); replace BKt := Aside0.mk (blk_below BKt.out hb); replace BKk := Aside0.mk (blk_below BKk.out hb); replace BKp := Aside0.mk (blk_below BKp.out hb); replace BKo := Aside0.mk (blk_below BKo.out hb); clear hb; have hk3 : w3.cell? ⟨gk, 0, none⟩ = some (.int .i64 (k : Int)) := (blk_cell BKk.out 0).trans rfl; have hp30 : w3.cell? ⟨Bp, 0, none⟩ = some (.int .i64 p0) := (blk_cell BKp.out 0).trans rfl; have hp31 : w3.cell? ⟨Bp, 1, none⟩ = some (.slice A rules.length c) := (blk_cell BKp.out 1).trans rfl; have ho3 : w3.cell? ⟨Bo, 0, none⟩ = some v := (blk_cell BKo.out 0).trans rfl; have hz4_0 : w3.cell? ⟨gt, 0, none⟩ = some (.int .i64 (k : Int)) := (blk_cell BKt.out 0).trans rfl; have hz4_1 : w3.cell? ⟨gt, 1, none⟩ = some (.int .i64 d1) := (blk_cell BKt.out 1).trans rfl; have hz4_2 : w3.cell? ⟨gt, 2, none⟩ = some (.int .i64 a0) := (blk_cell BKt.out 2).trans rfl; have hz4_3 : w3.cell? ⟨gt, 3, none⟩ = some (.int .i64 a1) := (blk_cell BKt.out 3).trans rfl; have hz4_4 : w3.cell? ⟨gt, 4, none⟩ = some (.int .i64 a2) := (blk_cell BKt.out 4).trans rfl; have hz4_5 : w3.cell? ⟨gt, 5, none⟩ = some (.int .i64 a3) := (blk_cell BKt.out 5).trans rfl; have hz4_6 : w3.cell? ⟨gt, 6, none⟩ = some (.int .i64 a4) := (blk_cell BKt.out 6).trans rfl; have hz4_7 : w3.cell? ⟨gt, 7, none⟩ = some (.int .i64 b0) := (blk_cell BKt.out 7).trans rfl; have hz4_8 : w3.cell? ⟨gt, 8, none⟩ = some (.int .i64 b1) := (blk_cell BKt.out 8).trans rfl; have hz4_9 : w3.cell? ⟨gt, 9, none⟩ = some (.int .i64 b2) := (blk_cell BKt.out 9).trans rfl; have hz4_10 : w3.cell? ⟨gt, 10, none⟩ = some (.int .i64 b3) := (blk_cell BKt.out 10).trans rfl; have hz4_11 : w3.cell? ⟨gt, 11, none⟩ = some (.int .i64 b4) := (blk_cell BKt.out 11).trans rfl)))
    go_end0
    exact ⟨rfl, v, by simpa using HS.out.move HB.out, KeepOf.of_below HB.out, Or.inl rfl⟩
  · have Hq2 := Aside0.mk (show casing_table_keeps.f K (k : Int) d1 a0 a1 a2 a3 a4 b0 b1 b2 b3 b4 p0 rules = some b from hq2)
    clear hq2
    cases b
    · go_enter Try.func73, Try.ntmps73
      go_wp2_with (first | ((with_reducible refine gate_dst (N := 6) rfl ?_); refine box_event ?hg (N := 6) ?hd (cs := #[.int .i64 (k : Int), .int .i64 d1, .int .i64 a0, .int .i64 a1, .int .i64 a2, .int .i64 a3, .int .i64 a4, .int .i64 b0, .int .i64 b1, .int .i64 b2, .int .i64 b3, .int .i64 b4]) (t := 79) ?hr ?_; (case hd => rfl); (case hg => rfl); (case hr => first | (go_simp; done) | (go_simp; rfl)); intro gt hg w1 hbox hb; have n0_ := Aside0.mk hb; have n1_ := Aside0.mk hbox; clear hg hb hbox; have HB1 := n0_; have BKt1 := n1_; clear n0_ n1_) | ((with_reducible refine gate_dst (N := 7) rfl ?_); refine box_event ?hg (N := 7) ?hd (cs := #[.int .i64 (k : Int)]) (t := 3) ?hr ?_; (case hd => rfl); (case hg => rfl); (case hr => first | (go_simp; done) | (go_simp; rfl)); intro gk hg w2 hbox hb; have n0_ := Aside0.mk (HB1.out.trans (hb.mono HB1.out.size)); have n1_ := Aside0.mk hbox; have n2_ := Aside0.mk (blk_below BKt1.out hb); have n3_ := Aside0.mk (blk_below BKp0.out n0_.out); have n4_ := Aside0.mk (blk_below HS.out.box n0_.out); clear BKp0 HB1 BKt1 hg hb hbox; have HB := n0_; have BKk := n1_; have BKt := n2_; have BKp := n3_; have BKo := n4_; clear n0_ n1_ n2_ n3_ n4_; have hk1 : w2.cell? ⟨gk, 0, none⟩ = some (.int .i64 (k : Int)) := (blk_cell BKk.out 0).trans rfl; have hp10 : w2.cell? ⟨Bp, 0, none⟩ = some (.int .i64 p0) := (blk_cell BKp.out 0).trans rfl; have hp11 : w2.cell? ⟨Bp, 1, none⟩ = some (.slice A rules.length c) := (blk_cell BKp.out 1).trans rfl; have ho1 : w2.cell? ⟨Bo, 0, none⟩ = some v := (blk_cell BKo.out 0).trans rfl; have hz2_0 : w2.cell? ⟨gt, 0, none⟩ = some (.int .i64 (k : Int)) := (blk_cell BKt.out 0).trans rfl; have hz2_1 : w2.cell? ⟨gt, 1, none⟩ = some (.int .i64 d1) := (blk_cell BKt.out 1).trans rfl; have hz2_2 : w2.cell? ⟨gt, 2, none⟩ = some (.int .i64 a0) := (blk_cell BKt.out 2).trans rfl; have hz2_3 : w2.cell? ⟨gt, 3, none⟩ = some (.int .i64 a1) := (blk_cell BKt.out 3).trans rfl; have hz2_4 : w2.cell? ⟨gt, 4, none⟩ = some (.int .i64 a2) := (blk_cell BKt.out 4).trans rfl; have hz2_5 : w2.cell? ⟨gt, 5, none⟩ = some (.int .i64 a3) := (blk_cell BKt.out 5).trans rfl; have hz2_6 : w2.cell? ⟨gt, 6, none⟩ = some (.int .i64 a4) := (blk_cell BKt.out 6).trans rfl; have hz2_7 : w2.cell? ⟨gt, 7, none⟩ = some (.int .i64 b0) := (blk_cell BKt.out 7).trans rfl; have hz2_8 : w2.cell? ⟨gt, 8, none⟩ = some (.int .i64 b1) := (blk_cell BKt.out 8).trans rfl; have hz2_9 : w2.cell? ⟨gt, 9, none⟩ = some (.int .i64 b2) := (blk_cell BKt.out 9).trans rfl; have hz2_10 : w2.cell? ⟨gt, 10, none⟩ = some (.int .i64 b3) := (blk_cell BKt.out 10).trans rfl; have hz2_11 : w2.cell? ⟨gt, 11, none⟩ = some (.int .i64 b4) := (blk_cell BKt.out 11).trans rfl) | ((with_reducible refine gate_callee (f := 64) rfl ?_); refine goesL_ (some 14) rfl rfl Try.func64 (by kernel_rfl) rfl #[.agg #[.int .i64 (k : Int), .int .i64 d1, .int .i64 a0, .int .i64 a1, .int .i64 a2, .int .i64 a3, .int .i64 a4, .int .i64 b0, .int .i64 b1, .int .i64 b2, .int .i64 b3, .int .i64 b4]] rfl (by (try simp only [List.map_toArray, List.map_cons, List.map_nil]); first | done | rfl) ?_; (with_reducible refine (casing_table_isStandard.calls K (k : Int) d1 a0 a1 a2 a3 a4 b0 b1 b2 b3 b4 true _ Hq1.out).mono ?_); rintro e w3 ⟨rfl, hb⟩; refine ⟨_, rfl, ?_⟩; replace HB := Aside0.mk (HB.out.trans (hb.mono HB.out.size)); replace BKt := Aside0.mk (blk_below BKt.out hb); replace BKk := Aside0.mk (blk_below BKk.out hb); replace BKp := Aside0.mk (blk_below BKp.out hb); replace BKo := Aside0.mk (blk_below BKo.out hb); clear hb; have hk5 : w3.cell? ⟨gk, 0, none⟩ = some (.int .i64 (k : Int)) := (blk_cell BKk.out 0).trans rfl; have hp50 : w3.cell? ⟨Bp, 0, none⟩ = some (.int .i64 p0) := (blk_cell BKp.out 0).trans rfl; have hp51 : w3.cell? ⟨Bp, 1, none⟩ = some (.slice A rules.length c) := (blk_cell BKp.out 1).trans rfl; have ho5 : w3.cell? ⟨Bo, 0, none⟩ = some v := (blk_cell BKo.out 0).trans rfl; have hz6_0 : w3.cell? ⟨gt, 0, none⟩ = some (.int .i64 (k : Int)) := (blk_cell BKt.out 0).trans rfl; have hz6_1 : w3.cell? ⟨gt, 1, none⟩ = some (.int .i64 d1) := (blk_cell BKt.out 1).trans rfl; have hz6_2 : w3.cell? ⟨gt, 2, none⟩ = some (.int .i64 a0) := (blk_cell BKt.out 2).trans rfl; have hz6_3 : w3.cell? ⟨gt, 3, none⟩ = some (.int .i64 a1) := (blk_cell BKt.out 3).trans rfl; have hz6_4 : w3.cell? ⟨gt, 4, none⟩ = some (.int .i64 a2) := (blk_cell BKt.out 4).trans rfl; have hz6_5 : w3.cell? ⟨gt, 5, none⟩ = some (.int .i64 a3) := (blk_cell BKt.out 5).trans rfl; have hz6_6 : w3.cell? ⟨gt, 6, none⟩ = some (.int .i64 a4) := (blk_cell BKt.out 6).trans rfl; have hz6_7 : w3.cell? ⟨gt, 7, none⟩ = some (.int .i64 b0) := (blk_cell BKt.out 7).trans rfl; have hz6_8 : w3.cell? ⟨gt, 8, none⟩ = some (.int .i64 b1) := (blk_cell BKt.out 8).trans rfl; have hz6_9 : w3.cell? ⟨gt, 9, none⟩ = some (.int .i64 b2) := (blk_cell BKt.out 9).trans rfl; have hz6_10 : w3.cell? ⟨gt, 10, none⟩ = some (.int .i64 b3) := (blk_cell BKt.out 10).trans rfl; have hz6_11 : w3.cell? ⟨gt, 11, none⟩ = some (.int .i64 b4) := (blk_cell BKt.out 11).trans rfl) | (go_at_call 61; have hC86 := Kd.C_below HC.out (HS.out.below.trans (HB.out.mono HS.out.below.size)); (with_reducible refine (casing_table_keeps.calls K (k : Int) d1 a0 a1 a2 a3 a4 b0 b1 b2 b3 b4 p0 A c rules false _ hC86 Hc.out Hq2.out).mono ?_); rintro e w4 ⟨rfl, hb⟩; clear hC86; replace HB := Aside0.mk (HB.out.trans (hb.mono HB.out.size)); replace BKt := Aside0.mk (blk_below BKt.out hb); replace BKk := Aside0.mk (blk_below BKk.out hb); replace BKp := Aside0.mk (blk_below BKp.out hb); replace BKo := Aside0.mk (blk_below BKo.out hb); clear hb; have hk7 : w4.cell? ⟨gk, 0, none⟩ = some (.int .i64 (k : Int)) := (blk_cell BKk.out 0).trans rfl; have hp70 : w4.cell? ⟨Bp, 0, none⟩ = some (.int .i64 p0) := (blk_cell BKp.out 0).trans rfl; have hp71 : w4.cell? ⟨Bp, 1, none⟩ = some (.slice A rules.length c) := (blk_cell BKp.out 1).trans rfl; have ho7 : w4.cell? ⟨Bo, 0, none⟩ = some v := (blk_cell BKo.out 0).trans rfl; have hz8_0 : w4.cell? ⟨gt, 0, none⟩ = some (.int .i64 (k : Int)) := (blk_cell BKt.out 0).trans rfl; have hz8_1 : w4.cell? ⟨gt, 1, none⟩ = some (.int .i64 d1) := (blk_cell BKt.out 1).trans rfl; have hz8_2 : w4.cell? ⟨gt, 2, none⟩ = some (.int .i64 a0) := (blk_cell BKt.out 2).trans rfl; have hz8_3 : w4.cell? ⟨gt, 3, none⟩ = some (.int .i64 a1) := (blk_cell BKt.out 3).trans rfl; have hz8_4 : w4.cell? ⟨gt, 4, none⟩ = some (.int .i64 a2) := (blk_cell BKt.out 4).trans rfl; have hz8_5 : w4.cell? ⟨gt, 5, none⟩ = some (.int .i64 a3) := (blk_cell BKt.out 5).trans rfl; have hz8_6 : w4.cell? ⟨gt, 6, none⟩ = some (.int .i64 a4) := (blk_cell BKt.out 6).trans rfl; have hz8_7 : w4.cell? ⟨gt, 7, none⟩ = some (.int .i64 b0) := (blk_cell BKt.out 7).trans rfl; have hz8_8 : w4.cell? ⟨gt, 8, none⟩ = some (.int .i64 b1) := (blk_cell BKt.out 8).trans rfl; have hz8_9 : w4.cell? ⟨gt, 9, none⟩ = some (.int .i64 b2) := (blk_cell BKt.out 9).trans rfl; have hz8_10 : w4.cell? ⟨gt, 10, none⟩ = some (.int .i64 b3) := (blk_cell BKt.out 10).trans rfl; have hz8_11 : w4.cell? ⟨gt, 11, none⟩ = some (.int .i64 b4) := (blk_cell BKt.out 11).trans rfl))
      repeat (go_quiet (first | ((with_reducible refine gate_dst (N := 6) rfl ?_); refine box_event ?hg (N := 6) ?hd (cs := #[.int .i64 (k : Int), .int .i64 d1, .int .i64 a0, .int .i64 a1, .int .i64 a2, .int .i64 a3, .int .i64 a4, .int .i64 b0, .int .i64 b1, .int .i64 b2, .int .i64 b3, .int .i64 b4]) (t := 79) ?hr ?_; (case hd => rfl); (case hg => rfl); (case hr => first | (go_simp; done) | (go_simp; rfl)); intro gt hg w1 hbox hb; have n0_ := Aside0.mk hb; have n1_ := Aside0.mk hbox; clear hg hb hbox; have HB1 := n0_; have BKt1 := n1_; clear n0_ n1_) | ((with_reducible refine gate_dst (N := 7) rfl ?_); refine box_event ?hg (N := 7) ?hd (cs := #[.int .i64 (k : Int)]) (t := 3) ?hr ?_; (case hd => rfl); (case hg => rfl); (case hr => first | (go_simp; done) | (go_simp; rfl)); intro gk hg w2 hbox hb; have n0_ := Aside0.mk (HB1.out.trans (hb.mono HB1.out.size)); have n1_ := Aside0.mk hbox; have n2_ := Aside0.mk (blk_below BKt1.out hb); have n3_ := Aside0.mk (blk_below BKp0.out n0_.out); have n4_ := Aside0.mk (blk_below HS.out.box n0_.out); clear BKp0 HB1 BKt1 hg hb hbox; have HB := n0_; have BKk := n1_; have BKt := n2_; have BKp := n3_; have BKo := n4_; clear n0_ n1_ n2_ n3_ n4_; have hk1 : w2.cell? ⟨gk, 0, none⟩ = some (.int .i64 (k : Int)) := (blk_cell BKk.out 0).trans rfl; have hp10 : w2.cell? ⟨Bp, 0, none⟩ = some (.int .i64 p0) := (blk_cell BKp.out 0).trans rfl; have hp11 : w2.cell? ⟨Bp, 1, none⟩ = some (.slice A rules.length c) := (blk_cell BKp.out 1).trans rfl; have ho1 : w2.cell? ⟨Bo, 0, none⟩ = some v := (blk_cell BKo.out 0).trans rfl; have hz2_0 : w2.cell? ⟨gt, 0, none⟩ = some (.int .i64 (k : Int)) := (blk_cell BKt.out 0).trans rfl; have hz2_1 : w2.cell? ⟨gt, 1, none⟩ = some (.int .i64 d1) := (blk_cell BKt.out 1).trans rfl; have hz2_2 : w2.cell? ⟨gt, 2, none⟩ = some (.int .i64 a0) := (blk_cell BKt.out 2).trans rfl; have hz2_3 : w2.cell? ⟨gt, 3, none⟩ = some (.int .i64 a1) := (blk_cell BKt.out 3).trans rfl; have hz2_4 : w2.cell? ⟨gt, 4, none⟩ = some (.int .i64 a2) := (blk_cell BKt.out 4).trans rfl; have hz2_5 : w2.cell? ⟨gt, 5, none⟩ = some (.int .i64 a3) := (blk_cell BKt.out 5).trans rfl; have hz2_6 : w2.cell? ⟨gt, 6, none⟩ = some (.int .i64 a4) := (blk_cell BKt.out 6).trans rfl; have hz2_7 : w2.cell? ⟨gt, 7, none⟩ = some (.int .i64 b0) := (blk_cell BKt.out 7).trans rfl; have hz2_8 : w2.cell? ⟨gt, 8, none⟩ = some (.int .i64 b1) := (blk_cell BKt.out 8).trans rfl; have hz2_9 : w2.cell? ⟨gt, 9, none⟩ = some (.int .i64 b2) := (blk_cell BKt.out 9).trans rfl; have hz2_10 : w2.cell? ⟨gt, 10, none⟩ = some (.int .i64 b3) := (blk_cell BKt.out 10).trans rfl; have hz2_11 : w2.cell? ⟨gt, 11, none⟩ = some (.int .i64 b4) := (blk_cell BKt.out 11).trans rfl) | ((with_reducible refine gate_callee (f := 64) rfl ?_); refine goesL_ (some 14) rfl rfl Try.func64 (by kernel_rfl) rfl #[.agg #[.int .i64 (k : Int), .int .i64 d1, .int .i64 a0, .int .i64 a1, .int .i64 a2, .int .i64 a3, .int .i64 a4, .int .i64 b0, .int .i64 b1, .int .i64 b2, .int .i64 b3, .int .i64 b4]] rfl (by (try simp only [List.map_toArray, List.map_cons, List.map_nil]); first | done | rfl) ?_; (with_reducible refine (casing_table_isStandard.calls K (k : Int) d1 a0 a1 a2 a3 a4 b0 b1 b2 b3 b4 true _ Hq1.out).mono ?_); rintro e w3 ⟨rfl, hb⟩; refine ⟨_, rfl, ?_⟩; replace HB := Aside0.mk (HB.out.trans (hb.mono HB.out.size)); replace BKt := Aside0.mk (blk_below BKt.out hb); replace BKk := Aside0.mk (blk_below BKk.out hb); replace BKp := Aside0.mk (blk_below BKp.out hb); replace BKo := Aside0.mk (blk_below BKo.out hb); clear hb; have hk5 : w3.cell? ⟨gk, 0, none⟩ = some (.int .i64 (k : Int)) := (blk_cell BKk.out 0).trans rfl; have hp50 : w3.cell? ⟨Bp, 0, none⟩ = some (.int .i64 p0) := (blk_cell BKp.out 0).trans rfl; have hp51 : w3.cell? ⟨Bp, 1, none⟩ = some (.slice A rules.length c) := (blk_cell BKp.out 1).trans rfl; have ho5 : w3.cell? ⟨Bo, 0, none⟩ = some v := (blk_cell BKo.out 0).trans rfl; have hz6_0 : w3.cell? ⟨gt, 0, none⟩ = some (.int .i64 (k : Int)) := (blk_cell BKt.out 0).trans rfl; have hz6_1 : w3.cell? ⟨gt, 1, none⟩ = some (.int .i64 d1) := (blk_cell BKt.out 1).trans rfl; have hz6_2 : w3.cell? ⟨gt, 2, none⟩ = some (.int .i64 a0) := (blk_cell BKt.out 2).trans rfl; have hz6_3 : w3.cell? ⟨gt, 3, none⟩ = some (.int .i64 a1) := (blk_cell BKt.out 3).trans rfl; have hz6_4 : w3.cell? ⟨gt, 4, none⟩ = some (.int .i64 a2) := (blk_cell BKt.out 4).trans rfl; have hz6_5 : w3.cell? ⟨gt, 5, none⟩ = some (.int .i64 a3) := (blk_cell BKt.out 5).trans rfl; have hz6_6 : w3.cell? ⟨gt, 6, none⟩ = some (.int .i64 a4) := (blk_cell BKt.out 6).trans rfl; have hz6_7 : w3.cell? ⟨gt, 7, none⟩ = some (.int .i64 b0) := (blk_cell BKt.out 7).trans rfl; have hz6_8 : w3.cell? ⟨gt, 8, none⟩ = some (.int .i64 b1) := (blk_cell BKt.out 8).trans rfl; have hz6_9 : w3.cell? ⟨gt, 9, none⟩ = some (.int .i64 b2) := (blk_cell BKt.out 9).trans rfl; have hz6_10 : w3.cell? ⟨gt, 10, none⟩ = some (.int .i64 b3) := (blk_cell BKt.out 10).trans rfl; have hz6_11 : w3.cell? ⟨gt, 11, none⟩ = some (.int .i64 b4) := (blk_cell BKt.out 11).trans rfl) | (go_at_call 61; have hC86 := Kd.C_below HC.out (HS.out.below.trans (HB.out.mono HS.out.below.size)); (with_reducible refine (casing_table_keeps.calls K (k : Int) d1 a0 a1 a2 a3 a4 b0 b1 b2 b3 b4 p0 A c rules false _ hC86 Hc.out Hq2.out).mono ?_); rintro e w4 ⟨rfl, hb⟩; clear hC86; replace HB := Aside0.mk (HB.out.trans (hb.mono HB.out.size)); replace BKt := Aside0.mk (blk_below BKt.out hb); replace BKk := Aside0.mk (blk_below BKk.out hb); replace BKp := Aside0.mk (blk_below BKp.out hb); replace BKo := Aside0.mk (blk_below BKo.out hb); clear hb; have hk7 : w4.cell? ⟨gk, 0, none⟩ = some (.int .i64 (k : Int)) := (blk_cell BKk.out 0).trans rfl; have hp70 : w4.cell? ⟨Bp, 0, none⟩ = some (.int .i64 p0) := (blk_cell BKp.out 0).trans rfl; have hp71 : w4.cell? ⟨Bp, 1, none⟩ = some (.slice A rules.length c) := (blk_cell BKp.out 1).trans rfl; have ho7 : w4.cell? ⟨Bo, 0, none⟩ = some v := (blk_cell BKo.out 0).trans rfl; have hz8_0 : w4.cell? ⟨gt, 0, none⟩ = some (.int .i64 (k : Int)) := (blk_cell BKt.out 0).trans rfl; have hz8_1 : w4.cell? ⟨gt, 1, none⟩ = some (.int .i64 d1) := (blk_cell BKt.out 1).trans rfl; have hz8_2 : w4.cell? ⟨gt, 2, none⟩ = some (.int .i64 a0) := (blk_cell BKt.out 2).trans rfl; have hz8_3 : w4.cell? ⟨gt, 3, none⟩ = some (.int .i64 a1) := (blk_cell BKt.out 3).trans rfl; have hz8_4 : w4.cell? ⟨gt, 4, none⟩ = some (.int .i64 a2) := (blk_cell BKt.out 4).trans rfl; have hz8_5 : w4.cell? ⟨gt, 5, none⟩ = some (.int .i64 a3) := (blk_cell BKt.out 5).trans rfl; have hz8_6 : w4.cell? ⟨gt, 6, none⟩ = some (.int .i64 a4) := (blk_cell BKt.out 6).trans rfl; have hz8_7 : w4.cell? ⟨gt, 7, none⟩ = some (.int .i64 b0) := (blk_cell BKt.out 7).trans rfl; have hz8_8 : w4.cell? ⟨gt, 8, none⟩ = some (.int .i64 b1) := (blk_cell BKt.out 8).trans rfl; have hz8_9 : w4.cell? ⟨gt, 9, none⟩ = some (.int .i64 b2) := (blk_cell BKt.out 9).trans rfl; have hz8_10 : w4.cell? ⟨gt, 10, none⟩ = some (.int .i64 b3) := (blk_cell BKt.out 10).trans rfl; have hz8_11 : w4.cell? ⟨gt, 11, none⟩ = some (.int .i64 b4) := (blk_cell BKt.out 11).trans rfl)))
      go_end0
      exact ⟨rfl, v, by simpa using HS.out.move HB.out, KeepOf.of_below HB.out, Or.inl rfl⟩
    · go_enter Try.func73, Try.ntmps73
      go_wp2_with (first | ((with_reducible refine gate_dst (N := 6) rfl ?_); refine box_event ?hg (N := 6) ?hd (cs := #[.int .i64 (k : Int), .int .i64 d1, .int .i64 a0, .int .i64 a1, .int .i64 a2, .int .i64 a3, .int .i64 a4, .int .i64 b0, .int .i64 b1, .int .i64 b2, .int .i64 b3, .int .i64 b4]) (t := 79) ?hr ?_; (case hd => rfl); (case hg => rfl); (case hr => first | (go_simp; done) | (go_simp; rfl)); intro gt hg w1 hbox hb; have n0_ := Aside0.mk hb; have n1_ := Aside0.mk hbox; clear hg hb hbox; have HB1 := n0_; have BKt1 := n1_; clear n0_ n1_) | ((with_reducible refine gate_dst (N := 7) rfl ?_); refine box_event ?hg (N := 7) ?hd (cs := #[.int .i64 (k : Int)]) (t := 3) ?hr ?_; (case hd => rfl); (case hg => rfl); (case hr => first | (go_simp; done) | (go_simp; rfl)); intro gk hg w2 hbox hb; have n0_ := Aside0.mk (HB1.out.trans (hb.mono HB1.out.size)); have n1_ := Aside0.mk hbox; have n2_ := Aside0.mk (blk_below BKt1.out hb); have n3_ := Aside0.mk (blk_below BKp0.out n0_.out); have n4_ := Aside0.mk (blk_below HS.out.box n0_.out); clear BKp0 HB1 BKt1 hg hb hbox; have HB := n0_; have BKk := n1_; have BKt := n2_; have BKp := n3_; have BKo := n4_; clear n0_ n1_ n2_ n3_ n4_; have hk1 : w2.cell? ⟨gk, 0, none⟩ = some (.int .i64 (k : Int)) := (blk_cell BKk.out 0).trans rfl; have hp10 : w2.cell? ⟨Bp, 0, none⟩ = some (.int .i64 p0) := (blk_cell BKp.out 0).trans rfl; have hp11 : w2.cell? ⟨Bp, 1, none⟩ = some (.slice A rules.length c) := (blk_cell BKp.out 1).trans rfl; have ho1 : w2.cell? ⟨Bo, 0, none⟩ = some v := (blk_cell BKo.out 0).trans rfl; have hz2_0 : w2.cell? ⟨gt, 0, none⟩ = some (.int .i64 (k : Int)) := (blk_cell BKt.out 0).trans rfl; have hz2_1 : w2.cell? ⟨gt, 1, none⟩ = some (.int .i64 d1) := (blk_cell BKt.out 1).trans rfl; have hz2_2 : w2.cell? ⟨gt, 2, none⟩ = some (.int .i64 a0) := (blk_cell BKt.out 2).trans rfl; have hz2_3 : w2.cell? ⟨gt, 3, none⟩ = some (.int .i64 a1) := (blk_cell BKt.out 3).trans rfl; have hz2_4 : w2.cell? ⟨gt, 4, none⟩ = some (.int .i64 a2) := (blk_cell BKt.out 4).trans rfl; have hz2_5 : w2.cell? ⟨gt, 5, none⟩ = some (.int .i64 a3) := (blk_cell BKt.out 5).trans rfl; have hz2_6 : w2.cell? ⟨gt, 6, none⟩ = some (.int .i64 a4) := (blk_cell BKt.out 6).trans rfl; have hz2_7 : w2.cell? ⟨gt, 7, none⟩ = some (.int .i64 b0) := (blk_cell BKt.out 7).trans rfl; have hz2_8 : w2.cell? ⟨gt, 8, none⟩ = some (.int .i64 b1) := (blk_cell BKt.out 8).trans rfl; have hz2_9 : w2.cell? ⟨gt, 9, none⟩ = some (.int .i64 b2) := (blk_cell BKt.out 9).trans rfl; have hz2_10 : w2.cell? ⟨gt, 10, none⟩ = some (.int .i64 b3) := (blk_cell BKt.out 10).trans rfl; have hz2_11 : w2.cell? ⟨gt, 11, none⟩ = some (.int .i64 b4) := (blk_cell BKt.out 11).trans rfl) | ((with_reducible refine gate_callee (f := 64) rfl ?_); refine goesL_ (some 14) rfl rfl Try.func64 (by kernel_rfl) rfl #[.agg #[.int .i64 (k : Int), .int .i64 d1, .int .i64 a0, .int .i64 a1, .int .i64 a2, .int .i64 a3, .int .i64 a4, .int .i64 b0, .int .i64 b1, .int .i64 b2, .int .i64 b3, .int .i64 b4]] rfl (by (try simp only [List.map_toArray, List.map_cons, List.map_nil]); first | done | rfl) ?_; (with_reducible refine (casing_table_isStandard.calls K (k : Int) d1 a0 a1 a2 a3 a4 b0 b1 b2 b3 b4 true _ Hq1.out).mono ?_); rintro e w3 ⟨rfl, hb⟩; refine ⟨_, rfl, ?_⟩; replace HB := Aside0.mk (HB.out.trans (hb.mono HB.out.size)); replace BKt := Aside0.mk (blk_below BKt.out hb); replace BKk := Aside0.mk (blk_below BKk.out hb); replace BKp := Aside0.mk (blk_below BKp.out hb); replace BKo := Aside0.mk (blk_below BKo.out hb); clear hb; have hk9 : w3.cell? ⟨gk, 0, none⟩ = some (.int .i64 (k : Int)) := (blk_cell BKk.out 0).trans rfl; have hp90 : w3.cell? ⟨Bp, 0, none⟩ = some (.int .i64 p0) := (blk_cell BKp.out 0).trans rfl; have hp91 : w3.cell? ⟨Bp, 1, none⟩ = some (.slice A rules.length c) := (blk_cell BKp.out 1).trans rfl; have ho9 : w3.cell? ⟨Bo, 0, none⟩ = some v := (blk_cell BKo.out 0).trans rfl; have hz10_0 : w3.cell? ⟨gt, 0, none⟩ = some (.int .i64 (k : Int)) := (blk_cell BKt.out 0).trans rfl; have hz10_1 : w3.cell? ⟨gt, 1, none⟩ = some (.int .i64 d1) := (blk_cell BKt.out 1).trans rfl; have hz10_2 : w3.cell? ⟨gt, 2, none⟩ = some (.int .i64 a0) := (blk_cell BKt.out 2).trans rfl; have hz10_3 : w3.cell? ⟨gt, 3, none⟩ = some (.int .i64 a1) := (blk_cell BKt.out 3).trans rfl; have hz10_4 : w3.cell? ⟨gt, 4, none⟩ = some (.int .i64 a2) := (blk_cell BKt.out 4).trans rfl; have hz10_5 : w3.cell? ⟨gt, 5, none⟩ = some (.int .i64 a3) := (blk_cell BKt.out 5).trans rfl; have hz10_6 : w3.cell? ⟨gt, 6, none⟩ = some (.int .i64 a4) := (blk_cell BKt.out 6).trans rfl; have hz10_7 : w3.cell? ⟨gt, 7, none⟩ = some (.int .i64 b0) := (blk_cell BKt.out 7).trans rfl; have hz10_8 : w3.cell? ⟨gt, 8, none⟩ = some (.int .i64 b1) := (blk_cell BKt.out 8).trans rfl; have hz10_9 : w3.cell? ⟨gt, 9, none⟩ = some (.int .i64 b2) := (blk_cell BKt.out 9).trans rfl; have hz10_10 : w3.cell? ⟨gt, 10, none⟩ = some (.int .i64 b3) := (blk_cell BKt.out 10).trans rfl; have hz10_11 : w3.cell? ⟨gt, 11, none⟩ = some (.int .i64 b4) := (blk_cell BKt.out 11).trans rfl) | (go_at_call 61; have hC86 := Kd.C_below HC.out (HS.out.below.trans (HB.out.mono HS.out.below.size)); (with_reducible refine (casing_table_keeps.calls K (k : Int) d1 a0 a1 a2 a3 a4 b0 b1 b2 b3 b4 p0 A c rules true _ hC86 Hc.out Hq2.out).mono ?_); rintro e w4 ⟨rfl, hb⟩; clear hC86; replace HB := Aside0.mk (HB.out.trans (hb.mono HB.out.size)); replace BKt := Aside0.mk (blk_below BKt.out hb); replace BKk := Aside0.mk (blk_below BKk.out hb); replace BKp := Aside0.mk (blk_below BKp.out hb); replace BKo := Aside0.mk (blk_below BKo.out hb); clear hb; have hk11 : w4.cell? ⟨gk, 0, none⟩ = some (.int .i64 (k : Int)) := (blk_cell BKk.out 0).trans rfl; have hp110 : w4.cell? ⟨Bp, 0, none⟩ = some (.int .i64 p0) := (blk_cell BKp.out 0).trans rfl; have hp111 : w4.cell? ⟨Bp, 1, none⟩ = some (.slice A rules.length c) := (blk_cell BKp.out 1).trans rfl; have ho11 : w4.cell? ⟨Bo, 0, none⟩ = some v := (blk_cell BKo.out 0).trans rfl; have hz12_0 : w4.cell? ⟨gt, 0, none⟩ = some (.int .i64 (k : Int)) := (blk_cell BKt.out 0).trans rfl; have hz12_1 : w4.cell? ⟨gt, 1, none⟩ = some (.int .i64 d1) := (blk_cell BKt.out 1).trans rfl; have hz12_2 : w4.cell? ⟨gt, 2, none⟩ = some (.int .i64 a0) := (blk_cell BKt.out 2).trans rfl; have hz12_3 : w4.cell? ⟨gt, 3, none⟩ = some (.int .i64 a1) := (blk_cell BKt.out 3).trans rfl; have hz12_4 : w4.cell? ⟨gt, 4, none⟩ = some (.int .i64 a2) := (blk_cell BKt.out 4).trans rfl; have hz12_5 : w4.cell? ⟨gt, 5, none⟩ = some (.int .i64 a3) := (blk_cell BKt.out 5).trans rfl; have hz12_6 : w4.cell? ⟨gt, 6, none⟩ = some (.int .i64 a4) := (blk_cell BKt.out 6).trans rfl; have hz12_7 : w4.cell? ⟨gt, 7, none⟩ = some (.int .i64 b0) := (blk_cell BKt.out 7).trans rfl; have hz12_8 : w4.cell? ⟨gt, 8, none⟩ = some (.int .i64 b1) := (blk_cell BKt.out 8).trans rfl; have hz12_9 : w4.cell? ⟨gt, 9, none⟩ = some (.int .i64 b2) := (blk_cell BKt.out 9).trans rfl; have hz12_10 : w4.cell? ⟨gt, 10, none⟩ = some (.int .i64 b3) := (blk_cell BKt.out 10).trans rfl; have hz12_11 : w4.cell? ⟨gt, 11, none⟩ = some (.int .i64 b4) := (blk_cell BKt.out 11).trans rfl) | ((with_reducible refine gate_builtin (b := .append) (xs := #[.tmp 20, .tmp 22]) rfl ?_); at_builtin; refine Kd.R_append k79 (w0 := w0) w0.heap.size rfl (.tmp 20) (.tmp 22) 74 79 zTab 96 rfl Try.underlying74 info98T (by kernel_rfl) (by decide) (by omega) v xs ⟨(k : Int), d1, ⟨⟨a0, a1, a2, a3, a4⟩, ⟨b0, b1, b2, b3, b4⟩⟩⟩ _ (fun _ => True) (fun _ => False) rfl rfl (k79_mkM _ _ _ _) (fun _ hk => hk.elim) (fun _ _ => trivial) (Kd.R_below HS.out.row HB.out) (HS.out.below.trans (HB.out.mono HS.out.below.size)) (Nat.le_trans HS.out.below.size HB.out.size) (by have := HN.out; omega) ?_; intro v1 w5 ho hb hg hat; have n0_ := Aside0.mk ho; have n1_ := Aside0.mk hb; have n2_ := Aside0.mk hg; have n3_ := Aside0.mk hat; have n4_ := Aside0.mk ((hg.block Bo (blk_lt BKo.out) (fun e => Hne.out e)).trans BKo.out); clear ho hb hg hat; have HO := n0_; have HB5 := n1_; have HG5 := n2_; have HAT := n3_; have BKo5 := n4_; clear n0_ n1_ n2_ n3_ n4_; have hz5 : w5.cell? ⟨Bo, 0, none⟩ = some v := (blk_cell BKo5.out 0).trans rfl; have hf5 := blk_frozen BKo5.out 0; obtain ⟨A5, c5, e5⟩ := Kd.R_slice HO.out; subst e5))
      repeat (go_quiet (first | ((with_reducible refine gate_dst (N := 6) rfl ?_); refine box_event ?hg (N := 6) ?hd (cs := #[.int .i64 (k : Int), .int .i64 d1, .int .i64 a0, .int .i64 a1, .int .i64 a2, .int .i64 a3, .int .i64 a4, .int .i64 b0, .int .i64 b1, .int .i64 b2, .int .i64 b3, .int .i64 b4]) (t := 79) ?hr ?_; (case hd => rfl); (case hg => rfl); (case hr => first | (go_simp; done) | (go_simp; rfl)); intro gt hg w1 hbox hb; have n0_ := Aside0.mk hb; have n1_ := Aside0.mk hbox; clear hg hb hbox; have HB1 := n0_; have BKt1 := n1_; clear n0_ n1_) | ((with_reducible refine gate_dst (N := 7) rfl ?_); refine box_event ?hg (N := 7) ?hd (cs := #[.int .i64 (k : Int)]) (t := 3) ?hr ?_; (case hd => rfl); (case hg => rfl); (case hr => first | (go_simp; done) | (go_simp; rfl)); intro gk hg w2 hbox hb; have n0_ := Aside0.mk (HB1.out.trans (hb.mono HB1.out.size)); have n1_ := Aside0.mk hbox; have n2_ := Aside0.mk (blk_below BKt1.out hb); have n3_ := Aside0.mk (blk_below BKp0.out n0_.out); have n4_ := Aside0.mk (blk_below HS.out.box n0_.out); clear BKp0 HB1 BKt1 hg hb hbox; have HB := n0_; have BKk := n1_; have BKt := n2_; have BKp := n3_; have BKo := n4_; clear n0_ n1_ n2_ n3_ n4_; have hk1 : w2.cell? ⟨gk, 0, none⟩ = some (.int .i64 (k : Int)) := (blk_cell BKk.out 0).trans rfl; have hp10 : w2.cell? ⟨Bp, 0, none⟩ = some (.int .i64 p0) := (blk_cell BKp.out 0).trans rfl; have hp11 : w2.cell? ⟨Bp, 1, none⟩ = some (.slice A rules.length c) := (blk_cell BKp.out 1).trans rfl; have ho1 : w2.cell? ⟨Bo, 0, none⟩ = some v := (blk_cell BKo.out 0).trans rfl; have hz2_0 : w2.cell? ⟨gt, 0, none⟩ = some (.int .i64 (k : Int)) := (blk_cell BKt.out 0).trans rfl; have hz2_1 : w2.cell? ⟨gt, 1, none⟩ = some (.int .i64 d1) := (blk_cell BKt.out 1).trans rfl; have hz2_2 : w2.cell? ⟨gt, 2, none⟩ = some (.int .i64 a0) := (blk_cell BKt.out 2).trans rfl; have hz2_3 : w2.cell? ⟨gt, 3, none⟩ = some (.int .i64 a1) := (blk_cell BKt.out 3).trans rfl; have hz2_4 : w2.cell? ⟨gt, 4, none⟩ = some (.int .i64 a2) := (blk_cell BKt.out 4).trans rfl; have hz2_5 : w2.cell? ⟨gt, 5, none⟩ = some (.int .i64 a3) := (blk_cell BKt.out 5).trans rfl; have hz2_6 : w2.cell? ⟨gt, 6, none⟩ = some (.int .i64 a4) := (blk_cell BKt.out 6).trans rfl; have hz2_7 : w2.cell? ⟨gt, 7, none⟩ = some (.int .i64 b0) := (blk_cell BKt.out 7).trans rfl; have hz2_8 : w2.cell? ⟨gt, 8, none⟩ = some (.int .i64 b1) := (blk_cell BKt.out 8).trans rfl; have hz2_9 : w2.cell? ⟨gt, 9, none⟩ = some (.int .i64 b2) := (blk_cell BKt.out 9).trans rfl; have hz2_10 : w2.cell? ⟨gt, 10, none⟩ = some (.int .i64 b3) := (blk_cell BKt.out 10).trans rfl; have hz2_11 : w2.cell? ⟨gt, 11, none⟩ = some (.int .i64 b4) := (blk_cell BKt.out 11).trans rfl) | ((with_reducible refine gate_callee (f := 64) rfl ?_); refine goesL_ (some 14) rfl rfl Try.func64 (by kernel_rfl) rfl #[.agg #[.int .i64 (k : Int), .int .i64 d1, .int .i64 a0, .int .i64 a1, .int .i64 a2, .int .i64 a3, .int .i64 a4, .int .i64 b0, .int .i64 b1, .int .i64 b2, .int .i64 b3, .int .i64 b4]] rfl (by (try simp only [List.map_toArray, List.map_cons, List.map_nil]); first | done | rfl) ?_; (with_reducible refine (casing_table_isStandard.calls K (k : Int) d1 a0 a1 a2 a3 a4 b0 b1 b2 b3 b4 true _ Hq1.out).mono ?_); rintro e w3 ⟨rfl, hb⟩; refine ⟨_, rfl, ?_⟩; replace HB := Aside0.mk (HB.out.trans (hb.mono HB.out.size)); replace BKt := Aside0.mk (blk_below BKt.out hb); replace BKk := Aside0.mk (blk_below BKk.out hb); replace BKp := Aside0.mk (blk_below BKp.out hb); replace BKo := Aside0.mk (blk_below BKo.out hb); clear hb; have hk9 : w3.cell? ⟨gk, 0, none⟩ = some (.int .i64 (k : Int)) := (blk_cell BKk.out 0).trans rfl; have hp90 : w3.cell? ⟨Bp, 0, none⟩ = some (.int .i64 p0) := (blk_cell BKp.out 0).trans rfl; have hp91 : w3.cell? ⟨Bp, 1, none⟩ = some (.slice A rules.length c) := (blk_cell BKp.out 1).trans rfl; have ho9 : w3.cell? ⟨Bo, 0, none⟩ = some v := (blk_cell BKo.out 0).trans rfl; have hz10_0 : w3.cell? ⟨gt, 0, none⟩ = some (.int .i64 (k : Int)) := (blk_cell BKt.out 0).trans rfl; have hz10_1 : w3.cell? ⟨gt, 1, none⟩ = some (.int .i64 d1) := (blk_cell BKt.out 1).trans rfl; have hz10_2 : w3.cell? ⟨gt, 2, none⟩ = some (.int .i64 a0) := (blk_cell BKt.out 2).trans rfl; have hz10_3 : w3.cell? ⟨gt, 3, none⟩ = some (.int .i64 a1) := (blk_cell BKt.out 3).trans rfl; have hz10_4 : w3.cell? ⟨gt, 4, none⟩ = some (.int .i64 a2) := (blk_cell BKt.out 4).trans rfl; have hz10_5 : w3.cell? ⟨gt, 5, none⟩ = some (.int .i64 a3) := (blk_cell BKt.out 5).trans rfl; have hz10_6 : w3.cell? ⟨gt, 6, none⟩ = some (.int .i64 a4) := (blk_cell BKt.out 6).trans rfl; have hz10_7 : w3.cell? ⟨gt, 7, none⟩ = some (.int .i64 b0) := (blk_cell BKt.out 7).trans rfl; have hz10_8 : w3.cell? ⟨gt, 8, none⟩ = some (.int .i64 b1) := (blk_cell BKt.out 8).trans rfl; have hz10_9 : w3.cell? ⟨gt, 9, none⟩ = some (.int .i64 b2) := (blk_cell BKt.out 9).trans rfl; have hz10_10 : w3.cell? ⟨gt, 10, none⟩ = some (.int .i64 b3) := (blk_cell BKt.out 10).trans rfl; have hz10_11 : w3.cell? ⟨gt, 11, none⟩ = some (.int .i64 b4) := (blk_cell BKt.out 11).trans rfl) | (go_at_call 61; have hC86 := Kd.C_below HC.out (HS.out.below.trans (HB.out.mono HS.out.below.size)); (with_reducible refine (casing_table_keeps.calls K (k : Int) d1 a0 a1 a2 a3 a4 b0 b1 b2 b3 b4 p0 A c rules true _ hC86 Hc.out Hq2.out).mono ?_); rintro e w4 ⟨rfl, hb⟩; clear hC86; replace HB := Aside0.mk (HB.out.trans (hb.mono HB.out.size)); replace BKt := Aside0.mk (blk_below BKt.out hb); replace BKk := Aside0.mk (blk_below BKk.out hb); replace BKp := Aside0.mk (blk_below BKp.out hb); replace BKo := Aside0.mk (blk_below BKo.out hb); clear hb; have hk11 : w4.cell? ⟨gk, 0, none⟩ = some (.int .i64 (k : Int)) := (blk_cell BKk.out 0).trans rfl; have hp110 : w4.cell? ⟨Bp, 0, none⟩ = some (.int .i64 p0) := (blk_cell BKp.out 0).trans rfl; have hp111 : w4.cell? ⟨Bp, 1, none⟩ = some (.slice A rules.length c) := (blk_cell BKp.out 1).trans rfl; have ho11 : w4.cell? ⟨Bo, 0, none⟩ = some v := (blk_cell BKo.out 0).trans rfl; have hz12_0 : w4.cell? ⟨gt, 0, none⟩ = some (.int .i64 (k : Int)) := (blk_cell BKt.out 0).trans rfl; have hz12_1 : w4.cell? ⟨gt, 1, none⟩ = some (.int .i64 d1) := (blk_cell BKt.out 1).trans rfl; have hz12_2 : w4.cell? ⟨gt, 2, none⟩ = some (.int .i64 a0) := (blk_cell BKt.out 2).trans rfl; have hz12_3 : w4.cell? ⟨gt, 3, none⟩ = some (.int .i64 a1) := (blk_cell BKt.out 3).trans rfl; have hz12_4 : w4.cell? ⟨gt, 4, none⟩ = some (.int .i64 a2) := (blk_cell BKt.out 4).trans rfl; have hz12_5 : w4.cell? ⟨gt, 5, none⟩ = some (.int .i64 a3) := (blk_cell BKt.out 5).trans rfl; have hz12_6 : w4.cell? ⟨gt, 6, none⟩ = some (.int .i64 a4) := (blk_cell BKt.out 6).trans rfl; have hz12_7 : w4.cell? ⟨gt, 7, none⟩ = some (.int .i64 b0) := (blk_cell BKt.out 7).trans rfl; have hz12_8 : w4.cell? ⟨gt, 8, none⟩ = some (.int .i64 b1) := (blk_cell BKt.out 8).trans rfl; have hz12_9 : w4.cell? ⟨gt, 9, none⟩ = some (.int .i64 b2) := (blk_cell BKt.out 9).trans rfl; have hz12_10 : w4.cell? ⟨gt, 10, none⟩ = some (.int .i64 b3) := (blk_cell BKt.out 10).trans rfl; have hz12_11 : w4.cell? ⟨gt, 11, none⟩ = some (.int .i64 b4) := (blk_cell BKt.out 11).trans rfl) | ((with_reducible refine gate_builtin (b := .append) (xs := #[.tmp 20, .tmp 22]) rfl ?_); at_builtin; refine Kd.R_append k79 (w0 := w0) w0.heap.size rfl (.tmp 20) (.tmp 22) 74 79 zTab 96 rfl Try.underlying74 info98T (by kernel_rfl) (by decide) (by omega) v xs ⟨(k : Int), d1, ⟨⟨a0, a1, a2, a3, a4⟩, ⟨b0, b1, b2, b3, b4⟩⟩⟩ _ (fun _ => True) (fun _ => False) rfl rfl (k79_mkM _ _ _ _) (fun _ hk => hk.elim) (fun _ _ => trivial) (Kd.R_below HS.out.row HB.out) (HS.out.below.trans (HB.out.mono HS.out.below.size)) (Nat.le_trans HS.out.below.size HB.out.size) (by have := HN.out; omega) ?_; intro v1 w5 ho hb hg hat; have n0_ := Aside0.mk ho; have n1_ := Aside0.mk hb; have n2_ := Aside0.mk hg; have n3_ := Aside0.mk hat; have n4_ := Aside0.mk ((hg.block Bo (blk_lt BKo.out) (fun e => Hne.out e)).trans BKo.out); clear ho hb hg hat; have HO := n0_; have HB5 := n1_; have HG5 := n2_; have HAT := n3_; have BKo5 := n4_; clear n0_ n1_ n2_ n3_ n4_; have hz5 : w5.cell? ⟨Bo, 0, none⟩ = some v := (blk_cell BKo5.out 0).trans rfl; have hf5 := blk_frozen BKo5.out 0; obtain ⟨A5, c5, e5⟩ := Kd.R_slice HO.out; subst e5)))
      go_end0
      have HO' : Kd.R k79 79 w5 w0.heap.size (fun _ => True) (.slice A5 (xs.length + 1) c5) (xs ++ [(⟨(k : Int), d1, ⟨⟨a0, a1, a2, a3, a4⟩, ⟨b0, b1, b2, b3, b4⟩⟩⟩ : S79)]) := by have h := HO.out; rw [List.length_append] at h; exact h
      have hg6 := grownBy_setCell' w5 Bo (Value.slice A5 (xs.length + 1) c5)
      refine ⟨rfl, .slice A5 (xs.length + 1) c5, ⟨?_, ?_, ?_⟩, ?_, ?_⟩
      rotate_left
      · exact Kd.R_set HO' BKo5.out (by decide) 0 _
      · exact below_set HB5.out hBo0
      · exact ⟨hg6.os.trans (HG5.out.os.trans HB.out.os), hg6.tape.trans (HG5.out.tape.trans HB.out.tape), hg6.output.trans (HG5.out.output.trans HB.out.output), Nat.le_trans HB.out.size (Nat.le_trans HG5.out.size hg6.size), fun i hi h1 h2 =>
          (hg6.block i (Nat.lt_of_lt_of_le hi (Nat.le_trans HB.out.size HG5.out.size)) (fun e => h1 (by cases e; rfl))).trans ((HG5.out.block i (Nat.lt_of_lt_of_le hi HB.out.size) h2).trans (HB.out.block i hi))⟩
      · have h := HAT.out
        rw [List.length_append] at h
        rcases h with h | ⟨b, h, hb⟩
        · exact Or.inl h
        · exact Or.inr ⟨b, h, Nat.le_trans HB.out.size hb⟩
      · exact (Boxed.set _ (show Boxed w5 Bo 74 v from BKo5.out))
end Go.Proofs.Ytmcihijobilcgaa.PAll
end
section
namespace Go.Proofs.Ytmcihijobilcgaa.PAll
open Go.RowKit Go.Proofs.YtmcihijobilcgaaW.PrintWords Go.Proofs.YtmcihijobilcgaaW.PrintLast Go.Proofs.YtmcihijobilcgaaW.PrintMore
attribute [local go_sem] Oper.semAt_some
theorem catM_append {α β : Type} (f : α → Option (List β)) : ∀ (a b : List α) (ys zs : List β), catM f a = some ys → catM f b = some zs → catM f (a ++ b) = some (ys ++ zs)
  | [], b, ys, zs, h1, h2 => by simp [catM] at h1; subst h1; simpa using h2
  | x :: a, b, ys, zs, h1, h2 => by
    simp only [catM, Option.bind_eq_some_iff] at h1
    obtain ⟨y, hy, r, hr, e⟩ := h1
    obtain rfl := Option.some.inj e
    simp only [List.cons_append, catM, hy, catM_append f a b r zs hr h2, Option.bind_some, List.append_assoc]
theorem catM_mem {α β : Type} (f : α → Option (List β)) : ∀ (a : List α) (ys : List β), catM f a = some ys → ∀ x ∈ a, ∃ y, f x = some y
  | x :: a, ys, h, z, hz => by
    simp only [catM, Option.bind_eq_some_iff] at h
    obtain ⟨y, hy, r, hr, e⟩ := h
    rcases List.mem_cons.1 hz with rfl | hz
    · exact ⟨y, hy⟩
    · exact catM_mem f a r hr z hz
theorem catM_len {α β : Type} (f : α → Option (List β)) (m : Nat) (hf : ∀ x y, f x = some y → y.length ≤ m) : ∀ (a : List α) (ys : List β), catM f a = some ys → ys.length ≤ a.length * m
  | [], ys, h => by simp [catM] at h; subst h; simp
  | x :: a, ys, h => by
    simp only [catM, Option.bind_eq_some_iff] at h
    obtain ⟨y, hy, r, hr, e⟩ := h
    obtain rfl := Option.some.inj e
    have h1 := hf x y hy
    have h2 := catM_len f m hf a r hr
    simp only [List.length_append, List.length_cons]
    rw [Nat.add_mul]
    omega
theorem colsS_len (d : Nat) (hd : d ≤ 5) : (colsS d).length ≤ 120 := by
  match d, hd with
  | 0, _ => decide +kernel
  | 1, _ => decide +kernel
  | 2, _ => decide +kernel
  | 3, _ => decide +kernel
  | 4, _ => decide +kernel
  | 5, _ => decide +kernel
theorem collT_len (K : Nat) (p0 : Int) (rules : List ByteArray) (d : Nat) (hd : d ≤ 5) : ∀ (n k : Nat) (t : S79) (ys : List S79), collT K p0 rules d n k t = some ys → ys.length ≤ 120 ^ n
  | 0, k, t, ys, h => by
    simp only [collT, Option.bind_eq_some_iff] at h
    obtain ⟨b, hb, e⟩ := h
    obtain rfl := Option.some.inj e
    cases b <;> simp
  | n + 1, k, t, ys, h => by
    have h1 := catM_len _ (120 ^ n) (fun x y hy => collT_len K p0 rules d hd n (k + 1) _ y hy) _ _ h
    have h2 := Nat.mul_le_mul_right (120 ^ n) (colsS_len d hd)
    rw [Nat.pow_succ, Nat.mul_comm (120 ^ n)]
    omega
theorem blk_own {B i : Nat} {W W' : World} {row : Option Nat} {c : Array Value} {e : TypeId} {fz : Nat × Nat} (h : W.heap[i]? = some (.cells c e fz)) (hg : W.grownBy W' row) (hr : ∀ r, row = some r → B ≤ r ∧ ∃ o : Obj, W.heap[r]? = some o ∧ o.isCells = false) : W'.heap[i]? = some (.cells c e fz) :=
  (hg.block i (blk_lt h) (fun e' => by obtain ⟨_, o, ho, hc⟩ := hr i e'.symm; rw [h] at ho; cases ho; cases hc)).trans h
theorem St.own {w0 W W' : World} {Bo B : Nat} {v : Value} {xs : List S79} {row : Option Nat} (h : St w0 Bo W v xs) (hB : w0.heap.size ≤ B) (hg : W.grownBy W' row) (hr : ∀ r, row = some r → B ≤ r ∧ ∃ o : Obj, W.heap[r]? = some o ∧ o.isCells = false) : St w0 Bo W' v xs :=
  ⟨blk_own h.box hg hr, Kd.R_grown2 h.row rfl hg (fun k e e' => by
    obtain ⟨_, o, ho, hc⟩ := hr k e
    obtain ⟨cells, hcell⟩ := Kd.R_typed h.row k e'.symm
    rw [hcell] at ho; cases ho; cases hc), h.below.grown hg h.below.size (fun k e => Nat.le_trans hB (hr k e).1)⟩
theorem KeepOf.own {W0 W W' : World} {Bo B : Nat} {o : Option Nat} {row : Option Nat} (h : KeepOf Bo o W0 W) (hB : W0.heap.size ≤ B) (hg : W.grownBy W' row) (hr : ∀ r, row = some r → B ≤ r ∧ ∃ o : Obj, W.heap[r]? = some o ∧ o.isCells = false) : KeepOf Bo o W0 W' :=
  ⟨hg.os.trans h.os, hg.tape.trans h.tape, hg.output.trans h.output, Nat.le_trans h.size hg.size, fun i hi h1 h2 => (hg.block i (Nat.lt_of_lt_of_le hi h.size) (fun e => by have := (hr i e.symm).1; omega)).trans (h.same i hi h1 h2)⟩
theorem KT.putObj {B : Nat} (W : World) (l : Nat) (o o' : Obj) (_ : B ≤ l) (h : W.heap[l]? = some o) (hc : o.isCells = false) (_ : o.isWalk = false) : KT W (W.putObj l o') := by
  have hg := grownBy_putObj' W l o'
  exact ⟨hg.os, hg.tape, hg.output, hg.size, fun k c e fz hk _ _ => (hg.block k (blk_lt hk) (fun e' => by cases e'; rw [hk] at h; cases h; cases hc)).trans hk⟩
structure LpI (K : Nat) (p0 : Int) (rules : List ByteArray) (d : Nat) (w0 : World) (Bo : Nat) (t : S79) (n k : Nat) (v : Value) (xs : List S79) (W0 : World) (gt gk : Nat) (pre : List S76) (W : World) (ys : List S79) (v' : Value) (cc : S76) : Prop where
  cat : catM (fun c => collT K p0 rules d n (k + 1) (setCol t k c)) pre = some ys
  st : St w0 Bo W v' (xs ++ ys)
  keep : KeepOf Bo v.ownBlock W0 W
  own : v'.ownBlock = v.ownBlock ∨ ∃ b, v'.ownBlock = some b ∧ W0.heap.size ≤ b
  tab : W.heap[gt]? = some (.cells (cellsTab (setCol t k cc)).toArray 79 (0, 0))
  ne : some gt ≠ v'.ownBlock
  num : W.heap[gk]? = some (.cells #[.int .i64 (k : Int)] 3 (0, 0))
theorem LpI.moved {K : Nat} {p0 : Int} {rules : List ByteArray} {d : Nat} {w0 : World} {Bo : Nat} {t : S79} {n k : Nat} {v : Value} {xs : List S79} {W0 : World} {gt gk : Nat} {pre : List S76} {W : World} {ys : List S79} {v' : Value} {cc : S76} {B : Nat} {W' : World} {row : Option Nat}
    (h : LpI K p0 rules d w0 Bo t n k v xs W0 gt gk pre W ys v' cc) (hB : w0.heap.size ≤ B) (hB' : W0.heap.size ≤ B) (hg : W.grownBy W' row) (hr : ∀ r, row = some r → B ≤ r ∧ ∃ o : Obj, W.heap[r]? = some o ∧ o.isCells = false) :
    LpI K p0 rules d w0 Bo t n k v xs W0 gt gk pre W' ys v' cc := ⟨h.cat, h.st.own hB hg hr, h.keep.own hB' hg hr, h.own, blk_own h.tab hg hr, h.ne, blk_own h.num hg hr⟩
theorem one_grown (W : World) (g i : Nat) (u : Value) : W.grownBy (W.setCell ⟨g, i, none⟩ u) (some g) :=
  ⟨rfl, rfl, rfl, (KeepsWalks.setCell W _ u).size, fun k _ hk => Below.heap_setCell _ _ _ k (fun e => hk (by rw [e]))⟩
theorem two_grown {A B C : World} {r : Option Nat} (h : A.grownBy B r) (g : B.grownBy C r) : A.grownBy C r :=
  ⟨g.os.trans h.os, g.tape.trans h.tape, g.output.trans h.output, Nat.le_trans h.size g.size, fun k hk hr => (g.block k (Nat.lt_of_lt_of_le hk h.size) hr).trans (h.block k hk hr)⟩
theorem five_grown (W : World) (g i j k l m : Nat) (u0 u1 u2 u3 u4 : Value) : W.grownBy (((((W.setCell ⟨g, i, none⟩ u0).setCell ⟨g, j, none⟩ u1).setCell ⟨g, k, none⟩ u2).setCell ⟨g, l, none⟩ u3).setCell ⟨g, m, none⟩ u4) (some g) :=
  two_grown (two_grown (two_grown (two_grown (one_grown _ _ _ _) (one_grown _ _ _ _)) (one_grown _ _ _ _)) (one_grown _ _ _ _)) (one_grown _ _ _ _)
theorem blk_ty {W : World} {i : Nat} {a b : Array Value} {e e' : TypeId} {f f' : Nat × Nat} (h : W.heap[i]? = some (.cells a e f)) (g : W.heap[i]? = some (.cells b e' f')) : e = e' := by
  rw [h] at g; cases g; rfl
theorem round_keeps {w0 W' W4 W5 : World} {Bo gt : Nat} {v' : Value} {xs : List S79} {ct : Array Value} (hS : St w0 Bo W' v' xs) (ht : W'.heap[gt]? = some (.cells ct 79 (0, 0))) (hg4 : W'.grownBy W4 (some gt)) (hk : KeepOf Bo v'.ownBlock W4 W5)
    (i : Nat) (o : Obj) (hi : W'.heap[i]? = some o) (ho : ∀ c e f, o = .cells c e f → e ≠ 79 ∧ e ≠ 74) : W5.heap[i]? = some o := by
  have h1 : i ≠ gt := fun e => by subst e; rw [ht] at hi; cases hi; exact (ho _ _ _ rfl).1 rfl
  have h2 : i ≠ Bo := fun e => by subst e; rw [hS.box] at hi; cases hi; exact (ho _ _ _ rfl).2 rfl
  have h3 : some i ≠ v'.ownBlock := fun e => by
    obtain ⟨cells, hcell⟩ := Kd.R_typed hS.row i e.symm
    rw [hcell] at hi; cases hi; exact (ho _ _ _ rfl).1 rfl
  rw [hk.same i (Nat.lt_of_lt_of_le (blk_lt hi) hg4.size) h2 h3, hg4.block i (blk_lt hi) (fun e => h1 (by cases e; rfl)), hi]
theorem KeepOf.far {W0 W W' : World} {Bo g : Nat} {o : Option Nat} (h : KeepOf Bo o W0 W) (hg : W.grownBy W' (some g)) (hl : W0.heap.size ≤ g) : KeepOf Bo o W0 W' :=
  ⟨hg.os.trans h.os, hg.tape.trans h.tape, hg.output.trans h.output, Nat.le_trans h.size hg.size, fun i hi h1 h2 => (hg.block i (Nat.lt_of_lt_of_le hi h.size) (fun e => by cases e; omega)).trans (h.same i hi h1 h2)⟩
theorem St.far {w0 W W' : World} {Bo g : Nat} {v : Value} {xs : List S79} (h : St w0 Bo W v xs) (hg : W.grownBy W' (some g)) (hl : w0.heap.size ≤ g) (h1 : Bo ≠ g) (h2 : some g ≠ v.ownBlock) : St w0 Bo W' v xs :=
  ⟨(hg.block Bo (blk_lt h.box) (fun e => h1 (by cases e; rfl))).trans h.box, Kd.R_grown2 h.row rfl hg (fun k e => by cases e; exact h2), h.below.grown hg h.below.size (fun k e => by cases e; exact hl)⟩
theorem keep_env {w0 W W' : World} {Bo i : Nat} {v : Value} {xs : List S79} {c : Array Value} {e : TypeId} {fz : Nat × Nat} (h : St w0 Bo W v xs) (hk : KeepOf Bo v.ownBlock W W') (hi : W.heap[i]? = some (.cells c e fz)) (h1 : e ≠ 74) (h2 : e ≠ 79) : W'.heap[i]? = some (.cells c e fz) :=
  (hk.same i (blk_lt hi) (fun e' => by subst e'; rw [h.box] at hi; cases hi; exact h1 rfl) (fun e' => by
    obtain ⟨cells, hcell⟩ := Kd.R_typed h.row i e'.symm
    rw [hcell] at hi; cases hi; exact h2 rfl)).trans hi
theorem setCol_self (t : S79) (k : Nat) : ∃ c, setCol t k c = t := by
  unfold setCol
  by_cases h : k = 0
  · exact ⟨t.f2.f0, by simp [h]⟩
  · exact ⟨t.f2.f1, by simp [h]⟩
set_option maxHeartbeats 16000000 in
set_option maxRecDepth 100000 in
theorem tabs_any (K : Nat) (p0 : Int) (A : Option Addr) (c : Nat) (rules : List ByteArray) (d : Nat) (hd1 : 1 ≤ d) (hd : d ≤ 5) (w0 : World) (Bp Bo Bd Be : Nat) (hC : Kd.C Kd.string w0 A rules.length rules) (hc : rules.length ≤ c) (hBo0 : w0.heap.size ≤ Bo) :
    ∀ (n k : Nat) (t : S79) (v : Value) (xs ys : List S79) (W : World), t.f0 = ((k + n : Nat) : Int) → k + n ≤ 2 → St w0 Bo W v xs → W.heap[Bp]? = some (.cells #[.int .i64 p0, .slice A rules.length c] 24 (0, 0)) →
      W.heap[Bd]? = some (.cells #[.int .i64 (d : Int)] 3 (0, 0)) → W.heap[Be]? = some (.cells #[.func (.func 73) #[] #[.pointer (some ⟨Bp, 0, none⟩), .pointer (some ⟨Bo, 0, none⟩), .pointer (some ⟨Bd, 0, none⟩), .pointer (some ⟨Be, 0, none⟩)]] 101 (0, 0)) →
      xs.length + 120 ^ n ≤ 1000000 → collT K p0 rules d n k t = some ys →
      Calls Try.prog 73 #[.agg (cellsTab t).toArray, .int .i64 (k : Int), .pointer (some ⟨Bp, 0, none⟩), .pointer (some ⟨Bo, 0, none⟩), .pointer (some ⟨Bd, 0, none⟩), .pointer (some ⟨Be, 0, none⟩)] W (TabsR w0 Bo v W (xs ++ ys)) := by
  intro n
  induction n with
  | zero =>
    intro k t v xs ys W hg hk hS hBp hBd hBe hN hq
    exact tabs_base K p0 A c rules d w0 Bp Bo Bd Be hC hc t k v xs ys W (by simpa using hg) hS hBp (by simp at hN; omega) hBo0 hq
  | succ n ih =>
    intro k t0 v xs ys W hg hk2 hS hBp hBd hBe hN hq
    have hTE : cellsTab t0 = cellsTab t0 := rfl
    obtain ⟨t, ht⟩ : ∃ t, t = t0 := ⟨t0, rfl⟩
    obtain ⟨g, d1, ⟨⟨a0, a1, a2, a3, a4⟩, ⟨b0, b1, b2, b3, b4⟩⟩⟩ := t0
    have hgl : ((k : Int) == g) = false := by
      have : g = ((k + (n + 1) : Nat) : Int) := hg
      rw [this]; simp; omega
    have hne : some Bo ≠ v.ownBlock := by
      intro e
      obtain ⟨cells, hcell⟩ := Kd.R_typed hS.row Bo e.symm
      rw [hS.box] at hcell
      cases hcell
    have HT := Aside0.mk ht
    have HS := Aside0.mk hS
    have HC := Aside0.mk hC
    have Hc := Aside0.mk hc
    have HN := Aside0.mk hN
    have Hne := Aside0.mk hne
    have HBp := Aside0.mk hBp
    have HBd := Aside0.mk hBd
    have HBe := Aside0.mk hBe
    have Hq := Aside0.mk hq
    have Hg := Aside0.mk hg
    have Hk2 := Aside0.mk hk2
    have IH := Aside0.mk ih
    clear hS hC hc hN hne hBp hBd hBe hq hg hk2 ih ht hTE
    simp only [cellsTab]
    refine callsIn_wide.1 (callsIn_of_wp_marks (F := Fence.wide) (n := 5) Try.func73 rfl trivial ?_ rfl)
    simp only [Try.ntmps73, List.size_toArray, List.length_cons, List.length_nil, Nat.reduceAdd, Nat.reduceSub, Array.replicate_succ, Array.replicate_zero, List.push_toArray, List.append_toArray, List.nil_append, List.cons_append]
    refine wpIn_wide.2 ?_
    go_wp2_with (first | ((with_reducible refine gate_dst (N := 6) rfl ?_); refine box_event ?hg (N := 6) ?hd (cs := #[.int .i64 g, .int .i64 d1, .int .i64 a0, .int .i64 a1, .int .i64 a2, .int .i64 a3, .int .i64 a4, .int .i64 b0, .int .i64 b1, .int .i64 b2, .int .i64 b3, .int .i64 b4]) (t := 79) ?hr ?_; (case hd => rfl); (case hg => rfl); (case hr => first | (go_simp; done) | (go_simp; rfl)); intro gt hg w1 hbox hb; have n0_ := Aside0.mk hb; have n1_ := Aside0.mk hbox; have n2_ := Aside0.mk (show W.heap.size ≤ gt by rw [hg]; exact Nat.le_refl _); have n3_ := Aside0.mk (blk_lt hbox); clear hg hb hbox; have HB1 := n0_; have BKt1 := n1_; have GT := n2_; have GTl := n3_; clear n0_ n1_ n2_ n3_; have hu0 : w1.cell? ⟨gt, 0, none⟩ = some (.int .i64 g) := (blk_cell BKt1.out 0).trans rfl; have hu1 : w1.cell? ⟨gt, 1, none⟩ = some (.int .i64 d1) := (blk_cell BKt1.out 1).trans rfl; have hu2 : w1.cell? ⟨gt, 2, none⟩ = some (.int .i64 a0) := (blk_cell BKt1.out 2).trans rfl; have hu3 : w1.cell? ⟨gt, 3, none⟩ = some (.int .i64 a1) := (blk_cell BKt1.out 3).trans rfl; have hu4 : w1.cell? ⟨gt, 4, none⟩ = some (.int .i64 a2) := (blk_cell BKt1.out 4).trans rfl; have hu5 : w1.cell? ⟨gt, 5, none⟩ = some (.int .i64 a3) := (blk_cell BKt1.out 5).trans rfl; have hu6 : w1.cell? ⟨gt, 6, none⟩ = some (.int .i64 a4) := (blk_cell BKt1.out 6).trans rfl; have hu7 : w1.cell? ⟨gt, 7, none⟩ = some (.int .i64 b0) := (blk_cell BKt1.out 7).trans rfl; have hu8 : w1.cell? ⟨gt, 8, none⟩ = some (.int .i64 b1) := (blk_cell BKt1.out 8).trans rfl; have hu9 : w1.cell? ⟨gt, 9, none⟩ = some (.int .i64 b2) := (blk_cell BKt1.out 9).trans rfl; have hu10 : w1.cell? ⟨gt, 10, none⟩ = some (.int .i64 b3) := (blk_cell BKt1.out 10).trans rfl; have hu11 : w1.cell? ⟨gt, 11, none⟩ = some (.int .i64 b4) := (blk_cell BKt1.out 11).trans rfl) | ((with_reducible refine gate_dst (N := 7) rfl ?_); refine box_event ?hg (N := 7) ?hd (cs := #[.int .i64 (k : Int)]) (t := 3) ?hr ?_; (case hd => rfl); (case hg => rfl); (case hr => first | (go_simp; done) | (go_simp; rfl)); intro gk hg w2 hbox hb; have n0_ := Aside0.mk (HB1.out.trans (hb.mono HB1.out.size)); have n1_ := Aside0.mk hbox; have n2_ := Aside0.mk (blk_below BKt1.out hb); have n3_ := Aside0.mk (show w1.heap.size ≤ gk by rw [hg]; exact Nat.le_refl _); have n5_ := Aside0.mk (blk_below HBd.out n0_.out); clear HB1 BKt1 hg hb hbox; have HB := n0_; have BKk := n1_; have BKt := n2_; have GK := n3_; have BKd := n5_; clear n0_ n1_ n2_ n3_ n5_; have hk1 : w2.cell? ⟨gk, 0, none⟩ = some (.int .i64 (k : Int)) := (blk_cell BKk.out 0).trans rfl; have hdd1 : w2.cell? ⟨Bd, 0, none⟩ = some (.int .i64 (d : Int)) := (blk_cell BKd.out 0).trans rfl; have hv0 : w2.cell? ⟨gt, 0, none⟩ = some (.int .i64 g) := (blk_cell BKt.out 0).trans rfl; have hv1 : w2.cell? ⟨gt, 1, none⟩ = some (.int .i64 d1) := (blk_cell BKt.out 1).trans rfl; have hv2 : w2.cell? ⟨gt, 2, none⟩ = some (.int .i64 a0) := (blk_cell BKt.out 2).trans rfl; have hv3 : w2.cell? ⟨gt, 3, none⟩ = some (.int .i64 a1) := (blk_cell BKt.out 3).trans rfl; have hv4 : w2.cell? ⟨gt, 4, none⟩ = some (.int .i64 a2) := (blk_cell BKt.out 4).trans rfl; have hv5 : w2.cell? ⟨gt, 5, none⟩ = some (.int .i64 a3) := (blk_cell BKt.out 5).trans rfl; have hv6 : w2.cell? ⟨gt, 6, none⟩ = some (.int .i64 a4) := (blk_cell BKt.out 6).trans rfl; have hv7 : w2.cell? ⟨gt, 7, none⟩ = some (.int .i64 b0) := (blk_cell BKt.out 7).trans rfl; have hv8 : w2.cell? ⟨gt, 8, none⟩ = some (.int .i64 b1) := (blk_cell BKt.out 8).trans rfl; have hv9 : w2.cell? ⟨gt, 9, none⟩ = some (.int .i64 b2) := (blk_cell BKt.out 9).trans rfl; have hv10 : w2.cell? ⟨gt, 10, none⟩ = some (.int .i64 b3) := (blk_cell BKt.out 10).trans rfl; have hv11 : w2.cell? ⟨gt, 11, none⟩ = some (.int .i64 b4) := (blk_cell BKt.out 11).trans rfl) | ((with_reducible refine gate_callee (f := 74) rfl ?_); refine goesL_ (some 25) rfl rfl Try.func74 (by kernel_rfl) rfl #[.int .i64 (d : Int)] rfl (by (try simp only [List.map_toArray, List.map_cons, List.map_nil]); first | done | rfl) ?_; (with_reducible refine (columns_any (d : Int) w2).mono ?_); rintro e w3 ⟨rfl, rfl⟩; refine ⟨_, rfl, ?_⟩; skip))
    refine (wpIn_wide (n := 5)).1 ?_
    obtain ⟨W3, hW3⟩ : ∃ W3, w2.alloc (Obj.cells #[.int .i64 (d : Int)] 3) = W3 := ⟨_, rfl⟩
    have hb3 : Below W.heap.size W W3 := by rw [← hW3]; exact below_alloc HB.out _
    have hb23 : Below w2.heap.size w2 W3 := by rw [← hW3]; exact below_alloc (Below.refl _ _) _
    have hBd3 : W3.heap[w2.heap.size]? = some (.cells #[.int .i64 (d : Int)] 3 (0, 0)) := by rw [← hW3]; exact World.alloc_heap_new _ _
    rw [hW3]
    obtain ⟨cc0, hcc0⟩ := setCol_self t k
    have hct : cellsTab t = [.int .i64 g, .int .i64 d1, .int .i64 a0, .int .i64 a1, .int .i64 a2, .int .i64 a3, .int .i64 a4, .int .i64 b0, .int .i64 b1, .int .i64 b2, .int .i64 b3, .int .i64 b4] := by rw [HT.out]; rfl
    refine wpIn_rangeFunc_ownH (α := {c // c ∈ colsS d}) rfl (by omega) (gf := 88) (lb := #[.pointer (some ⟨w2.heap.size, 0, none⟩)]) rfl trivial (enters_of Try.func88 (by kernel_rfl) rfl)
      (cols_stops d hd1 hd w2.heap.size 4 120 W3 hBd3 (colsS_len d hd)) KT.trans KT.putObj (Below.refl _ _) (fun _ => rfl)
      (fun pre W' => ∃ ys v' cc, LpI K p0 rules d w0 Bo t n k v xs W gt gk (pre.map Subtype.val) W' ys v' cc)
      (fun _ _ _ => False)
      ?own (fun _ _ _ _ _ hs _ _ => hs) ?start
      (fun x a' W' => ∃ Bx, W'.heap[Bx]? = some (.cells (cellsCol x.1).toArray 76 (0, 0)) ∧ a' = { tmps := #[.agg #[.int .i64 g, .int .i64 d1, .int .i64 a0, .int .i64 a1, .int .i64 a2, .int .i64 a3, .int .i64 a4, .int .i64 b0, .int .i64 b1, .int .i64 b2, .int .i64 b3, .int .i64 b4], .int .i64 (k : Int), .pointer (some ⟨Bp, 0, none⟩), .pointer (some ⟨Bo, 0, none⟩), .pointer (some ⟨Bd, 0, none⟩), .pointer (some ⟨Be, 0, none⟩), .pointer (some ⟨gt, 0, none⟩), .pointer (some ⟨gk, 0, none⟩), .pointer (some ⟨Bx, 0, none⟩), .int .i64 (k : Int), .pointer (some ⟨gt, 0, none⟩), .int .i64 g, .bool false, undef, undef, undef, undef, undef, undef, undef, undef, undef, undef, undef, .int .i64 (d : Int), .func (.func 88) #[] #[.pointer (some ⟨w2.heap.size, 0, none⟩)], .agg (cellsCol x.1).toArray, undef, undef, undef, undef, undef, undef, undef, undef, undef], defers := [] })
      ?ax ?assign ?body ?done ?stop
    case own =>
      rintro pre X Y row ⟨ys', v', cc, h⟩ hg hr
      exact ⟨ys', v', cc, h.moved (Nat.le_trans HS.out.below.size hb3.size) hb3.size hg hr⟩
    case start =>
      refine ⟨[], v, cc0, rfl, by rw [List.append_nil]; exact HS.out.move hb3, KeepOf.of_below hb3, Or.inl rfl, ?_, ?_, blk_below BKk.out hb23⟩
      · rw [hcc0, hct]
        exact blk_below BKt.out hb23
      · intro e
        obtain ⟨cells, hcell⟩ := Kd.R_typed HS.out.row gt e.symm
        have h1 := blk_lt hcell
        have h2 := GT.out
        omega
    case ax =>
      rintro x a' _ X Y row ⟨Bx, h1, h3⟩ hg hr
      exact ⟨Bx, blk_own h1 hg hr, h3⟩
    case stop =>
      rintro D c pre W _ _ h _
      exact h.elim
    case done =>
      rintro D zs W' hD rfl ⟨ys', v', cc, h⟩ hK
      gi_wp2
      refine ⟨by simp, .inl ⟨_, _, rfl, run_takeDeferred hK, ?_⟩⟩
      have hgr := grownBy_putObj' W' D (Obj.deferred none)
      have hrr : ∀ r, some D = some r → W3.heap.size ≤ r ∧ ∃ o : Obj, W'.heap[r]? = some o ∧ o.isCells = false := fun r e => by cases e; exact ⟨hD, _, hK, rfl⟩
      have hzs : ys' = ys := by
        have h1 := h.cat
        rw [List.attach_map_subtype_val, HT.out] at h1
        exact Option.some.inj (h1.symm.trans Hq.out)
      subst hzs
      refine ⟨_, results_none rfl _ _ _, rfl, v', h.st.own (Nat.le_trans HS.out.below.size hb3.size) hgr hrr, h.keep.own hb3.size hgr hrr, h.own⟩
    case assign =>
      rintro l pre ⟨⟨x0, x1, x2, x3, x4⟩, hx⟩ W' Kk ⟨ys', v', cc, h⟩ hK
      simp only [cellsCol]
      gi_wp2
      exact hK _ _ ((KeepsOthers.alloc _ _).from _) (KT.of_below (below_alloc (Below.refl _ _) _)) ⟨ys', v', cc, h.moved (Nat.le_trans HS.out.below.size hb3.size) hb3.size (World.grownBy_alloc _ _ none) (fun r e => by cases e)⟩ ⟨W'.heap.size, World.alloc_heap_new _ _, rfl⟩
    case body =>
      rintro l pre ⟨⟨x0, x1, x2, x3, x4⟩, hx⟩ a' W' hl ⟨r, hr⟩ ⟨ys', v', cc, h⟩ ⟨Bx, hBx, rfl⟩ hlt
      simp only [cellsCol] at hBx ⊢
      have hx0 : W'.cell? ⟨Bx, 0, none⟩ = some (.int .i64 x0) := (blk_cell hBx 0).trans rfl
      have hx1 : W'.cell? ⟨Bx, 1, none⟩ = some (.int .i64 x1) := (blk_cell hBx 1).trans rfl
      have hx2 : W'.cell? ⟨Bx, 2, none⟩ = some (.int .i64 x2) := (blk_cell hBx 2).trans rfl
      have hx3 : W'.cell? ⟨Bx, 3, none⟩ = some (.int .i64 x3) := (blk_cell hBx 3).trans rfl
      have hx4 : W'.cell? ⟨Bx, 4, none⟩ = some (.int .i64 x4) := (blk_cell hBx 4).trans rfl
      have hkc : W'.cell? ⟨gk, 0, none⟩ = some (.int .i64 (k : Int)) := (blk_cell h.num 0).trans rfl
      have Ht := Aside0.mk h.tab
      have Hh := Aside0.mk h
      clear h
      obtain rfl | rfl : k = 0 ∨ k = 1 := by have := Hk2.out; omega
      · have ht' := Ht.out
        rw [HT.out] at ht'
        have hz0 : W'.cell? ⟨gt, 0, none⟩ = some (.int .i64 g) := (blk_cell ht' 0).trans rfl
        have hf0 := blk_frozen ht' 0
        have hz1 : W'.cell? ⟨gt, 1, none⟩ = some (.int .i64 d1) := (blk_cell ht' 1).trans rfl
        have hf1 := blk_frozen ht' 1
        have hz2 : W'.cell? ⟨gt, 2, none⟩ = some (.int .i64 cc.f0) := (blk_cell ht' 2).trans rfl
        have hf2 := blk_frozen ht' 2
        have hz3 : W'.cell? ⟨gt, 3, none⟩ = some (.int .i64 cc.f1) := (blk_cell ht' 3).trans rfl
        have hf3 := blk_frozen ht' 3
        have hz4 : W'.cell? ⟨gt, 4, none⟩ = some (.int .i64 cc.f2) := (blk_cell ht' 4).trans rfl
        have hf4 := blk_frozen ht' 4
        have hz5 : W'.cell? ⟨gt, 5, none⟩ = some (.int .i64 cc.f3) := (blk_cell ht' 5).trans rfl
        have hf5 := blk_frozen ht' 5
        have hz6 : W'.cell? ⟨gt, 6, none⟩ = some (.int .i64 cc.f4) := (blk_cell ht' 6).trans rfl
        have hf6 := blk_frozen ht' 6
        have hz7 : W'.cell? ⟨gt, 7, none⟩ = some (.int .i64 b0) := (blk_cell ht' 7).trans rfl
        have hf7 := blk_frozen ht' 7
        have hz8 : W'.cell? ⟨gt, 8, none⟩ = some (.int .i64 b1) := (blk_cell ht' 8).trans rfl
        have hf8 := blk_frozen ht' 8
        have hz9 : W'.cell? ⟨gt, 9, none⟩ = some (.int .i64 b2) := (blk_cell ht' 9).trans rfl
        have hf9 := blk_frozen ht' 9
        have hz10 : W'.cell? ⟨gt, 10, none⟩ = some (.int .i64 b3) := (blk_cell ht' 10).trans rfl
        have hf10 := blk_frozen ht' 10
        have hz11 : W'.cell? ⟨gt, 11, none⟩ = some (.int .i64 b4) := (blk_cell ht' 11).trans rfl
        have hf11 := blk_frozen ht' 11
        have HT' := Aside0.mk ht'
        clear ht'
        gi_upto_region 7 with (fail)
        obtain ⟨W4, hW4⟩ : ∃ W4, (((((W'.setCell ⟨gt, 2, none⟩ (.int .i64 x0)).setCell ⟨gt, 3, none⟩ (.int .i64 x1)).setCell ⟨gt, 4, none⟩ (.int .i64 x2)).setCell ⟨gt, 5, none⟩ (.int .i64 x3)).setCell ⟨gt, 6, none⟩ (.int .i64 x4)) = W4 := ⟨_, rfl⟩
        have hb4 : W4.heap[gt]? = some (.cells (cellsTab (setCol t 0 ⟨x0, x1, x2, x3, x4⟩)).toArray 79 (0, 0)) := by rw [← hW4, HT.out]; exact ((blk_set (blk_set (blk_set (blk_set (blk_set HT'.out 2 _) 3 _) 4 _) 5 _) 6 _)).trans rfl
        have hg4 : W'.grownBy W4 (some gt) := by rw [← hW4]; exact five_grown W' gt 2 3 4 5 6 _ _ _ _ _
        rw [hW4]
        clear hW4 hz0 hf0 hz1 hf1 hz2 hf2 hz3 hf3 hz4 hf4 hz5 hf5 hz6 hf6 hz7 hf7 hz8 hf8 hz9 hf9 hz10 hf10 hz11 hf11 hx0 hx1 hx2 hx3 hx4 hBx
        have hne4 : Bo ≠ gt := fun e => by have h1 := Hh.out.st.box; have h2 := Hh.out.tab; rw [e] at h1; exact absurd (blk_ty h1 h2) (by decide)
        have he4 := keep_env HS.out (Hh.out.keep) HBe.out (by decide) (by decide)
        have hp4 := keep_env HS.out (Hh.out.keep) HBp.out (by decide) (by decide)
        have hd4 := keep_env HS.out (Hh.out.keep) HBd.out (by decide) (by decide)
        have he5 : W4.heap[Be]? = some (.cells #[.func (.func 73) #[] #[.pointer (some ⟨Bp, 0, none⟩), .pointer (some ⟨Bo, 0, none⟩), .pointer (some ⟨Bd, 0, none⟩), .pointer (some ⟨Be, 0, none⟩)]] 101 (0, 0)) := (hg4.block Be (blk_lt he4) (fun e => by cases e; exact absurd (blk_ty Hh.out.tab he4) (by decide))).trans he4
        have hp5 : W4.heap[Bp]? = some (.cells #[.int .i64 p0, .slice A rules.length c] 24 (0, 0)) := (hg4.block Bp (blk_lt hp4) (fun e => by cases e; exact absurd (blk_ty Hh.out.tab hp4) (by decide))).trans hp4
        have hd5 : W4.heap[Bd]? = some (.cells #[.int .i64 (d : Int)] 3 (0, 0)) := (hg4.block Bd (blk_lt hd4) (fun e => by cases e; exact absurd (blk_ty Hh.out.tab hd4) (by decide))).trans hd4
        have hn4 : W4.heap[gk]? = some (.cells #[.int .i64 0] 3 (0, 0)) := (hg4.block gk (blk_lt Hh.out.num) (fun e => by cases e; exact absurd (blk_ty Hh.out.tab Hh.out.num) (by decide))).trans Hh.out.num
        obtain ⟨ya, hya⟩ := catM_mem _ _ _ (show catM (fun c => collT K p0 rules d n (0 + 1) (setCol t 0 c)) (colsS d) = some ys by rw [HT.out]; exact Hq.out) ⟨x0, x1, x2, x3, x4⟩ hx
        have hcat := catM_append _ (pre.map Subtype.val) [⟨x0, x1, x2, x3, x4⟩] ys' ya Hh.out.cat (by show (collT K p0 rules d n (0 + 1) (setCol t 0 ⟨x0, x1, x2, x3, x4⟩)).bind _ = _; rw [hya]; simp [catM])
        have hlen : xs.length + ys'.length + 120 ^ n ≤ 1000000 := by
          have h1 := catM_len _ (120 ^ n) (fun x y hy => collT_len K p0 rules d hd n (0 + 1) _ y hy) _ _ Hh.out.cat
          have h2 := Nat.mul_le_mul_right (120 ^ n) (show (pre.map Subtype.val).length + 1 ≤ 120 by simp; omega)
          have h3 := HN.out
          rw [Nat.add_mul, Nat.one_mul] at h2
          rw [Nat.pow_succ, Nat.mul_comm] at h3
          omega
        have hlt0 : w0.heap.size ≤ gt := Nat.le_trans HS.out.below.size GT.out
        have hcall : Calls Try.prog 73 #[.agg #[.int .i64 g, .int .i64 d1, .int .i64 x0, .int .i64 x1, .int .i64 x2, .int .i64 x3, .int .i64 x4, .int .i64 b0, .int .i64 b1, .int .i64 b2, .int .i64 b3, .int .i64 b4], .int .i64 (0 + 1), .pointer (some ⟨Bp, 0, none⟩), .pointer (some ⟨Bo, 0, none⟩), .pointer (some ⟨Bd, 0, none⟩), .pointer (some ⟨Be, 0, none⟩)] W4 (TabsR w0 Bo v' W4 ((xs ++ ys') ++ ya)) := by
          have h := IH.out (0 + 1) (setCol t 0 ⟨x0, x1, x2, x3, x4⟩) v' (xs ++ ys') ya W4 (by rw [HT.out]; have h := Hg.out; show g = _; rw [h]; congr 1; omega) (by have := Hk2.out; omega) (Hh.out.st.far hg4 hlt0 hne4 Hh.out.ne) hp5 hd5 he5 (by simpa using hlen) hya
          rw [HT.out] at h
          exact h
        have hec : W4.cell? ⟨Be, 0, none⟩ = some (.func (.func 73) #[] #[.pointer (some ⟨Bp, 0, none⟩), .pointer (some ⟨Bo, 0, none⟩), .pointer (some ⟨Bd, 0, none⟩), .pointer (some ⟨Be, 0, none⟩)]) := (blk_cell he5 0).trans rfl
        clear hkc
        have hkc : W4.cell? ⟨gk, 0, none⟩ = some (.int .i64 0) := (blk_cell hn4 0).trans rfl
        have hy0 : W4.cell? ⟨gt, 0, none⟩ = some (.int .i64 g) := by have h := hb4; rw [HT.out] at h; exact (blk_cell h 0).trans rfl
        have hy1 : W4.cell? ⟨gt, 1, none⟩ = some (.int .i64 d1) := by have h := hb4; rw [HT.out] at h; exact (blk_cell h 1).trans rfl
        have hy2 : W4.cell? ⟨gt, 2, none⟩ = some (.int .i64 x0) := by have h := hb4; rw [HT.out] at h; exact (blk_cell h 2).trans rfl
        have hy3 : W4.cell? ⟨gt, 3, none⟩ = some (.int .i64 x1) := by have h := hb4; rw [HT.out] at h; exact (blk_cell h 3).trans rfl
        have hy4 : W4.cell? ⟨gt, 4, none⟩ = some (.int .i64 x2) := by have h := hb4; rw [HT.out] at h; exact (blk_cell h 4).trans rfl
        have hy5 : W4.cell? ⟨gt, 5, none⟩ = some (.int .i64 x3) := by have h := hb4; rw [HT.out] at h; exact (blk_cell h 5).trans rfl
        have hy6 : W4.cell? ⟨gt, 6, none⟩ = some (.int .i64 x4) := by have h := hb4; rw [HT.out] at h; exact (blk_cell h 6).trans rfl
        have hy7 : W4.cell? ⟨gt, 7, none⟩ = some (.int .i64 b0) := by have h := hb4; rw [HT.out] at h; exact (blk_cell h 7).trans rfl
        have hy8 : W4.cell? ⟨gt, 8, none⟩ = some (.int .i64 b1) := by have h := hb4; rw [HT.out] at h; exact (blk_cell h 8).trans rfl
        have hy9 : W4.cell? ⟨gt, 9, none⟩ = some (.int .i64 b2) := by have h := hb4; rw [HT.out] at h; exact (blk_cell h 9).trans rfl
        have hy10 : W4.cell? ⟨gt, 10, none⟩ = some (.int .i64 b3) := by have h := hb4; rw [HT.out] at h; exact (blk_cell h 10).trans rfl
        have hy11 : W4.cell? ⟨gt, 11, none⟩ = some (.int .i64 b4) := by have h := hb4; rw [HT.out] at h; exact (blk_cell h 11).trans rfl
        have HCALL := Aside0.mk hcall
        have HB4 := Aside0.mk hb4
        have HG4 := Aside0.mk hg4
        have HCAT := Aside0.mk hcat
        have HNE4 := Aside0.mk hne4
        have HN4 := Aside0.mk hn4
        have HLT0 := Aside0.mk hlt0
        clear hcall hb4 hg4 hcat hne4 hn4 he4 hp4 hd4 he5 hp5 hd5 hya hlen hlt0 hb3 hb23 hBd3 hW3 hct hcc0
        gi_wp2
        refine ⟨trivial, (CallsIn.inRound l (callsIn_wide.2 HCALL.out)).mono ?_⟩
        rintro e W5 ⟨rfl, v5, hS5, hK5, hO5⟩
        gi_wp2
        have hgl4 := blk_lt HB4.out
        have hs4 := HG4.out.size
        have hs0 := Hh.out.keep.size
        refine ⟨⟨Nat.le_trans hs4 hK5.size, fun i o _ hi ho => round_keeps Hh.out.st Hh.out.tab HG4.out hK5 i o hi (fun c e f h => by subst h; cases ho)⟩,
          ⟨hK5.os.trans HG4.out.os, hK5.tape.trans HG4.out.tape, hK5.output.trans HG4.out.output, Nat.le_trans hs4 hK5.size, fun i c e fz hi h1 h2 => round_keeps Hh.out.st Hh.out.tab HG4.out hK5 i _ hi (fun c' e' f' h => by cases h; exact ⟨h1, h2⟩)⟩,
          ys' ++ ya, v5, ⟨x0, x1, x2, x3, x4⟩, ?_, ?_, (Hh.out.keep.far HG4.out GT.out).trans hK5 Hh.out.own, ?_, ?_, ?_, ?_⟩
        · rw [List.map_append]; exact HCAT.out
        · rw [← List.append_assoc]; exact hS5
        · rcases hO5 with h1 | ⟨bb, h1, h2⟩
          · rw [h1]; exact Hh.out.own
          · exact Or.inr ⟨bb, h1, by omega⟩
        · exact (hK5.same gt hgl4 (fun e => HNE4.out e.symm) Hh.out.ne).trans HB4.out
        · rcases hO5 with h1 | ⟨bb, h1, h2⟩
          · rw [h1]; exact Hh.out.ne
          · rw [h1]; intro e; cases e; omega
        · exact round_keeps Hh.out.st Hh.out.tab HG4.out hK5 gk _ Hh.out.num (fun c' e' f' h => by cases h; decide)
      · have ht' := Ht.out
        rw [HT.out] at ht'
        have hz0 : W'.cell? ⟨gt, 0, none⟩ = some (.int .i64 g) := (blk_cell ht' 0).trans rfl
        have hf0 := blk_frozen ht' 0
        have hz1 : W'.cell? ⟨gt, 1, none⟩ = some (.int .i64 d1) := (blk_cell ht' 1).trans rfl
        have hf1 := blk_frozen ht' 1
        have hz2 : W'.cell? ⟨gt, 2, none⟩ = some (.int .i64 a0) := (blk_cell ht' 2).trans rfl
        have hf2 := blk_frozen ht' 2
        have hz3 : W'.cell? ⟨gt, 3, none⟩ = some (.int .i64 a1) := (blk_cell ht' 3).trans rfl
        have hf3 := blk_frozen ht' 3
        have hz4 : W'.cell? ⟨gt, 4, none⟩ = some (.int .i64 a2) := (blk_cell ht' 4).trans rfl
        have hf4 := blk_frozen ht' 4
        have hz5 : W'.cell? ⟨gt, 5, none⟩ = some (.int .i64 a3) := (blk_cell ht' 5).trans rfl
        have hf5 := blk_frozen ht' 5
        have hz6 : W'.cell? ⟨gt, 6, none⟩ = some (.int .i64 a4) := (blk_cell ht' 6).trans rfl
        have hf6 := blk_frozen ht' 6
        have hz7 : W'.cell? ⟨gt, 7, none⟩ = some (.int .i64 cc.f0) := (blk_cell ht' 7).trans rfl
        have hf7 := blk_frozen ht' 7
        have hz8 : W'.cell? ⟨gt, 8, none⟩ = some (.int .i64 cc.f1) := (blk_cell ht' 8).trans rfl
        have hf8 := blk_frozen ht' 8
        have hz9 : W'.cell? ⟨gt, 9, none⟩ = some (.int .i64 cc.f2) := (blk_cell ht' 9).trans rfl
        have hf9 := blk_frozen ht' 9
        have hz10 : W'.cell? ⟨gt, 10, none⟩ = some (.int .i64 cc.f3) := (blk_cell ht' 10).trans rfl
        have hf10 := blk_frozen ht' 10
        have hz11 : W'.cell? ⟨gt, 11, none⟩ = some (.int .i64 cc.f4) := (blk_cell ht' 11).trans rfl
        have hf11 := blk_frozen ht' 11
        have HT' := Aside0.mk ht'
        clear ht'
        gi_upto_region 7 with (fail)
        obtain ⟨W4, hW4⟩ : ∃ W4, (((((W'.setCell ⟨gt, 7, none⟩ (.int .i64 x0)).setCell ⟨gt, 8, none⟩ (.int .i64 x1)).setCell ⟨gt, 9, none⟩ (.int .i64 x2)).setCell ⟨gt, 10, none⟩ (.int .i64 x3)).setCell ⟨gt, 11, none⟩ (.int .i64 x4)) = W4 := ⟨_, rfl⟩
        have hb4 : W4.heap[gt]? = some (.cells (cellsTab (setCol t 1 ⟨x0, x1, x2, x3, x4⟩)).toArray 79 (0, 0)) := by rw [← hW4, HT.out]; exact ((blk_set (blk_set (blk_set (blk_set (blk_set HT'.out 7 _) 8 _) 9 _) 10 _) 11 _)).trans rfl
        have hg4 : W'.grownBy W4 (some gt) := by rw [← hW4]; exact five_grown W' gt 7 8 9 10 11 _ _ _ _ _
        rw [hW4]
        clear hW4 hz0 hf0 hz1 hf1 hz2 hf2 hz3 hf3 hz4 hf4 hz5 hf5 hz6 hf6 hz7 hf7 hz8 hf8 hz9 hf9 hz10 hf10 hz11 hf11 hx0 hx1 hx2 hx3 hx4 hBx
        have hne4 : Bo ≠ gt := fun e => by have h1 := Hh.out.st.box; have h2 := Hh.out.tab; rw [e] at h1; exact absurd (blk_ty h1 h2) (by decide)
        have he4 := keep_env HS.out (Hh.out.keep) HBe.out (by decide) (by decide)
        have hp4 := keep_env HS.out (Hh.out.keep) HBp.out (by decide) (by decide)
        have hd4 := keep_env HS.out (Hh.out.keep) HBd.out (by decide) (by decide)
        have he5 : W4.heap[Be]? = some (.cells #[.func (.func 73) #[] #[.pointer (some ⟨Bp, 0, none⟩), .pointer (some ⟨Bo, 0, none⟩), .pointer (some ⟨Bd, 0, none⟩), .pointer (some ⟨Be, 0, none⟩)]] 101 (0, 0)) := (hg4.block Be (blk_lt he4) (fun e => by cases e; exact absurd (blk_ty Hh.out.tab he4) (by decide))).trans he4
        have hp5 : W4.heap[Bp]? = some (.cells #[.int .i64 p0, .slice A rules.length c] 24 (0, 0)) := (hg4.block Bp (blk_lt hp4) (fun e => by cases e; exact absurd (blk_ty Hh.out.tab hp4) (by decide))).trans hp4
        have hd5 : W4.heap[Bd]? = some (.cells #[.int .i64 (d : Int)] 3 (0, 0)) := (hg4.block Bd (blk_lt hd4) (fun e => by cases e; exact absurd (blk_ty Hh.out.tab hd4) (by decide))).trans hd4
        have hn4 : W4.heap[gk]? = some (.cells #[.int .i64 1] 3 (0, 0)) := (hg4.block gk (blk_lt Hh.out.num) (fun e => by cases e; exact absurd (blk_ty Hh.out.tab Hh.out.num) (by decide))).trans Hh.out.num
        obtain ⟨ya, hya⟩ := catM_mem _ _ _ (show catM (fun c => collT K p0 rules d n (1 + 1) (setCol t 1 c)) (colsS d) = some ys by rw [HT.out]; exact Hq.out) ⟨x0, x1, x2, x3, x4⟩ hx
        have hcat := catM_append _ (pre.map Subtype.val) [⟨x0, x1, x2, x3, x4⟩] ys' ya Hh.out.cat (by show (collT K p0 rules d n (1 + 1) (setCol t 1 ⟨x0, x1, x2, x3, x4⟩)).bind _ = _; rw [hya]; simp [catM])
        have hlen : xs.length + ys'.length + 120 ^ n ≤ 1000000 := by
          have h1 := catM_len _ (120 ^ n) (fun x y hy => collT_len K p0 rules d hd n (1 + 1) _ y hy) _ _ Hh.out.cat
          have h2 := Nat.mul_le_mul_right (120 ^ n) (show (pre.map Subtype.val).length + 1 ≤ 120 by simp; omega)
          have h3 := HN.out
          rw [Nat.add_mul, Nat.one_mul] at h2
          rw [Nat.pow_succ, Nat.mul_comm] at h3
          omega
        have hlt0 : w0.heap.size ≤ gt := Nat.le_trans HS.out.below.size GT.out
        have hcall : Calls Try.prog 73 #[.agg #[.int .i64 g, .int .i64 d1, .int .i64 a0, .int .i64 a1, .int .i64 a2, .int .i64 a3, .int .i64 a4, .int .i64 x0, .int .i64 x1, .int .i64 x2, .int .i64 x3, .int .i64 x4], .int .i64 (1 + 1), .pointer (some ⟨Bp, 0, none⟩), .pointer (some ⟨Bo, 0, none⟩), .pointer (some ⟨Bd, 0, none⟩), .pointer (some ⟨Be, 0, none⟩)] W4 (TabsR w0 Bo v' W4 ((xs ++ ys') ++ ya)) := by
          have h := IH.out (1 + 1) (setCol t 1 ⟨x0, x1, x2, x3, x4⟩) v' (xs ++ ys') ya W4 (by rw [HT.out]; have h := Hg.out; show g = _; rw [h]; congr 1; omega) (by have := Hk2.out; omega) (Hh.out.st.far hg4 hlt0 hne4 Hh.out.ne) hp5 hd5 he5 (by simpa using hlen) hya
          rw [HT.out] at h
          exact h
        have hec : W4.cell? ⟨Be, 0, none⟩ = some (.func (.func 73) #[] #[.pointer (some ⟨Bp, 0, none⟩), .pointer (some ⟨Bo, 0, none⟩), .pointer (some ⟨Bd, 0, none⟩), .pointer (some ⟨Be, 0, none⟩)]) := (blk_cell he5 0).trans rfl
        clear hkc
        have hkc : W4.cell? ⟨gk, 0, none⟩ = some (.int .i64 1) := (blk_cell hn4 0).trans rfl
        have hy0 : W4.cell? ⟨gt, 0, none⟩ = some (.int .i64 g) := by have h := hb4; rw [HT.out] at h; exact (blk_cell h 0).trans rfl
        have hy1 : W4.cell? ⟨gt, 1, none⟩ = some (.int .i64 d1) := by have h := hb4; rw [HT.out] at h; exact (blk_cell h 1).trans rfl
        have hy2 : W4.cell? ⟨gt, 2, none⟩ = some (.int .i64 a0) := by have h := hb4; rw [HT.out] at h; exact (blk_cell h 2).trans rfl
        have hy3 : W4.cell? ⟨gt, 3, none⟩ = some (.int .i64 a1) := by have h := hb4; rw [HT.out] at h; exact (blk_cell h 3).trans rfl
        have hy4 : W4.cell? ⟨gt, 4, none⟩ = some (.int .i64 a2) := by have h := hb4; rw [HT.out] at h; exact (blk_cell h 4).trans rfl
        have hy5 : W4.cell? ⟨gt, 5, none⟩ = some (.int .i64 a3) := by have h := hb4; rw [HT.out] at h; exact (blk_cell h 5).trans rfl
        have hy6 : W4.cell? ⟨gt, 6, none⟩ = some (.int .i64 a4) := by have h := hb4; rw [HT.out] at h; exact (blk_cell h 6).trans rfl
        have hy7 : W4.cell? ⟨gt, 7, none⟩ = some (.int .i64 x0) := by have h := hb4; rw [HT.out] at h; exact (blk_cell h 7).trans rfl
        have hy8 : W4.cell? ⟨gt, 8, none⟩ = some (.int .i64 x1) := by have h := hb4; rw [HT.out] at h; exact (blk_cell h 8).trans rfl
        have hy9 : W4.cell? ⟨gt, 9, none⟩ = some (.int .i64 x2) := by have h := hb4; rw [HT.out] at h; exact (blk_cell h 9).trans rfl
        have hy10 : W4.cell? ⟨gt, 10, none⟩ = some (.int .i64 x3) := by have h := hb4; rw [HT.out] at h; exact (blk_cell h 10).trans rfl
        have hy11 : W4.cell? ⟨gt, 11, none⟩ = some (.int .i64 x4) := by have h := hb4; rw [HT.out] at h; exact (blk_cell h 11).trans rfl
        have HCALL := Aside0.mk hcall
        have HB4 := Aside0.mk hb4
        have HG4 := Aside0.mk hg4
        have HCAT := Aside0.mk hcat
        have HNE4 := Aside0.mk hne4
        have HN4 := Aside0.mk hn4
        have HLT0 := Aside0.mk hlt0
        clear hcall hb4 hg4 hcat hne4 hn4 he4 hp4 hd4 he5 hp5 hd5 hya hlen hlt0 hb3 hb23 hBd3 hW3 hct hcc0
        gi_wp2
        refine ⟨trivial, (CallsIn.inRound l (callsIn_wide.2 HCALL.out)).mono ?_⟩
        rintro e W5 ⟨rfl, v5, hS5, hK5, hO5⟩
        gi_wp2
        have hgl4 := blk_lt HB4.out
        have hs4 := HG4.out.size
        have hs0 := Hh.out.keep.size
        refine ⟨⟨Nat.le_trans hs4 hK5.size, fun i o _ hi ho => round_keeps Hh.out.st Hh.out.tab HG4.out hK5 i o hi (fun c e f h => by subst h; cases ho)⟩,
          ⟨hK5.os.trans HG4.out.os, hK5.tape.trans HG4.out.tape, hK5.output.trans HG4.out.output, Nat.le_trans hs4 hK5.size, fun i c e fz hi h1 h2 => round_keeps Hh.out.st Hh.out.tab HG4.out hK5 i _ hi (fun c' e' f' h => by cases h; exact ⟨h1, h2⟩)⟩,
          ys' ++ ya, v5, ⟨x0, x1, x2, x3, x4⟩, ?_, ?_, (Hh.out.keep.far HG4.out GT.out).trans hK5 Hh.out.own, ?_, ?_, ?_, ?_⟩
        · rw [List.map_append]; exact HCAT.out
        · rw [← List.append_assoc]; exact hS5
        · rcases hO5 with h1 | ⟨bb, h1, h2⟩
          · rw [h1]; exact Hh.out.own
          · exact Or.inr ⟨bb, h1, by omega⟩
        · exact (hK5.same gt hgl4 (fun e => HNE4.out e.symm) Hh.out.ne).trans HB4.out
        · rcases hO5 with h1 | ⟨bb, h1, h2⟩
          · rw [h1]; exact Hh.out.ne
          · rw [h1]; intro e; cases e; omega
        · exact round_keeps Hh.out.st Hh.out.tab HG4.out hK5 gk _ Hh.out.num (fun c' e' f' h => by cases h; decide)
end Go.Proofs.Ytmcihijobilcgaa.PAll
end
section
namespace Go.Proofs.Ytmcihijobilcgaa.PAll
open Go.RowKit Go.Proofs.YtmcihijobilcgaaW.PrintWords Go.Proofs.YtmcihijobilcgaaW.PrintLast Go.Proofs.YtmcihijobilcgaaW.PrintMore
def casing_tables.f (k : Nat) (a0_0 : Int) (l0_1 : List ByteArray) (a1 : Int) : Option (List S79) :=
  if 1 ≤ a1 ∧ a1 ≤ 5 ∧ 0 ≤ a0_0 ∧ a0_0 ≤ 2 then collT k a0_0 l0_1 a1.toNat a0_0.toNat 0 ⟨a0_0, a1, z77⟩ else none
set_option maxHeartbeats 8000000 in
set_option maxRecDepth 100000 in
theorem casing_tables.calls (k : Nat) (a0_0 : Int) (A0_1 : Option Addr) (c0_1 : Nat) (l0_1 : List ByteArray) (a1 : Int) (r : List (S79)) (w : World) (hr0_1 : Kd.C Kd.string w A0_1 l0_1.length l0_1) (hc0_1 : l0_1.length ≤ c0_1) (h : casing_tables.f k a0_0 l0_1 a1 = some r) :
    Calls Try.prog 50 #[.agg #[.int .i64 a0_0, .slice A0_1 l0_1.length c0_1], .int .i64 a1] w fun e w' => ∃ v0_ : Value, e = .returned (v0_) ∧ Kd.R k79 79 w' w.heap.size (fun _ => True) v0_ r ∧ Below w.heap.size w w' := by
  unfold casing_tables.f at h
  by_cases hcd : 1 ≤ a1 ∧ a1 ≤ 5 ∧ 0 ≤ a0_0 ∧ a0_0 ≤ 2
  rotate_left
  · rw [if_neg hcd] at h; cases h
  rw [if_pos hcd] at h
  obtain ⟨h1, h2, h3, h4⟩ := hcd
  obtain ⟨d, rfl⟩ := Int.eq_ofNat_of_zero_le (show 0 ≤ a1 by omega)
  obtain ⟨g, rfl⟩ := Int.eq_ofNat_of_zero_le h3
  simp only [Int.toNat_natCast] at h
  have hu79 := Try.underlying79
  have hu24 := Try.underlying24
  have HC := Aside0.mk hr0_1
  have Hc := Aside0.mk hc0_1
  have H := Aside0.mk h
  have D1 := Aside0.mk (show 1 ≤ d by omega)
  have D5 := Aside0.mk (show d ≤ 5 by omega)
  have G2 := Aside0.mk (show g ≤ 2 by omega)
  clear hr0_1 hc0_1 h h1 h2 h3 h4
  go_enter Try.func50, Try.ntmps50
  go_upto_region 4 with (fail)
  obtain ⟨W4, hW4⟩ : ∃ W4, ((((w.alloc (Obj.cells #[.int .i64 (g : Int), .slice A0_1 l0_1.length c0_1] 24)).alloc (Obj.cells #[.int .i64 (d : Int)] 3)).alloc (Obj.cells #[.slice none 0 0] 74)).alloc (Obj.cells #[.func (.func 73) #[] #[.pointer (some ⟨w.heap.size, 0, none⟩), .pointer (some ⟨w.heap.size + 1 + 1, 0, none⟩), .pointer (some ⟨w.heap.size + 1, 0, none⟩), .pointer (some ⟨w.heap.size + 1 + 1 + 1, 0, none⟩)]] 101)) = W4 := ⟨_, rfl⟩
  have hp : W4.heap[w.heap.size]? = some (.cells #[.int .i64 (g : Int), .slice A0_1 l0_1.length c0_1] 24 (0, 0)) := by
    rw [← hW4]; exact blk_alloc (blk_alloc (blk_alloc (World.alloc_heap_new w _) _) _) _
  have hd : W4.heap[w.heap.size + 1]? = some (.cells #[.int .i64 (d : Int)] 3 (0, 0)) := by
    rw [← hW4]; refine blk_alloc (blk_alloc ?_ _) _; have h := World.alloc_heap_new (w.alloc (Obj.cells #[.int .i64 (g : Int), .slice A0_1 l0_1.length c0_1] 24)) (Obj.cells #[.int .i64 (d : Int)] 3); rwa [World.size_alloc] at h
  have ho : W4.heap[w.heap.size + 1 + 1]? = some (.cells #[.slice none 0 0] 74 (0, 0)) := by
    rw [← hW4]; refine blk_alloc ?_ _; have h := World.alloc_heap_new ((w.alloc (Obj.cells #[.int .i64 (g : Int), .slice A0_1 l0_1.length c0_1] 24)).alloc (Obj.cells #[.int .i64 (d : Int)] 3)) (Obj.cells #[.slice none 0 0] 74); rwa [World.size_alloc, World.size_alloc] at h
  have he : W4.heap[w.heap.size + 1 + 1 + 1]? = some (.cells #[.func (.func 73) #[] #[.pointer (some ⟨w.heap.size, 0, none⟩), .pointer (some ⟨w.heap.size + 1 + 1, 0, none⟩), .pointer (some ⟨w.heap.size + 1, 0, none⟩), .pointer (some ⟨w.heap.size + 1 + 1 + 1, 0, none⟩)]] 101 (0, 0)) := by
    rw [← hW4]; have h := World.alloc_heap_new (((w.alloc (Obj.cells #[.int .i64 (g : Int), .slice A0_1 l0_1.length c0_1] 24)).alloc (Obj.cells #[.int .i64 (d : Int)] 3)).alloc (Obj.cells #[.slice none 0 0] 74)) (Obj.cells #[.func (.func 73) #[] #[.pointer (some ⟨w.heap.size, 0, none⟩), .pointer (some ⟨w.heap.size + 1 + 1, 0, none⟩), .pointer (some ⟨w.heap.size + 1, 0, none⟩), .pointer (some ⟨w.heap.size + 1 + 1 + 1, 0, none⟩)]] 101); rwa [World.size_alloc, World.size_alloc, World.size_alloc] at h
  have hb4 : Below w.heap.size w W4 := by rw [← hW4]; exact below_alloc (below_alloc (below_alloc (below_alloc (Below.refl _ _) _) _) _) _
  rw [hW4]
  clear hW4
  have hS : St w (w.heap.size + 1 + 1) W4 (.slice none 0 0) [] := ⟨ho, Kd.R_nil _ _ _ _ _, hb4⟩
  have hcall : Calls Try.prog 73 #[.agg #[.int .i64 (g : Int), .int .i64 (d : Int), .int .i64 0, .int .i64 0, .int .i64 0, .int .i64 0, .int .i64 0, .int .i64 0, .int .i64 0, .int .i64 0, .int .i64 0, .int .i64 0], .int .i64 0, .pointer (some ⟨w.heap.size, 0, none⟩), .pointer (some ⟨w.heap.size + 1 + 1, 0, none⟩), .pointer (some ⟨w.heap.size + 1, 0, none⟩), .pointer (some ⟨w.heap.size + 1 + 1 + 1, 0, none⟩)] W4 (TabsR w (w.heap.size + 1 + 1) (.slice none 0 0) W4 ([] ++ r)) := tabs_any k (g : Int) A0_1 c0_1 l0_1 d D1.out D5.out w w.heap.size (w.heap.size + 1 + 1) (w.heap.size + 1) (w.heap.size + 1 + 1 + 1) HC.out Hc.out (by omega) g 0 ⟨(g : Int), (d : Int), z77⟩ (.slice none 0 0) [] r W4 (by simp) (by have := G2.out; omega) hS hp hd he
    (by have h2 := G2.out; have : 120 ^ g ≤ 120 ^ 2 := Nat.pow_le_pow_right (by omega) h2; simp; omega) H.out
  have HCALL := Aside0.mk hcall
  have c0 : W4.cell? ⟨w.heap.size, 0, none⟩ = some (.int .i64 (g : Int)) := (blk_cell hp 0).trans rfl
  have c1 : W4.cell? ⟨w.heap.size + 1, 0, none⟩ = some (.int .i64 (d : Int)) := (blk_cell hd 0).trans rfl
  have c2 : W4.cell? ⟨w.heap.size + 1 + 1 + 1, 0, none⟩ = some (.func (.func 73) #[] #[.pointer (some ⟨w.heap.size, 0, none⟩), .pointer (some ⟨w.heap.size + 1 + 1, 0, none⟩), .pointer (some ⟨w.heap.size + 1, 0, none⟩), .pointer (some ⟨w.heap.size + 1 + 1 + 1, 0, none⟩)]) := (blk_cell he 0).trans rfl
  clear hcall hp hd ho he
  go_wp2_with (first | (go_at_call 73; (with_reducible refine (HCALL.out).mono ?_); rintro e W5 ⟨rfl, v5, hS5, hK5, hO5⟩; have c5 : W5.cell? ⟨w.heap.size + 1 + 1, 0, none⟩ = some v5 := (blk_cell hS5.box 0).trans rfl; obtain ⟨A5, n5, e5⟩ := Kd.R_slice hS5.row; subst e5))
  go_ret
  exact ⟨_, rfl, hS5.row, hS5.below⟩
end Go.Proofs.Ytmcihijobilcgaa.PAll
end
section
namespace Go.Proofs.Ytmcihijobilcgaa.PAll
open Go.RowKit Go.Proofs.YtmcihijobilcgaaW.PrintWords Go.Proofs.YtmcihijobilcgaaW.PrintLast Go.Proofs.YtmcihijobilcgaaW.PrintMore
attribute [local go_sem] max2_int max_two
mutual
def casing_Tables.j0 : Nat → Int → Bool → Int → List ByteArray → Option ((List (List (List Int))) × Int)
  | 0, _, _, _, _ => none
  | k + 1, x1, x16, x115000, x115001 => if x16 = true then (some (([] : List (List (List Int))), 2)) else ((casing_tables.f k x115000 x115001 x1).bind fun t117 => (casing_Tables.l0 k ([] : List (List (List Int))) t117 (t117.length : Int) 0))
def casing_Tables.l0 : Nat → List (List (List Int)) → List (S79) → Int → Int → Option ((List (List (List Int))) × Int)
  | 0, _, _, _, _ => none
  | k + 1, x6, x19, x20, x21 => if x21 < x20 then (if 0 ≤ x21 then (if x21 < (x19.length : Int) then ((casing_table_lists.f ((rd_T79 x19 x21).f0) ((rd_T79 x19 x21).f1) ((rd_T79 x19 x21).f2.f0.f0) ((rd_T79 x19 x21).f2.f0.f1) ((rd_T79 x19 x21).f2.f0.f2) ((rd_T79 x19 x21).f2.f0.f3) ((rd_T79 x19 x21).f2.f0.f4) ((rd_T79 x19 x21).f2.f1.f0) ((rd_T79 x19 x21).f2.f1.f1) ((rd_T79 x19 x21).f2.f1.f2) ((rd_T79 x19 x21).f2.f1.f3) ((rd_T79 x19 x21).f2.f1.f4)).bind fun t122 => (if x6.length < 5864062014805 then (casing_Tables.l0 k (x6 ++ [t122]) x19 x20 (wrap64 (x21 + 1))) else (none))) else (none)) else (none)) else (some (x6, 0))
end
def casing_Tables.f (k : Nat) (a0_0 : Int) (l0_1 : List ByteArray) (a1 : Int) : Option ((List (List (List Int))) × Int) := (casing_isGroup.f a0_0 l0_1).bind fun t115 => (if t115 = true then ((casing_within.f a1 1 5).bind fun t116 => (casing_Tables.j0 k a1 (!t116) a0_0 l0_1)) else (casing_Tables.j0 k a1 true a0_0 l0_1))
set_option maxHeartbeats 8000000 in
set_option maxRecDepth 100000 in
theorem casing_Tables.calls (k : Nat) (a0_0 : Int) (A0_1 : Option Addr) (c0_1 : Nat) (l0_1 : List ByteArray) (a1 : Int) (r1 : List (List (List Int))) (r2 : Int) (w : World) (hr0_1 : Kd.C Kd.string w A0_1 l0_1.length l0_1) (hc0_1 : l0_1.length ≤ c0_1) (h : casing_Tables.f k a0_0 l0_1 a1 = some (r1, r2)) :
    Calls Try.prog 15 #[.agg #[.int .i64 a0_0, .slice A0_1 l0_1.length c0_1], .int .i64 a1] w fun e w' => ∃ v0_ : Value, e = .returned (.tuple #[v0_, .int .i64 r2]) ∧ Kd.R (Kd.slice 36 (Kd.slice 3 (Kd.int .i64))) 34 w' w.heap.size (fun _ => True) v0_ r1 ∧ Below w.heap.size w w' := by
  have hu24 := Try.underlying24
  have hu79 := Try.underlying79
  have HR0_1 := Aside0.mk hr0_1
  have HC0_1 := Aside0.mk hc0_1
  clear hr0_1 hc0_1
  have HB := Aside0.mk (Below.refl w.heap.size w)
  have H : ((casing_isGroup.f a0_0 l0_1).bind fun t115 => (if t115 = true then ((casing_within.f a1 1 5).bind fun t116 => (casing_Tables.j0 k a1 (!t116) a0_0 l0_1)) else (casing_Tables.j0 k a1 true a0_0 l0_1))) = some (r1, r2) := h
  clear h
  have HC3 := Aside0.mk H
  clear H
  go_enter Try.func15, Try.ntmps15
  go_upto_region 1 with (first | ((with_reducible refine gate_dst (N := 2) rfl ?_); refine box_event ?hg (N := 2) ?hd (cs := #[.int .i64 a0_0, .slice A0_1 l0_1.length c0_1]) (t := 24) ?hr ?_; (case hd => rfl); (case hg => rfl); (case hr => first | (go_simp; done) | (go_simp; rfl)); intro gb114 hg w4 hbox hb; have BK114 := Aside0.mk (hbox); have GW114 := Aside0.mk ((by rw [hg]; exact (below_size (gr HB.out)) : w.heap.size ≤ gb114)); have GE114 := Aside0.mk ((by rw [hg]; exact (below_size (gr HB.out)) : w.heap.size ≤ gb114)); replace HB := Aside0.mk (below_step HB.out (tr hb)); clear hb hbox hg))
  (try simp only [Act.put, List.setIfInBounds_toArray, List.set_cons_zero, List.set_cons_succ])
  go_cut [16] (fun v16 wc => ∃ (kq : Nat) (x16_2 : Bool), v16 = .bool x16_2 ∧ Aside0 (casing_Tables.j0 kq a1 x16_2 a0_0 l0_1 = some (r1, r2)) ∧ Aside0 (kq ≤ k) ∧ Aside0 (wc.heap[gb114]? = some (.cells #[.int .i64 a0_0, (.slice A0_1 l0_1.length c0_1)] 24 (0, 0))) ∧ Aside0 (Below w.heap.size w wc))
  case first =>
    have H := HC3.out
    clear HC3
    replace H := Option.bind_eq_some_iff.mp H
    obtain ⟨t115, A50, H⟩ := H
    try dsimp only at H
    have A5 := Aside0.mk A50
    clear A50
    by_cases c6 : t115 = true
    rotate_left
    · replace c6 := Bool.eq_false_iff.mpr c6
      subst c6
      have H1 : (casing_Tables.j0 k a1 true a0_0 l0_1) = some (r1, r2) := by rw [if_neg (show ¬ (false = true) by decide)] at H; exact H
      clear H
      have H := H1
      clear H1
      have H' := Aside0.mk H
      clear H
      have hcz10_0 : w4.cell? ⟨gb114, 0, none⟩ = some (.int .i64 a0_0) := (blk_cell BK114.out 0).trans rfl
      have hcz10_1 : w4.cell? ⟨gb114, 1, none⟩ = some (.slice A0_1 l0_1.length c0_1) := (blk_cell BK114.out 1).trans rfl
      have hfz10_0 := blk_frozen BK114.out 0
      have hfz10_1 := blk_frozen BK114.out 1
      go_wp2_with (first | ((with_reducible refine gate_callee (f := 48) rfl ?_); refine goesL_ (some 10) rfl rfl Try.func48 (by kernel_rfl) rfl #[.agg #[.int .i64 a0_0, .slice A0_1 l0_1.length c0_1]] rfl (by (try simp only [List.map_toArray, List.map_cons, List.map_nil]); first | done | rfl | (simp only [List.length_drop, List.length_take]; rfl)) ?_; (with_reducible refine (casing_isGroup.calls a0_0 _ _ l0_1 false _ ?side1 ?side2 A5.out).mono ?_); (case side1 => repeat (first | exact (Kd.C_below HR0_1.out HB.out) | (with_reducible refine Kd.C_alloc ?_ _) | (with_reducible refine Kd.C_drewN ?_ _) | (with_reducible refine Kd.C_drew ?_))); (case side2 => exact HC0_1.out); rintro e w11 ⟨rfl, hb⟩; refine ⟨_, rfl, ?_⟩; replace BK114 := Aside0.mk (blk_below BK114.out (tr hb)); replace HB := Aside0.mk (below_step (by repeat (first | (with_reducible first | exact HB.out | apply below_alloc | apply pw_below_drewN | apply below_drew1 | refine below_set ?_ GE114.out) | exact HB.out)) hb); (try clear hb); (try clear hb2); (try clear hk); (try clear hi)))
      go_meet
      case rel => exact ⟨_, (true), (by first | rfl | (simp; done) | (simp [*]; done)), H', ⟨by first | omega | exact Nat.le_refl _⟩, ⟨by (with_reducible repeat (first | refine blk_drewN ?_ _ | refine blk_drew ?_ | refine blk_alloc ?_ _)); exact BK114.out⟩, ⟨by repeat (first | (with_reducible first | exact HB.out | apply below_alloc | apply pw_below_drewN | apply below_drew1 | refine below_set ?_ GE114.out) | exact HB.out)⟩⟩
    subst c6
    have H1 : ((casing_within.f a1 1 5).bind fun t116 => (casing_Tables.j0 k a1 (!t116) a0_0 l0_1)) = some (r1, r2) := by rw [if_pos rfl] at H; exact H
    clear H
    have H := H1
    clear H1
    replace H := Option.bind_eq_some_iff.mp H
    obtain ⟨t116, A70, H⟩ := H
    try dsimp only at H
    have A7 := Aside0.mk A70
    clear A70
    have H' := Aside0.mk H
    clear H
    have hcz8_0 : w4.cell? ⟨gb114, 0, none⟩ = some (.int .i64 a0_0) := (blk_cell BK114.out 0).trans rfl
    have hcz8_1 : w4.cell? ⟨gb114, 1, none⟩ = some (.slice A0_1 l0_1.length c0_1) := (blk_cell BK114.out 1).trans rfl
    have hfz8_0 := blk_frozen BK114.out 0
    have hfz8_1 := blk_frozen BK114.out 1
    go_wp2_with (first | ((with_reducible refine gate_callee (f := 48) rfl ?_); refine goesL_ (some 10) rfl rfl Try.func48 (by kernel_rfl) rfl #[.agg #[.int .i64 a0_0, .slice A0_1 l0_1.length c0_1]] rfl (by (try simp only [List.map_toArray, List.map_cons, List.map_nil]); first | done | rfl | (simp only [List.length_drop, List.length_take]; rfl)) ?_; (with_reducible refine (casing_isGroup.calls a0_0 _ _ l0_1 true _ ?side1 ?side2 A5.out).mono ?_); (case side1 => repeat (first | exact (Kd.C_below HR0_1.out HB.out) | (with_reducible refine Kd.C_alloc ?_ _) | (with_reducible refine Kd.C_drewN ?_ _) | (with_reducible refine Kd.C_drew ?_))); (case side2 => exact HC0_1.out); rintro e w9 ⟨rfl, hb⟩; refine ⟨_, rfl, ?_⟩; replace BK114 := Aside0.mk (blk_below BK114.out (tr hb)); replace HB := Aside0.mk (below_step (by repeat (first | (with_reducible first | exact HB.out | apply below_alloc | apply pw_below_drewN | apply below_drew1 | refine below_set ?_ GE114.out) | exact HB.out)) hb); (try clear hb); (try clear hb2); (try clear hk); (try clear hi)) | (go_at_call 49; (with_reducible refine (casing_within.calls a1 1 5 t116 _ A7.out).mono ?_); rintro e w' ⟨rfl, ⟨nd, rfl⟩⟩))
    go_meet
    case rel => exact ⟨_, (!t116), (by first | rfl | (simp; done) | (simp [*]; done)), H', ⟨by first | omega | exact Nat.le_refl _⟩, ⟨by (with_reducible repeat (first | refine blk_drewN ?_ _ | refine blk_drew ?_ | refine blk_alloc ?_ _)); exact BK114.out⟩, ⟨by repeat (first | (with_reducible first | exact HB.out | apply below_alloc | apply pw_below_drewN | apply below_drew1 | refine below_set ?_ GE114.out) | exact HB.out)⟩⟩
  case rest =>
    clear HC3
    try clear c1
    try clear p2
    try clear c4
    try clear c6
    try clear hcz10_0
    try clear hcz10_1
    try clear hcz8_0
    try clear hcz8_1
    try clear hfz10_0
    try clear hfz10_1
    try clear hfz8_0
    try clear hfz8_1
    obtain ⟨kq, x16_2, rfl, HA, HJ2, BK114, HB⟩ := hcut
    cases kq with
    | zero => exact absurd HA.out (by simp [casing_Tables.j0])
    | succ kj2 =>
      have H := HA.out
      clear HA
      simp only [casing_Tables.j0] at H
      by_cases c12 : x16_2 = true
      · subst c12
        have H1 : (some (([] : List (List (List Int))), 2)) = some (r1, r2) := by rw [if_pos rfl] at H; exact H
        clear H
        have H := H1
        clear H1
        simp only [Option.some.injEq, Prod.mk.injEq] at H
        obtain ⟨rfl, rfl⟩ := H
        go_wp2
        go_ret2
        exact ⟨_, by first | rfl | (simp [errW_none, errW_some] <;> rfl) | (simp [*, errW_none, errW_some] <;> rfl), by first | exact Kd.R_nil _ _ _ _ _ | exact Kd.N_nil _ _ _ _ _ | exact Kd.V_nil _ _ _ _ _ | exact Kd.Q_nil _ _ _ _ _ | exact Kd.S_nil _ _ _ _ _, by repeat (first | (with_reducible first | exact HB.out | apply below_alloc | apply pw_below_drewN | apply below_drew1 | refine below_set ?_ GE114.out) | exact HB.out)⟩
      replace c12 := Bool.eq_false_iff.mpr c12
      subst c12
      have H1 : ((casing_tables.f kj2 a0_0 l0_1 a1).bind fun t117 => (casing_Tables.l0 kj2 ([] : List (List (List Int))) t117 (t117.length : Int) 0)) = some (r1, r2) := by rw [if_neg (show ¬ (false = true) by decide)] at H; exact H
      clear H
      have H := H1
      clear H1
      replace H := Option.bind_eq_some_iff.mp H
      obtain ⟨t117, A130, H⟩ := H
      try dsimp only at H
      have A13 := Aside0.mk A130
      clear A130
      have H' := Aside0.mk H
      clear H
      have hcz14_0 : wc.cell? ⟨gb114, 0, none⟩ = some (.int .i64 a0_0) := (blk_cell BK114.out 0).trans rfl
      have hcz14_1 : wc.cell? ⟨gb114, 1, none⟩ = some (.slice A0_1 l0_1.length c0_1) := (blk_cell BK114.out 1).trans rfl
      have hfz14_0 := blk_frozen BK114.out 0
      have hfz14_1 := blk_frozen BK114.out 1
      go_wp2_with (first | ((with_reducible refine gate_callee (f := 50) rfl ?_); refine goesL_ (some 19) rfl rfl Try.func50 (by kernel_rfl) rfl #[.agg #[.int .i64 a0_0, .slice A0_1 l0_1.length c0_1], .int .i64 a1] rfl (by (try simp only [List.map_toArray, List.map_cons, List.map_nil]); first | done | rfl | (simp only [List.length_drop, List.length_take]; rfl)) ?_; (with_reducible refine (casing_tables.calls kj2 a0_0 _ _ l0_1 a1 t117 _ ?side1 ?side2 A13.out).mono ?_); (case side1 => repeat (first | exact (Kd.C_below HR0_1.out HB.out) | (with_reducible refine Kd.C_alloc ?_ _) | (with_reducible refine Kd.C_drewN ?_ _) | (with_reducible refine Kd.C_drew ?_))); (case side2 => exact HC0_1.out); rintro e w15 ⟨v118, rfl, ho0, hb⟩; refine ⟨_, rfl, ?_⟩; have HO119 := Aside0.mk (Kd.R_lower ho0 (below_size (by repeat (first | (with_reducible first | exact HB.out | apply below_alloc | apply pw_below_drewN | apply below_drew1 | refine below_set ?_ GE114.out) | exact HB.out)))); replace BK114 := Aside0.mk (blk_below BK114.out (tr hb)); replace HB := Aside0.mk (below_step (by repeat (first | (with_reducible first | exact HB.out | apply below_alloc | apply pw_below_drewN | apply below_drew1 | refine below_set ?_ GE114.out) | exact HB.out)) hb); (try clear hb); (try clear hb2); (try clear hk); (try clear hi); (try clear ho0); obtain ⟨Ao16, co16, eo16⟩ := Kd.R_slice HO119.out; subst eo16))
      go_loopg [6, 21] kj2 (fun kq v6 v21 w' => ∃ (x6_2 : List (List (List Int))) (x21_2 : Int), v21 = .int .i64 x21_2 ∧ Aside0 (casing_Tables.l0 kq x6_2 t117 (t117.length : Int) x21_2 = some (r1, r2)) ∧ Aside0 (kq ≤ kj2) ∧ Aside0 (Kd.R (Kd.slice 36 (Kd.slice 3 (Kd.int .i64))) 34 w' w.heap.size (fun _ => True) v6 x6_2) ∧ Aside0 (Kd.R k79 79 w' w.heap.size (fun _ => True) (.slice Ao16 t117.length co16) t117) ∧ Aside0 (w'.heap[gb114]? = some (.cells #[.int .i64 a0_0, (.slice A0_1 l0_1.length c0_1)] 24 (0, 0))) ∧ Aside0 (Below w.heap.size w w'))
      case atStart => exact ⟨(([] : List (List (List Int)))), (0), (by first | rfl | (simp; done) | (simp [*]; done)), H', ⟨Nat.le_refl _⟩, ⟨by first | exact Kd.R_nil _ _ _ _ _ | exact Kd.N_nil _ _ _ _ _ | exact Kd.V_nil _ _ _ _ _ | exact Kd.Q_nil _ _ _ _ _ | exact Kd.S_nil _ _ _ _ _⟩, ⟨by (with_reducible repeat (first | apply Kd.R_alloc | apply Kd.R_drewN | apply Kd.R_drew)); exact HO119.out⟩, ⟨by (with_reducible repeat (first | refine blk_drewN ?_ _ | refine blk_drew ?_ | refine blk_alloc ?_ _)); exact BK114.out⟩, ⟨by repeat (first | (with_reducible first | exact HB.out | apply below_alloc | apply pw_below_drewN | apply below_drew1 | refine below_set ?_ GE114.out) | exact HB.out)⟩⟩
      clear H'
      try clear c1
      try clear p2
      try clear c4
      try clear c5
      try clear c6
      try clear c12
      try clear c15
      try clear hcz10_0
      try clear hcz10_1
      try clear hcz14_0
      try clear hcz14_1
      try clear hcz8_0
      try clear hcz8_1
      try clear hfz10_0
      try clear hfz10_1
      try clear hfz14_0
      try clear hfz14_1
      try clear hfz8_0
      try clear hfz8_1
      try clear p2
      obtain ⟨x6_2, x21_2, rfl, HA, HK2, HO_6, HO_19, BK114, HB⟩ := hrel
      cases gk with
      | zero => exact absurd HA.out (by simp [casing_Tables.l0])
      | succ k2 =>
        have H := HA.out
        clear HA
        simp only [casing_Tables.l0] at H
        by_cases c17 : x21_2 < (t117.length : Int)
        rotate_left
        · rw [if_neg c17] at H
          have c17b0 : decide (x21_2 < (t117.length : Int)) = false := decide_eq_false c17
          clear c17
          simp only [Option.some.injEq, Prod.mk.injEq] at H
          obtain ⟨rfl, rfl⟩ := H
          go_wp2
          go_ret2
          exact ⟨_, by first | rfl | (simp [errW_none, errW_some] <;> rfl) | (simp [*, errW_none, errW_some] <;> rfl), by (with_reducible repeat (first | apply Kd.R_alloc | apply Kd.R_drewN | apply Kd.R_drew)); exact HO_6.out, by repeat (first | (with_reducible first | exact HB.out | apply below_alloc | apply pw_below_drewN | apply below_drew1 | refine below_set ?_ GE114.out) | exact HB.out)⟩
        rw [if_pos c17] at H
        have c17b0 : decide (x21_2 < (t117.length : Int)) = true := decide_eq_true c17
        clear c17
        by_cases c18 : 0 ≤ x21_2
        rotate_left
        · rw [if_neg c18] at H
          exact absurd H (by simp)
        rw [if_pos c18] at H
        have c18b0 : decide (0 ≤ x21_2) = true := decide_eq_true c18
        clear c18
        by_cases c19 : x21_2 < (t117.length : Int)
        rotate_left
        · rw [if_neg c19] at H
          exact absurd H (by simp)
        rw [if_pos c19] at H
        have c19b0 : decide (x21_2 < (t117.length : Int)) = true := decide_eq_true c19
        clear c19
        replace H := Option.bind_eq_some_iff.mp H
        obtain ⟨t122, A200, H⟩ := H
        try dsimp only at H
        have A20 := Aside0.mk A200
        clear A200
        by_cases c21 : x6_2.length < 5864062014805
        rotate_left
        · rw [if_neg c21] at H
          exact absurd H (by simp)
        rw [if_pos c21] at H
        have LMc21 := Aside0.mk c21
        clear c21
        obtain ⟨y125, hy125⟩ : ∃ y_ : List (List (List Int)), y_ = (x6_2 ++ [t122]) := ⟨_, rfl⟩
        replace H : (casing_Tables.l0 k2 y125 t117 (t117.length : Int) (wrap64 (x21_2 + 1))) = some (r1, r2) := by first | (rw [hy125]; with_reducible exact H) | (have H2_ := (Option.bind_some _ _).symm.trans H; rw [hy125]; with_reducible exact H2_) | (have H2_ := (Option.bind_some _ _).symm.trans H; with_reducible exact H2_) | with_reducible exact H | (rw [hy125]; exact H) | exact H
        have Ny125 := Aside0.mk hy125
        clear hy125
        have H' := Aside0.mk H
        clear H
        have p120 : 0 ≤ (x21_2 : Int) := of_decide_eq_true (by first | (with_reducible assumption) | assumption)
        have q120 : x21_2 < (t117.length : Int) := of_decide_eq_true (by first | (with_reducible assumption) | assumption)
        obtain ⟨ad120, e120, hx120_0, hx120_1, hx120_2, hx120_3, hx120_4, hx120_5, hx120_6, hx120_7, hx120_8, hx120_9, hx120_10, hx120_11⟩ := at_T79 (Kd.R_reads' HO_19.out).2.2 x21_2 p120 q120
        cases e120
        replace p120 := eq_true p120
        replace q120 := eq_true q120
        go_wp2_with (first | ((with_reducible refine gate_dst (N := 8) rfl ?_); refine box_event ?hg (N := 8) ?hd (cs := #[.int .i64 0, .int .i64 0, .int .i64 0, .int .i64 0, .int .i64 0, .int .i64 0, .int .i64 0, .int .i64 0, .int .i64 0, .int .i64 0, .int .i64 0, .int .i64 0]) (t := 79) ?hr ?_; (case hd => rfl); (case hg => rfl); (case hr => first | (go_simp; done) | (go_simp; rfl)); intro gb121 hg w22 hbox hb; have BK121 := Aside0.mk (hbox); have GW121 := Aside0.mk ((by rw [hg]; exact (below_size (by repeat (first | (with_reducible first | exact HB.out | apply below_alloc | apply pw_below_drewN | apply below_drew1 | refine below_set ?_ GE114.out) | exact HB.out))) : w.heap.size ≤ gb121)); have GE121 := Aside0.mk ((by rw [hg]; exact (below_size (by repeat (first | (with_reducible first | exact HB.out | apply below_alloc | apply pw_below_drewN | apply below_drew1 | refine below_set ?_ GE114.out) | exact HB.out))) : w.heap.size ≤ gb121)); have NB114_121 := Aside0.mk ((by rw [hg]; exact Nat.ne_of_lt (blk_lt (g := gb114) (o := .cells #[.int .i64 a0_0, .slice A0_1 l0_1.length c0_1] 24 (0, 0)) (by (with_reducible repeat (first | refine blk_drewN ?_ _ | refine blk_drew ?_ | refine blk_alloc ?_ _)); exact BK114.out)) : gb114 ≠ gb121)); have NB121_114 := Aside0.mk ((by rw [hg]; exact Nat.ne_of_gt (blk_lt (g := gb114) (o := .cells #[.int .i64 a0_0, .slice A0_1 l0_1.length c0_1] 24 (0, 0)) (by (with_reducible repeat (first | refine blk_drewN ?_ _ | refine blk_drew ?_ | refine blk_alloc ?_ _)); exact BK114.out)) : gb121 ≠ gb114)); replace HO_6 := Aside0.mk (Kd.R_below HO_6.out (tr hb)); replace HO_19 := Aside0.mk (Kd.R_below (Kd.R_elderB (by (with_reducible repeat (first | apply Kd.R_alloc | apply Kd.R_drewN | apply Kd.R_drew)); exact HO_19.out) gb121 (Nat.le_of_eq hg.symm)) hb); replace BK114 := Aside0.mk (blk_below BK114.out (tr hb)); replace HB := Aside0.mk (below_step (by repeat (first | (with_reducible first | exact HB.out | apply below_alloc | apply pw_below_drewN | apply below_drew1 | refine below_set ?_ GE114.out) | exact HB.out)) hb); clear hb hbox hg; have hnb23 := NB121_114.out; have hnc23 := NB114_121.out; have hcz24_0 : w22.cell? ⟨gb121, 0, none⟩ = some (.int .i64 0) := (blk_cell BK121.out 0).trans rfl; have hcz24_1 : w22.cell? ⟨gb121, 1, none⟩ = some (.int .i64 0) := (blk_cell BK121.out 1).trans rfl; have hcz24_2 : w22.cell? ⟨gb121, 2, none⟩ = some (.int .i64 0) := (blk_cell BK121.out 2).trans rfl; have hcz24_3 : w22.cell? ⟨gb121, 3, none⟩ = some (.int .i64 0) := (blk_cell BK121.out 3).trans rfl; have hcz24_4 : w22.cell? ⟨gb121, 4, none⟩ = some (.int .i64 0) := (blk_cell BK121.out 4).trans rfl; have hcz24_5 : w22.cell? ⟨gb121, 5, none⟩ = some (.int .i64 0) := (blk_cell BK121.out 5).trans rfl; have hcz24_6 : w22.cell? ⟨gb121, 6, none⟩ = some (.int .i64 0) := (blk_cell BK121.out 6).trans rfl; have hcz24_7 : w22.cell? ⟨gb121, 7, none⟩ = some (.int .i64 0) := (blk_cell BK121.out 7).trans rfl; have hcz24_8 : w22.cell? ⟨gb121, 8, none⟩ = some (.int .i64 0) := (blk_cell BK121.out 8).trans rfl; have hcz24_9 : w22.cell? ⟨gb121, 9, none⟩ = some (.int .i64 0) := (blk_cell BK121.out 9).trans rfl; have hcz24_10 : w22.cell? ⟨gb121, 10, none⟩ = some (.int .i64 0) := (blk_cell BK121.out 10).trans rfl; have hcz24_11 : w22.cell? ⟨gb121, 11, none⟩ = some (.int .i64 0) := (blk_cell BK121.out 11).trans rfl; have hfz24_0 := blk_frozen BK121.out 0; have hfz24_1 := blk_frozen BK121.out 1; have hfz24_2 := blk_frozen BK121.out 2; have hfz24_3 := blk_frozen BK121.out 3; have hfz24_4 := blk_frozen BK121.out 4; have hfz24_5 := blk_frozen BK121.out 5; have hfz24_6 := blk_frozen BK121.out 6; have hfz24_7 := blk_frozen BK121.out 7; have hfz24_8 := blk_frozen BK121.out 8; have hfz24_9 := blk_frozen BK121.out 9; have hfz24_10 := blk_frozen BK121.out 10; have hfz24_11 := blk_frozen BK121.out 11) | ((with_reducible refine gate_callee (f := 51) rfl ?_); refine goesL_ (some 27) rfl rfl Try.func51 (by kernel_rfl) rfl #[.agg #[.int .i64 ((rd_T79 t117 x21_2).f0), .int .i64 ((rd_T79 t117 x21_2).f1), .int .i64 ((rd_T79 t117 x21_2).f2.f0.f0), .int .i64 ((rd_T79 t117 x21_2).f2.f0.f1), .int .i64 ((rd_T79 t117 x21_2).f2.f0.f2), .int .i64 ((rd_T79 t117 x21_2).f2.f0.f3), .int .i64 ((rd_T79 t117 x21_2).f2.f0.f4), .int .i64 ((rd_T79 t117 x21_2).f2.f1.f0), .int .i64 ((rd_T79 t117 x21_2).f2.f1.f1), .int .i64 ((rd_T79 t117 x21_2).f2.f1.f2), .int .i64 ((rd_T79 t117 x21_2).f2.f1.f3), .int .i64 ((rd_T79 t117 x21_2).f2.f1.f4)]] rfl (by (try simp only [List.map_toArray, List.map_cons, List.map_nil]); first | done | rfl | (simp only [List.length_drop, List.length_take]; rfl)) ?_; (with_reducible refine (casing_table_lists.calls ((rd_T79 t117 x21_2).f0) ((rd_T79 t117 x21_2).f1) ((rd_T79 t117 x21_2).f2.f0.f0) ((rd_T79 t117 x21_2).f2.f0.f1) ((rd_T79 t117 x21_2).f2.f0.f2) ((rd_T79 t117 x21_2).f2.f0.f3) ((rd_T79 t117 x21_2).f2.f0.f4) ((rd_T79 t117 x21_2).f2.f1.f0) ((rd_T79 t117 x21_2).f2.f1.f1) ((rd_T79 t117 x21_2).f2.f1.f2) ((rd_T79 t117 x21_2).f2.f1.f3) ((rd_T79 t117 x21_2).f2.f1.f4) t122 _ A20.out).mono ?_); rintro e w25 ⟨v123, rfl, ho0, hb⟩; refine ⟨_, rfl, ?_⟩; have HO124 := Aside0.mk (Kd.S_lower ho0 (below_size (by repeat (first | (with_reducible first | exact HB.out | apply below_alloc | apply pw_below_drewN | apply below_drew1 | refine below_set ?_ GE114.out | refine below_set ?_ GE121.out) | exact HB.out)))); replace HO_6 := Aside0.mk (Kd.R_elder' (by (with_reducible repeat (first | apply Kd.R_alloc | apply Kd.R_drewN | apply Kd.R_drew)); exact (Kd.R_mono (Kd.R_far (p := ⟨gb121, 11, none⟩) (Kd.R_far (p := ⟨gb121, 10, none⟩) (Kd.R_far (p := ⟨gb121, 9, none⟩) (Kd.R_far (p := ⟨gb121, 8, none⟩) (Kd.R_far (p := ⟨gb121, 7, none⟩) (Kd.R_far (p := ⟨gb121, 6, none⟩) (Kd.R_far (p := ⟨gb121, 5, none⟩) (Kd.R_far (p := ⟨gb121, 4, none⟩) (Kd.R_far (p := ⟨gb121, 3, none⟩) (Kd.R_far (p := ⟨gb121, 2, none⟩) (Kd.R_far (p := ⟨gb121, 1, none⟩) (Kd.R_far (p := ⟨gb121, 0, none⟩) (Kd.R_types HO_6.out BK121.out (by decide)) (fun _ hk => hk.2) (.int .i64 ((rd_T79 t117 x21_2).f0))) (fun _ hk => hk.2) (.int .i64 ((rd_T79 t117 x21_2).f1))) (fun _ hk => hk.2) (.int .i64 ((rd_T79 t117 x21_2).f2.f0.f0))) (fun _ hk => hk.2) (.int .i64 ((rd_T79 t117 x21_2).f2.f0.f1))) (fun _ hk => hk.2) (.int .i64 ((rd_T79 t117 x21_2).f2.f0.f2))) (fun _ hk => hk.2) (.int .i64 ((rd_T79 t117 x21_2).f2.f0.f3))) (fun _ hk => hk.2) (.int .i64 ((rd_T79 t117 x21_2).f2.f0.f4))) (fun _ hk => hk.2) (.int .i64 ((rd_T79 t117 x21_2).f2.f1.f0))) (fun _ hk => hk.2) (.int .i64 ((rd_T79 t117 x21_2).f2.f1.f1))) (fun _ hk => hk.2) (.int .i64 ((rd_T79 t117 x21_2).f2.f1.f2))) (fun _ hk => hk.2) (.int .i64 ((rd_T79 t117 x21_2).f2.f1.f3))) (fun _ hk => hk.2) (.int .i64 ((rd_T79 t117 x21_2).f2.f1.f4))) (fun _ h_ => h_.1))) (Kd.S_base ho0) hb); replace HO_19 := Aside0.mk (Kd.R_below (by (with_reducible repeat (first | apply Kd.R_alloc | apply Kd.R_drewN | apply Kd.R_drew)); exact (Kd.R_mono (Kd.R_far (p := ⟨gb121, 11, none⟩) (Kd.R_far (p := ⟨gb121, 10, none⟩) (Kd.R_far (p := ⟨gb121, 9, none⟩) (Kd.R_far (p := ⟨gb121, 8, none⟩) (Kd.R_far (p := ⟨gb121, 7, none⟩) (Kd.R_far (p := ⟨gb121, 6, none⟩) (Kd.R_far (p := ⟨gb121, 5, none⟩) (Kd.R_far (p := ⟨gb121, 4, none⟩) (Kd.R_far (p := ⟨gb121, 3, none⟩) (Kd.R_far (p := ⟨gb121, 2, none⟩) (Kd.R_far (p := ⟨gb121, 1, none⟩) (Kd.R_far (p := ⟨gb121, 0, none⟩) (Kd.R_mono HO_19.out (fun k_ hk => (⟨hk, hk.2⟩ : _ ∧ k_ ≠ gb121))) (fun _ hk => hk.2) (.int .i64 ((rd_T79 t117 x21_2).f0))) (fun _ hk => hk.2) (.int .i64 ((rd_T79 t117 x21_2).f1))) (fun _ hk => hk.2) (.int .i64 ((rd_T79 t117 x21_2).f2.f0.f0))) (fun _ hk => hk.2) (.int .i64 ((rd_T79 t117 x21_2).f2.f0.f1))) (fun _ hk => hk.2) (.int .i64 ((rd_T79 t117 x21_2).f2.f0.f2))) (fun _ hk => hk.2) (.int .i64 ((rd_T79 t117 x21_2).f2.f0.f3))) (fun _ hk => hk.2) (.int .i64 ((rd_T79 t117 x21_2).f2.f0.f4))) (fun _ hk => hk.2) (.int .i64 ((rd_T79 t117 x21_2).f2.f1.f0))) (fun _ hk => hk.2) (.int .i64 ((rd_T79 t117 x21_2).f2.f1.f1))) (fun _ hk => hk.2) (.int .i64 ((rd_T79 t117 x21_2).f2.f1.f2))) (fun _ hk => hk.2) (.int .i64 ((rd_T79 t117 x21_2).f2.f1.f3))) (fun _ hk => hk.2) (.int .i64 ((rd_T79 t117 x21_2).f2.f1.f4))) (fun _ h_ => h_.1))) hb); replace BK114 := Aside0.mk (blk_below (g := gb114) (o := .cells #[.int .i64 a0_0, .slice A0_1 l0_1.length c0_1] 24 (0, 0)) (by (with_reducible repeat (first | refine blk_drewN ?_ _ | refine blk_drew ?_ | refine blk_alloc ?_ _)); refine blk_far ?_ NB114_121.out _; (with_reducible repeat (first | refine blk_drewN ?_ _ | refine blk_drew ?_ | refine blk_alloc ?_ _)); refine blk_far ?_ NB114_121.out _; (with_reducible repeat (first | refine blk_drewN ?_ _ | refine blk_drew ?_ | refine blk_alloc ?_ _)); refine blk_far ?_ NB114_121.out _; (with_reducible repeat (first | refine blk_drewN ?_ _ | refine blk_drew ?_ | refine blk_alloc ?_ _)); refine blk_far ?_ NB114_121.out _; (with_reducible repeat (first | refine blk_drewN ?_ _ | refine blk_drew ?_ | refine blk_alloc ?_ _)); refine blk_far ?_ NB114_121.out _; (with_reducible repeat (first | refine blk_drewN ?_ _ | refine blk_drew ?_ | refine blk_alloc ?_ _)); refine blk_far ?_ NB114_121.out _; (with_reducible repeat (first | refine blk_drewN ?_ _ | refine blk_drew ?_ | refine blk_alloc ?_ _)); refine blk_far ?_ NB114_121.out _; (with_reducible repeat (first | refine blk_drewN ?_ _ | refine blk_drew ?_ | refine blk_alloc ?_ _)); refine blk_far ?_ NB114_121.out _; (with_reducible repeat (first | refine blk_drewN ?_ _ | refine blk_drew ?_ | refine blk_alloc ?_ _)); refine blk_far ?_ NB114_121.out _; (with_reducible repeat (first | refine blk_drewN ?_ _ | refine blk_drew ?_ | refine blk_alloc ?_ _)); refine blk_far ?_ NB114_121.out _; (with_reducible repeat (first | refine blk_drewN ?_ _ | refine blk_drew ?_ | refine blk_alloc ?_ _)); refine blk_far ?_ NB114_121.out _; (with_reducible repeat (first | refine blk_drewN ?_ _ | refine blk_drew ?_ | refine blk_alloc ?_ _)); refine blk_far ?_ NB114_121.out _; (with_reducible repeat (first | refine blk_drewN ?_ _ | refine blk_drew ?_ | refine blk_alloc ?_ _)); exact BK114.out) hb); replace BK121 := Aside0.mk (blk_below (g := gb121) (o := .cells #[.int .i64 ((rd_T79 t117 x21_2).f0), .int .i64 ((rd_T79 t117 x21_2).f1), .int .i64 ((rd_T79 t117 x21_2).f2.f0.f0), .int .i64 ((rd_T79 t117 x21_2).f2.f0.f1), .int .i64 ((rd_T79 t117 x21_2).f2.f0.f2), .int .i64 ((rd_T79 t117 x21_2).f2.f0.f3), .int .i64 ((rd_T79 t117 x21_2).f2.f0.f4), .int .i64 ((rd_T79 t117 x21_2).f2.f1.f0), .int .i64 ((rd_T79 t117 x21_2).f2.f1.f1), .int .i64 ((rd_T79 t117 x21_2).f2.f1.f2), .int .i64 ((rd_T79 t117 x21_2).f2.f1.f3), .int .i64 ((rd_T79 t117 x21_2).f2.f1.f4)] 79 (0, 0)) (by (with_reducible repeat (first | refine blk_drewN ?_ _ | refine blk_drew ?_ | refine blk_alloc ?_ _)); refine blk_put (cs := #[.int .i64 ((rd_T79 t117 x21_2).f0), .int .i64 ((rd_T79 t117 x21_2).f1), .int .i64 ((rd_T79 t117 x21_2).f2.f0.f0), .int .i64 ((rd_T79 t117 x21_2).f2.f0.f1), .int .i64 ((rd_T79 t117 x21_2).f2.f0.f2), .int .i64 ((rd_T79 t117 x21_2).f2.f0.f3), .int .i64 ((rd_T79 t117 x21_2).f2.f0.f4), .int .i64 ((rd_T79 t117 x21_2).f2.f1.f0), .int .i64 ((rd_T79 t117 x21_2).f2.f1.f1), .int .i64 ((rd_T79 t117 x21_2).f2.f1.f2), .int .i64 ((rd_T79 t117 x21_2).f2.f1.f3), .int .i64 0]) ?_ 11 _ rfl; (with_reducible repeat (first | refine blk_drewN ?_ _ | refine blk_drew ?_ | refine blk_alloc ?_ _)); refine blk_put (cs := #[.int .i64 ((rd_T79 t117 x21_2).f0), .int .i64 ((rd_T79 t117 x21_2).f1), .int .i64 ((rd_T79 t117 x21_2).f2.f0.f0), .int .i64 ((rd_T79 t117 x21_2).f2.f0.f1), .int .i64 ((rd_T79 t117 x21_2).f2.f0.f2), .int .i64 ((rd_T79 t117 x21_2).f2.f0.f3), .int .i64 ((rd_T79 t117 x21_2).f2.f0.f4), .int .i64 ((rd_T79 t117 x21_2).f2.f1.f0), .int .i64 ((rd_T79 t117 x21_2).f2.f1.f1), .int .i64 ((rd_T79 t117 x21_2).f2.f1.f2), .int .i64 0, .int .i64 0]) ?_ 10 _ rfl; (with_reducible repeat (first | refine blk_drewN ?_ _ | refine blk_drew ?_ | refine blk_alloc ?_ _)); refine blk_put (cs := #[.int .i64 ((rd_T79 t117 x21_2).f0), .int .i64 ((rd_T79 t117 x21_2).f1), .int .i64 ((rd_T79 t117 x21_2).f2.f0.f0), .int .i64 ((rd_T79 t117 x21_2).f2.f0.f1), .int .i64 ((rd_T79 t117 x21_2).f2.f0.f2), .int .i64 ((rd_T79 t117 x21_2).f2.f0.f3), .int .i64 ((rd_T79 t117 x21_2).f2.f0.f4), .int .i64 ((rd_T79 t117 x21_2).f2.f1.f0), .int .i64 ((rd_T79 t117 x21_2).f2.f1.f1), .int .i64 0, .int .i64 0, .int .i64 0]) ?_ 9 _ rfl; (with_reducible repeat (first | refine blk_drewN ?_ _ | refine blk_drew ?_ | refine blk_alloc ?_ _)); refine blk_put (cs := #[.int .i64 ((rd_T79 t117 x21_2).f0), .int .i64 ((rd_T79 t117 x21_2).f1), .int .i64 ((rd_T79 t117 x21_2).f2.f0.f0), .int .i64 ((rd_T79 t117 x21_2).f2.f0.f1), .int .i64 ((rd_T79 t117 x21_2).f2.f0.f2), .int .i64 ((rd_T79 t117 x21_2).f2.f0.f3), .int .i64 ((rd_T79 t117 x21_2).f2.f0.f4), .int .i64 ((rd_T79 t117 x21_2).f2.f1.f0), .int .i64 0, .int .i64 0, .int .i64 0, .int .i64 0]) ?_ 8 _ rfl; (with_reducible repeat (first | refine blk_drewN ?_ _ | refine blk_drew ?_ | refine blk_alloc ?_ _)); refine blk_put (cs := #[.int .i64 ((rd_T79 t117 x21_2).f0), .int .i64 ((rd_T79 t117 x21_2).f1), .int .i64 ((rd_T79 t117 x21_2).f2.f0.f0), .int .i64 ((rd_T79 t117 x21_2).f2.f0.f1), .int .i64 ((rd_T79 t117 x21_2).f2.f0.f2), .int .i64 ((rd_T79 t117 x21_2).f2.f0.f3), .int .i64 ((rd_T79 t117 x21_2).f2.f0.f4), .int .i64 0, .int .i64 0, .int .i64 0, .int .i64 0, .int .i64 0]) ?_ 7 _ rfl; (with_reducible repeat (first | refine blk_drewN ?_ _ | refine blk_drew ?_ | refine blk_alloc ?_ _)); refine blk_put (cs := #[.int .i64 ((rd_T79 t117 x21_2).f0), .int .i64 ((rd_T79 t117 x21_2).f1), .int .i64 ((rd_T79 t117 x21_2).f2.f0.f0), .int .i64 ((rd_T79 t117 x21_2).f2.f0.f1), .int .i64 ((rd_T79 t117 x21_2).f2.f0.f2), .int .i64 ((rd_T79 t117 x21_2).f2.f0.f3), .int .i64 0, .int .i64 0, .int .i64 0, .int .i64 0, .int .i64 0, .int .i64 0]) ?_ 6 _ rfl; (with_reducible repeat (first | refine blk_drewN ?_ _ | refine blk_drew ?_ | refine blk_alloc ?_ _)); refine blk_put (cs := #[.int .i64 ((rd_T79 t117 x21_2).f0), .int .i64 ((rd_T79 t117 x21_2).f1), .int .i64 ((rd_T79 t117 x21_2).f2.f0.f0), .int .i64 ((rd_T79 t117 x21_2).f2.f0.f1), .int .i64 ((rd_T79 t117 x21_2).f2.f0.f2), .int .i64 0, .int .i64 0, .int .i64 0, .int .i64 0, .int .i64 0, .int .i64 0, .int .i64 0]) ?_ 5 _ rfl; (with_reducible repeat (first | refine blk_drewN ?_ _ | refine blk_drew ?_ | refine blk_alloc ?_ _)); refine blk_put (cs := #[.int .i64 ((rd_T79 t117 x21_2).f0), .int .i64 ((rd_T79 t117 x21_2).f1), .int .i64 ((rd_T79 t117 x21_2).f2.f0.f0), .int .i64 ((rd_T79 t117 x21_2).f2.f0.f1), .int .i64 0, .int .i64 0, .int .i64 0, .int .i64 0, .int .i64 0, .int .i64 0, .int .i64 0, .int .i64 0]) ?_ 4 _ rfl; (with_reducible repeat (first | refine blk_drewN ?_ _ | refine blk_drew ?_ | refine blk_alloc ?_ _)); refine blk_put (cs := #[.int .i64 ((rd_T79 t117 x21_2).f0), .int .i64 ((rd_T79 t117 x21_2).f1), .int .i64 ((rd_T79 t117 x21_2).f2.f0.f0), .int .i64 0, .int .i64 0, .int .i64 0, .int .i64 0, .int .i64 0, .int .i64 0, .int .i64 0, .int .i64 0, .int .i64 0]) ?_ 3 _ rfl; (with_reducible repeat (first | refine blk_drewN ?_ _ | refine blk_drew ?_ | refine blk_alloc ?_ _)); refine blk_put (cs := #[.int .i64 ((rd_T79 t117 x21_2).f0), .int .i64 ((rd_T79 t117 x21_2).f1), .int .i64 0, .int .i64 0, .int .i64 0, .int .i64 0, .int .i64 0, .int .i64 0, .int .i64 0, .int .i64 0, .int .i64 0, .int .i64 0]) ?_ 2 _ rfl; (with_reducible repeat (first | refine blk_drewN ?_ _ | refine blk_drew ?_ | refine blk_alloc ?_ _)); refine blk_put (cs := #[.int .i64 ((rd_T79 t117 x21_2).f0), .int .i64 0, .int .i64 0, .int .i64 0, .int .i64 0, .int .i64 0, .int .i64 0, .int .i64 0, .int .i64 0, .int .i64 0, .int .i64 0, .int .i64 0]) ?_ 1 _ rfl; (with_reducible repeat (first | refine blk_drewN ?_ _ | refine blk_drew ?_ | refine blk_alloc ?_ _)); refine blk_put (cs := #[.int .i64 0, .int .i64 0, .int .i64 0, .int .i64 0, .int .i64 0, .int .i64 0, .int .i64 0, .int .i64 0, .int .i64 0, .int .i64 0, .int .i64 0, .int .i64 0]) ?_ 0 _ rfl; (with_reducible repeat (first | refine blk_drewN ?_ _ | refine blk_drew ?_ | refine blk_alloc ?_ _)); exact BK121.out) hb); replace HB := Aside0.mk (below_step (by repeat (first | (with_reducible first | exact HB.out | apply below_alloc | apply pw_below_drewN | apply below_drew1 | refine below_set ?_ GE114.out | refine below_set ?_ GE121.out) | exact HB.out)) hb); (try clear hb); (try clear hb2); (try clear hk); (try clear hi); (try clear ho0); obtain ⟨Ao27, co27, eo27⟩ := Kd.S_slice HO124.out; subst eo27) | ((with_reducible refine gate_builtin (b := .append) (xs := #[.tmp 25, .tmp 28]) rfl ?_); at_builtin; refine Kd.R_append (Kd.slice 36 (Kd.slice 3 (Kd.int .i64))) (w0 := w) w.heap.size rfl (.tmp 25) (.tmp 28) 26 34 (.slice none 0 0) 24 rfl Try.underlying26 info34 rfl (by decide) (by omega) u6 x6_2 t122 [.slice Ao27 t122.length co27] (fun _ => True) (fun k_ => ((fun _ => True)) k_ ∧ some k_ ≠ (u6 : Value).ownBlock) rfl rfl ?aP (fun _ hk => hk) ?aF ?aO ?aB ?aS ?aL ?_; (case aP => exact Kd.M_row (Kd.R_mono (Kd.R_apart' ((Kd.S_R HO124.out)) (Kd.R_typed HO_6.out) (by decide)) (fun k_ hk => ⟨trivial, hk.2⟩))); (case aB => exact (by repeat (first | (with_reducible first | exact HB.out | apply below_alloc | apply pw_below_drewN | apply below_drew1 | refine below_set ?_ GE114.out | refine below_set ?_ GE121.out) | exact HB.out))); (case aF => exact (fun _ _ => trivial)); (case aO => exact (by (with_reducible repeat (first | apply Kd.R_alloc | apply Kd.R_drewN | apply Kd.R_drew)); exact Kd.R_mono HO_6.out (fun _ hk => trivial))); (case aS => exact (below_size (by repeat (first | (with_reducible first | exact HB.out | apply below_alloc | apply pw_below_drewN | apply below_drew1 | refine below_set ?_ GE114.out | refine below_set ?_ GE121.out) | exact HB.out)))); (case aL => have := LMc21.out; omega); intro v126 w26 ho hb hg hat; rw [← Ny125.out] at ho; have HO127 := Aside0.mk (ho); replace HO_19 := Aside0.mk (Kd.R_over' (by (with_reducible repeat (first | apply Kd.R_alloc | apply Kd.R_drewN | apply Kd.R_drew)); exact HO_19.out) (Kd.R_typed (by (with_reducible repeat (first | apply Kd.R_alloc | apply Kd.R_drewN | apply Kd.R_drew)); exact HO_6.out)) (by decide) hg); replace BK114 := Aside0.mk (blk_grown (g := gb114) (o := .cells #[.int .i64 a0_0, .slice A0_1 l0_1.length c0_1] 24 (0, 0)) (by (with_reducible repeat (first | refine blk_drewN ?_ _ | refine blk_drew ?_ | refine blk_alloc ?_ _)); exact BK114.out) hg (Kd.R_ne HO_6.out BK114.out (by decide))); replace BK121 := Aside0.mk (blk_grown (g := gb121) (o := .cells #[.int .i64 ((rd_T79 t117 x21_2).f0), .int .i64 ((rd_T79 t117 x21_2).f1), .int .i64 ((rd_T79 t117 x21_2).f2.f0.f0), .int .i64 ((rd_T79 t117 x21_2).f2.f0.f1), .int .i64 ((rd_T79 t117 x21_2).f2.f0.f2), .int .i64 ((rd_T79 t117 x21_2).f2.f0.f3), .int .i64 ((rd_T79 t117 x21_2).f2.f0.f4), .int .i64 ((rd_T79 t117 x21_2).f2.f1.f0), .int .i64 ((rd_T79 t117 x21_2).f2.f1.f1), .int .i64 ((rd_T79 t117 x21_2).f2.f1.f2), .int .i64 ((rd_T79 t117 x21_2).f2.f1.f3), .int .i64 ((rd_T79 t117 x21_2).f2.f1.f4)] 79 (0, 0)) (by (with_reducible repeat (first | refine blk_drewN ?_ _ | refine blk_drew ?_ | refine blk_alloc ?_ _)); exact BK121.out) hg (Kd.R_ne HO_6.out BK121.out (by decide))); replace HB := Aside0.mk (hb); clear HO_6 HO124; clear ho hb hg hat))
        go_roundg k2
        case measure => have := HJ2.out; have := HK2.out; omega
        case rel => exact ⟨(y125), (wrap64 (x21_2 + 1)), (by first | rfl | (simp; done) | (simp [*]; done)), H', ⟨by have := HJ2.out; have := HK2.out; omega⟩, ⟨by (with_reducible repeat (first | apply Kd.R_alloc | apply Kd.R_drewN | apply Kd.R_drew)); exact HO127.out⟩, ⟨by (with_reducible repeat (first | apply Kd.R_alloc | apply Kd.R_drewN | apply Kd.R_drew)); exact Kd.R_mono HO_19.out (fun _ hk => trivial)⟩, ⟨by (with_reducible repeat (first | refine blk_drewN ?_ _ | refine blk_drew ?_ | refine blk_alloc ?_ _)); exact BK114.out⟩, ⟨by repeat (first | (with_reducible first | exact HB.out | apply below_alloc | apply pw_below_drewN | apply below_drew1 | refine below_set ?_ GE114.out | refine below_set ?_ GE121.out) | exact HB.out)⟩⟩
end Go.Proofs.Ytmcihijobilcgaa.PAll
end
