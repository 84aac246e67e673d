/- The law CasingMeeting returns true for every input: what a Meet of two standard tables is. No condition. Part 3 of 4. -/
import Derived.Lib.SpaceUEq
import Derived.Test.YtifkldehbaphgaaCCasingMeeting1
set_option linter.all false
set_option maxHeartbeats 8000000
set_option maxRecDepth 100000
section
namespace Go.Proofs.Ytifkldehbaphgaa.PAll
open Go.RowKit Go.PW.PrintWords Go.PW.PrintLast Go.PW.PrintMore
attribute [local go_sem] max2_int min2_int max_two min_two
mutual
def rr_Renumber.l0 : Nat → List (List Int) → List Int → List Int → Int → Option ((List (List Int)))
 | 0, _, _, _, _ => none
 | k + 1, x0, x5, x7, x8 => if x8 < (x5.length : Int) then (if 0 ≤ x8 then (if 0 ≤ (rd x5 x8) then (if (rd x5 x8) < (x7.length : Int) then (rr_Renumber.l0 k x0 x5 (x7.set ((rd x5 x8) : Int).toNat x8) (wrap64 (x8 + 1))) else (none)) else (none)) else (none)) else (rr_Renumber.l1 k x0 x5 x7 ([] : List (List Int)) 0)
def rr_Renumber.l1 : Nat → List (List Int) → List Int → List Int → List (List Int) → Int → Option ((List (List Int)))
 | 0, _, _, _, _, _ => none
 | k + 1, x0, x5, x7, x9, x10 => if x10 < (x0.length : Int) then (rr_Renumber.l2 k x0 x5 x7 x9 x10 ([] : List Int) 0) else (some x9)
def rr_Renumber.l2 : Nat → List (List Int) → List Int → List Int → List (List Int) → Int → List Int → Int → Option ((List (List Int)))
 | 0, _, _, _, _, _, _, _ => none
 | k + 1, x0, x5, x7, x9, x10, x11, x12 => if x12 < (x5.length : Int) then (if 0 ≤ x10 then (if x10 < (x0.length : Int) then (if 0 ≤ x12 then (if 0 ≤ (rd x5 x12) then (if (rd x5 x12) < ((rd_L1 x0 x10).length : Int) then (if 0 ≤ (rd (rd_L1 x0 x10) (rd x5 x12)) then (if (rd (rd_L1 x0 x10) (rd x5 x12)) < (x7.length : Int) then (if x11.length < 17592186044416 then (rr_Renumber.l2 k x0 x5 x7 x9 x10 (x11 ++ [rd x7 (rd (rd_L1 x0 x10) (rd x5 x12))]) (wrap64 (x12 + 1))) else (none)) else (none)) else (none)) else (none)) else (none)) else (none)) else (none)) else (none)) else (if x9.length < 5864062014805 then (rr_Renumber.l1 k x0 x5 x7 (x9 ++ [x11]) (wrap64 (x10 + 1))) else (none))
end
def rr_Renumber.f (k : Nat) (l0 : List (List Int)) (a1 : Int) : Option ((List (List Int))) := (rr_numbering.f k l0 a1).bind fun bt132 => (if 0 ≤ (bt132.1.length : Int) then (if ((bt132.1.length : Int) : Int).toNat ≤ 35184372088832 then (rr_Renumber.l0 k l0 bt132.1 (List.replicate ((bt132.1.length : Int) : Int).toNat 0) 0) else (none)) else (none))
def rr_Renumber.T15 : Bool × List (List Nat × List Nat) := (true, [([], []), ([], []), ([], []), ([], []), ([2, 3], [2, 3]), ([4], [4]), ([], []), ([], []), ([6, 7], [6, 7]), ([8], [8]), ([5, 9], [5, 9]), ([10], [10]), ([1, 11], [1, 11]), ([12], [12]), ([13], [13]), ([0, 14], [0, 14]), ([15, 15, 0, 1, 2, 3, 4, 5, 6, 7, 8, 9, 10, 11, 12, 13, 14, 15], [0, 15])])
def rr_Renumber.B15 : List Nat := [0, 0, 0, 0, 12, 28, 0, 0, 192, 448, 1020, 2044, 4094, 8190, 16382, 32767, 65535]
theorem rr_Renumber.tab15 : rtab .any (opsOf Try.f32 15) = rr_Renumber.T15 := by kernel_rfl
theorem rr_Renumber.bits15 : waitsOk rr_Renumber.T15.2 rr_Renumber.B15 = true := by kernel_rfl
theorem rr_Renumber.calls (k : Nat) (A0 : Option Addr) (c0 : Nat) (l0 : List (List Int)) (a1 : Int) (r : List (List Int)) (w : World) (hr0 : Kd.C (Kd.slice 3 (Kd.int .i64)) w A0 l0.length l0) (hc0 : l0.length ≤ c0) (h : rr_Renumber.f k l0 a1 = some r) :
  Calls Try.prog 32 #[.slice A0 l0.length c0, .int .i64 a1] w fun e w' => ∃ v0_ : Value, e = .returned (v0_) ∧ Kd.S (Kd.slice 3 (Kd.int .i64)) 22 w' w.heap.size (fun _ => True) v0_ r ∧ Below w.heap.size w w' := by
 have HR0 := a_ hr0
 have HC0 := a_ hc0
 clear hr0 hc0
 have HB := a_ (Below.refl w.heap.size w)
 have H : ((rr_numbering.f k l0 a1).bind fun bt132 => (if 0 ≤ (bt132.1.length : Int) then (if ((bt132.1.length : Int) : Int).toNat ≤ 35184372088832 then (rr_Renumber.l0 k l0 bt132.1 (List.replicate ((bt132.1.length : Int) : Int).toNat 0) 0) else (none)) else (none))) = some r := h
 clear h
 replace H := Option.bind_eq_some_iff.mp H
 obtain ⟨⟨t132, t133⟩, A30, H⟩ := H
 try dsimp only at H
 have A3 := a_ A30
 clear A30
 by_cases c4 : 0 ≤ (t132.length : Int)
 rotate_left
 ·rw [if_neg c4] at H
  exact absurd H (by simp)
 rw [if_pos c4] at H
 have c4b0 := eq_true c4
 have c4b1 : decide (0 ≤ (t132.length : Int)) = true := decide_eq_true c4
 have KFc4 := a_ c4
 clear c4
 by_cases c5 : ((t132.length : Int) : Int).toNat ≤ 35184372088832
 rotate_left
 ·rw [if_neg c5] at H
  exact absurd H (by simp)
 rw [if_pos c5] at H
 have c5b0 := eq_true c5
 have c5b1 : decide (((t132.length : Int) : Int).toNat ≤ 35184372088832) = true := decide_eq_true c5
 clear c5
 obtain ⟨y138, hy138⟩ : ∃ y_ : List Int, y_ = (List.replicate ((t132.length : Int) : Int).toNat 0) := ⟨_, rfl⟩
 replace H : (rr_Renumber.l0 k l0 t132 y138 0) = some r := by first | (rw [hy138]; with_reducible exact H) | (have H2_ := (Option.bind_some _ _).symm.trans H; rw [hy138]; with_reducible exact H2_) | (have H2_ := (Option.bind_some _ _).symm.trans H; with_reducible exact H2_) | with_reducible exact H | (rw [hy138]; exact H) | exact H
 have Ny138 := a_ hy138
 clear hy138
 have H' := a_ H
 clear H
 go_enter Try.func32, Try.ntmps32
 go_wp2_with (first | ((with_reducible refine gate_callee (f := 67) rfl ?_); refine goesL_ (some 16) rfl rfl Try.func67 (by kernel_rfl) rfl #[.slice A0 l0.length c0, .int .i64 a1] rfl (by (try simp only [List.map_toArray, List.map_cons, List.map_nil]); first | done | rfl | (simp only [List.length_drop, List.length_take]; rfl)) ?_; (with_reducible refine (rr_numbering.calls k _ _ l0 a1 t132 t133 _ ?side1 ?side2 A3.out).mono ?_); (case side1 => repeat (first | exact HR0.out | (with_reducible refine Kd.C_alloc ?_ _) | (with_reducible refine Kd.C_drewN ?_ _) | (with_reducible refine Kd.C_drew ?_))); (case side2 => exact HC0.out); rintro e w6 ⟨v134, v136, rfl, ho0, ho1, hb⟩; refine ⟨_, rfl, ?_⟩; have HO135 := a_ (Kd.R_lower ho0 (bZ_ (gr HB.out))); have HO137 := a_ (Kd.R_lower ho1 (bZ_ (gr HB.out))); replace HB := a_ (bT_ HB.out (tr hb)); (try clear hb); (try clear hb2); (try clear hk); (try clear hi); (try clear ho0); (try clear ho1); obtain ⟨Ao7, co7, eo7⟩ := Kd.R_slice HO135.out; subst eo7) | ((with_reducible refine gate_dst (N := 21) rfl ?_); refine Kd.R_make (Kd.int .i64) _ 3 rfl (N := 21) rfl 22 _ _ rfl (t132.length : Int) rfl rfl Try.underlying22 (.int .i64 0) 8 info3 rfl (by decide) (by omega) 0 (ok := fun _ => True) (okp := fun _ => True) rfl (fun _ hk => hk) trivial (of_decide_eq_true (by first | (with_reducible assumption) | assumption)) (Nat.le_trans (Nat.mul_le_mul_right _ (of_decide_eq_true (by first | (with_reducible assumption) | assumption) : (t132.length : Int).toNat ≤ 35184372088832)) (by omega)) (Below.refl _ _) (Nat.le_refl _) ?_; intro v139 w8 ho9 hb hg_ hnew_; clear hg_ hnew_; (first | rw [← Ny138.out] at ho9 | (simp only [Int.reduceToNat] at ho9; rw [← Ny138.out] at ho9)); have HO140 := a_ (Kd.R_lower (Kd.R_new' ho9 (Kd.R_lt (by exact rk HO135.out))) (bZ_ (gr HB.out))); replace HO135 := a_ (Kd.R_elder' (by exact rk HO135.out) (Kd.R_base ho9) hb); replace HO137 := a_ (Kd.R_below HO137.out (tr hb)); replace HB := a_ (bT_ HB.out (tr hb)); clear hb ho9))
 go_loopg [8] k (fun kq v8 w' => ∃ (x7_1 : List Int) (x8_1 : Int), v8 = .int .i64 x8_1 ∧ Aside0 (rr_Renumber.l0 kq l0 t132 x7_1 x8_1 = some r) ∧ Aside0 (kq ≤ k) ∧ Aside0 (Kd.R (Kd.int .i64) 3 w' w.heap.size (fun k_ => some k_ ≠ (v139 : Value).ownBlock) (.slice Ao7 t132.length co7) t132) ∧ Aside0 (Kd.R (Kd.int .i64) 3 w' w.heap.size (fun k_ => some k_ ≠ ((.slice Ao7 t132.length co7) : Value).ownBlock) v139 x7_1) ∧ Aside0 (Below w.heap.size w w'))
 case atStart => exact ⟨(y138), (0), (by first | rfl | (simp; done) | (simp [*]; done)), H', ⟨Nat.le_refl _⟩, ⟨by exact rk (Kd.R_mono HO135.out (fun _ hk => hk.2))⟩, ⟨by exact rk (Kd.R_mono HO140.out (fun _ hk => hk.2))⟩, ⟨by exact gs HB.out⟩⟩
 clear H'
 try clear p2
 try clear c3
 try clear c4
 try clear c4b0
 try clear c4b1
 try clear c5
 try clear c5b0
 try clear c5b1
 try clear c6
 obtain ⟨x7_1, x8_1, rfl, HA, HK1, HO_5, HO_7, HB⟩ := hrel
 cases gk with
 | zero => exact absurd HA.out (by simp [rr_Renumber.l0])
 | succ k1 =>
  have H := HA.out
  clear HA
  simp only [rr_Renumber.l0] at H
  by_cases c10 : x8_1 < (t132.length : Int)
  ·rw [if_pos c10] at H
   have c10b0 : decide (x8_1 < (t132.length : Int)) = true := decide_eq_true c10
   clear c10
   by_cases c11 : 0 ≤ x8_1
   rotate_left
   ·rw [if_neg c11] at H
    exact absurd H (by simp)
   rw [if_pos c11] at H
   have c11b0 : decide (0 ≤ x8_1) = true := decide_eq_true c11
   clear c11
   by_cases c12 : 0 ≤ (rd t132 x8_1)
   rotate_left
   ·rw [if_neg c12] at H
    exact absurd H (by simp)
   rw [if_pos c12] at H
   have c12b0 : decide (0 ≤ (rd t132 x8_1)) = true := decide_eq_true c12
   clear c12
   by_cases c13 : (rd t132 x8_1) < (x7_1.length : Int)
   rotate_left
   ·rw [if_neg c13] at H
    exact absurd H (by simp)
   rw [if_pos c13] at H
   have c13b0 : decide ((rd t132 x8_1) < (x7_1.length : Int)) = true := decide_eq_true c13
   clear c13
   obtain ⟨y142, hy142⟩ : ∃ y_ : List Int, y_ = (x7_1.set ((rd t132 x8_1) : Int).toNat x8_1) := ⟨_, rfl⟩
   replace H : (rr_Renumber.l0 k1 l0 t132 y142 (wrap64 (x8_1 + 1))) = some r := by first | (rw [hy142]; with_reducible exact H) | (have H2_ := (Option.bind_some _ _).symm.trans H; rw [hy142]; with_reducible exact H2_) | (have H2_ := (Option.bind_some _ _).symm.trans H; with_reducible exact H2_) | with_reducible exact H | (rw [hy142]; exact H) | exact H
   have Ny142 := a_ hy142
   clear hy142
   have H' := a_ H
   clear H
   have p141 : 0 ≤ (x8_1 : Int) := of_decide_eq_true (by first | (with_reducible assumption) | assumption)
   have q141 : x8_1 < (t132.length : Int) := of_decide_eq_true (by first | (with_reducible assumption) | assumption)
   obtain ⟨ad141, e141, hx141_0⟩ := Kd.at_int (Kd.R_reads' HO_5.out).2.2 x8_1 p141 q141
   cases e141
   replace p141 := eq_true p141
   replace q141 := eq_true q141
   have p14 : 0 ≤ ((rd t132 x8_1) : Int) := of_decide_eq_true (by first | (with_reducible assumption) | assumption)
   have q14 : ((rd t132 x8_1) : Int) < ((x7_1.length : Int) : Int) := of_decide_eq_true (by first | (with_reducible assumption) | assumption)
   obtain ⟨go14, co14, eo14, gb14, gl14, cl14, HG14⟩ := Kd.R_form HO_7.out (by omega)
   (first | cases eo14 | (injection eo14 with ea_ en_ ec_; (first | subst ea_ | (injection ea_ with ea_; subst ea_)); subst ec_; clear en_))
   have GB14 := a_ gb14
   have GG14 := a_ HG14
   clear gb14 gl14 HG14
   obtain ⟨hx14_0, hf14_0⟩ := Kd.R_celln 0 HO_7.out ((rd t132 x8_1) : Int) p14 q14
   replace p14 := eq_true p14
   replace q14 := eq_true q14
   have HP15 := Kd.R_putg HO_7.out ((rd t132 x8_1) : Int) x8_1
   go_wp2_with (first | ((with_reducible refine gate_store (t := 3) (p := 34) rfl ?_); refine store_event (t := 3) (p := 34) (v := ?vo_w16) (w1 := (wr.setCell ⟨go14, ((rd t132 x8_1) : Int).toNat, none⟩ (.int .i64 x8_1))) ?hg ?ho ?hn ?hr ?_; (case ho => rfl); (case hg => rfl); (case hn => rfl); (case hr => first | (go_simp; done) | (go_simp; rfl)); intro w16 hw; have hg : wr.grownBy w16 (some go14) := (by rw [hw]; exact HP15.2); have hp_ : Kd.R (Kd.int .i64) 3 w16 w.heap.size (fun k_ => some k_ ≠ (.slice (some ad141) t132.length co7 : Value).ownBlock) (.slice (some ⟨go14, 0, none⟩) x7_1.length co14) y142 := (by rw [hw, Ny142.out]; exact HP15.1); clear HP15; replace HO_5 := a_ (Kd.R_after (v := (.slice (some ⟨go14, 0, none⟩) x7_1.length co14)) (v1 := (.slice (some ⟨go14, 0, none⟩) x7_1.length co14)) (ok := (fun _ => True)) (by exact rk (Kd.R_mono HO_5.out (fun _ hk => ⟨trivial, hk⟩))) hg (.inl rfl)); replace HO_7 := a_ (hp_); replace HB := a_ ((by rw [hw]; exact bS_ (HB.out) GB14.out : Below w.heap.size w w16)); clear hg hw hp_))
   go_roundg k1
   case measure => have := HK1.out; omega
   case rel => exact ⟨(y142), (wrap64 (x8_1 + 1)), (by first | rfl | (simp; done) | (simp [*]; done)), H', ⟨by have := HK1.out; omega⟩, ⟨by exact rk (Kd.R_mono HO_5.out (fun _ hk => hk.2))⟩, ⟨by exact rk HO_7.out⟩, ⟨by exact gs HB.out⟩⟩
  rw [if_neg c10] at H
  have c10b0 : decide (x8_1 < (t132.length : Int)) = false := decide_eq_false c10
  clear c10
  have H' := a_ H
  clear H
  go_wp2
  go_loopg [9, 10] k1 (fun kq v9 v10 w' => ∃ (x9_2 : List (List Int)) (x10_2 : Int), v10 = .int .i64 x10_2 ∧ Aside0 (rr_Renumber.l1 kq l0 t132 x7_1 x9_2 x10_2 = some r) ∧ Aside0 (kq ≤ k1) ∧ Aside0 (Kd.R (Kd.int .i64) 3 w' w.heap.size (fun k_ => some k_ ≠ (v139 : Value).ownBlock) (.slice Ao7 t132.length co7) t132) ∧ Aside0 (Kd.R (Kd.int .i64) 3 w' w.heap.size (fun k_ => some k_ ≠ ((.slice Ao7 t132.length co7) : Value).ownBlock) v139 x7_1) ∧ Aside0 (Kd.S (Kd.slice 3 (Kd.int .i64)) 22 w' w.heap.size (fun k_ => some k_ ≠ ((.slice Ao7 t132.length co7) : Value).ownBlock ∧ some k_ ≠ (v139 : Value).ownBlock) v9 x9_2) ∧ Aside0 (Below w.heap.size w w'))
  case atStart => exact ⟨(([] : List (List Int))), (0), (by first | rfl | (simp; done) | (simp [*]; done)), H', ⟨Nat.le_refl _⟩, ⟨by exact rk HO_5.out⟩, ⟨by exact rk HO_7.out⟩, ⟨by first | exact Kd.S_nil _ _ _ _ _ | exact Kd.N_nil _ _ _ _ _ | exact Kd.V_nil _ _ _ _ _ | exact Kd.Q_nil _ _ _ _ _ | exact Kd.R_nil _ _ _ _ _⟩, ⟨by exact gs HB.out⟩⟩
  clear H'
  try clear c1
  try clear p1
  try clear q1
  try clear hx1
  try clear p2
  try clear c3
  try clear c4
  try clear c4b0
  try clear c4b1
  try clear c5
  try clear c5b0
  try clear c5b1
  try clear c6
  try clear p6
  try clear c10
  try clear c10b0
  try clear c11
  try clear c11b0
  try clear c12
  try clear c12b0
  try clear c13
  try clear c13b0
  try clear p14
  try clear q14
  try clear hx14
  try clear hf14
  try clear hx141_0
  try clear hx14_0
  try clear p14
  try clear p141
  try clear p2
  try clear q14
  try clear q141
  obtain ⟨x9_2, x10_2, rfl, HA, HK2, HO_5, HO_7, HO_9, HB⟩ := hrel
  cases gk with
  | zero => exact absurd HA.out (by simp [rr_Renumber.l1])
  | succ k2 =>
   have H := HA.out
   clear HA
   simp only [rr_Renumber.l1] at H
   by_cases c17 : x10_2 < (l0.length : Int)
   rotate_left
   ·rw [if_neg c17] at H
    have c17b0 : decide (x10_2 < (l0.length : Int)) = false := decide_eq_false c17
    clear c17
    obtain rfl := Option.some.inj H
    go_wp2
    go_ret
    exact ⟨_, by first | rfl | (simp [errW_none, errW_some] <;> rfl) | (simp [*, errW_none, errW_some] <;> rfl), by (with_reducible repeat (first | apply Kd.S_alloc | apply Kd.S_drewN | apply Kd.S_drew)); exact Kd.S_mono HO_9.out (fun _ hk => trivial), by exact gs HB.out⟩
   rw [if_pos c17] at H
   have c17b0 : decide (x10_2 < (l0.length : Int)) = true := decide_eq_true c17
   clear c17
   have H' := a_ H
   clear H
   go_wp2
   go_loopg [11, 12] k2 (fun kq v11 v12 w' => ∃ (x11_3 : List Int) (x12_3 : Int), v12 = .int .i64 x12_3 ∧ Aside0 (rr_Renumber.l2 kq l0 t132 x7_1 x9_2 x10_2 x11_3 x12_3 = some r) ∧ Aside0 (kq ≤ k2) ∧ Aside0 (Kd.R (Kd.int .i64) 3 w' w.heap.size (fun k_ => some k_ ≠ (v139 : Value).ownBlock ∧ some k_ ≠ (v11 : Value).ownBlock) (.slice Ao7 t132.length co7) t132) ∧ Aside0 (Kd.R (Kd.int .i64) 3 w' w.heap.size (fun k_ => some k_ ≠ ((.slice Ao7 t132.length co7) : Value).ownBlock ∧ some k_ ≠ (v11 : Value).ownBlock) v139 x7_1) ∧ Aside0 (Kd.S (Kd.slice 3 (Kd.int .i64)) 22 w' w.heap.size (fun k_ => some k_ ≠ ((.slice Ao7 t132.length co7) : Value).ownBlock ∧ some k_ ≠ (v139 : Value).ownBlock ∧ some k_ ≠ (v11 : Value).ownBlock) u9 x9_2) ∧ Aside0 (Kd.R (Kd.int .i64) 3 w' w.heap.size (fun k_ => some k_ ≠ ((.slice Ao7 t132.length co7) : Value).ownBlock ∧ some k_ ≠ (v139 : Value).ownBlock) v11 x11_3) ∧ Aside0 (Below w.heap.size w w'))
   case atStart => exact ⟨(([] : List Int)), (0), (by first | rfl | (simp; done) | (simp [*]; done)), H', ⟨Nat.le_refl _⟩, ⟨by exact rk (Kd.R_mono HO_5.out (fun _ hk => ⟨hk, (by simp [Value.ownBlock])⟩))⟩, ⟨by exact rk (Kd.R_mono HO_7.out (fun _ hk => ⟨hk, (by simp [Value.ownBlock])⟩))⟩, ⟨by (with_reducible repeat (first | apply Kd.S_alloc | apply Kd.S_drewN | apply Kd.S_drew)); exact Kd.S_mono HO_9.out (fun _ hk => ⟨hk.1, ⟨hk.2, (by simp [Value.ownBlock])⟩⟩)⟩, ⟨by first | exact Kd.R_nil _ _ _ _ _ | exact Kd.N_nil _ _ _ _ _ | exact Kd.V_nil _ _ _ _ _ | exact Kd.Q_nil _ _ _ _ _ | exact Kd.S_nil _ _ _ _ _⟩, ⟨by exact gs HB.out⟩⟩
   clear H'
   try clear c1
   try clear p1
   try clear q1
   try clear hx1
   try clear p2
   try clear c3
   try clear c4
   try clear c4b0
   try clear c4b1
   try clear c5
   try clear c5b0
   try clear c5b1
   try clear c6
   try clear p6
   try clear c10
   try clear c10b0
   try clear c11
   try clear c11b0
   try clear c12
   try clear c12b0
   try clear c13
   try clear c13b0
   try clear p14
   try clear q14
   try clear hx14
   try clear hf14
   try clear c17
   try clear c17b0
   try clear hx141_0
   try clear hx14_0
   try clear p1
   try clear p14
   try clear p141
   try clear p2
   try clear p6
   try clear q1
   try clear q14
   try clear q141
   obtain ⟨x11_3, x12_3, rfl, HA, HK3, HO_5, HO_7, HO_9, HO_11, HB⟩ := hrel
   cases gk with
   | zero => exact absurd HA.out (by simp [rr_Renumber.l2])
   | succ k3 =>
    have H := HA.out
    clear HA
    simp only [rr_Renumber.l2] at H
    by_cases c18 : x12_3 < (t132.length : Int)
    rotate_left
    ·rw [if_neg c18] at H
     have c18b0 : decide (x12_3 < (t132.length : Int)) = false := decide_eq_false c18
     clear c18
     by_cases c30 : x9_2.length < 5864062014805
     rotate_left
     ·rw [if_neg c30] at H
      exact absurd H (by simp)
     rw [if_pos c30] at H
     have LMc30 := a_ c30
     clear c30
     obtain ⟨y150, hy150⟩ : ∃ y_ : List (List Int), y_ = (x9_2 ++ [x11_3]) := ⟨_, rfl⟩
     replace H : (rr_Renumber.l1 k3 l0 t132 x7_1 y150 (wrap64 (x10_2 + 1))) = some r := by first | (rw [hy150]; with_reducible exact H) | (have H2_ := (Option.bind_some _ _).symm.trans H; rw [hy150]; with_reducible exact H2_) | (have H2_ := (Option.bind_some _ _).symm.trans H; with_reducible exact H2_) | with_reducible exact H | (rw [hy150]; exact H) | exact H
     have Ny150 := a_ hy150
     clear hy150
     have H' := a_ H
     clear H
     obtain ⟨Ao32, co32, eo32⟩ := Kd.R_slice HO_11.out
     subst eo32
     go_wp2_with (first | ((with_reducible refine gate_builtin (b := .append) (xs := #[.tmp 63, .tmp 65]) rfl ?_); at_builtin; refine Kd.S_append (Kd.slice 3 (Kd.int .i64)) (w0 := w) w.heap.size rfl (.tmp 63) (.tmp 65) 23 22 (.slice none 0 0) 24 rfl Try.underlying23 info22 rfl (by decide) (by omega) u9 x9_2 x11_3 [.slice Ao32 x11_3.length co32] (fun k_ => some k_ ≠ (.slice Ao7 t132.length co7 : Value).ownBlock ∧ some k_ ≠ (v139 : Value).ownBlock) (fun k_ => some k_ = (.slice Ao32 x11_3.length co32 : Value).ownBlock) rfl rfl ?aP (fun k_ hk_ => ((Kd.R_mono (ok' := fun k_ => ((fun k_ => some k_ ≠ (.slice Ao7 t132.length co7 : Value).ownBlock ∧ some k_ ≠ (v139 : Value).ownBlock)) k_ ∧ some k_ ≠ (u9 : Value).ownBlock) (Kd.R_apart' (HO_11.out) (Kd.S_typed HO_9.out) (by decide)) (fun k_ hk => ⟨⟨hk.1.1, hk.1.2⟩, hk.2⟩))).1 k_ hk_.symm) ?aF ?aO ?aB ?aS ?aL ?_; (case aP => exact Kd.M_row (Kd.R_mono (Kd.R_tight rfl (Kd.R_mono (ok' := fun k_ => ((fun k_ => some k_ ≠ (.slice Ao7 t132.length co7 : Value).ownBlock ∧ some k_ ≠ (v139 : Value).ownBlock)) k_ ∧ some k_ ≠ (u9 : Value).ownBlock) (Kd.R_apart' (HO_11.out) (Kd.S_typed HO_9.out) (by decide)) (fun k_ hk => ⟨⟨hk.1.1, hk.1.2⟩, hk.2⟩))) (fun _ h_ => h_))); (case aB => exact (gr HB.out)); (case aF => exact (fun k_ hk => ⟨Kd.fresh' (Kd.R_lt (by exact rk HO_5.out)) k_ hk, Kd.fresh' (Kd.R_lt (by exact rk HO_7.out)) k_ hk⟩)); (case aO => exact (by (with_reducible repeat (first | apply Kd.S_alloc | apply Kd.S_drewN | apply Kd.S_drew)); exact Kd.S_mono HO_9.out (fun k_ hk => ⟨⟨hk.1, hk.2.1⟩, fun e_ => hk.2.2 e_⟩))); (case aS => exact (bZ_ (gr HB.out))); (case aL => have := LMc30.out; omega); intro v151 w31 ho hb hg hat; rw [← Ny150.out] at ho; have HO152 := a_ (ho); replace HO_5 := a_ (Kd.R_over' (by exact rk HO_5.out) (Kd.S_typed (by (with_reducible repeat (first | apply Kd.S_alloc | apply Kd.S_drewN | apply Kd.S_drew)); exact HO_9.out)) (by decide) hg); replace HO_7 := a_ (Kd.R_over' (by exact rk HO_7.out) (Kd.S_typed (by (with_reducible repeat (first | apply Kd.S_alloc | apply Kd.S_drewN | apply Kd.S_drew)); exact HO_9.out)) (by decide) hg); replace HB := a_ (hb); clear HO_9 HO_11; clear ho hb hg hat))
     go_roundg k3
     case measure => have := HK1.out; have := HK2.out; have := HK3.out; omega
     case rel => exact ⟨(y150), (wrap64 (x10_2 + 1)), (by first | rfl | (simp; done) | (simp [*]; done)), H', ⟨by have := HK1.out; have := HK2.out; have := HK3.out; omega⟩, ⟨by exact rk (Kd.R_mono HO_5.out (fun _ hk => hk.1))⟩, ⟨by exact rk (Kd.R_mono HO_7.out (fun _ hk => hk.1))⟩, ⟨by (with_reducible repeat (first | apply Kd.S_alloc | apply Kd.S_drewN | apply Kd.S_drew)); exact HO152.out⟩, ⟨by exact gs HB.out⟩⟩
    rw [if_pos c18] at H
    have c18b0 : decide (x12_3 < (t132.length : Int)) = true := decide_eq_true c18
    clear c18
    by_cases c19 : 0 ≤ x10_2
    rotate_left
    ·rw [if_neg c19] at H
     exact absurd H (by simp)
    rw [if_pos c19] at H
    have c19b0 : decide (0 ≤ x10_2) = true := decide_eq_true c19
    clear c19
    by_cases c20 : x10_2 < (l0.length : Int)
    rotate_left
    ·rw [if_neg c20] at H
     exact absurd H (by simp)
    rw [if_pos c20] at H
    have c20b0 : decide (x10_2 < (l0.length : Int)) = true := decide_eq_true c20
    clear c20
    by_cases c21 : 0 ≤ x12_3
    rotate_left
    ·rw [if_neg c21] at H
     exact absurd H (by simp)
    rw [if_pos c21] at H
    have c21b0 : decide (0 ≤ x12_3) = true := decide_eq_true c21
    clear c21
    by_cases c22 : 0 ≤ (rd t132 x12_3)
    rotate_left
    ·rw [if_neg c22] at H
     exact absurd H (by simp)
    rw [if_pos c22] at H
    have c22b0 : decide (0 ≤ (rd t132 x12_3)) = true := decide_eq_true c22
    clear c22
    by_cases c23 : (rd t132 x12_3) < ((rd_L1 l0 x10_2).length : Int)
    rotate_left
    ·rw [if_neg c23] at H
     exact absurd H (by simp)
    rw [if_pos c23] at H
    have c23b0 : decide ((rd t132 x12_3) < ((rd_L1 l0 x10_2).length : Int)) = true := decide_eq_true c23
    clear c23
    by_cases c24 : 0 ≤ (rd (rd_L1 l0 x10_2) (rd t132 x12_3))
    rotate_left
    ·rw [if_neg c24] at H
     exact absurd H (by simp)
    rw [if_pos c24] at H
    have c24b0 : decide (0 ≤ (rd (rd_L1 l0 x10_2) (rd t132 x12_3))) = true := decide_eq_true c24
    clear c24
    by_cases c25 : (rd (rd_L1 l0 x10_2) (rd t132 x12_3)) < (x7_1.length : Int)
    rotate_left
    ·rw [if_neg c25] at H
     exact absurd H (by simp)
    rw [if_pos c25] at H
    have c25b0 : decide ((rd (rd_L1 l0 x10_2) (rd t132 x12_3)) < (x7_1.length : Int)) = true := decide_eq_true c25
    clear c25
    by_cases c26 : x11_3.length < 17592186044416
    rotate_left
    ·rw [if_neg c26] at H
     exact absurd H (by simp)
    rw [if_pos c26] at H
    have LMc26 := a_ c26
    clear c26
    obtain ⟨y147, hy147⟩ : ∃ y_ : List Int, y_ = (x11_3 ++ [rd x7_1 (rd (rd_L1 l0 x10_2) (rd t132 x12_3))]) := ⟨_, rfl⟩
    replace H : (rr_Renumber.l2 k3 l0 t132 x7_1 x9_2 x10_2 y147 (wrap64 (x12_3 + 1))) = some r := by first | (rw [hy147]; with_reducible exact H) | (have H2_ := (Option.bind_some _ _).symm.trans H; rw [hy147]; with_reducible exact H2_) | (have H2_ := (Option.bind_some _ _).symm.trans H; with_reducible exact H2_) | with_reducible exact H | (rw [hy147]; exact H) | exact H
    have Ny147 := a_ hy147
    clear hy147
    have H' := a_ H
    clear H
    try go_wp2
    replace HO_5 := a_ (Kd.R_drew HO_5.out)
    replace HO_7 := a_ (Kd.R_drew HO_7.out)
    replace HO_9 := a_ (Kd.S_drew HO_9.out)
    replace HO_11 := a_ (Kd.R_drew HO_11.out)
    replace HB := a_ (b1_ HB.out)
    have p143 : 0 ≤ (x10_2 : Int) := of_decide_eq_true (by first | (with_reducible assumption) | assumption)
    have q143 : x10_2 < (l0.length : Int) := of_decide_eq_true (by first | (with_reducible assumption) | assumption)
    obtain ⟨ad143, A143_0, c143_0, e143, hx143_0, hl143_0, hi143_0⟩ := at_L1 HR0.out x10_2 p143 q143
    have hw143_0 := hx143_0
    cases e143
    replace hx143_0 := (HB.out.cell (World.block_lt_of_cell? w _ hx143_0)).trans hx143_0
    have HR143_0 := a_ hi143_0
    have HC143_0 := a_ hl143_0
    clear hi143_0 hl143_0
    replace p143 := eq_true p143
    replace q143 := eq_true q143
    have p144 : 0 ≤ (x12_3 : Int) := of_decide_eq_true (by first | (with_reducible assumption) | assumption)
    have q144 : x12_3 < (t132.length : Int) := of_decide_eq_true (by first | (with_reducible assumption) | assumption)
    obtain ⟨ad144, e144, hx144_0⟩ := Kd.at_int (Kd.R_reads' HO_5.out).2.2 x12_3 p144 q144
    cases e144
    replace p144 := eq_true p144
    replace q144 := eq_true q144
    have p145 : 0 ≤ ((rd t132 x12_3) : Int) := of_decide_eq_true (by first | (with_reducible assumption) | assumption)
    have q145 : (rd t132 x12_3) < ((rd_L1 l0 x10_2).length : Int) := of_decide_eq_true (by first | (with_reducible assumption) | assumption)
    obtain ⟨ad145, e145, hx145_0⟩ := Kd.at_int HR143_0.out (rd t132 x12_3) p145 q145
    have hw145_0 := hx145_0
    cases e145
    replace hx145_0 := (HB.out.cell (World.block_lt_of_cell? w _ hx145_0)).trans hx145_0
    replace p145 := eq_true p145
    replace q145 := eq_true q145
    obtain ⟨Ao28, co28, eo28⟩ := Kd.R_slice HO_7.out
    (first | subst eo28 | (injection eo28 with f1_ f2_ f3_; have f4_ := f1_.symm; have f5_ := f3_.symm; clear f1_ f2_ f3_; subst f4_; subst f5_))
    have p146 : 0 ≤ ((rd (rd_L1 l0 x10_2) (rd t132 x12_3)) : Int) := of_decide_eq_true (by first | (with_reducible assumption) | assumption)
    have q146 : (rd (rd_L1 l0 x10_2) (rd t132 x12_3)) < (x7_1.length : Int) := of_decide_eq_true (by first | (with_reducible assumption) | assumption)
    obtain ⟨ad146, e146, hx146_0⟩ := Kd.at_int (Kd.R_reads' HO_7.out).2.2 (rd (rd_L1 l0 x10_2) (rd t132 x12_3)) p146 q146
    cases e146
    replace p146 := eq_true p146
    replace q146 := eq_true q146
    refine start_ (n := 17) (S := fun w' => w'.cell? (ad143.add (x10_2).toNat) = some (.slice (some ad145) (rd_L1 l0 x10_2).length c143_0) ∧ w'.cell? (ad144.add (x12_3).toNat) = some (.int .i64 (rd t132 x12_3)) ∧ w'.cell? (ad145.add ((rd t132 x12_3)).toNat) = some (.int .i64 (rd (rd_L1 l0 x10_2) (rd t132 x12_3))) ∧ w'.cell? (ad146.add ((rd (rd_L1 l0 x10_2) (rd t132 x12_3))).toNat) = some (.int .i64 (rd x7_1 (rd (rd_L1 l0 x10_2) (rd t132 x12_3))))) (ds := [14, 15]) #[false, false, false, false, false, false, false, false, false, false, false, false, false, false, false, false, false] (by kernel_rfl) rfl rfl ⟨((HB.out.cell (World.block_lt_of_cell? w _ hw143_0)).trans hw143_0), hx144_0, ((HB.out.cell (World.block_lt_of_cell? w _ hw145_0)).trans hw145_0), hx146_0⟩ (fun hHeld => ?_); refine with_tabW rr_Renumber.tab15 rr_Renumber.bits15 (fun HT_ HW_ => ?_)
    generalize wr.drew = w27 at HO_5 HO_7 HO_9 HO_11 HB HR143_0 hx143_0 hx144_0 hx145_0 hx146_0 hHeld ⊢
    refine pure_ (i := 0) (N := some 47) (v := ?_) (a' := ?_) #[true, false, false, false, false, false, false, false, false, false, false, false, false, false, false, false, false] rfl rfl (any_of HT_.out (by kernel_rfl)) (fun _ _ _ h => h) (Or.inl ⟨by rfl, ?_⟩) ?_ ?_
    rotate_left
    ·intro w'
     go_simp
     with_reducible rfl
    rotate_left
    ·simp only [Act.put, List.setIfInBounds_toArray, List.set_cons_zero, List.set_cons_succ, i64_w, i32_w]
     rfl
    refine pure_ (i := 1) (N := some 48) (v := ?_) (a' := ?_) #[true, true, false, false, false, false, false, false, false, false, false, false, false, false, false, false, false] rfl rfl (any_of HT_.out (by kernel_rfl)) (fun _ _ _ h => h) (Or.inl ⟨by rfl, ?_⟩) ?_ ?_
    rotate_left
    ·intro w'
     go_simp
     with_reducible rfl
    rotate_left
    ·simp only [Act.put, List.setIfInBounds_toArray, List.set_cons_zero, List.set_cons_succ, i64_w, i32_w]
     rfl
    refine pure_ (i := 2) (N := some 49) (v := ?_) (a' := ?_) #[true, true, true, false, false, false, false, false, false, false, false, false, false, false, false, false, false] rfl rfl (any_of HT_.out (by kernel_rfl)) (fun _ _ _ h => h) (Or.inl ⟨by rfl, ?_⟩) ?_ ?_
    rotate_left
    ·intro w'
     go_simp
     with_reducible rfl
    rotate_left
    ·simp only [Act.put, List.setIfInBounds_toArray, List.set_cons_zero, List.set_cons_succ, i64_w, i32_w]
     rfl
    refine pure_ (i := 3) (N := some 50) (v := ?_) (a' := ?_) #[true, true, true, true, false, false, false, false, false, false, false, false, false, false, false, false, false] rfl rfl (any_of HT_.out (by kernel_rfl)) (fun _ _ _ h => h) (Or.inl ⟨by rfl, ?_⟩) ?_ ?_
    rotate_left
    ·intro w'
     go_simp
     with_reducible rfl
    rotate_left
    ·simp only [Act.put, List.setIfInBounds_toArray, List.set_cons_zero, List.set_cons_succ, i64_w, i32_w]
     rfl
    refine pure_ (i := 4) (N := some 51) (v := ?_) (a' := ?_) #[true, true, true, true, true, false, false, false, false, false, false, false, false, false, false, false, false] rfl rfl (any_of HT_.out (by kernel_rfl)) (fun _ _ _ h => h) (Or.inl ⟨by rfl, ?_⟩) ?_ ?_
    rotate_left
    ·intro w'
     go_simp
     with_reducible rfl
    rotate_left
    ·simp only [Act.put, List.setIfInBounds_toArray, List.set_cons_zero, List.set_cons_succ, i64_w, i32_w]
     rfl
    refine pure_ (i := 6) (N := some 53) (v := ?_) (a' := ?_) #[true, true, true, true, true, false, true, false, false, false, false, false, false, false, false, false, false] rfl rfl (any_of HT_.out (by kernel_rfl)) (fun _ _ _ h => h) (Or.inl ⟨by rfl, ?_⟩) ?_ ?_
    rotate_left
    ·intro w'
     go_simp
     with_reducible rfl
    rotate_left
    ·simp only [Act.put, List.setIfInBounds_toArray, List.set_cons_zero, List.set_cons_succ, i64_w, i32_w]
     rfl
    refine pure_ (i := 7) (N := some 54) (v := ?_) (a' := ?_) #[true, true, true, true, true, false, true, true, false, false, false, false, false, false, false, false, false] rfl rfl (any_of HT_.out (by kernel_rfl)) (fun _ _ _ h => h) (Or.inl ⟨by rfl, ?_⟩) ?_ ?_
    rotate_left
    ·intro w'
     go_simp
     with_reducible rfl
    rotate_left
    ·simp only [Act.put, List.setIfInBounds_toArray, List.set_cons_zero, List.set_cons_succ, i64_w, i32_w]
     rfl
    refine pure_ (i := 8) (N := some 55) (v := ?_) (a' := ?_) #[true, true, true, true, true, false, true, true, true, false, false, false, false, false, false, false, false] rfl rfl (any_of HT_.out (by kernel_rfl)) (fun _ _ _ h => h) (Or.inl ⟨by rfl, ?_⟩) ?_ ?_
    rotate_left
    ·intro w'
     go_simp
     with_reducible rfl
    rotate_left
    ·simp only [Act.put, List.setIfInBounds_toArray, List.set_cons_zero, List.set_cons_succ, i64_w, i32_w]
     rfl
    refine take_ (i := 5) (N := some 52) (v := ?_) (a' := ?_) #[true, true, true, true, true, true, true, true, true, false, false, false, false, false, false, false, false] rfl rfl (take_ofW HT_.out HW_.out (by kernel_rfl)) (fun _ _ _ h => h) (Or.inl ⟨by rfl, ?_⟩) hHeld ?_ ?_
    rotate_left
    ·rintro w' ⟨s0, s1, s2, s3⟩
     go_simp
     with_reducible rfl
    rotate_left
    ·simp only [Act.put, List.setIfInBounds_toArray, List.set_cons_zero, List.set_cons_succ, i64_w, i32_w]
     rfl
    refine take_ (i := 9) (N := some 56) (v := ?_) (a' := ?_) #[true, true, true, true, true, true, true, true, true, true, false, false, false, false, false, false, false] rfl rfl (take_ofW HT_.out HW_.out (by kernel_rfl)) (fun _ _ _ h => h) (Or.inl ⟨by rfl, ?_⟩) hHeld ?_ ?_
    rotate_left
    ·rintro w' ⟨s0, s1, s2, s3⟩
     go_simp
     with_reducible rfl
    rotate_left
    ·simp only [Act.put, List.setIfInBounds_toArray, List.set_cons_zero, List.set_cons_succ, i64_w, i32_w]
     rfl
    refine pure_ (i := 10) (N := some 57) (v := ?_) (a' := ?_) #[true, true, true, true, true, true, true, true, true, true, true, false, false, false, false, false, false] rfl rfl (any_of HT_.out (by kernel_rfl)) (fun _ _ _ h => h) (Or.inl ⟨by rfl, ?_⟩) ?_ ?_
    rotate_left
    ·intro w'
     go_simp
     with_reducible rfl
    rotate_left
    ·simp only [Act.put, List.setIfInBounds_toArray, List.set_cons_zero, List.set_cons_succ, i64_w, i32_w]
     rfl
    refine take_ (i := 11) (N := some 58) (v := ?_) (a' := ?_) #[true, true, true, true, true, true, true, true, true, true, true, true, false, false, false, false, false] rfl rfl (take_ofW HT_.out HW_.out (by kernel_rfl)) (fun _ _ _ h => h) (Or.inl ⟨by rfl, ?_⟩) hHeld ?_ ?_
    rotate_left
    ·rintro w' ⟨s0, s1, s2, s3⟩
     go_simp
     with_reducible rfl
    rotate_left
    ·simp only [Act.put, List.setIfInBounds_toArray, List.set_cons_zero, List.set_cons_succ, i64_w, i32_w]
     rfl
    refine pure_ (i := 12) (N := some 59) (v := ?_) (a' := ?_) #[true, true, true, true, true, true, true, true, true, true, true, true, true, false, false, false, false] rfl rfl (any_of HT_.out (by kernel_rfl)) (fun _ _ _ h => h) (Or.inl ⟨by rfl, ?_⟩) ?_ ?_
    rotate_left
    ·intro w'
     go_simp
     with_reducible rfl
    rotate_left
    ·simp only [Act.put, List.setIfInBounds_toArray, List.set_cons_zero, List.set_cons_succ, i64_w, i32_w]
     rfl
    refine take_ (i := 13) (N := some 60) (v := ?_) (a' := ?_) #[true, true, true, true, true, true, true, true, true, true, true, true, true, true, false, false, false] rfl rfl (take_ofW HT_.out HW_.out (by kernel_rfl)) (fun _ _ _ h => h) (Or.inl ⟨by rfl, ?_⟩) hHeld ?_ ?_
    rotate_left
    ·rintro w' ⟨s0, s1, s2, s3⟩
     go_simp
     with_reducible rfl
    rotate_left
    ·simp only [Act.put, List.setIfInBounds_toArray, List.set_cons_zero, List.set_cons_succ, i64_w, i32_w]
     rfl
    refine last_ (i := 14) (N := some 61) #[true, true, true, true, true, true, true, true, true, true, true, true, true, true, true, false, false] rfl rfl (one_of HT_.out (by kernel_rfl)) (by decide) (fun K hK => ?_)
    refine value_ (w1 := ?_) (v := ?_) (by rfl) rfl ?_ ?_
    rotate_left 2
    ·go_simp
     constructor
     ·rfl
     ·rfl
    refine hK.out _ _ ?_
    clear hK K
    refine norm_ (a' := ?_) ?_ ?_
    rotate_left
    ·show Act.put _ (some 61) _ = _
     simp only [Act.put, List.setIfInBounds_toArray, List.set_cons_zero, List.set_cons_succ, i64_w, i32_w]
     rfl
    refine last_ (i := 15) (N := some 62) #[true, true, true, true, true, true, true, true, true, true, true, true, true, true, true, true, false] rfl rfl (one_of HT_.out (by kernel_rfl)) (by decide) (fun K hK => ?_)
    refine Kd.R_append_step (Kd.int .i64) (w0 := w) w.heap.size (by rfl) (.tmp 47) (.tmp 61) 22 3 (.int .i64 0) 8 rfl Try.underlying22 info3 rfl (by decide) (by omega) u11 x11_3 (rd x7_1 (rd (rd_L1 l0 x10_2) (rd t132 x12_3))) [.int .i64 (rd x7_1 (rd (rd_L1 l0 x10_2) (rd t132 x12_3)))] (fun k_ => some k_ ≠ (.slice (some ad144) t132.length co7 : Value).ownBlock ∧ some k_ ≠ (.slice (some ad146) x7_1.length co28 : Value).ownBlock) (fun _ => False) rfl rfl ?aP (fun _ hk => hk.elim) ?aF ?aO ?aB ?aS ?aL ?_
    (case aP => exact rfl)
    (case aB => exact (gr HB.out))
    (case aF => exact (fun k_ hk => ⟨Kd.fresh' (Kd.R_lt (by exact rk HO_5.out)) k_ hk, Kd.fresh' (Kd.R_lt (by exact rk HO_7.out)) k_ hk⟩))
    (case aO => exact (by exact rk HO_11.out))
    (case aS => exact (bZ_ (gr HB.out)))
    (case aL => have := LMc26.out; omega)
    intro v148 w29 ho hb hg hat
    rw [← Ny147.out] at ho
    have HO149 := a_ (ho)
    replace HO_5 := a_ (Kd.R_after (ok := (fun k_ => some k_ ≠ (.slice (some ad146) x7_1.length co28 : Value).ownBlock)) (by exact rk HO_5.out) hg hat)
    replace HO_7 := a_ (Kd.R_after (ok := (fun k_ => some k_ ≠ (.slice (some ad144) t132.length co7 : Value).ownBlock)) (by exact rk HO_7.out) hg hat)
    replace HO_9 := a_ (Kd.S_after (ok := (fun k_ => some k_ ≠ (.slice (some ad144) t132.length co7 : Value).ownBlock ∧ some k_ ≠ (.slice (some ad146) x7_1.length co28 : Value).ownBlock)) (by (with_reducible repeat (first | apply Kd.S_alloc | apply Kd.S_drewN | apply Kd.S_drew)); exact Kd.S_mono HO_9.out (fun _ hk => ⟨⟨hk.1, hk.2.1⟩, hk.2.2⟩)) hg hat)
    replace HB := a_ (hb)
    clear HO_11
    clear ho hb hg hat
    refine hK.out _ _ ?_
    clear hK K
    refine norm_ (a' := ?_) ?_ ?_
    rotate_left
    ·show Act.put _ (some 62) _ = _
     simp only [Act.put, List.setIfInBounds_toArray, List.set_cons_zero, List.set_cons_succ, i64_w, i32_w]
     rfl
    refine pure_ (i := 16) (N := some 11) (v := ?_) (a' := ?_) #[true, true, true, true, true, true, true, true, true, true, true, true, true, true, true, true, true] rfl rfl (any_of HT_.out (by kernel_rfl)) (fun _ _ _ h => h) (Or.inl ⟨by rfl, ?_⟩) ?_ ?_
    rotate_left
    ·intro w'
     go_simp
     with_reducible rfl
    rotate_left
    ·simp only [Act.put, List.setIfInBounds_toArray, List.set_cons_zero, List.set_cons_succ, i64_w, i32_w]
     rfl
    refine done_ (done_of HT_.out (by kernel_rfl)) ?_
    try go_wp2
    go_roundg k3
    case measure => have := HK1.out; have := HK2.out; have := HK3.out; omega
    case rel => exact ⟨(y147), (wrap64 (x12_3 + 1)), (by first | rfl | (simp; done) | (simp [*]; done)), H', ⟨by have := HK1.out; have := HK2.out; have := HK3.out; omega⟩, ⟨by exact rk HO_5.out⟩, ⟨by exact rk HO_7.out⟩, ⟨by (with_reducible repeat (first | apply Kd.S_alloc | apply Kd.S_drewN | apply Kd.S_drew)); exact Kd.S_mono HO_9.out (fun _ hk => ⟨hk.1.1, ⟨hk.1.2, hk.2⟩⟩)⟩, ⟨by exact rk HO149.out⟩, ⟨by exact gs HB.out⟩⟩
def rl_column.l0 : Nat → List Int → Int → List Int → Int → Option (List Int)
 | 0, _, _, _, _ => none
 | k + 1, x0, x1, x5, x6 => if x6 < x1 then (if x6 < (x0.length : Int) then (if 0 ≤ x6 then ((rl_mod.f (rd x0 x6) (wrap64 (x6 + 1))).bind fun t157 => (if 0 ≤ t157 then (if t157 ≤ (x5.length : Int) then ((some (x5.take (t157 : Int).toNat : List Int)).bind fun y158 => (if ([] : List Int).length + y158.length < 17592186044416 then ((some (([] : List Int) ++ y158 : List Int)).bind fun y162 => (if y162.length < 17592186044416 then ((some (y162 ++ [x6] : List Int)).bind fun y165 => ((some (x5.drop (t157 : Int).toNat : List Int)).bind fun y168 => (if y165.length + y168.length < 17592186044416 then (rl_column.l0 k x0 x1 (y165 ++ y168) (wrap64 (x6 + 1))) else (none)))) else (none))) else (none))) else (none)) else (none))) else (none)) else (if 0 ≤ x6 then (if x6 ≤ (x5.length : Int) then ((some (x5.take (x6 : Int).toNat : List Int)).bind fun y175 => (if ([] : List Int).length + y175.length < 17592186044416 then ((some (([] : List Int) ++ y175 : List Int)).bind fun y179 => (if y179.length < 17592186044416 then ((some (y179 ++ [x6] : List Int)).bind fun y182 => ((some (x5.drop (x6 : Int).toNat : List Int)).bind fun y185 => (if y182.length + y185.length < 17592186044416 then (rl_column.l0 k x0 x1 (y182 ++ y185) (wrap64 (x6 + 1))) else (none)))) else (none))) else (none))) else (none)) else (none))) else (some x5)
def rl_column.f (k : Nat) (l0 : List Int) (a1 : Int) : Option (List Int) := rl_column.l0 k l0 a1 (([] : List Int)) 0
theorem rl_column.calls (k : Nat) (A0 : Option Addr) (c0 : Nat) (l0 : List Int) (a1 : Int) (r : List Int) (w : World) (hr0 : Kd.C (Kd.int .i64) w A0 l0.length l0) (hc0 : l0.length ≤ c0) (h : rl_column.f k l0 a1 = some r) :
  Calls Try.prog 50 #[.slice A0 l0.length c0, .int .i64 a1] w fun e w' => ∃ v0_ : Value, e = .returned (v0_) ∧ Kd.R (Kd.int .i64) 3 w' w.heap.size (fun _ => True) v0_ r ∧ Below w.heap.size w w' := by
 have HR0 := a_ hr0
 have HC0 := a_ hc0
 clear hr0 hc0
 have HB := a_ (Below.refl w.heap.size w)
 have H : (rl_column.l0 k l0 a1 (([] : List Int)) 0) = some r := h
 clear h
 obtain ⟨y153, hy153⟩ : ∃ y_ : List Int, y_ = (([] : List Int)) := ⟨_, rfl⟩
 replace H : (rl_column.l0 k l0 a1 y153 0) = some r := by first | (rw [hy153]; with_reducible exact H) | (have H2_ := (Option.bind_some _ _).symm.trans H; rw [hy153]; with_reducible exact H2_) | (have H2_ := (Option.bind_some _ _).symm.trans H; with_reducible exact H2_) | with_reducible exact H | (rw [hy153]; exact H) | exact H
 have Ny153 := a_ hy153
 clear hy153
 have H' := a_ H
 clear H
 go_enter Try.func50, Try.ntmps50
 go_wp2_with (first | ((with_reducible refine gate_dst (N := 9) rfl ?_); refine Kd.R_lit (Kd.int .i64) _ 3 ?hg (N := 9) ?hd (xs := ([] : List Int)) (inner := []) (ok := fun _ => True) (okp := fun _ => True) ?hr ?hp (fun _ hk => hk) trivial (Below.refl _ _) (Nat.le_refl _) (by simp) ?_; (case hd => rfl); (case hg => rfl); (case hr => first | (go_simp; done) | (go_simp; rfl)); (case hp => exact (Reps.none _ _)); intro v154 w3 ho4 hb hg_ hnew_; clear hg_ hnew_; (first | rw [← Ny153.out] at ho4 | (simp only [Int.reduceToNat] at ho4; rw [← Ny153.out] at ho4)); have HO155 := a_ (Kd.R_lower ho4 (bZ_ (gr HB.out))); replace HB := a_ (bT_ HB.out (tr hb)); clear hb ho4))
 go_loopg [5, 6] k (fun kq v5 v6 w' => ∃ (x5_1 : List Int) (x6_1 : Int), v6 = .int .i64 x6_1 ∧ Aside0 (rl_column.l0 kq l0 a1 x5_1 x6_1 = some r) ∧ Aside0 (kq ≤ k) ∧ Aside0 (Kd.R (Kd.int .i64) 3 w' w.heap.size (fun _ => True) v5 x5_1) ∧ Aside0 (Below w.heap.size w w'))
 case atStart => exact ⟨(y153), (0), (by first | rfl | (simp; done) | (simp [*]; done)), H', ⟨Nat.le_refl _⟩, ⟨by exact rk HO155.out⟩, ⟨by exact gs HB.out⟩⟩
 clear H'
 try clear p2
 obtain ⟨x5_1, x6_1, rfl, HA, HK1, HO_5, HB⟩ := hrel
 cases gk with
 | zero => exact absurd HA.out (by simp [rl_column.l0])
 | succ k1 =>
  have H := HA.out
  clear HA
  simp only [rl_column.l0] at H
  by_cases c5 : x6_1 < a1
  rotate_left
  ·rw [if_neg c5] at H
   have c5b0 : decide (x6_1 < a1) = false := decide_eq_false c5
   clear c5
   obtain rfl := Option.some.inj H
   go_wp2
   go_ret
   exact ⟨_, by first | rfl | (simp [errW_none, errW_some] <;> rfl) | (simp [*, errW_none, errW_some] <;> rfl), by exact rk HO_5.out, by exact gs HB.out⟩
  rw [if_pos c5] at H
  have c5b0 : decide (x6_1 < a1) = true := decide_eq_true c5
  clear c5
  by_cases c6 : x6_1 < (l0.length : Int)
  rotate_left
  ·rw [if_neg c6] at H
   have c6b0 : decide (x6_1 < (l0.length : Int)) = false := decide_eq_false c6
   clear c6
   by_cases c22 : 0 ≤ x6_1
   rotate_left
   ·rw [if_neg c22] at H
    exact absurd H (by simp)
   rw [if_pos c22] at H
   have c22b0 := eq_true c22
   have c22b1 : decide (0 ≤ x6_1) = true := decide_eq_true c22
   clear c22
   by_cases c23 : x6_1 ≤ (x5_1.length : Int)
   rotate_left
   ·rw [if_neg c23] at H
    exact absurd H (by simp)
   rw [if_pos c23] at H
   have c23b0 := eq_true c23
   have c23b1 : decide (x6_1 ≤ (x5_1.length : Int)) = true := decide_eq_true c23
   have KFc23 := a_ c23
   clear c23
   obtain ⟨y175, hy175⟩ : ∃ y_ : List Int, y_ = (x5_1.take (x6_1 : Int).toNat) := ⟨_, rfl⟩
   replace H : (if ([] : List Int).length + y175.length < 17592186044416 then ((some (([] : List Int) ++ y175 : List Int)).bind fun y179 => (if y179.length < 17592186044416 then ((some (y179 ++ [x6_1] : List Int)).bind fun y182 => ((some (x5_1.drop (x6_1 : Int).toNat : List Int)).bind fun y185 => (if y182.length + y185.length < 17592186044416 then (rl_column.l0 k1 l0 a1 (y182 ++ y185) (wrap64 (x6_1 + 1))) else (none)))) else (none))) else (none)) = some r := by first | (rw [hy175]; with_reducible exact H) | (have H2_ := (Option.bind_some _ _).symm.trans H; rw [hy175]; with_reducible exact H2_) | (have H2_ := (Option.bind_some _ _).symm.trans H; with_reducible exact H2_) | with_reducible exact H | (rw [hy175]; exact H) | exact H
   have Ny175 := a_ hy175
   clear hy175
   by_cases c24 : ([] : List Int).length + y175.length < 17592186044416
   rotate_left
   ·rw [if_neg c24] at H
    exact absurd H (by simp)
   rw [if_pos c24] at H
   have LMc24 := a_ c24
   clear c24
   obtain ⟨y179, hy179⟩ : ∃ y_ : List Int, y_ = (([] : List Int) ++ y175) := ⟨_, rfl⟩
   replace H : (if y179.length < 17592186044416 then ((some (y179 ++ [x6_1] : List Int)).bind fun y182 => ((some (x5_1.drop (x6_1 : Int).toNat : List Int)).bind fun y185 => (if y182.length + y185.length < 17592186044416 then (rl_column.l0 k1 l0 a1 (y182 ++ y185) (wrap64 (x6_1 + 1))) else (none)))) else (none)) = some r := by first | (rw [hy179]; with_reducible exact H) | (have H2_ := (Option.bind_some _ _).symm.trans H; rw [hy179]; with_reducible exact H2_) | (have H2_ := (Option.bind_some _ _).symm.trans H; with_reducible exact H2_) | with_reducible exact H | (rw [hy179]; exact H) | exact H
   have Ny179 := a_ hy179
   clear hy179
   by_cases c25 : y179.length < 17592186044416
   rotate_left
   ·rw [if_neg c25] at H
    exact absurd H (by simp)
   rw [if_pos c25] at H
   have LMc25 := a_ c25
   clear c25
   obtain ⟨y182, hy182⟩ : ∃ y_ : List Int, y_ = (y179 ++ [x6_1]) := ⟨_, rfl⟩
   replace H : ((some (x5_1.drop (x6_1 : Int).toNat : List Int)).bind fun y185 => (if y182.length + y185.length < 17592186044416 then (rl_column.l0 k1 l0 a1 (y182 ++ y185) (wrap64 (x6_1 + 1))) else (none))) = some r := by first | (rw [hy182]; with_reducible exact H) | (have H2_ := (Option.bind_some _ _).symm.trans H; rw [hy182]; with_reducible exact H2_) | (have H2_ := (Option.bind_some _ _).symm.trans H; with_reducible exact H2_) | with_reducible exact H | (rw [hy182]; exact H) | exact H
   have Ny182 := a_ hy182
   clear hy182
   have c26b0 := eq_true (of_decide_eq_true (by first | (with_reducible assumption) | assumption) : 0 ≤ x6_1)
   have c27b0 := eq_true (of_decide_eq_true (by first | (with_reducible assumption) | assumption) : x6_1 ≤ (x5_1.length : Int))
   obtain ⟨y185, hy185⟩ : ∃ y_ : List Int, y_ = (x5_1.drop (x6_1 : Int).toNat) := ⟨_, rfl⟩
   replace H : (if y182.length + y185.length < 17592186044416 then (rl_column.l0 k1 l0 a1 (y182 ++ y185) (wrap64 (x6_1 + 1))) else (none)) = some r := by first | (rw [hy185]; with_reducible exact H) | (have H2_ := (Option.bind_some _ _).symm.trans H; rw [hy185]; with_reducible exact H2_) | (have H2_ := (Option.bind_some _ _).symm.trans H; with_reducible exact H2_) | with_reducible exact H | (rw [hy185]; exact H) | exact H
   have Ny185 := a_ hy185
   clear hy185
   by_cases c28 : y182.length + y185.length < 17592186044416
   rotate_left
   ·rw [if_neg c28] at H
    exact absurd H (by simp)
   rw [if_pos c28] at H
   have LMc28 := a_ c28
   clear c28
   obtain ⟨y189, hy189⟩ : ∃ y_ : List Int, y_ = (y182 ++ y185) := ⟨_, rfl⟩
   replace H : (rl_column.l0 k1 l0 a1 y189 (wrap64 (x6_1 + 1))) = some r := by first | (rw [hy189]; with_reducible exact H) | (have H2_ := (Option.bind_some _ _).symm.trans H; rw [hy189]; with_reducible exact H2_) | (have H2_ := (Option.bind_some _ _).symm.trans H; with_reducible exact H2_) | with_reducible exact H | (rw [hy189]; exact H) | exact H
   have Ny189 := a_ hy189
   clear hy189
   have H' := a_ H
   clear H
   obtain ⟨Ao30, co30, eo30⟩ := Kd.R_slice HO_5.out
   subst eo30
   have q29 : (x6_1 : Int) ≤ ((x5_1.length : Int) : Int) := of_decide_eq_true (by first | (with_reducible assumption) | assumption)
   obtain ⟨i029, hi029, _, hsz29, _⟩ := info_parts info3
   have hroom29 : x5_1.length ≤ co30 := (Kd.R_reads' HO_5.out).2.1
   have hC29 : Kd.C (Kd.int .i64) _ Ao30 x5_1.length x5_1 := (Kd.R_reads' HO_5.out).2.2
   have hcut29 := cut_to (P := Try.prog) 22 3 .i64 Try.underlying22 hi029 Ao30 x5_1.length co30 x6_1 (of_decide_eq_true (by first | (with_reducible assumption) | assumption)) q29 hroom29
   have hr29 := Kd.C_take (m := (x6_1 : Int).toNat) hC29 (by omega)
   have hy29 : y175.length = (x6_1 : Int).toNat := (by rw [Ny175.out, List.length_take]; omega)
   rw [← Ny175.out] at hr29
   rw [← hy29] at hcut29
   have HR178 := a_ hr29
   have HC178 := a_ (show y175.length ≤ co30 from by omega)
   clear hr29 hC29 hroom29 hi029 hsz29
   have KY29 := a_ hy29
   clear hy29
   have KL29 := a_ (show (x6_1 : Int).toNat ≤ x5_1.length from by omega)
   replace q29 := eq_true q29
   go_wp2_with (first | ((with_reducible refine gate_builtin (b := .append) (xs := #[.tmp 27, .tmp 30]) rfl ?_); at_builtin; refine Kd.R_append_rows (Kd.int .i64) (w0 := w) w.heap.size rfl (.tmp 27) (.tmp 30) 22 3 (.int .i64 0) 8 rfl Try.underlying22 info3 rfl (by decide) (by omega) (.slice none 0 0) ([] : List Int) y175 _ _ _ (fun k_ => some k_ ≠ (.slice Ao30 x5_1.length co30 : Value).ownBlock) (fun _ => False) rfl rfl ?aO ?aR (fun _ _ h => h) (fun _ h => h.elim) ?aF ?aB ?aS ?aL ?_; (case aR => repeat (first | exact (by repeat (first | (with_reducible exact HR178.out) | (with_reducible refine Kd.C_alloc ?_ _) | (with_reducible refine Kd.C_drewN ?_ _) | (with_reducible refine Kd.C_drew ?_) | exact HR178.out)) | (with_reducible refine Kd.C_alloc ?_ _) | (with_reducible refine Kd.C_drewN ?_ _) | (with_reducible refine Kd.C_drew ?_))); (case aB => exact (gr HB.out)); (case aF => exact (fun k_ hk => Kd.fresh' (Kd.R_lt (by exact rk HO_5.out)) k_ hk)); (case aO => exact ((Kd.R_nil _ _ _ _ (fun k_ => some k_ ≠ (.slice Ao30 x5_1.length co30 : Value).ownBlock)))); (case aS => exact (bZ_ (gr HB.out))); (case aL => have := LMc24.out; omega); intro v180 w31 ho hb hg hat; rw [← Ny179.out] at ho; have HO181 := a_ (ho); replace HB := a_ (hb); replace HR178 := a_ ((show Kd.C (Kd.int .i64) w31 Ao30 y175.length y175 from by rw [Ny175.out]; exact Kd.C_take (m := (x6_1 : Int).toNat) ((Kd.R_reads' (Kd.R_after (Kd.R_apart_nil (by exact rk HO_5.out)) hg hat)).2.2) KL29.out)); replace HO_5 := a_ (Kd.R_after (Kd.R_apart_nil (by exact rk HO_5.out)) hg hat); clear ho hb hg hat) | ((with_reducible refine gate_builtin (b := .append) (xs := #[.tmp 32, .tmp 34]) rfl ?_); at_builtin; refine Kd.R_append (Kd.int .i64) (w0 := w) w.heap.size rfl (.tmp 32) (.tmp 34) 22 3 (.int .i64 0) 8 rfl Try.underlying22 info3 rfl (by decide) (by omega) v180 y179 x6_1 [.int .i64 x6_1] (fun k_ => some k_ ≠ (.slice Ao30 x5_1.length co30 : Value).ownBlock) (fun _ => False) rfl rfl ?aP (fun _ hk => hk.elim) ?aF ?aO ?aB ?aS ?aL ?_; (case aP => exact rfl); (case aB => exact (gr HB.out)); (case aF => exact (fun k_ hk => Kd.fresh' (Kd.R_lt (by exact rk HO_5.out)) k_ hk)); (case aO => exact (by exact rk HO181.out)); (case aS => exact (bZ_ (gr HB.out))); (case aL => have := LMc25.out; omega); intro v183 w32 ho hb hg hat; rw [← Ny182.out] at ho; have HO184 := a_ (ho); replace HB := a_ (hb); replace HR178 := a_ ((show Kd.C (Kd.int .i64) w32 Ao30 y175.length y175 from by rw [Ny175.out]; exact Kd.C_take (m := (x6_1 : Int).toNat) ((Kd.R_reads' (Kd.R_after (ok := (fun _ => True)) (by exact rk HO_5.out) hg hat)).2.2) KL29.out)); replace HO_5 := a_ (Kd.R_after (ok := (fun _ => True)) (by exact rk HO_5.out) hg hat); clear HO181; clear ho hb hg hat; have q33 : (x6_1 : Int) ≤ ((x5_1.length : Int) : Int) := of_decide_eq_true (by first | (with_reducible assumption) | assumption); obtain ⟨i033, hi033, _, hsz33, _⟩ := info_parts info3; have hroom33 : x5_1.length ≤ co30 := (Kd.R_reads' HO_5.out).2.1; have hC33 : Kd.C (Kd.int .i64) _ Ao30 x5_1.length x5_1 := (Kd.R_reads' HO_5.out).2.2; have q033 : (0 : Int) ≤ (x6_1 : Int) := of_decide_eq_true (by first | (with_reducible assumption) | assumption); have hcut33 := cut_from (P := Try.prog) 22 3 .i64 Try.underlying22 hi033 1 hsz33 Ao30 x5_1.length co30 x6_1 q033 q33; have hr33 := Kd.C_drop (m := (x6_1 : Int).toNat) (c := co30) hC33 (by omega) hroom33; obtain ⟨A33, hA33⟩ : ∃ A1, A1 = (if co30 = (x6_1 : Int).toNat then Ao30 else (Ao30 : Option Addr).map (·.add ((x6_1 : Int).toNat * 1))) := ⟨_, rfl⟩; obtain ⟨c33, hc33⟩ : ∃ c1, c1 = co30 - (x6_1 : Int).toNat := ⟨_, rfl⟩; have hy33 : y185.length = x5_1.length - (x6_1 : Int).toNat := (by rw [Ny185.out, List.length_drop] <;> omega); rw [show (x5_1).drop (x6_1 : Int).toNat = y185 from Ny185.out.symm] at hr33; replace hr33 : Kd.C (Kd.int .i64) _ A33 y185.length y185 := (by rw [hA33]; exact hr33); rw [← hy33, ← hA33, ← hc33] at hcut33; have HR188 := a_ hr33; have HC188 := a_ (show y185.length ≤ c33 from by rw [hy33, hc33]; exact Nat.sub_le_sub_right hroom33 _); clear hr33 hC33 hroom33 hi033 hsz33 hc33; have KY33 := a_ hy33; have KA33 := a_ hA33; clear hy33 hA33; have KL33 := a_ (show (x6_1 : Int).toNat ≤ x5_1.length from by omega); replace q33 := eq_true q33) | ((with_reducible refine gate_builtin (b := .append) (xs := #[.tmp 36, .tmp 39]) rfl ?_); at_builtin; refine Kd.R_append_rows (Kd.int .i64) (w0 := w) w.heap.size rfl (.tmp 36) (.tmp 39) 22 3 (.int .i64 0) 8 rfl Try.underlying22 info3 rfl (by decide) (by omega) v183 y182 y185 _ _ _ (fun k_ => some k_ ≠ (.slice Ao30 x5_1.length co30 : Value).ownBlock) (fun _ => False) rfl rfl ?aO ?aR (fun _ _ h => h) (fun _ h => h.elim) ?aF ?aB ?aS ?aL ?_; (case aR => repeat (first | exact (by repeat (first | (with_reducible exact HR188.out) | (with_reducible refine Kd.C_alloc ?_ _) | (with_reducible refine Kd.C_drewN ?_ _) | (with_reducible refine Kd.C_drew ?_) | exact HR188.out)) | (with_reducible refine Kd.C_alloc ?_ _) | (with_reducible refine Kd.C_drewN ?_ _) | (with_reducible refine Kd.C_drew ?_))); (case aB => exact (gr HB.out)); (case aF => exact (fun k_ hk => Kd.fresh' (Kd.R_lt (by exact rk HO_5.out)) k_ hk)); (case aO => exact (by exact rk HO184.out)); (case aS => exact (bZ_ (gr HB.out))); (case aL => have := LMc28.out; omega); intro v190 w34 ho hb hg hat; rw [← Ny189.out] at ho; have HO191 := a_ (ho); replace HB := a_ (hb); replace HR178 := a_ ((show Kd.C (Kd.int .i64) w34 Ao30 y175.length y175 from by rw [Ny175.out]; exact Kd.C_take (m := (x6_1 : Int).toNat) ((Kd.R_reads' (Kd.R_after (ok := (fun _ => True)) (by exact rk HO_5.out) hg hat)).2.2) KL29.out)); replace HR188 := a_ ((show Kd.C (Kd.int .i64) w34 A33 y185.length y185 from by rw [Ny185.out, KA33.out]; exact Kd.C_drop (m := (x6_1 : Int).toNat) (c := co30) ((Kd.R_reads' (Kd.R_after (ok := (fun _ => True)) (by exact rk HO_5.out) hg hat)).2.2) KL33.out ((Kd.R_reads' (Kd.R_after (ok := (fun _ => True)) (by exact rk HO_5.out) hg hat)).2.1))); replace HO_5 := a_ (Kd.R_after (ok := (fun _ => True)) (by exact rk HO_5.out) hg hat); clear HO184; clear ho hb hg hat))
   go_roundg k1
   case measure => have := HK1.out; omega
   case rel => exact ⟨(y189), (wrap64 (x6_1 + 1)), (by first | rfl | (simp; done) | (simp [*]; done)), H', ⟨by have := HK1.out; omega⟩, ⟨by exact rk (Kd.R_mono HO191.out (fun _ hk => trivial))⟩, ⟨by exact gs HB.out⟩⟩
  rw [if_pos c6] at H
  have c6b0 : decide (x6_1 < (l0.length : Int)) = true := decide_eq_true c6
  clear c6
  by_cases c7 : 0 ≤ x6_1
  rotate_left
  ·rw [if_neg c7] at H
   exact absurd H (by simp)
  rw [if_pos c7] at H
  have c7b0 : decide (0 ≤ x6_1) = true := decide_eq_true c7
  clear c7
  replace H := Option.bind_eq_some_iff.mp H
  obtain ⟨t157, A80, H⟩ := H
  try dsimp only at H
  have A8 := a_ A80
  clear A80
  by_cases c9 : 0 ≤ t157
  rotate_left
  ·rw [if_neg c9] at H
   exact absurd H (by simp)
  rw [if_pos c9] at H
  have c9b0 := eq_true c9
  have c9b1 : decide (0 ≤ t157) = true := decide_eq_true c9
  clear c9
  by_cases c10 : t157 ≤ (x5_1.length : Int)
  rotate_left
  ·rw [if_neg c10] at H
   exact absurd H (by simp)
  rw [if_pos c10] at H
  have c10b0 := eq_true c10
  have c10b1 : decide (t157 ≤ (x5_1.length : Int)) = true := decide_eq_true c10
  have KFc10 := a_ c10
  clear c10
  obtain ⟨y158, hy158⟩ : ∃ y_ : List Int, y_ = (x5_1.take (t157 : Int).toNat) := ⟨_, rfl⟩
  replace H : (if ([] : List Int).length + y158.length < 17592186044416 then ((some (([] : List Int) ++ y158 : List Int)).bind fun y162 => (if y162.length < 17592186044416 then ((some (y162 ++ [x6_1] : List Int)).bind fun y165 => ((some (x5_1.drop (t157 : Int).toNat : List Int)).bind fun y168 => (if y165.length + y168.length < 17592186044416 then (rl_column.l0 k1 l0 a1 (y165 ++ y168) (wrap64 (x6_1 + 1))) else (none)))) else (none))) else (none)) = some r := by first | (rw [hy158]; with_reducible exact H) | (have H2_ := (Option.bind_some _ _).symm.trans H; rw [hy158]; with_reducible exact H2_) | (have H2_ := (Option.bind_some _ _).symm.trans H; with_reducible exact H2_) | with_reducible exact H | (rw [hy158]; exact H) | exact H
  have Ny158 := a_ hy158
  clear hy158
  by_cases c11 : ([] : List Int).length + y158.length < 17592186044416
  rotate_left
  ·rw [if_neg c11] at H
   exact absurd H (by simp)
  rw [if_pos c11] at H
  have LMc11 := a_ c11
  clear c11
  obtain ⟨y162, hy162⟩ : ∃ y_ : List Int, y_ = (([] : List Int) ++ y158) := ⟨_, rfl⟩
  replace H : (if y162.length < 17592186044416 then ((some (y162 ++ [x6_1] : List Int)).bind fun y165 => ((some (x5_1.drop (t157 : Int).toNat : List Int)).bind fun y168 => (if y165.length + y168.length < 17592186044416 then (rl_column.l0 k1 l0 a1 (y165 ++ y168) (wrap64 (x6_1 + 1))) else (none)))) else (none)) = some r := by first | (rw [hy162]; with_reducible exact H) | (have H2_ := (Option.bind_some _ _).symm.trans H; rw [hy162]; with_reducible exact H2_) | (have H2_ := (Option.bind_some _ _).symm.trans H; with_reducible exact H2_) | with_reducible exact H | (rw [hy162]; exact H) | exact H
  have Ny162 := a_ hy162
  clear hy162
  by_cases c12 : y162.length < 17592186044416
  rotate_left
  ·rw [if_neg c12] at H
   exact absurd H (by simp)
  rw [if_pos c12] at H
  have LMc12 := a_ c12
  clear c12
  obtain ⟨y165, hy165⟩ : ∃ y_ : List Int, y_ = (y162 ++ [x6_1]) := ⟨_, rfl⟩
  replace H : ((some (x5_1.drop (t157 : Int).toNat : List Int)).bind fun y168 => (if y165.length + y168.length < 17592186044416 then (rl_column.l0 k1 l0 a1 (y165 ++ y168) (wrap64 (x6_1 + 1))) else (none))) = some r := by first | (rw [hy165]; with_reducible exact H) | (have H2_ := (Option.bind_some _ _).symm.trans H; rw [hy165]; with_reducible exact H2_) | (have H2_ := (Option.bind_some _ _).symm.trans H; with_reducible exact H2_) | with_reducible exact H | (rw [hy165]; exact H) | exact H
  have Ny165 := a_ hy165
  clear hy165
  have c13b0 := eq_true (of_decide_eq_true (by first | (with_reducible assumption) | assumption) : 0 ≤ t157)
  have c14b0 := eq_true (of_decide_eq_true (by first | (with_reducible assumption) | assumption) : t157 ≤ (x5_1.length : Int))
  obtain ⟨y168, hy168⟩ : ∃ y_ : List Int, y_ = (x5_1.drop (t157 : Int).toNat) := ⟨_, rfl⟩
  replace H : (if y165.length + y168.length < 17592186044416 then (rl_column.l0 k1 l0 a1 (y165 ++ y168) (wrap64 (x6_1 + 1))) else (none)) = some r := by first | (rw [hy168]; with_reducible exact H) | (have H2_ := (Option.bind_some _ _).symm.trans H; rw [hy168]; with_reducible exact H2_) | (have H2_ := (Option.bind_some _ _).symm.trans H; with_reducible exact H2_) | with_reducible exact H | (rw [hy168]; exact H) | exact H
  have Ny168 := a_ hy168
  clear hy168
  by_cases c15 : y165.length + y168.length < 17592186044416
  rotate_left
  ·rw [if_neg c15] at H
   exact absurd H (by simp)
  rw [if_pos c15] at H
  have LMc15 := a_ c15
  clear c15
  obtain ⟨y172, hy172⟩ : ∃ y_ : List Int, y_ = (y165 ++ y168) := ⟨_, rfl⟩
  replace H : (rl_column.l0 k1 l0 a1 y172 (wrap64 (x6_1 + 1))) = some r := by first | (rw [hy172]; with_reducible exact H) | (have H2_ := (Option.bind_some _ _).symm.trans H; rw [hy172]; with_reducible exact H2_) | (have H2_ := (Option.bind_some _ _).symm.trans H; with_reducible exact H2_) | with_reducible exact H | (rw [hy172]; exact H) | exact H
  have Ny172 := a_ hy172
  clear hy172
  have H' := a_ H
  clear H
  have p156 : 0 ≤ (x6_1 : Int) := of_decide_eq_true (by first | (with_reducible assumption) | assumption)
  have q156 : x6_1 < (l0.length : Int) := of_decide_eq_true (by first | (with_reducible assumption) | assumption)
  obtain ⟨ad156, e156, hx156_0⟩ := Kd.at_int HR0.out x6_1 p156 q156
  cases e156
  replace hx156_0 := (HB.out.cell (World.block_lt_of_cell? w _ hx156_0)).trans hx156_0
  replace p156 := eq_true p156
  replace q156 := eq_true q156
  go_wp2_with (first | ((with_reducible refine gate_callee (f := 16) rfl ?_); refine goesL_ (some 26) rfl rfl Try.func16 (by kernel_rfl) rfl #[.int .i64 (rd l0 x6_1), .int .i64 (wrap64 (x6_1 + 1))] rfl (by (try simp only [List.map_toArray, List.map_cons, List.map_nil]); first | done | rfl | (simp only [List.length_drop, List.length_take]; rfl)) ?_; (with_reducible refine (rl_mod.calls (rd l0 x6_1) (wrap64 (x6_1 + 1)) t157 _ A8.out).mono ?_); rintro e w' ⟨rfl, ⟨nd, rfl⟩⟩; refine ⟨_, rfl, ?_⟩; obtain ⟨Ao17, co17, eo17⟩ := Kd.R_slice HO_5.out; subst eo17; have q16 : (t157 : Int) ≤ ((x5_1.length : Int) : Int) := of_decide_eq_true (by first | (with_reducible assumption) | assumption); obtain ⟨i016, hi016, _, hsz16, _⟩ := info_parts info3; have hroom16 : x5_1.length ≤ co17 := (Kd.R_reads' HO_5.out).2.1; have hC16 : Kd.C (Kd.int .i64) _ Ao17 x5_1.length x5_1 := (Kd.R_reads' HO_5.out).2.2; have hcut16 := cut_to (P := Try.prog) 22 3 .i64 Try.underlying22 hi016 Ao17 x5_1.length co17 t157 (of_decide_eq_true (by first | (with_reducible assumption) | assumption)) q16 hroom16; have hr16 := Kd.C_take (m := (t157 : Int).toNat) hC16 (by omega); have hy16 : y158.length = (t157 : Int).toNat := (by rw [Ny158.out, List.length_take]; omega); rw [← Ny158.out] at hr16; rw [← hy16] at hcut16; have HR161 := a_ hr16; have HC161 := a_ (show y158.length ≤ co17 from by omega); clear hr16 hC16 hroom16 hi016 hsz16; have KY16 := a_ hy16; clear hy16; have KL16 := a_ (show (t157 : Int).toNat ≤ x5_1.length from by omega); replace q16 := eq_true q16) | ((with_reducible refine gate_builtin (b := .append) (xs := #[.tmp 27, .tmp 30]) rfl ?_); at_builtin; refine Kd.R_append_rows (Kd.int .i64) (w0 := w) w.heap.size rfl (.tmp 27) (.tmp 30) 22 3 (.int .i64 0) 8 rfl Try.underlying22 info3 rfl (by decide) (by omega) (.slice none 0 0) ([] : List Int) y158 _ _ _ (fun k_ => some k_ ≠ (.slice Ao17 x5_1.length co17 : Value).ownBlock) (fun _ => False) rfl rfl ?aO ?aR (fun _ _ h => h) (fun _ h => h.elim) ?aF ?aB ?aS ?aL ?_; (case aR => repeat (first | exact (by repeat (first | (with_reducible exact HR161.out) | (with_reducible refine Kd.C_alloc ?_ _) | (with_reducible refine Kd.C_drewN ?_ _) | (with_reducible refine Kd.C_drew ?_) | exact HR161.out)) | (with_reducible refine Kd.C_alloc ?_ _) | (with_reducible refine Kd.C_drewN ?_ _) | (with_reducible refine Kd.C_drew ?_))); (case aB => exact (gr HB.out)); (case aF => exact (fun k_ hk => Kd.fresh' (Kd.R_lt (by exact rk HO_5.out)) k_ hk)); (case aO => exact ((Kd.R_nil _ _ _ _ (fun k_ => some k_ ≠ (.slice Ao17 x5_1.length co17 : Value).ownBlock)))); (case aS => exact (bZ_ (gr HB.out))); (case aL => have := LMc11.out; omega); intro v163 w18 ho hb hg hat; rw [← Ny162.out] at ho; have HO164 := a_ (ho); replace HB := a_ (hb); replace HR161 := a_ ((show Kd.C (Kd.int .i64) w18 Ao17 y158.length y158 from by rw [Ny158.out]; exact Kd.C_take (m := (t157 : Int).toNat) ((Kd.R_reads' (Kd.R_after (Kd.R_apart_nil (by exact rk HO_5.out)) hg hat)).2.2) KL16.out)); replace HO_5 := a_ (Kd.R_after (Kd.R_apart_nil (by exact rk HO_5.out)) hg hat); clear ho hb hg hat) | ((with_reducible refine gate_builtin (b := .append) (xs := #[.tmp 32, .tmp 34]) rfl ?_); at_builtin; refine Kd.R_append (Kd.int .i64) (w0 := w) w.heap.size rfl (.tmp 32) (.tmp 34) 22 3 (.int .i64 0) 8 rfl Try.underlying22 info3 rfl (by decide) (by omega) v163 y162 x6_1 [.int .i64 x6_1] (fun k_ => some k_ ≠ (.slice Ao17 x5_1.length co17 : Value).ownBlock) (fun _ => False) rfl rfl ?aP (fun _ hk => hk.elim) ?aF ?aO ?aB ?aS ?aL ?_; (case aP => exact rfl); (case aB => exact (gr HB.out)); (case aF => exact (fun k_ hk => Kd.fresh' (Kd.R_lt (by exact rk HO_5.out)) k_ hk)); (case aO => exact (by exact rk HO164.out)); (case aS => exact (bZ_ (gr HB.out))); (case aL => have := LMc12.out; omega); intro v166 w19 ho hb hg hat; rw [← Ny165.out] at ho; have HO167 := a_ (ho); replace HB := a_ (hb); replace HR161 := a_ ((show Kd.C (Kd.int .i64) w19 Ao17 y158.length y158 from by rw [Ny158.out]; exact Kd.C_take (m := (t157 : Int).toNat) ((Kd.R_reads' (Kd.R_after (ok := (fun _ => True)) (by exact rk HO_5.out) hg hat)).2.2) KL16.out)); replace HO_5 := a_ (Kd.R_after (ok := (fun _ => True)) (by exact rk HO_5.out) hg hat); clear HO164; clear ho hb hg hat; have q20 : (t157 : Int) ≤ ((x5_1.length : Int) : Int) := of_decide_eq_true (by first | (with_reducible assumption) | assumption); obtain ⟨i020, hi020, _, hsz20, _⟩ := info_parts info3; have hroom20 : x5_1.length ≤ co17 := (Kd.R_reads' HO_5.out).2.1; have hC20 : Kd.C (Kd.int .i64) _ Ao17 x5_1.length x5_1 := (Kd.R_reads' HO_5.out).2.2; have q020 : (0 : Int) ≤ (t157 : Int) := of_decide_eq_true (by first | (with_reducible assumption) | assumption); have hcut20 := cut_from (P := Try.prog) 22 3 .i64 Try.underlying22 hi020 1 hsz20 Ao17 x5_1.length co17 t157 q020 q20; have hr20 := Kd.C_drop (m := (t157 : Int).toNat) (c := co17) hC20 (by omega) hroom20; obtain ⟨A20, hA20⟩ : ∃ A1, A1 = (if co17 = (t157 : Int).toNat then Ao17 else (Ao17 : Option Addr).map (·.add ((t157 : Int).toNat * 1))) := ⟨_, rfl⟩; obtain ⟨c20, hc20⟩ : ∃ c1, c1 = co17 - (t157 : Int).toNat := ⟨_, rfl⟩; have hy20 : y168.length = x5_1.length - (t157 : Int).toNat := (by rw [Ny168.out, List.length_drop] <;> omega); rw [show (x5_1).drop (t157 : Int).toNat = y168 from Ny168.out.symm] at hr20; replace hr20 : Kd.C (Kd.int .i64) _ A20 y168.length y168 := (by rw [hA20]; exact hr20); rw [← hy20, ← hA20, ← hc20] at hcut20; have HR171 := a_ hr20; have HC171 := a_ (show y168.length ≤ c20 from by rw [hy20, hc20]; exact Nat.sub_le_sub_right hroom20 _); clear hr20 hC20 hroom20 hi020 hsz20 hc20; have KY20 := a_ hy20; have KA20 := a_ hA20; clear hy20 hA20; have KL20 := a_ (show (t157 : Int).toNat ≤ x5_1.length from by omega); replace q20 := eq_true q20) | ((with_reducible refine gate_builtin (b := .append) (xs := #[.tmp 36, .tmp 39]) rfl ?_); at_builtin; refine Kd.R_append_rows (Kd.int .i64) (w0 := w) w.heap.size rfl (.tmp 36) (.tmp 39) 22 3 (.int .i64 0) 8 rfl Try.underlying22 info3 rfl (by decide) (by omega) v166 y165 y168 _ _ _ (fun k_ => some k_ ≠ (.slice Ao17 x5_1.length co17 : Value).ownBlock) (fun _ => False) rfl rfl ?aO ?aR (fun _ _ h => h) (fun _ h => h.elim) ?aF ?aB ?aS ?aL ?_; (case aR => repeat (first | exact (by repeat (first | (with_reducible exact HR171.out) | (with_reducible refine Kd.C_alloc ?_ _) | (with_reducible refine Kd.C_drewN ?_ _) | (with_reducible refine Kd.C_drew ?_) | exact HR171.out)) | (with_reducible refine Kd.C_alloc ?_ _) | (with_reducible refine Kd.C_drewN ?_ _) | (with_reducible refine Kd.C_drew ?_))); (case aB => exact (gr HB.out)); (case aF => exact (fun k_ hk => Kd.fresh' (Kd.R_lt (by exact rk HO_5.out)) k_ hk)); (case aO => exact (by exact rk HO167.out)); (case aS => exact (bZ_ (gr HB.out))); (case aL => have := LMc15.out; omega); intro v173 w21 ho hb hg hat; rw [← Ny172.out] at ho; have HO174 := a_ (ho); replace HB := a_ (hb); replace HR161 := a_ ((show Kd.C (Kd.int .i64) w21 Ao17 y158.length y158 from by rw [Ny158.out]; exact Kd.C_take (m := (t157 : Int).toNat) ((Kd.R_reads' (Kd.R_after (ok := (fun _ => True)) (by exact rk HO_5.out) hg hat)).2.2) KL16.out)); replace HR171 := a_ ((show Kd.C (Kd.int .i64) w21 A20 y168.length y168 from by rw [Ny168.out, KA20.out]; exact Kd.C_drop (m := (t157 : Int).toNat) (c := co17) ((Kd.R_reads' (Kd.R_after (ok := (fun _ => True)) (by exact rk HO_5.out) hg hat)).2.2) KL20.out ((Kd.R_reads' (Kd.R_after (ok := (fun _ => True)) (by exact rk HO_5.out) hg hat)).2.1))); replace HO_5 := a_ (Kd.R_after (ok := (fun _ => True)) (by exact rk HO_5.out) hg hat); clear HO167; clear ho hb hg hat))
  go_roundg k1
  case measure => have := HK1.out; omega
  case rel => exact ⟨(y172), (wrap64 (x6_1 + 1)), (by first | rfl | (simp; done) | (simp [*]; done)), H', ⟨by have := HK1.out; omega⟩, ⟨by exact rk (Kd.R_mono HO174.out (fun _ hk => trivial))⟩, ⟨by exact gs HB.out⟩⟩
theorem S_one {α : Type} {d : Kd α} {e : Nat} {w : World} {base : Nat} {ok : Nat → Prop} {v : Value} {x : α} (h : d.R e w base ok v [x]) : Kd.S d e w base ok v [x] := by
 obtain ⟨h0, inner, ho, hr⟩ := h
 refine ⟨fun _ => 0, h0, inner, ho, hr.1, fun j p hj => ?_⟩
 cases j with
 | zero =>
  simp at hj
  subst hj
  exact d.M_mono (fun k hk => ⟨hk, rfl⟩) (hr.2 0 x rfl)
 | succ j => simp at hj
mutual
def rl_standard.j0 : Nat → Int → List (List Int) → Option ((List (List Int)))
 | 0, _, _ => none
 | k + 1, x1, x9 => (rr_Connected.f k x9).bind fun t205 => (if t205 = true then ((rr_Renumber.f k x9 0).bind fun t206 => (some t206)) else (rl_standard.l0 k x1 x9 0))
def rl_standard.l0 : Nat → Int → List (List Int) → Int → Option ((List (List Int)))
 | 0, _, _, _ => none
 | k + 1, x1, x9, x10 => if x10 < x1 then (if 0 < (x9.length : Int) then (if x1 = 0 then (none) else (if 0 ≤ x10 then (if x10 < ((rd_L1 x9 0).length : Int) then (rl_standard.l0 k x1 (x9.set (0 : Int).toNat ((rd_L1 x9 0).set (x10 : Int).toNat (Int.tmod (wrap64 (x10 + 1)) x1))) (wrap64 (x10 + 1))) else (none)) else (none))) else (none)) else ((rr_Renumber.f k x9 0).bind fun t213 => (some t213))
end
def rl_standard.f (k : Nat) (a0 : Int) (a1 : Int) (l2 : List Int) (l3 : List Int) : Option ((List (List Int))) := (rl_mod.f a1 5).bind fun t192 => ((rl_column.f k l2 (wrap64 (1 + t192))).bind fun t193 => (if ([] : List (List Int)).length < 5864062014805 then ((some (([] : List (List Int)) ++ [t193] : List (List Int))).bind fun y196 => (if a0 = 2 then ((rl_column.f k l3 (wrap64 (1 + t192))).bind fun t199 => (if y196.length < 5864062014805 then (rl_standard.j0 k (wrap64 (1 + t192)) (y196 ++ [t199])) else (none))) else (rl_standard.j0 k (wrap64 (1 + t192)) y196))) else (none)))
def rl_standard.T9 : Bool × List (List Nat × List Nat) := (true, [([], []), ([0], [0]), ([1], [1]), ([], []), ([], []), ([4], [4]), ([], []), ([5, 6], [5, 6]), ([2, 3, 0, 1, 2, 3, 4, 5, 6, 7], [2, 3]), ([8, 7, 0, 1, 2, 3, 4, 5, 6, 7], [7, 8])])
def rl_standard.B9 : List Nat := [0, 1, 3, 0, 0, 16, 0, 112, 255, 511]
theorem rl_standard.tab9 : rtab .any (opsOf Try.f15 9) = rl_standard.T9 := by kernel_rfl
theorem rl_standard.bits9 : waitsOk rl_standard.T9.2 rl_standard.B9 = true := by kernel_rfl
theorem rl_standard.calls (k : Nat) (a0 : Int) (a1 : Int) (A2 : Option Addr) (c2 : Nat) (l2 : List Int) (A3 : Option Addr) (c3 : Nat) (l3 : List Int) (r : List (List Int)) (w : World) (hr2 : Kd.C (Kd.int .i64) w A2 l2.length l2) (hc2 : l2.length ≤ c2) (hr3 : Kd.C (Kd.int .i64) w A3 l3.length l3) (hc3 : l3.length ≤ c3) (h : rl_standard.f k a0 a1 l2 l3 = some r) :
  Calls Try.prog 15 #[.int .i64 a0, .int .i64 a1, .slice A2 l2.length c2, .slice A3 l3.length c3] w fun e w' => ∃ v0_ : Value, e = .returned (v0_) ∧ Kd.S (Kd.slice 3 (Kd.int .i64)) 22 w' w.heap.size (fun _ => True) v0_ r ∧ Below w.heap.size w w' := by
 have HR2 := a_ hr2
 have HC2 := a_ hc2
 clear hr2 hc2
 have HR3 := a_ hr3
 have HC3 := a_ hc3
 clear hr3 hc3
 have HB := a_ (Below.refl w.heap.size w)
 have H : ((rl_mod.f a1 5).bind fun t192 => ((rl_column.f k l2 (wrap64 (1 + t192))).bind fun t193 => (if ([] : List (List Int)).length < 5864062014805 then ((some (([] : List (List Int)) ++ [t193] : List (List Int))).bind fun y196 => (if a0 = 2 then ((rl_column.f k l3 (wrap64 (1 + t192))).bind fun t199 => (if y196.length < 5864062014805 then (rl_standard.j0 k (wrap64 (1 + t192)) (y196 ++ [t199])) else (none))) else (rl_standard.j0 k (wrap64 (1 + t192)) y196))) else (none)))) = some r := h
 clear h
 replace H := Option.bind_eq_some_iff.mp H
 obtain ⟨t192, A50, H⟩ := H
 try dsimp only at H
 have A5 := a_ A50
 clear A50
 replace H := Option.bind_eq_some_iff.mp H
 obtain ⟨t193, A60, H⟩ := H
 try dsimp only at H
 have A6 := a_ A60
 clear A60
 by_cases c7 : ([] : List (List Int)).length < 5864062014805
 rotate_left
 ·rw [if_neg c7] at H
  exact absurd H (by simp)
 rw [if_pos c7] at H
 have LMc7 := a_ c7
 clear c7
 obtain ⟨y196, hy196⟩ : ∃ y_ : List (List Int), y_ = (([] : List (List Int)) ++ [t193]) := ⟨_, rfl⟩
 replace H : (if a0 = 2 then ((rl_column.f k l3 (wrap64 (1 + t192))).bind fun t199 => (if y196.length < 5864062014805 then (rl_standard.j0 k (wrap64 (1 + t192)) (y196 ++ [t199])) else (none))) else (rl_standard.j0 k (wrap64 (1 + t192)) y196)) = some r := by first | (rw [hy196]; with_reducible exact H) | (have H2_ := (Option.bind_some _ _).symm.trans H; rw [hy196]; with_reducible exact H2_) | (have H2_ := (Option.bind_some _ _).symm.trans H; with_reducible exact H2_) | with_reducible exact H | (rw [hy196]; exact H) | exact H
 have Ny196 := a_ hy196
 clear hy196
 have HC8 := a_ H
 clear H
 go_enter Try.func15, Try.ntmps15
 go_upto_if 19 with (first | ((with_reducible refine gate_callee (f := 16) rfl ?_); refine goesL_ (some 12) rfl rfl Try.func16 (by kernel_rfl) rfl #[.int .i64 a1, .int .i64 5] rfl (by (try simp only [List.map_toArray, List.map_cons, List.map_nil]); first | done | rfl | (simp only [List.length_drop, List.length_take]; rfl)) ?_; (with_reducible refine (rl_mod.calls a1 5 t192 _ A5.out).mono ?_); rintro e w' ⟨rfl, ⟨nd, rfl⟩⟩; refine ⟨_, rfl, ?_⟩) | ((with_reducible refine gate_callee (f := 50) rfl ?_); refine goesL_ (some 16) rfl rfl Try.func50 (by kernel_rfl) rfl #[.slice A2 l2.length c2, .int .i64 (wrap64 (1 + t192))] rfl (by (try simp only [List.map_toArray, List.map_cons, List.map_nil]); first | done | rfl | (simp only [List.length_drop, List.length_take]; rfl)) ?_; (with_reducible refine (rl_column.calls k _ _ l2 (wrap64 (1 + t192)) t193 _ ?side1 ?side2 A6.out).mono ?_); (case side1 => repeat (first | exact HR2.out | (with_reducible refine Kd.C_alloc ?_ _) | (with_reducible refine Kd.C_drewN ?_ _) | (with_reducible refine Kd.C_drew ?_))); (case side2 => exact HC2.out); rintro e w9 ⟨v194, rfl, ho0, hb⟩; refine ⟨_, rfl, ?_⟩; have HO195 := a_ (Kd.R_lower ho0 (bZ_ (gr HB.out))); replace HB := a_ (bT_ HB.out (tr hb)); (try clear hb); (try clear hb2); (try clear hk); (try clear hi); (try clear ho0); obtain ⟨Ao11, co11, eo11⟩ := Kd.R_slice HO195.out; subst eo11) | ((with_reducible refine gate_dst (N := 17) rfl ?_); refine Kd.R_lit (Kd.slice 3 (Kd.int .i64)) (w0 := w) w.heap.size 22 ?hg (N := 17) ?hd (xs := ([t193] : List (List Int))) (inner := [.slice Ao11 t193.length co11]) (ok := fun _ => True) (okp := fun _ => True) ?hr ?hp (fun _ hk => hk) trivial (gr HB.out) (bZ_ (gr HB.out)) (by simp) ?_; (case hd => rfl); (case hg => rfl); (case hr => first | (go_simp; done) | (go_simp; rfl)); (case hp => exact (Reps.one (show (Kd.slice 3 (Kd.int .i64)).M _ _ _ t193 [.slice Ao11 t193.length co11] from Kd.M_row (Kd.R_mono HO195.out (fun _ _ => trivial))) (Reps.none _ _))); intro v197 w10 ho hb hg_ hnew_; clear hg_ hnew_; have HO198 := a_ (show Kd.S (Kd.slice 3 (Kd.int .i64)) 22 w10 w.heap.size (fun _ => True) v197 y196 by rw [Ny196.out]; exact S_one ho); replace HB := a_ (hb); clear HO195; clear ho hb))
 (try simp only [Act.put, List.setIfInBounds_toArray, List.set_cons_zero, List.set_cons_succ])
 go_cut [9] (fun v9 wc => ∃ (kq : Nat) (x9_7 : List (List Int)), Aside0 (rl_standard.j0 kq (wrap64 (1 + t192)) x9_7 = some r) ∧ Aside0 (kq ≤ k) ∧ Aside0 (Kd.S (Kd.slice 3 (Kd.int .i64)) 22 wc w.heap.size (fun _ => True) v9 x9_7) ∧ Aside0 (Below w.heap.size w wc))
 case first =>
  have H := HC8.out
  clear HC8
  by_cases c12 : a0 = 2
  rotate_left
  ·rw [if_neg c12] at H
   have c12b0 : (a0 == 2) = false := beq_eq_false_iff_ne.mpr c12
   have c12b1 : (a0 != 2) = true := bne_iff_ne.mpr c12
   (first | rw [c12b0] | (simp only [i64_w, i32_w]; rw [c12b0]) | skip)
   have H' := a_ H
   clear H
   go_wp2
   go_meet
   case rel => exact ⟨_, (y196), H', ⟨by first | omega | exact Nat.le_refl _⟩, ⟨by (with_reducible repeat (first | apply Kd.S_alloc | apply Kd.S_drewN | apply Kd.S_drew)); exact HO198.out⟩, ⟨by exact gs HB.out⟩⟩
  rw [if_pos c12] at H
  have c12b0 : (a0 == 2) = true := beq_iff_eq.mpr c12
  have c12b1 : (a0 != 2) = false := bne_eq_false_iff_eq.mpr c12
  clear c12
  (first | rw [c12b0] | (simp only [i64_w, i32_w]; rw [c12b0]) | skip)
  replace H := Option.bind_eq_some_iff.mp H
  obtain ⟨t199, A130, H⟩ := H
  try dsimp only at H
  have A13 := a_ A130
  clear A130
  by_cases c14 : y196.length < 5864062014805
  rotate_left
  ·rw [if_neg c14] at H
   exact absurd H (by simp)
  rw [if_pos c14] at H
  have LMc14 := a_ c14
  clear c14
  obtain ⟨y202, hy202⟩ : ∃ y_ : List (List Int), y_ = (y196 ++ [t199]) := ⟨_, rfl⟩
  replace H : (rl_standard.j0 k (wrap64 (1 + t192)) y202) = some r := by first | (rw [hy202]; with_reducible exact H) | (have H2_ := (Option.bind_some _ _).symm.trans H; rw [hy202]; with_reducible exact H2_) | (have H2_ := (Option.bind_some _ _).symm.trans H; with_reducible exact H2_) | with_reducible exact H | (rw [hy202]; exact H) | exact H
  have Ny202 := a_ hy202
  clear hy202
  have H' := a_ H
  clear H
  go_wp2_with (first | ((with_reducible refine gate_callee (f := 50) rfl ?_); refine goesL_ (some 23) rfl rfl Try.func50 (by kernel_rfl) rfl #[.slice A3 l3.length c3, .int .i64 (wrap64 (1 + t192))] rfl (by (try simp only [List.map_toArray, List.map_cons, List.map_nil]); first | done | rfl | (simp only [List.length_drop, List.length_take]; rfl)) ?_; (with_reducible refine (rl_column.calls k _ _ l3 (wrap64 (1 + t192)) t199 _ ?side1 ?side2 A13.out).mono ?_); (case side1 => repeat (first | exact (Kd.C_below HR3.out HB.out) | (with_reducible refine Kd.C_alloc ?_ _) | (with_reducible refine Kd.C_drewN ?_ _) | (with_reducible refine Kd.C_drew ?_))); (case side2 => exact HC3.out); rintro e w15 ⟨v200, rfl, ho0, hb⟩; refine ⟨_, rfl, ?_⟩; have HO201 := a_ (Kd.R_lower ho0 (bZ_ (gr HB.out))); replace HO198 := a_ (Kd.S_elder' (by (with_reducible repeat (first | apply Kd.S_alloc | apply Kd.S_drewN | apply Kd.S_drew)); exact HO198.out) (Kd.R_base ho0) hb); replace HB := a_ (bT_ HB.out (tr hb)); (try clear hb); (try clear hb2); (try clear hk); (try clear hi); (try clear ho0); obtain ⟨Ao17, co17, eo17⟩ := Kd.R_slice HO201.out; subst eo17) | ((with_reducible refine gate_builtin (b := .append) (xs := #[.tmp 20, .tmp 24]) rfl ?_); at_builtin; refine Kd.S_append (Kd.slice 3 (Kd.int .i64)) (w0 := w) w.heap.size rfl (.tmp 20) (.tmp 24) 23 22 (.slice none 0 0) 24 rfl Try.underlying23 info22 rfl (by decide) (by omega) v197 y196 t199 [.slice Ao17 t199.length co17] (fun _ => True) (fun k_ => some k_ = (.slice Ao17 t199.length co17 : Value).ownBlock) rfl rfl ?aP (fun k_ hk_ => ((Kd.R_mono (ok' := fun k_ => ((fun _ => True)) k_ ∧ some k_ ≠ (v197 : Value).ownBlock) (Kd.R_apart' (HO201.out) (Kd.S_typed HO198.out) (by decide)) (fun k_ hk => ⟨trivial, hk.2⟩))).1 k_ hk_.symm) ?aF ?aO ?aB ?aS ?aL ?_; (case aP => exact Kd.M_row (Kd.R_mono (Kd.R_tight rfl (Kd.R_mono (ok' := fun k_ => ((fun _ => True)) k_ ∧ some k_ ≠ (v197 : Value).ownBlock) (Kd.R_apart' (HO201.out) (Kd.S_typed HO198.out) (by decide)) (fun k_ hk => ⟨trivial, hk.2⟩))) (fun _ h_ => h_))); (case aB => exact (gr HB.out)); (case aF => exact (fun _ _ => trivial)); (case aO => exact (by (with_reducible repeat (first | apply Kd.S_alloc | apply Kd.S_drewN | apply Kd.S_drew)); exact Kd.S_mono HO198.out (fun k_ hk => ⟨trivial, fun e_ => hk.2 e_⟩))); (case aS => exact (bZ_ (gr HB.out))); (case aL => have := LMc14.out; omega); intro v203 w16 ho hb hg hat; rw [← Ny202.out] at ho; have HO204 := a_ (ho); replace HB := a_ (hb); clear HO198 HO201; clear ho hb hg hat))
  go_meet
  case rel => exact ⟨_, (y202), H', ⟨by first | omega | exact Nat.le_refl _⟩, ⟨by (with_reducible repeat (first | apply Kd.S_alloc | apply Kd.S_drewN | apply Kd.S_drew)); exact HO204.out⟩, ⟨by exact gs HB.out⟩⟩
 case rest =>
  clear HC8
  try clear c1
  try clear c2
  try clear p2
  try clear c3
  try clear c5
  try clear p6
  try clear c7
  try clear c12
  try clear c12b0
  try clear c12b1
  try clear c14
  try clear c15
  try clear c16
  obtain ⟨kq, x9_7, HA, HJ7, HO_9, HB⟩ := hcut
  cases kq with
  | zero => exact absurd HA.out (by simp [rl_standard.j0])
  | succ kj7 =>
   have H := HA.out
   clear HA
   simp only [rl_standard.j0] at H
   replace H := Option.bind_eq_some_iff.mp H
   obtain ⟨t205, A180, H⟩ := H
   try dsimp only at H
   have A18 := a_ A180
   clear A180
   by_cases c19 : t205 = true
   ·subst c19
    have H1 := H; rw [if_pos rfl] at H1
    clear H
    have H := H1
    clear H1
    replace H := Option.bind_eq_some_iff.mp H
    obtain ⟨t206, A200, H⟩ := H
    try dsimp only at H
    have A20 := a_ A200
    clear A200
    obtain rfl := Option.some.inj H
    obtain ⟨Ao21, co21, eo21⟩ := Kd.S_slice HO_9.out
    subst eo21
    go_wp2_with (first | ((with_reducible refine gate_callee (f := 30) rfl ?_); refine goesL_ (some 27) rfl rfl Try.func30 (by kernel_rfl) rfl #[.slice Ao21 x9_7.length co21] rfl (by (try simp only [List.map_toArray, List.map_cons, List.map_nil]); first | done | rfl | (simp only [List.length_drop, List.length_take]; rfl)) ?_; (with_reducible refine (rr_Connected.calls kj7 _ _ x9_7 true _ ?side1 ?side2 A18.out).mono ?_); (case side1 => repeat (first | exact (Kd.S_reads' HO_9.out).2.2 | (with_reducible refine Kd.C_alloc ?_ _) | (with_reducible refine Kd.C_drewN ?_ _) | (with_reducible refine Kd.C_drew ?_))); (case side2 => exact (Kd.S_reads' HO_9.out).2.1); rintro e w22 ⟨rfl, hb⟩; refine ⟨_, rfl, ?_⟩; replace HO_9 := a_ (Kd.S_below (by (with_reducible repeat (first | apply Kd.S_alloc | apply Kd.S_drewN | apply Kd.S_drew)); exact HO_9.out) hb); replace HB := a_ (bT_ HB.out (tr hb)); (try clear hb); (try clear hb2); (try clear hk); (try clear hi)) | ((with_reducible refine gate_callee (f := 32) rfl ?_); refine goesL_ (some 44) rfl rfl Try.func32 (by kernel_rfl) rfl #[.slice Ao21 x9_7.length co21, .int .i64 0] rfl (by (try simp only [List.map_toArray, List.map_cons, List.map_nil]); first | done | rfl | (simp only [List.length_drop, List.length_take]; rfl)) ?_; (with_reducible refine (rr_Renumber.calls kj7 _ _ x9_7 0 t206 _ ?side1 ?side2 A20.out).mono ?_); (case side1 => repeat (first | exact (Kd.S_reads' HO_9.out).2.2 | (with_reducible refine Kd.C_alloc ?_ _) | (with_reducible refine Kd.C_drewN ?_ _) | (with_reducible refine Kd.C_drew ?_))); (case side2 => exact (Kd.S_reads' HO_9.out).2.1); rintro e w23 ⟨v207, rfl, ho0, hb⟩; refine ⟨_, rfl, ?_⟩; have HO208 := a_ (Kd.S_lower (Kd.S_new' ho0 (Kd.S_lt (by (with_reducible repeat (first | apply Kd.S_alloc | apply Kd.S_drewN | apply Kd.S_drew)); exact HO_9.out))) (bZ_ (gr HB.out))); replace HO_9 := a_ (Kd.S_elder' (by (with_reducible repeat (first | apply Kd.S_alloc | apply Kd.S_drewN | apply Kd.S_drew)); exact HO_9.out) (Kd.S_base ho0) hb); replace HB := a_ (bT_ HB.out (tr hb)); (try clear hb); (try clear hb2); (try clear hk); (try clear hi); (try clear ho0)))
    go_ret
    exact ⟨_, by first | rfl | (simp [errW_none, errW_some] <;> rfl) | (simp [*, errW_none, errW_some] <;> rfl), by (with_reducible repeat (first | apply Kd.S_alloc | apply Kd.S_drewN | apply Kd.S_drew)); exact Kd.S_mono HO208.out (fun _ hk => trivial), by exact gs HB.out⟩
   replace c19 := Bool.eq_false_iff.mpr c19
   subst c19
   have H1 := H; rw [if_neg (show ¬ (false = true) by decide)] at H1
   clear H
   have H := H1
   clear H1
   have H' := a_ H
   clear H
   obtain ⟨Ao24, co24, eo24⟩ := Kd.S_slice HO_9.out
   subst eo24
   go_wp2_with (first | ((with_reducible refine gate_callee (f := 30) rfl ?_); refine goesL_ (some 27) rfl rfl Try.func30 (by kernel_rfl) rfl #[.slice Ao24 x9_7.length co24] rfl (by (try simp only [List.map_toArray, List.map_cons, List.map_nil]); first | done | rfl | (simp only [List.length_drop, List.length_take]; rfl)) ?_; (with_reducible refine (rr_Connected.calls kj7 _ _ x9_7 false _ ?side1 ?side2 A18.out).mono ?_); (case side1 => repeat (first | exact (Kd.S_reads' HO_9.out).2.2 | (with_reducible refine Kd.C_alloc ?_ _) | (with_reducible refine Kd.C_drewN ?_ _) | (with_reducible refine Kd.C_drew ?_))); (case side2 => exact (Kd.S_reads' HO_9.out).2.1); rintro e w25 ⟨rfl, hb⟩; refine ⟨_, rfl, ?_⟩; replace HO_9 := a_ (Kd.S_below (by (with_reducible repeat (first | apply Kd.S_alloc | apply Kd.S_drewN | apply Kd.S_drew)); exact HO_9.out) hb); replace HB := a_ (bT_ HB.out (tr hb)); (try clear hb); (try clear hb2); (try clear hk); (try clear hi)))
   go_loopg [10] kj7 (fun kq v10 w' => ∃ (x9_2 : List (List Int)) (x10_2 : Int), v10 = .int .i64 x10_2 ∧ Aside0 (rl_standard.l0 kq (wrap64 (1 + t192)) x9_2 x10_2 = some r) ∧ Aside0 (kq ≤ kj7) ∧ Aside0 (Kd.S (Kd.slice 3 (Kd.int .i64)) 22 w' w.heap.size (fun _ => True) (.slice Ao24 x9_7.length co24) x9_2) ∧ Aside0 (Below w.heap.size w w'))
   case atStart => exact ⟨(x9_7), (0), (by first | rfl | (simp; done) | (simp [*]; done)), H', ⟨Nat.le_refl _⟩, ⟨by (with_reducible repeat (first | apply Kd.S_alloc | apply Kd.S_drewN | apply Kd.S_drew)); exact HO_9.out⟩, ⟨by exact gs HB.out⟩⟩
   clear H'
   try clear c1
   try clear c2
   try clear p2
   try clear c3
   try clear c5
   try clear p6
   try clear c7
   try clear c12
   try clear c12b0
   try clear c12b1
   try clear c14
   try clear c15
   try clear c16
   try clear c19
   try clear p2
   try clear p6
   obtain ⟨x9_2, x10_2, rfl, HA, HK2, HO_9, HB⟩ := hrel
   have hl9_2 := (Kd.S_reads' HO_9.out).1
   rw [hl9_2] at HO_9
   (try simp only [hl9_2])
   cases gk with
   | zero => exact absurd HA.out (by simp [rl_standard.l0])
   | succ k2 =>
    have H := HA.out
    clear HA
    simp only [rl_standard.l0] at H
    by_cases c26 : x10_2 < (wrap64 (1 + t192))
    rotate_left
    ·rw [if_neg c26] at H
     have c26b0 : decide (x10_2 < (wrap64 (1 + t192))) = false := decide_eq_false c26
     clear c26
     replace H := Option.bind_eq_some_iff.mp H
     obtain ⟨t213, A350, H⟩ := H
     try dsimp only at H
     have A35 := a_ A350
     clear A350
     obtain rfl := Option.some.inj H
     go_wp2_with (first | ((with_reducible refine gate_callee (f := 32) rfl ?_); refine goesL_ (some 44) rfl rfl Try.func32 (by kernel_rfl) rfl #[.slice Ao24 x9_2.length co24, .int .i64 0] rfl (by (try simp only [List.map_toArray, List.map_cons, List.map_nil]); first | done | rfl | (simp only [List.length_drop, List.length_take]; rfl)) ?_; (with_reducible refine (rr_Renumber.calls k2 _ _ x9_2 0 t213 _ ?side1 ?side2 A35.out).mono ?_); (case side1 => repeat (first | exact (Kd.S_reads' HO_9.out).2.2 | (with_reducible refine Kd.C_alloc ?_ _) | (with_reducible refine Kd.C_drewN ?_ _) | (with_reducible refine Kd.C_drew ?_))); (case side2 => exact (Kd.S_reads' HO_9.out).2.1); rintro e w36 ⟨v214, rfl, ho0, hb⟩; refine ⟨_, rfl, ?_⟩; have HO215 := a_ (Kd.S_lower (Kd.S_new' ho0 (Kd.S_lt (by (with_reducible repeat (first | apply Kd.S_alloc | apply Kd.S_drewN | apply Kd.S_drew)); exact HO_9.out))) (bZ_ (gr HB.out))); replace HO_9 := a_ (Kd.S_elder' (by (with_reducible repeat (first | apply Kd.S_alloc | apply Kd.S_drewN | apply Kd.S_drew)); exact HO_9.out) (Kd.S_base ho0) hb); replace HB := a_ (bT_ HB.out (tr hb)); (try clear hb); (try clear hb2); (try clear hk); (try clear hi); (try clear ho0)))
     go_ret
     exact ⟨_, by first | rfl | (simp [errW_none, errW_some] <;> rfl) | (simp [*, errW_none, errW_some] <;> rfl), by (with_reducible repeat (first | apply Kd.S_alloc | apply Kd.S_drewN | apply Kd.S_drew)); exact Kd.S_mono HO215.out (fun _ hk => trivial), by exact gs HB.out⟩
    rw [if_pos c26] at H
    have c26b0 : decide (x10_2 < (wrap64 (1 + t192))) = true := decide_eq_true c26
    clear c26
    by_cases c27 : 0 < (x9_2.length : Int)
    rotate_left
    ·rw [if_neg c27] at H
     exact absurd H (by simp)
    rw [if_pos c27] at H
    have c27b0 : decide (0 < (x9_2.length : Int)) = true := decide_eq_true c27
    have c27b1 : decide (0 < x9_2.length) = true := decide_eq_true (by omega)
    clear c27
    by_cases c28 : (wrap64 (1 + t192)) = 0
    ·rw [if_pos c28] at H
     exact absurd H (by simp)
    rw [if_neg c28] at H
    have c28b0 : ((wrap64 (1 + t192)) == 0) = false := beq_eq_false_iff_ne.mpr c28
    have c28b1 : ((wrap64 (1 + t192)) != 0) = true := bne_iff_ne.mpr c28
    by_cases c29 : 0 ≤ x10_2
    rotate_left
    ·rw [if_neg c29] at H
     exact absurd H (by simp)
    rw [if_pos c29] at H
    have c29b0 : decide (0 ≤ x10_2) = true := decide_eq_true c29
    clear c29
    by_cases c30 : x10_2 < ((rd_L1 x9_2 0).length : Int)
    rotate_left
    ·rw [if_neg c30] at H
     exact absurd H (by simp)
    rw [if_pos c30] at H
    have c30b0 : decide (x10_2 < ((rd_L1 x9_2 0).length : Int)) = true := decide_eq_true c30
    clear c30
    obtain ⟨y210, hy210⟩ : ∃ y_ : List Int, y_ = ((rd_L1 x9_2 0).set (x10_2 : Int).toNat (Int.tmod (wrap64 (x10_2 + 1)) (wrap64 (1 + t192)))) := ⟨_, rfl⟩
    replace H : (rl_standard.l0 k2 (wrap64 (1 + t192)) (x9_2.set (0 : Int).toNat y210) (wrap64 (x10_2 + 1))) = some r := by first | (rw [hy210]; with_reducible exact H) | (have H2_ := (Option.bind_some _ _).symm.trans H; rw [hy210]; with_reducible exact H2_) | (have H2_ := (Option.bind_some _ _).symm.trans H; with_reducible exact H2_) | with_reducible exact H | (rw [hy210]; exact H) | exact H
    have Ny210 := a_ hy210
    clear hy210
    obtain ⟨y212, hy212⟩ : ∃ y_ : List (List Int), y_ = (x9_2.set (0 : Int).toNat y210) := ⟨_, rfl⟩
    replace H : (rl_standard.l0 k2 (wrap64 (1 + t192)) y212 (wrap64 (x10_2 + 1))) = some r := by first | (rw [hy212]; with_reducible exact H) | (have H2_ := (Option.bind_some _ _).symm.trans H; rw [hy212]; with_reducible exact H2_) | (have H2_ := (Option.bind_some _ _).symm.trans H; with_reducible exact H2_) | with_reducible exact H | (rw [hy212]; exact H) | exact H
    have Ny212 := a_ hy212
    clear hy212
    have H' := a_ H
    clear H
    try go_wp2
    replace HO_9 := a_ (Kd.S_drew HO_9.out)
    replace HB := a_ (b1_ HB.out)
    have p209 : 0 ≤ (0 : Int) := (by omega)
    have q209 : 0 < (x9_2.length : Int) := of_decide_eq_true (by first | (with_reducible assumption) | assumption)
    obtain ⟨ad209, A209_0, c209_0, e209, hx209_0, hl209_0, hi209_0⟩ := at_L1 (Kd.S_reads' HO_9.out).2.2 0 p209 q209
    cases e209
    obtain ⟨ce209, hce209, hMe209, hcc209⟩ := Kd.S_get HO_9.out [] 0 p209 (by first | exact q209 | exact of_decide_eq_true (by first | (with_reducible assumption) | assumption) | (have e_ := (Kd.S_reads' HO_9.out).1; omega))
    obtain ⟨ve209_0, rfl, ge209_0⟩ := hMe209
    have hv209_0 := hcc209 0 _ rfl
    rw [Nat.add_zero, show ((Kd.slice 3 (Kd.int .i64))).sz = 1 from rfl, Nat.mul_one] at hv209_0
    replace hv209_0 := Option.some.inj (hv209_0.symm.trans hx209_0)
    rw [hv209_0] at ge209_0
    have HL209_0 := a_ (show Kd.R (Kd.int .i64) 3 _ _ _ _ (rd_L1 x9_2 0) from ge209_0)
    clear hv209_0 ge209_0
    have HX209_0 := a_ hx209_0
    clear hcc209 hce209
    have qi209 : (0 < x9_2.length) = True := eq_true (by omega)
    (try rw [show ((0 : Int)).toNat = 0 from rfl] at hx209_0)
    (try rw [Addr.add_zero'] at hx209_0)
    have HR209_0 := a_ hi209_0
    have HC209_0 := a_ hl209_0
    clear hi209_0 hl209_0
    replace p209 := eq_true p209
    replace q209 := eq_true q209
    have p31 : 0 ≤ (x10_2 : Int) := of_decide_eq_true (by first | (with_reducible assumption) | assumption)
    have q31 : (x10_2 : Int) < (((rd_L1 x9_2 0).length : Int) : Int) := of_decide_eq_true (by first | (with_reducible assumption) | assumption)
    obtain ⟨go31, co31, eo31, gb31, gl31, cl31, HG31⟩ := Kd.R_form HL209_0.out (by omega)
    (first | cases eo31 | (injection eo31 with ea_ en_ ec_; (first | subst ea_ | (injection ea_ with ea_; subst ea_)); subst ec_; clear en_))
    have GB31 := a_ gb31
    have GG31 := a_ HG31
    clear gb31 gl31 HG31
    obtain ⟨hx31_0, hf31_0⟩ := Kd.R_celln 0 HL209_0.out (x10_2 : Int) p31 q31
    replace p31 := eq_true p31
    replace q31 := eq_true q31
    have hq33 : (0 : Int) < (x9_2.length : Int) := (by have h_ : (0 : Int) < ((x9_2.length : Int) : Int) := of_decide_eq_true (by first | (with_reducible assumption) | assumption); first | exact h_ | (have e_ := (Kd.S_reads' HO_9.out).1; omega) | simpa only [List.length_set, List.length_set] using h_)
    obtain ⟨oki33, ce33, hcl33, hM33, hcc33, hok33, hbk33⟩ := Kd.S_borrow HO_9.out [] (0 : Int) (by omega) hq33
    obtain ⟨ve33_0, rfl, ge33_0⟩ := hM33
    have hv33 := hcc33 0 _ rfl
    rw [Nat.add_zero, show ((Kd.slice 3 (Kd.int .i64))).sz = 1 from rfl, Nat.mul_one] at hv33
    replace hv33 := Option.some.inj (hv33.symm.trans HX209_0.out)
    subst hv33
    clear hcc33 hcl33
    replace ge33_0 := (show Kd.R (Kd.int .i64) 3 _ _ _ _ (rd_L1 x9_2 0) from ge33_0)
    have HP33 := Kd.R_putg ge33_0 (x10_2 : Int) (Int.tmod (wrap64 (x10_2 + 1)) (wrap64 (1 + t192)))
    rw [← Ny210.out] at HP33
    have HS33 := hbk33 HP33.2 (fun k_ e_ => by injection e_ with e_; subst e_; exact ge33_0.1 _ rfl) (x' := y210) (Kd.M_row HP33.1)
    rw [← Ny212.out] at HS33
    have HQ33 := a_ HS33
    clear HP33 HS33 hbk33 hok33
    refine start_ (n := 10) (S := fun w' => w'.cell? ad209 = some (.slice (some ⟨go31, 0, none⟩) (rd_L1 x9_2 0).length c209_0)) (ds := [9]) #[false, false, false, false, false, false, false, false, false, false] (by kernel_rfl) rfl rfl (hx209_0) (fun hHeld => ?_); refine with_tabW rl_standard.tab9 rl_standard.bits9 (fun HT_ HW_ => ?_)
    generalize wr.drew = w32 at HO_9 HB GG31 HL209_0 HQ33 HR209_0 HX209_0 hf31_0 hx209_0 hx31_0 hHeld ⊢
    refine pure_ (i := 0) (N := some 34) (v := ?_) (a' := ?_) #[true, false, false, false, false, false, false, false, false, false] rfl rfl (any_of HT_.out (by kernel_rfl)) (fun _ _ _ h => h) (Or.inl ⟨by rfl, ?_⟩) ?_ ?_
    rotate_left
    ·intro w'
     go_simp
     with_reducible rfl
    rotate_left
    ·simp only [Act.put, List.setIfInBounds_toArray, List.set_cons_zero, List.set_cons_succ, i64_w, i32_w]
     rfl
    refine pure_ (i := 1) (N := some 35) (v := ?_) (a' := ?_) #[true, true, false, false, false, false, false, false, false, false] rfl rfl (any_of HT_.out (by kernel_rfl)) (fun _ _ _ h => h) (Or.inl ⟨by rfl, ?_⟩) ?_ ?_
    rotate_left
    ·intro w'
     go_simp
     with_reducible rfl
    rotate_left
    ·simp only [Act.put, List.setIfInBounds_toArray, List.set_cons_zero, List.set_cons_succ, i64_w, i32_w]
     rfl
    refine pure_ (i := 3) (N := some 37) (v := ?_) (a' := ?_) #[true, true, false, true, false, false, false, false, false, false] rfl rfl (any_of HT_.out (by kernel_rfl)) (fun _ _ _ h => h) (Or.inl ⟨by rfl, ?_⟩) ?_ ?_
    rotate_left
    ·intro w'
     go_simp
     with_reducible rfl
    rotate_left
    ·simp only [Act.put, List.setIfInBounds_toArray, List.set_cons_zero, List.set_cons_succ, i64_w, i32_w]
     rfl
    refine pure_ (i := 4) (N := some 38) (v := ?_) (a' := ?_) #[true, true, false, true, true, false, false, false, false, false] rfl rfl (any_of HT_.out (by kernel_rfl)) (fun _ _ _ h => h) (Or.inl ⟨by rfl, ?_⟩) ?_ ?_
    rotate_left
    ·intro w'
     go_simp
     with_reducible rfl
    rotate_left
    ·simp only [Act.put, List.setIfInBounds_toArray, List.set_cons_zero, List.set_cons_succ, i64_w, i32_w]
     rfl
    refine pure_ (i := 5) (N := some 39) (v := ?_) (a' := ?_) #[true, true, false, true, true, true, false, false, false, false] rfl rfl (any_of HT_.out (by kernel_rfl)) (fun _ _ _ h => h) (Or.inl ⟨by rfl, ?_⟩) ?_ ?_
    rotate_left
    ·intro w'
     go_simp
     with_reducible rfl
    rotate_left
    ·simp only [Act.put, List.setIfInBounds_toArray, List.set_cons_zero, List.set_cons_succ, i64_w, i32_w]
     rfl
    refine pure_ (i := 6) (N := some 40) (v := ?_) (a' := ?_) #[true, true, false, true, true, true, true, false, false, false] rfl rfl (any_of HT_.out (by kernel_rfl)) (fun _ _ _ h => h) (Or.inl ⟨by rfl, ?_⟩) ?_ ?_
    rotate_left
    ·intro w'
     go_simp
     with_reducible rfl
    rotate_left
    ·simp only [Act.put, List.setIfInBounds_toArray, List.set_cons_zero, List.set_cons_succ, i64_w, i32_w]
     rfl
    refine pure_ (i := 7) (N := some 41) (v := ?_) (a' := ?_) #[true, true, false, true, true, true, true, true, false, false] rfl rfl (any_of HT_.out (by kernel_rfl)) (fun _ _ _ h => h) (Or.inl ⟨by rfl, ?_⟩) ?_ ?_
    rotate_left
    ·intro w'
     go_simp
     with_reducible rfl
    rotate_left
    ·simp only [Act.put, List.setIfInBounds_toArray, List.set_cons_zero, List.set_cons_succ, i64_w, i32_w]
     rfl
    refine take_ (i := 2) (N := some 36) (v := ?_) (a' := ?_) #[true, true, true, true, true, true, true, true, false, false] rfl rfl (take_ofW HT_.out HW_.out (by kernel_rfl)) (fun _ _ _ h => h) (Or.inl ⟨by rfl, ?_⟩) hHeld ?_ ?_
    rotate_left
    ·intro w' s0
     go_simp
     with_reducible rfl
    rotate_left
    ·simp only [Act.put, List.setIfInBounds_toArray, List.set_cons_zero, List.set_cons_succ, i64_w, i32_w]
     rfl
    refine pure_ (i := 8) (N := some 42) (v := ?_) (a' := ?_) #[true, true, true, true, true, true, true, true, true, false] rfl rfl (any_of HT_.out (by kernel_rfl)) (fun _ _ _ h => h) (Or.inl ⟨by rfl, ?_⟩) ?_ ?_
    rotate_left
    ·intro w'
     go_simp
     with_reducible rfl
    rotate_left
    ·simp only [Act.put, List.setIfInBounds_toArray, List.set_cons_zero, List.set_cons_succ, i64_w, i32_w]
     rfl
    refine last_ (i := 9) (N := none) #[true, true, true, true, true, true, true, true, true, true] rfl rfl (one_of HT_.out (by kernel_rfl)) (by decide) (fun K hK => ?_)
    refine skip_ (w1 := ?_) (by rfl) rfl ?_ ?_
    rotate_left
    ·go_simp
     rfl
    refine hK.out _ _ ?_
    clear hK K
    refine done_ (done_of HT_.out (by kernel_rfl)) ?_
    try go_wp2
    (try simp only [← hl9_2])
    go_roundg k2
    case measure => have := HJ7.out; have := HK2.out; omega
    case rel => exact ⟨(y212), (wrap64 (x10_2 + 1)), (by first | rfl | (simp; done) | (simp [*]; done)), H', ⟨by have := HJ7.out; have := HK2.out; omega⟩, ⟨by (try simp only [hl9_2]); (with_reducible repeat (first | apply Kd.S_alloc | apply Kd.S_drewN | apply Kd.S_drew)); exact HQ33.out⟩, ⟨by repeat (first | (with_reducible first | exact HB.out | apply bA_ | apply bN_ | apply b1_ | refine bS_ ?_ GB31.out) | exact HB.out)⟩⟩
def rl_CasingMeeting.j0 : Nat → Int → ByteArray → List (List Int) → List (List Int) → List (List Int) → Bool → Option (Bool)
 | 0, _, _, _, _, _, _ => none
 | k + 1, x0, x5, x13, x14, x15, x104 => if x104 = true then (some false) else ((rl_word.f k x5 x0 20).bind fun t487 => ((rr_Send.f k x13 0 t487).bind fun t488 => ((rr_Send.f k x14 0 t487).bind fun t489 => ((rl_follow.f k x15 0 t487).bind fun t490 => (if t490 ≥ 0 then (if t488 = 0 then (if ((t490 == 0) == (t489 == 0)) = true then ((rl_awake.f).bind fun t491 => (some t491)) else (some false)) else (if ((t490 == 0) == false) = true then ((rl_awake.f).bind fun t492 => (some t492)) else (some false))) else (some false))))))
def rl_CasingMeeting.f (k : Nat) (a0 : Int) (a1 : Int) (l2 : List Int) (l3 : List Int) (l4 : List Int) (a5 : ByteArray) : Option (Bool) := (rl_mod.f a0 2).bind fun t464 => ((rl_standard.f k (wrap64 (1 + t464)) a1 l2 l3).bind fun t465 => ((rl_standard.f k (wrap64 (1 + t464)) (wrap64 (Int.tdiv a1 7)) l3 l4).bind fun t468 => ((c_Meet.f k t465 t468).bind fun bt471 => ((c_Meet.f k t465 t465).bind fun bt475 => (if bt471.2 = 0 then (if bt475.2 = 0 then ((rr_Same.f k bt475.1 t465).bind fun t479 => (if t479 = true then (if (bt471.1.length : Int) = (wrap64 (1 + t464)) then (if 0 < (bt471.1.length : Int) then (if 0 < (t465.length : Int) then (if 0 < (t468.length : Int) then (if ((rd_L1 bt471.1 0).length : Int) > (wrap64 (((rd_L1 t465 0).length : Int) * ((rd_L1 t468 0).length : Int))) then (rl_CasingMeeting.j0 k (wrap64 (1 + t464)) a5 t465 t468 bt471.1 true) else (if ((rd_L1 bt471.1 0).length : Int) < ((rd_L1 t465 0).length : Int) then (rl_CasingMeeting.j0 k (wrap64 (1 + t464)) a5 t465 t468 bt471.1 true) else (rl_CasingMeeting.j0 k (wrap64 (1 + t464)) a5 t465 t468 bt471.1 (decide (((rd_L1 bt471.1 0).length : Int) < ((rd_L1 t468 0).length : Int)))))) else (none)) else (none)) else (none)) else (rl_CasingMeeting.j0 k (wrap64 (1 + t464)) a5 t465 t468 bt471.1 true)) else (rl_CasingMeeting.j0 k (wrap64 (1 + t464)) a5 t465 t468 bt471.1 true))) else (rl_CasingMeeting.j0 k (wrap64 (1 + t464)) a5 t465 t468 bt471.1 true)) else (rl_CasingMeeting.j0 k (wrap64 (1 + t464)) a5 t465 t468 bt471.1 true))))))
def rl_CasingMeeting.T5 : Bool × List (List Nat × List Nat) := (true, [([], []), ([0], [0]), ([1], [1]), ([2], [2]), ([3, 2], [2, 3]), ([2, 4], [2, 4]), ([5, 2], [5]), ([6], [6]), ([6], [6]), ([7, 8, 6, 6], [6, 7, 8]), ([9, 6], [6, 9]), ([6, 10], [6, 10]), ([11, 9], [11]), ([12], [12]), ([13, 12], [12, 13]), ([12], [12]), ([14, 15, 12], [12, 14, 15]), ([12, 16], [12, 16]), ([17, 12], [17]), ([18], [18]), ([19, 18], [18, 19]), ([20, 18], [18, 20]), ([21, 18], [18, 21]), ([18], [18]), ([23, 18], [18, 23]), ([24, 18], [18, 24]), ([25, 18], [18, 25]), ([18], [18]), ([27, 18], [18, 27]), ([28, 18], [18, 28]), ([29, 18], [18, 29]), ([26, 30, 18], [18, 26, 30]), ([22, 31, 18], [18, 22, 31]), ([18, 32], [18, 32]), ([33, 18], [33]), ([34], [34]), ([35, 34], [34, 35]), ([36, 34], [34, 36]), ([37, 34], [34, 37]), ([34], [34]), ([39, 34], [34, 39]), ([40, 34], [34, 40]), ([41, 34], [34, 41]), ([38, 42, 34], [34, 38, 42]), ([34, 43], [34, 43]), ([44, 34], [44]), ([45], [45]), ([46, 45], [45, 46]), ([47, 45], [45, 47]), ([48, 45], [45, 48]), ([45], [45]), ([50, 45], [45, 50]), ([51, 45], [45, 51]), ([52, 45], [45, 52]), ([49, 53, 45], [45, 49, 53]), ([45, 54], [45, 54])])
def rl_CasingMeeting.B5 : List Nat := [0, 1, 3, 7, 15, 31, 63, 127, 127, 511, 1023, 2047, 4095, 8191, 16383, 8191, 65535, 131071, 262143, 524287, 1048575, 2097151, 4194303, 524287, 8912895, 25690111, 59244543, 524287, 134742015, 403177471, 940048383, 2139619327, 4294967295, 8589934591, 17179869183, 34359738367, 68719476735, 137438953471, 274877906943, 34359738367, 584115552255, 1683627180031, 3882650435583, 8796093022207, 17592186044415, 35184372088831, 70368744177663, 140737488355327, 281474976710655, 562949953421311, 70368744177663, 1196268651020287, 3448068464705535, 7951668092076031, 18014398509481983, 36028797018963967]
theorem rl_CasingMeeting.tab5 : rtab .any (opsOf Try.f9 5) = rl_CasingMeeting.T5 := by kernel_rfl
theorem rl_CasingMeeting.bits5 : waitsOk rl_CasingMeeting.T5.2 rl_CasingMeeting.B5 = true := by kernel_rfl
theorem rl_CasingMeeting.j0_no {k : Nat} {x0 : Int} {x5 : ByteArray} {x13 x14 x15 : List (List Int)} {r : Bool} (h : rl_CasingMeeting.j0 k x0 x5 x13 x14 x15 true = some r) (hr : r = true) : False := by
 cases k with
 | zero => simp [rl_CasingMeeting.j0] at h
 | succ k =>
  rw [rl_CasingMeeting.j0, if_pos rfl] at h
  cases h
  cases hr
theorem rl_CasingMeeting.calls (k : Nat) (a0 : Int) (a1 : Int) (A2 : Option Addr) (c2 : Nat) (l2 : List Int) (A3 : Option Addr) (c3 : Nat) (l3 : List Int) (A4 : Option Addr) (c4 : Nat) (l4 : List Int) (a5 : ByteArray) (r : Bool) (hrt : Aside0 (r = true)) (w : World) (hr2 : Kd.C (Kd.int .i64) w A2 l2.length l2) (hc2 : l2.length ≤ c2) (hr3 : Kd.C (Kd.int .i64) w A3 l3.length l3) (hc3 : l3.length ≤ c3) (hr4 : Kd.C (Kd.int .i64) w A4 l4.length l4) (hc4 : l4.length ≤ c4) (h : rl_CasingMeeting.f k a0 a1 l2 l3 l4 a5 = some r) :
  Calls Try.prog 9 #[.int .i64 a0, .int .i64 a1, .slice A2 l2.length c2, .slice A3 l3.length c3, .slice A4 l4.length c4, .string a5] w fun e w' => e = .returned (.bool r) ∧ Below w.heap.size w w' := by
 have HR2 := a_ hr2
 have HC2 := a_ hc2
 clear hr2 hc2
 have HR3 := a_ hr3
 have HC3 := a_ hc3
 clear hr3 hc3
 have HR4 := a_ hr4
 have HC4 := a_ hc4
 clear hr4 hc4
 have HB := a_ (Below.refl w.heap.size w)
 have H : ((rl_mod.f a0 2).bind fun t464 => ((rl_standard.f k (wrap64 (1 + t464)) a1 l2 l3).bind fun t465 => ((rl_standard.f k (wrap64 (1 + t464)) (wrap64 (Int.tdiv a1 7)) l3 l4).bind fun t468 => ((c_Meet.f k t465 t468).bind fun bt471 => ((c_Meet.f k t465 t465).bind fun bt475 => (if bt471.2 = 0 then (if bt475.2 = 0 then ((rr_Same.f k bt475.1 t465).bind fun t479 => (if t479 = true then (if (bt471.1.length : Int) = (wrap64 (1 + t464)) then (if 0 < (bt471.1.length : Int) then (if 0 < (t465.length : Int) then (if 0 < (t468.length : Int) then (if ((rd_L1 bt471.1 0).length : Int) > (wrap64 (((rd_L1 t465 0).length : Int) * ((rd_L1 t468 0).length : Int))) then (rl_CasingMeeting.j0 k (wrap64 (1 + t464)) a5 t465 t468 bt471.1 true) else (if ((rd_L1 bt471.1 0).length : Int) < ((rd_L1 t465 0).length : Int) then (rl_CasingMeeting.j0 k (wrap64 (1 + t464)) a5 t465 t468 bt471.1 true) else (rl_CasingMeeting.j0 k (wrap64 (1 + t464)) a5 t465 t468 bt471.1 (decide (((rd_L1 bt471.1 0).length : Int) < ((rd_L1 t468 0).length : Int)))))) else (none)) else (none)) else (none)) else (rl_CasingMeeting.j0 k (wrap64 (1 + t464)) a5 t465 t468 bt471.1 true)) else (rl_CasingMeeting.j0 k (wrap64 (1 + t464)) a5 t465 t468 bt471.1 true))) else (rl_CasingMeeting.j0 k (wrap64 (1 + t464)) a5 t465 t468 bt471.1 true)) else (rl_CasingMeeting.j0 k (wrap64 (1 + t464)) a5 t465 t468 bt471.1 true))))))) = some r := h
 clear h
 replace H := Option.bind_eq_some_iff.mp H
 obtain ⟨t464, A70, H⟩ := H
 try dsimp only at H
 have A7 := a_ A70
 clear A70
 replace H := Option.bind_eq_some_iff.mp H
 obtain ⟨t465, A80, H⟩ := H
 try dsimp only at H
 have A8 := a_ A80
 clear A80
 replace H := Option.bind_eq_some_iff.mp H
 obtain ⟨t468, A90, H⟩ := H
 try dsimp only at H
 have A9 := a_ A90
 clear A90
 replace H := Option.bind_eq_some_iff.mp H
 obtain ⟨⟨t471, t472⟩, A100, H⟩ := H
 try dsimp only at H
 have A10 := a_ A100
 clear A100
 replace H := Option.bind_eq_some_iff.mp H
 obtain ⟨⟨t475, t476⟩, A110, H⟩ := H
 try dsimp only at H
 have A11 := a_ A110
 clear A110
 have HC12 := a_ H
 clear H
 go_enter Try.func9, Try.ntmps9
 go_upto_region 5 with (first | ((with_reducible refine gate_callee (f := 16) rfl ?_); refine goesL_ (some 24) rfl rfl Try.func16 (by kernel_rfl) rfl #[.int .i64 a0, .int .i64 2] rfl (by (try simp only [List.map_toArray, List.map_cons, List.map_nil]); first | done | rfl | (simp only [List.length_drop, List.length_take]; rfl)) ?_; (with_reducible refine (rl_mod.calls a0 2 t464 _ A7.out).mono ?_); rintro e w' ⟨rfl, ⟨nd, rfl⟩⟩; refine ⟨_, rfl, ?_⟩) | ((with_reducible refine gate_callee (f := 15) rfl ?_); refine goesL_ (some 30) rfl rfl Try.func15 (by kernel_rfl) rfl #[.int .i64 (wrap64 (1 + t464)), .int .i64 a1, .slice A2 l2.length c2, .slice A3 l3.length c3] rfl (by (try simp only [List.map_toArray, List.map_cons, List.map_nil]); first | done | rfl | (simp only [List.length_drop, List.length_take]; rfl)) ?_; (with_reducible refine (rl_standard.calls k (wrap64 (1 + t464)) a1 _ _ l2 _ _ l3 t465 _ ?side1 ?side2 ?side3 ?side4 A8.out).mono ?_); (case side1 => repeat (first | exact HR2.out | (with_reducible refine Kd.C_alloc ?_ _) | (with_reducible refine Kd.C_drewN ?_ _) | (with_reducible refine Kd.C_drew ?_))); (case side2 => exact HC2.out); (case side3 => repeat (first | exact HR3.out | (with_reducible refine Kd.C_alloc ?_ _) | (with_reducible refine Kd.C_drewN ?_ _) | (with_reducible refine Kd.C_drew ?_))); (case side4 => exact HC3.out); rintro e w13 ⟨v466, rfl, ho0, hb⟩; refine ⟨_, rfl, ?_⟩; have HO467 := a_ (Kd.S_lower ho0 (bZ_ (gr HB.out))); replace HB := a_ (bT_ HB.out (tr hb)); (try clear hb); (try clear hb2); (try clear hk); (try clear hi); (try clear ho0)) | ((with_reducible refine gate_callee (f := 15) rfl ?_); refine goesL_ (some 36) rfl rfl Try.func15 (by kernel_rfl) rfl #[.int .i64 (wrap64 (1 + t464)), .int .i64 (wrap64 (Int.tdiv a1 7)), .slice A3 l3.length c3, .slice A4 l4.length c4] rfl (by (try simp only [List.map_toArray, List.map_cons, List.map_nil]); first | done | rfl | (simp only [List.length_drop, List.length_take]; rfl)) ?_; (with_reducible refine (rl_standard.calls k (wrap64 (1 + t464)) (wrap64 (Int.tdiv a1 7)) _ _ l3 _ _ l4 t468 _ ?side1 ?side2 ?side3 ?side4 A9.out).mono ?_); (case side1 => repeat (first | exact (Kd.C_below HR3.out HB.out) | (with_reducible refine Kd.C_alloc ?_ _) | (with_reducible refine Kd.C_drewN ?_ _) | (with_reducible refine Kd.C_drew ?_))); (case side2 => exact HC3.out); (case side3 => repeat (first | exact (Kd.C_below HR4.out HB.out) | (with_reducible refine Kd.C_alloc ?_ _) | (with_reducible refine Kd.C_drewN ?_ _) | (with_reducible refine Kd.C_drew ?_))); (case side4 => exact HC4.out); rintro e w14 ⟨v469, rfl, ho0, hb⟩; refine ⟨_, rfl, ?_⟩; have HO470 := a_ (Kd.S_lower (Kd.S_new' ho0 (Kd.S_lt (by (with_reducible repeat (first | apply Kd.S_alloc | apply Kd.S_drewN | apply Kd.S_drew)); exact HO467.out))) (bZ_ (gr HB.out))); replace HO467 := a_ (Kd.S_elder' (by (with_reducible repeat (first | apply Kd.S_alloc | apply Kd.S_drewN | apply Kd.S_drew)); exact HO467.out) (Kd.S_base ho0) hb); replace HB := a_ (bT_ HB.out (tr hb)); (try clear hb); (try clear hb2); (try clear hk); (try clear hi); (try clear ho0); obtain ⟨Ao15, co15, eo15⟩ := Kd.S_slice HO467.out; subst eo15; obtain ⟨Ao16, co16, eo16⟩ := Kd.S_slice HO470.out; subst eo16) | ((with_reducible refine gate_callee (f := 36) rfl ?_); refine goesL_ (some 40) rfl rfl Try.func36 (by kernel_rfl) rfl #[.slice Ao15 t465.length co15, .slice Ao16 t468.length co16] rfl (by (try simp only [List.map_toArray, List.map_cons, List.map_nil]); first | done | rfl | (simp only [List.length_drop, List.length_take]; rfl)) ?_; (with_reducible refine (c_Meet.calls k _ _ t465 _ _ t468 t471 t472 _ ?side1 ?side2 ?side3 ?side4 A10.out).mono ?_); (case side1 => repeat (first | exact (Kd.S_reads' HO467.out).2.2 | (with_reducible refine Kd.C_alloc ?_ _) | (with_reducible refine Kd.C_drewN ?_ _) | (with_reducible refine Kd.C_drew ?_))); (case side2 => exact (Kd.S_reads' HO467.out).2.1); (case side3 => repeat (first | exact (Kd.S_reads' HO470.out).2.2 | (with_reducible refine Kd.C_alloc ?_ _) | (with_reducible refine Kd.C_drewN ?_ _) | (with_reducible refine Kd.C_drew ?_))); (case side4 => exact (Kd.S_reads' HO470.out).2.1); rintro e w17 ⟨v473, rfl, ho0, hb⟩; refine ⟨_, rfl, ?_⟩; have HO474 := a_ (Kd.S_lower (Kd.S_new' (Kd.S_new' ho0 (Kd.S_lt (by (with_reducible repeat (first | apply Kd.S_alloc | apply Kd.S_drewN | apply Kd.S_drew)); exact HO467.out))) (Kd.S_lt (by (with_reducible repeat (first | apply Kd.S_alloc | apply Kd.S_drewN | apply Kd.S_drew)); exact HO470.out))) (bZ_ (gr HB.out))); replace HO467 := a_ (Kd.S_elder' (by (with_reducible repeat (first | apply Kd.S_alloc | apply Kd.S_drewN | apply Kd.S_drew)); exact HO467.out) (Kd.S_base ho0) hb); replace HO470 := a_ (Kd.S_elder' (by (with_reducible repeat (first | apply Kd.S_alloc | apply Kd.S_drewN | apply Kd.S_drew)); exact HO470.out) (Kd.S_base ho0) hb); replace HB := a_ (bT_ HB.out (tr hb)); (try clear hb); (try clear hb2); (try clear hk); (try clear hi); (try clear ho0)) | ((with_reducible refine gate_callee (f := 36) rfl ?_); refine goesL_ (some 46) rfl rfl Try.func36 (by kernel_rfl) rfl #[.slice Ao15 t465.length co15, .slice Ao15 t465.length co15] rfl (by (try simp only [List.map_toArray, List.map_cons, List.map_nil]); first | done | rfl | (simp only [List.length_drop, List.length_take]; rfl)) ?_; (with_reducible refine (c_Meet.calls k _ _ t465 _ _ t465 t475 t476 _ ?side1 ?side2 ?side3 ?side4 A11.out).mono ?_); (case side1 => repeat (first | exact (Kd.S_reads' HO467.out).2.2 | (with_reducible refine Kd.C_alloc ?_ _) | (with_reducible refine Kd.C_drewN ?_ _) | (with_reducible refine Kd.C_drew ?_))); (case side2 => exact (Kd.S_reads' HO467.out).2.1); (case side3 => repeat (first | exact (Kd.S_reads' HO467.out).2.2 | (with_reducible refine Kd.C_alloc ?_ _) | (with_reducible refine Kd.C_drewN ?_ _) | (with_reducible refine Kd.C_drew ?_))); (case side4 => exact (Kd.S_reads' HO467.out).2.1); rintro e w18 ⟨v477, rfl, ho0, hb⟩; refine ⟨_, rfl, ?_⟩; have HO478 := a_ (Kd.S_lower (Kd.S_new' (Kd.S_new' (Kd.S_new' ho0 (Kd.S_lt (by (with_reducible repeat (first | apply Kd.S_alloc | apply Kd.S_drewN | apply Kd.S_drew)); exact HO467.out))) (Kd.S_lt (by (with_reducible repeat (first | apply Kd.S_alloc | apply Kd.S_drewN | apply Kd.S_drew)); exact HO470.out))) (Kd.S_lt (by (with_reducible repeat (first | apply Kd.S_alloc | apply Kd.S_drewN | apply Kd.S_drew)); exact HO474.out))) (bZ_ (gr HB.out))); replace HO467 := a_ (Kd.S_elder' (by (with_reducible repeat (first | apply Kd.S_alloc | apply Kd.S_drewN | apply Kd.S_drew)); exact HO467.out) (Kd.S_base ho0) hb); replace HO470 := a_ (Kd.S_elder' (by (with_reducible repeat (first | apply Kd.S_alloc | apply Kd.S_drewN | apply Kd.S_drew)); exact HO470.out) (Kd.S_base ho0) hb); replace HO474 := a_ (Kd.S_elder' (by (with_reducible repeat (first | apply Kd.S_alloc | apply Kd.S_drewN | apply Kd.S_drew)); exact HO474.out) (Kd.S_base ho0) hb); replace HB := a_ (bT_ HB.out (tr hb)); (try clear hb); (try clear hb2); (try clear hk); (try clear hi); (try clear ho0)))
 (try simp only [Act.put, List.setIfInBounds_toArray, List.set_cons_zero, List.set_cons_succ])
 go_cut [104] (fun v104 wc => ∃ (kq : Nat) (x104_11 : Bool), v104 = .bool x104_11 ∧ Aside0 (rl_CasingMeeting.j0 kq (wrap64 (1 + t464)) a5 t465 t468 t471 x104_11 = some r) ∧ Aside0 (kq ≤ k) ∧ Aside0 (Kd.S (Kd.slice 3 (Kd.int .i64)) 22 wc w.heap.size (fun k_ => some k_ ≠ ((.slice Ao16 t468.length co16) : Value).ownBlock ∧ some k_ ≠ (v473 : Value).ownBlock) (.slice Ao15 t465.length co15) t465) ∧ Aside0 (Kd.S (Kd.slice 3 (Kd.int .i64)) 22 wc w.heap.size (fun k_ => some k_ ≠ ((.slice Ao15 t465.length co15) : Value).ownBlock ∧ some k_ ≠ (v473 : Value).ownBlock) (.slice Ao16 t468.length co16) t468) ∧ Aside0 (Kd.S (Kd.slice 3 (Kd.int .i64)) 22 wc w.heap.size (fun k_ => some k_ ≠ ((.slice Ao15 t465.length co15) : Value).ownBlock ∧ some k_ ≠ ((.slice Ao16 t468.length co16) : Value).ownBlock) v473 t471) ∧ Aside0 (Below w.heap.size w wc))
 case first =>
  have H := HC12.out
  clear HC12
  by_cases c19 : t472 = 0
  rotate_left
  ·rw [if_neg c19] at H
   have c19b0 : (t472 == 0) = false := beq_eq_false_iff_ne.mpr c19
   have c19b1 : (t472 != 0) = true := bne_iff_ne.mpr c19
   (first | rw [c19b0] | (simp only [i64_w, i32_w]; rw [c19b0]) | skip)
   exact (rl_CasingMeeting.j0_no H hrt.out).elim
  rw [if_pos c19] at H
  have c19b0 : (t472 == 0) = true := beq_iff_eq.mpr c19
  have c19b1 : (t472 != 0) = false := bne_eq_false_iff_eq.mpr c19
  clear c19
  (first | rw [c19b0] | (simp only [i64_w, i32_w]; rw [c19b0]) | skip)
  by_cases c20 : t476 = 0
  rotate_left
  ·rw [if_neg c20] at H
   have c20b0 : (t476 == 0) = false := beq_eq_false_iff_ne.mpr c20
   have c20b1 : (t476 != 0) = true := bne_iff_ne.mpr c20
   exact (rl_CasingMeeting.j0_no H hrt.out).elim
  rw [if_pos c20] at H
  have c20b0 : (t476 == 0) = true := beq_iff_eq.mpr c20
  have c20b1 : (t476 != 0) = false := bne_eq_false_iff_eq.mpr c20
  clear c20
  replace H := Option.bind_eq_some_iff.mp H
  obtain ⟨t479, A210, H⟩ := H
  try dsimp only at H
  have A21 := a_ A210
  clear A210
  by_cases c22 : t479 = true
  rotate_left
  ·replace c22 := Bool.eq_false_iff.mpr c22
   subst c22
   have H1 := H; rw [if_neg (show ¬ (false = true) by decide)] at H1
   clear H
   have H := H1
   clear H1
   exact (rl_CasingMeeting.j0_no H hrt.out).elim
  subst c22
  have H1 := H; rw [if_pos rfl] at H1
  clear H
  have H := H1
  clear H1
  by_cases c23 : (t471.length : Int) = (wrap64 (1 + t464))
  rotate_left
  ·rw [if_neg c23] at H
   have c23b0 : ((t471.length : Int) == (wrap64 (1 + t464))) = false := beq_eq_false_iff_ne.mpr c23
   have c23b1 : ((t471.length : Int) != (wrap64 (1 + t464))) = true := bne_iff_ne.mpr c23
   exact (rl_CasingMeeting.j0_no H hrt.out).elim
  rw [if_pos c23] at H
  have c23b0 : ((t471.length : Int) == (wrap64 (1 + t464))) = true := beq_iff_eq.mpr c23
  have c23b1 : ((t471.length : Int) != (wrap64 (1 + t464))) = false := bne_eq_false_iff_eq.mpr c23
  clear c23
  by_cases c24 : 0 < (t471.length : Int)
  rotate_left
  ·rw [if_neg c24] at H
   exact absurd H (by simp)
  rw [if_pos c24] at H
  have c24b0 : decide (0 < (t471.length : Int)) = true := decide_eq_true c24
  have c24b1 : decide (0 < t471.length) = true := decide_eq_true (by omega)
  clear c24
  by_cases c25 : 0 < (t465.length : Int)
  rotate_left
  ·rw [if_neg c25] at H
   exact absurd H (by simp)
  rw [if_pos c25] at H
  have c25b0 : decide (0 < (t465.length : Int)) = true := decide_eq_true c25
  have c25b1 : decide (0 < t465.length) = true := decide_eq_true (by omega)
  clear c25
  by_cases c26 : 0 < (t468.length : Int)
  rotate_left
  ·rw [if_neg c26] at H
   exact absurd H (by simp)
  rw [if_pos c26] at H
  have c26b0 : decide (0 < (t468.length : Int)) = true := decide_eq_true c26
  have c26b1 : decide (0 < t468.length) = true := decide_eq_true (by omega)
  clear c26
  by_cases c27 : ((rd_L1 t471 0).length : Int) > (wrap64 (((rd_L1 t465 0).length : Int) * ((rd_L1 t468 0).length : Int)))
  ·rw [if_pos c27] at H
   have c27b0 : decide ((wrap64 (((rd_L1 t465 0).length : Int) * ((rd_L1 t468 0).length : Int))) < ((rd_L1 t471 0).length : Int)) = true := decide_eq_true c27
   clear c27
   exact (rl_CasingMeeting.j0_no H hrt.out).elim
  rw [if_neg c27] at H
  have c27b0 : decide ((wrap64 (((rd_L1 t465 0).length : Int) * ((rd_L1 t468 0).length : Int))) < ((rd_L1 t471 0).length : Int)) = false := decide_eq_false c27
  clear c27
  by_cases c31 : ((rd_L1 t471 0).length : Int) < ((rd_L1 t465 0).length : Int)
  ·rw [if_pos c31] at H
   have c31b0 : decide (((rd_L1 t471 0).length : Int) < ((rd_L1 t465 0).length : Int)) = true := decide_eq_true c31
   have c31b1 : decide ((rd_L1 t471 0).length < (rd_L1 t465 0).length) = true := decide_eq_true (Int.ofNat_lt.mp c31)
   clear c31
   exact (rl_CasingMeeting.j0_no H hrt.out).elim
  rw [if_neg c31] at H
  have c31b0 : decide (((rd_L1 t471 0).length : Int) < ((rd_L1 t465 0).length : Int)) = false := decide_eq_false c31
  have c31b1 : decide ((rd_L1 t471 0).length < (rd_L1 t465 0).length) = false := decide_eq_false (fun h => c31 (Int.ofNat_lt.mpr h))
  clear c31
  have H' := a_ H
  clear H
  try go_wp2
  replace HO467 := a_ (Kd.S_drew HO467.out)
  replace HO470 := a_ (Kd.S_drew HO470.out)
  replace HO474 := a_ (Kd.S_drew HO474.out)
  replace HO478 := a_ (Kd.S_drew HO478.out)
  replace HB := a_ (b1_ HB.out)
  obtain ⟨Ao36, co36, eo36⟩ := Kd.S_slice HO478.out
  (first | subst eo36 | (injection eo36 with f1_ f2_ f3_; have f4_ := f1_.symm; have f5_ := f3_.symm; clear f1_ f2_ f3_; subst f4_; subst f5_))
  have p480 : 0 ≤ (0 : Int) := (by omega)
  have q480 : 0 < (t471.length : Int) := of_decide_eq_true (by first | (with_reducible assumption) | assumption)
  obtain ⟨Ao9_, co9_, eo9_⟩ := Kd.S_slice HO474.out
  (try subst eo9_)
  obtain ⟨ad480, A480_0, c480_0, e480, hx480_0, hl480_0, hi480_0⟩ := at_L1 (Kd.S_reads' HO474.out).2.2 0 p480 q480
  cases e480
  obtain ⟨ce480, hce480, hMe480, hcc480⟩ := Kd.S_get HO474.out [] 0 p480 (by first | exact q480 | exact of_decide_eq_true (by first | (with_reducible assumption) | assumption) | (have e_ := (Kd.S_reads' HO474.out).1; omega))
  obtain ⟨ve480_0, rfl, ge480_0⟩ := hMe480
  have hv480_0 := hcc480 0 _ rfl
  rw [Nat.add_zero, show ((Kd.slice 3 (Kd.int .i64))).sz = 1 from rfl, Nat.mul_one] at hv480_0
  replace hv480_0 := Option.some.inj (hv480_0.symm.trans hx480_0)
  rw [hv480_0] at ge480_0
  have HL480_0 := a_ (show Kd.R (Kd.int .i64) 3 _ _ _ _ (rd_L1 t471 0) from ge480_0)
  clear hv480_0 ge480_0
  clear hcc480 hce480
  have qi480 : (0 < t471.length) = True := eq_true (by omega)
  (try rw [show ((0 : Int)).toNat = 0 from rfl] at hx480_0)
  (try rw [Addr.add_zero'] at hx480_0)
  have HR480_0 := a_ hi480_0
  have HC480_0 := a_ hl480_0
  clear hi480_0 hl480_0
  replace p480 := eq_true p480
  replace q480 := eq_true q480
  have p481 : 0 ≤ (0 : Int) := (by omega)
  have q481 : 0 < (t465.length : Int) := of_decide_eq_true (by first | (with_reducible assumption) | assumption)
  obtain ⟨ad481, A481_0, c481_0, e481, hx481_0, hl481_0, hi481_0⟩ := at_L1 (Kd.S_reads' HO467.out).2.2 0 p481 q481
  cases e481
  obtain ⟨ce481, hce481, hMe481, hcc481⟩ := Kd.S_get HO467.out [] 0 p481 (by first | exact q481 | exact of_decide_eq_true (by first | (with_reducible assumption) | assumption) | (have e_ := (Kd.S_reads' HO467.out).1; omega))
  obtain ⟨ve481_0, rfl, ge481_0⟩ := hMe481
  have hv481_0 := hcc481 0 _ rfl
  rw [Nat.add_zero, show ((Kd.slice 3 (Kd.int .i64))).sz = 1 from rfl, Nat.mul_one] at hv481_0
  replace hv481_0 := Option.some.inj (hv481_0.symm.trans hx481_0)
  rw [hv481_0] at ge481_0
  have HL481_0 := a_ (show Kd.R (Kd.int .i64) 3 _ _ _ _ (rd_L1 t465 0) from ge481_0)
  clear hv481_0 ge481_0
  clear hcc481 hce481
  have qi481 : (0 < t465.length) = True := eq_true (by omega)
  (try rw [show ((0 : Int)).toNat = 0 from rfl] at hx481_0)
  (try rw [Addr.add_zero'] at hx481_0)
  have HR481_0 := a_ hi481_0
  have HC481_0 := a_ hl481_0
  clear hi481_0 hl481_0
  replace p481 := eq_true p481
  replace q481 := eq_true q481
  have p482 : 0 ≤ (0 : Int) := (by omega)
  have q482 : 0 < (t468.length : Int) := of_decide_eq_true (by first | (with_reducible assumption) | assumption)
  obtain ⟨ad482, A482_0, c482_0, e482, hx482_0, hl482_0, hi482_0⟩ := at_L1 (Kd.S_reads' HO470.out).2.2 0 p482 q482
  cases e482
  obtain ⟨ce482, hce482, hMe482, hcc482⟩ := Kd.S_get HO470.out [] 0 p482 (by first | exact q482 | exact of_decide_eq_true (by first | (with_reducible assumption) | assumption) | (have e_ := (Kd.S_reads' HO470.out).1; omega))
  obtain ⟨ve482_0, rfl, ge482_0⟩ := hMe482
  have hv482_0 := hcc482 0 _ rfl
  rw [Nat.add_zero, show ((Kd.slice 3 (Kd.int .i64))).sz = 1 from rfl, Nat.mul_one] at hv482_0
  replace hv482_0 := Option.some.inj (hv482_0.symm.trans hx482_0)
  rw [hv482_0] at ge482_0
  have HL482_0 := a_ (show Kd.R (Kd.int .i64) 3 _ _ _ _ (rd_L1 t468 0) from ge482_0)
  clear hv482_0 ge482_0
  clear hcc482 hce482
  have qi482 : (0 < t468.length) = True := eq_true (by omega)
  (try rw [show ((0 : Int)).toNat = 0 from rfl] at hx482_0)
  (try rw [Addr.add_zero'] at hx482_0)
  have HR482_0 := a_ hi482_0
  have HC482_0 := a_ hl482_0
  clear hi482_0 hl482_0
  replace p482 := eq_true p482
  replace q482 := eq_true q482
  have p483 : 0 ≤ (0 : Int) := (by omega)
  have q483 : 0 < (t471.length : Int) := of_decide_eq_true (by first | (with_reducible assumption) | assumption)
  obtain ⟨ad483, A483_0, c483_0, e483, hx483_0, hl483_0, hi483_0⟩ := at_L1 (Kd.S_reads' HO474.out).2.2 0 p483 q483
  obtain rfl : ad480 = ad483 := (by injection e483)
  obtain ⟨ce483, hce483, hMe483, hcc483⟩ := Kd.S_get HO474.out [] 0 p483 (by first | exact q483 | exact of_decide_eq_true (by first | (with_reducible assumption) | assumption) | (have e_ := (Kd.S_reads' HO474.out).1; omega))
  obtain ⟨ve483_0, rfl, ge483_0⟩ := hMe483
  have hv483_0 := hcc483 0 _ rfl
  rw [Nat.add_zero, show ((Kd.slice 3 (Kd.int .i64))).sz = 1 from rfl, Nat.mul_one] at hv483_0
  replace hv483_0 := Option.some.inj (hv483_0.symm.trans hx483_0)
  rw [hv483_0] at ge483_0
  have HL483_0 := a_ (show Kd.R (Kd.int .i64) 3 _ _ _ _ (rd_L1 t471 0) from ge483_0)
  clear hv483_0 ge483_0
  clear hcc483 hce483
  have qi483 : (0 < t471.length) = True := eq_true (by omega)
  (try rw [show ((0 : Int)).toNat = 0 from rfl] at hx483_0)
  (try rw [Addr.add_zero'] at hx483_0)
  have HR483_0 := a_ hi483_0
  have HC483_0 := a_ hl483_0
  clear hi483_0 hl483_0
  replace p483 := eq_true p483
  replace q483 := eq_true q483
  have ea_ := Option.some.inj (hx480_0.symm.trans hx483_0)
  injection ea_ with ea_ en_ ec_
  subst ea_
  subst ec_
  clear en_
  have p484 : 0 ≤ (0 : Int) := (by omega)
  have q484 : 0 < (t465.length : Int) := of_decide_eq_true (by first | (with_reducible assumption) | assumption)
  obtain ⟨ad484, A484_0, c484_0, e484, hx484_0, hl484_0, hi484_0⟩ := at_L1 (Kd.S_reads' HO467.out).2.2 0 p484 q484
  obtain rfl : ad481 = ad484 := (by injection e484)
  obtain ⟨ce484, hce484, hMe484, hcc484⟩ := Kd.S_get HO467.out [] 0 p484 (by first | exact q484 | exact of_decide_eq_true (by first | (with_reducible assumption) | assumption) | (have e_ := (Kd.S_reads' HO467.out).1; omega))
  obtain ⟨ve484_0, rfl, ge484_0⟩ := hMe484
  have hv484_0 := hcc484 0 _ rfl
  rw [Nat.add_zero, show ((Kd.slice 3 (Kd.int .i64))).sz = 1 from rfl, Nat.mul_one] at hv484_0
  replace hv484_0 := Option.some.inj (hv484_0.symm.trans hx484_0)
  rw [hv484_0] at ge484_0
  have HL484_0 := a_ (show Kd.R (Kd.int .i64) 3 _ _ _ _ (rd_L1 t465 0) from ge484_0)
  clear hv484_0 ge484_0
  clear hcc484 hce484
  have qi484 : (0 < t465.length) = True := eq_true (by omega)
  (try rw [show ((0 : Int)).toNat = 0 from rfl] at hx484_0)
  (try rw [Addr.add_zero'] at hx484_0)
  have HR484_0 := a_ hi484_0
  have HC484_0 := a_ hl484_0
  clear hi484_0 hl484_0
  replace p484 := eq_true p484
  replace q484 := eq_true q484
  have ea_ := Option.some.inj (hx481_0.symm.trans hx484_0)
  injection ea_ with ea_ en_ ec_
  subst ea_
  subst ec_
  clear en_
  have p485 : 0 ≤ (0 : Int) := (by omega)
  have q485 : 0 < (t471.length : Int) := of_decide_eq_true (by first | (with_reducible assumption) | assumption)
  obtain ⟨ad485, A485_0, c485_0, e485, hx485_0, hl485_0, hi485_0⟩ := at_L1 (Kd.S_reads' HO474.out).2.2 0 p485 q485
  obtain rfl : ad480 = ad485 := (by injection e485)
  obtain ⟨ce485, hce485, hMe485, hcc485⟩ := Kd.S_get HO474.out [] 0 p485 (by first | exact q485 | exact of_decide_eq_true (by first | (with_reducible assumption) | assumption) | (have e_ := (Kd.S_reads' HO474.out).1; omega))
  obtain ⟨ve485_0, rfl, ge485_0⟩ := hMe485
  have hv485_0 := hcc485 0 _ rfl
  rw [Nat.add_zero, show ((Kd.slice 3 (Kd.int .i64))).sz = 1 from rfl, Nat.mul_one] at hv485_0
  replace hv485_0 := Option.some.inj (hv485_0.symm.trans hx485_0)
  rw [hv485_0] at ge485_0
  have HL485_0 := a_ (show Kd.R (Kd.int .i64) 3 _ _ _ _ (rd_L1 t471 0) from ge485_0)
  clear hv485_0 ge485_0
  clear hcc485 hce485
  have qi485 : (0 < t471.length) = True := eq_true (by omega)
  (try rw [show ((0 : Int)).toNat = 0 from rfl] at hx485_0)
  (try rw [Addr.add_zero'] at hx485_0)
  have HR485_0 := a_ hi485_0
  have HC485_0 := a_ hl485_0
  clear hi485_0 hl485_0
  replace p485 := eq_true p485
  replace q485 := eq_true q485
  have ea_ := Option.some.inj (hx480_0.symm.trans hx485_0)
  injection ea_ with ea_ en_ ec_
  subst ea_
  subst ec_
  clear en_
  have p486 : 0 ≤ (0 : Int) := (by omega)
  have q486 : 0 < (t468.length : Int) := of_decide_eq_true (by first | (with_reducible assumption) | assumption)
  obtain ⟨ad486, A486_0, c486_0, e486, hx486_0, hl486_0, hi486_0⟩ := at_L1 (Kd.S_reads' HO470.out).2.2 0 p486 q486
  obtain rfl : ad482 = ad486 := (by injection e486)
  obtain ⟨ce486, hce486, hMe486, hcc486⟩ := Kd.S_get HO470.out [] 0 p486 (by first | exact q486 | exact of_decide_eq_true (by first | (with_reducible assumption) | assumption) | (have e_ := (Kd.S_reads' HO470.out).1; omega))
  obtain ⟨ve486_0, rfl, ge486_0⟩ := hMe486
  have hv486_0 := hcc486 0 _ rfl
  rw [Nat.add_zero, show ((Kd.slice 3 (Kd.int .i64))).sz = 1 from rfl, Nat.mul_one] at hv486_0
  replace hv486_0 := Option.some.inj (hv486_0.symm.trans hx486_0)
  rw [hv486_0] at ge486_0
  have HL486_0 := a_ (show Kd.R (Kd.int .i64) 3 _ _ _ _ (rd_L1 t468 0) from ge486_0)
  clear hv486_0 ge486_0
  clear hcc486 hce486
  have qi486 : (0 < t468.length) = True := eq_true (by omega)
  (try rw [show ((0 : Int)).toNat = 0 from rfl] at hx486_0)
  (try rw [Addr.add_zero'] at hx486_0)
  have HR486_0 := a_ hi486_0
  have HC486_0 := a_ hl486_0
  clear hi486_0 hl486_0
  replace p486 := eq_true p486
  replace q486 := eq_true q486
  have ea_ := Option.some.inj (hx482_0.symm.trans hx486_0)
  injection ea_ with ea_ en_ ec_
  subst ea_
  subst ec_
  clear en_
  refine start_ (n := 56) (S := fun w' => w'.cell? ad480 = some (.slice A480_0 (rd_L1 t471 0).length c480_0) ∧ w'.cell? ad481 = some (.slice A481_0 (rd_L1 t465 0).length c481_0) ∧ w'.cell? ad482 = some (.slice A482_0 (rd_L1 t468 0).length c482_0) ∧ w'.cell? ad480 = some (.slice A480_0 (rd_L1 t471 0).length c480_0) ∧ w'.cell? ad481 = some (.slice A481_0 (rd_L1 t465 0).length c481_0) ∧ w'.cell? ad480 = some (.slice A480_0 (rd_L1 t471 0).length c480_0) ∧ w'.cell? ad482 = some (.slice A482_0 (rd_L1 t468 0).length c482_0)) (ds := []) #[false, false, false, false, false, false, false, false, false, false, false, false, false, false, false, false, false, false, false, false, false, false, false, false, false, false, false, false, false, false, false, false, false, false, false, false, false, false, false, false, false, false, false, false, false, false, false, false, false, false, false, false, false, false, false, false] (by kernel_rfl) rfl rfl ⟨hx480_0, hx481_0, hx482_0, hx483_0, hx484_0, hx485_0, hx486_0⟩ (fun hHeld => ?_); refine with_tabW rl_CasingMeeting.tab5 rl_CasingMeeting.bits5 (fun HT_ HW_ => ?_)
  generalize w18.drew = w35 at HO467 HO470 HO474 HO478 HB HL480_0 HL481_0 HL482_0 HL483_0 HL484_0 HL485_0 HL486_0 HR480_0 HR481_0 HR482_0 HR483_0 HR484_0 HR485_0 HR486_0 hx480_0 hx481_0 hx482_0 hx483_0 hx484_0 hx485_0 hx486_0 hHeld ⊢
  refine pure_ (i := 0) (N := some 49) (v := ?_) (a' := ?_) #[true, false, false, false, false, false, false, false, false, false, false, false, false, false, false, false, false, false, false, false, false, false, false, false, false, false, false, false, false, false, false, false, false, false, false, false, false, false, false, false, false, false, false, false, false, false, false, false, false, false, false, false, false, false, false, false] rfl rfl (any_of HT_.out (by kernel_rfl)) (fun _ _ _ h => h) (Or.inl ⟨by rfl, ?_⟩) ?_ ?_
  rotate_left
  ·intro w'
   go_simp
   with_reducible rfl
  rotate_left
  ·simp only [Act.put, List.setIfInBounds_toArray, List.set_cons_zero, List.set_cons_succ, i64_w, i32_w]
   rfl
  refine pure_ (i := 1) (N := some 50) (v := ?_) (a' := ?_) #[true, true, false, false, false, false, false, false, false, false, false, false, false, false, false, false, false, false, false, false, false, false, false, false, false, false, false, false, false, false, false, false, false, false, false, false, false, false, false, false, false, false, false, false, false, false, false, false, false, false, false, false, false, false, false, false] rfl rfl (any_of HT_.out (by kernel_rfl)) (fun _ _ _ h => h) (Or.inl ⟨by rfl, ?_⟩) ?_ ?_
  rotate_left
  ·intro w'
   go_simp
   with_reducible rfl
  rotate_left
  ·simp only [Act.put, List.setIfInBounds_toArray, List.set_cons_zero, List.set_cons_succ, i64_w, i32_w]
   rfl
  refine pure_ (i := 2) (N := some 51) (v := ?_) (a' := ?_) #[true, true, true, false, false, false, false, false, false, false, false, false, false, false, false, false, false, false, false, false, false, false, false, false, false, false, false, false, false, false, false, false, false, false, false, false, false, false, false, false, false, false, false, false, false, false, false, false, false, false, false, false, false, false, false, false] rfl rfl (any_of HT_.out (by kernel_rfl)) (fun _ _ _ h => h) (Or.inl ⟨by rfl, ?_⟩) ?_ ?_
  rotate_left
  ·intro w'
   go_simp
   with_reducible rfl
  rotate_left
  ·simp only [Act.put, List.setIfInBounds_toArray, List.set_cons_zero, List.set_cons_succ, i64_w, i32_w]
   rfl
  refine pure_ (i := 3) (N := some 52) (v := ?_) (a' := ?_) #[true, true, true, true, false, false, false, false, false, false, false, false, false, false, false, false, false, false, false, false, false, false, false, false, false, false, false, false, false, false, false, false, false, false, false, false, false, false, false, false, false, false, false, false, false, false, false, false, false, false, false, false, false, false, false, false] rfl rfl (any_of HT_.out (by kernel_rfl)) (fun _ _ _ h => h) (Or.inl ⟨by rfl, ?_⟩) ?_ ?_
  rotate_left
  ·intro w'
   go_simp
   with_reducible rfl
  rotate_left
  ·simp only [Act.put, List.setIfInBounds_toArray, List.set_cons_zero, List.set_cons_succ, i64_w, i32_w]
   rfl
  refine pure_ (i := 4) (N := some 53) (v := ?_) (a' := ?_) #[true, true, true, true, true, false, false, false, false, false, false, false, false, false, false, false, false, false, false, false, false, false, false, false, false, false, false, false, false, false, false, false, false, false, false, false, false, false, false, false, false, false, false, false, false, false, false, false, false, false, false, false, false, false, false, false] rfl rfl (any_of HT_.out (by kernel_rfl)) (fun _ _ _ h => h) (Or.inl ⟨by rfl, ?_⟩) ?_ ?_
  rotate_left
  ·intro w'
   go_simp
   with_reducible rfl
  rotate_left
  ·simp only [Act.put, List.setIfInBounds_toArray, List.set_cons_zero, List.set_cons_succ, i64_w, i32_w]
   rfl
  refine pure_ (i := 5) (N := some 54) (v := ?_) (a' := ?_) #[true, true, true, true, true, true, false, false, false, false, false, false, false, false, false, false, false, false, false, false, false, false, false, false, false, false, false, false, false, false, false, false, false, false, false, false, false, false, false, false, false, false, false, false, false, false, false, false, false, false, false, false, false, false, false, false] rfl rfl (any_of HT_.out (by kernel_rfl)) (fun _ _ _ h => h) (Or.inl ⟨by rfl, ?_⟩) ?_ ?_
  rotate_left
  ·intro w'
   go_simp
   with_reducible rfl
  rotate_left
  ·simp only [Act.put, List.setIfInBounds_toArray, List.set_cons_zero, List.set_cons_succ, i64_w, i32_w]
   rfl
  refine pure_ (i := 6) (N := some 55) (v := ?_) (a' := ?_) #[true, true, true, true, true, true, true, false, false, false, false, false, false, false, false, false, false, false, false, false, false, false, false, false, false, false, false, false, false, false, false, false, false, false, false, false, false, false, false, false, false, false, false, false, false, false, false, false, false, false, false, false, false, false, false, false] rfl rfl (any_of HT_.out (by kernel_rfl)) (fun _ _ _ h => h) (Or.inl ⟨by rfl, ?_⟩) ?_ ?_
  rotate_left
  ·intro w'
   go_simp
   with_reducible rfl
  rotate_left
  ·simp only [Act.put, List.setIfInBounds_toArray, List.set_cons_zero, List.set_cons_succ, i64_w, i32_w]
   rfl
  refine pure_ (i := 7) (N := some 56) (v := ?_) (a' := ?_) #[true, true, true, true, true, true, true, true, false, false, false, false, false, false, false, false, false, false, false, false, false, false, false, false, false, false, false, false, false, false, false, false, false, false, false, false, false, false, false, false, false, false, false, false, false, false, false, false, false, false, false, false, false, false, false, false] rfl rfl (any_of HT_.out (by kernel_rfl)) (fun _ _ _ h => h) (Or.inl ⟨by rfl, ?_⟩) ?_ ?_
  rotate_left
  ·intro w'
   go_simp
   with_reducible rfl
  rotate_left
  ·simp only [Act.put, List.setIfInBounds_toArray, List.set_cons_zero, List.set_cons_succ, i64_w, i32_w]
   rfl
  refine pure_ (i := 8) (N := some 57) (v := ?_) (a' := ?_) #[true, true, true, true, true, true, true, true, true, false, false, false, false, false, false, false, false, false, false, false, false, false, false, false, false, false, false, false, false, false, false, false, false, false, false, false, false, false, false, false, false, false, false, false, false, false, false, false, false, false, false, false, false, false, false, false] rfl rfl (any_of HT_.out (by kernel_rfl)) (fun _ _ _ h => h) (Or.inl ⟨by rfl, ?_⟩) ?_ ?_
  rotate_left
  ·intro w'
   go_simp
   with_reducible rfl
  rotate_left
  ·simp only [Act.put, List.setIfInBounds_toArray, List.set_cons_zero, List.set_cons_succ, i64_w, i32_w]
   rfl
  refine one_ (i := 9) (N := some 58) #[true, true, true, true, true, true, true, true, true, true, false, false, false, false, false, false, false, false, false, false, false, false, false, false, false, false, false, false, false, false, false, false, false, false, false, false, false, false, false, false, false, false, false, false, false, false, false, false, false, false, false, false, false, false, false, false] rfl rfl (one_of HT_.out (by kernel_rfl)) (by decide) (fun K hK => ?_)
  first | (refine goes_ Try.func31 (by kernel_rfl) rfl #[.slice Ao36 t475.length co36, .slice (some ad481) t465.length co15] (by rfl) rfl rfl (by (try simp only [List.map_toArray, List.map_cons, List.map_nil]); first | done | rfl | (simp only [List.length_drop, List.length_take]; rfl)) ?_) | (refine goes_ Try.func31 (by kernel_rfl) rfl #[.slice Ao36 t475.length co36, .slice (some ad484) t465.length co15] (by rfl) rfl rfl (by (try simp only [List.map_toArray, List.map_cons, List.map_nil]); first | done | rfl | (simp only [List.length_drop, List.length_take]; rfl)) ?_)
  with_reducible refine (rr_Same.calls k _ _ t475 _ _ t465 true _ ?side1 ?side2 ?side3 ?side4 A21.out).mono ?_
  (case side1 => repeat (first | exact (Kd.S_reads' HO478.out).2.2 | (with_reducible refine Kd.C_alloc ?_ _) | (with_reducible refine Kd.C_drewN ?_ _) | (with_reducible refine Kd.C_drew ?_)))
  (case side2 => exact (Kd.S_reads' HO478.out).2.1)
  (case side3 => repeat (first | exact (Kd.S_reads' HO467.out).2.2 | (with_reducible refine Kd.C_alloc ?_ _) | (with_reducible refine Kd.C_drewN ?_ _) | (with_reducible refine Kd.C_drew ?_)))
  (case side4 => exact (Kd.S_reads' HO467.out).2.1)
  rintro e w' ⟨rfl, ⟨nd, rfl⟩⟩
  refine ⟨_, rfl, ?_⟩
  obtain ⟨Ao37, co37, eo37⟩ := Kd.S_slice HO474.out
  (first | subst eo37 | (injection eo37 with f1_ f2_ f3_; have f4_ := f1_.symm; have f5_ := f3_.symm; clear f1_ f2_ f3_; subst f4_; subst f5_))
  refine hK.out _ _ ⟨hHeld.1, hHeld.2.1, hHeld.2.2.1, hHeld.2.2.2.1, hHeld.2.2.2.2.1, hHeld.2.2.2.2.2.1, hHeld.2.2.2.2.2.2⟩ (fun hHeld => ?_)
  clear hK K
  refine norm_ (a' := ?_) ?_ ?_
  rotate_left
  ·show Act.put _ (some 58) _ = _
   simp only [Act.put, List.setIfInBounds_toArray, List.set_cons_zero, List.set_cons_succ, i64_w, i32_w]
   rfl
  refine pure_ (i := 10) (N := some 59) (v := ?_) (a' := ?_) #[true, true, true, true, true, true, true, true, true, true, true, false, false, false, false, false, false, false, false, false, false, false, false, false, false, false, false, false, false, false, false, false, false, false, false, false, false, false, false, false, false, false, false, false, false, false, false, false, false, false, false, false, false, false, false, false] rfl rfl (any_of HT_.out (by kernel_rfl)) (fun _ _ _ h => h) (Or.inl ⟨by rfl, ?_⟩) ?_ ?_
  rotate_left
  ·intro w'
   go_simp
   with_reducible rfl
  rotate_left
  ·simp only [Act.put, List.setIfInBounds_toArray, List.set_cons_zero, List.set_cons_succ, i64_w, i32_w]
   rfl
  refine pure_ (i := 11) (N := some 60) (v := ?_) (a' := ?_) #[true, true, true, true, true, true, true, true, true, true, true, true, false, false, false, false, false, false, false, false, false, false, false, false, false, false, false, false, false, false, false, false, false, false, false, false, false, false, false, false, false, false, false, false, false, false, false, false, false, false, false, false, false, false, false, false] rfl rfl (any_of HT_.out (by kernel_rfl)) (fun _ _ _ h => h) (Or.inl ⟨by rfl, ?_⟩) ?_ ?_
  rotate_left
  ·intro w'
   go_simp
   with_reducible rfl
  rotate_left
  ·simp only [Act.put, List.setIfInBounds_toArray, List.set_cons_zero, List.set_cons_succ, i64_w, i32_w]
   rfl
  refine pure_ (i := 12) (N := some 61) (v := ?_) (a' := ?_) #[true, true, true, true, true, true, true, true, true, true, true, true, true, false, false, false, false, false, false, false, false, false, false, false, false, false, false, false, false, false, false, false, false, false, false, false, false, false, false, false, false, false, false, false, false, false, false, false, false, false, false, false, false, false, false, false] rfl rfl (any_of HT_.out (by kernel_rfl)) (fun _ _ _ h => h) (Or.inl ⟨by rfl, ?_⟩) ?_ ?_
  rotate_left
  ·intro w'
   go_simp
   with_reducible rfl
  rotate_left
  ·simp only [Act.put, List.setIfInBounds_toArray, List.set_cons_zero, List.set_cons_succ, i64_w, i32_w]
   rfl
  refine pure_ (i := 13) (N := some 62) (v := ?_) (a' := ?_) #[true, true, true, true, true, true, true, true, true, true, true, true, true, true, false, false, false, false, false, false, false, false, false, false, false, false, false, false, false, false, false, false, false, false, false, false, false, false, false, false, false, false, false, false, false, false, false, false, false, false, false, false, false, false, false, false] rfl rfl (any_of HT_.out (by kernel_rfl)) (fun _ _ _ h => h) (Or.inl ⟨by rfl, ?_⟩) ?_ ?_
  rotate_left
  ·intro w'
   go_simp
   with_reducible rfl
  rotate_left
  ·simp only [Act.put, List.setIfInBounds_toArray, List.set_cons_zero, List.set_cons_succ, i64_w, i32_w]
   rfl
  refine pure_ (i := 14) (N := some 63) (v := ?_) (a' := ?_) #[true, true, true, true, true, true, true, true, true, true, true, true, true, true, true, false, false, false, false, false, false, false, false, false, false, false, false, false, false, false, false, false, false, false, false, false, false, false, false, false, false, false, false, false, false, false, false, false, false, false, false, false, false, false, false, false] rfl rfl (any_of HT_.out (by kernel_rfl)) (fun _ _ _ h => h) (Or.inl ⟨by rfl, ?_⟩) ?_ ?_
  rotate_left
  ·intro w'
   go_simp
   with_reducible rfl
  rotate_left
  ·simp only [Act.put, List.setIfInBounds_toArray, List.set_cons_zero, List.set_cons_succ, i64_w, i32_w]
   rfl
  refine pure_ (i := 15) (N := some 64) (v := ?_) (a' := ?_) #[true, true, true, true, true, true, true, true, true, true, true, true, true, true, true, true, false, false, false, false, false, false, false, false, false, false, false, false, false, false, false, false, false, false, false, false, false, false, false, false, false, false, false, false, false, false, false, false, false, false, false, false, false, false, false, false] rfl rfl (any_of HT_.out (by kernel_rfl)) (fun _ _ _ h => h) (Or.inl ⟨by rfl, ?_⟩) ?_ ?_
  rotate_left
  ·intro w'
   go_simp
   with_reducible rfl
  rotate_left
  ·simp only [Act.put, List.setIfInBounds_toArray, List.set_cons_zero, List.set_cons_succ, i64_w, i32_w]
   rfl
  refine pure_ (i := 16) (N := some 65) (v := ?_) (a' := ?_) #[true, true, true, true, true, true, true, true, true, true, true, true, true, true, true, true, true, false, false, false, false, false, false, false, false, false, false, false, false, false, false, false, false, false, false, false, false, false, false, false, false, false, false, false, false, false, false, false, false, false, false, false, false, false, false, false] rfl rfl (any_of HT_.out (by kernel_rfl)) (fun _ _ _ h => h) (Or.inl ⟨by rfl, ?_⟩) ?_ ?_
  rotate_left
  ·intro w'
   go_simp
   with_reducible rfl
  rotate_left
  ·simp only [Act.put, List.setIfInBounds_toArray, List.set_cons_zero, List.set_cons_succ, i64_w, i32_w]
   rfl
  refine pure_ (i := 17) (N := some 66) (v := ?_) (a' := ?_) #[true, true, true, true, true, true, true, true, true, true, true, true, true, true, true, true, true, true, false, false, false, false, false, false, false, false, false, false, false, false, false, false, false, false, false, false, false, false, false, false, false, false, false, false, false, false, false, false, false, false, false, false, false, false, false, false] rfl rfl (any_of HT_.out (by kernel_rfl)) (fun _ _ _ h => h) (Or.inl ⟨by rfl, ?_⟩) ?_ ?_
  rotate_left
  ·intro w'
   go_simp
   with_reducible rfl
  rotate_left
  ·simp only [Act.put, List.setIfInBounds_toArray, List.set_cons_zero, List.set_cons_succ, i64_w, i32_w]
   rfl
  refine pure_ (i := 18) (N := some 67) (v := ?_) (a' := ?_) #[true, true, true, true, true, true, true, true, true, true, true, true, true, true, true, true, true, true, true, false, false, false, false, false, false, false, false, false, false, false, false, false, false, false, false, false, false, false, false, false, false, false, false, false, false, false, false, false, false, false, false, false, false, false, false, false] rfl rfl (any_of HT_.out (by kernel_rfl)) (fun _ _ _ h => h) (Or.inl ⟨by rfl, ?_⟩) ?_ ?_
  rotate_left
  ·intro w'
   go_simp
   with_reducible rfl
  rotate_left
  ·simp only [Act.put, List.setIfInBounds_toArray, List.set_cons_zero, List.set_cons_succ, i64_w, i32_w]
   rfl
  refine pure_ (i := 19) (N := some 68) (v := ?_) (a' := ?_) #[true, true, true, true, true, true, true, true, true, true, true, true, true, true, true, true, true, true, true, true, false, false, false, false, false, false, false, false, false, false, false, false, false, false, false, false, false, false, false, false, false, false, false, false, false, false, false, false, false, false, false, false, false, false, false, false] rfl rfl (any_of HT_.out (by kernel_rfl)) (fun _ _ _ h => h) (Or.inl ⟨by rfl, ?_⟩) ?_ ?_
  rotate_left
  ·intro w'
   go_simp
   with_reducible rfl
  rotate_left
  ·simp only [Act.put, List.setIfInBounds_toArray, List.set_cons_zero, List.set_cons_succ, i64_w, i32_w]
   rfl
  refine pure_ (i := 20) (N := some 69) (v := ?_) (a' := ?_) #[true, true, true, true, true, true, true, true, true, true, true, true, true, true, true, true, true, true, true, true, true, false, false, false, false, false, false, false, false, false, false, false, false, false, false, false, false, false, false, false, false, false, false, false, false, false, false, false, false, false, false, false, false, false, false, false] rfl rfl (any_of HT_.out (by kernel_rfl)) (fun _ _ _ h => h) (Or.inl ⟨by rfl, ?_⟩) ?_ ?_
  rotate_left
  ·intro w'
   go_simp
   with_reducible rfl
  rotate_left
  ·simp only [Act.put, List.setIfInBounds_toArray, List.set_cons_zero, List.set_cons_succ, i64_w, i32_w]
   rfl
  refine pure_ (i := 23) (N := some 72) (v := ?_) (a' := ?_) #[true, true, true, true, true, true, true, true, true, true, true, true, true, true, true, true, true, true, true, true, true, false, false, true, false, false, false, false, false, false, false, false, false, false, false, false, false, false, false, false, false, false, false, false, false, false, false, false, false, false, false, false, false, false, false, false] rfl rfl (any_of HT_.out (by kernel_rfl)) (fun _ _ _ h => h) (Or.inl ⟨by rfl, ?_⟩) ?_ ?_
  rotate_left
  ·intro w'
   go_simp
   with_reducible rfl
  rotate_left
  ·simp only [Act.put, List.setIfInBounds_toArray, List.set_cons_zero, List.set_cons_succ, i64_w, i32_w]
   rfl
  refine pure_ (i := 24) (N := some 73) (v := ?_) (a' := ?_) #[true, true, true, true, true, true, true, true, true, true, true, true, true, true, true, true, true, true, true, true, true, false, false, true, true, false, false, false, false, false, false, false, false, false, false, false, false, false, false, false, false, false, false, false, false, false, false, false, false, false, false, false, false, false, false, false] rfl rfl (any_of HT_.out (by kernel_rfl)) (fun _ _ _ h => h) (Or.inl ⟨by rfl, ?_⟩) ?_ ?_
  rotate_left
  ·intro w'
   go_simp
   with_reducible rfl
  rotate_left
  ·simp only [Act.put, List.setIfInBounds_toArray, List.set_cons_zero, List.set_cons_succ, i64_w, i32_w]
   rfl
  refine pure_ (i := 27) (N := some 76) (v := ?_) (a' := ?_) #[true, true, true, true, true, true, true, true, true, true, true, true, true, true, true, true, true, true, true, true, true, false, false, true, true, false, false, true, false, false, false, false, false, false, false, false, false, false, false, false, false, false, false, false, false, false, false, false, false, false, false, false, false, false, false, false] rfl rfl (any_of HT_.out (by kernel_rfl)) (fun _ _ _ h => h) (Or.inl ⟨by rfl, ?_⟩) ?_ ?_
  rotate_left
  ·intro w'
   go_simp
   with_reducible rfl
  rotate_left
  ·simp only [Act.put, List.setIfInBounds_toArray, List.set_cons_zero, List.set_cons_succ, i64_w, i32_w]
   rfl
  refine pure_ (i := 28) (N := some 77) (v := ?_) (a' := ?_) #[true, true, true, true, true, true, true, true, true, true, true, true, true, true, true, true, true, true, true, true, true, false, false, true, true, false, false, true, true, false, false, false, false, false, false, false, false, false, false, false, false, false, false, false, false, false, false, false, false, false, false, false, false, false, false, false] rfl rfl (any_of HT_.out (by kernel_rfl)) (fun _ _ _ h => h) (Or.inl ⟨by rfl, ?_⟩) ?_ ?_
  rotate_left
  ·intro w'
   go_simp
   with_reducible rfl
  rotate_left
  ·simp only [Act.put, List.setIfInBounds_toArray, List.set_cons_zero, List.set_cons_succ, i64_w, i32_w]
   rfl
  refine take_ (i := 21) (N := some 70) (v := ?_) (a' := ?_) #[true, true, true, true, true, true, true, true, true, true, true, true, true, true, true, true, true, true, true, true, true, true, false, true, true, false, false, true, true, false, false, false, false, false, false, false, false, false, false, false, false, false, false, false, false, false, false, false, false, false, false, false, false, false, false, false] rfl rfl (take_ofW HT_.out HW_.out (by kernel_rfl)) (fun _ _ _ h => h) (Or.inl ⟨by rfl, ?_⟩) hHeld ?_ ?_
  rotate_left
  ·rintro w' ⟨s0, s1, s2, s3, s4, s5, s6⟩
   go_simp
   with_reducible rfl
  rotate_left
  ·simp only [Act.put, List.setIfInBounds_toArray, List.set_cons_zero, List.set_cons_succ, i64_w, i32_w]
   rfl
  refine pure_ (i := 22) (N := some 71) (v := ?_) (a' := ?_) #[true, true, true, true, true, true, true, true, true, true, true, true, true, true, true, true, true, true, true, true, true, true, true, true, true, false, false, true, true, false, false, false, false, false, false, false, false, false, false, false, false, false, false, false, false, false, false, false, false, false, false, false, false, false, false, false] rfl rfl (any_of HT_.out (by kernel_rfl)) (fun _ _ _ h => h) (Or.inl ⟨by rfl, ?_⟩) ?_ ?_
  rotate_left
  ·intro w'
   go_simp
   with_reducible rfl
  rotate_left
  ·simp only [Act.put, List.setIfInBounds_toArray, List.set_cons_zero, List.set_cons_succ, i64_w, i32_w]
   rfl
  refine take_ (i := 25) (N := some 74) (v := ?_) (a' := ?_) #[true, true, true, true, true, true, true, true, true, true, true, true, true, true, true, true, true, true, true, true, true, true, true, true, true, true, false, true, true, false, false, false, false, false, false, false, false, false, false, false, false, false, false, false, false, false, false, false, false, false, false, false, false, false, false, false] rfl rfl (take_ofW HT_.out HW_.out (by kernel_rfl)) (fun _ _ _ h => h) (Or.inl ⟨by rfl, ?_⟩) hHeld ?_ ?_
  rotate_left
  ·rintro w' ⟨s0, s1, s2, s3, s4, s5, s6⟩
   go_simp
   with_reducible rfl
  rotate_left
  ·simp only [Act.put, List.setIfInBounds_toArray, List.set_cons_zero, List.set_cons_succ, i64_w, i32_w]
   rfl
  refine pure_ (i := 26) (N := some 75) (v := ?_) (a' := ?_) #[true, true, true, true, true, true, true, true, true, true, true, true, true, true, true, true, true, true, true, true, true, true, true, true, true, true, true, true, true, false, false, false, false, false, false, false, false, false, false, false, false, false, false, false, false, false, false, false, false, false, false, false, false, false, false, false] rfl rfl (any_of HT_.out (by kernel_rfl)) (fun _ _ _ h => h) (Or.inl ⟨by rfl, ?_⟩) ?_ ?_
  rotate_left
  ·intro w'
   go_simp
   with_reducible rfl
  rotate_left
  ·simp only [Act.put, List.setIfInBounds_toArray, List.set_cons_zero, List.set_cons_succ, i64_w, i32_w]
   rfl
  refine take_ (i := 29) (N := some 78) (v := ?_) (a' := ?_) #[true, true, true, true, true, true, true, true, true, true, true, true, true, true, true, true, true, true, true, true, true, true, true, true, true, true, true, true, true, true, false, false, false, false, false, false, false, false, false, false, false, false, false, false, false, false, false, false, false, false, false, false, false, false, false, false] rfl rfl (take_ofW HT_.out HW_.out (by kernel_rfl)) (fun _ _ _ h => h) (Or.inl ⟨by rfl, ?_⟩) hHeld ?_ ?_
  rotate_left
  ·rintro w' ⟨s0, s1, s2, s3, s4, s5, s6⟩
   go_simp
   with_reducible rfl
  rotate_left
  ·simp only [Act.put, List.setIfInBounds_toArray, List.set_cons_zero, List.set_cons_succ, i64_w, i32_w]
   rfl
  refine pure_ (i := 30) (N := some 79) (v := ?_) (a' := ?_) #[true, true, true, true, true, true, true, true, true, true, true, true, true, true, true, true, true, true, true, true, true, true, true, true, true, true, true, true, true, true, true, false, false, false, false, false, false, false, false, false, false, false, false, false, false, false, false, false, false, false, false, false, false, false, false, false] rfl rfl (any_of HT_.out (by kernel_rfl)) (fun _ _ _ h => h) (Or.inl ⟨by rfl, ?_⟩) ?_ ?_
  rotate_left
  ·intro w'
   go_simp
   with_reducible rfl
  rotate_left
  ·simp only [Act.put, List.setIfInBounds_toArray, List.set_cons_zero, List.set_cons_succ, i64_w, i32_w]
   rfl
  refine pure_ (i := 31) (N := some 80) (v := ?_) (a' := ?_) #[true, true, true, true, true, true, true, true, true, true, true, true, true, true, true, true, true, true, true, true, true, true, true, true, true, true, true, true, true, true, true, true, false, false, false, false, false, false, false, false, false, false, false, false, false, false, false, false, false, false, false, false, false, false, false, false] rfl rfl (any_of HT_.out (by kernel_rfl)) (fun _ _ _ h => h) (Or.inl ⟨by rfl, ?_⟩) ?_ ?_
  rotate_left
  ·intro w'
   go_simp
   with_reducible rfl
  rotate_left
  ·simp only [Act.put, List.setIfInBounds_toArray, List.set_cons_zero, List.set_cons_succ, i64_w, i32_w]
   rfl
  refine pure_ (i := 32) (N := some 81) (v := ?_) (a' := ?_) #[true, true, true, true, true, true, true, true, true, true, true, true, true, true, true, true, true, true, true, true, true, true, true, true, true, true, true, true, true, true, true, true, true, false, false, false, false, false, false, false, false, false, false, false, false, false, false, false, false, false, false, false, false, false, false, false] rfl rfl (any_of HT_.out (by kernel_rfl)) (fun _ _ _ h => h) (Or.inl ⟨by rfl, ?_⟩) ?_ ?_
  rotate_left
  ·intro w'
   go_simp
   with_reducible rfl
  rotate_left
  ·simp only [Act.put, List.setIfInBounds_toArray, List.set_cons_zero, List.set_cons_succ, i64_w, i32_w]
   rfl
  refine pure_ (i := 33) (N := some 82) (v := ?_) (a' := ?_) #[true, true, true, true, true, true, true, true, true, true, true, true, true, true, true, true, true, true, true, true, true, true, true, true, true, true, true, true, true, true, true, true, true, true, false, false, false, false, false, false, false, false, false, false, false, false, false, false, false, false, false, false, false, false, false, false] rfl rfl (any_of HT_.out (by kernel_rfl)) (fun _ _ _ h => h) (Or.inl ⟨by rfl, ?_⟩) ?_ ?_
  rotate_left
  ·intro w'
   go_simp
   with_reducible rfl
  rotate_left
  ·simp only [Act.put, List.setIfInBounds_toArray, List.set_cons_zero, List.set_cons_succ, i64_w, i32_w]
   rfl
  refine pure_ (i := 34) (N := some 83) (v := ?_) (a' := ?_) #[true, true, true, true, true, true, true, true, true, true, true, true, true, true, true, true, true, true, true, true, true, true, true, true, true, true, true, true, true, true, true, true, true, true, true, false, false, false, false, false, false, false, false, false, false, false, false, false, false, false, false, false, false, false, false, false] rfl rfl (any_of HT_.out (by kernel_rfl)) (fun _ _ _ h => h) (Or.inl ⟨by rfl, ?_⟩) ?_ ?_
  rotate_left
  ·intro w'
   go_simp
   with_reducible rfl
  rotate_left
  ·simp only [Act.put, List.setIfInBounds_toArray, List.set_cons_zero, List.set_cons_succ, i64_w, i32_w]
   rfl
  refine pure_ (i := 35) (N := some 84) (v := ?_) (a' := ?_) #[true, true, true, true, true, true, true, true, true, true, true, true, true, true, true, true, true, true, true, true, true, true, true, true, true, true, true, true, true, true, true, true, true, true, true, true, false, false, false, false, false, false, false, false, false, false, false, false, false, false, false, false, false, false, false, false] rfl rfl (any_of HT_.out (by kernel_rfl)) (fun _ _ _ h => h) (Or.inl ⟨by rfl, ?_⟩) ?_ ?_
  rotate_left
  ·intro w'
   go_simp
   with_reducible rfl
  rotate_left
  ·simp only [Act.put, List.setIfInBounds_toArray, List.set_cons_zero, List.set_cons_succ, i64_w, i32_w]
   rfl
  refine pure_ (i := 36) (N := some 85) (v := ?_) (a' := ?_) #[true, true, true, true, true, true, true, true, true, true, true, true, true, true, true, true, true, true, true, true, true, true, true, true, true, true, true, true, true, true, true, true, true, true, true, true, true, false, false, false, false, false, false, false, false, false, false, false, false, false, false, false, false, false, false, false] rfl rfl (any_of HT_.out (by kernel_rfl)) (fun _ _ _ h => h) (Or.inl ⟨by rfl, ?_⟩) ?_ ?_
  rotate_left
  ·intro w'
   go_simp
   with_reducible rfl
  rotate_left
  ·simp only [Act.put, List.setIfInBounds_toArray, List.set_cons_zero, List.set_cons_succ, i64_w, i32_w]
   rfl
  refine pure_ (i := 39) (N := some 88) (v := ?_) (a' := ?_) #[true, true, true, true, true, true, true, true, true, true, true, true, true, true, true, true, true, true, true, true, true, true, true, true, true, true, true, true, true, true, true, true, true, true, true, true, true, false, false, true, false, false, false, false, false, false, false, false, false, false, false, false, false, false, false, false] rfl rfl (any_of HT_.out (by kernel_rfl)) (fun _ _ _ h => h) (Or.inl ⟨by rfl, ?_⟩) ?_ ?_
  rotate_left
  ·intro w'
   go_simp
   with_reducible rfl
  rotate_left
  ·simp only [Act.put, List.setIfInBounds_toArray, List.set_cons_zero, List.set_cons_succ, i64_w, i32_w]
   rfl
  refine pure_ (i := 40) (N := some 89) (v := ?_) (a' := ?_) #[true, true, true, true, true, true, true, true, true, true, true, true, true, true, true, true, true, true, true, true, true, true, true, true, true, true, true, true, true, true, true, true, true, true, true, true, true, false, false, true, true, false, false, false, false, false, false, false, false, false, false, false, false, false, false, false] rfl rfl (any_of HT_.out (by kernel_rfl)) (fun _ _ _ h => h) (Or.inl ⟨by rfl, ?_⟩) ?_ ?_
  rotate_left
  ·intro w'
   go_simp
   with_reducible rfl
  rotate_left
  ·simp only [Act.put, List.setIfInBounds_toArray, List.set_cons_zero, List.set_cons_succ, i64_w, i32_w]
   rfl
  refine take_ (i := 37) (N := some 86) (v := ?_) (a' := ?_) #[true, true, true, true, true, true, true, true, true, true, true, true, true, true, true, true, true, true, true, true, true, true, true, true, true, true, true, true, true, true, true, true, true, true, true, true, true, true, false, true, true, false, false, false, false, false, false, false, false, false, false, false, false, false, false, false] rfl rfl (take_ofW HT_.out HW_.out (by kernel_rfl)) (fun _ _ _ h => h) (Or.inl ⟨by rfl, ?_⟩) hHeld ?_ ?_
  rotate_left
  ·rintro w' ⟨s0, s1, s2, s3, s4, s5, s6⟩
   go_simp
   with_reducible rfl
  rotate_left
  ·simp only [Act.put, List.setIfInBounds_toArray, List.set_cons_zero, List.set_cons_succ, i64_w, i32_w]
   rfl
  refine pure_ (i := 38) (N := some 87) (v := ?_) (a' := ?_) #[true, true, true, true, true, true, true, true, true, true, true, true, true, true, true, true, true, true, true, true, true, true, true, true, true, true, true, true, true, true, true, true, true, true, true, true, true, true, true, true, true, false, false, false, false, false, false, false, false, false, false, false, false, false, false, false] rfl rfl (any_of HT_.out (by kernel_rfl)) (fun _ _ _ h => h) (Or.inl ⟨by rfl, ?_⟩) ?_ ?_
  rotate_left
  ·intro w'
   go_simp
   with_reducible rfl
  rotate_left
  ·simp only [Act.put, List.setIfInBounds_toArray, List.set_cons_zero, List.set_cons_succ, i64_w, i32_w]
   rfl
  refine take_ (i := 41) (N := some 90) (v := ?_) (a' := ?_) #[true, true, true, true, true, true, true, true, true, true, true, true, true, true, true, true, true, true, true, true, true, true, true, true, true, true, true, true, true, true, true, true, true, true, true, true, true, true, true, true, true, true, false, false, false, false, false, false, false, false, false, false, false, false, false, false] rfl rfl (take_ofW HT_.out HW_.out (by kernel_rfl)) (fun _ _ _ h => h) (Or.inl ⟨by rfl, ?_⟩) hHeld ?_ ?_
  rotate_left
  ·rintro w' ⟨s0, s1, s2, s3, s4, s5, s6⟩
   go_simp
   with_reducible rfl
  rotate_left
  ·simp only [Act.put, List.setIfInBounds_toArray, List.set_cons_zero, List.set_cons_succ, i64_w, i32_w]
   rfl
  refine pure_ (i := 42) (N := some 91) (v := ?_) (a' := ?_) #[true, true, true, true, true, true, true, true, true, true, true, true, true, true, true, true, true, true, true, true, true, true, true, true, true, true, true, true, true, true, true, true, true, true, true, true, true, true, true, true, true, true, true, false, false, false, false, false, false, false, false, false, false, false, false, false] rfl rfl (any_of HT_.out (by kernel_rfl)) (fun _ _ _ h => h) (Or.inl ⟨by rfl, ?_⟩) ?_ ?_
  rotate_left
  ·intro w'
   go_simp
   with_reducible rfl
  rotate_left
  ·simp only [Act.put, List.setIfInBounds_toArray, List.set_cons_zero, List.set_cons_succ, i64_w, i32_w]
   rfl
  refine pure_ (i := 43) (N := some 92) (v := ?_) (a' := ?_) #[true, true, true, true, true, true, true, true, true, true, true, true, true, true, true, true, true, true, true, true, true, true, true, true, true, true, true, true, true, true, true, true, true, true, true, true, true, true, true, true, true, true, true, true, false, false, false, false, false, false, false, false, false, false, false, false] rfl rfl (any_of HT_.out (by kernel_rfl)) (fun _ _ _ h => h) (Or.inl ⟨by rfl, ?_⟩) ?_ ?_
  rotate_left
  ·intro w'
   go_simp
   with_reducible rfl
  rotate_left
  ·simp only [Act.put, List.setIfInBounds_toArray, List.set_cons_zero, List.set_cons_succ, i64_w, i32_w]
   rfl
  refine pure_ (i := 44) (N := some 93) (v := ?_) (a' := ?_) #[true, true, true, true, true, true, true, true, true, true, true, true, true, true, true, true, true, true, true, true, true, true, true, true, true, true, true, true, true, true, true, true, true, true, true, true, true, true, true, true, true, true, true, true, true, false, false, false, false, false, false, false, false, false, false, false] rfl rfl (any_of HT_.out (by kernel_rfl)) (fun _ _ _ h => h) (Or.inl ⟨by rfl, ?_⟩) ?_ ?_
  rotate_left
  ·intro w'
   go_simp
   with_reducible rfl
  rotate_left
  ·simp only [Act.put, List.setIfInBounds_toArray, List.set_cons_zero, List.set_cons_succ, i64_w, i32_w]
   rfl
  refine pure_ (i := 45) (N := some 94) (v := ?_) (a' := ?_) #[true, true, true, true, true, true, true, true, true, true, true, true, true, true, true, true, true, true, true, true, true, true, true, true, true, true, true, true, true, true, true, true, true, true, true, true, true, true, true, true, true, true, true, true, true, true, false, false, false, false, false, false, false, false, false, false] rfl rfl (any_of HT_.out (by kernel_rfl)) (fun _ _ _ h => h) (Or.inl ⟨by rfl, ?_⟩) ?_ ?_
  rotate_left
  ·intro w'
   go_simp
   with_reducible rfl
  rotate_left
  ·simp only [Act.put, List.setIfInBounds_toArray, List.set_cons_zero, List.set_cons_succ, i64_w, i32_w]
   rfl
  refine pure_ (i := 46) (N := some 95) (v := ?_) (a' := ?_) #[true, true, true, true, true, true, true, true, true, true, true, true, true, true, true, true, true, true, true, true, true, true, true, true, true, true, true, true, true, true, true, true, true, true, true, true, true, true, true, true, true, true, true, true, true, true, true, false, false, false, false, false, false, false, false, false] rfl rfl (any_of HT_.out (by kernel_rfl)) (fun _ _ _ h => h) (Or.inl ⟨by rfl, ?_⟩) ?_ ?_
  rotate_left
  ·intro w'
   go_simp
   with_reducible rfl
  rotate_left
  ·simp only [Act.put, List.setIfInBounds_toArray, List.set_cons_zero, List.set_cons_succ, i64_w, i32_w]
   rfl
  refine pure_ (i := 47) (N := some 96) (v := ?_) (a' := ?_) #[true, true, true, true, true, true, true, true, true, true, true, true, true, true, true, true, true, true, true, true, true, true, true, true, true, true, true, true, true, true, true, true, true, true, true, true, true, true, true, true, true, true, true, true, true, true, true, true, false, false, false, false, false, false, false, false] rfl rfl (any_of HT_.out (by kernel_rfl)) (fun _ _ _ h => h) (Or.inl ⟨by rfl, ?_⟩) ?_ ?_
  rotate_left
  ·intro w'
   go_simp
   with_reducible rfl
  rotate_left
  ·simp only [Act.put, List.setIfInBounds_toArray, List.set_cons_zero, List.set_cons_succ, i64_w, i32_w]
   rfl
  refine pure_ (i := 50) (N := some 99) (v := ?_) (a' := ?_) #[true, true, true, true, true, true, true, true, true, true, true, true, true, true, true, true, true, true, true, true, true, true, true, true, true, true, true, true, true, true, true, true, true, true, true, true, true, true, true, true, true, true, true, true, true, true, true, true, false, false, true, false, false, false, false, false] rfl rfl (any_of HT_.out (by kernel_rfl)) (fun _ _ _ h => h) (Or.inl ⟨by rfl, ?_⟩) ?_ ?_
  rotate_left
  ·intro w'
   go_simp
   with_reducible rfl
  rotate_left
  ·simp only [Act.put, List.setIfInBounds_toArray, List.set_cons_zero, List.set_cons_succ, i64_w, i32_w]
   rfl
  refine pure_ (i := 51) (N := some 100) (v := ?_) (a' := ?_) #[true, true, true, true, true, true, true, true, true, true, true, true, true, true, true, true, true, true, true, true, true, true, true, true, true, true, true, true, true, true, true, true, true, true, true, true, true, true, true, true, true, true, true, true, true, true, true, true, false, false, true, true, false, false, false, false] rfl rfl (any_of HT_.out (by kernel_rfl)) (fun _ _ _ h => h) (Or.inl ⟨by rfl, ?_⟩) ?_ ?_
  rotate_left
  ·intro w'
   go_simp
   with_reducible rfl
  rotate_left
  ·simp only [Act.put, List.setIfInBounds_toArray, List.set_cons_zero, List.set_cons_succ, i64_w, i32_w]
   rfl
  refine take_ (i := 48) (N := some 97) (v := ?_) (a' := ?_) #[true, true, true, true, true, true, true, true, true, true, true, true, true, true, true, true, true, true, true, true, true, true, true, true, true, true, true, true, true, true, true, true, true, true, true, true, true, true, true, true, true, true, true, true, true, true, true, true, true, false, true, true, false, false, false, false] rfl rfl (take_ofW HT_.out HW_.out (by kernel_rfl)) (fun _ _ _ h => h) (Or.inl ⟨by rfl, ?_⟩) hHeld ?_ ?_
  rotate_left
  ·rintro w' ⟨s0, s1, s2, s3, s4, s5, s6⟩
   go_simp
   with_reducible rfl
  rotate_left
  ·simp only [Act.put, List.setIfInBounds_toArray, List.set_cons_zero, List.set_cons_succ, i64_w, i32_w]
   rfl
  refine pure_ (i := 49) (N := some 98) (v := ?_) (a' := ?_) #[true, true, true, true, true, true, true, true, true, true, true, true, true, true, true, true, true, true, true, true, true, true, true, true, true, true, true, true, true, true, true, true, true, true, true, true, true, true, true, true, true, true, true, true, true, true, true, true, true, true, true, true, false, false, false, false] rfl rfl (any_of HT_.out (by kernel_rfl)) (fun _ _ _ h => h) (Or.inl ⟨by rfl, ?_⟩) ?_ ?_
  rotate_left
  ·intro w'
   go_simp
   with_reducible rfl
  rotate_left
  ·simp only [Act.put, List.setIfInBounds_toArray, List.set_cons_zero, List.set_cons_succ, i64_w, i32_w]
   rfl
  refine take_ (i := 52) (N := some 101) (v := ?_) (a' := ?_) #[true, true, true, true, true, true, true, true, true, true, true, true, true, true, true, true, true, true, true, true, true, true, true, true, true, true, true, true, true, true, true, true, true, true, true, true, true, true, true, true, true, true, true, true, true, true, true, true, true, true, true, true, true, false, false, false] rfl rfl (take_ofW HT_.out HW_.out (by kernel_rfl)) (fun _ _ _ h => h) (Or.inl ⟨by rfl, ?_⟩) hHeld ?_ ?_
  rotate_left
  ·rintro w' ⟨s0, s1, s2, s3, s4, s5, s6⟩
   go_simp
   with_reducible rfl
  rotate_left
  ·simp only [Act.put, List.setIfInBounds_toArray, List.set_cons_zero, List.set_cons_succ, i64_w, i32_w]
   rfl
  refine pure_ (i := 53) (N := some 102) (v := ?_) (a' := ?_) #[true, true, true, true, true, true, true, true, true, true, true, true, true, true, true, true, true, true, true, true, true, true, true, true, true, true, true, true, true, true, true, true, true, true, true, true, true, true, true, true, true, true, true, true, true, true, true, true, true, true, true, true, true, true, false, false] rfl rfl (any_of HT_.out (by kernel_rfl)) (fun _ _ _ h => h) (Or.inl ⟨by rfl, ?_⟩) ?_ ?_
  rotate_left
  ·intro w'
   go_simp
   with_reducible rfl
  rotate_left
  ·simp only [Act.put, List.setIfInBounds_toArray, List.set_cons_zero, List.set_cons_succ, i64_w, i32_w]
   rfl
  refine pure_ (i := 54) (N := some 103) (v := ?_) (a' := ?_) #[true, true, true, true, true, true, true, true, true, true, true, true, true, true, true, true, true, true, true, true, true, true, true, true, true, true, true, true, true, true, true, true, true, true, true, true, true, true, true, true, true, true, true, true, true, true, true, true, true, true, true, true, true, true, true, false] rfl rfl (any_of HT_.out (by kernel_rfl)) (fun _ _ _ h => h) (Or.inl ⟨by rfl, ?_⟩) ?_ ?_
  rotate_left
  ·intro w'
   go_simp
   with_reducible rfl
  rotate_left
  ·simp only [Act.put, List.setIfInBounds_toArray, List.set_cons_zero, List.set_cons_succ, i64_w, i32_w]
   rfl
  refine pure_ (i := 55) (N := some 104) (v := ?_) (a' := ?_) #[true, true, true, true, true, true, true, true, true, true, true, true, true, true, true, true, true, true, true, true, true, true, true, true, true, true, true, true, true, true, true, true, true, true, true, true, true, true, true, true, true, true, true, true, true, true, true, true, true, true, true, true, true, true, true, true] rfl rfl (any_of HT_.out (by kernel_rfl)) (fun _ _ _ h => h) (Or.inl ⟨by rfl, ?_⟩) ?_ ?_
  rotate_left
  ·intro w'
   go_simp
   with_reducible rfl
  rotate_left
  ·simp only [Act.put, List.setIfInBounds_toArray, List.set_cons_zero, List.set_cons_succ, i64_w, i32_w]
   rfl
  refine done_ (done_of HT_.out (by kernel_rfl)) ?_
  try go_wp2
  go_meet
  case rel => exact ⟨_, (decide (((rd_L1 t471 0).length : Int) < ((rd_L1 t468 0).length : Int))), (by first | rfl | (simp; done) | (simp [*]; done)), H', ⟨by first | omega | exact Nat.le_refl _⟩, ⟨by (with_reducible repeat (first | apply Kd.S_alloc | apply Kd.S_drewN | apply Kd.S_drew)); exact Kd.S_mono HO467.out (fun _ hk => ⟨hk.1.1.2, hk.1.2⟩)⟩, ⟨by (with_reducible repeat (first | apply Kd.S_alloc | apply Kd.S_drewN | apply Kd.S_drew)); exact Kd.S_mono HO470.out (fun _ hk => ⟨hk.1.1.2, hk.1.2⟩)⟩, ⟨by (with_reducible repeat (first | apply Kd.S_alloc | apply Kd.S_drewN | apply Kd.S_drew)); exact Kd.S_mono HO474.out (fun _ hk => ⟨hk.1.1.2, hk.1.2⟩)⟩, ⟨by exact gs HB.out⟩⟩
 case rest =>
  clear HC12
  try clear c1
  try clear p2
  try clear c19
  try clear c19b0
  try clear c19b1
  obtain ⟨kq, x104_11, rfl, HA, HJ11, HO_13, HO_14, HO_15, HB⟩ := hcut
  cases kq with
  | zero => exact absurd HA.out (by simp [rl_CasingMeeting.j0])
  | succ kj11 =>
   have H := HA.out
   clear HA
   simp only [rl_CasingMeeting.j0] at H
   by_cases c45 : x104_11 = true
   ·subst c45
    have H1 := H; rw [if_pos rfl] at H1
    clear H
    have H := H1
    clear H1
    exact absurd ((Option.some.inj H).trans hrt.out) (by simp)
   replace c45 := Bool.eq_false_iff.mpr c45
   subst c45
   have H1 := H; rw [if_neg (show ¬ (false = true) by decide)] at H1
   clear H
   have H := H1
   clear H1
   replace H := Option.bind_eq_some_iff.mp H
   obtain ⟨t487, A460, H⟩ := H
   try dsimp only at H
   have A46 := a_ A460
   clear A460
   replace H := Option.bind_eq_some_iff.mp H
   obtain ⟨t488, A470, H⟩ := H
   try dsimp only at H
   have A47 := a_ A470
   clear A470
   replace H := Option.bind_eq_some_iff.mp H
   obtain ⟨t489, A480, H⟩ := H
   try dsimp only at H
   have A48 := a_ A480
   clear A480
   replace H := Option.bind_eq_some_iff.mp H
   obtain ⟨t490, A490, H⟩ := H
   try dsimp only at H
   have A49 := a_ A490
   clear A490
   by_cases c50 : t490 ≥ 0
   rotate_left
   ·rw [if_neg c50] at H
    have c50b0 : decide (0 ≤ t490) = false := decide_eq_false c50
    clear c50
    exact absurd ((Option.some.inj H).trans hrt.out) (by simp)
   rw [if_pos c50] at H
   have c50b0 : decide (0 ≤ t490) = true := decide_eq_true c50
   clear c50
   by_cases c51 : t488 = 0
   rotate_left
   ·rw [if_neg c51] at H
    have c51b0 : (t488 == 0) = false := beq_eq_false_iff_ne.mpr c51
    have c51b1 : (t488 != 0) = true := bne_iff_ne.mpr c51
    by_cases c59 : ((t490 == 0) == false) = true
    rotate_left
    ·rw [if_neg c59] at H
     have c59b0 : ((t490 == 0) == false) = false := by simpa using c59
     (try (have c59b1 : decide ((t490 == 0) = false) = false := by simpa using c59))
     (try (have c59b2 : ((t490 == 0) == false) = false := by simpa using c59))
     (try (have c59b3 : ¬ ((t490 == 0) = false) := by simpa using c59))
     clear c59
     exact absurd ((Option.some.inj H).trans hrt.out) (by simp)
    rw [if_pos c59] at H
    have c59b0 : ((t490 == 0) == false) = true := c59
    (try (have c59b1 : decide ((t490 == 0) = false) = true := by simpa using c59))
    (try (have c59b2 : ((t490 == 0) == false) = true := by simpa using c59))
    clear c59
    replace H := Option.bind_eq_some_iff.mp H
    obtain ⟨t492, A600, H⟩ := H
    try dsimp only at H
    have A60 := a_ A600
    clear A600
    obtain rfl := Option.some.inj H
    go_wp2_with (first | ((with_reducible refine gate_callee (f := 23) rfl ?_); refine goesL_ (some 107) rfl rfl Try.func23 (by kernel_rfl) rfl #[.string a5, .int .i64 (wrap64 (1 + t464)), .int .i64 20] rfl (by (try simp only [List.map_toArray, List.map_cons, List.map_nil]); first | done | rfl | (simp only [List.length_drop, List.length_take]; rfl)) ?_; (with_reducible refine (rl_word.calls kj11 a5 (wrap64 (1 + t464)) 20 t487 _ A46.out).mono ?_); rintro e w61 ⟨rfl, hb⟩; refine ⟨_, rfl, ?_⟩; replace HO_13 := a_ (Kd.S_below (by (with_reducible repeat (first | apply Kd.S_alloc | apply Kd.S_drewN | apply Kd.S_drew)); exact HO_13.out) hb); replace HO_14 := a_ (Kd.S_below (by (with_reducible repeat (first | apply Kd.S_alloc | apply Kd.S_drewN | apply Kd.S_drew)); exact HO_14.out) hb); replace HO_15 := a_ (Kd.S_below (by (with_reducible repeat (first | apply Kd.S_alloc | apply Kd.S_drewN | apply Kd.S_drew)); exact HO_15.out) hb); replace HB := a_ (bT_ HB.out (tr hb)); (try clear hb); (try clear hb2); (try clear hk); (try clear hi)) | ((with_reducible refine gate_callee (f := 20) rfl ?_); refine goesL_ (some 110) rfl rfl Try.func20 (by kernel_rfl) rfl #[.slice Ao15 t465.length co15, .int .i64 0, .string t487] rfl (by (try simp only [List.map_toArray, List.map_cons, List.map_nil]); first | done | rfl | (simp only [List.length_drop, List.length_take]; rfl)) ?_; (with_reducible refine (rr_Send.calls kj11 _ _ t465 0 t487 t488 _ ?side1 ?side2 A47.out).mono ?_); (case side1 => repeat (first | exact (Kd.S_reads' HO_13.out).2.2 | (with_reducible refine Kd.C_alloc ?_ _) | (with_reducible refine Kd.C_drewN ?_ _) | (with_reducible refine Kd.C_drew ?_))); (case side2 => exact (Kd.S_reads' HO_13.out).2.1); rintro e w' ⟨rfl, ⟨nd, rfl⟩⟩; refine ⟨_, rfl, ?_⟩) | ((with_reducible refine gate_callee (f := 20) rfl ?_); refine goesL_ (some 113) rfl rfl Try.func20 (by kernel_rfl) rfl #[.slice Ao16 t468.length co16, .int .i64 0, .string t487] rfl (by (try simp only [List.map_toArray, List.map_cons, List.map_nil]); first | done | rfl | (simp only [List.length_drop, List.length_take]; rfl)) ?_; (with_reducible refine (rr_Send.calls kj11 _ _ t468 0 t487 t489 _ ?side1 ?side2 A48.out).mono ?_); (case side1 => repeat (first | exact (Kd.S_reads' HO_14.out).2.2 | (with_reducible refine Kd.C_alloc ?_ _) | (with_reducible refine Kd.C_drewN ?_ _) | (with_reducible refine Kd.C_drew ?_))); (case side2 => exact (Kd.S_reads' HO_14.out).2.1); rintro e w' ⟨rfl, ⟨nd, rfl⟩⟩; refine ⟨_, rfl, ?_⟩; obtain ⟨Ao62, co62, eo62⟩ := Kd.S_slice HO_15.out; subst eo62) | ((with_reducible refine gate_callee (f := 38) rfl ?_); refine goesL_ (some 116) rfl rfl Try.func38 (by kernel_rfl) rfl #[.slice Ao62 t471.length co62, .int .i64 0, .string t487] rfl (by (try simp only [List.map_toArray, List.map_cons, List.map_nil]); first | done | rfl | (simp only [List.length_drop, List.length_take]; rfl)) ?_; (with_reducible refine (rl_follow.calls kj11 _ _ t471 0 t487 t490 _ ?side1 ?side2 A49.out).mono ?_); (case side1 => repeat (first | exact (Kd.S_reads' HO_15.out).2.2 | (with_reducible refine Kd.C_alloc ?_ _) | (with_reducible refine Kd.C_drewN ?_ _) | (with_reducible refine Kd.C_drew ?_))); (case side2 => exact (Kd.S_reads' HO_15.out).2.1); rintro e w' ⟨rfl, ⟨nd, rfl⟩⟩; refine ⟨_, rfl, ?_⟩) | (go_at_call 22; (with_reducible refine (rl_awake.calls  t492 _ A60.out).mono ?_); rintro e w63 ⟨rfl, hb⟩; replace HO_13 := a_ (Kd.S_below (by (with_reducible repeat (first | apply Kd.S_alloc | apply Kd.S_drewN | apply Kd.S_drew)); exact HO_13.out) hb); replace HO_14 := a_ (Kd.S_below (by (with_reducible repeat (first | apply Kd.S_alloc | apply Kd.S_drewN | apply Kd.S_drew)); exact HO_14.out) hb); replace HO_15 := a_ (Kd.S_below (by (with_reducible repeat (first | apply Kd.S_alloc | apply Kd.S_drewN | apply Kd.S_drew)); exact HO_15.out) hb); replace HB := a_ (bT_ HB.out (tr hb)); (try clear hb); (try clear hb2); (try clear hk); (try clear hi)))
    go_ret
    exact ⟨by first | rfl | (simp [errW_none, errW_some] <;> rfl) | (simp [*, errW_none, errW_some] <;> rfl), by exact gs HB.out⟩
   rw [if_pos c51] at H
   have c51b0 : (t488 == 0) = true := beq_iff_eq.mpr c51
   have c51b1 : (t488 != 0) = false := bne_eq_false_iff_eq.mpr c51
   clear c51
   by_cases c52 : ((t490 == 0) == (t489 == 0)) = true
   rotate_left
   ·rw [if_neg c52] at H
    have c52b0 : ((t490 == 0) == (t489 == 0)) = false := by simpa using c52
    (try (have c52b1 : decide ((t490 == 0) = (t489 == 0)) = false := by simpa using c52))
    (try (have c52b2 : ((t490 == 0) == (t489 == 0)) = false := by simpa using c52))
    (try (have c52b3 : ¬ ((t490 == 0) = (t489 == 0)) := by simpa using c52))
    clear c52
    exact absurd ((Option.some.inj H).trans hrt.out) (by simp)
   rw [if_pos c52] at H
   have c52b0 : ((t490 == 0) == (t489 == 0)) = true := c52
   (try (have c52b1 : decide ((t490 == 0) = (t489 == 0)) = true := by simpa using c52))
   (try (have c52b2 : ((t490 == 0) == (t489 == 0)) = true := by simpa using c52))
   clear c52
   replace H := Option.bind_eq_some_iff.mp H
   obtain ⟨t491, A530, H⟩ := H
   try dsimp only at H
   have A53 := a_ A530
   clear A530
   obtain rfl := Option.some.inj H
   go_wp2_with (first | ((with_reducible refine gate_callee (f := 23) rfl ?_); refine goesL_ (some 107) rfl rfl Try.func23 (by kernel_rfl) rfl #[.string a5, .int .i64 (wrap64 (1 + t464)), .int .i64 20] rfl (by (try simp only [List.map_toArray, List.map_cons, List.map_nil]); first | done | rfl | (simp only [List.length_drop, List.length_take]; rfl)) ?_; (with_reducible refine (rl_word.calls kj11 a5 (wrap64 (1 + t464)) 20 t487 _ A46.out).mono ?_); rintro e w54 ⟨rfl, hb⟩; refine ⟨_, rfl, ?_⟩; replace HO_13 := a_ (Kd.S_below (by (with_reducible repeat (first | apply Kd.S_alloc | apply Kd.S_drewN | apply Kd.S_drew)); exact HO_13.out) hb); replace HO_14 := a_ (Kd.S_below (by (with_reducible repeat (first | apply Kd.S_alloc | apply Kd.S_drewN | apply Kd.S_drew)); exact HO_14.out) hb); replace HO_15 := a_ (Kd.S_below (by (with_reducible repeat (first | apply Kd.S_alloc | apply Kd.S_drewN | apply Kd.S_drew)); exact HO_15.out) hb); replace HB := a_ (bT_ HB.out (tr hb)); (try clear hb); (try clear hb2); (try clear hk); (try clear hi)) | ((with_reducible refine gate_callee (f := 20) rfl ?_); refine goesL_ (some 110) rfl rfl Try.func20 (by kernel_rfl) rfl #[.slice Ao15 t465.length co15, .int .i64 0, .string t487] rfl (by (try simp only [List.map_toArray, List.map_cons, List.map_nil]); first | done | rfl | (simp only [List.length_drop, List.length_take]; rfl)) ?_; (with_reducible refine (rr_Send.calls kj11 _ _ t465 0 t487 t488 _ ?side1 ?side2 A47.out).mono ?_); (case side1 => repeat (first | exact (Kd.S_reads' HO_13.out).2.2 | (with_reducible refine Kd.C_alloc ?_ _) | (with_reducible refine Kd.C_drewN ?_ _) | (with_reducible refine Kd.C_drew ?_))); (case side2 => exact (Kd.S_reads' HO_13.out).2.1); rintro e w' ⟨rfl, ⟨nd, rfl⟩⟩; refine ⟨_, rfl, ?_⟩) | ((with_reducible refine gate_callee (f := 20) rfl ?_); refine goesL_ (some 113) rfl rfl Try.func20 (by kernel_rfl) rfl #[.slice Ao16 t468.length co16, .int .i64 0, .string t487] rfl (by (try simp only [List.map_toArray, List.map_cons, List.map_nil]); first | done | rfl | (simp only [List.length_drop, List.length_take]; rfl)) ?_; (with_reducible refine (rr_Send.calls kj11 _ _ t468 0 t487 t489 _ ?side1 ?side2 A48.out).mono ?_); (case side1 => repeat (first | exact (Kd.S_reads' HO_14.out).2.2 | (with_reducible refine Kd.C_alloc ?_ _) | (with_reducible refine Kd.C_drewN ?_ _) | (with_reducible refine Kd.C_drew ?_))); (case side2 => exact (Kd.S_reads' HO_14.out).2.1); rintro e w' ⟨rfl, ⟨nd, rfl⟩⟩; refine ⟨_, rfl, ?_⟩; obtain ⟨Ao55, co55, eo55⟩ := Kd.S_slice HO_15.out; subst eo55) | ((with_reducible refine gate_callee (f := 38) rfl ?_); refine goesL_ (some 116) rfl rfl Try.func38 (by kernel_rfl) rfl #[.slice Ao55 t471.length co55, .int .i64 0, .string t487] rfl (by (try simp only [List.map_toArray, List.map_cons, List.map_nil]); first | done | rfl | (simp only [List.length_drop, List.length_take]; rfl)) ?_; (with_reducible refine (rl_follow.calls kj11 _ _ t471 0 t487 t490 _ ?side1 ?side2 A49.out).mono ?_); (case side1 => repeat (first | exact (Kd.S_reads' HO_15.out).2.2 | (with_reducible refine Kd.C_alloc ?_ _) | (with_reducible refine Kd.C_drewN ?_ _) | (with_reducible refine Kd.C_drew ?_))); (case side2 => exact (Kd.S_reads' HO_15.out).2.1); rintro e w' ⟨rfl, ⟨nd, rfl⟩⟩; refine ⟨_, rfl, ?_⟩) | (go_at_call 22; (with_reducible refine (rl_awake.calls  t491 _ A53.out).mono ?_); rintro e w56 ⟨rfl, hb⟩; replace HO_13 := a_ (Kd.S_below (by (with_reducible repeat (first | apply Kd.S_alloc | apply Kd.S_drewN | apply Kd.S_drew)); exact HO_13.out) hb); replace HO_14 := a_ (Kd.S_below (by (with_reducible repeat (first | apply Kd.S_alloc | apply Kd.S_drewN | apply Kd.S_drew)); exact HO_14.out) hb); replace HO_15 := a_ (Kd.S_below (by (with_reducible repeat (first | apply Kd.S_alloc | apply Kd.S_drewN | apply Kd.S_drew)); exact HO_15.out) hb); replace HB := a_ (bT_ HB.out (tr hb)); (try clear hb); (try clear hb2); (try clear hk); (try clear hi)))
   go_ret
   exact ⟨by first | rfl | (simp [errW_none, errW_some] <;> rfl) | (simp [*, errW_none, errW_some] <;> rfl), by exact gs HB.out⟩
end Go.Proofs.Ytifkldehbaphgaa.PAll
end
section
namespace Go.Proofs.Ytifkldehbaphgaa.PAll
open Go.RowKit Go.PW.PrintWords Go.PW.PrintLast Go.PW.PrintMore
theorem bt_data (s : ByteArray) (i : Nat) (h : i < s.size) : bt s (i : Int) = ((s.data.toList[i]'(by simpa using h)).toNat : Int) := by
 simp [bt, h]
 rfl
def invI (c : Int) : Int := Go.bits .xor .u8 c 32
def pushW (out : List Int) (c : Int) : List Int := if 0 < out.length ∧ rd out ((out.length : Int) - 1) = invI c then out.take (out.length - 1) else out ++ [c]
def redW (out : List Int) (l : List Int) : List Int := l.foldl pushW out
theorem pushW_len (out : List Int) (c : Int) : (pushW out c).length ≤ out.length + 1 := by
 unfold pushW; split
 ·simp; omega
 ·simp
theorem rd_strBytes (s : ByteArray) (i : Nat) (h : i < s.size) : (strBytes s)[i]'(by rw [strBytes_length]; exact h) = bt s (i : Int) := by
 rw [bt_data s i h]
 simp [strBytes]
theorem joined_l1 (x5 : ByteArray) (hs : x5.size ≤ 1000000) (x8 : List ByteArray) (x9 x10 : Int) : ∀ (m k i : Nat) (x3 : List Int), i + m = x5.size → x3.length + m ≤ 100000000 →
  c_joined.l1 (k + m + 1) x3 x5 x8 x9 x10 (x5.size : Int) (i : Int) = c_joined.l0 k (redW x3 ((strBytes x5).drop i)) x8 x9 (wrap64 (x10 + 1))
 | 0, k, i, x3, h, hl => by
  simp only [c_joined.l1]
  rw [if_neg (by omega), List.drop_eq_nil_of_le (by rw [strBytes_length]; omega)]
  rfl
 | m + 1, k, i, x3, h, hl => by
  have hi : i < x5.size := by omega
  rw [show k + (m + 1) + 1 = (k + m + 1) + 1 from by omega]
  simp only [c_joined.l1]
  rw [if_pos (by omega)]
  have hw : wrap64 ((i : Int) + 1) = ((i + 1 : Nat) : Int) := by rw [wrap64_small _ (by omega) (by omega)]; omega
  have hd : (strBytes x5).drop i = bt x5 i :: (strBytes x5).drop (i + 1) := by
   rw [List.drop_eq_getElem_cons (by rw [strBytes_length]; exact hi), rd_strBytes x5 i hi]
  have hstep : ∀ y, redW y ((strBytes x5).drop i) = redW (pushW y (bt x5 i)) ((strBytes x5).drop (i + 1)) := fun y => by rw [hd]; rfl
  rw [hstep, hw]
  by_cases h0 : 0 < x3.length
  rotate_left
  ·rw [if_neg (by omega), if_pos (by omega), if_pos (by omega), if_pos (by omega)]
   have hp : pushW x3 (bt x5 i) = x3 ++ [bt x5 i] := by unfold pushW; rw [if_neg (fun h => h0 h.1)]
   rw [hp]
   exact joined_l1 x5 hs x8 x9 x10 m k (i + 1) _ (by omega) (by simp; omega)
  have hw1 : wrap64 ((x3.length : Int) - 1) = (x3.length : Int) - 1 := wrap64_small _ (by omega) (by omega)
  rw [if_pos (show (x3.length : Int) > 0 by omega), hw1, if_pos (by omega), if_pos (by omega), if_pos (by omega), if_pos (by omega)]
  show (some (invI (bt x5 i))).bind _ = _
  simp only [Option.bind_some]
  by_cases he : rd x3 ((x3.length : Int) - 1) = invI (bt x5 i)
  rotate_left
  ·rw [if_neg he, if_pos (by omega)]
   have hp : pushW x3 (bt x5 i) = x3 ++ [bt x5 i] := by unfold pushW; rw [if_neg (fun h => he h.2)]
   rw [hp]
   exact joined_l1 x5 hs x8 x9 x10 m k (i + 1) _ (by omega) (by simp; omega)
  rw [if_pos he, if_pos (by omega)]
  have hp : pushW x3 (bt x5 i) = x3.take (x3.length - 1) := by unfold pushW; rw [if_pos ⟨h0, he⟩]
  rw [hp, show ((x3.length : Int) - 1).toNat = x3.length - 1 from by omega]
  exact joined_l1 x5 hs x8 x9 x10 m k (i + 1) _ (by omega) (by simp; omega)
theorem redW_len : ∀ (l out : List Int), (redW out l).length ≤ out.length + l.length
 | [], out => by simp [redW]
 | c :: l, out => by
  have h1 := redW_len l (pushW out c)
  have h2 := pushW_len out c
  show (redW (pushW out c) l).length ≤ _
  simp
  omega
def joinFuel : List ByteArray → Nat
 | [] => 1
 | s :: l => s.size + 2 + joinFuel l
def joinLen : List ByteArray → Nat
 | [] => 0
 | s :: l => s.size + joinLen l
theorem joined_l0 (ws : List ByteArray) (hn : ws.length ≤ 1000000) : ∀ (m i k : Nat) (x3 : List Int), i + m = ws.length → x3.length + joinLen (ws.drop i) ≤ 1000000 →
  c_joined.l0 (k + joinFuel (ws.drop i)) x3 ws (ws.length : Int) (i : Int) = some (strOfNums (redW x3 ((ws.drop i).map strBytes).flatten))
 | 0, i, k, x3, h, hl => by
  rw [List.drop_eq_nil_of_le (by omega)]
  simp only [joinFuel, c_joined.l0]
  rw [if_neg (by omega)]
  rfl
 | m + 1, i, k, x3, h, hl => by
  have hi : i < ws.length := by omega
  rw [List.drop_eq_getElem_cons hi] at hl ⊢
  simp only [joinLen] at hl
  have hr : rdOf ByteArray.empty ws (i : Int) = ws[i] := by simp [rdOf, hi]
  rw [show k + joinFuel (ws[i] :: ws.drop (i + 1)) = (k + joinFuel (ws.drop (i + 1)) + ws[i].size + 1) + 1 from by simp [joinFuel]; omega]
  simp only [c_joined.l0]
  rw [if_pos (by omega), if_pos (by omega), if_pos (by omega), hr]
  have h1 := joined_l1 ws[i] (by omega) ws (ws.length : Int) (i : Int) ws[i].size (k + joinFuel (ws.drop (i + 1))) 0 x3 (by omega) (by omega)
  simp only [Int.natCast_zero, List.drop_zero] at h1
  rw [h1, wrap64_small _ (by omega) (by omega), show ((i : Int) + 1) = ((i + 1 : Nat) : Int) from by omega]
  have hlen := redW_len (strBytes ws[i]) x3
  rw [strBytes_length] at hlen
  rw [joined_l0 ws hn m (i + 1) k _ (by omega) (by omega)]
  simp only [List.map_cons, List.flatten_cons, redW, List.foldl_append]
theorem joined_f (ws : List ByteArray) (hn : ws.length ≤ 1000000) (hl : joinLen ws ≤ 1000000) (k : Nat) (hk : joinFuel ws ≤ k) :
  c_joined.f k ws = some (strOfNums (redW [] (ws.map strBytes).flatten)) := by
 obtain ⟨q, rfl⟩ : ∃ q, k = q + joinFuel ws := ⟨k - joinFuel ws, by omega⟩
 have := joined_l0 ws hn ws.length 0 q [] (by omega) (by simpa using hl)
 simpa [c_joined.f] using this
def letC (c : Int) : Prop := c = 97 ∨ c = 65 ∨ c = 98 ∨ c = 66
theorem wrapN (n : Int) (h0 : 0 ≤ n) (h : n ≤ 1000000000) : wrap64 n = n := wrap64_small n (by omega) (by omega)
structure Perm (d : Nat) (c : List Int) : Prop where
 len : c.length = d
 lo : ∀ x ∈ c, 0 ≤ x
 hi : ∀ x ∈ c, x < d
 nodup : c.Nodup
theorem nodup_len : ∀ (n : Nat) (l : List Int), l.Nodup → (∀ x ∈ l, 0 ≤ x ∧ x < n) → l.length ≤ n
 | 0, l, _, h => by
  cases l with
  | nil => simp
  | cons x l => have := h x (by simp); omega
 | n + 1, l, hn, h => by
  by_cases hm : (n : Int) ∈ l
  rotate_left
  ·have := nodup_len n l hn (fun x hx => by
    have := h x hx
    have : x ≠ (n : Int) := fun e => hm (e ▸ hx)
    omega)
   omega
  have h1 := nodup_len n (l.erase (n : Int)) (hn.erase _) (fun x hx => by
   have hx' := (List.Nodup.mem_erase_iff hn).1 hx
   have := h x hx'.2
   have := hx'.1
   omega)
  rw [List.length_erase_of_mem hm] at h1
  omega
theorem nodup_all : ∀ (n : Nat) (l : List Int), l.Nodup → (∀ x ∈ l, 0 ≤ x ∧ x < n) → l.length = n → ∀ i : Int, 0 ≤ i → i < n → i ∈ l
 | 0, l, _, h, hl => fun i h0 h1 => by omega
 | n + 1, l, hn, h, hl => fun i h0 h1 => by
  have hm : (n : Int) ∈ l := by
   apply Classical.byContradiction
   intro hm
   have := nodup_len n l hn (fun x hx => by
    have := h x hx
    have : x ≠ (n : Int) := fun e => hm (e ▸ hx)
    omega)
   omega
  by_cases e : i = (n : Int)
  ·rw [e]; exact hm
  have := nodup_all n (l.erase (n : Int)) (hn.erase _) (fun x hx => by
   have hx' := (List.Nodup.mem_erase_iff hn).1 hx
   have := h x hx'.2
   have := hx'.1
   omega) (by rw [List.length_erase_of_mem hm]; omega) i h0 (by omega)
  exact List.mem_of_mem_erase this
theorem Perm.mem {d : Nat} {c : List Int} (h : Perm d c) (i : Int) (h0 : 0 ≤ i) (h1 : i < d) : i ∈ c := nodup_all d c h.nodup (fun x hx => ⟨h.lo x hx, h.hi x hx⟩) h.len i h0 h1
theorem Perm.get {d : Nat} {c : List Int} (h : Perm d c) (i : Int) (h0 : 0 ≤ i) (h1 : i < d) : 0 ≤ rd c i ∧ rd c i < d := by
 have hl := h.len
 have hr : rd c i = c[i.toNat]'(by omega) := by simp [rd, show i.toNat < c.length by omega]
 rw [hr]
 exact ⟨h.lo _ (List.getElem_mem _), h.hi _ (List.getElem_mem _)⟩
theorem okC_perm {d : Nat} {c : List Int} (hl : c.length = d) : okC d c d ↔ Perm d c := by
 constructor
 ·intro h
  have hm : ∀ x ∈ c, 0 ≤ x ∧ x < d := fun x hx => by
   obtain ⟨m, hm, rfl⟩ := List.getElem_of_mem hx
   have := h m (by omega)
   rw [show c.getD m 0 = c[m] from by simp [List.getD, hm]] at this
   omega
  refine ⟨hl, fun x hx => (hm x hx).1, fun x hx => (hm x hx).2, ?_⟩
  rw [List.nodup_iff_pairwise_ne, List.pairwise_iff_getElem]
  intro i j hi hj hij
  have := (h j (by omega)).2.2
  rw [show c.getD j 0 = c[j] from by simp [List.getD, hj]] at this
  intro e
  apply this
  rw [← e]
  exact List.mem_take_iff_getElem.2 ⟨i, by omega, rfl⟩
 ·intro h m hm
  have hml : m < c.length := by omega
  rw [show c.getD m 0 = c[m] from by simp [List.getD, hml]]
  refine ⟨h.lo _ (List.getElem_mem _), by have := h.hi _ (List.getElem_mem hml); omega, fun hx => ?_⟩
  obtain ⟨i, hi, e⟩ := List.mem_take_iff_getElem.1 hx
  have hn := h.nodup
  rw [List.nodup_iff_pairwise_ne, List.pairwise_iff_getElem] at hn
  exact hn i m (by omega) hml (by omega) e
def nT (T : List (List Int)) : Nat := (rd_L1 T 0).length
structure Tab (T : List (List Int)) : Prop where
 g1 : 1 ≤ T.length
 g2 : T.length ≤ 2
 d1 : 1 ≤ nT T
 d5 : nT T ≤ 5
 col : ∀ k, k < T.length → Perm (nT T) (rd_L1 T (k : Int))
theorem okT_tab (T : List (List Int)) : okT T ↔ Tab T := by
 constructor
 ·rintro ⟨⟨h1, h2⟩, ⟨h3, h4⟩, h5⟩
  exact ⟨h1, h2, h3, h4, fun k hk => (okC_perm (h5 k hk).1).1 (h5 k hk).2⟩
 ·rintro ⟨h1, h2, h3, h4, h5⟩
  exact ⟨⟨h1, h2⟩, ⟨h3, h4⟩, fun k hk => ⟨(h5 k hk).len, (okC_perm (h5 k hk).len).2 (h5 k hk)⟩⟩
def stepT (T : List (List Int)) (i c : Int) : Int :=
 if c = 97 then rd (rd_L1 T 0) i else if c = 98 then rd (rd_L1 T 1) i else if c = 65 then idxL i (rd_L1 T 0) 0 else idxL i (rd_L1 T 1) 0
def letG (g : Nat) (c : Int) : Prop := c = 97 ∨ c = 65 ∨ (g = 2 ∧ (c = 98 ∨ c = 66))
theorem letG.letC {g : Nat} {c : Int} (h : letG g c) : letC c := by unfold letG at h; unfold PAll.letC; omega
theorem idxL_range {x : Int} {l : List Int} (h : x ∈ l) : 0 ≤ idxL x l 0 ∧ idxL x l 0 < l.length := by
 rcases idxL_le x l 0 (by omega) with ⟨h1, _⟩ | ⟨_, h2, h3⟩
 ·exact absurd h h1
 ·omega
theorem Tab.c0 {T : List (List Int)} (h : Tab T) : Perm (nT T) (rd_L1 T 0) := h.col 0 h.g1
theorem Tab.c1 {T : List (List Int)} (h : Tab T) (h2 : T.length = 2) : Perm (nT T) (rd_L1 T 1) := h.col 1 (by omega)
theorem stepT_range {T : List (List Int)} (h : Tab T) {i c : Int} (h0 : 0 ≤ i) (h1 : i < nT T) (hc : letG T.length c) : 0 ≤ stepT T i c ∧ stepT T i c < nT T := by
 unfold stepT
 rcases hc with rfl | rfl | ⟨h2, rfl | rfl⟩
 ·simpa using h.c0.get i h0 h1
 ·have := idxL_range (h.c0.mem i h0 h1)
  rw [h.c0.len] at this
  simpa using this
 ·simpa using (h.c1 h2).get i h0 h1
 ·have := idxL_range ((h.c1 h2).mem i h0 h1)
  rw [(h.c1 h2).len] at this
  simpa using this
theorem pad5_list (c : List Int) (h : c.length ≤ 5) : [(pad5 c).getD 0 0, (pad5 c).getD 1 0, (pad5 c).getD 2 0, (pad5 c).getD 3 0, (pad5 c).getD 4 0] = c ++ List.replicate (5 - c.length) 0 := by
 match c, h with
 | [], _ => rfl
 | [_], _ => rfl
 | [_, _], _ => rfl
 | [_, _, _], _ => rfl
 | [_, _, _, _], _ => rfl
 | [_, _, _, _, _], _ => rfl
theorem tabL_getD0 (T : List (List Int)) (h1 : 1 ≤ T.length) (j : Nat) (hj : j < 5) : (tabL T).getD j 0 = (pad5 (rd_L1 T 0)).getD j 0 := by
 unfold tabL mixT
 rw [if_neg (by omega)]
 have e : ∀ (A B : List Int), A.length = 5 → (A ++ B).getD j 0 = A.getD j 0 := fun A B hA => by simp [List.getD, List.getElem?_append, hA, hj]
 split
 ·rw [e _ _ (pad5_length _)]
 ·rw [e _ _ (pad5_length _)]
theorem tabL_getD1 (T : List (List Int)) (h1 : T.length = 2) (j : Nat) (hj : j < 5) : (tabL T).getD (5 + j) 0 = (pad5 (rd_L1 T 1)).getD j 0 := by
 unfold tabL mixT
 rw [if_neg (by omega), if_neg (by omega)]
 have e : ∀ (A B : List Int), A.length = 5 → (A ++ B).getD (5 + j) 0 = B.getD j 0 := fun A B hA => by simp [List.getD, List.getElem?_append, hA, show ¬ 5 + j < 5 by omega]
 rw [e _ _ (pad5_length _)]
theorem getD_pad (c : List Int) (n : Nat) (i : Int) (h0 : 0 ≤ i) (h1 : i < c.length) : (c ++ List.replicate n 0).getD i.toNat 0 = rd c i := by
 unfold rd
 simp [List.getD, List.getElem?_append, show i.toNat < c.length by omega]
theorem n_65_97 : ¬ (65 : Int) = 97 := by omega
theorem n_65_98 : ¬ (65 : Int) = 98 := by omega
theorem n_98_97 : ¬ (98 : Int) = 97 := by omega
theorem n_66_97 : ¬ (66 : Int) = 97 := by omega
theorem n_66_98 : ¬ (66 : Int) = 98 := by omega
theorem n_66_65 : ¬ (66 : Int) = 65 := by omega
theorem sent_f {T : List (List Int)} (h : Tab T) {i c : Int} (h0 : 0 ≤ i) (h1 : i < nT T) (hc : letG T.length c) (a0 : Int) :
  c_table_sent.f a0 ((rd_L1 T 0).length : Int) ((tabL T).getD 0 0) ((tabL T).getD 1 0) ((tabL T).getD 2 0) ((tabL T).getD 3 0) ((tabL T).getD 4 0) ((tabL T).getD 5 0) ((tabL T).getD 6 0) ((tabL T).getD 7 0) ((tabL T).getD 8 0) ((tabL T).getD 9 0) i c = some (stepT T i c) := by
 have hd5 := h.d5
 have hd1 := h.d1
 have l0 := h.c0.len
 unfold nT at hd5 hd1 h1 l0
 have e0 : [(tabL T).getD 0 0, (tabL T).getD 1 0, (tabL T).getD 2 0, (tabL T).getD 3 0, (tabL T).getD 4 0] = rd_L1 T 0 ++ List.replicate (5 - (rd_L1 T 0).length) 0 := by
  rw [tabL_getD0 T h.g1 0 (by omega), tabL_getD0 T h.g1 1 (by omega), tabL_getD0 T h.g1 2 (by omega), tabL_getD0 T h.g1 3 (by omega), tabL_getD0 T h.g1 4 (by omega)]
  exact pad5_list _ hd5
 unfold c_table_sent.f stepT
 rcases hc with rfl | rfl | ⟨h2, hc⟩
 ·rw [if_pos rfl, if_pos rfl, e0]
  unfold rdA
  rw [if_pos (by omega), getD_pad _ _ i h0 (by omega)]
 ·simp only [n_65_97, n_65_98, if_false, if_true]
  rw [if_pos (by omega), e0]
  simp
 ·have l1 := (h.c1 h2).len
  unfold nT at l1
  have e1 : [(tabL T).getD 5 0, (tabL T).getD 6 0, (tabL T).getD 7 0, (tabL T).getD 8 0, (tabL T).getD 9 0] = rd_L1 T 1 ++ List.replicate (5 - (rd_L1 T 1).length) 0 := by
   have q0 := tabL_getD1 T h2 0 (by omega)
   have q1 := tabL_getD1 T h2 1 (by omega)
   have q2 := tabL_getD1 T h2 2 (by omega)
   have q3 := tabL_getD1 T h2 3 (by omega)
   have q4 := tabL_getD1 T h2 4 (by omega)
   rw [q0, q1, q2, q3, q4]
   exact pad5_list _ (by omega)
  rcases hc with rfl | rfl
  ·simp only [n_98_97, if_false, if_true]
   rw [e1]
   unfold rdA
   rw [if_pos (by omega), getD_pad _ _ i h0 (by omega)]
  ·simp only [n_66_97, n_66_98, n_66_65, if_false, if_true]
   rw [if_pos (by omega), e1, ← l1]
   simp
theorem refStep_l0 (T : List (List Int)) (x : Int) (q : Nat) (hq : q < T.length) (hl : (rd_L1 T (q : Int)).length ≤ 5) (hx : x ∈ rd_L1 T (q : Int)) : ∀ (m j k : Nat), j + m = (rd_L1 T (q : Int)).length → x ∉ (rd_L1 T (q : Int)).take j → m < k →
  rr_step.l0 k T x (q : Int) (j : Int) = some (idxL x ((rd_L1 T (q : Int)).drop j) (j : Int))
 | 0, j, k, h, hn, hk => by
  rw [List.take_of_length_le (by omega)] at hn
  exact absurd hx hn
 | m + 1, j, k, h, hn, hk => by
  obtain ⟨k, rfl⟩ : ∃ r, k = r + 1 := ⟨k - 1, by omega⟩
  have hj : j < (rd_L1 T (q : Int)).length := by omega
  have hr : rd (rd_L1 T (q : Int)) (j : Int) = (rd_L1 T (q : Int))[j] := by simp [rd, hj]
  simp only [rr_step.l0]
  rw [if_pos (by omega), if_pos (by omega), if_pos (by omega), if_pos (by omega), hr, List.drop_eq_getElem_cons hj]
  simp only [idxL]
  by_cases e : (rd_L1 T (q : Int))[j] = x
  ·rw [if_pos e, if_pos e.symm]
  rw [if_neg e, if_neg (fun e' => e e'.symm), wrapN _ (by omega) (by omega), show ((j : Int) + 1) = ((j + 1 : Nat) : Int) from by omega]
  refine refStep_l0 T x q hq hl hx m (j + 1) k (by omega) ?_ (by omega)
  rw [List.take_succ_eq_append_getElem hj]
  intro hm
  rcases List.mem_append.1 hm with hm | hm
  ·exact hn hm
  ·exact e (List.mem_singleton.1 hm).symm
theorem refStep_f {T : List (List Int)} (h : Tab T) {i c : Int} (h0 : 0 ≤ i) (h1 : i < nT T) (hc : letG T.length c) (k : Nat) (hk : 10 ≤ k) : rr_step.f k T i c = some (stepT T i c) := by
 have hd5 := h.d5
 have l0 := h.c0.len
 unfold nT at hd5 h1 l0
 have hg1 := h.g1
 obtain ⟨k, rfl⟩ : ∃ r, k = r + 1 := ⟨k - 1, by omega⟩
 unfold rr_step.f stepT rr_letter.f
 simp only [rr_letter.j0]
 rcases hc with rfl | rfl | ⟨h2, rfl | rfl⟩
 ·simp only [if_true, Option.bind_some, Bool.false_eq_true, if_false]
  rw [show ((97 : Int) - 97) % 256 = 0 from rfl, if_pos (by omega), if_pos (by omega), if_pos (by omega), if_pos (by omega)]
 ·simp only [n_65_97, n_65_98, if_true, Option.bind_some, Bool.false_eq_true, if_false]
  rw [show ((65 : Int) - 65) % 256 = 0 from rfl]
  have := refStep_l0 T i 0 hg1 (by simpa using hd5) (by simpa using h.c0.mem i h0 h1) (rd_L1 T 0).length 0 (k + 1) (by simp) (by simp) (by omega)
  simpa using this
 ·simp only [n_98_97, if_true, Option.bind_some, Bool.false_eq_true, if_false, show ((2 : Int) == 2) = true from rfl]
  have l1 := (h.c1 h2).len
  unfold nT at l1
  rw [show ((98 : Int) - 97) % 256 = 1 from rfl, if_pos (by omega), if_pos (by omega), if_pos (by omega), if_pos (by omega)]
 ·simp only [n_66_97, n_66_98, n_66_65, if_true, Option.bind_some, Bool.false_eq_true, if_false]
  rw [show ((66 : Int) - 65) % 256 = 1 from rfl]
  have l1 := (h.c1 h2).len
  have m1 := (h.c1 h2).mem i h0 h1
  unfold nT at l1
  have := refStep_l0 T i 1 (by omega) (by simp only [Int.natCast_one]; omega) (by simpa using m1) (rd_L1 T 1).length 0 (k + 1) (by simp) (by simp) (by omega)
  simpa using this
def followT (T : List (List Int)) (i : Int) (w : List Int) : Int := w.foldl (stepT T) i
theorem refSend_l0 {T : List (List Int)} (h : Tab T) (s : ByteArray) (hs : s.size ≤ 1000000) (hlet : ∀ c ∈ strBytes s, letG T.length c) : ∀ (m j k : Nat) (i : Int), j + m = s.size → 0 ≤ i → i < nT T → m + 10 < k →
  rr_Send.l0 k T i s (j : Int) = some (followT T i ((strBytes s).drop j))
 | 0, j, k, i, e, h0, h1, hk => by
  obtain ⟨k, rfl⟩ : ∃ r, k = r + 1 := ⟨k - 1, by omega⟩
  simp only [rr_Send.l0]
  rw [if_neg (by omega), List.drop_eq_nil_of_le (by rw [strBytes_length]; omega)]
  rfl
 | m + 1, j, k, i, e, h0, h1, hk => by
  obtain ⟨k, rfl⟩ : ∃ r, k = r + 1 := ⟨k - 1, by omega⟩
  have hj : j < s.size := by omega
  have hd : (strBytes s).drop j = bt s j :: (strBytes s).drop (j + 1) := by
   rw [List.drop_eq_getElem_cons (by rw [strBytes_length]; exact hj), rd_strBytes s j hj]
  have hlc : letG T.length (bt s j) := hlet _ (by rw [← rd_strBytes s j hj]; exact List.getElem_mem _)
  simp only [rr_Send.l0]
  rw [if_pos (by omega), if_pos (by omega), refStep_f h h0 h1 hlc k (by omega)]
  simp only [Option.bind_some]
  have hr := stepT_range h h0 h1 hlc
  rw [wrapN _ (by omega) (by omega), show ((j : Int) + 1) = ((j + 1 : Nat) : Int) from by omega, refSend_l0 h s hs hlet m (j + 1) k _ (by omega) hr.1 hr.2 (by omega), hd]
  rfl
theorem refSend_f {T : List (List Int)} (h : Tab T) (s : ByteArray) (hs : s.size ≤ 1000000) (hlet : ∀ c ∈ strBytes s, letG T.length c) (i : Int) (h0 : 0 ≤ i) (h1 : i < nT T) (k : Nat) (hk : s.size + 10 < k) :
  rr_Send.f k T i s = some (followT T i (strBytes s)) := by
 have := refSend_l0 h s hs hlet s.size 0 k i (by omega) h0 h1 hk
 simpa [rr_Send.f] using this
def lettersG (g : Nat) : List Int := if g = 1 then [97, 65] else [97, 65, 98, 66]
theorem lettersG_let {g : Nat} (hg : g = 1 ∨ g = 2) : ∀ c ∈ lettersG g, letG g c := by
 intro c hc
 unfold lettersG at hc
 unfold letG
 rcases hg with rfl | rfl
 ·simp at hc; omega
 ·simp at hc; omega
theorem lettersG_len (g : Nat) : (lettersG g).length ≤ 4 := by unfold lettersG; split <;> simp
def ordIn (T : List (List Int)) (k : Nat) : List Int → List Int × List (List Int) → List Int × List (List Int)
 | [], s => s
 | c :: cs, s => if stepT T (rd s.1 (k : Int)) c ∈ s.1 then ordIn T k cs s else ordIn T k cs (s.1 ++ [stepT T (rd s.1 (k : Int)) c], s.2 ++ [pushW (s.2.getD k []) c])
def ordOut (T : List (List Int)) (L : List Int) : Nat → Nat → List Int × List (List Int) → List Int × List (List Int)
 | 0, _, s => s
 | f + 1, k, s => if k < s.1.length then ordOut T L f (k + 1) (ordIn T k L s) else s
def orderP (T : List (List Int)) (i : Int) : List Int × List (List Int) := ordOut T (lettersG T.length) 6 0 ([i], [[]])
structure Red (g : Nat) (w : List Int) : Prop where
 let_ : ∀ c ∈ w, letG g c
 red : redW [] w = w
structure OrdI (T : List (List Int)) (s : List Int × List (List Int)) : Prop where
 nodup : s.1.Nodup
 rng : ∀ x ∈ s.1, 0 ≤ x ∧ x < nT T
 pos : 0 < s.1.length
 len : s.2.length = s.1.length
 red : ∀ w ∈ s.2, Red T.length w ∧ w.length ≤ 5
 lenw : ∀ k, k < s.2.length → (s.2.getD k []).length ≤ k
theorem OrdI.le {T : List (List Int)} {s : List Int × List (List Int)} (h : OrdI T s) : s.1.length ≤ nT T := nodup_len _ _ h.nodup h.rng
theorem redW_append (a b c : List Int) : redW a (b ++ c) = redW (redW a b) c := List.foldl_append
theorem Red.push {g : Nat} {w : List Int} (h : Red g w) {c : Int} (hc : letG g c) (hn : ¬ (0 < w.length ∧ rd w ((w.length : Int) - 1) = invI c)) : Red g (w ++ [c]) ∧ pushW w c = w ++ [c] := by
 have hp : pushW w c = w ++ [c] := by unfold pushW; rw [if_neg hn]
 refine ⟨⟨fun x hx => ?_, ?_⟩, hp⟩
 ·rcases List.mem_append.1 hx with hx | hx
  ·exact h.let_ x hx
  ·rw [List.mem_singleton.1 hx]; exact hc
 ·rw [redW_append, h.red]
  exact hp
theorem redW_take {w : List Int} : ∀ (n : Nat), redW [] w = w → n ≤ w.length → redW [] (w.take n) = w.take n := by
 have key : ∀ (m : Nat) (u : List Int), u.length = m → redW [] u = u → redW [] (u.take (m - 1)) = u.take (m - 1) := by
  intro m u hu hr
  cases m with
  | zero => simp at hu; subst hu; rfl
  | succ m =>
   have e : u = u.take m ++ [u[m]'(by omega)] := by
    rw [← List.take_succ_eq_append_getElem, List.take_of_length_le (by omega)]
   have h1 : redW [] u = pushW (redW [] (u.take m)) (u[m]'(by omega)) := by
    conv => lhs; rw [e]
    rw [redW_append]
    rfl
   have hl := redW_len (u.take m) []
   have htl : (u.take m).length = m := by simp; omega
   simp only [List.length_nil, htl] at hl
   rw [hr] at h1
   simp only [Nat.add_sub_cancel]
   unfold pushW at h1
   split at h1
   ·have := congrArg List.length h1
    simp at this
    omega
   ·have h2 : redW [] (u.take m) ++ [u[m]'(by omega)] = u.take m ++ [u[m]'(by omega)] := h1.symm.trans e
    exact (List.append_inj' h2 rfl).1
 intro n hr hn
 obtain ⟨d, hd⟩ : ∃ d, n + d = w.length := ⟨w.length - n, by omega⟩
 induction d generalizing n with
 | zero => rw [List.take_of_length_le (by omega)]; exact hr
 | succ d ih =>
  have h1 := ih (n + 1) (by omega) (by omega)
  have h2 := key (n + 1) (w.take (n + 1)) (by simp; omega) h1
  simpa [List.take_take, show min n (n + 1) = n by omega] using h2
theorem strBytes_encode {c : Int} (h : letC c) : strBytes (Utf8.encode (wrap32 c)) = [c] := by
 rcases h with rfl | rfl | rfl | rfl <;> kernel_rfl
theorem letC_byte {c : Int} (h : letC c) : 0 ≤ c ∧ c < 256 := by unfold letC at h; omega
theorem strBytes_strOfNums (l : List Int) (h : ∀ c ∈ l, letC c) : strBytes (strOfNums l) = l := by
 unfold strBytes strOfNums
 simp only [List.map_map]
 induction l with
 | nil => rfl
 | cons c l ih =>
  have hc := letC_byte (h c (by simp))
  have := ih (fun x hx => h x (by simp [hx]))
  simp
  exact ⟨by omega, this⟩
theorem idxL_shift (x : Int) : ∀ (l : List Int) (i : Int), x ∈ l → idxL x l i = i + idxL x l 0
 | y :: l, i, h => by
  unfold idxL
  by_cases e : x = y
  ·rw [if_pos e, if_pos e]; omega
  rw [if_neg e, if_neg e]
  have hl : x ∈ l := by
   rcases List.mem_cons.1 h with h | h
   ·exact absurd h e
   ·exact h
  rw [idxL_shift x l (i + 1) hl, idxL_shift x l (0 + 1) hl]
  omega
theorem idxL_get (x : Int) : ∀ (l : List Int), x ∈ l → rd l (idxL x l 0) = x
 | y :: l, h => by
  unfold idxL
  by_cases e : x = y
  ·rw [if_pos e]; simp [rd, e]
  rw [if_neg e]
  have hl : x ∈ l := by
   rcases List.mem_cons.1 h with h | h
   ·exact absurd h e
   ·exact h
  have hr := idxL_range hl
  rw [idxL_shift x l (0 + 1) hl]
  have ih := idxL_get x l hl
  unfold rd at ih ⊢
  rw [show (0 + 1 + idxL x l 0).toNat = (idxL x l 0).toNat + 1 from by omega]
  simpa using ih
theorem idxL_rd : ∀ (l : List Int) (i : Nat), l.Nodup → i < l.length → idxL (rd l (i : Int)) l 0 = (i : Int)
 | y :: l, 0, _, _ => by simp [rd, idxL]
 | y :: l, i + 1, hn, hi => by
  have hi' : i < l.length := by simpa using hi
  have hrd : rd (y :: l) ((i + 1 : Nat) : Int) = rd l (i : Int) := by
   unfold rd
   rw [show (((i + 1 : Nat) : Int)).toNat = i + 1 from by omega]
   simp
  have hm : rd l (i : Int) ∈ l := by
   have : rd l (i : Int) = l[i] := by simp [rd, hi']
   rw [this]
   exact List.getElem_mem _
  rw [hrd]
  unfold idxL
  have hne : rd l (i : Int) ≠ y := fun e => by
   rw [e] at hm
   exact (List.nodup_cons.1 hn).1 hm
  rw [if_neg hne, idxL_shift _ _ _ hm, idxL_rd l i (List.nodup_cons.1 hn).2 hi']
  omega
theorem invI_97 : invI 97 = 65 := by kernel_rfl
theorem invI_65 : invI 65 = 97 := by kernel_rfl
theorem invI_98 : invI 98 = 66 := by kernel_rfl
theorem invI_66 : invI 66 = 98 := by kernel_rfl
theorem invI_inv {c : Int} (h : letC c) : invI (invI c) = c := by
 rcases h with rfl | rfl | rfl | rfl <;> kernel_rfl
theorem invI_let {g : Nat} {c : Int} (h : letG g c) : letG g (invI c) := by
 rcases h with rfl | rfl | ⟨h2, rfl | rfl⟩
 ·rw [invI_97]; exact Or.inr (Or.inl rfl)
 ·rw [invI_65]; exact Or.inl rfl
 ·rw [invI_98]; exact Or.inr (Or.inr ⟨h2, Or.inr rfl⟩)
 ·rw [invI_66]; exact Or.inr (Or.inr ⟨h2, Or.inl rfl⟩)
theorem stepT_97 (T : List (List Int)) (i : Int) : stepT T i 97 = rd (rd_L1 T 0) i := rfl
theorem stepT_65 (T : List (List Int)) (i : Int) : stepT T i 65 = idxL i (rd_L1 T 0) 0 := rfl
theorem stepT_98 (T : List (List Int)) (i : Int) : stepT T i 98 = rd (rd_L1 T 1) i := rfl
theorem stepT_66 (T : List (List Int)) (i : Int) : stepT T i 66 = idxL i (rd_L1 T 1) 0 := rfl
theorem stepT_inv {T : List (List Int)} (h : Tab T) {i c : Int} (h0 : 0 ≤ i) (h1 : i < nT T) (hc : letG T.length c) : stepT T (stepT T i c) (invI c) = i := by
 obtain ⟨n, rfl⟩ := Int.eq_ofNat_of_zero_le h0
 rcases hc with rfl | rfl | ⟨h2, rfl | rfl⟩
 ·rw [invI_97, stepT_97, stepT_65]
  exact idxL_rd _ n h.c0.nodup (by rw [h.c0.len]; omega)
 ·rw [invI_65, stepT_97, stepT_65]
  exact idxL_get _ _ (h.c0.mem _ h0 h1)
 ·rw [invI_98, stepT_98, stepT_66]
  exact idxL_rd _ n (h.c1 h2).nodup (by rw [(h.c1 h2).len]; omega)
 ·rw [invI_66, stepT_98, stepT_66]
  exact idxL_get _ _ ((h.c1 h2).mem _ h0 h1)
theorem rd_append_left (a b : List Int) (i : Nat) (h : i < a.length) : rd (a ++ b) (i : Int) = rd a (i : Int) := by
 unfold rd
 simp [List.getD, List.getElem?_append, h]
theorem rd_mem (a : List Int) (i : Nat) (h : i < a.length) : rd a (i : Int) ∈ a := by
 have : rd a (i : Int) = a[i] := by simp [rd, h]
 rw [this]
 exact List.getElem_mem _
theorem getD_append_left {α : Type} (a b : List α) (d : α) (i : Nat) (h : i < a.length) : (a ++ b).getD i d = a.getD i d := by
 simp [List.getD, List.getElem?_append, h]
theorem getD_append_len {α : Type} (a : List α) (x d : α) : (a ++ [x]).getD a.length d = x := by
 simp [List.getD]
structure OrdW (T : List (List Int)) (i : Int) (s : List Int × List (List Int)) : Prop extends OrdI T s where
 src : ∀ k, k < s.1.length → 0 < (s.2.getD k []).length → ∃ p ∈ s.1, stepT T p (rd (s.2.getD k []) (((s.2.getD k []).length : Int) - 1)) = rd s.1 (k : Int)
 way : ∀ k, k < s.1.length → followT T i (s.2.getD k []) = rd s.1 (k : Int)
theorem getD_mem {α : Type} (a : List α) (d : α) (k : Nat) (h : k < a.length) : a.getD k d ∈ a := by
 have : a.getD k d = a[k] := by simp [List.getD, h]
 rw [this]
 exact List.getElem_mem _
theorem followT_append (T : List (List Int)) (i : Int) (u v : List Int) : followT T i (u ++ v) = followT T (followT T i u) v := List.foldl_append
theorem OrdW.new {T : List (List Int)} (h : Tab T) {i : Int} {s : List Int × List (List Int)} (hs : OrdW T i s) {k : Nat} (hk : k < s.1.length) {c : Int} (hc : letG T.length c) (hn : stepT T (rd s.1 (k : Int)) c ∉ s.1) :
  OrdW T i (s.1 ++ [stepT T (rd s.1 (k : Int)) c], s.2 ++ [pushW (s.2.getD k []) c]) ∧ pushW (s.2.getD k []) c = s.2.getD k [] ++ [c] := by
 have hk2 : k < s.2.length := by rw [hs.len]; exact hk
 have hw := hs.red _ (getD_mem s.2 [] k hk2)
 have hrk := hs.rng _ (rd_mem s.1 k hk)
 have hnew := stepT_range h hrk.1 hrk.2 hc
 have hno : ¬ (0 < (s.2.getD k []).length ∧ rd (s.2.getD k []) (((s.2.getD k []).length : Int) - 1) = invI c) := by
  rintro ⟨h1, h2⟩
  obtain ⟨p, hp, e⟩ := hs.src k hk h1
  rw [h2] at e
  apply hn
  have hrp := hs.rng p hp
  have := stepT_inv h hrp.1 hrp.2 (invI_let hc)
  rw [e, invI_inv hc.letC] at this
  rw [this]
  exact hp
 obtain ⟨hred, hpush⟩ := hw.1.push hc hno
 have hle : (s.1 ++ [stepT T (rd s.1 (k : Int)) c]).length ≤ nT T := nodup_len _ _ (by
  rw [List.nodup_append]
  refine ⟨hs.nodup, by simp, ?_⟩
  intro a ha b hb
  rw [List.mem_singleton.1 hb]
  exact fun e => hn (e ▸ ha)) (by
  intro x hx
  rcases List.mem_append.1 hx with hx | hx
  ·exact hs.rng x hx
  ·rw [List.mem_singleton.1 hx]; exact hnew)
 have hd5 := h.d5
 have hlw := hs.lenw k hk2
 have hl2 := hs.len
 simp only [List.length_append, List.length_singleton] at hle
 refine ⟨⟨⟨?_, ?_, by simp, by simp [hl2], ?_, ?_⟩, ?_, ?_⟩, hpush⟩
 ·rw [List.nodup_append]
  refine ⟨hs.nodup, by simp, ?_⟩
  intro a ha b hb
  rw [List.mem_singleton.1 hb]
  exact fun e => hn (e ▸ ha)
 ·intro x hx
  rcases List.mem_append.1 hx with hx | hx
  ·exact hs.rng x hx
  ·rw [List.mem_singleton.1 hx]; exact hnew
 ·intro w hw'
  rcases List.mem_append.1 hw' with hw' | hw'
  ·exact hs.red w hw'
  ·rw [List.mem_singleton.1 hw', hpush]
   exact ⟨hred, by rw [List.length_append, List.length_singleton]; omega⟩
 ·intro q hq
  simp only [List.length_append, List.length_singleton] at hq
  by_cases e : q < s.2.length
  ·rw [getD_append_left _ _ _ _ e]; exact hs.lenw q e
  ·obtain rfl : q = s.2.length := by omega
   rw [getD_append_len, hpush, List.length_append, List.length_singleton]
   omega
 ·intro q hq hlen
  simp only [List.length_append, List.length_singleton] at hq
  by_cases e : q < s.1.length
  ·have e2 : q < s.2.length := by omega
   rw [getD_append_left _ _ _ _ e2] at hlen ⊢
   rw [rd_append_left _ _ _ e]
   obtain ⟨p, hp, hh⟩ := hs.src q e hlen
   exact ⟨p, by simp [hp], hh⟩
  obtain rfl : q = s.1.length := by omega
  refine ⟨rd s.1 (k : Int), by simp [rd_mem s.1 k hk], ?_⟩
  have e2 : (s.2 ++ [pushW (s.2.getD k []) c]).getD s.1.length [] = s.2.getD k [] ++ [c] := by rw [← hl2, getD_append_len, hpush]
  rw [show ((s.1 ++ [stepT T (rd s.1 (k : Int)) c], s.2 ++ [pushW (s.2.getD k []) c]) : List Int × List (List Int)).2.getD s.1.length [] = s.2.getD k [] ++ [c] from e2]
  have e3 : rd (s.2.getD k [] ++ [c]) (((s.2.getD k [] ++ [c]).length : Int) - 1) = c := by
   unfold rd
   rw [show ((((s.2.getD k [] ++ [c]).length : Int) - 1)).toNat = (s.2.getD k []).length from by simp]
   exact getD_append_len _ _ _
  rw [e3]
  show _ = rd (s.1 ++ [stepT T (rd s.1 (k : Int)) c]) (s.1.length : Int)
  unfold rd
  rw [Int.toNat_natCast, Int.toNat_natCast, getD_append_len]
 ·intro q hq
  simp only [List.length_append, List.length_singleton] at hq
  by_cases e : q < s.1.length
  ·have e2 : q < s.2.length := by omega
   rw [getD_append_left _ _ _ _ e2, rd_append_left _ _ _ e]
   exact hs.way q e
  obtain rfl : q = s.1.length := by omega
  have e2 : (s.2 ++ [pushW (s.2.getD k []) c]).getD s.1.length [] = s.2.getD k [] ++ [c] := by rw [← hl2, getD_append_len, hpush]
  rw [show ((s.1 ++ [stepT T (rd s.1 (k : Int)) c], s.2 ++ [pushW (s.2.getD k []) c]) : List Int × List (List Int)).2.getD s.1.length [] = s.2.getD k [] ++ [c] from e2, followT_append, hs.way k hk]
  show stepT T (rd s.1 (k : Int)) c = rd (s.1 ++ [stepT T (rd s.1 (k : Int)) c]) (s.1.length : Int)
  unfold rd
  rw [Int.toNat_natCast, Int.toNat_natCast, getD_append_len]
theorem OrdW.start {T : List (List Int)} {i : Int} (h0 : 0 ≤ i) (h1 : i < nT T) : OrdW T i ([i], [[]]) := by
 refine ⟨⟨by simp, by simp; exact ⟨h0, h1⟩, by simp, rfl, ?_, ?_⟩, ?_, ?_⟩
 ·intro w hw
  rw [List.mem_singleton.1 hw]
  exact ⟨⟨by simp, rfl⟩, by simp⟩
 ·intro k hk
  simp at hk
  subst hk
  simp
 ·intro k hk hl
  simp at hk
  subst hk
  simp at hl
 ·intro k hk
  simp at hk
  subst hk
  rfl
theorem ordIn_W {T : List (List Int)} (h : Tab T) {i : Int} {k : Nat} : ∀ (L : List Int) (s : List Int × List (List Int)), OrdW T i s → k < s.1.length → (∀ c ∈ L, letG T.length c) → OrdW T i (ordIn T k L s) ∧ s.1.length ≤ (ordIn T k L s).1.length
 | [], s, hs, hk, _ => ⟨hs, Nat.le_refl _⟩
 | c :: L, s, hs, hk, hL => by
  unfold ordIn
  split
  ·exact ordIn_W h L s hs hk (fun x hx => hL x (by simp [hx]))
  ·rename_i hn
   have h1 := (hs.new h hk (hL c (by simp)) hn).1
   have h2 := ordIn_W h L _ h1 (by show k < (s.1 ++ [_]).length; rw [List.length_append]; omega) (fun x hx => hL x (by simp [hx]))
   refine ⟨h2.1, Nat.le_trans ?_ h2.2⟩
   simp
theorem ordOut_W {T : List (List Int)} (h : Tab T) {i : Int} {L : List Int} (hL : ∀ c ∈ L, letG T.length c) : ∀ (f k : Nat) (s : List Int × List (List Int)), OrdW T i s → OrdW T i (ordOut T L f k s)
 | 0, k, s, hs => hs
 | f + 1, k, s, hs => by
  unfold ordOut
  split
  ·rename_i hk
   exact ordOut_W h hL f (k + 1) _ (ordIn_W h L s hs hk hL).1
  ·exact hs
theorem orderP_W {T : List (List Int)} (h : Tab T) {i : Int} (h0 : 0 ≤ i) (h1 : i < nT T) : OrdW T i (orderP T i) :=
 ordOut_W h (lettersG_let (by have := h.g1; have := h.g2; omega)) 6 0 _ (OrdW.start h0 h1)
theorem Red.letC {g : Nat} {w : List Int} (h : Red g w) : ∀ c ∈ w, PAll.letC c := fun c hc => (h.let_ c hc).letC
theorem way_joined {g : Nat} {w : List Int} (h : Red g w) (hl : w.length ≤ 5) {c : Int} (hc : letG g c) (k : Nat) (hk : 20 ≤ k) :
  c_joined.f k [strOfNums w, Utf8.encode (wrap32 c)] = some (strOfNums (pushW w c)) := by
 have hs : (strOfNums w).size = w.length := by rw [← strBytes_length, strBytes_strOfNums w h.letC]
 have he : (Utf8.encode (wrap32 c)).size = 1 := by rw [← strBytes_length, strBytes_encode hc.letC]; rfl
 rw [joined_f _ (by simp) (by simp [joinLen]; omega) k (by simp [joinFuel]; omega)]
 simp only [List.map_cons, List.map_nil, List.flatten_cons, List.flatten_nil, List.append_nil]
 rw [strBytes_strOfNums w h.letC, strBytes_encode hc.letC, redW_append, h.red]
 rfl
theorem order_l1 {T : List (List Int)} (h : Tab T) (i : Int) (a0 : Int) (k : Nat) (L : List Int) (hL : ∀ c ∈ L, letG T.length c) (hL4 : L.length ≤ 4) : ∀ (m j K : Nat) (s : List Int × List (List Int)), j + m = L.length → OrdW T i s → k < s.1.length → m + 60 ≤ K →
  c_table_order.l1 K s.1 (s.2.map strOfNums) (k : Int) L (L.length : Int) (j : Int) a0 ((rd_L1 T 0).length : Int) ((tabL T).getD 0 0) ((tabL T).getD 1 0) ((tabL T).getD 2 0) ((tabL T).getD 3 0) ((tabL T).getD 4 0) ((tabL T).getD 5 0) ((tabL T).getD 6 0) ((tabL T).getD 7 0) ((tabL T).getD 8 0) ((tabL T).getD 9 0) =
  c_table_order.l0 (K - m - 1) (ordIn T k (L.drop j) s).1 ((ordIn T k (L.drop j) s).2.map strOfNums) ((k + 1 : Nat) : Int) a0 ((rd_L1 T 0).length : Int) ((tabL T).getD 0 0) ((tabL T).getD 1 0) ((tabL T).getD 2 0) ((tabL T).getD 3 0) ((tabL T).getD 4 0) ((tabL T).getD 5 0) ((tabL T).getD 6 0) ((tabL T).getD 7 0) ((tabL T).getD 8 0) ((tabL T).getD 9 0)
 | 0, j, K, s, e, hs, hk, hK => by
  obtain ⟨K, rfl⟩ : ∃ r, K = r + 1 := ⟨K - 1, by omega⟩
  have hd5 := h.d5
  have hle := hs.le
  simp only [c_table_order.l1]
  rw [if_neg (by omega), List.drop_eq_nil_of_le (by omega), wrapN _ (by omega) (by omega)]
  rfl
 | m + 1, j, K, s, e, hs, hk, hK => by
  obtain ⟨K, rfl⟩ : ∃ r, K = r + 1 := ⟨K - 1, by omega⟩
  have hd5 := h.d5
  have hle := hs.le
  have hl2 := hs.len
  have hj : j < L.length := by omega
  have hrL : rd L (j : Int) = L[j] := by simp [rd, hj]
  have hc : letG T.length L[j] := hL _ (List.getElem_mem hj)
  have hrk := hs.rng _ (rd_mem s.1 k hk)
  simp only [c_table_order.l1]
  rw [if_pos (by omega), if_pos (by omega), if_pos (by omega), if_pos (by omega), if_pos (by omega), hrL, sent_f h hrk.1 hrk.2 hc a0]
  simp only [Option.bind_some]
  rw [Contains_f _ s.1 (by omega) K (by omega), List.drop_eq_getElem_cons hj]
  simp only [Option.bind_some, decide_eq_true_eq, ordIn]
  rw [wrapN _ (by omega) (by omega), show ((j : Int) + 1) = ((j + 1 : Nat) : Int) from by omega, show K + 1 - (m + 1) - 1 = K - m - 1 from by omega]
  by_cases hm : stepT T (rd s.1 (k : Int)) L[j] ∈ s.1
  ·rw [if_pos hm, if_pos hm]
   exact order_l1 h i a0 k L hL hL4 m (j + 1) K s (by omega) hs hk (by omega)
  rw [if_neg hm, if_neg hm, if_pos (by omega), if_pos (by rw [List.length_map]; omega)]
  have hk2 : k < s.2.length := by omega
  have hr : rdOf ByteArray.empty (s.2.map strOfNums) (k : Int) = strOfNums (s.2.getD k []) := by simp [rdOf, List.getD, hk2]
  have hw := hs.red _ (getD_mem s.2 [] k hk2)
  rw [hr, way_joined hw.1 hw.2 hc K (by omega)]
  simp only [Option.bind_some]
  rw [if_pos (by rw [List.length_map]; omega)]
  have hnew := (hs.new h hk hc hm).1
  have ih := order_l1 h i a0 k L hL hL4 m (j + 1) K _ (by omega) hnew (by show k < (s.1 ++ [_]).length; rw [List.length_append]; omega) (by omega)
  rw [← ih, List.map_append]
  rfl
theorem bytesF_letters (g : Nat) (hg : g = 1 ∨ g = 2) : bytesF ((⟨#[97, 65, 98, 66]⟩ : ByteArray).extract 0 (2 * (g : Int)).toNat) = some (lettersG g) := by
 rcases hg with rfl | rfl <;> kernel_rfl
theorem order_l0 {T : List (List Int)} (h : Tab T) (i : Int) : ∀ (f k K : Nat) (s : List Int × List (List Int)), OrdW T i s → 100 + 10 * f ≤ K → k + f = 6 →
  c_table_order.l0 K s.1 (s.2.map strOfNums) (k : Int) (T.length : Int) ((rd_L1 T 0).length : Int) ((tabL T).getD 0 0) ((tabL T).getD 1 0) ((tabL T).getD 2 0) ((tabL T).getD 3 0) ((tabL T).getD 4 0) ((tabL T).getD 5 0) ((tabL T).getD 6 0) ((tabL T).getD 7 0) ((tabL T).getD 8 0) ((tabL T).getD 9 0) =
  some ((ordOut T (lettersG T.length) f k s).1, (ordOut T (lettersG T.length) f k s).2.map strOfNums)
 | 0, k, K, s, hs, hK, hf => by
  obtain ⟨K, rfl⟩ : ∃ r, K = r + 1 := ⟨K - 1, by omega⟩
  have hd5 := h.d5
  have hle := hs.le
  simp only [c_table_order.l0, ordOut]
  rw [if_neg (by omega)]
 | f + 1, k, K, s, hs, hK, hf => by
  obtain ⟨K, rfl⟩ : ∃ r, K = r + 1 := ⟨K - 1, by omega⟩
  have hd5 := h.d5
  have hle := hs.le
  have hg1 := h.g1
  have hg2 := h.g2
  have hg : T.length = 1 ∨ T.length = 2 := by omega
  simp only [c_table_order.l0, ordOut]
  by_cases hk : k < s.1.length
  rotate_left
  ·rw [if_neg (by omega), if_neg hk]
  rw [if_pos (by omega), if_pos hk, wrapN _ (by omega) (by omega), if_pos (by omega), if_pos (by omega), bytesF_letters _ hg]
  simp only [Option.bind_some]
  have l1 := order_l1 h i (T.length : Int) k (lettersG T.length) (lettersG_let hg) (lettersG_len _) (lettersG T.length).length 0 K s (by omega) hs hk (by have := lettersG_len T.length; omega)
  simp only [List.drop_zero] at l1
  have l1' := l1
  rw [show ((0 : Nat) : Int) = 0 from rfl] at l1'
  rw [l1']
  have hW := ordIn_W h (lettersG T.length) s hs hk (lettersG_let hg)
  exact order_l0 h i f (k + 1) _ _ hW.1 (by have := lettersG_len T.length; omega) (by omega)
theorem order_f {T : List (List Int)} (h : Tab T) {i : Int} (h0 : 0 ≤ i) (h1 : i < nT T) (K : Nat) (hK : 200 ≤ K) :
  c_table_order.f K (T.length : Int) ((rd_L1 T 0).length : Int) ((tabL T).getD 0 0) ((tabL T).getD 1 0) ((tabL T).getD 2 0) ((tabL T).getD 3 0) ((tabL T).getD 4 0) ((tabL T).getD 5 0) ((tabL T).getD 6 0) ((tabL T).getD 7 0) ((tabL T).getD 8 0) ((tabL T).getD 9 0) i =
  some ((orderP T i).1, (orderP T i).2.map strOfNums) := by
 have := order_l0 h i 6 0 K ([i], [[]]) (OrdW.start h0 h1) (by omega) (by omega)
 unfold c_table_order.f orderP
 rw [← this]
 rfl
theorem pushW_nil (c : Int) : pushW [] c = [c] := by unfold pushW; rw [if_neg (by simp)]; rfl
theorem pushW_last (v : List Int) (x c : Int) : pushW (v ++ [x]) c = if x = invI c then v else v ++ [x, c] := by
 have hr : rd (v ++ [x]) (((v ++ [x]).length : Int) - 1) = x := by
  unfold rd
  rw [show (((v ++ [x]).length : Int) - 1).toNat = v.length from by simp]
  exact getD_append_len _ _ _
 unfold pushW
 rw [hr]
 by_cases e : x = invI c
 ·rw [if_pos ⟨by simp, e⟩, if_pos e]; simp
 ·rw [if_neg (fun h => e h.2), if_neg e]; simp
theorem list_last {α : Type} (u : List α) (h : u ≠ []) : ∃ v x, u = v ++ [x] := ⟨u.dropLast, u.getLast h, (List.dropLast_concat_getLast h).symm⟩
theorem redW_snoc (a b : List Int) (c : Int) : redW a (b ++ [c]) = pushW (redW a b) c := by unfold redW; rw [List.foldl_append]; rfl
theorem Red.init {g : Nat} {v : List Int} {x : Int} (h : Red g (v ++ [x])) : Red g v := by
 refine ⟨fun c hc => h.let_ c (by simp [hc]), ?_⟩
 have := redW_take v.length h.red (by simp)
 simpa using this
theorem Red.nil (g : Nat) : Red g [] := ⟨by simp, rfl⟩
theorem Red.pushed {g : Nat} {u : List Int} (h : Red g u) {c : Int} (hc : letG g c) : Red g (pushW u c) := by
 by_cases hu : u = []
 ·subst hu
  rw [pushW_nil]
  exact ⟨by simpa using hc, by show pushW [] c = _; rw [pushW_nil]⟩
 obtain ⟨v, x, rfl⟩ := list_last u hu
 by_cases e : x = invI c
 ·rw [pushW_last, if_pos e]; exact h.init
 have hp : pushW (v ++ [x]) c = v ++ [x] ++ [c] := by rw [pushW_last, if_neg e]; simp
 rw [hp]
 refine ⟨fun y hy => ?_, ?_⟩
 ·rcases List.mem_append.1 hy with hy | hy
  ·exact h.let_ y hy
  ·rw [List.mem_singleton.1 hy]; exact hc
 ·rw [redW_snoc, h.red, hp]
theorem Red.all {g : Nat} : ∀ (w u : List Int), Red g u → (∀ c ∈ w, letG g c) → Red g (redW u w)
 | [], u, h, _ => h
 | c :: w, u, h, hw => Red.all w (pushW u c) (h.pushed (hw c (by simp))) (fun x hx => hw x (by simp [hx]))
def invW (w : List Int) : List Int := (w.reverse).map invI
theorem invW_let {g : Nat} {w : List Int} (hw : ∀ c ∈ w, letG g c) : ∀ c ∈ invW w, letG g c := by
 intro c hc
 obtain ⟨x, hx, rfl⟩ := List.mem_map.1 hc
 exact invI_let (hw x (List.mem_reverse.1 hx))
theorem invW_cons (c : Int) (w : List Int) : invW (c :: w) = invW w ++ [invI c] := by simp [invW]
theorem strBytes_inj {s t : ByteArray} (h : strBytes s = strBytes t) : s = t := by
 unfold strBytes at h
 have h1 : s.data.toList = t.data.toList := by
  apply List.map_inj_right (f := fun b : UInt8 => (b.toNat : Int)) (fun a b e => by
   apply UInt8.toNat_inj.1
   have e' : (a.toNat : Int) = (b.toNat : Int) := e
   omega) |>.1 h
 have h2 : s.data = t.data := by rw [← Array.toList_inj]; exact h1
 cases s; cases t; simp_all
theorem strBytes_append (s t : ByteArray) : strBytes (s ++ t) = strBytes s ++ strBytes t := by simp [strBytes]
theorem strOfNums_append (u v : List Int) (hu : ∀ c ∈ u, letC c) (hv : ∀ c ∈ v, letC c) : strOfNums u ++ strOfNums v = strOfNums (u ++ v) := by
 apply strBytes_inj
 rw [strBytes_append, strBytes_strOfNums u hu, strBytes_strOfNums v hv, strBytes_strOfNums (u ++ v) (fun c hc => by
  rcases List.mem_append.1 hc with h | h
  ·exact hu c h
  ·exact hv c h)]
theorem follow_inv {T : List (List Int)} (h : Tab T) : ∀ (w : List Int) (i : Int), 0 ≤ i → i < nT T → (∀ c ∈ w, letG T.length c) → followT T (followT T i w) (invW w) = i
 | [], i, _, _, _ => rfl
 | c :: w, i, h0, h1, hw => by
  have hc := hw c (by simp)
  have hr := stepT_range h h0 h1 hc
  rw [invW_cons, followT_append]
  show stepT T (followT T (followT T (stepT T i c) w) (invW w)) (invI c) = i
  rw [follow_inv h w (stepT T i c) hr.1 hr.2 (fun x hx => hw x (by simp [hx])), stepT_inv h h0 h1 hc]
def idL (d : Nat) : List Int := (List.range d).map fun (n : Nat) => (n : Int)
theorem idL_len (d : Nat) : (idL d).length = d := by simp [idL]
theorem idL_rd (d i : Nat) (h : i < d) : rd (idL d) (i : Int) = (i : Int) := by simp [rd, idL, List.getD, h]
theorem idL_mem (d : Nat) (x : Int) : x ∈ idL d ↔ 0 ≤ x ∧ x < d := by
 simp only [idL, List.mem_map, List.mem_range]
 constructor
 ·rintro ⟨n, h, rfl⟩; omega
 ·rintro ⟨h0, h1⟩; exact ⟨x.toNat, by omega, by omega⟩
theorem less_f (a b : Int) : cmp_Less_int.f a b = some (decide (a < b)) := by
 unfold cmp_Less_int.f cmp_isNaN_int.f
 simp
def sortedP (l : List Int) : Prop := ∀ i : Nat, i + 1 < l.length → rd l (i : Int) ≤ rd l ((i + 1 : Nat) : Int)
theorem isSorted_l0 (l : List Int) (hl : l.length ≤ 1000) : ∀ (m k : Nat), m < l.length → m < k →
  ∃ b : Bool, sl_IsSorted_int_int.l0 k l (m : Int) = some b ∧ (b = true ↔ ∀ i : Nat, i < m → rd l (i : Int) ≤ rd l ((i + 1 : Nat) : Int))
 | 0, k, h, hk => by
  obtain ⟨k, rfl⟩ : ∃ q, k = q + 1 := ⟨k - 1, by omega⟩
  refine ⟨true, ?_, by simp⟩
  simp only [sl_IsSorted_int_int.l0]
  rw [if_neg (by omega)]
 | m + 1, k, h, hk => by
  obtain ⟨k, rfl⟩ : ∃ q, k = q + 1 := ⟨k - 1, by omega⟩
  simp only [sl_IsSorted_int_int.l0]
  rw [wrapN (((m + 1 : Nat) : Int) - 1) (by omega) (by omega), show ((m + 1 : Nat) : Int) - 1 = (m : Int) from by omega, if_pos (by omega), if_pos (by omega), if_pos (by omega), if_pos (by omega), if_pos (by omega), less_f]
  simp only [Option.bind_some, decide_eq_true_eq]
  obtain ⟨b, hb, ib⟩ := isSorted_l0 l hl m k (by omega) (by omega)
  by_cases hlt : rd l ((m + 1 : Nat) : Int) < rd l (m : Int)
  ·rw [if_pos hlt]
   exact ⟨false, rfl, by simp, fun hh => by have := hh m (by omega); omega⟩
  rw [if_neg hlt]
  refine ⟨b, hb, ?_⟩
  rw [ib]
  constructor
  ·intro hh i hi
   by_cases e : i = m
   ·rw [e]; omega
   ·exact hh i (by omega)
  ·exact fun hh i hi => hh i (by omega)
theorem isSorted_f (l : List Int) (hl : l.length ≤ 1000) (h0 : 0 < l.length) (k : Nat) (hk : l.length ≤ k) :
  ∃ b : Bool, sl_IsSorted_int_int.f k l = some b ∧ (b = true ↔ sortedP l) := by
 obtain ⟨b, hb, ib⟩ := isSorted_l0 l hl (l.length - 1) k (by omega) (by omega)
 refine ⟨b, ?_, ?_⟩
 ·unfold sl_IsSorted_int_int.f
  rw [wrapN _ (by omega) (by omega), show (l.length : Int) - 1 = ((l.length - 1 : Nat) : Int) from by omega]
  exact hb
 ·rw [ib]
  exact ⟨fun h i hi => h i (by omega), fun h i hi => h i (by omega)⟩
theorem sorted_id {d : Nat} {l : List Int} (hn : l.Nodup) (hr : ∀ x ∈ l, 0 ≤ x ∧ x < d) (hl : l.length = d) : sortedP l ↔ l = idL d := by
 constructor
 ·intro hs
  have hne : ∀ i : Nat, i + 1 < l.length → rd l (i : Int) < rd l ((i + 1 : Nat) : Int) := by
   intro i hi
   have h1 := hs i hi
   have h2 : rd l (i : Int) ≠ rd l ((i + 1 : Nat) : Int) := by
    rw [List.nodup_iff_pairwise_ne, List.pairwise_iff_getElem] at hn
    have := hn i (i + 1) (by omega) hi (by omega)
    simpa [rd, hi, show i < l.length by omega] using this
   omega
  have lo : ∀ i : Nat, i < l.length → (i : Int) ≤ rd l (i : Int) := by
   intro i
   induction i with
   | zero => intro h; have := hr _ (rd_mem l 0 h); omega
   | succ i ih => intro h; have := ih (by omega); have := hne i h; omega
  have hi : ∀ m i : Nat, i + m + 1 = l.length → rd l (i : Int) ≤ (i : Int) := by
   intro m
   induction m with
   | zero => intro i h; have := hr _ (rd_mem l i (by omega)); omega
   | succ m ih => intro i h; have := ih (i + 1) (by omega); have := hne i (by omega); omega
  apply List.ext_getElem
  ·rw [idL_len, hl]
  ·intro i h1 h2
   have a := lo i h1
   have b := hi (l.length - 1 - i) i (by omega)
   have e1 : rd l (i : Int) = l[i] := by simp [rd, h1]
   have e2 : (idL d)[i] = (i : Int) := by simp [idL]
   rw [e2, ← e1]
   omega
 ·rintro rfl
  intro i hi
  rw [idL_len] at hi
  rw [idL_rd d i (by omega), idL_rd d (i + 1) hi]
  omega
def stdT (T : List (List Int)) : Prop := (orderP T 0).1 = idL (nT T)
theorem isStandard_f {T : List (List Int)} (h : Tab T) (K : Nat) (hK : 200 ≤ K) :
  c_table_isStandard.f K (T.length : Int) ((rd_L1 T 0).length : Int) ((tabL T).getD 0 0) ((tabL T).getD 1 0) ((tabL T).getD 2 0) ((tabL T).getD 3 0) ((tabL T).getD 4 0) ((tabL T).getD 5 0) ((tabL T).getD 6 0) ((tabL T).getD 7 0) ((tabL T).getD 8 0) ((tabL T).getD 9 0) =
  some (decide ((orderP T 0).1 = idL (nT T))) := by
 have hd1 := h.d1
 have hd5 := h.d5
 have hW := orderP_W h (show (0 : Int) ≤ 0 by omega) (by omega)
 unfold c_table_isStandard.f
 rw [order_f h (by omega) (by omega) K hK]
 simp only [Option.bind_some]
 by_cases hl : (orderP T 0).1.length = nT T
 rotate_left
 ·have hne : ¬ (((orderP T 0).1.length : Int) = ((rd_L1 T 0).length : Int)) := fun e => hl (by unfold nT; omega)
  rw [if_neg hne]
  rw [decide_eq_false (fun e => hl (by rw [e, idL_len]))]
 rw [if_pos (by rw [hl]; rfl)]
 obtain ⟨b, hb, ib⟩ := isSorted_f (orderP T 0).1 (by omega) hW.pos K (by omega)
 rw [hb]
 simp only [Option.bind_some]
 congr 1
 rw [Bool.eq_iff_iff, ib, decide_eq_true_eq]
 exact sorted_id hW.nodup hW.rng hl
theorem ordIn_app (T : List (List Int)) (k : Nat) : ∀ (L : List Int) (s : List Int × List (List Int)), ∃ t, (ordIn T k L s).1 = s.1 ++ t
 | [], s => ⟨[], by simp [ordIn]⟩
 | c :: L, s => by
  unfold ordIn
  split
  ·exact ordIn_app T k L s
  ·obtain ⟨t, ht⟩ := ordIn_app T k L (s.1 ++ [stepT T (rd s.1 (k : Int)) c], s.2 ++ [pushW (s.2.getD k []) c])
   exact ⟨_, by rw [ht, List.append_assoc]⟩
theorem ordOut_app (T : List (List Int)) (L : List Int) : ∀ (f k : Nat) (s : List Int × List (List Int)), ∃ t, (ordOut T L f k s).1 = s.1 ++ t
 | 0, k, s => ⟨[], by simp [ordOut]⟩
 | f + 1, k, s => by
  unfold ordOut
  split
  ·obtain ⟨t, ht⟩ := ordIn_app T k L s
   obtain ⟨u, hu⟩ := ordOut_app T L f (k + 1) (ordIn T k L s)
   exact ⟨t ++ u, by rw [hu, ht, List.append_assoc]⟩
  ·exact ⟨[], by simp⟩
end Go.Proofs.Ytifkldehbaphgaa.PAll
end
section
namespace Go.Proofs.Ytifkldehbaphgaa.PAll
open Go.RowKit Go.PW.PrintWords Go.PW.PrintLast Go.PW.PrintMore
theorem lettersG_mem {g : Nat} (hg : g = 1 ∨ g = 2) {c : Int} (h : letG g c) : c ∈ lettersG g := by
 unfold letG at h
 unfold lettersG
 rcases hg with rfl | rfl
 ·simp; omega
 ·simp; omega
theorem ordIn_has (T : List (List Int)) (k : Nat) : ∀ (L : List Int) (s : List Int × List (List Int)), k < s.1.length → ∀ c ∈ L, stepT T (rd s.1 (k : Int)) c ∈ (ordIn T k L s).1
 | x :: L, s, hk, c, hc => by
  unfold ordIn
  by_cases hm : stepT T (rd s.1 (k : Int)) x ∈ s.1
  ·rw [if_pos hm]
   rcases List.mem_cons.1 hc with rfl | hc
   ·obtain ⟨t, ht⟩ := ordIn_app T k L s
    rw [ht]
    exact List.mem_append.2 (Or.inl hm)
   ·exact ordIn_has T k L s hk c hc
  rw [if_neg hm]
  obtain ⟨t, ht⟩ := ordIn_app T k L (s.1 ++ [stepT T (rd s.1 (k : Int)) x], s.2 ++ [pushW (s.2.getD k []) x])
  rcases List.mem_cons.1 hc with rfl | hc
  ·rw [ht]
   simp
  ·have := ordIn_has T k L (s.1 ++ [stepT T (rd s.1 (k : Int)) x], s.2 ++ [pushW (s.2.getD k []) x]) (by simp; omega) c hc
   simp only at this
   rwa [rd_append_left _ _ _ hk] at this
def closedTo (T : List (List Int)) (L : List Int) (k : Nat) (l : List Int) : Prop := ∀ j : Nat, j < k → j < l.length → ∀ c ∈ L, stepT T (rd l (j : Int)) c ∈ l
theorem ordOut_closed {T : List (List Int)} (h : Tab T) {i : Int} {L : List Int} (hL : ∀ c ∈ L, letG T.length c) : ∀ (f k : Nat) (s : List Int × List (List Int)), OrdW T i s → k + f = 6 → closedTo T L k s.1 → closedTo T L 6 (ordOut T L f k s).1
 | 0, k, s, hs, hk, hc => by
  obtain rfl : k = 6 := by omega
  exact hc
 | f + 1, k, s, hs, hk, hc => by
  unfold ordOut
  by_cases hlt : k < s.1.length
  rotate_left
  ·rw [if_neg hlt]
   exact fun j _ hjl c hcL => hc j (by omega) hjl c hcL
  rw [if_pos hlt]
  refine ordOut_closed h hL f (k + 1) _ (ordIn_W h L s hs hlt hL).1 (by omega) ?_
  obtain ⟨t, ht⟩ := ordIn_app T k L s
  intro j hj hjl c hcL
  by_cases e : j = k
  ·subst e
   rw [show rd (ordIn T j L s).1 (j : Int) = rd s.1 (j : Int) from by rw [ht, rd_append_left _ _ _ hlt]]
   exact ordIn_has T j L s hlt c hcL
  ·have hj2 : j < s.1.length := by omega
   rw [show rd (ordIn T k L s).1 (j : Int) = rd s.1 (j : Int) from by rw [ht, rd_append_left _ _ _ hj2], ht]
   exact List.mem_append.2 (Or.inl (hc j (by omega) hj2 c hcL))
theorem mem_rd {l : List Int} {x : Int} (h : x ∈ l) : ∃ j : Nat, j < l.length ∧ rd l (j : Int) = x := by
 obtain ⟨j, hj, rfl⟩ := List.getElem_of_mem h
 exact ⟨j, hj, by simp [rd, hj]⟩
section
variable {T : List (List Int)} (h : Tab T)
include h
theorem Tab.g12 : T.length = 1 ∨ T.length = 2 := by have := h.g1; have := h.g2; omega
theorem orderP_step {i : Int} (h0 : 0 ≤ i) (h1 : i < nT T) {x c : Int} (hx : x ∈ (orderP T i).1) (hc : letG T.length c) : stepT T x c ∈ (orderP T i).1 := by
 have hcl := ordOut_closed h (lettersG_let h.g12) 6 0 _ (OrdW.start h0 h1) (by omega) (fun j hj => by omega)
 obtain ⟨j, hj, rfl⟩ := mem_rd hx
 have hle := (orderP_W h h0 h1).le
 have := h.d5
 exact hcl j (by omega) hj c (lettersG_mem h.g12 hc)
theorem orderP_follow {i : Int} (h0 : 0 ≤ i) (h1 : i < nT T) : ∀ (w : List Int) {x : Int}, x ∈ (orderP T i).1 → (∀ c ∈ w, letG T.length c) → followT T x w ∈ (orderP T i).1
 | [], _, hx, _ => hx
 | c :: w, x, hx, hw => orderP_follow h0 h1 w (orderP_step h h0 h1 hx (hw c (by simp))) (fun y hy => hw y (by simp [hy]))
theorem orderP_head (i : Int) : ∃ t, (orderP T i).1 = i :: t := by
 obtain ⟨t, ht⟩ := ordOut_app T (lettersG T.length) 6 0 ([i], [[]])
 exact ⟨t, ht⟩
theorem orderP_self (i : Int) : i ∈ (orderP T i).1 := by
 obtain ⟨t, ht⟩ := orderP_head h i
 rw [ht]; simp
def connT (T : List (List Int)) : Prop := (orderP T 0).1.length = nT T
omit h in
theorem nodup_ge : ∀ (n : Nat) (l : List Int), (∀ i : Int, 0 ≤ i → i < n → i ∈ l) → n ≤ l.length
 | 0, _, _ => by omega
 | n + 1, l, hl => by
  have hm := hl (n : Int) (by omega) (by omega)
  have := nodup_ge n (l.erase (n : Int)) (fun i h0 h1 => (List.mem_erase_of_ne (by omega)).2 (hl i h0 (by omega)))
  have := List.length_erase_of_mem hm
  have : 0 < l.length := List.length_pos_of_mem hm
  omega
theorem conn_all (hc : connT T) {i : Int} (h0 : 0 ≤ i) (h1 : i < nT T) : (orderP T i).1.length = nT T ∧ ∀ x : Int, 0 ≤ x → x < nT T → x ∈ (orderP T i).1 := by
 have hd1 := h.d1
 have z1 : (0 : Int) < nT T := by omega
 have hW0 := orderP_W h (show (0 : Int) ≤ 0 by omega) z1
 have hWi := orderP_W h h0 h1
 have hall : ∀ x : Int, 0 ≤ x → x < nT T → ∃ w, (∀ c ∈ w, letG T.length c) ∧ followT T 0 w = x := by
  intro x hx0 hx1
  have hm := nodup_all (nT T) (orderP T 0).1 hW0.nodup hW0.rng hc x hx0 hx1
  obtain ⟨j, hj, e⟩ := mem_rd hm
  have hj2 : j < (orderP T 0).2.length := by rw [hW0.len]; exact hj
  exact ⟨_, (hW0.red _ (getD_mem _ [] j hj2)).1.let_, (hW0.way j hj).trans e⟩
 have hx : ∀ x : Int, 0 ≤ x → x < nT T → x ∈ (orderP T i).1 := by
  intro x hx0 hx1
  obtain ⟨u, hu, eu⟩ := hall i h0 h1
  obtain ⟨v, hv, ev⟩ := hall x hx0 hx1
  have hz := follow_inv h u 0 (by omega) z1 hu
  rw [eu] at hz
  have := orderP_follow h h0 h1 (invW u) (orderP_self h i) (invW_let hu)
  rw [hz] at this
  have := orderP_follow h h0 h1 v this hv
  rwa [ev] at this
 refine ⟨?_, hx⟩
 have := nodup_ge (nT T) _ hx
 have := hWi.le
 omega
end
section
variable {T T' : List (List Int)} (φ : Int → Int) (d : Nat)
variable (hinj : ∀ x y : Int, 0 ≤ x → x < d → 0 ≤ y → y < d → φ x = φ y → x = y)
variable (hstep : ∀ x c : Int, 0 ≤ x → x < d → letG T.length c → stepT T' (φ x) c = φ (stepT T x c))
include hinj hstep
theorem mem_map_inj {l : List Int} (hl : ∀ x ∈ l, 0 ≤ x ∧ x < d) {x : Int} (h0 : 0 ≤ x) (h1 : x < d) : φ x ∈ l.map φ ↔ x ∈ l := by
 constructor
 ·intro hm
  obtain ⟨y, hy, e⟩ := List.mem_map.1 hm
  have := hl y hy
  rw [← hinj y x this.1 this.2 h0 h1 e]
  exact hy
 ·exact fun hm => List.mem_map.2 ⟨x, hm, rfl⟩
theorem ordIn_map (h : Tab T) (hd : nT T = d) {i : Int} {k : Nat} : ∀ (L : List Int) (s : List Int × List (List Int)), OrdW T i s → k < s.1.length → (∀ c ∈ L, letG T.length c) →
  ordIn T' k L (s.1.map φ, s.2) = ((ordIn T k L s).1.map φ, (ordIn T k L s).2)
 | [], s, _, _, _ => rfl
 | c :: L, s, hs, hk, hL => by
  have hc := hL c (by simp)
  have hrk := hs.rng _ (rd_mem s.1 k hk)
  have hst := stepT_range h hrk.1 hrk.2 hc
  have hr : rd (s.1.map φ) (k : Int) = φ (rd s.1 (k : Int)) := by simp [rd, hk]
  have hrng : ∀ x ∈ s.1, 0 ≤ x ∧ x < d := by rw [← hd]; exact hs.rng
  unfold ordIn
  simp only [hr]
  rw [hstep _ c hrk.1 (by omega) hc]
  by_cases hm : stepT T (rd s.1 (k : Int)) c ∈ s.1
  ·rw [if_pos ((mem_map_inj φ d hinj hstep hrng hst.1 (by omega)).2 hm), if_pos hm]
   exact ordIn_map h hd L s hs hk (fun x hx => hL x (by simp [hx]))
  ·rw [if_neg (fun e => hm ((mem_map_inj φ d hinj hstep hrng hst.1 (by omega)).1 e)), if_neg hm]
   have := ordIn_map h hd L (s.1 ++ [stepT T (rd s.1 (k : Int)) c], s.2 ++ [pushW (s.2.getD k []) c]) (hs.new h hk hc hm).1 (by show k < (s.1 ++ [_]).length; rw [List.length_append]; omega) (fun x hx => hL x (by simp [hx]))
   simpa using this
theorem ordOut_map (h : Tab T) (hd : nT T = d) {i : Int} {L : List Int} (hL : ∀ c ∈ L, letG T.length c) : ∀ (f k : Nat) (s : List Int × List (List Int)), OrdW T i s →
  ordOut T' L f k (s.1.map φ, s.2) = ((ordOut T L f k s).1.map φ, (ordOut T L f k s).2)
 | 0, _, _, _ => rfl
 | f + 1, k, s, hs => by
  unfold ordOut
  simp only [List.length_map]
  by_cases hk : k < s.1.length
  ·rw [if_pos hk, if_pos hk, ordIn_map φ d hinj hstep h hd L s hs hk hL]
   exact ordOut_map h hd hL f (k + 1) _ (ordIn_W h L s hs hk hL).1
  ·rw [if_neg hk, if_neg hk]
theorem orderP_map (h : Tab T) (hd : nT T = d) (hl : T'.length = T.length) {i : Int} (h0 : 0 ≤ i) (h1 : i < d) : orderP T' (φ i) = ((orderP T i).1.map φ, (orderP T i).2) := by
 have := ordOut_map φ d hinj hstep h hd (lettersG_let h.g12) 6 0 ([i], [[]]) (OrdW.start h0 (by omega))
 unfold orderP
 rw [hl, ← this]
 rfl
end
def renC (l c : List Int) : List Int := l.map fun s => idxL (rd c s) l 0
def renT (T : List (List Int)) (i : Int) : List (List Int) := T.map (renC (orderP T i).1)
theorem renT_len (T : List (List Int)) (i : Int) : (renT T i).length = T.length := by simp [renT]
theorem renT_col (T : List (List Int)) (i : Int) (k : Nat) (hk : k < T.length) : rd_L1 (renT T i) (k : Int) = renC (orderP T i).1 (rd_L1 T (k : Int)) := by
 simp [rd_L1, renT, hk]
theorem idxL_inj {l : List Int} {x y : Int} (hx : x ∈ l) (hy : y ∈ l) (e : idxL x l 0 = idxL y l 0) : x = y := by
 rw [← idxL_get x l hx, e, idxL_get y l hy]
theorem renC_perm {d : Nat} {l c : List Int} (hl : Perm d l) (hc : Perm d c) : Perm d (renC l c) := by
 have hin : ∀ s ∈ l, rd c s ∈ l := fun s hs => by
  have := hc.get s (hl.lo s hs) (hl.hi s hs)
  exact hl.mem _ this.1 this.2
 refine ⟨by simp [renC, hl.len], ?_, ?_, ?_⟩
 ·intro x hx
  obtain ⟨s, hs, rfl⟩ := List.mem_map.1 hx
  exact (idxL_range (hin s hs)).1
 ·intro x hx
  obtain ⟨s, hs, rfl⟩ := List.mem_map.1 hx
  have := (idxL_range (hin s hs)).2
  rwa [hl.len] at this
 ·have hn := hl.nodup
  unfold renC
  rw [List.nodup_iff_pairwise_ne] at hn ⊢
  rw [List.pairwise_map]
  refine List.Pairwise.imp_of_mem ?_ hn
  intro a b ha hb hne e
  apply hne
  have h1 := idxL_inj (hin a ha) (hin b hb) e
  have h2 := idxL_rd c a.toNat hc.nodup (by have := hl.hi a ha; have := hl.lo a ha; rw [hc.len]; omega)
  have h3 := idxL_rd c b.toNat hc.nodup (by have := hl.hi b hb; have := hl.lo b hb; rw [hc.len]; omega)
  rw [Int.toNat_of_nonneg (hl.lo a ha)] at h2
  rw [Int.toNat_of_nonneg (hl.lo b hb)] at h3
  rw [← h2, ← h3, h1]
theorem renC_rd {l c : List Int} {x : Int} (hx : x ∈ l) : rd (renC l c) (idxL x l 0) = idxL (rd c x) l 0 := by
 have hr := idxL_range hx
 have hg := idxL_get x l hx
 have hlt : (idxL x l 0).toNat < l.length := by omega
 have e1 : rd (renC l c) (idxL x l 0) = idxL (rd c (l[(idxL x l 0).toNat]'hlt)) l 0 := by simp [rd, renC, hlt]
 have e2 : l[(idxL x l 0).toNat]'hlt = x := by simpa [rd, hlt] using hg
 rw [e1, e2]
theorem renC_idx {d : Nat} {l c : List Int} (hl : Perm d l) (hc : Perm d c) {x : Int} (hx : x ∈ l) : idxL (idxL x l 0) (renC l c) 0 = idxL (idxL x c 0) l 0 := by
 have hxc := hc.mem x (hl.lo x hx) (hl.hi x hx)
 have hy := idxL_range hxc
 have hg := idxL_get x c hxc
 have hym : idxL x c 0 ∈ l := hl.mem _ hy.1 (by rw [hc.len] at hy; exact hy.2)
 have h1 := renC_rd (c := c) hym
 rw [hg] at h1
 have hyl := idxL_range hym
 have h2 := idxL_rd (renC l c) (idxL (idxL x c 0) l 0).toNat (renC_perm hl hc).nodup (by simp [renC]; omega)
 rw [Int.toNat_of_nonneg hyl.1] at h2
 rw [← h1]
 exact h2
section
variable {T : List (List Int)} (h : Tab T) (hc : connT T)
include h hc
theorem conn_perm {i : Int} (h0 : 0 ≤ i) (h1 : i < nT T) : Perm (nT T) (orderP T i).1 := by
 have hW := orderP_W h h0 h1
 exact ⟨(conn_all h hc h0 h1).1, fun x hx => (hW.rng x hx).1, fun x hx => (hW.rng x hx).2, hW.nodup⟩
theorem renT_nT {i : Int} (h0 : 0 ≤ i) (h1 : i < nT T) : nT (renT T i) = nT T := by
 have := renT_col T i 0 h.g1
 unfold nT
 rw [show ((0 : Nat) : Int) = 0 from rfl] at this
 rw [this]
 simp [renC, (conn_perm h hc h0 h1).len]
 rfl
theorem renT_tab {i : Int} (h0 : 0 ≤ i) (h1 : i < nT T) : Tab (renT T i) := by
 have hn := renT_nT h hc h0 h1
 refine ⟨by rw [renT_len]; exact h.g1, by rw [renT_len]; exact h.g2, by rw [hn]; exact h.d1, by rw [hn]; exact h.d5, fun k hk => ?_⟩
 rw [renT_len] at hk
 rw [hn, renT_col T i k hk]
 exact renC_perm (conn_perm h hc h0 h1) (h.col k hk)
theorem renT_step {i : Int} (h0 : 0 ≤ i) (h1 : i < nT T) (x c : Int) (hx0 : 0 ≤ x) (hx1 : x < nT T) (hl : letG T.length c) :
  stepT (renT T i) (idxL x (orderP T i).1 0) c = idxL (stepT T x c) (orderP T i).1 0 := by
 have hP := conn_perm h hc h0 h1
 have hx := hP.mem x hx0 hx1
 have r0 := renT_col T i 0 h.g1
 rw [show ((0 : Nat) : Int) = 0 from rfl] at r0
 rcases hl with rfl | rfl | ⟨h2, rfl | rfl⟩
 ·rw [stepT_97, stepT_97, r0, renC_rd hx]
 ·rw [stepT_65, stepT_65, r0, renC_idx hP h.c0 hx]
 ·have r1 := renT_col T i 1 (by omega)
  rw [show ((1 : Nat) : Int) = 1 from rfl] at r1
  rw [stepT_98, stepT_98, r1, renC_rd hx]
 ·have r1 := renT_col T i 1 (by omega)
  rw [show ((1 : Nat) : Int) = 1 from rfl] at r1
  rw [stepT_66, stepT_66, r1, renC_idx hP (h.c1 h2) hx]
theorem renT_order {i j : Int} (h0 : 0 ≤ i) (h1 : i < nT T) (j0 : 0 ≤ j) (j1 : j < nT T) :
  orderP (renT T i) (idxL j (orderP T i).1 0) = ((orderP T j).1.map (fun x => idxL x (orderP T i).1 0), (orderP T j).2) := by
 have hP := conn_perm h hc h0 h1
 refine orderP_map (fun x => idxL x (orderP T i).1 0) (nT T) ?_ ?_ h rfl (renT_len T i) j0 j1
 ·exact fun x y hx0 hx1 hy0 hy1 e => idxL_inj (hP.mem x hx0 hx1) (hP.mem y hy0 hy1) e
 ·exact fun x c hx0 hx1 hl => renT_step h hc h0 h1 x c hx0 hx1 hl
omit h hc in
theorem map_idx_self {l : List Int} (hn : l.Nodup) : l.map (fun x => idxL x l 0) = idL l.length := by
 apply List.ext_getElem
 ·simp [idL]
 ·intro n h1 h2
  have hl : n < l.length := by simpa using h1
  have := idxL_rd l n hn hl
  have e : rd l (n : Int) = l[n] := by simp [rd, hl]
  rw [e] at this
  simp [idL, this]
theorem idx_start {i : Int} : idxL i (orderP T i).1 0 = 0 := by
 obtain ⟨t, ht⟩ := orderP_head h i
 rw [ht]; simp [idxL]
theorem renT_std {i : Int} (h0 : 0 ≤ i) (h1 : i < nT T) : stdT (renT T i) ∧ (orderP (renT T i) 0).2 = (orderP T i).2 := by
 have ho := renT_order h hc h0 h1 h0 h1
 rw [idx_start h hc] at ho
 have hP := conn_perm h hc h0 h1
 unfold stdT
 rw [ho, renT_nT h hc h0 h1, map_idx_self hP.nodup, hP.len]
 exact ⟨rfl, rfl⟩
end
theorem std_conn {T : List (List Int)} (hs : stdT T) : connT T := by unfold stdT at hs; unfold connT; rw [hs, idL_len]
end Go.Proofs.Ytifkldehbaphgaa.PAll
end
section
namespace Go.Proofs.Ytifkldehbaphgaa.PAll
open Go.RowKit Go.PW.PrintWords Go.PW.PrintLast Go.PW.PrintMore
abbrev Pr := Int × Int
def idxP (x : Pr) : List Pr → Nat
 | [] => 0
 | y :: l => if y = x then 0 else idxP x l + 1
theorem idxP_lt {x : Pr} : ∀ {l : List Pr}, x ∈ l → idxP x l < l.length
 | y :: l, h => by
  unfold idxP
  by_cases e : y = x
  ·rw [if_pos e]; simp
  ·rw [if_neg e]
   have := idxP_lt (x := x) (l := l) ((List.mem_cons.1 h).resolve_left (fun h => e h.symm))
   simp only [List.length_cons]; omega
theorem idxP_get {x : Pr} : ∀ {l : List Pr}, x ∈ l → l.getD (idxP x l) (0, 0) = x
 | y :: l, h => by
  unfold idxP
  by_cases e : y = x
  ·rw [if_pos e]; exact e
  ·rw [if_neg e]
   exact idxP_get (x := x) (l := l) ((List.mem_cons.1 h).resolve_left (fun h => e h.symm))
theorem idxP_take {x : Pr} : ∀ {l : List Pr} {j : Nat}, x ∉ l.take j → (h : j < l.length) → l[j] = x → idxP x l = j
 | y :: l, 0, _, _, e => by simp at e; simp [idxP, e]
 | y :: l, j + 1, hn, h, e => by
  simp at e
  simp only [List.take_succ_cons, List.mem_cons, not_or] at hn
  unfold idxP
  rw [if_neg (fun e2 => hn.1 e2.symm), idxP_take hn.2 (by simpa using h) e]
def addP (s : List Pr) (x : Pr) : List Pr := if x ∈ s then s else s ++ [x]
theorem addP_app (s : List Pr) (x : Pr) : ∃ t, addP s x = s ++ t := by
 unfold addP
 split
 ·exact ⟨[], by simp⟩
 ·exact ⟨[x], rfl⟩
theorem addP_mem (s : List Pr) (x : Pr) : x ∈ addP s x := by
 unfold addP
 split <;> simp_all
theorem getD_app {s t : List Pr} {i : Nat} (h : i < s.length) : (s ++ t).getD i (0, 0) = s.getD i (0, 0) := by simp [List.getD, h, List.getElem?_append_left h]
variable (S T : List (List Int))
def stp (p : Pr) (c : Int) : Pr := (stepT S p.1 c, stepT T p.2 c)
def prIn (k : Nat) : List Int → List Pr → List Pr
 | [], s => s
 | c :: cs, s => prIn k cs (addP s (stp S T (s.getD k (0, 0)) c))
def prOut (L : List Int) : Nat → Nat → List Pr → List Pr
 | 0, _, s => s
 | f + 1, k, s => if k < s.length then prOut L f (k + 1) (prIn S T k L s) else s
def meetP : List Pr := prOut S T (lettersG S.length) 26 0 [(0, 0)]
theorem prIn_app (k : Nat) : ∀ (L : List Int) (s : List Pr), ∃ t, prIn S T k L s = s ++ t
 | [], s => ⟨[], by simp [prIn]⟩
 | c :: L, s => by
  obtain ⟨t, ht⟩ := addP_app s (stp S T (s.getD k (0, 0)) c)
  obtain ⟨u, hu⟩ := prIn_app k L (addP s (stp S T (s.getD k (0, 0)) c))
  exact ⟨t ++ u, by unfold prIn; rw [hu, ht, List.append_assoc]⟩
theorem prIn_has (k : Nat) : ∀ (L : List Int) (s : List Pr), k < s.length → ∀ c ∈ L, stp S T (s.getD k (0, 0)) c ∈ prIn S T k L s
 | c :: L, s, hk, d, hd => by
  obtain ⟨t, ht⟩ := addP_app s (stp S T (s.getD k (0, 0)) c)
  obtain ⟨u, hu⟩ := prIn_app S T k L (addP s (stp S T (s.getD k (0, 0)) c))
  unfold prIn
  rcases List.mem_cons.1 hd with rfl | hd
  ·rw [hu]; exact List.mem_append_left _ (addP_mem _ _)
  ·have := prIn_has k L (addP s (stp S T (s.getD k (0, 0)) c)) (by rw [ht, List.length_append]; omega) d hd
   have e : (addP s (stp S T (s.getD k (0, 0)) c)).getD k (0, 0) = s.getD k (0, 0) := by rw [ht]; exact getD_app hk
   rwa [e] at this
structure PrI (s : List Pr) : Prop where
 nodup : s.Nodup
 rng : ∀ x ∈ s, (0 ≤ x.1 ∧ x.1 < nT S) ∧ (0 ≤ x.2 ∧ x.2 < nT T)
 head : ∃ t, s = (0, 0) :: t
 reach : ∀ x ∈ s, ∃ w : List Int, (∀ c ∈ w, letG S.length c) ∧ followT S 0 w = x.1 ∧ followT T 0 w = x.2
variable {S T}
theorem PrI.le' {s : List Pr} (hs : PrI S T s) (hT : 1 ≤ nT T) : s.length ≤ nT S * nT T := by
 have := nodup_len (nT S * nT T) (s.map fun x => x.1 * (nT T : Int) + x.2) (by
  unfold List.Nodup
  rw [List.pairwise_map]
  refine List.Pairwise.imp_of_mem ?_ hs.nodup
  intro x y hx hy hne e
  have h1 := hs.rng x hx
  have h2 := hs.rng y hy
  have e1 : x.1 = y.1 := by
   have a1 : (x.1 * (nT T : Int) + x.2) / (nT T : Int) = x.1 := by rw [Int.add_comm, Int.add_mul_ediv_right _ _ (by omega), Int.ediv_eq_zero_of_lt (by omega) (by omega)]; omega
   have a2 : (y.1 * (nT T : Int) + y.2) / (nT T : Int) = y.1 := by rw [Int.add_comm, Int.add_mul_ediv_right _ _ (by omega), Int.ediv_eq_zero_of_lt (by omega) (by omega)]; omega
   rw [← a1, ← a2, e]
  rw [e1] at e
  exact hne (Prod.ext e1 (by omega))) (by
  intro z hz
  obtain ⟨x, hx, rfl⟩ := List.mem_map.1 hz
  have h1 := hs.rng x hx
  have h2 : x.1 * (nT T : Int) ≤ ((nT S : Int) - 1) * (nT T : Int) := Int.mul_le_mul_of_nonneg_right (by omega) (by omega)
  have h3 : 0 ≤ x.1 * (nT T : Int) := Int.mul_nonneg (by omega) (by omega)
  rw [Int.sub_mul] at h2
  push_cast
  omega)
 simpa using this
theorem PrI.le {s : List Pr} (hs : PrI S T s) (hS : Tab S) (hT : Tab T) : s.length ≤ 25 := by
 have h1 := hs.le' hT.d1
 have h2 : nT S * nT T ≤ 5 * 5 := Nat.mul_le_mul hS.d5 hT.d5
 omega
theorem getD_memP {s : List Pr} {k : Nat} (h : k < s.length) : s.getD k (0, 0) ∈ s := getD_mem s (0, 0) k h
theorem PrI.add (hS : Tab S) (hT : Tab T) (hg : S.length = T.length) {s : List Pr} (hs : PrI S T s) {p : Pr} (hp : p ∈ s) {c : Int} (hc : letG S.length c) : PrI S T (addP s (stp S T p c)) := by
 have h1 := hs.rng p hp
 have r1 := stepT_range hS h1.1.1 h1.1.2 hc
 have r2 := stepT_range hT h1.2.1 h1.2.2 (hg ▸ hc)
 unfold addP
 split
 ·exact hs
 ·rename_i hn
  refine ⟨?_, ?_, ?_, ?_⟩
  ·rw [List.nodup_append]
   refine ⟨hs.nodup, by simp, ?_⟩
   intro a ha b hb
   rw [List.mem_singleton.1 hb]
   exact fun e => hn (e ▸ ha)
  ·intro x hx
   rcases List.mem_append.1 hx with hx | hx
   ·exact hs.rng x hx
   ·rw [List.mem_singleton.1 hx]; exact ⟨r1, r2⟩
  ·obtain ⟨t, rfl⟩ := hs.head; exact ⟨_, rfl⟩
  ·intro x hx
   rcases List.mem_append.1 hx with hx | hx
   ·exact hs.reach x hx
   ·obtain ⟨w, hw, e1, e2⟩ := hs.reach p hp
    rw [List.mem_singleton.1 hx]
    refine ⟨w ++ [c], ?_, ?_, ?_⟩
    ·intro d hd
     rcases List.mem_append.1 hd with hd | hd
     ·exact hw d hd
     ·rw [List.mem_singleton.1 hd]; exact hc
    ·rw [followT_append, e1]; rfl
    ·rw [followT_append, e2]; rfl
theorem PrI.start (hS : Tab S) (hT : Tab T) : PrI S T [(0, 0)] := by
 have := hS.d1
 have := hT.d1
 refine ⟨by simp, ?_, ⟨[], rfl⟩, ?_⟩
 ·intro x hx
  rw [List.mem_singleton.1 hx]
  exact ⟨⟨Int.le_refl _, by show (0 : Int) < _; omega⟩, ⟨Int.le_refl _, by show (0 : Int) < _; omega⟩⟩
 ·intro x hx
  rw [List.mem_singleton.1 hx]
  exact ⟨[], by simp, rfl, rfl⟩
theorem prIn_I (hS : Tab S) (hT : Tab T) (hg : S.length = T.length) {k : Nat} : ∀ (L : List Int) {s : List Pr}, PrI S T s → k < s.length → (∀ c ∈ L, letG S.length c) → PrI S T (prIn S T k L s)
 | [], _, hs, _, _ => hs
 | c :: L, s, hs, hk, hL => by
  obtain ⟨t, ht⟩ := addP_app s (stp S T (s.getD k (0, 0)) c)
  unfold prIn
  exact prIn_I hS hT hg L (hs.add hS hT hg (getD_memP hk) (hL c (by simp))) (by rw [ht, List.length_append]; omega) (fun x hx => hL x (by simp [hx]))
theorem prOut_I (hS : Tab S) (hT : Tab T) (hg : S.length = T.length) {L : List Int} (hL : ∀ c ∈ L, letG S.length c) : ∀ (f k : Nat) {s : List Pr}, PrI S T s → PrI S T (prOut S T L f k s)
 | 0, _, _, hs => hs
 | f + 1, k, s, hs => by
  unfold prOut
  split
  ·rename_i hk
   exact prOut_I hS hT hg hL f (k + 1) (prIn_I hS hT hg L hs hk hL)
  ·exact hs
theorem meetP_I (hS : Tab S) (hT : Tab T) (hg : S.length = T.length) : PrI S T (meetP S T) := prOut_I hS hT hg (lettersG_let hS.g12) 26 0 (PrI.start hS hT)
def clP (S T : List (List Int)) (L : List Int) (k : Nat) (s : List Pr) : Prop := ∀ p ∈ s.take k, ∀ c ∈ L, stp S T p c ∈ s
theorem prIn_cl {L : List Int} {k : Nat} {s : List Pr} (hk : k < s.length) (h : clP S T L k s) : clP S T L (k + 1) (prIn S T k L s) := by
 obtain ⟨t, ht⟩ := prIn_app S T k L s
 have hh := prIn_has S T k L s hk
 intro p hp c hc
 rw [ht, List.take_append_of_le_length (by omega), List.take_succ_eq_append_getElem hk] at hp
 rcases List.mem_append.1 hp with hp | hp
 ·rw [ht]; exact List.mem_append_left _ (h p hp c hc)
 ·have e : s.getD k (0, 0) = s[k] := by simp [List.getD, hk]
  rw [List.mem_singleton.1 hp, ← e]
  exact hh c hc
theorem prOut_cl (hS : Tab S) (hT : Tab T) (hg : S.length = T.length) {L : List Int} (hL : ∀ c ∈ L, letG S.length c) : ∀ (f k : Nat) {s : List Pr}, PrI S T s → clP S T L k s → k + f = 26 → ∀ p ∈ prOut S T L f k s, ∀ c ∈ L, stp S T p c ∈ prOut S T L f k s
 | 0, k, s, hs, h, e => by
  have := hs.le hS hT
  unfold prOut
  intro p hp
  exact h p (by rw [List.take_of_length_le (by omega)]; exact hp)
 | f + 1, k, s, hs, h, e => by
  unfold prOut
  split
  ·rename_i hk
   exact prOut_cl hS hT hg hL f (k + 1) (prIn_I hS hT hg L hs hk hL) (prIn_cl hk h) (by omega)
  ·intro p hp
   exact h p (by rw [List.take_of_length_le (by omega)]; exact hp)
theorem meetP_cl (hS : Tab S) (hT : Tab T) (hg : S.length = T.length) {p : Pr} (hp : p ∈ meetP S T) {c : Int} (hc : letG S.length c) : stp S T p c ∈ meetP S T :=
 prOut_cl hS hT hg (lettersG_let hS.g12) 26 0 (PrI.start hS hT) (by intro p hp; simp at hp) rfl p hp c (lettersG_mem hS.g12 hc)
def cr (S T : List (List Int)) (c : Int) (s : List Pr) (i : Nat) : List Int := (s.take i).map fun p => ((idxP (stp S T p c) s : Nat) : Int)
def colsR (S T : List (List Int)) (g : Nat) (s : List Pr) (i : Nat) : List (List Int) := if g = 1 then [cr S T 97 s i] else [cr S T 97 s i, cr S T 98 s i]
def meetT (S T : List (List Int)) : List (List Int) := colsR S T S.length (meetP S T) (meetP S T).length
theorem cr_succ {c : Int} {s : List Pr} {i : Nat} (hi : i < s.length) : cr S T c s (i + 1) = cr S T c s i ++ [((idxP (stp S T (s.getD i (0, 0)) c) s : Nat) : Int)] := by
 unfold cr
 rw [List.take_succ_eq_append_getElem hi, List.map_append]
 have e : s.getD i (0, 0) = s[i] := by simp [List.getD, hi]
 rw [e]
 rfl
end Go.Proofs.Ytifkldehbaphgaa.PAll
end
