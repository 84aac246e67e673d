/- The law CasingMeeting returns true for every input: what a Meet of two standard tables is. No condition. Part 1 of 4. -/
import Derived.Test.YtifkldehbaphgaaB3
set_option linter.all false
set_option maxHeartbeats 8000000
set_option maxRecDepth 100000
section
namespace Go.Proofs.Ytifkldehbaphgaa.PAll
open Go.RowKit Go.PW.PrintWords Go.PW.PrintLast Go.PW.PrintMore
attribute [local go_sem] max2_int min2_int max_two min_two
def rl_mod.f (a0 : Int) (a1 : Int) : Option (Int) := if (IntKind.u64.wrap (a1)) = 0 then (none) else (some (wrap64 (Int.tmod (IntKind.u64.wrap (a0)) (IntKind.u64.wrap (a1)))))
theorem rl_mod.calls (a0 : Int) (a1 : Int) (r : Int) (w : World) (h : rl_mod.f a0 a1 = some r) :
  Calls Try.prog 16 #[.int .i64 a0, .int .i64 a1] w fun e w' => e = .returned (.int .i64 r) ∧ Drawn0 w w' := by
 have H : (if (IntKind.u64.wrap (a1)) = 0 then (none) else (some (wrap64 (Int.tmod (IntKind.u64.wrap (a0)) (IntKind.u64.wrap (a1)))))) = some r := h
 clear h
 by_cases c3 : (IntKind.u64.wrap (a1)) = 0
 ·rw [if_pos c3] at H
  exact absurd H (by simp)
 rw [if_neg c3] at H
 have c3b0 : ((IntKind.u64.wrap (a1)) == 0) = false := beq_eq_false_iff_ne.mpr c3
 have c3b1 : ((IntKind.u64.wrap (a1)) != 0) = true := bne_iff_ne.mpr c3
 obtain rfl := Option.some.inj H
 go_enter Try.func16, Try.ntmps16
 go_wp2
 go_ret
 exact ⟨by first | rfl | (simp; done) | (simp [*]; done), by repeat (first | exact Drawn0.refl _ | apply Drawn0.step)⟩
def rl_word.l0 : Nat → ByteArray → Int → Int → List Int → Int → Option (ByteArray)
 | 0, _, _, _, _, _ => none
 | k + 1, x0, x1, x2, x7, x8 => if x8 < (x0.size : Int) then (if x8 < x2 then (if 0 ≤ x8 then (if (wrap64 (2 * x1)) = 0 then (none) else (if 0 ≤ (Int.tmod (wrap64 (bt x0 x8)) (wrap64 (2 * x1))) then (if (Int.tmod (wrap64 (bt x0 x8)) (wrap64 (2 * x1))) < 4 then (if x7.length < 140737488355328 then (rl_word.l0 k x0 x1 x2 (x7 ++ [bt (⟨#[97, 65, 98, 66]⟩ : ByteArray) (Int.tmod (wrap64 (bt x0 x8)) (wrap64 (2 * x1)))]) (wrap64 (x8 + 1))) else (none)) else (none)) else (none))) else (none)) else (some (strOfNums x7))) else (some (strOfNums x7))
def rl_word.f (k : Nat) (a0 : ByteArray) (a1 : Int) (a2 : Int) : Option (ByteArray) := rl_word.l0 k a0 a1 a2 ([] : List Int) 0
theorem rl_word.calls (k : Nat) (a0 : ByteArray) (a1 : Int) (a2 : Int) (r : ByteArray) (w : World) (h : rl_word.f k a0 a1 a2 = some r) :
  Calls Try.prog 23 #[.string a0, .int .i64 a1, .int .i64 a2] w fun e w' => e = .returned (.string r) ∧ Below w.heap.size w w' := by
 have HB := a_ (Below.refl w.heap.size w)
 have H : (rl_word.l0 k a0 a1 a2 ([] : List Int) 0) = some r := h
 clear h
 have H' := a_ H
 clear H
 go_enter Try.func23, Try.ntmps23
 go_wp2
 go_loopg [7, 8] k (fun kq v7 v8 w' => ∃ (x7_1 : List Int) (x8_1 : Int), v8 = .int .i64 x8_1 ∧ Aside0 (rl_word.l0 kq a0 a1 a2 x7_1 x8_1 = some r) ∧ Aside0 (kq ≤ k) ∧ Aside0 (Kd.R (Kd.int .u8) 5 w' w.heap.size (fun _ => True) v7 x7_1) ∧ Aside0 (Below w.heap.size w w'))
 case atStart => exact ⟨(([] : List Int)), (0), (by first | rfl | (simp; done) | (simp [*]; done)), H', ⟨Nat.le_refl _⟩, ⟨by first | exact Kd.R_nil _ _ _ _ _ | exact Kd.N_nil _ _ _ _ _ | exact Kd.V_nil _ _ _ _ _ | exact Kd.Q_nil _ _ _ _ _ | exact Kd.S_nil _ _ _ _ _⟩, ⟨by exact gs HB.out⟩⟩
 clear H'
 try clear c2
 try clear p2
 obtain ⟨x7_1, x8_1, rfl, HA, HK1, HO_7, HB⟩ := hrel
 cases gk with
 | zero => exact absurd HA.out (by simp [rl_word.l0])
 | succ k1 =>
  have H := HA.out
  clear HA
  simp only [rl_word.l0] at H
  by_cases c4 : x8_1 < (a0.size : Int)
  rotate_left
  ·rw [if_neg c4] at H
   have c4b0 : decide (x8_1 < (a0.size : Int)) = false := decide_eq_false c4
   clear c4
   obtain rfl := Option.some.inj H
   have hcv16 := own_string (P := Try.prog) Try.underlying86 Try.underlying5 Try.underlying9 (Kd.own_of_R HO_7.out)
   go_wp2
   go_ret
   exact ⟨by first | rfl | (simp [errW_none, errW_some] <;> rfl) | (simp [*, errW_none, errW_some] <;> rfl), by exact gs HB.out⟩
  rw [if_pos c4] at H
  have c4b0 : decide (x8_1 < (a0.size : Int)) = true := decide_eq_true c4
  clear c4
  by_cases c5 : x8_1 < a2
  rotate_left
  ·rw [if_neg c5] at H
   have c5b0 : decide (x8_1 < a2) = false := decide_eq_false c5
   clear c5
   obtain rfl := Option.some.inj H
   have hcv15 := own_string (P := Try.prog) Try.underlying86 Try.underlying5 Try.underlying9 (Kd.own_of_R HO_7.out)
   go_wp2
   go_ret
   exact ⟨by first | rfl | (simp [errW_none, errW_some] <;> rfl) | (simp [*, errW_none, errW_some] <;> rfl), by exact gs HB.out⟩
  rw [if_pos c5] at H
  have c5b0 : decide (x8_1 < a2) = true := decide_eq_true c5
  clear c5
  by_cases c6 : 0 ≤ x8_1
  rotate_left
  ·rw [if_neg c6] at H
   exact absurd H (by simp)
  rw [if_pos c6] at H
  have c6b0 : decide (0 ≤ x8_1) = true := decide_eq_true c6
  clear c6
  by_cases c8 : (wrap64 (2 * a1)) = 0
  ·rw [if_pos c8] at H
   exact absurd H (by simp)
  rw [if_neg c8] at H
  have c8b0 : ((wrap64 (2 * a1)) == 0) = false := beq_eq_false_iff_ne.mpr c8
  have c8b1 : ((wrap64 (2 * a1)) != 0) = true := bne_iff_ne.mpr c8
  obtain ⟨ji9, hji9⟩ : ∃ j_ : Int, (Int.tmod (wrap64 (bt a0 x8_1)) (wrap64 (2 * a1))) = j_ := ⟨_, rfl⟩
  replace H : (if 0 ≤ (ji9) then (if (ji9) < 4 then (if x7_1.length < 140737488355328 then (rl_word.l0 k1 a0 a1 a2 (x7_1 ++ [bt (⟨#[97, 65, 98, 66]⟩ : ByteArray) (ji9)]) (wrap64 (x8_1 + 1))) else (none)) else (none)) else (none)) = some r := by first | (rw [hji9] at H; exact H) | (simp only [hji9] at H ⊢; exact H)
  by_cases c10 : 0 ≤ (ji9)
  rotate_left
  ·rw [if_neg c10] at H
   exact absurd H (by simp)
  rw [if_pos c10] at H
  have c10b0 : decide (0 ≤ (ji9)) = true := decide_eq_true c10
  clear c10
  by_cases c11 : (ji9) < 4
  rotate_left
  ·rw [if_neg c11] at H
   exact absurd H (by simp)
  rw [if_pos c11] at H
  have c11b0 : decide ((ji9) < 4) = true := decide_eq_true c11
  clear c11
  by_cases c13 : x7_1.length < 140737488355328
  rotate_left
  ·rw [if_neg c13] at H
   exact absurd H (by simp)
  rw [if_pos c13] at H
  have LMc13 := a_ c13
  clear c13
  obtain ⟨y378, hy378⟩ : ∃ y_ : List Int, y_ = (x7_1 ++ [bt (⟨#[97, 65, 98, 66]⟩ : ByteArray) (ji9)]) := ⟨_, rfl⟩
  replace H : (rl_word.l0 k1 a0 a1 a2 y378 (wrap64 (x8_1 + 1))) = some r := by first | (rw [hy378]; with_reducible exact H) | (have H2_ := (Option.bind_some _ _).symm.trans H; rw [hy378]; with_reducible exact H2_) | (have H2_ := (Option.bind_some _ _).symm.trans H; with_reducible exact H2_) | with_reducible exact H | (rw [hy378]; exact H) | exact H
  have Ny378 := a_ hy378
  clear hy378
  have H' := a_ H
  clear H
  have p7 : 0 ≤ (x8_1 : Int) := of_decide_eq_true (by first | (with_reducible assumption) | assumption)
  have q7 : x8_1 < (a0.size : Int) := of_decide_eq_true (by first | (with_reducible assumption) | assumption)
  have hx7 := bt_at a0 x8_1
  replace p7 := eq_true p7
  replace q7 := eq_true q7
  have p12 : 0 ≤ ((ji9) : Int) := of_decide_eq_true (by first | (with_reducible assumption) | assumption)
  have q12 : (ji9) < (4 : Int) := of_decide_eq_true (by first | (with_reducible assumption) | assumption)
  have hx12 := bt_at (⟨#[97, 65, 98, 66]⟩ : ByteArray) (ji9)
  replace p12 := eq_true p12
  replace q12 := eq_true q12
  go_wp2_with (first | ((with_reducible refine gate_builtin (b := .append) (xs := #[.tmp 20, .tmp 29]) rfl ?_); at_builtin; refine Kd.R_append (Kd.int .u8) (w0 := w) w.heap.size rfl (.tmp 20) (.tmp 29) 86 5 (.int .u8 0) 1 rfl Try.underlying86 info5 rfl (by decide) (by omega) u7 x7_1 (bt (⟨#[97, 65, 98, 66]⟩ : ByteArray) (ji9)) [.int .u8 (bt (⟨#[97, 65, 98, 66]⟩ : ByteArray) (ji9))] (fun _ => True) (fun _ => False) rfl rfl ?aP (fun _ hk => hk.elim) ?aF ?aO ?aB ?aS ?aL ?_; (case aP => exact rfl); (case aB => exact (gr HB.out)); (case aF => exact (fun _ _ => trivial)); (case aO => exact (by exact rk HO_7.out)); (case aS => exact (bZ_ (gr HB.out))); (case aL => have := LMc13.out; omega); intro v379 w14 ho hb hg hat; rw [← Ny378.out] at ho; have HO380 := a_ (ho); replace HB := a_ (hb); clear HO_7; clear ho hb hg hat))
  go_roundg k1
  case measure => have := HK1.out; omega
  case rel => exact ⟨(y378), (wrap64 (x8_1 + 1)), (by first | rfl | (simp; done) | (simp [*]; done)), H', ⟨by have := HK1.out; omega⟩, ⟨by exact rk HO380.out⟩, ⟨by exact gs HB.out⟩⟩
def rr_letter.j0 : Nat → Int → Int → Bool → Option (Int × Bool × Bool)
 | 0, _, _, _ => none
 | k + 1, x0, x1, x7 => if x7 = true then (some ((x0 - 97) % 256, false, true)) else (if x0 = 65 then (some ((x0 - 65) % 256, true, true)) else (if x0 = 66 then (if x1 = 2 then (some ((x0 - 65) % 256, true, true)) else (some (0, false, false))) else (some (0, false, false))))
def rr_letter.f (k : Nat) (a0 : Int) (a1 : Int) : Option (Int × Bool × Bool) := if a0 = 97 then (rr_letter.j0 k a0 a1 true) else (if a0 = 98 then (rr_letter.j0 k a0 a1 (a1 == 2)) else (rr_letter.j0 k a0 a1 false))
theorem rr_letter.calls (k : Nat) (a0 : Int) (a1 : Int) (r1 : Int) (r2 : Bool) (r3 : Bool) (w : World) (h : rr_letter.f k a0 a1 = some (r1, r2, r3)) :
  Calls Try.prog 56 #[.int .u8 a0, .int .i64 a1] w fun e w' => e = .returned (.tuple #[.int .i64 r1, .bool r2, .bool r3]) ∧ Drawn0 w w' := by
 have H : (if a0 = 97 then (rr_letter.j0 k a0 a1 true) else (if a0 = 98 then (rr_letter.j0 k a0 a1 (a1 == 2)) else (rr_letter.j0 k a0 a1 false))) = some (r1, r2, r3) := h
 clear h
 have HC3 := a_ H
 clear H
 go_enter Try.func56, Try.ntmps56
 go_upto_region 1 with (fail)
 go_cut [7] (fun v7 wc => ∃ (kq : Nat) (x7_2 : Bool), v7 = .bool x7_2 ∧ Aside0 (rr_letter.j0 kq a0 a1 x7_2 = some (r1, r2, r3)) ∧ Aside0 (kq ≤ k) ∧ Drawn0 w wc)
 case first =>
  have H := HC3.out
  clear HC3
  by_cases c4 : a0 = 97
  ·rw [if_pos c4] at H
   have c4b0 : (a0 == 97) = true := beq_iff_eq.mpr c4
   have c4b1 : (a0 != 97) = false := bne_eq_false_iff_eq.mpr c4
   clear c4
   (first | rw [c4b0] | (simp only [i64_w, i32_w]; rw [c4b0]) | skip)
   have H' := a_ H
   clear H
   go_wp2
   go_meet
   case rel => exact ⟨_, (true), (by first | rfl | (simp; done) | (simp [*]; done)), H', ⟨by first | omega | exact Nat.le_refl _⟩, by repeat (first | exact Drawn0.refl _ | apply Drawn0.step)⟩
  rw [if_neg c4] at H
  have c4b0 : (a0 == 97) = false := beq_eq_false_iff_ne.mpr c4
  have c4b1 : (a0 != 97) = true := bne_iff_ne.mpr c4
  (first | rw [c4b0] | (simp only [i64_w, i32_w]; rw [c4b0]) | skip)
  by_cases c5 : a0 = 98
  rotate_left
  ·rw [if_neg c5] at H
   have c5b0 : (a0 == 98) = false := beq_eq_false_iff_ne.mpr c5
   have c5b1 : (a0 != 98) = true := bne_iff_ne.mpr c5
   have H' := a_ H
   clear H
   go_wp2
   go_meet
   case rel => exact ⟨_, (false), (by first | rfl | (simp; done) | (simp [*]; done)), H', ⟨by first | omega | exact Nat.le_refl _⟩, by repeat (first | exact Drawn0.refl _ | apply Drawn0.step)⟩
  rw [if_pos c5] at H
  have c5b0 : (a0 == 98) = true := beq_iff_eq.mpr c5
  have c5b1 : (a0 != 98) = false := bne_eq_false_iff_eq.mpr c5
  clear c5
  have H' := a_ H
  clear H
  go_wp2
  go_meet
  case rel => exact ⟨_, ((a1 == 2)), (by first | rfl | (simp; done) | (simp [*]; done)), H', ⟨by first | omega | exact Nat.le_refl _⟩, by repeat (first | exact Drawn0.refl _ | apply Drawn0.step)⟩
 case rest =>
  clear HC3
  try clear p2
  try clear c4
  try clear c4b0
  try clear c4b1
  try clear c5
  try clear c5b0
  try clear c5b1
  obtain ⟨kq, x7_2, rfl, HA, HJ2, ⟨mc2, rfl⟩⟩ := hcut
  cases kq with
  | zero => exact absurd HA.out (by simp [rr_letter.j0])
  | succ kj2 =>
   have H := HA.out
   clear HA
   simp only [rr_letter.j0] at H
   by_cases c6 : x7_2 = true
   ·subst c6
    have H1 := H; rw [if_pos rfl] at H1
    clear H
    have H := H1
    clear H1
    simp only [Option.some.injEq, Prod.mk.injEq] at H
    obtain ⟨rfl, rfl, rfl⟩ := H
    go_wp2
    go_ret3
    exact ⟨by first | rfl | (simp; done) | (simp [*]; done), by repeat (first | exact Drawn0.refl _ | apply Drawn0.step)⟩
   replace c6 := Bool.eq_false_iff.mpr c6
   subst c6
   have H1 := H; rw [if_neg (show ¬ (false = true) by decide)] at H1
   clear H
   have H := H1
   clear H1
   by_cases c7 : a0 = 65
   ·rw [if_pos c7] at H
    have c7b0 : (a0 == 65) = true := beq_iff_eq.mpr c7
    have c7b1 : (a0 != 65) = false := bne_eq_false_iff_eq.mpr c7
    clear c7
    simp only [Option.some.injEq, Prod.mk.injEq] at H
    obtain ⟨rfl, rfl, rfl⟩ := H
    go_wp2
    go_ret3
    exact ⟨by first | rfl | (simp; done) | (simp [*]; done), by repeat (first | exact Drawn0.refl _ | apply Drawn0.step)⟩
   rw [if_neg c7] at H
   have c7b0 : (a0 == 65) = false := beq_eq_false_iff_ne.mpr c7
   have c7b1 : (a0 != 65) = true := bne_iff_ne.mpr c7
   by_cases c8 : a0 = 66
   rotate_left
   ·rw [if_neg c8] at H
    have c8b0 : (a0 == 66) = false := beq_eq_false_iff_ne.mpr c8
    have c8b1 : (a0 != 66) = true := bne_iff_ne.mpr c8
    simp only [Option.some.injEq, Prod.mk.injEq] at H
    obtain ⟨rfl, rfl, rfl⟩ := H
    go_wp2
    go_ret3
    exact ⟨by first | rfl | (simp; done) | (simp [*]; done), by repeat (first | exact Drawn0.refl _ | apply Drawn0.step)⟩
   rw [if_pos c8] at H
   have c8b0 : (a0 == 66) = true := beq_iff_eq.mpr c8
   have c8b1 : (a0 != 66) = false := bne_eq_false_iff_eq.mpr c8
   clear c8
   by_cases c9 : a1 = 2
   rotate_left
   ·rw [if_neg c9] at H
    have c9b0 : (a1 == 2) = false := beq_eq_false_iff_ne.mpr c9
    have c9b1 : (a1 != 2) = true := bne_iff_ne.mpr c9
    simp only [Option.some.injEq, Prod.mk.injEq] at H
    obtain ⟨rfl, rfl, rfl⟩ := H
    go_wp2
    go_ret3
    exact ⟨by first | rfl | (simp; done) | (simp [*]; done), by repeat (first | exact Drawn0.refl _ | apply Drawn0.step)⟩
   rw [if_pos c9] at H
   have c9b0 : (a1 == 2) = true := beq_iff_eq.mpr c9
   have c9b1 : (a1 != 2) = false := bne_eq_false_iff_eq.mpr c9
   clear c9
   simp only [Option.some.injEq, Prod.mk.injEq] at H
   obtain ⟨rfl, rfl, rfl⟩ := H
   go_wp2
   go_ret3
   exact ⟨by first | rfl | (simp; done) | (simp [*]; done), by repeat (first | exact Drawn0.refl _ | apply Drawn0.step)⟩
def rr_step.l0 : Nat → List (List Int) → Int → Int → Int → Option (Int)
 | 0, _, _, _, _ => none
 | k + 1, x0, x1, x7, x10 => if 0 ≤ x7 then (if x7 < (x0.length : Int) then (if 0 ≤ x10 then (if x10 < ((rd_L1 x0 x7).length : Int) then (if (rd (rd_L1 x0 x7) x10) = x1 then (some x10) else (rr_step.l0 k x0 x1 x7 (wrap64 (x10 + 1)))) else (none)) else (none)) else (none)) else (none)
def rr_step.f (k : Nat) (l0 : List (List Int)) (a1 : Int) (a2 : Int) : Option (Int) := (rr_letter.f k a2 2).bind fun bt101 => (if bt101.2.1 = true then (rr_step.l0 k l0 a1 bt101.1 0) else (if 0 ≤ bt101.1 then (if bt101.1 < (l0.length : Int) then (if 0 ≤ a1 then (if a1 < ((rd_L1 l0 bt101.1).length : Int) then (some (rd (rd_L1 l0 bt101.1) a1)) else (none)) else (none)) else (none)) else (none)))
theorem rr_step.calls (k : Nat) (A0 : Option Addr) (c0 : Nat) (l0 : List (List Int)) (a1 : Int) (a2 : Int) (r : Int) (w : World) (hr0 : Kd.C (Kd.slice 3 (Kd.int .i64)) w A0 l0.length l0) (hc0 : l0.length ≤ c0) (h : rr_step.f k l0 a1 a2 = some r) :
  Calls Try.prog 58 #[.slice A0 l0.length c0, .int .i64 a1, .int .u8 a2] w fun e w' => e = .returned (.int .i64 r) ∧ Drawn0 w w' := by
 have HR0 := a_ hr0
 have HC0 := a_ hc0
 clear hr0 hc0
 have H : ((rr_letter.f k a2 2).bind fun bt101 => (if bt101.2.1 = true then (rr_step.l0 k l0 a1 bt101.1 0) else (if 0 ≤ bt101.1 then (if bt101.1 < (l0.length : Int) then (if 0 ≤ a1 then (if a1 < ((rd_L1 l0 bt101.1).length : Int) then (some (rd (rd_L1 l0 bt101.1) a1)) else (none)) else (none)) else (none)) else (none)))) = some r := h
 clear h
 replace H := Option.bind_eq_some_iff.mp H
 obtain ⟨⟨t101, t102, t103⟩, A40, H⟩ := H
 try dsimp only at H
 have A4 := a_ A40
 clear A40
 by_cases c5 : t102 = true
 rotate_left
 ·replace c5 := Bool.eq_false_iff.mpr c5
  subst c5
  have H1 := H; rw [if_neg (show ¬ (false = true) by decide)] at H1
  clear H
  have H := H1
  clear H1
  by_cases c11 : 0 ≤ t101
  rotate_left
  ·rw [if_neg c11] at H
   exact absurd H (by simp)
  rw [if_pos c11] at H
  have c11b0 : decide (0 ≤ t101) = true := decide_eq_true c11
  clear c11
  by_cases c12 : t101 < (l0.length : Int)
  rotate_left
  ·rw [if_neg c12] at H
   exact absurd H (by simp)
  rw [if_pos c12] at H
  have c12b0 : decide (t101 < (l0.length : Int)) = true := decide_eq_true c12
  clear c12
  by_cases c13 : 0 ≤ a1
  rotate_left
  ·rw [if_neg c13] at H
   exact absurd H (by simp)
  rw [if_pos c13] at H
  have c13b0 : decide (0 ≤ a1) = true := decide_eq_true c13
  clear c13
  by_cases c14 : a1 < ((rd_L1 l0 t101).length : Int)
  rotate_left
  ·rw [if_neg c14] at H
   exact absurd H (by simp)
  rw [if_pos c14] at H
  have c14b0 : decide (a1 < ((rd_L1 l0 t101).length : Int)) = true := decide_eq_true c14
  clear c14
  obtain rfl := Option.some.inj H
  go_enter Try.func58, Try.ntmps58
  go_wp2_with (first | ((with_reducible refine gate_callee (f := 56) rfl ?_); refine goesL_ (some 13) rfl rfl Try.func56 (by kernel_rfl) rfl #[.int .u8 a2, .int .i64 2] rfl (by (try simp only [List.map_toArray, List.map_cons, List.map_nil]); first | done | rfl | (simp only [List.length_drop, List.length_take]; rfl)) ?_; (with_reducible refine (rr_letter.calls k a2 2 t101 false t103 _ A4.out).mono ?_); rintro e w' ⟨rfl, ⟨nd, rfl⟩⟩; refine ⟨_, rfl, ?_⟩; have p104 : 0 ≤ (t101 : Int) := of_decide_eq_true (by first | (with_reducible assumption) | assumption); have q104 : t101 < (l0.length : Int) := of_decide_eq_true (by first | (with_reducible assumption) | assumption); obtain ⟨ad104, A104_0, c104_0, e104, hx104_0, hl104_0, hi104_0⟩ := at_L1 HR0.out t101 p104 q104; cases e104; have HR104_0 := a_ hi104_0; have HC104_0 := a_ hl104_0; clear hi104_0 hl104_0; replace p104 := eq_true p104; replace q104 := eq_true q104; have p105 : 0 ≤ (a1 : Int) := of_decide_eq_true (by first | (with_reducible assumption) | assumption); have q105 : a1 < ((rd_L1 l0 t101).length : Int) := of_decide_eq_true (by first | (with_reducible assumption) | assumption); obtain ⟨ad105, e105, hx105_0⟩ := Kd.at_int HR104_0.out a1 p105 q105; cases e105; replace p105 := eq_true p105; replace q105 := eq_true q105))
  go_ret
  exact ⟨by first | rfl | (simp; done) | (simp [*]; done), by repeat (first | exact Drawn0.refl _ | apply Drawn0.step)⟩
 subst c5
 have H1 := H; rw [if_pos rfl] at H1
 clear H
 have H := H1
 clear H1
 have H' := a_ H
 clear H
 go_enter Try.func58, Try.ntmps58
 go_wp2_with (first | ((with_reducible refine gate_callee (f := 56) rfl ?_); refine goesL_ (some 13) rfl rfl Try.func56 (by kernel_rfl) rfl #[.int .u8 a2, .int .i64 2] rfl (by (try simp only [List.map_toArray, List.map_cons, List.map_nil]); first | done | rfl | (simp only [List.length_drop, List.length_take]; rfl)) ?_; (with_reducible refine (rr_letter.calls k a2 2 t101 true t103 _ A4.out).mono ?_); rintro e w' ⟨rfl, ⟨nd, rfl⟩⟩; refine ⟨_, rfl, ?_⟩))
 go_loopg [10] k (fun kq v10 w' => ∃ (x10_1 : Int), v10 = .int .i64 x10_1 ∧ Aside0 (rr_step.l0 kq l0 a1 t101 x10_1 = some r) ∧ Aside0 (kq ≤ k) ∧ Drawn0 w w')
 case atStart => exact ⟨(0), (by first | rfl | (simp; done) | (simp [*]; done)), H', ⟨Nat.le_refl _⟩, by repeat (first | exact Drawn0.refl _ | apply Drawn0.step)⟩
 clear H'
 try clear p2
 try clear c5
 obtain ⟨x10_1, rfl, HA, HK1, ⟨m1, rfl⟩⟩ := hrel
 cases gk with
 | zero => exact absurd HA.out (by simp [rr_step.l0])
 | succ k1 =>
  have H := HA.out
  clear HA
  simp only [rr_step.l0] at H
  by_cases c6 : 0 ≤ t101
  rotate_left
  ·rw [if_neg c6] at H
   exact absurd H (by simp)
  rw [if_pos c6] at H
  have c6b0 : decide (0 ≤ t101) = true := decide_eq_true c6
  clear c6
  by_cases c7 : t101 < (l0.length : Int)
  rotate_left
  ·rw [if_neg c7] at H
   exact absurd H (by simp)
  rw [if_pos c7] at H
  have c7b0 : decide (t101 < (l0.length : Int)) = true := decide_eq_true c7
  clear c7
  by_cases c8 : 0 ≤ x10_1
  rotate_left
  ·rw [if_neg c8] at H
   exact absurd H (by simp)
  rw [if_pos c8] at H
  have c8b0 : decide (0 ≤ x10_1) = true := decide_eq_true c8
  clear c8
  by_cases c9 : x10_1 < ((rd_L1 l0 t101).length : Int)
  rotate_left
  ·rw [if_neg c9] at H
   exact absurd H (by simp)
  rw [if_pos c9] at H
  have c9b0 : decide (x10_1 < ((rd_L1 l0 t101).length : Int)) = true := decide_eq_true c9
  clear c9
  by_cases c10 : (rd (rd_L1 l0 t101) x10_1) = a1
  ·rw [if_pos c10] at H
   have c10b0 : ((rd (rd_L1 l0 t101) x10_1) == a1) = true := beq_iff_eq.mpr c10
   have c10b1 : ((rd (rd_L1 l0 t101) x10_1) != a1) = false := bne_eq_false_iff_eq.mpr c10
   clear c10
   obtain rfl := Option.some.inj H
   have p106 : 0 ≤ (t101 : Int) := of_decide_eq_true (by first | (with_reducible assumption) | assumption)
   have q106 : t101 < (l0.length : Int) := of_decide_eq_true (by first | (with_reducible assumption) | assumption)
   obtain ⟨ad106, A106_0, c106_0, e106, hx106_0, hl106_0, hi106_0⟩ := at_L1 HR0.out t101 p106 q106
   cases e106
   have HR106_0 := a_ hi106_0
   have HC106_0 := a_ hl106_0
   clear hi106_0 hl106_0
   replace p106 := eq_true p106
   replace q106 := eq_true q106
   have p107 : 0 ≤ (x10_1 : Int) := of_decide_eq_true (by first | (with_reducible assumption) | assumption)
   have q107 : x10_1 < ((rd_L1 l0 t101).length : Int) := of_decide_eq_true (by first | (with_reducible assumption) | assumption)
   obtain ⟨ad107, e107, hx107_0⟩ := Kd.at_int HR106_0.out x10_1 p107 q107
   cases e107
   replace p107 := eq_true p107
   replace q107 := eq_true q107
   go_wp2
   go_ret
   exact ⟨by first | rfl | (simp; done) | (simp [*]; done), by repeat (first | exact Drawn0.refl _ | apply Drawn0.step)⟩
  rw [if_neg c10] at H
  have c10b0 : ((rd (rd_L1 l0 t101) x10_1) == a1) = false := beq_eq_false_iff_ne.mpr c10
  have c10b1 : ((rd (rd_L1 l0 t101) x10_1) != a1) = true := bne_iff_ne.mpr c10
  have H' := a_ H
  clear H
  have p106 : 0 ≤ (t101 : Int) := of_decide_eq_true (by first | (with_reducible assumption) | assumption)
  have q106 : t101 < (l0.length : Int) := of_decide_eq_true (by first | (with_reducible assumption) | assumption)
  obtain ⟨ad106, A106_0, c106_0, e106, hx106_0, hl106_0, hi106_0⟩ := at_L1 HR0.out t101 p106 q106
  cases e106
  have HR106_0 := a_ hi106_0
  have HC106_0 := a_ hl106_0
  clear hi106_0 hl106_0
  replace p106 := eq_true p106
  replace q106 := eq_true q106
  have p107 : 0 ≤ (x10_1 : Int) := of_decide_eq_true (by first | (with_reducible assumption) | assumption)
  have q107 : x10_1 < ((rd_L1 l0 t101).length : Int) := of_decide_eq_true (by first | (with_reducible assumption) | assumption)
  obtain ⟨ad107, e107, hx107_0⟩ := Kd.at_int HR106_0.out x10_1 p107 q107
  cases e107
  replace p107 := eq_true p107
  replace q107 := eq_true q107
  go_wp2
  go_roundg k1
  case measure => have := HK1.out; omega
  case rel => exact ⟨(wrap64 (x10_1 + 1)), (by first | rfl | (simp; done) | (simp [*]; done)), H', ⟨by have := HK1.out; omega⟩, by repeat (first | exact Drawn0.refl _ | apply Drawn0.step)⟩
def rr_Send.l0 : Nat → List (List Int) → Int → ByteArray → Int → Option (Int)
 | 0, _, _, _, _ => none
 | k + 1, x0, x1, x2, x7 => if x7 < (x2.size : Int) then (if 0 ≤ x7 then ((rr_step.f k x0 x1 (bt x2 x7)).bind fun t429 => (rr_Send.l0 k x0 t429 x2 (wrap64 (x7 + 1)))) else (none)) else (some x1)
def rr_Send.f (k : Nat) (l0 : List (List Int)) (a1 : Int) (a2 : ByteArray) : Option (Int) := rr_Send.l0 k l0 a1 a2 0
theorem rr_Send.calls (k : Nat) (A0 : Option Addr) (c0 : Nat) (l0 : List (List Int)) (a1 : Int) (a2 : ByteArray) (r : Int) (w : World) (hr0 : Kd.C (Kd.slice 3 (Kd.int .i64)) w A0 l0.length l0) (hc0 : l0.length ≤ c0) (h : rr_Send.f k l0 a1 a2 = some r) :
  Calls Try.prog 20 #[.slice A0 l0.length c0, .int .i64 a1, .string a2] w fun e w' => e = .returned (.int .i64 r) ∧ Drawn0 w w' := by
 have HR0 := a_ hr0
 have HC0 := a_ hc0
 clear hr0 hc0
 have H : (rr_Send.l0 k l0 a1 a2 0) = some r := h
 clear h
 have H' := a_ H
 clear H
 go_enter Try.func20, Try.ntmps20
 go_wp2
 go_loopg [1, 7] k (fun kq v1 v7 w' => ∃ (x1_1 : Int) (x7_1 : Int), v1 = .int .i64 x1_1 ∧ v7 = .int .i64 x7_1 ∧ Aside0 (rr_Send.l0 kq l0 x1_1 a2 x7_1 = some r) ∧ Aside0 (kq ≤ k) ∧ Drawn0 w w')
 case atStart => exact ⟨(a1), (0), (by first | rfl | (simp; done) | (simp [*]; done)), (by first | rfl | (simp; done) | (simp [*]; done)), H', ⟨Nat.le_refl _⟩, by repeat (first | exact Drawn0.refl _ | apply Drawn0.step)⟩
 clear H'
 try clear c2
 try clear p2
 obtain ⟨x1_1, x7_1, rfl, rfl, HA, HK1, ⟨m1, rfl⟩⟩ := hrel
 cases gk with
 | zero => exact absurd HA.out (by simp [rr_Send.l0])
 | succ k1 =>
  have H := HA.out
  clear HA
  simp only [rr_Send.l0] at H
  by_cases c4 : x7_1 < (a2.size : Int)
  rotate_left
  ·rw [if_neg c4] at H
   have c4b0 : decide (x7_1 < (a2.size : Int)) = false := decide_eq_false c4
   clear c4
   obtain rfl := Option.some.inj H
   go_wp2
   go_ret
   exact ⟨by first | rfl | (simp; done) | (simp [*]; done), by repeat (first | exact Drawn0.refl _ | apply Drawn0.step)⟩
  rw [if_pos c4] at H
  have c4b0 : decide (x7_1 < (a2.size : Int)) = true := decide_eq_true c4
  clear c4
  by_cases c5 : 0 ≤ x7_1
  rotate_left
  ·rw [if_neg c5] at H
   exact absurd H (by simp)
  rw [if_pos c5] at H
  have c5b0 : decide (0 ≤ x7_1) = true := decide_eq_true c5
  clear c5
  replace H := Option.bind_eq_some_iff.mp H
  obtain ⟨t429, A70, H⟩ := H
  try dsimp only at H
  have A7 := a_ A70
  clear A70
  have H' := a_ H
  clear H
  have p6 : 0 ≤ (x7_1 : Int) := of_decide_eq_true (by first | (with_reducible assumption) | assumption)
  have q6 : x7_1 < (a2.size : Int) := of_decide_eq_true (by first | (with_reducible assumption) | assumption)
  have hx6 := bt_at a2 x7_1
  replace p6 := eq_true p6
  replace q6 := eq_true q6
  go_wp2_with (first | ((with_reducible refine gate_callee (f := 58) rfl ?_); refine goesL_ (some 19) rfl rfl Try.func58 (by kernel_rfl) rfl #[.slice A0 l0.length c0, .int .i64 x1_1, .int .u8 (bt a2 x7_1)] rfl (by (try simp only [List.map_toArray, List.map_cons, List.map_nil]); first | done | rfl | (simp only [List.length_drop, List.length_take]; rfl)) ?_; (with_reducible refine (rr_step.calls k1 _ _ l0 x1_1 (bt a2 x7_1) t429 _ ?side1 ?side2 A7.out).mono ?_); (case side1 => repeat (first | exact HR0.out | (with_reducible refine Kd.C_alloc ?_ _) | (with_reducible refine Kd.C_drewN ?_ _) | (with_reducible refine Kd.C_drew ?_))); (case side2 => exact HC0.out); rintro e w' ⟨rfl, ⟨nd, rfl⟩⟩; refine ⟨_, rfl, ?_⟩))
  go_roundg k1
  case measure => have := HK1.out; omega
  case rel => exact ⟨(t429), (wrap64 (x7_1 + 1)), (by first | rfl | (simp; done) | (simp [*]; done)), (by first | rfl | (simp; done) | (simp [*]; done)), H', ⟨by have := HK1.out; omega⟩, by repeat (first | exact Drawn0.refl _ | apply Drawn0.step)⟩
mutual
def rl_follow.l0 : Nat → List (List Int) → Int → ByteArray → Int → Option (Int)
 | 0, _, _, _, _ => none
 | k + 1, x0, x1, x2, x7 => if x7 < (x2.size : Int) then (if 0 ≤ x7 then (if (bt x2 x7) = 65 then (rl_follow.j1 k x0 x1 x2 x7 0 true) else (rl_follow.j1 k x0 x1 x2 x7 0 ((bt x2 x7) == 66))) else (none)) else (some x1)
def rl_follow.j1 : Nat → List (List Int) → Int → ByteArray → Int → Int → Bool → Option (Int)
 | 0, _, _, _, _, _, _ => none
 | k + 1, x0, x1, x2, x7, x8, x9 => if 0 ≤ x7 then (if x7 < (x2.size : Int) then (if (bt x2 x7) = 98 then (rl_follow.j2 k x0 x1 x2 x7 x8 x9 true) else (rl_follow.j2 k x0 x1 x2 x7 x8 x9 ((bt x2 x7) == 66))) else (none)) else (none)
def rl_follow.j2 : Nat → List (List Int) → Int → ByteArray → Int → Int → Bool → Bool → Option (Int)
 | 0, _, _, _, _, _, _, _ => none
 | k + 1, x0, x1, x2, x7, x8, x9, x37 => if x37 = true then (rl_follow.j3 k x0 x1 x2 x7 1 x9) else (rl_follow.j3 k x0 x1 x2 x7 x8 x9)
def rl_follow.j3 : Nat → List (List Int) → Int → ByteArray → Int → Int → Bool → Option (Int)
 | 0, _, _, _, _, _, _ => none
 | k + 1, x0, x1, x2, x7, x8, x9 => if x8 ≥ (x0.length : Int) then (some (-1)) else (rl_follow.l1 k x0 x1 x2 x7 x8 x9 (-1) 0)
def rl_follow.l1 : Nat → List (List Int) → Int → ByteArray → Int → Int → Bool → Int → Int → Option (Int)
 | 0, _, _, _, _, _, _, _, _ => none
 | k + 1, x0, x1, x2, x7, x8, x9, x10, x11 => if 0 ≤ x8 then (if x8 < (x0.length : Int) then (if x11 < ((rd_L1 x0 x8).length : Int) then (if x9 = true then (if 0 ≤ x11 then (if (rd (rd_L1 x0 x8) x11) = x1 then (rl_follow.l1 k x0 x1 x2 x7 x8 x9 x11 (wrap64 (x11 + 1))) else (rl_follow.l1 k x0 x1 x2 x7 x8 x9 x10 (wrap64 (x11 + 1)))) else (none)) else (if x11 = x1 then (rl_follow.l1 k x0 x1 x2 x7 x8 x9 x11 (wrap64 (x11 + 1))) else (rl_follow.l1 k x0 x1 x2 x7 x8 x9 x10 (wrap64 (x11 + 1))))) else (if x10 < 0 then (some (-1)) else (if x9 = true then (rl_follow.l0 k x0 x10 x2 (wrap64 (x7 + 1))) else (if 0 ≤ x10 then (if x10 < ((rd_L1 x0 x8).length : Int) then (rl_follow.l0 k x0 (rd (rd_L1 x0 x8) x10) x2 (wrap64 (x7 + 1))) else (none)) else (none))))) else (none)) else (none)
end
def rl_follow.f (k : Nat) (l0 : List (List Int)) (a1 : Int) (a2 : ByteArray) : Option (Int) := rl_follow.l0 k l0 a1 a2 0
theorem rl_follow.calls (k : Nat) (A0 : Option Addr) (c0 : Nat) (l0 : List (List Int)) (a1 : Int) (a2 : ByteArray) (r : Int) (w : World) (hr0 : Kd.C (Kd.slice 3 (Kd.int .i64)) w A0 l0.length l0) (hc0 : l0.length ≤ c0) (h : rl_follow.f k l0 a1 a2 = some r) :
  Calls Try.prog 38 #[.slice A0 l0.length c0, .int .i64 a1, .string a2] w fun e w' => e = .returned (.int .i64 r) ∧ Drawn0 w w' := by
 have HR0 := a_ hr0
 have HC0 := a_ hc0
 clear hr0 hc0
 have H : (rl_follow.l0 k l0 a1 a2 0) = some r := h
 clear h
 have H' := a_ H
 clear H
 go_enter Try.func38, Try.ntmps38
 go_wp2
 repeat (go_quiet (fail); try go_wp2)
 go_loopg [1, 7] k (fun kq v1 v7 w' => ∃ (x1_1 : Int) (x7_1 : Int), v1 = .int .i64 x1_1 ∧ v7 = .int .i64 x7_1 ∧ Aside0 (rl_follow.l0 kq l0 x1_1 a2 x7_1 = some r) ∧ Aside0 (kq ≤ k) ∧ Drawn0 w w')
 case atStart => exact ⟨(a1), (0), (by first | rfl | (simp; done) | (simp [*]; done)), (by first | rfl | (simp; done) | (simp [*]; done)), H', ⟨Nat.le_refl _⟩, by repeat (first | exact Drawn0.refl _ | apply Drawn0.step)⟩
 clear H'
 try clear p2
 try clear c3
 obtain ⟨x1_1, x7_1, rfl, rfl, HA, HK1, ⟨m1, rfl⟩⟩ := hrel
 cases gk with
 | zero => exact absurd HA.out (by simp [rl_follow.l0])
 | succ k1 =>
  have H := HA.out
  clear HA
  simp only [rl_follow.l0] at H
  by_cases c4 : x7_1 < (a2.size : Int)
  rotate_left
  ·rw [if_neg c4] at H
   have c4b0 : decide (x7_1 < (a2.size : Int)) = false := decide_eq_false c4
   clear c4
   obtain rfl := Option.some.inj H
   go_wp2
   repeat (go_quiet (fail); try go_wp2)
   go_ret
   exact ⟨by first | rfl | (simp; done) | (simp [*]; done), by repeat (first | exact Drawn0.refl _ | apply Drawn0.step)⟩
  rw [if_pos c4] at H
  have c4b0 : decide (x7_1 < (a2.size : Int)) = true := decide_eq_true c4
  clear c4
  have HC5 := a_ H
  clear H
  go_upto_region 4 with (fail)
  repeat (go_quiet (fail); go_upto_region 4 with (fail))
  go_cut [8, 9] (fun v8 v9 wc => ∃ (kq : Nat) (x8_4 : Int) (x9_4 : Bool), v8 = .int .i64 x8_4 ∧ v9 = .bool x9_4 ∧ Aside0 (rl_follow.j1 kq l0 x1_1 a2 x7_1 x8_4 x9_4 = some r) ∧ Aside0 (kq ≤ k1) ∧ Drawn0 w wc)
  case first =>
   have H := HC5.out
   clear HC5
   by_cases c6 : 0 ≤ x7_1
   rotate_left
   ·rw [if_neg c6] at H
    exact absurd H (by simp)
   rw [if_pos c6] at H
   have c6b0 : decide (0 ≤ x7_1) = true := decide_eq_true c6
   clear c6
   (first | rw [c6b0] | (simp only [i64_w, i32_w]; rw [c6b0]) | skip)
   by_cases c8 : (bt a2 x7_1) = 65
   ·rw [if_pos c8] at H
    have c8b0 : ((bt a2 x7_1) == 65) = true := beq_iff_eq.mpr c8
    have c8b1 : ((bt a2 x7_1) != 65) = false := bne_eq_false_iff_eq.mpr c8
    clear c8
    have H' := a_ H
    clear H
    have p7 : 0 ≤ (x7_1 : Int) := of_decide_eq_true (by first | (with_reducible assumption) | assumption)
    have q7 : x7_1 < (a2.size : Int) := of_decide_eq_true (by first | (with_reducible assumption) | assumption)
    have hx7 := bt_at a2 x7_1
    replace p7 := eq_true p7
    replace q7 := eq_true q7
    go_wp2
    repeat (go_quiet (fail); try go_wp2)
    go_meet
    case rel => exact ⟨_, (0), (true), (by first | rfl | (simp; done) | (simp [*]; done)), (by first | rfl | (simp; done) | (simp [*]; done)), H', ⟨by have := HK1.out; first | omega | exact Nat.le_refl _⟩, by repeat (first | exact Drawn0.refl _ | apply Drawn0.step)⟩
   rw [if_neg c8] at H
   have c8b0 : ((bt a2 x7_1) == 65) = false := beq_eq_false_iff_ne.mpr c8
   have c8b1 : ((bt a2 x7_1) != 65) = true := bne_iff_ne.mpr c8
   have H' := a_ H
   clear H
   have p7 : 0 ≤ (x7_1 : Int) := of_decide_eq_true (by first | (with_reducible assumption) | assumption)
   have q7 : x7_1 < (a2.size : Int) := of_decide_eq_true (by first | (with_reducible assumption) | assumption)
   have hx7 := bt_at a2 x7_1
   replace p7 := eq_true p7
   replace q7 := eq_true q7
   have p9 : 0 ≤ (x7_1 : Int) := of_decide_eq_true (by first | (with_reducible assumption) | assumption)
   have q9 : x7_1 < (a2.size : Int) := of_decide_eq_true (by first | (with_reducible assumption) | assumption)
   have hx9 := bt_at a2 x7_1
   replace p9 := eq_true p9
   replace q9 := eq_true q9
   go_wp2
   repeat (go_quiet (fail); try go_wp2)
   go_meet
   case rel => exact ⟨_, (0), (((bt a2 x7_1) == 66)), (by first | rfl | (simp; done) | (simp [*]; done)), (by first | rfl | (simp; done) | (simp [*]; done)), H', ⟨by have := HK1.out; first | omega | exact Nat.le_refl _⟩, by repeat (first | exact Drawn0.refl _ | apply Drawn0.step)⟩
  case rest =>
   clear HC5
   try clear p2
   try clear c3
   try clear c4
   try clear c4b0
   try clear c6
   try clear c6b0
   try clear p7
   try clear q7
   try clear hx7
   try clear c8
   try clear c8b0
   try clear c8b1
   try clear p9
   try clear q9
   try clear hx9
   try clear p2
   try clear p7
   try clear p9
   try clear q7
   try clear q9
   obtain ⟨kq, x8_4, x9_4, rfl, rfl, HA, HJ4, ⟨mc4, rfl⟩⟩ := hcut
   cases kq with
   | zero => exact absurd HA.out (by simp [rl_follow.j1])
   | succ kj4 =>
    have H := HA.out
    clear HA
    simp only [rl_follow.j1] at H
    have HC10 := a_ H
    clear H
    go_upto_region 5 with (fail)
    repeat (go_quiet (fail); go_upto_region 5 with (fail))
    go_cut [37] (fun v37 wc => ∃ (kq : Nat) (x37_9 : Bool), v37 = .bool x37_9 ∧ Aside0 (rl_follow.j2 kq l0 x1_1 a2 x7_1 x8_4 x9_4 x37_9 = some r) ∧ Aside0 (kq ≤ kj4) ∧ Drawn0 w wc)
    case first =>
     have H := HC10.out
     clear HC10
     by_cases c11 : 0 ≤ x7_1
     rotate_left
     ·rw [if_neg c11] at H
      exact absurd H (by simp)
     rw [if_pos c11] at H
     have c11b0 : decide (0 ≤ x7_1) = true := decide_eq_true c11
     clear c11
     (first | rw [c11b0] | (simp only [i64_w, i32_w]; rw [c11b0]) | skip)
     by_cases c12 : x7_1 < (a2.size : Int)
     rotate_left
     ·rw [if_neg c12] at H
      exact absurd H (by simp)
     rw [if_pos c12] at H
     have c12b0 : decide (x7_1 < (a2.size : Int)) = true := decide_eq_true c12
     clear c12
     by_cases c14 : (bt a2 x7_1) = 98
     ·rw [if_pos c14] at H
      have c14b0 : ((bt a2 x7_1) == 98) = true := beq_iff_eq.mpr c14
      have c14b1 : ((bt a2 x7_1) != 98) = false := bne_eq_false_iff_eq.mpr c14
      clear c14
      have H' := a_ H
      clear H
      have p13 : 0 ≤ (x7_1 : Int) := of_decide_eq_true (by first | (with_reducible assumption) | assumption)
      have q13 : x7_1 < (a2.size : Int) := of_decide_eq_true (by first | (with_reducible assumption) | assumption)
      have hx13 := bt_at a2 x7_1
      replace p13 := eq_true p13
      replace q13 := eq_true q13
      go_wp2
      repeat (go_quiet (fail); try go_wp2)
      go_meet
      case rel => exact ⟨_, (true), (by first | rfl | (simp; done) | (simp [*]; done)), H', ⟨by have := HK1.out; have := HJ4.out; first | omega | exact Nat.le_refl _⟩, by repeat (first | exact Drawn0.refl _ | apply Drawn0.step)⟩
     rw [if_neg c14] at H
     have c14b0 : ((bt a2 x7_1) == 98) = false := beq_eq_false_iff_ne.mpr c14
     have c14b1 : ((bt a2 x7_1) != 98) = true := bne_iff_ne.mpr c14
     have H' := a_ H
     clear H
     have p13 : 0 ≤ (x7_1 : Int) := of_decide_eq_true (by first | (with_reducible assumption) | assumption)
     have q13 : x7_1 < (a2.size : Int) := of_decide_eq_true (by first | (with_reducible assumption) | assumption)
     have hx13 := bt_at a2 x7_1
     replace p13 := eq_true p13
     replace q13 := eq_true q13
     have p15 : 0 ≤ (x7_1 : Int) := of_decide_eq_true (by first | (with_reducible assumption) | assumption)
     have q15 : x7_1 < (a2.size : Int) := of_decide_eq_true (by first | (with_reducible assumption) | assumption)
     have hx15 := bt_at a2 x7_1
     replace p15 := eq_true p15
     replace q15 := eq_true q15
     go_wp2
     repeat (go_quiet (fail); try go_wp2)
     go_meet
     case rel => exact ⟨_, (((bt a2 x7_1) == 66)), (by first | rfl | (simp; done) | (simp [*]; done)), H', ⟨by have := HK1.out; have := HJ4.out; first | omega | exact Nat.le_refl _⟩, by repeat (first | exact Drawn0.refl _ | apply Drawn0.step)⟩
    case rest =>
     clear HC10
     try clear c1
     try clear p1
     try clear q1
     try clear hx1
     try clear p2
     try clear c3
     try clear c4
     try clear c4b0
     try clear c6
     try clear c6b0
     try clear p7
     try clear q7
     try clear hx7
     try clear c8
     try clear c8b0
     try clear c8b1
     try clear p9
     try clear q9
     try clear hx9
     try clear c11
     try clear c11b0
     try clear c12
     try clear c12b0
     try clear p13
     try clear q13
     try clear hx13
     try clear c14
     try clear c14b0
     try clear c14b1
     try clear p15
     try clear q15
     try clear hx15
     try clear p13
     try clear p15
     try clear p2
     try clear p7
     try clear p9
     try clear q13
     try clear q15
     try clear q7
     try clear q9
     obtain ⟨kq, x37_9, rfl, HA, HJ9, ⟨mc9, rfl⟩⟩ := hcut
     cases kq with
     | zero => exact absurd HA.out (by simp [rl_follow.j2])
     | succ kj9 =>
      have H := HA.out
      clear HA
      simp only [rl_follow.j2] at H
      have HC16 := a_ H
      clear H
      go_upto_if 37 with (fail)
      repeat (go_quiet (fail); go_upto_if 37 with (fail))
      go_cut [8] (fun v8 wc => ∃ (kq : Nat) (x8_15 : Int), v8 = .int .i64 x8_15 ∧ Aside0 (rl_follow.j3 kq l0 x1_1 a2 x7_1 x8_15 x9_4 = some r) ∧ Aside0 (kq ≤ kj9) ∧ Drawn0 w wc)
      case first =>
       have H := HC16.out
       clear HC16
       by_cases c17 : x37_9 = true
       ·subst c17
        have H1 := H; rw [if_pos rfl] at H1
        clear H
        have H := H1
        clear H1
        have H' := a_ H
        clear H
        go_wp2
        repeat (go_quiet (fail); try go_wp2)
        go_meet
        case rel => exact ⟨_, (1), (by first | rfl | (simp; done) | (simp [*]; done)), H', ⟨by have := HK1.out; have := HJ4.out; have := HJ9.out; first | omega | exact Nat.le_refl _⟩, by repeat (first | exact Drawn0.refl _ | apply Drawn0.step)⟩
       replace c17 := Bool.eq_false_iff.mpr c17
       subst c17
       have H1 := H; rw [if_neg (show ¬ (false = true) by decide)] at H1
       clear H
       have H := H1
       clear H1
       have H' := a_ H
       clear H
       go_wp2
       repeat (go_quiet (fail); try go_wp2)
       go_meet
       case rel => exact ⟨_, (x8_4), (by first | rfl | (simp; done) | (simp [*]; done)), H', ⟨by have := HK1.out; have := HJ4.out; have := HJ9.out; first | omega | exact Nat.le_refl _⟩, by repeat (first | exact Drawn0.refl _ | apply Drawn0.step)⟩
      case rest =>
       clear HC16
       try clear c1
       try clear p1
       try clear q1
       try clear hx1
       try clear p2
       try clear c3
       try clear c4
       try clear c4b0
       try clear c6
       try clear c6b0
       try clear p7
       try clear q7
       try clear hx7
       try clear c8
       try clear c8b0
       try clear c8b1
       try clear c9
       try clear p9
       try clear q9
       try clear hx9
       try clear c11
       try clear c11b0
       try clear c12
       try clear c12b0
       try clear p13
       try clear q13
       try clear hx13
       try clear c14
       try clear c14b0
       try clear c14b1
       try clear p15
       try clear q15
       try clear hx15
       try clear c17
       try clear p1
       try clear p13
       try clear p15
       try clear p2
       try clear p7
       try clear p9
       try clear q1
       try clear q13
       try clear q15
       try clear q7
       try clear q9
       obtain ⟨kq, x8_15, rfl, HA, HJ15, ⟨mc15, rfl⟩⟩ := hcut
       cases kq with
       | zero => exact absurd HA.out (by simp [rl_follow.j3])
       | succ kj15 =>
        have H := HA.out
        clear HA
        simp only [rl_follow.j3] at H
        by_cases c18 : x8_15 ≥ (l0.length : Int)
        ·rw [if_pos c18] at H
         have c18b0 : decide ((l0.length : Int) ≤ x8_15) = true := decide_eq_true c18
         clear c18
         obtain rfl := Option.some.inj H
         go_wp2
         repeat (go_quiet (fail); try go_wp2)
         go_ret
         exact ⟨by first | rfl | (simp; done) | (simp [*]; done), by repeat (first | exact Drawn0.refl _ | apply Drawn0.step)⟩
        rw [if_neg c18] at H
        have c18b0 : decide ((l0.length : Int) ≤ x8_15) = false := decide_eq_false c18
        clear c18
        have H' := a_ H
        clear H
        go_wp2
        repeat (go_quiet (fail); try go_wp2)
        go_loopg [10, 11] kj15 (fun kq v10 v11 w' => ∃ (x10_5 : Int) (x11_5 : Int), v10 = .int .i64 x10_5 ∧ v11 = .int .i64 x11_5 ∧ Aside0 (rl_follow.l1 kq l0 x1_1 a2 x7_1 x8_15 x9_4 x10_5 x11_5 = some r) ∧ Aside0 (kq ≤ kj15) ∧ Drawn0 w w')
        case atStart => exact ⟨((-1)), (0), (by first | rfl | (simp; done) | (simp [*]; done)), (by first | rfl | (simp; done) | (simp [*]; done)), H', ⟨Nat.le_refl _⟩, by repeat (first | exact Drawn0.refl _ | apply Drawn0.step)⟩
        clear H'
        try clear c1
        try clear p1
        try clear q1
        try clear hx1
        try clear p2
        try clear c3
        try clear c4
        try clear c4b0
        try clear c6
        try clear c6b0
        try clear p7
        try clear q7
        try clear hx7
        try clear c8
        try clear c8b0
        try clear c8b1
        try clear c9
        try clear p9
        try clear q9
        try clear hx9
        try clear c11
        try clear c11b0
        try clear c12
        try clear c12b0
        try clear p13
        try clear q13
        try clear hx13
        try clear c14
        try clear c14b0
        try clear c14b1
        try clear c15
        try clear p15
        try clear q15
        try clear hx15
        try clear c17
        try clear c18
        try clear c18b0
        try clear p1
        try clear p13
        try clear p15
        try clear p2
        try clear p7
        try clear p9
        try clear q1
        try clear q13
        try clear q15
        try clear q7
        try clear q9
        obtain ⟨x10_5, x11_5, rfl, rfl, HA, HK5, ⟨m5, rfl⟩⟩ := hrel
        cases gk with
        | zero => exact absurd HA.out (by simp [rl_follow.l1])
        | succ k5 =>
         have H := HA.out
         clear HA
         simp only [rl_follow.l1] at H
         by_cases c19 : 0 ≤ x8_15
         rotate_left
         ·rw [if_neg c19] at H
          exact absurd H (by simp)
         rw [if_pos c19] at H
         have c19b0 : decide (0 ≤ x8_15) = true := decide_eq_true c19
         clear c19
         by_cases c20 : x8_15 < (l0.length : Int)
         rotate_left
         ·rw [if_neg c20] at H
          exact absurd H (by simp)
         rw [if_pos c20] at H
         have c20b0 : decide (x8_15 < (l0.length : Int)) = true := decide_eq_true c20
         clear c20
         by_cases c21 : x11_5 < ((rd_L1 l0 x8_15).length : Int)
         rotate_left
         ·rw [if_neg c21] at H
          have c21b0 : decide (x11_5 < ((rd_L1 l0 x8_15).length : Int)) = false := decide_eq_false c21
          clear c21
          by_cases c26 : x10_5 < 0
          ·rw [if_pos c26] at H
           have c26b0 : decide (x10_5 < 0) = true := decide_eq_true c26
           clear c26
           obtain rfl := Option.some.inj H
           have p459 : 0 ≤ (x8_15 : Int) := of_decide_eq_true (by first | (with_reducible assumption) | assumption)
           have q459 : x8_15 < (l0.length : Int) := of_decide_eq_true (by first | (with_reducible assumption) | assumption)
           obtain ⟨ad459, A459_0, c459_0, e459, hx459_0, hl459_0, hi459_0⟩ := at_L1 HR0.out x8_15 p459 q459
           cases e459
           have HR459_0 := a_ hi459_0
           have HC459_0 := a_ hl459_0
           clear hi459_0 hl459_0
           replace p459 := eq_true p459
           replace q459 := eq_true q459
           go_wp2
           repeat (go_quiet (fail); try go_wp2)
           go_ret
           exact ⟨by first | rfl | (simp; done) | (simp [*]; done), by repeat (first | exact Drawn0.refl _ | apply Drawn0.step)⟩
          rw [if_neg c26] at H
          have c26b0 : decide (x10_5 < 0) = false := decide_eq_false c26
          clear c26
          by_cases c27 : x9_4 = true
          ·subst c27
           have H1 := H; rw [if_pos rfl] at H1
           clear H
           have H := H1
           clear H1
           have H' := a_ H
           clear H
           have p459 : 0 ≤ (x8_15 : Int) := of_decide_eq_true (by first | (with_reducible assumption) | assumption)
           have q459 : x8_15 < (l0.length : Int) := of_decide_eq_true (by first | (with_reducible assumption) | assumption)
           obtain ⟨ad459, A459_0, c459_0, e459, hx459_0, hl459_0, hi459_0⟩ := at_L1 HR0.out x8_15 p459 q459
           cases e459
           have HR459_0 := a_ hi459_0
           have HC459_0 := a_ hl459_0
           clear hi459_0 hl459_0
           replace p459 := eq_true p459
           replace q459 := eq_true q459
           go_wp2
           repeat (go_quiet (fail); try go_wp2)
           go_roundg k5
           case measure => have := HK1.out; have := HJ4.out; have := HJ9.out; have := HJ15.out; have := HK5.out; omega
           case rel => exact ⟨(x10_5), (wrap64 (x7_1 + 1)), (by first | rfl | (simp; done) | (simp [*]; done)), (by first | rfl | (simp; done) | (simp [*]; done)), H', ⟨by have := HK1.out; have := HJ4.out; have := HJ9.out; have := HJ15.out; have := HK5.out; omega⟩, by repeat (first | exact Drawn0.refl _ | apply Drawn0.step)⟩
          replace c27 := Bool.eq_false_iff.mpr c27
          subst c27
          have H1 := H; rw [if_neg (show ¬ (false = true) by decide)] at H1
          clear H
          have H := H1
          clear H1
          by_cases c28 : 0 ≤ x10_5
          rotate_left
          ·rw [if_neg c28] at H
           exact absurd H (by simp)
          rw [if_pos c28] at H
          have c28b0 : decide (0 ≤ x10_5) = true := decide_eq_true c28
          clear c28
          by_cases c29 : x10_5 < ((rd_L1 l0 x8_15).length : Int)
          rotate_left
          ·rw [if_neg c29] at H
           exact absurd H (by simp)
          rw [if_pos c29] at H
          have c29b0 : decide (x10_5 < ((rd_L1 l0 x8_15).length : Int)) = true := decide_eq_true c29
          clear c29
          have H' := a_ H
          clear H
          have p459 : 0 ≤ (x8_15 : Int) := of_decide_eq_true (by first | (with_reducible assumption) | assumption)
          have q459 : x8_15 < (l0.length : Int) := of_decide_eq_true (by first | (with_reducible assumption) | assumption)
          obtain ⟨ad459, A459_0, c459_0, e459, hx459_0, hl459_0, hi459_0⟩ := at_L1 HR0.out x8_15 p459 q459
          cases e459
          have HR459_0 := a_ hi459_0
          have HC459_0 := a_ hl459_0
          clear hi459_0 hl459_0
          replace p459 := eq_true p459
          replace q459 := eq_true q459
          have p462 : 0 ≤ (x8_15 : Int) := of_decide_eq_true (by first | (with_reducible assumption) | assumption)
          have q462 : x8_15 < (l0.length : Int) := of_decide_eq_true (by first | (with_reducible assumption) | assumption)
          obtain ⟨ad462, A462_0, c462_0, e462, hx462_0, hl462_0, hi462_0⟩ := at_L1 HR0.out x8_15 p462 q462
          obtain rfl : ad459 = ad462 := (by injection e462)
          have HR462_0 := a_ hi462_0
          have HC462_0 := a_ hl462_0
          clear hi462_0 hl462_0
          replace p462 := eq_true p462
          replace q462 := eq_true q462
          have ea_ := Option.some.inj (hx459_0.symm.trans hx462_0)
          injection ea_ with ea_ en_ ec_
          subst ea_
          subst ec_
          clear en_
          have p463 : 0 ≤ (x10_5 : Int) := of_decide_eq_true (by first | (with_reducible assumption) | assumption)
          have q463 : x10_5 < ((rd_L1 l0 x8_15).length : Int) := of_decide_eq_true (by first | (with_reducible assumption) | assumption)
          obtain ⟨ad463, e463, hx463_0⟩ := Kd.at_int HR462_0.out x10_5 p463 q463
          cases e463
          replace p463 := eq_true p463
          replace q463 := eq_true q463
          go_wp2
          repeat (go_quiet (fail); try go_wp2)
          go_roundg k5
          case measure => have := HK1.out; have := HJ4.out; have := HJ9.out; have := HJ15.out; have := HK5.out; omega
          case rel => exact ⟨(rd (rd_L1 l0 x8_15) x10_5), (wrap64 (x7_1 + 1)), (by first | rfl | (simp; done) | (simp [*]; done)), (by first | rfl | (simp; done) | (simp [*]; done)), H', ⟨by have := HK1.out; have := HJ4.out; have := HJ9.out; have := HJ15.out; have := HK5.out; omega⟩, by repeat (first | exact Drawn0.refl _ | apply Drawn0.step)⟩
         rw [if_pos c21] at H
         have c21b0 : decide (x11_5 < ((rd_L1 l0 x8_15).length : Int)) = true := decide_eq_true c21
         clear c21
         by_cases c22 : x9_4 = true
         rotate_left
         ·replace c22 := Bool.eq_false_iff.mpr c22
          subst c22
          have H1 := H; rw [if_neg (show ¬ (false = true) by decide)] at H1
          clear H
          have H := H1
          clear H1
          by_cases c25 : x11_5 = x1_1
          rotate_left
          ·rw [if_neg c25] at H
           have c25b0 : (x11_5 == x1_1) = false := beq_eq_false_iff_ne.mpr c25
           have c25b1 : (x11_5 != x1_1) = true := bne_iff_ne.mpr c25
           have H' := a_ H
           clear H
           have p459 : 0 ≤ (x8_15 : Int) := of_decide_eq_true (by first | (with_reducible assumption) | assumption)
           have q459 : x8_15 < (l0.length : Int) := of_decide_eq_true (by first | (with_reducible assumption) | assumption)
           obtain ⟨ad459, A459_0, c459_0, e459, hx459_0, hl459_0, hi459_0⟩ := at_L1 HR0.out x8_15 p459 q459
           cases e459
           have HR459_0 := a_ hi459_0
           have HC459_0 := a_ hl459_0
           clear hi459_0 hl459_0
           replace p459 := eq_true p459
           replace q459 := eq_true q459
           go_wp2
           repeat (go_quiet (fail); try go_wp2)
           go_roundg k5
           case measure => have := HK1.out; have := HJ4.out; have := HJ9.out; have := HJ15.out; have := HK5.out; omega
           case rel => exact ⟨(x10_5), (wrap64 (x11_5 + 1)), (by first | rfl | (simp; done) | (simp [*]; done)), (by first | rfl | (simp; done) | (simp [*]; done)), H', ⟨by have := HK1.out; have := HJ4.out; have := HJ9.out; have := HJ15.out; have := HK5.out; omega⟩, by repeat (first | exact Drawn0.refl _ | apply Drawn0.step)⟩
          rw [if_pos c25] at H
          have c25b0 : (x11_5 == x1_1) = true := beq_iff_eq.mpr c25
          have c25b1 : (x11_5 != x1_1) = false := bne_eq_false_iff_eq.mpr c25
          clear c25
          have H' := a_ H
          clear H
          have p459 : 0 ≤ (x8_15 : Int) := of_decide_eq_true (by first | (with_reducible assumption) | assumption)
          have q459 : x8_15 < (l0.length : Int) := of_decide_eq_true (by first | (with_reducible assumption) | assumption)
          obtain ⟨ad459, A459_0, c459_0, e459, hx459_0, hl459_0, hi459_0⟩ := at_L1 HR0.out x8_15 p459 q459
          cases e459
          have HR459_0 := a_ hi459_0
          have HC459_0 := a_ hl459_0
          clear hi459_0 hl459_0
          replace p459 := eq_true p459
          replace q459 := eq_true q459
          go_wp2
          repeat (go_quiet (fail); try go_wp2)
          go_roundg k5
          case measure => have := HK1.out; have := HJ4.out; have := HJ9.out; have := HJ15.out; have := HK5.out; omega
          case rel => exact ⟨(x11_5), (wrap64 (x11_5 + 1)), (by first | rfl | (simp; done) | (simp [*]; done)), (by first | rfl | (simp; done) | (simp [*]; done)), H', ⟨by have := HK1.out; have := HJ4.out; have := HJ9.out; have := HJ15.out; have := HK5.out; omega⟩, by repeat (first | exact Drawn0.refl _ | apply Drawn0.step)⟩
         subst c22
         have H1 := H; rw [if_pos rfl] at H1
         clear H
         have H := H1
         clear H1
         by_cases c23 : 0 ≤ x11_5
         rotate_left
         ·rw [if_neg c23] at H
          exact absurd H (by simp)
         rw [if_pos c23] at H
         have c23b0 : decide (0 ≤ x11_5) = true := decide_eq_true c23
         clear c23
         by_cases c24 : (rd (rd_L1 l0 x8_15) x11_5) = x1_1
         rotate_left
         ·rw [if_neg c24] at H
          have c24b0 : ((rd (rd_L1 l0 x8_15) x11_5) == x1_1) = false := beq_eq_false_iff_ne.mpr c24
          have c24b1 : ((rd (rd_L1 l0 x8_15) x11_5) != x1_1) = true := bne_iff_ne.mpr c24
          have H' := a_ H
          clear H
          have p459 : 0 ≤ (x8_15 : Int) := of_decide_eq_true (by first | (with_reducible assumption) | assumption)
          have q459 : x8_15 < (l0.length : Int) := of_decide_eq_true (by first | (with_reducible assumption) | assumption)
          obtain ⟨ad459, A459_0, c459_0, e459, hx459_0, hl459_0, hi459_0⟩ := at_L1 HR0.out x8_15 p459 q459
          cases e459
          have HR459_0 := a_ hi459_0
          have HC459_0 := a_ hl459_0
          clear hi459_0 hl459_0
          replace p459 := eq_true p459
          replace q459 := eq_true q459
          have p460 : 0 ≤ (x8_15 : Int) := of_decide_eq_true (by first | (with_reducible assumption) | assumption)
          have q460 : x8_15 < (l0.length : Int) := of_decide_eq_true (by first | (with_reducible assumption) | assumption)
          obtain ⟨ad460, A460_0, c460_0, e460, hx460_0, hl460_0, hi460_0⟩ := at_L1 HR0.out x8_15 p460 q460
          obtain rfl : ad459 = ad460 := (by injection e460)
          have HR460_0 := a_ hi460_0
          have HC460_0 := a_ hl460_0
          clear hi460_0 hl460_0
          replace p460 := eq_true p460
          replace q460 := eq_true q460
          have ea_ := Option.some.inj (hx459_0.symm.trans hx460_0)
          injection ea_ with ea_ en_ ec_
          subst ea_
          subst ec_
          clear en_
          have p461 : 0 ≤ (x11_5 : Int) := of_decide_eq_true (by first | (with_reducible assumption) | assumption)
          have q461 : x11_5 < ((rd_L1 l0 x8_15).length : Int) := of_decide_eq_true (by first | (with_reducible assumption) | assumption)
          obtain ⟨ad461, e461, hx461_0⟩ := Kd.at_int HR460_0.out x11_5 p461 q461
          cases e461
          replace p461 := eq_true p461
          replace q461 := eq_true q461
          go_wp2
          repeat (go_quiet (fail); try go_wp2)
          go_roundg k5
          case measure => have := HK1.out; have := HJ4.out; have := HJ9.out; have := HJ15.out; have := HK5.out; omega
          case rel => exact ⟨(x10_5), (wrap64 (x11_5 + 1)), (by first | rfl | (simp; done) | (simp [*]; done)), (by first | rfl | (simp; done) | (simp [*]; done)), H', ⟨by have := HK1.out; have := HJ4.out; have := HJ9.out; have := HJ15.out; have := HK5.out; omega⟩, by repeat (first | exact Drawn0.refl _ | apply Drawn0.step)⟩
         rw [if_pos c24] at H
         have c24b0 : ((rd (rd_L1 l0 x8_15) x11_5) == x1_1) = true := beq_iff_eq.mpr c24
         have c24b1 : ((rd (rd_L1 l0 x8_15) x11_5) != x1_1) = false := bne_eq_false_iff_eq.mpr c24
         clear c24
         have H' := a_ H
         clear H
         have p459 : 0 ≤ (x8_15 : Int) := of_decide_eq_true (by first | (with_reducible assumption) | assumption)
         have q459 : x8_15 < (l0.length : Int) := of_decide_eq_true (by first | (with_reducible assumption) | assumption)
         obtain ⟨ad459, A459_0, c459_0, e459, hx459_0, hl459_0, hi459_0⟩ := at_L1 HR0.out x8_15 p459 q459
         cases e459
         have HR459_0 := a_ hi459_0
         have HC459_0 := a_ hl459_0
         clear hi459_0 hl459_0
         replace p459 := eq_true p459
         replace q459 := eq_true q459
         have p460 : 0 ≤ (x8_15 : Int) := of_decide_eq_true (by first | (with_reducible assumption) | assumption)
         have q460 : x8_15 < (l0.length : Int) := of_decide_eq_true (by first | (with_reducible assumption) | assumption)
         obtain ⟨ad460, A460_0, c460_0, e460, hx460_0, hl460_0, hi460_0⟩ := at_L1 HR0.out x8_15 p460 q460
         obtain rfl : ad459 = ad460 := (by injection e460)
         have HR460_0 := a_ hi460_0
         have HC460_0 := a_ hl460_0
         clear hi460_0 hl460_0
         replace p460 := eq_true p460
         replace q460 := eq_true q460
         have ea_ := Option.some.inj (hx459_0.symm.trans hx460_0)
         injection ea_ with ea_ en_ ec_
         subst ea_
         subst ec_
         clear en_
         have p461 : 0 ≤ (x11_5 : Int) := of_decide_eq_true (by first | (with_reducible assumption) | assumption)
         have q461 : x11_5 < ((rd_L1 l0 x8_15).length : Int) := of_decide_eq_true (by first | (with_reducible assumption) | assumption)
         obtain ⟨ad461, e461, hx461_0⟩ := Kd.at_int HR460_0.out x11_5 p461 q461
         cases e461
         replace p461 := eq_true p461
         replace q461 := eq_true q461
         go_wp2
         repeat (go_quiet (fail); try go_wp2)
         go_roundg k5
         case measure => have := HK1.out; have := HJ4.out; have := HJ9.out; have := HJ15.out; have := HK5.out; omega
         case rel => exact ⟨(x11_5), (wrap64 (x11_5 + 1)), (by first | rfl | (simp; done) | (simp [*]; done)), (by first | rfl | (simp; done) | (simp [*]; done)), H', ⟨by have := HK1.out; have := HJ4.out; have := HJ9.out; have := HJ15.out; have := HK5.out; omega⟩, by repeat (first | exact Drawn0.refl _ | apply Drawn0.step)⟩
theorem eqA100 (d : Nat) (w : World) (x0 y0 : Int) (x1 y1 : Int) :
  (Op.equalIn (d + 2) 100 (.agg #[.int .i64 x0, .int .i64 x1]) (.agg #[.int .i64 y0, .int .i64 y1])).run Try.prog w = .ok (x0 == y0 && (x1 == y1)) w := by
 have hu := Try.underlying100
 have hu3 := Try.underlying3
 have hs : (sizeOf 3).run Try.prog w = .ok 1 w := by kernel_rfl
 have he : ∀ a b : Int, (Op.equalIn (d+1) 3 (.int .i64 a) (.int .i64 b)).run Try.prog w = .ok (a == b) w := fun a b => by simp [Op.equalIn, run_underlying hu3]
 have p0 : ∀ u0 u1 : Value, (part 3 #[u0, u1] 0).run Try.prog w = .ok u0 w := fun _ _ => by kernel_rfl
 have p1 : ∀ u0 u1 : Value, (part 3 #[u0, u1] 1).run Try.prog w = .ok u1 w := fun _ _ => by kernel_rfl
 rw [Op.equalIn]
 simp [run_underlying hu, hs, Std.Legacy.Range.forIn_eq_forIn_range', List.range', he, p0, p1]
 rcases Decidable.em (x0 = y0) with h0 | h0 <;> rcases Decidable.em (x1 = y1) with h1 | h1 <;> simp [h0, h1, he, p0, p1]
end Go.Proofs.Ytifkldehbaphgaa.PAll
end
section
namespace Go.Proofs.Ytifkldehbaphgaa.PAll
open Go.RowKit Go.PW.PrintWords Go.PW.PrintLast Go.PW.PrintMore
attribute [local go_sem] max2_int min2_int max_two min_two
attribute [local go_sem high] eqA100
def c_pair_72.l0 : Nat → List (S100) → Int → Int → Int → Int → Option (Int)
 | 0, _, _, _, _, _ => none
 | k + 1, x0, x7, x8, Xa0, Xa1 => if x8 < x7 then (if 0 ≤ x8 then (if x8 < (x0.length : Int) then (if (Xa0 == ((rd_T100 x0 x8).f0) && (Xa1 == ((rd_T100 x0 x8).f1))) = true then (some x8) else (c_pair_72.l0 k x0 x7 (wrap64 (x8 + 1)) Xa0 Xa1)) else (none)) else (none)) else (some (-1))
def c_pair_72.f (k : Nat) (l0 : List (S100)) (a1_0 : Int) (a1_1 : Int) : Option (Int) := c_pair_72.l0 k l0 (l0.length : Int) 0 a1_0 a1_1
theorem c_pair_72.calls (k : Nat) (A0 : Option Addr) (c0 : Nat) (l0 : List (S100)) (a1_0 : Int) (a1_1 : Int) (r : Int) (w : World) (hr0 : Kd.C k100 w A0 l0.length l0) (hc0 : l0.length ≤ c0) (h : c_pair_72.f k l0 a1_0 a1_1 = some r) :
  Calls Try.prog 72 #[.slice A0 l0.length c0, .agg #[.int .i64 a1_0, .int .i64 a1_1]] w fun e w' => e = .returned (.int .i64 r) ∧ Below w.heap.size w w' := by
 have hu100 := Try.underlying100
 have HR0 := a_ hr0
 have HC0 := a_ hc0
 clear hr0 hc0
 have HB := a_ (Below.refl w.heap.size w)
 have H : (c_pair_72.l0 k l0 (l0.length : Int) 0 a1_0 a1_1) = some r := h
 clear h
 have H' := a_ H
 clear H
 go_enter Try.func72, Try.ntmps72
 go_wp2_with (first | ((with_reducible refine gate_dst (N := 3) rfl ?_); refine box_event ?hg (N := 3) ?hd (cs := #[.int .i64 a1_0, .int .i64 a1_1]) (t := 100) ?hr ?_; (case hd => rfl); (case hg => rfl); (case hr => first | (go_simp; done) | (go_simp; rfl)); intro gb455 hg w3 hbox hb; have BK455 := a_ (hbox); have GW455 := a_ ((by rw [hg]; exact (bZ_ (gr HB.out)) : w.heap.size ≤ gb455)); have GE455 := GEc.mk ((by rw [hg]; exact (bZ_ (gr HB.out)) : w.heap.size ≤ gb455)); replace HB := a_ (bT_ HB.out (tr hb)); clear hb hbox hg))
 repeat (go_quiet (first | ((with_reducible refine gate_dst (N := 3) rfl ?_); refine box_event ?hg (N := 3) ?hd (cs := #[.int .i64 a1_0, .int .i64 a1_1]) (t := 100) ?hr ?_; (case hd => rfl); (case hg => rfl); (case hr => first | (go_simp; done) | (go_simp; rfl)); intro gb455 hg w3 hbox hb; have BK455 := a_ (hbox); have GW455 := a_ ((by rw [hg]; exact (bZ_ (gr HB.out)) : w.heap.size ≤ gb455)); have GE455 := GEc.mk ((by rw [hg]; exact (bZ_ (gr HB.out)) : w.heap.size ≤ gb455)); replace HB := a_ (bT_ HB.out (tr hb)); clear hb hbox hg)); try go_wp2_with (first | ((with_reducible refine gate_dst (N := 3) rfl ?_); refine box_event ?hg (N := 3) ?hd (cs := #[.int .i64 a1_0, .int .i64 a1_1]) (t := 100) ?hr ?_; (case hd => rfl); (case hg => rfl); (case hr => first | (go_simp; done) | (go_simp; rfl)); intro gb455 hg w3 hbox hb; have BK455 := a_ (hbox); have GW455 := a_ ((by rw [hg]; exact (bZ_ (gr HB.out)) : w.heap.size ≤ gb455)); have GE455 := GEc.mk ((by rw [hg]; exact (bZ_ (gr HB.out)) : w.heap.size ≤ gb455)); replace HB := a_ (bT_ HB.out (tr hb)); clear hb hbox hg)))
 go_loopg [8] k (fun kq v8 w' => ∃ (x8_1 : Int), v8 = .int .i64 x8_1 ∧ Aside0 (c_pair_72.l0 kq l0 (l0.length : Int) x8_1 a1_0 a1_1 = some r) ∧ Aside0 (kq ≤ k) ∧ Aside0 (w'.heap[gb455]? = some (.cells #[.int .i64 a1_0, .int .i64 a1_1] 100 (0, 0))) ∧ Aside0 (Below w.heap.size w w'))
 case atStart => exact ⟨(0), (by first | rfl | (simp; done) | (simp [*]; done)), H', ⟨Nat.le_refl _⟩, ⟨by exact bk BK455.out⟩, ⟨by exact gs HB.out⟩⟩
 clear H'
 try clear p2
 obtain ⟨x8_1, rfl, HA, HK1, BK455, HB⟩ := hrel
 cases gk with
 | zero => exact absurd HA.out (by simp [c_pair_72.l0])
 | succ k1 =>
  have H := HA.out
  clear HA
  simp only [c_pair_72.l0] at H
  by_cases c4 : x8_1 < (l0.length : Int)
  rotate_left
  ·rw [if_neg c4] at H
   have c4b0 : decide (x8_1 < (l0.length : Int)) = false := decide_eq_false c4
   clear c4
   obtain rfl := Option.some.inj H
   go_wp2
   repeat (go_quiet (fail); try go_wp2)
   go_ret
   exact ⟨by first | rfl | (simp [errW_none, errW_some] <;> rfl) | (simp [*, errW_none, errW_some] <;> rfl), by exact gs HB.out⟩
  rw [if_pos c4] at H
  have c4b0 : decide (x8_1 < (l0.length : Int)) = true := decide_eq_true c4
  clear c4
  by_cases c5 : 0 ≤ x8_1
  rotate_left
  ·rw [if_neg c5] at H
   exact absurd H (by simp)
  rw [if_pos c5] at H
  have c5b0 : decide (0 ≤ x8_1) = true := decide_eq_true c5
  clear c5
  by_cases c6 : x8_1 < (l0.length : Int)
  rotate_left
  ·rw [if_neg c6] at H
   exact absurd H (by simp)
  rw [if_pos c6] at H
  have c6b0 : decide (x8_1 < (l0.length : Int)) = true := decide_eq_true c6
  clear c6
  by_cases c7 : (a1_0 == ((rd_T100 l0 x8_1).f0) && (a1_1 == ((rd_T100 l0 x8_1).f1))) = true
  ·rw [if_pos c7] at H
   have c7b0 : (a1_0 == ((rd_T100 l0 x8_1).f0) && (a1_1 == ((rd_T100 l0 x8_1).f1))) = true := c7
   (try (have c7b1 : decide (a1_0 = ((rd_T100 l0 x8_1).f0) && (a1_1 == ((rd_T100 l0 x8_1).f1))) = true := by simpa using c7))
   (try (have c7b2 : (a1_0 == ((rd_T100 l0 x8_1).f0) && (a1_1 == ((rd_T100 l0 x8_1).f1))) = true := by simpa using c7))
   clear c7
   obtain rfl := Option.some.inj H
   have hcz8_0 : wr.cell? ⟨gb455, 0, none⟩ = some (.int .i64 a1_0) := (kc_ BK455.out 0).trans rfl
   have hcz8_1 : wr.cell? ⟨gb455, 1, none⟩ = some (.int .i64 a1_1) := (kc_ BK455.out 1).trans rfl
   have hfz8_0 := kf_ BK455.out 0
   have hfz8_1 := kf_ BK455.out 1
   have p456 : 0 ≤ (x8_1 : Int) := of_decide_eq_true (by first | (with_reducible assumption) | assumption)
   have q456 : x8_1 < (l0.length : Int) := of_decide_eq_true (by first | (with_reducible assumption) | assumption)
   obtain ⟨ad456, e456, hx456_0, hx456_1⟩ := at_T100 HR0.out x8_1 p456 q456
   cases e456
   replace hx456_0 := (HB.out.cell (World.block_lt_of_cell? w _ hx456_0)).trans hx456_0
   replace hx456_1 := (HB.out.cell (World.block_lt_of_cell? w _ hx456_1)).trans hx456_1
   replace p456 := eq_true p456
   replace q456 := eq_true q456
   go_wp2
   repeat (go_quiet (fail); try go_wp2)
   go_ret
   exact ⟨by first | rfl | (simp [errW_none, errW_some] <;> rfl) | (simp [*, errW_none, errW_some] <;> rfl), by exact gs HB.out⟩
  rw [if_neg c7] at H
  have c7b0 : (a1_0 == ((rd_T100 l0 x8_1).f0) && (a1_1 == ((rd_T100 l0 x8_1).f1))) = false := by simpa using c7
  (try (have c7b1 : decide (a1_0 = ((rd_T100 l0 x8_1).f0) && (a1_1 == ((rd_T100 l0 x8_1).f1))) = false := by simpa using c7))
  (try (have c7b2 : (a1_0 == ((rd_T100 l0 x8_1).f0) && (a1_1 == ((rd_T100 l0 x8_1).f1))) = false := by simpa using c7))
  (try (have c7b3 : ¬ (a1_0 = ((rd_T100 l0 x8_1).f0) && (a1_1 == ((rd_T100 l0 x8_1).f1))) := by simpa using c7))
  clear c7
  have H' := a_ H
  clear H
  have hcz9_0 : wr.cell? ⟨gb455, 0, none⟩ = some (.int .i64 a1_0) := (kc_ BK455.out 0).trans rfl
  have hcz9_1 : wr.cell? ⟨gb455, 1, none⟩ = some (.int .i64 a1_1) := (kc_ BK455.out 1).trans rfl
  have hfz9_0 := kf_ BK455.out 0
  have hfz9_1 := kf_ BK455.out 1
  have p456 : 0 ≤ (x8_1 : Int) := of_decide_eq_true (by first | (with_reducible assumption) | assumption)
  have q456 : x8_1 < (l0.length : Int) := of_decide_eq_true (by first | (with_reducible assumption) | assumption)
  obtain ⟨ad456, e456, hx456_0, hx456_1⟩ := at_T100 HR0.out x8_1 p456 q456
  cases e456
  replace hx456_0 := (HB.out.cell (World.block_lt_of_cell? w _ hx456_0)).trans hx456_0
  replace hx456_1 := (HB.out.cell (World.block_lt_of_cell? w _ hx456_1)).trans hx456_1
  replace p456 := eq_true p456
  replace q456 := eq_true q456
  go_wp2
  repeat (go_quiet (fail); try go_wp2)
  go_roundg k1
  case measure => have := HK1.out; omega
  case rel => exact ⟨(wrap64 (x8_1 + 1)), (by first | rfl | (simp; done) | (simp [*]; done)), H', ⟨by have := HK1.out; omega⟩, ⟨by exact bk BK455.out⟩, ⟨by exact gs HB.out⟩⟩
end Go.Proofs.Ytifkldehbaphgaa.PAll
end
section
namespace Go.Proofs.Ytifkldehbaphgaa.PAll
open Go.RowKit Go.PW.PrintWords Go.PW.PrintLast Go.PW.PrintMore
attribute [local go_sem] max2_int min2_int max_two min_two
def c_pair_71.f (k : Nat) (l0 : List (S100)) (a1_0 : Int) (a1_1 : Int) : Option (Bool) := (c_pair_72.f k l0 a1_0 a1_1).bind fun t458 => (some (decide (t458 ≥ 0)))
theorem c_pair_71.calls (k : Nat) (A0 : Option Addr) (c0 : Nat) (l0 : List (S100)) (a1_0 : Int) (a1_1 : Int) (r : Bool) (w : World) (hr0 : Kd.C k100 w A0 l0.length l0) (hc0 : l0.length ≤ c0) (h : c_pair_71.f k l0 a1_0 a1_1 = some r) :
  Calls Try.prog 71 #[.slice A0 l0.length c0, .agg #[.int .i64 a1_0, .int .i64 a1_1]] w fun e w' => e = .returned (.bool r) ∧ Below w.heap.size w w' := by
 have hu100 := Try.underlying100
 have HR0 := a_ hr0
 have HC0 := a_ hc0
 clear hr0 hc0
 have HB := a_ (Below.refl w.heap.size w)
 have H : ((c_pair_72.f k l0 a1_0 a1_1).bind fun t458 => (some (decide (t458 ≥ 0)))) = some r := h
 clear h
 replace H := Option.bind_eq_some_iff.mp H
 obtain ⟨t458, A30, H⟩ := H
 try dsimp only at H
 have A3 := a_ A30
 clear A30
 obtain rfl := Option.some.inj H
 go_enter Try.func71, Try.ntmps71
 go_wp2_with (first | ((with_reducible refine gate_dst (N := 3) rfl ?_); refine box_event ?hg (N := 3) ?hd (cs := #[.int .i64 a1_0, .int .i64 a1_1]) (t := 100) ?hr ?_; (case hd => rfl); (case hg => rfl); (case hr => first | (go_simp; done) | (go_simp; rfl)); intro gb457 hg w4 hbox hb; have BK457 := a_ (hbox); have GW457 := a_ ((by rw [hg]; exact (bZ_ (gr HB.out)) : w.heap.size ≤ gb457)); have GE457 := GEc.mk ((by rw [hg]; exact (bZ_ (gr HB.out)) : w.heap.size ≤ gb457)); replace HB := a_ (bT_ HB.out (tr hb)); clear hb hbox hg; have hcz5_0 : w4.cell? ⟨gb457, 0, none⟩ = some (.int .i64 a1_0) := (kc_ BK457.out 0).trans rfl; have hcz5_1 : w4.cell? ⟨gb457, 1, none⟩ = some (.int .i64 a1_1) := (kc_ BK457.out 1).trans rfl; have hfz5_0 := kf_ BK457.out 0; have hfz5_1 := kf_ BK457.out 1) | ((with_reducible refine gate_callee (f := 72) rfl ?_); refine goesL_ (some 7) rfl rfl Try.func72 (by kernel_rfl) rfl #[.slice A0 l0.length c0, .agg #[.int .i64 a1_0, .int .i64 a1_1]] rfl (by (try simp only [List.map_toArray, List.map_cons, List.map_nil]); first | done | rfl | (simp only [List.length_drop, List.length_take]; rfl)) ?_; (with_reducible refine (c_pair_72.calls k _ _ l0 a1_0 a1_1 t458 _ ?side1 ?side2 A3.out).mono ?_); (case side1 => repeat (first | exact (Kd.C_below HR0.out HB.out) | (with_reducible refine Kd.C_alloc ?_ _) | (with_reducible refine Kd.C_drewN ?_ _) | (with_reducible refine Kd.C_drew ?_))); (case side2 => exact HC0.out); rintro e w6 ⟨rfl, hb⟩; refine ⟨_, rfl, ?_⟩; replace BK457 := a_ (kB_ BK457.out (tr hb)); replace HB := a_ (bT_ (by exact gs HB.out) hb); (try clear hb); (try clear hb2); (try clear hk); (try clear hi)))
 go_ret
 exact ⟨by first | rfl | (simp [errW_none, errW_some] <;> rfl) | (simp [*, errW_none, errW_some] <;> rfl), by exact gs HB.out⟩
end Go.Proofs.Ytifkldehbaphgaa.PAll
end
