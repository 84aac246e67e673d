/- The law CasingMeets returns true for every input: for any two tables, casing.Meet returns the table of the pairs that arise, or ErrArg. No condition. Part 1 of 4. -/
import Derived.Test.YtifkldehbaphgaaB3
set_option linter.all false
set_option maxHeartbeats 8000000
set_option maxRecDepth 100000
section
namespace Go.Proofs.Ytifkldehbaphgaa.PAll
open Go.RowKit Go.PW.PrintWords Go.PW.PrintLast Go.PW.PrintMore
attribute [local go_sem] max2_int min2_int max_two min_two
mutual
def rr_Table.j0 : Nat → List (List Int) → Bool → Option (Bool)
 | 0, _, _ => none
 | k + 1, x0, x14 => if x14 = true then (some false) else (if 0 < (x0.length : Int) then (rr_Table.l0 k x0 ((rd_L1 x0 0).length : Int) 0) else (none))
def rr_Table.l0 : Nat → List (List Int) → Int → Int → Option (Bool)
 | 0, _, _, _ => none
 | k + 1, x0, x3, x4 => if x4 < (x0.length : Int) then (if 0 ≤ x4 then (if ((rd_L1 x0 x4).length : Int) = x3 then (if x3 < 1 then (rr_Table.j2 k x0 x3 x4 true) else (rr_Table.j2 k x0 x3 x4 (decide (x3 > 5)))) else (rr_Table.j2 k x0 x3 x4 true)) else (none)) else (some true)
def rr_Table.j2 : Nat → List (List Int) → Int → Int → Bool → Option (Bool)
 | 0, _, _, _, _ => none
 | k + 1, x0, x3, x4, x39 => if x39 = true then (some false) else (rr_Table.l1 k x0 x3 x4 0)
def rr_Table.l1 : Nat → List (List Int) → Int → Int → Int → Option (Bool)
 | 0, _, _, _, _ => none
 | k + 1, x0, x3, x4, x5 => if x5 < x3 then (if 0 ≤ x4 then (if x4 < (x0.length : Int) then (if 0 ≤ x5 then (if x5 < ((rd_L1 x0 x4).length : Int) then (if (rd (rd_L1 x0 x4) x5) < 0 then (rr_Table.j4 k x0 x3 x4 x5 true) else (rr_Table.j4 k x0 x3 x4 x5 (decide ((rd (rd_L1 x0 x4) x5) ≥ x3)))) else (none)) else (none)) else (none)) else (none)) else (rr_Table.l0 k x0 x3 (wrap64 (x4 + 1)))
def rr_Table.j4 : Nat → List (List Int) → Int → Int → Int → Bool → Option (Bool)
 | 0, _, _, _, _, _ => none
 | k + 1, x0, x3, x4, x5, x63 => if x63 = true then (some false) else (rr_Table.l2 k x0 x3 x4 x5 0)
def rr_Table.l2 : Nat → List (List Int) → Int → Int → Int → Int → Option (Bool)
 | 0, _, _, _, _, _ => none
 | k + 1, x0, x3, x4, x5, x6 => if x6 < x5 then (if 0 ≤ x4 then (if x4 < (x0.length : Int) then (if 0 ≤ x6 then (if x6 < ((rd_L1 x0 x4).length : Int) then (if 0 ≤ x5 then (if x5 < ((rd_L1 x0 x4).length : Int) then (if (rd (rd_L1 x0 x4) x6) = (rd (rd_L1 x0 x4) x5) then (some false) else (rr_Table.l2 k x0 x3 x4 x5 (wrap64 (x6 + 1)))) else (none)) else (none)) else (none)) else (none)) else (none)) else (none)) else (rr_Table.l1 k x0 x3 x4 (wrap64 (x5 + 1)))
end
def rr_Table.f (k : Nat) (l0 : List (List Int)) : Option (Bool) := if (l0.length : Int) < 1 then (rr_Table.j0 k l0 true) else (rr_Table.j0 k l0 (decide ((l0.length : Int) > 2)))
theorem rr_Table.calls (k : Nat) (A0 : Option Addr) (c0 : Nat) (l0 : List (List Int)) (r : Bool) (w : World) (hr0 : Kd.C (Kd.slice 3 (Kd.int .i64)) w A0 l0.length l0) (hc0 : l0.length ≤ c0) (h : rr_Table.f k l0 = some r) :
  Calls Try.prog 29 #[.slice A0 l0.length c0] w fun e w' => e = .returned (.bool r) ∧ Drawn0 w w' := by
 have HR0 := a_ hr0
 have HC0 := a_ hc0
 clear hr0 hc0
 have H : (if (l0.length : Int) < 1 then (rr_Table.j0 k l0 true) else (rr_Table.j0 k l0 (decide ((l0.length : Int) > 2)))) = some r := h
 clear h
 have HC2 := a_ H
 clear H
 go_enter Try.func29, Try.ntmps29
 go_upto_region 1 with (fail)
 repeat (go_quiet (fail); go_upto_region 1 with (fail))
 go_cut [14] (fun v14 wc => ∃ (kq : Nat) (x14_1 : Bool), v14 = .bool x14_1 ∧ Aside0 (rr_Table.j0 kq l0 x14_1 = some r) ∧ Aside0 (kq ≤ k) ∧ Drawn0 w wc)
 case first =>
  have H := HC2.out
  clear HC2
  by_cases c3 : (l0.length : Int) < 1
  ·rw [if_pos c3] at H
   have c3b0 : decide ((l0.length : Int) < 1) = true := decide_eq_true c3
   have c3b1 : decide (l0.length < 1) = true := decide_eq_true (by omega)
   clear c3
   (first | rw [c3b0] | (simp only [i64_w, i32_w]; rw [c3b0]) | skip)
   have H' := a_ H
   clear H
   go_wp2
   repeat (go_quiet (fail); try go_wp2)
   go_meet
   case rel => exact ⟨_, (true), (by first | rfl | (simp; done) | (simp [*]; done)), H', ⟨by first | omega | exact Nat.le_refl _⟩, by repeat (first | exact Drawn0.refl _ | apply Drawn0.step)⟩
  rw [if_neg c3] at H
  have c3b0 : decide ((l0.length : Int) < 1) = false := decide_eq_false c3
  have c3b1 : decide (l0.length < 1) = false := decide_eq_false (by omega)
  clear c3
  (first | rw [c3b0] | (simp only [i64_w, i32_w]; rw [c3b0]) | skip)
  have H' := a_ H
  clear H
  go_wp2
  repeat (go_quiet (fail); try go_wp2)
  go_meet
  case rel => exact ⟨_, (decide ((l0.length : Int) > 2)), (by first | rfl | (simp; done) | (simp [*]; done)), H', ⟨by first | omega | exact Nat.le_refl _⟩, by repeat (first | exact Drawn0.refl _ | apply Drawn0.step)⟩
 case rest =>
  clear HC2
  try clear c2
  try clear p2
  try clear c3
  try clear c3b0
  try clear c3b1
  obtain ⟨kq, x14_1, rfl, HA, HJ1, ⟨mc1, rfl⟩⟩ := hcut
  cases kq with
  | zero => exact absurd HA.out (by simp [rr_Table.j0])
  | succ kj1 =>
   have H := HA.out
   clear HA
   simp only [rr_Table.j0] at H
   by_cases c4 : x14_1 = true
   ·subst c4
    have H1 := H; rw [if_pos rfl] at H1
    clear H
    have H := H1
    clear H1
    obtain rfl := Option.some.inj H
    go_wp2
    repeat (go_quiet (fail); try go_wp2)
    go_ret
    exact ⟨by first | rfl | (simp; done) | (simp [*]; done), by repeat (first | exact Drawn0.refl _ | apply Drawn0.step)⟩
   replace c4 := Bool.eq_false_iff.mpr c4
   subst c4
   have H1 := H; rw [if_neg (show ¬ (false = true) by decide)] at H1
   clear H
   have H := H1
   clear H1
   by_cases c5 : 0 < (l0.length : Int)
   rotate_left
   ·rw [if_neg c5] at H
    exact absurd H (by simp)
   rw [if_pos c5] at H
   have c5b0 : decide (0 < (l0.length : Int)) = true := decide_eq_true c5
   have c5b1 : decide (0 < l0.length) = true := decide_eq_true (by omega)
   clear c5
   have H' := a_ H
   clear H
   have p319 : 0 ≤ (0 : Int) := (by omega)
   have q319 : 0 < (l0.length : Int) := of_decide_eq_true (by first | (with_reducible assumption) | assumption)
   obtain ⟨ad319, A319_0, c319_0, e319, hx319_0, hl319_0, hi319_0⟩ := at_L1 HR0.out 0 p319 q319
   cases e319
   have qi319 : (0 < l0.length) = True := eq_true (by omega)
   (try rw [show ((0 : Int)).toNat = 0 from rfl] at hx319_0)
   (try rw [Addr.add_zero'] at hx319_0)
   have HR319_0 := a_ hi319_0
   have HC319_0 := a_ hl319_0
   clear hi319_0 hl319_0
   replace p319 := eq_true p319
   replace q319 := eq_true q319
   go_wp2
   repeat (go_quiet (fail); try go_wp2)
   go_loopg [4] kj1 (fun kq v4 w' => ∃ (x4_2 : Int), v4 = .int .i64 x4_2 ∧ Aside0 (rr_Table.l0 kq l0 ((rd_L1 l0 0).length : Int) x4_2 = some r) ∧ Aside0 (kq ≤ kj1) ∧ Drawn0 w w')
   case atStart => exact ⟨(0), (by first | rfl | (simp; done) | (simp [*]; done)), H', ⟨Nat.le_refl _⟩, by repeat (first | exact Drawn0.refl _ | apply Drawn0.step)⟩
   clear H'
   try clear c1
   try clear c2
   try clear p2
   try clear c3
   try clear c3b0
   try clear c3b1
   try clear p3
   try clear q3
   try clear hx3
   try clear qi3
   try clear c4
   try clear c5
   try clear c5b0
   try clear c5b1
   try clear hx319_0
   try clear p2
   try clear p319
   try clear q319
   obtain ⟨x4_2, rfl, HA, HK2, ⟨m2, rfl⟩⟩ := hrel
   cases gk with
   | zero => exact absurd HA.out (by simp [rr_Table.l0])
   | succ k2 =>
    have H := HA.out
    clear HA
    simp only [rr_Table.l0] at H
    by_cases c6 : x4_2 < (l0.length : Int)
    rotate_left
    ·rw [if_neg c6] at H
     have c6b0 : decide (x4_2 < (l0.length : Int)) = false := decide_eq_false c6
     clear c6
     obtain rfl := Option.some.inj H
     go_wp2
     repeat (go_quiet (fail); try go_wp2)
     go_ret
     exact ⟨by first | rfl | (simp; done) | (simp [*]; done), by repeat (first | exact Drawn0.refl _ | apply Drawn0.step)⟩
    rw [if_pos c6] at H
    have c6b0 : decide (x4_2 < (l0.length : Int)) = true := decide_eq_true c6
    clear c6
    have HC7 := a_ H
    clear H
    go_upto_region 7 with (fail)
    repeat (go_quiet (fail); go_upto_region 7 with (fail))
    go_cut [39] (fun v39 wc => ∃ (kq : Nat) (x39_6 : Bool), v39 = .bool x39_6 ∧ Aside0 (rr_Table.j2 kq l0 ((rd_L1 l0 0).length : Int) x4_2 x39_6 = some r) ∧ Aside0 (kq ≤ k2) ∧ Drawn0 w wc)
    case first =>
     have H := HC7.out
     clear HC7
     by_cases c8 : 0 ≤ x4_2
     rotate_left
     ·rw [if_neg c8] at H
      exact absurd H (by simp)
     rw [if_pos c8] at H
     have c8b0 : decide (0 ≤ x4_2) = true := decide_eq_true c8
     clear c8
     (first | rw [c8b0] | (simp only [i64_w, i32_w]; rw [c8b0]) | skip)
     by_cases c9 : ((rd_L1 l0 x4_2).length : Int) = ((rd_L1 l0 0).length : Int)
     rotate_left
     ·rw [if_neg c9] at H
      have c9b0 : (((rd_L1 l0 x4_2).length : Int) == ((rd_L1 l0 0).length : Int)) = false := beq_eq_false_iff_ne.mpr c9
      have c9b1 : (((rd_L1 l0 x4_2).length : Int) != ((rd_L1 l0 0).length : Int)) = true := bne_iff_ne.mpr c9
      have c9b2 : ((rd_L1 l0 x4_2).length == (rd_L1 l0 0).length) = false := by first | simpa using c9 | (simp at c9 ⊢; omega)
      have H' := a_ H
      clear H
      have p320 : 0 ≤ (x4_2 : Int) := of_decide_eq_true (by first | (with_reducible assumption) | assumption)
      have q320 : x4_2 < (l0.length : Int) := of_decide_eq_true (by first | (with_reducible assumption) | assumption)
      obtain ⟨ad320, A320_0, c320_0, e320, hx320_0, hl320_0, hi320_0⟩ := at_L1 HR0.out x4_2 p320 q320
      obtain rfl : ad319 = ad320 := (by injection e320)
      have HR320_0 := a_ hi320_0
      have HC320_0 := a_ hl320_0
      clear hi320_0 hl320_0
      replace p320 := eq_true p320
      replace q320 := eq_true q320
      go_wp2
      repeat (go_quiet (fail); try go_wp2)
      go_meet
      case rel => exact ⟨_, (true), (by first | rfl | (simp; done) | (simp [*]; done)), H', ⟨by have := HJ1.out; have := HK2.out; first | omega | exact Nat.le_refl _⟩, by repeat (first | exact Drawn0.refl _ | apply Drawn0.step)⟩
     rw [if_pos c9] at H
     have c9b0 : (((rd_L1 l0 x4_2).length : Int) == ((rd_L1 l0 0).length : Int)) = true := beq_iff_eq.mpr c9
     have c9b1 : (((rd_L1 l0 x4_2).length : Int) != ((rd_L1 l0 0).length : Int)) = false := bne_eq_false_iff_eq.mpr c9
     have c9b2 : ((rd_L1 l0 x4_2).length == (rd_L1 l0 0).length) = true := by first | simpa using c9 | (simp at c9 ⊢; omega)
     clear c9
     by_cases c10 : ((rd_L1 l0 0).length : Int) < 1
     ·rw [if_pos c10] at H
      have c10b0 : decide (((rd_L1 l0 0).length : Int) < 1) = true := decide_eq_true c10
      have c10b1 : decide ((rd_L1 l0 0).length < 1) = true := decide_eq_true (by omega)
      clear c10
      have H' := a_ H
      clear H
      have p320 : 0 ≤ (x4_2 : Int) := of_decide_eq_true (by first | (with_reducible assumption) | assumption)
      have q320 : x4_2 < (l0.length : Int) := of_decide_eq_true (by first | (with_reducible assumption) | assumption)
      obtain ⟨ad320, A320_0, c320_0, e320, hx320_0, hl320_0, hi320_0⟩ := at_L1 HR0.out x4_2 p320 q320
      obtain rfl : ad319 = ad320 := (by injection e320)
      have HR320_0 := a_ hi320_0
      have HC320_0 := a_ hl320_0
      clear hi320_0 hl320_0
      replace p320 := eq_true p320
      replace q320 := eq_true q320
      go_wp2
      repeat (go_quiet (fail); try go_wp2)
      go_meet
      case rel => exact ⟨_, (true), (by first | rfl | (simp; done) | (simp [*]; done)), H', ⟨by have := HJ1.out; have := HK2.out; first | omega | exact Nat.le_refl _⟩, by repeat (first | exact Drawn0.refl _ | apply Drawn0.step)⟩
     rw [if_neg c10] at H
     have c10b0 : decide (((rd_L1 l0 0).length : Int) < 1) = false := decide_eq_false c10
     have c10b1 : decide ((rd_L1 l0 0).length < 1) = false := decide_eq_false (by omega)
     clear c10
     have H' := a_ H
     clear H
     have p320 : 0 ≤ (x4_2 : Int) := of_decide_eq_true (by first | (with_reducible assumption) | assumption)
     have q320 : x4_2 < (l0.length : Int) := of_decide_eq_true (by first | (with_reducible assumption) | assumption)
     obtain ⟨ad320, A320_0, c320_0, e320, hx320_0, hl320_0, hi320_0⟩ := at_L1 HR0.out x4_2 p320 q320
     obtain rfl : ad319 = ad320 := (by injection e320)
     have HR320_0 := a_ hi320_0
     have HC320_0 := a_ hl320_0
     clear hi320_0 hl320_0
     replace p320 := eq_true p320
     replace q320 := eq_true q320
     go_wp2
     repeat (go_quiet (fail); try go_wp2)
     go_meet
     case rel => exact ⟨_, (decide (((rd_L1 l0 0).length : Int) > 5)), (by first | rfl | (simp; done) | (simp [*]; done)), H', ⟨by have := HJ1.out; have := HK2.out; first | omega | exact Nat.le_refl _⟩, by repeat (first | exact Drawn0.refl _ | apply Drawn0.step)⟩
    case rest =>
     clear HC7
     try clear c1
     try clear c2
     try clear p2
     try clear c3
     try clear c3b0
     try clear c3b1
     try clear p3
     try clear q3
     try clear hx3
     try clear qi3
     try clear c4
     try clear c5
     try clear c5b0
     try clear c5b1
     try clear c6
     try clear c6b0
     try clear c8
     try clear c8b0
     try clear c9
     try clear c9b0
     try clear c9b1
     try clear c9b2
     try clear c10
     try clear c10b0
     try clear c10b1
     try clear hx319_0
     try clear hx320_0
     try clear p2
     try clear p3
     try clear p319
     try clear p320
     try clear q3
     try clear q319
     try clear q320
     obtain ⟨kq, x39_6, rfl, HA, HJ6, ⟨mc6, rfl⟩⟩ := hcut
     cases kq with
     | zero => exact absurd HA.out (by simp [rr_Table.j2])
     | succ kj6 =>
      have H := HA.out
      clear HA
      simp only [rr_Table.j2] at H
      by_cases c11 : x39_6 = true
      ·subst c11
       have H1 := H; rw [if_pos rfl] at H1
       clear H
       have H := H1
       clear H1
       obtain rfl := Option.some.inj H
       go_wp2
       repeat (go_quiet (fail); try go_wp2)
       go_ret
       exact ⟨by first | rfl | (simp; done) | (simp [*]; done), by repeat (first | exact Drawn0.refl _ | apply Drawn0.step)⟩
      replace c11 := Bool.eq_false_iff.mpr c11
      subst c11
      have H1 := H; rw [if_neg (show ¬ (false = true) by decide)] at H1
      clear H
      have H := H1
      clear H1
      have H' := a_ H
      clear H
      go_wp2
      repeat (go_quiet (fail); try go_wp2)
      go_loopg [5] kj6 (fun kq v5 w' => ∃ (x5_4 : Int), v5 = .int .i64 x5_4 ∧ Aside0 (rr_Table.l1 kq l0 ((rd_L1 l0 0).length : Int) x4_2 x5_4 = some r) ∧ Aside0 (kq ≤ kj6) ∧ Drawn0 w w')
      case atStart => exact ⟨(0), (by first | rfl | (simp; done) | (simp [*]; done)), H', ⟨Nat.le_refl _⟩, by repeat (first | exact Drawn0.refl _ | apply Drawn0.step)⟩
      clear H'
      try clear c1
      try clear c2
      try clear p2
      try clear c3
      try clear c3b0
      try clear c3b1
      try clear p3
      try clear q3
      try clear hx3
      try clear qi3
      try clear c4
      try clear c5
      try clear c5b0
      try clear c5b1
      try clear c6
      try clear c6b0
      try clear c8
      try clear c8b0
      try clear c9
      try clear c9b0
      try clear c9b1
      try clear c9b2
      try clear c10
      try clear c10b0
      try clear c10b1
      try clear c11
      try clear hx319_0
      try clear hx320_0
      try clear p2
      try clear p3
      try clear p319
      try clear p320
      try clear q3
      try clear q319
      try clear q320
      obtain ⟨x5_4, rfl, HA, HK4, ⟨m4, rfl⟩⟩ := hrel
      cases gk with
      | zero => exact absurd HA.out (by simp [rr_Table.l1])
      | succ k4 =>
       have H := HA.out
       clear HA
       simp only [rr_Table.l1] at H
       by_cases c12 : x5_4 < ((rd_L1 l0 0).length : Int)
       rotate_left
       ·rw [if_neg c12] at H
        have c12b0 : decide (x5_4 < ((rd_L1 l0 0).length : Int)) = false := decide_eq_false c12
        clear c12
        have H' := a_ H
        clear H
        go_wp2
        repeat (go_quiet (fail); try go_wp2)
        go_roundg k4
        case measure => have := HJ1.out; have := HK2.out; have := HJ6.out; have := HK4.out; omega
        case rel => exact ⟨(wrap64 (x4_2 + 1)), (by first | rfl | (simp; done) | (simp [*]; done)), H', ⟨by have := HJ1.out; have := HK2.out; have := HJ6.out; have := HK4.out; omega⟩, by repeat (first | exact Drawn0.refl _ | apply Drawn0.step)⟩
       rw [if_pos c12] at H
       have c12b0 : decide (x5_4 < ((rd_L1 l0 0).length : Int)) = true := decide_eq_true c12
       clear c12
       have HC13 := a_ H
       clear H
       go_upto_region 12 with (fail)
       repeat (go_quiet (fail); go_upto_region 12 with (fail))
       go_cut [63] (fun v63 wc => ∃ (kq : Nat) (x63_12 : Bool), v63 = .bool x63_12 ∧ Aside0 (rr_Table.j4 kq l0 ((rd_L1 l0 0).length : Int) x4_2 x5_4 x63_12 = some r) ∧ Aside0 (kq ≤ k4) ∧ Drawn0 w wc)
       case first =>
        have H := HC13.out
        clear HC13
        by_cases c14 : 0 ≤ x4_2
        rotate_left
        ·rw [if_neg c14] at H
         exact absurd H (by simp)
        rw [if_pos c14] at H
        have c14b0 : decide (0 ≤ x4_2) = true := decide_eq_true c14
        clear c14
        (first | rw [c14b0] | (simp only [i64_w, i32_w]; rw [c14b0]) | skip)
        by_cases c15 : x4_2 < (l0.length : Int)
        rotate_left
        ·rw [if_neg c15] at H
         exact absurd H (by simp)
        rw [if_pos c15] at H
        have c15b0 : decide (x4_2 < (l0.length : Int)) = true := decide_eq_true c15
        clear c15
        by_cases c16 : 0 ≤ x5_4
        rotate_left
        ·rw [if_neg c16] at H
         exact absurd H (by simp)
        rw [if_pos c16] at H
        have c16b0 : decide (0 ≤ x5_4) = true := decide_eq_true c16
        clear c16
        by_cases c17 : x5_4 < ((rd_L1 l0 x4_2).length : Int)
        rotate_left
        ·rw [if_neg c17] at H
         exact absurd H (by simp)
        rw [if_pos c17] at H
        have c17b0 : decide (x5_4 < ((rd_L1 l0 x4_2).length : Int)) = true := decide_eq_true c17
        clear c17
        by_cases c18 : (rd (rd_L1 l0 x4_2) x5_4) < 0
        ·rw [if_pos c18] at H
         have c18b0 : decide ((rd (rd_L1 l0 x4_2) x5_4) < 0) = true := decide_eq_true c18
         clear c18
         have H' := a_ H
         clear H
         have p321 : 0 ≤ (x4_2 : Int) := of_decide_eq_true (by first | (with_reducible assumption) | assumption)
         have q321 : x4_2 < (l0.length : Int) := of_decide_eq_true (by first | (with_reducible assumption) | assumption)
         obtain ⟨ad321, A321_0, c321_0, e321, hx321_0, hl321_0, hi321_0⟩ := at_L1 HR0.out x4_2 p321 q321
         obtain rfl : ad319 = ad321 := (by injection e321)
         have HR321_0 := a_ hi321_0
         have HC321_0 := a_ hl321_0
         clear hi321_0 hl321_0
         replace p321 := eq_true p321
         replace q321 := eq_true q321
         have p322 : 0 ≤ (x5_4 : Int) := of_decide_eq_true (by first | (with_reducible assumption) | assumption)
         have q322 : x5_4 < ((rd_L1 l0 x4_2).length : Int) := of_decide_eq_true (by first | (with_reducible assumption) | assumption)
         obtain ⟨ad322, e322, hx322_0⟩ := Kd.at_int HR321_0.out x5_4 p322 q322
         cases e322
         replace p322 := eq_true p322
         replace q322 := eq_true q322
         go_wp2
         repeat (go_quiet (fail); try go_wp2)
         go_meet
         case rel => exact ⟨_, (true), (by first | rfl | (simp; done) | (simp [*]; done)), H', ⟨by have := HJ1.out; have := HK2.out; have := HJ6.out; have := HK4.out; first | omega | exact Nat.le_refl _⟩, by repeat (first | exact Drawn0.refl _ | apply Drawn0.step)⟩
        rw [if_neg c18] at H
        have c18b0 : decide ((rd (rd_L1 l0 x4_2) x5_4) < 0) = false := decide_eq_false c18
        clear c18
        have H' := a_ H
        clear H
        have p321 : 0 ≤ (x4_2 : Int) := of_decide_eq_true (by first | (with_reducible assumption) | assumption)
        have q321 : x4_2 < (l0.length : Int) := of_decide_eq_true (by first | (with_reducible assumption) | assumption)
        obtain ⟨ad321, A321_0, c321_0, e321, hx321_0, hl321_0, hi321_0⟩ := at_L1 HR0.out x4_2 p321 q321
        obtain rfl : ad319 = ad321 := (by injection e321)
        have HR321_0 := a_ hi321_0
        have HC321_0 := a_ hl321_0
        clear hi321_0 hl321_0
        replace p321 := eq_true p321
        replace q321 := eq_true q321
        have p322 : 0 ≤ (x5_4 : Int) := of_decide_eq_true (by first | (with_reducible assumption) | assumption)
        have q322 : x5_4 < ((rd_L1 l0 x4_2).length : Int) := of_decide_eq_true (by first | (with_reducible assumption) | assumption)
        obtain ⟨ad322, e322, hx322_0⟩ := Kd.at_int HR321_0.out x5_4 p322 q322
        cases e322
        replace p322 := eq_true p322
        replace q322 := eq_true q322
        have p323 : 0 ≤ (x4_2 : Int) := of_decide_eq_true (by first | (with_reducible assumption) | assumption)
        have q323 : x4_2 < (l0.length : Int) := of_decide_eq_true (by first | (with_reducible assumption) | assumption)
        obtain ⟨ad323, A323_0, c323_0, e323, hx323_0, hl323_0, hi323_0⟩ := at_L1 HR0.out x4_2 p323 q323
        obtain rfl : ad319 = ad323 := (by injection e323)
        have HR323_0 := a_ hi323_0
        have HC323_0 := a_ hl323_0
        clear hi323_0 hl323_0
        replace p323 := eq_true p323
        replace q323 := eq_true q323
        have ea_ := Option.some.inj (hx321_0.symm.trans hx323_0)
        injection ea_ with ea_ en_ ec_
        subst ea_
        subst ec_
        clear en_
        have p324 : 0 ≤ (x5_4 : Int) := of_decide_eq_true (by first | (with_reducible assumption) | assumption)
        have q324 : x5_4 < ((rd_L1 l0 x4_2).length : Int) := of_decide_eq_true (by first | (with_reducible assumption) | assumption)
        obtain ⟨ad324, e324, hx324_0⟩ := Kd.at_int HR323_0.out x5_4 p324 q324
        cases e324
        replace p324 := eq_true p324
        replace q324 := eq_true q324
        go_wp2
        repeat (go_quiet (fail); try go_wp2)
        go_meet
        case rel => exact ⟨_, (decide ((rd (rd_L1 l0 x4_2) x5_4) ≥ ((rd_L1 l0 0).length : Int))), (by first | rfl | (simp; done) | (simp [*]; done)), H', ⟨by have := HJ1.out; have := HK2.out; have := HJ6.out; have := HK4.out; first | omega | exact Nat.le_refl _⟩, by repeat (first | exact Drawn0.refl _ | apply Drawn0.step)⟩
       case rest =>
        clear HC13
        try clear c1
        try clear c2
        try clear p2
        try clear c3
        try clear c3b0
        try clear c3b1
        try clear p3
        try clear q3
        try clear hx3
        try clear qi3
        try clear c4
        try clear c5
        try clear c5b0
        try clear c5b1
        try clear c6
        try clear c6b0
        try clear c8
        try clear c8b0
        try clear c9
        try clear c9b0
        try clear c9b1
        try clear c9b2
        try clear c10
        try clear c10b0
        try clear c10b1
        try clear c11
        try clear c12
        try clear c12b0
        try clear c14
        try clear c14b0
        try clear c15
        try clear c15b0
        try clear c16
        try clear c16b0
        try clear c17
        try clear c17b0
        try clear c18
        try clear c18b0
        try clear hx319_0
        try clear hx320_0
        try clear hx321_0
        try clear hx322_0
        try clear hx323_0
        try clear hx324_0
        try clear p2
        try clear p3
        try clear p319
        try clear p320
        try clear p321
        try clear p322
        try clear p323
        try clear p324
        try clear q3
        try clear q319
        try clear q320
        try clear q321
        try clear q322
        try clear q323
        try clear q324
        obtain ⟨kq, x63_12, rfl, HA, HJ12, ⟨mc12, rfl⟩⟩ := hcut
        cases kq with
        | zero => exact absurd HA.out (by simp [rr_Table.j4])
        | succ kj12 =>
         have H := HA.out
         clear HA
         simp only [rr_Table.j4] at H
         by_cases c19 : x63_12 = true
         ·subst c19
          have H1 := H; rw [if_pos rfl] at H1
          clear H
          have H := H1
          clear H1
          obtain rfl := Option.some.inj H
          go_wp2
          repeat (go_quiet (fail); try go_wp2)
          go_ret
          exact ⟨by first | rfl | (simp; done) | (simp [*]; done), by repeat (first | exact Drawn0.refl _ | apply Drawn0.step)⟩
         replace c19 := Bool.eq_false_iff.mpr c19
         subst c19
         have H1 := H; rw [if_neg (show ¬ (false = true) by decide)] at H1
         clear H
         have H := H1
         clear H1
         have H' := a_ H
         clear H
         go_wp2
         repeat (go_quiet (fail); try go_wp2)
         go_loopg [6] kj12 (fun kq v6 w' => ∃ (x6_6 : Int), v6 = .int .i64 x6_6 ∧ Aside0 (rr_Table.l2 kq l0 ((rd_L1 l0 0).length : Int) x4_2 x5_4 x6_6 = some r) ∧ Aside0 (kq ≤ kj12) ∧ Drawn0 w w')
         case atStart => exact ⟨(0), (by first | rfl | (simp; done) | (simp [*]; done)), H', ⟨Nat.le_refl _⟩, by repeat (first | exact Drawn0.refl _ | apply Drawn0.step)⟩
         clear H'
         try clear c1
         try clear c2
         try clear p2
         try clear c3
         try clear c3b0
         try clear c3b1
         try clear p3
         try clear q3
         try clear hx3
         try clear qi3
         try clear c4
         try clear c5
         try clear c5b0
         try clear c5b1
         try clear c6
         try clear c6b0
         try clear c8
         try clear c8b0
         try clear c9
         try clear c9b0
         try clear c9b1
         try clear c9b2
         try clear c10
         try clear c10b0
         try clear c10b1
         try clear c11
         try clear c12
         try clear c12b0
         try clear c14
         try clear c14b0
         try clear c15
         try clear c15b0
         try clear c16
         try clear c16b0
         try clear c17
         try clear c17b0
         try clear c18
         try clear c18b0
         try clear c19
         try clear hx319_0
         try clear hx320_0
         try clear hx321_0
         try clear hx322_0
         try clear hx323_0
         try clear hx324_0
         try clear p2
         try clear p3
         try clear p319
         try clear p320
         try clear p321
         try clear p322
         try clear p323
         try clear p324
         try clear q3
         try clear q319
         try clear q320
         try clear q321
         try clear q322
         try clear q323
         try clear q324
         obtain ⟨x6_6, rfl, HA, HK6, ⟨m6, rfl⟩⟩ := hrel
         cases gk with
         | zero => exact absurd HA.out (by simp [rr_Table.l2])
         | succ k6 =>
          have H := HA.out
          clear HA
          simp only [rr_Table.l2] at H
          by_cases c20 : x6_6 < x5_4
          rotate_left
          ·rw [if_neg c20] at H
           have c20b0 : decide (x6_6 < x5_4) = false := decide_eq_false c20
           clear c20
           have H' := a_ H
           clear H
           go_wp2
           repeat (go_quiet (fail); try go_wp2)
           go_roundg k6
           case measure => have := HJ1.out; have := HK2.out; have := HJ6.out; have := HK4.out; have := HJ12.out; have := HK6.out; omega
           case rel => exact ⟨(wrap64 (x5_4 + 1)), (by first | rfl | (simp; done) | (simp [*]; done)), H', ⟨by have := HJ1.out; have := HK2.out; have := HJ6.out; have := HK4.out; have := HJ12.out; have := HK6.out; omega⟩, by repeat (first | exact Drawn0.refl _ | apply Drawn0.step)⟩
          rw [if_pos c20] at H
          have c20b0 : decide (x6_6 < x5_4) = true := decide_eq_true c20
          clear c20
          by_cases c21 : 0 ≤ x4_2
          rotate_left
          ·rw [if_neg c21] at H
           exact absurd H (by simp)
          rw [if_pos c21] at H
          have c21b0 : decide (0 ≤ x4_2) = true := decide_eq_true c21
          clear c21
          by_cases c22 : x4_2 < (l0.length : Int)
          rotate_left
          ·rw [if_neg c22] at H
           exact absurd H (by simp)
          rw [if_pos c22] at H
          have c22b0 : decide (x4_2 < (l0.length : Int)) = true := decide_eq_true c22
          clear c22
          by_cases c23 : 0 ≤ x6_6
          rotate_left
          ·rw [if_neg c23] at H
           exact absurd H (by simp)
          rw [if_pos c23] at H
          have c23b0 : decide (0 ≤ x6_6) = true := decide_eq_true c23
          clear c23
          by_cases c24 : x6_6 < ((rd_L1 l0 x4_2).length : Int)
          rotate_left
          ·rw [if_neg c24] at H
           exact absurd H (by simp)
          rw [if_pos c24] at H
          have c24b0 : decide (x6_6 < ((rd_L1 l0 x4_2).length : Int)) = true := decide_eq_true c24
          clear c24
          by_cases c25 : 0 ≤ x5_4
          rotate_left
          ·rw [if_neg c25] at H
           exact absurd H (by simp)
          rw [if_pos c25] at H
          have c25b0 : decide (0 ≤ x5_4) = true := decide_eq_true c25
          clear c25
          by_cases c26 : x5_4 < ((rd_L1 l0 x4_2).length : Int)
          rotate_left
          ·rw [if_neg c26] at H
           exact absurd H (by simp)
          rw [if_pos c26] at H
          have c26b0 : decide (x5_4 < ((rd_L1 l0 x4_2).length : Int)) = true := decide_eq_true c26
          clear c26
          by_cases c27 : (rd (rd_L1 l0 x4_2) x6_6) = (rd (rd_L1 l0 x4_2) x5_4)
          ·rw [if_pos c27] at H
           have c27b0 : ((rd (rd_L1 l0 x4_2) x6_6) == (rd (rd_L1 l0 x4_2) x5_4)) = true := beq_iff_eq.mpr c27
           have c27b1 : ((rd (rd_L1 l0 x4_2) x6_6) != (rd (rd_L1 l0 x4_2) x5_4)) = false := bne_eq_false_iff_eq.mpr c27
           clear c27
           obtain rfl := Option.some.inj H
           have p325 : 0 ≤ (x4_2 : Int) := of_decide_eq_true (by first | (with_reducible assumption) | assumption)
           have q325 : x4_2 < (l0.length : Int) := of_decide_eq_true (by first | (with_reducible assumption) | assumption)
           obtain ⟨ad325, A325_0, c325_0, e325, hx325_0, hl325_0, hi325_0⟩ := at_L1 HR0.out x4_2 p325 q325
           obtain rfl : ad319 = ad325 := (by injection e325)
           have HR325_0 := a_ hi325_0
           have HC325_0 := a_ hl325_0
           clear hi325_0 hl325_0
           replace p325 := eq_true p325
           replace q325 := eq_true q325
           have p326 : 0 ≤ (x6_6 : Int) := of_decide_eq_true (by first | (with_reducible assumption) | assumption)
           have q326 : x6_6 < ((rd_L1 l0 x4_2).length : Int) := of_decide_eq_true (by first | (with_reducible assumption) | assumption)
           obtain ⟨ad326, e326, hx326_0⟩ := Kd.at_int HR325_0.out x6_6 p326 q326
           cases e326
           replace p326 := eq_true p326
           replace q326 := eq_true q326
           have p327 : 0 ≤ (x4_2 : Int) := of_decide_eq_true (by first | (with_reducible assumption) | assumption)
           have q327 : x4_2 < (l0.length : Int) := of_decide_eq_true (by first | (with_reducible assumption) | assumption)
           obtain ⟨ad327, A327_0, c327_0, e327, hx327_0, hl327_0, hi327_0⟩ := at_L1 HR0.out x4_2 p327 q327
           obtain rfl : ad319 = ad327 := (by injection e327)
           have HR327_0 := a_ hi327_0
           have HC327_0 := a_ hl327_0
           clear hi327_0 hl327_0
           replace p327 := eq_true p327
           replace q327 := eq_true q327
           have ea_ := Option.some.inj (hx325_0.symm.trans hx327_0)
           injection ea_ with ea_ en_ ec_
           subst ea_
           subst ec_
           clear en_
           have p328 : 0 ≤ (x5_4 : Int) := of_decide_eq_true (by first | (with_reducible assumption) | assumption)
           have q328 : x5_4 < ((rd_L1 l0 x4_2).length : Int) := of_decide_eq_true (by first | (with_reducible assumption) | assumption)
           obtain ⟨ad328, e328, hx328_0⟩ := Kd.at_int HR327_0.out x5_4 p328 q328
           cases e328
           replace p328 := eq_true p328
           replace q328 := eq_true q328
           go_wp2
           repeat (go_quiet (fail); try go_wp2)
           go_ret
           exact ⟨by first | rfl | (simp; done) | (simp [*]; done), by repeat (first | exact Drawn0.refl _ | apply Drawn0.step)⟩
          rw [if_neg c27] at H
          have c27b0 : ((rd (rd_L1 l0 x4_2) x6_6) == (rd (rd_L1 l0 x4_2) x5_4)) = false := beq_eq_false_iff_ne.mpr c27
          have c27b1 : ((rd (rd_L1 l0 x4_2) x6_6) != (rd (rd_L1 l0 x4_2) x5_4)) = true := bne_iff_ne.mpr c27
          have H' := a_ H
          clear H
          have p325 : 0 ≤ (x4_2 : Int) := of_decide_eq_true (by first | (with_reducible assumption) | assumption)
          have q325 : x4_2 < (l0.length : Int) := of_decide_eq_true (by first | (with_reducible assumption) | assumption)
          obtain ⟨ad325, A325_0, c325_0, e325, hx325_0, hl325_0, hi325_0⟩ := at_L1 HR0.out x4_2 p325 q325
          obtain rfl : ad319 = ad325 := (by injection e325)
          have HR325_0 := a_ hi325_0
          have HC325_0 := a_ hl325_0
          clear hi325_0 hl325_0
          replace p325 := eq_true p325
          replace q325 := eq_true q325
          have p326 : 0 ≤ (x6_6 : Int) := of_decide_eq_true (by first | (with_reducible assumption) | assumption)
          have q326 : x6_6 < ((rd_L1 l0 x4_2).length : Int) := of_decide_eq_true (by first | (with_reducible assumption) | assumption)
          obtain ⟨ad326, e326, hx326_0⟩ := Kd.at_int HR325_0.out x6_6 p326 q326
          cases e326
          replace p326 := eq_true p326
          replace q326 := eq_true q326
          have p327 : 0 ≤ (x4_2 : Int) := of_decide_eq_true (by first | (with_reducible assumption) | assumption)
          have q327 : x4_2 < (l0.length : Int) := of_decide_eq_true (by first | (with_reducible assumption) | assumption)
          obtain ⟨ad327, A327_0, c327_0, e327, hx327_0, hl327_0, hi327_0⟩ := at_L1 HR0.out x4_2 p327 q327
          obtain rfl : ad319 = ad327 := (by injection e327)
          have HR327_0 := a_ hi327_0
          have HC327_0 := a_ hl327_0
          clear hi327_0 hl327_0
          replace p327 := eq_true p327
          replace q327 := eq_true q327
          have ea_ := Option.some.inj (hx325_0.symm.trans hx327_0)
          injection ea_ with ea_ en_ ec_
          subst ea_
          subst ec_
          clear en_
          have p328 : 0 ≤ (x5_4 : Int) := of_decide_eq_true (by first | (with_reducible assumption) | assumption)
          have q328 : x5_4 < ((rd_L1 l0 x4_2).length : Int) := of_decide_eq_true (by first | (with_reducible assumption) | assumption)
          obtain ⟨ad328, e328, hx328_0⟩ := Kd.at_int HR327_0.out x5_4 p328 q328
          cases e328
          replace p328 := eq_true p328
          replace q328 := eq_true q328
          go_wp2
          repeat (go_quiet (fail); try go_wp2)
          go_roundg k6
          case measure => have := HJ1.out; have := HK2.out; have := HJ6.out; have := HK4.out; have := HJ12.out; have := HK6.out; omega
          case rel => exact ⟨(wrap64 (x6_6 + 1)), (by first | rfl | (simp; done) | (simp [*]; done)), H', ⟨by have := HJ1.out; have := HK2.out; have := HJ6.out; have := HK4.out; have := HJ12.out; have := HK6.out; omega⟩, by repeat (first | exact Drawn0.refl _ | apply Drawn0.step)⟩
def rl_table.l0 : Nat → List (List Int) → List (List Int) → Int → Option ((List (List Int)))
 | 0, _, _, _ => none
 | k + 1, x0, x3, x4 => if x4 < (x0.length : Int) then (if x4 < 3 then (if 0 ≤ x4 then (if 0 ≤ (mn ((rd_L1 x0 x4).length : Int) 6) then (if (mn ((rd_L1 x0 x4).length : Int) 6) ≤ ((rd_L1 x0 x4).length : Int) then (if ([] : List Int).length + ((rd_L1 x0 x4).take ((mn ((rd_L1 x0 x4).length : Int) 6) : Int).toNat).length < 17592186044416 then (if x3.length < 5864062014805 then (rl_table.l0 k x0 (x3 ++ [(([] : List Int) ++ ((rd_L1 x0 x4).take ((mn ((rd_L1 x0 x4).length : Int) 6) : Int).toNat))]) (wrap64 (x4 + 1))) else (none)) else (none)) else (none)) else (none)) else (none)) else (some x3)) else (some x3)
def rl_table.f (k : Nat) (l0 : List (List Int)) : Option ((List (List Int))) := rl_table.l0 k l0 ([] : List (List Int)) 0
def rl_table.T6 : Bool × List (List Nat × List Nat) := (true, [([], []), ([], []), ([], []), ([], []), ([2, 3], [2, 3]), ([4], [4]), ([], []), ([], []), ([6, 7], [6, 7]), ([8], [8]), ([9], [9]), ([10], [10]), ([5, 11], [5, 11]), ([1, 12], [1, 12]), ([13], [13]), ([0, 14, 13], [0, 14]), ([15, 15, 0, 1, 2, 3, 4, 5, 6, 7, 8, 9, 10, 11, 12, 13, 14, 15], [0, 15])])
def rl_table.B6 : List Nat := [0, 0, 0, 0, 12, 28, 0, 0, 192, 448, 960, 1984, 4092, 8190, 16382, 32767, 65535]
theorem rl_table.tab6 : rtab .any (opsOf Try.f27 6) = rl_table.T6 := by kernel_rfl
theorem rl_table.bits6 : waitsOk rl_table.T6.2 rl_table.B6 = true := by kernel_rfl
theorem rl_table.calls (k : Nat) (A0 : Option Addr) (c0 : Nat) (l0 : List (List Int)) (r : List (List Int)) (w : World) (hr0 : Kd.C (Kd.slice 3 (Kd.int .i64)) w A0 l0.length l0) (hc0 : l0.length ≤ c0) (h : rl_table.f k l0 = some r) :
  Calls Try.prog 27 #[.slice A0 l0.length c0] w fun e w' => ∃ v0_ : Value, e = .returned (v0_) ∧ Kd.S (Kd.slice 3 (Kd.int .i64)) 22 w' w.heap.size (fun _ => True) v0_ r ∧ Below w.heap.size w w' := by
 have HR0 := a_ hr0
 have HC0 := a_ hc0
 clear hr0 hc0
 have HB := a_ (Below.refl w.heap.size w)
 have H : (rl_table.l0 k l0 ([] : List (List Int)) 0) = some r := h
 clear h
 have H' := a_ H
 clear H
 go_enter Try.func27, Try.ntmps27
 go_wp2
 go_loopg [3, 4] k (fun kq v3 v4 w' => ∃ (x3_1 : List (List Int)) (x4_1 : Int), v4 = .int .i64 x4_1 ∧ Aside0 (rl_table.l0 kq l0 x3_1 x4_1 = some r) ∧ Aside0 (kq ≤ k) ∧ Aside0 (Kd.S (Kd.slice 3 (Kd.int .i64)) 22 w' w.heap.size (fun _ => True) v3 x3_1) ∧ Aside0 (Below w.heap.size w w'))
 case atStart => exact ⟨(([] : List (List Int))), (0), (by first | rfl | (simp; done) | (simp [*]; done)), H', ⟨Nat.le_refl _⟩, ⟨by first | exact Kd.S_nil _ _ _ _ _ | exact Kd.N_nil _ _ _ _ _ | exact Kd.V_nil _ _ _ _ _ | exact Kd.Q_nil _ _ _ _ _ | exact Kd.R_nil _ _ _ _ _⟩, ⟨by exact gs HB.out⟩⟩
 clear H'
 obtain ⟨x3_1, x4_1, rfl, HA, HK1, HO_3, HB⟩ := hrel
 cases gk with
 | zero => exact absurd HA.out (by simp [rl_table.l0])
 | succ k1 =>
  have H := HA.out
  clear HA
  simp only [rl_table.l0] at H
  by_cases c2 : x4_1 < (l0.length : Int)
  rotate_left
  ·rw [if_neg c2] at H
   have c2b0 : decide (x4_1 < (l0.length : Int)) = false := decide_eq_false c2
   clear c2
   obtain rfl := Option.some.inj H
   go_wp2
   go_ret
   exact ⟨_, by first | rfl | (simp [errW_none, errW_some] <;> rfl) | (simp [*, errW_none, errW_some] <;> rfl), by (with_reducible repeat (first | apply Kd.S_alloc | apply Kd.S_drewN | apply Kd.S_drew)); exact HO_3.out, by exact gs HB.out⟩
  rw [if_pos c2] at H
  have c2b0 : decide (x4_1 < (l0.length : Int)) = true := decide_eq_true c2
  clear c2
  by_cases c3 : x4_1 < 3
  rotate_left
  ·rw [if_neg c3] at H
   have c3b0 : decide (x4_1 < 3) = false := decide_eq_false c3
   clear c3
   obtain rfl := Option.some.inj H
   go_wp2
   go_ret
   exact ⟨_, by first | rfl | (simp [errW_none, errW_some] <;> rfl) | (simp [*, errW_none, errW_some] <;> rfl), by (with_reducible repeat (first | apply Kd.S_alloc | apply Kd.S_drewN | apply Kd.S_drew)); exact HO_3.out, by exact gs HB.out⟩
  rw [if_pos c3] at H
  have c3b0 : decide (x4_1 < 3) = true := decide_eq_true c3
  clear c3
  by_cases c4 : 0 ≤ x4_1
  rotate_left
  ·rw [if_neg c4] at H
   exact absurd H (by simp)
  rw [if_pos c4] at H
  have c4b0 : decide (0 ≤ x4_1) = true := decide_eq_true c4
  clear c4
  obtain ⟨ji5, hji5⟩ : ∃ j_ : Int, (mn ((rd_L1 l0 x4_1).length : Int) 6) = j_ := ⟨_, rfl⟩
  replace H : (if 0 ≤ (ji5) then (if (ji5) ≤ ((rd_L1 l0 x4_1).length : Int) then (if ([] : List Int).length + ((rd_L1 l0 x4_1).take ((ji5) : Int).toNat).length < 17592186044416 then (if x3_1.length < 5864062014805 then (rl_table.l0 k1 l0 (x3_1 ++ [(([] : List Int) ++ ((rd_L1 l0 x4_1).take ((ji5) : Int).toNat))]) (wrap64 (x4_1 + 1))) else (none)) else (none)) else (none)) else (none)) = some r := by first | (rw [hji5] at H; exact H) | (simp only [hji5] at H ⊢; exact H)
  have hji5_ : (if 6 < ((rd_L1 l0 x4_1).length : Int) then 6 else ((rd_L1 l0 x4_1).length : Int)) = ji5 := hji5
  by_cases c6 : 0 ≤ (ji5)
  rotate_left
  ·rw [if_neg c6] at H
   exact absurd H (by simp)
  rw [if_pos c6] at H
  have c6b0 := eq_true c6
  have c6b1 : decide (0 ≤ (ji5)) = true := decide_eq_true c6
  clear c6
  by_cases c7 : (ji5) ≤ ((rd_L1 l0 x4_1).length : Int)
  rotate_left
  ·rw [if_neg c7] at H
   exact absurd H (by simp)
  rw [if_pos c7] at H
  have c7b0 := eq_true c7
  have c7b1 : decide ((ji5) ≤ ((rd_L1 l0 x4_1).length : Int)) = true := decide_eq_true c7
  clear c7
  by_cases c8 : ([] : List Int).length + ((rd_L1 l0 x4_1).take ((ji5) : Int).toNat).length < 17592186044416
  rotate_left
  ·rw [if_neg c8] at H
   exact absurd H (by simp)
  rw [if_pos c8] at H
  have LMc8 := a_ c8
  clear c8
  obtain ⟨y496, hy496⟩ : ∃ y_ : List Int, y_ = (([] : List Int) ++ ((rd_L1 l0 x4_1).take ((ji5) : Int).toNat)) := ⟨_, rfl⟩
  replace H : (if x3_1.length < 5864062014805 then (rl_table.l0 k1 l0 (x3_1 ++ [y496]) (wrap64 (x4_1 + 1))) else (none)) = some r := by first | (rw [hy496]; with_reducible exact H) | (have H2_ := (Option.bind_some _ _).symm.trans H; rw [hy496]; with_reducible exact H2_) | (have H2_ := (Option.bind_some _ _).symm.trans H; with_reducible exact H2_) | with_reducible exact H | (rw [hy496]; exact H) | exact H
  have Ny496 := a_ hy496
  clear hy496
  by_cases c9 : x3_1.length < 5864062014805
  rotate_left
  ·rw [if_neg c9] at H
   exact absurd H (by simp)
  rw [if_pos c9] at H
  have LMc9 := a_ c9
  clear c9
  obtain ⟨y499, hy499⟩ : ∃ y_ : List (List Int), y_ = (x3_1 ++ [y496]) := ⟨_, rfl⟩
  replace H : (rl_table.l0 k1 l0 y499 (wrap64 (x4_1 + 1))) = some r := by first | (rw [hy499]; with_reducible exact H) | (have H2_ := (Option.bind_some _ _).symm.trans H; rw [hy499]; with_reducible exact H2_) | (have H2_ := (Option.bind_some _ _).symm.trans H; with_reducible exact H2_) | with_reducible exact H | (rw [hy499]; exact H) | exact H
  have Ny499 := a_ hy499
  clear hy499
  have H' := a_ H
  clear H
  try go_wp2
  replace HO_3 := a_ (Kd.S_drew HO_3.out)
  replace HB := a_ (b1_ HB.out)
  have p493 : 0 ≤ (x4_1 : Int) := of_decide_eq_true (by first | (with_reducible assumption) | assumption)
  have q493 : x4_1 < (l0.length : Int) := of_decide_eq_true (by first | (with_reducible assumption) | assumption)
  obtain ⟨ad493, A493_0, c493_0, e493, hx493_0, hl493_0, hi493_0⟩ := at_L1 HR0.out x4_1 p493 q493
  have hw493_0 := hx493_0
  cases e493
  replace hx493_0 := (HB.out.cell (World.block_lt_of_cell? w _ hx493_0)).trans hx493_0
  have HR493_0 := a_ hi493_0
  have HC493_0 := a_ hl493_0
  clear hi493_0 hl493_0
  replace p493 := eq_true p493
  replace q493 := eq_true q493
  have p494 : 0 ≤ (x4_1 : Int) := of_decide_eq_true (by first | (with_reducible assumption) | assumption)
  have q494 : x4_1 < (l0.length : Int) := of_decide_eq_true (by first | (with_reducible assumption) | assumption)
  obtain ⟨ad494, A494_0, c494_0, e494, hx494_0, hl494_0, hi494_0⟩ := at_L1 HR0.out x4_1 p494 q494
  have hw494_0 := hx494_0
  obtain rfl : ad493 = ad494 := (by injection e494)
  replace hx494_0 := (HB.out.cell (World.block_lt_of_cell? w _ hx494_0)).trans hx494_0
  have HR494_0 := a_ hi494_0
  have HC494_0 := a_ hl494_0
  clear hi494_0 hl494_0
  replace p494 := eq_true p494
  replace q494 := eq_true q494
  have ea_ := Option.some.inj (hx493_0.symm.trans hx494_0)
  injection ea_ with ea_ en_ ec_
  subst ea_
  subst ec_
  clear en_
  obtain ⟨i011, hi011, _, hsz11, _⟩ := info_parts info3
  obtain ⟨hcut11, hA11, hC11⟩ := print_take_of (P := Try.prog) (Value.int .i64) 0 22 3 .i64 Try.underlying22 hi011 hsz11 A493_0 c493_0 (rd_L1 l0 x4_1) (ji5) (of_decide_eq_true (by first | (with_reducible assumption) | assumption)) (of_decide_eq_true (by first | (with_reducible assumption) | assumption)) HC493_0.out
  have HR495 := a_ (Kd.C_of_reads (h1 := fun _ => rfl) (hA11 _ (Kd.reads_of_C HR493_0.out)))
  have HC495 := a_ hC11
  clear hA11 hC11 hi011 hsz11
  refine start_ (n := 17) (S := fun w' => w'.cell? (ad493.add (x4_1).toNat) = some (.slice A493_0 (rd_L1 l0 x4_1).length c493_0) ∧ w'.cell? (ad493.add (x4_1).toNat) = some (.slice A493_0 (rd_L1 l0 x4_1).length c493_0)) (ds := []) #[false, false, false, false, false, false, false, false, false, false, false, false, false, false, false, false, false] (by kernel_rfl) rfl rfl ⟨((HB.out.cell (World.block_lt_of_cell? w _ hw493_0)).trans hw493_0), ((HB.out.cell (World.block_lt_of_cell? w _ hw494_0)).trans hw494_0)⟩ (fun hHeld => ?_); refine with_tabW rl_table.tab6 rl_table.bits6 (fun HT_ HW_ => ?_)
  generalize wr.drew = w10 at HO_3 HB HR493_0 HR494_0 HR495 hx493_0 hx494_0 hHeld ⊢
  refine pure_ (i := 0) (N := some 16) (v := ?_) (a' := ?_) #[true, false, false, false, false, false, false, false, false, false, false, false, false, false, false, false, false] rfl rfl (any_of HT_.out (by kernel_rfl)) (fun _ _ _ h => h) (Or.inl ⟨by rfl, ?_⟩) ?_ ?_
  rotate_left
  ·intro w'
   go_simp
   with_reducible rfl
  rotate_left
  ·simp only [Act.put, List.setIfInBounds_toArray, List.set_cons_zero, List.set_cons_succ, i64_w, i32_w]
   rfl
  refine pure_ (i := 1) (N := some 17) (v := ?_) (a' := ?_) #[true, true, false, false, false, false, false, false, false, false, false, false, false, false, false, false, false] rfl rfl (any_of HT_.out (by kernel_rfl)) (fun _ _ _ h => h) (Or.inl ⟨by rfl, ?_⟩) ?_ ?_
  rotate_left
  ·intro w'
   go_simp
   with_reducible rfl
  rotate_left
  ·simp only [Act.put, List.setIfInBounds_toArray, List.set_cons_zero, List.set_cons_succ, i64_w, i32_w]
   rfl
  refine pure_ (i := 2) (N := some 18) (v := ?_) (a' := ?_) #[true, true, true, false, false, false, false, false, false, false, false, false, false, false, false, false, false] rfl rfl (any_of HT_.out (by kernel_rfl)) (fun _ _ _ h => h) (Or.inl ⟨by rfl, ?_⟩) ?_ ?_
  rotate_left
  ·intro w'
   go_simp
   with_reducible rfl
  rotate_left
  ·simp only [Act.put, List.setIfInBounds_toArray, List.set_cons_zero, List.set_cons_succ, i64_w, i32_w]
   rfl
  refine pure_ (i := 3) (N := some 19) (v := ?_) (a' := ?_) #[true, true, true, true, false, false, false, false, false, false, false, false, false, false, false, false, false] rfl rfl (any_of HT_.out (by kernel_rfl)) (fun _ _ _ h => h) (Or.inl ⟨by rfl, ?_⟩) ?_ ?_
  rotate_left
  ·intro w'
   go_simp
   with_reducible rfl
  rotate_left
  ·simp only [Act.put, List.setIfInBounds_toArray, List.set_cons_zero, List.set_cons_succ, i64_w, i32_w]
   rfl
  refine pure_ (i := 4) (N := some 20) (v := ?_) (a' := ?_) #[true, true, true, true, true, false, false, false, false, false, false, false, false, false, false, false, false] rfl rfl (any_of HT_.out (by kernel_rfl)) (fun _ _ _ h => h) (Or.inl ⟨by rfl, ?_⟩) ?_ ?_
  rotate_left
  ·intro w'
   go_simp
   with_reducible rfl
  rotate_left
  ·simp only [Act.put, List.setIfInBounds_toArray, List.set_cons_zero, List.set_cons_succ, i64_w, i32_w]
   rfl
  refine pure_ (i := 6) (N := some 22) (v := ?_) (a' := ?_) #[true, true, true, true, true, false, true, false, false, false, false, false, false, false, false, false, false] rfl rfl (any_of HT_.out (by kernel_rfl)) (fun _ _ _ h => h) (Or.inl ⟨by rfl, ?_⟩) ?_ ?_
  rotate_left
  ·intro w'
   go_simp
   with_reducible rfl
  rotate_left
  ·simp only [Act.put, List.setIfInBounds_toArray, List.set_cons_zero, List.set_cons_succ, i64_w, i32_w]
   rfl
  refine pure_ (i := 7) (N := some 23) (v := ?_) (a' := ?_) #[true, true, true, true, true, false, true, true, false, false, false, false, false, false, false, false, false] rfl rfl (any_of HT_.out (by kernel_rfl)) (fun _ _ _ h => h) (Or.inl ⟨by rfl, ?_⟩) ?_ ?_
  rotate_left
  ·intro w'
   go_simp
   with_reducible rfl
  rotate_left
  ·simp only [Act.put, List.setIfInBounds_toArray, List.set_cons_zero, List.set_cons_succ, i64_w, i32_w]
   rfl
  refine pure_ (i := 8) (N := some 24) (v := ?_) (a' := ?_) #[true, true, true, true, true, false, true, true, true, false, false, false, false, false, false, false, false] rfl rfl (any_of HT_.out (by kernel_rfl)) (fun _ _ _ h => h) (Or.inl ⟨by rfl, ?_⟩) ?_ ?_
  rotate_left
  ·intro w'
   go_simp
   with_reducible rfl
  rotate_left
  ·simp only [Act.put, List.setIfInBounds_toArray, List.set_cons_zero, List.set_cons_succ, i64_w, i32_w]
   rfl
  refine take_ (i := 5) (N := some 21) (v := ?_) (a' := ?_) #[true, true, true, true, true, true, true, true, true, false, false, false, false, false, false, false, false] rfl rfl (take_ofW HT_.out HW_.out (by kernel_rfl)) (fun _ _ _ h => h) (Or.inl ⟨by rfl, ?_⟩) hHeld ?_ ?_
  rotate_left
  ·rintro w' ⟨s0, s1⟩
   go_simp
   with_reducible rfl
  rotate_left
  ·simp only [Act.put, List.setIfInBounds_toArray, List.set_cons_zero, List.set_cons_succ, i64_w, i32_w]
   rfl
  refine take_ (i := 9) (N := some 25) (v := ?_) (a' := ?_) #[true, true, true, true, true, true, true, true, true, true, false, false, false, false, false, false, false] rfl rfl (take_ofW HT_.out HW_.out (by kernel_rfl)) (fun _ _ _ h => h) (Or.inl ⟨by rfl, ?_⟩) hHeld ?_ ?_
  rotate_left
  ·rintro w' ⟨s0, s1⟩
   go_simp
   with_reducible rfl
  rotate_left
  ·simp only [Act.put, List.setIfInBounds_toArray, List.set_cons_zero, List.set_cons_succ, i64_w, i32_w]
   rfl
  refine pure_ (i := 10) (N := some 26) (v := ?_) (a' := ?_) #[true, true, true, true, true, true, true, true, true, true, true, false, false, false, false, false, false] rfl rfl (any_of HT_.out (by kernel_rfl)) (fun _ _ _ h => h) (Or.inl ⟨by rfl, ?_⟩) ?_ ?_
  rotate_left
  ·intro w'
   go_simp
   with_reducible rfl
  rotate_left
  ·simp only [Act.put, List.setIfInBounds_toArray, List.set_cons_zero, List.set_cons_succ, i64_w, i32_w]
   rfl
  refine pure_ (i := 11) (N := some 27) (v := ?_) (a' := ?_) #[true, true, true, true, true, true, true, true, true, true, true, true, false, false, false, false, false] rfl rfl (any_of HT_.out (by kernel_rfl)) (fun _ _ _ h => h) (Or.inl ⟨by rfl, ?_⟩) ?_ ?_
  rotate_left
  ·intro w'
   go_simp
   with_reducible rfl
  rotate_left
  ·simp only [Act.put, List.setIfInBounds_toArray, List.set_cons_zero, List.set_cons_succ, i64_w, i32_w]
   rfl
  refine pure_ (i := 12) (N := some 28) (v := ?_) (a' := ?_) #[true, true, true, true, true, true, true, true, true, true, true, true, true, false, false, false, false] rfl rfl (any_of HT_.out (by kernel_rfl)) (fun _ _ _ h => h) (Or.inl ⟨by rfl, ?_⟩) ?_ ?_
  rotate_left
  ·intro w'
   go_simp
   with_reducible rfl
  rotate_left
  ·simp only [Act.put, List.setIfInBounds_toArray, List.set_cons_zero, List.set_cons_succ, i64_w, i32_w]
   rfl
  refine one_ (i := 13) (N := some 29) #[true, true, true, true, true, true, true, true, true, true, true, true, true, true, false, false, false] rfl rfl (one_of HT_.out (by kernel_rfl)) (by decide) (fun K hK => ?_)
  refine Kd.R_append_rows_step (Kd.int .i64) (w0 := w) w.heap.size (by rfl) (.tmp 17) (.tmp 28) 22 3 (.int .i64 0) 8 rfl Try.underlying22 info3 rfl (by decide) (by omega) (.slice none 0 0) ([] : List Int) ((rd_L1 l0 x4_1).take ((ji5) : Int).toNat) _ _ _ (fun _ => True) (fun _ => False) rfl rfl ?aO ?aR (fun _ _ h => h) (fun _ h => h.elim) ?aF ?aB ?aS ?aL ?_
  (case aR => first | (have hs_ : ((rd_L1 l0 x4_1).take ((ji5) : Int).toNat).length = (ji5).toNat := (by rw [List.length_take]; have h_ : ((ji5) : Int) ≤ ((rd_L1 l0 x4_1).length : Int) := of_decide_eq_true (by first | (with_reducible assumption) | assumption); omega); (refine Eq.mp (congrArg (fun m_ => ReadsRow _ _ _ _ m_ _) hs_) ?_); repeat (first | exact (Kd.C_below HR495.out HB.out) | (with_reducible refine Kd.C_alloc ?_ _) | (with_reducible refine Kd.C_drewN ?_ _) | (with_reducible refine Kd.C_drew ?_)); done) | (repeat (first | exact (Kd.C_below HR495.out HB.out) | (with_reducible refine Kd.C_alloc ?_ _) | (with_reducible refine Kd.C_drewN ?_ _) | (with_reducible refine Kd.C_drew ?_))))
  (case aB => exact (gr HB.out))
  (case aF => exact (fun _ _ => trivial))
  (case aO => exact ((Kd.R_nil _ _ _ _ (fun _ => True))))
  (case aS => exact (bZ_ (gr HB.out)))
  (case aL => have := LMc8.out; have hlx_ := (show ((rd_L1 l0 x4_1).take ((ji5) : Int).toNat).length = (ji5).toNat from (by rw [List.length_take]; have h_ : ((ji5) : Int) ≤ ((rd_L1 l0 x4_1).length : Int) := of_decide_eq_true (by first | (with_reducible assumption) | assumption); omega)); omega)
  intro v497 w12 ho hb hg hat
  rw [← Ny496.out] at ho
  have HO498 := a_ (ho)
  replace HO_3 := a_ (Kd.S_after (Kd.S_apart_nil (by (with_reducible repeat (first | apply Kd.S_alloc | apply Kd.S_drewN | apply Kd.S_drew)); exact HO_3.out)) hg hat)
  replace HB := a_ (hb)
  clear ho hb hg hat
  obtain ⟨Ao14, co14, eo14⟩ := Kd.R_slice HO498.out
  (first | subst eo14 | (injection eo14 with f1_ f2_ f3_; have f4_ := f1_.symm; have f5_ := f3_.symm; clear f1_ f2_ f3_; subst f4_; subst f5_))
  refine hK.out _ _ ⟨((HB.out.cell (World.block_lt_of_cell? w _ hw493_0)).trans hw493_0), ((HB.out.cell (World.block_lt_of_cell? w _ hw494_0)).trans hw494_0)⟩ (fun hHeld => ?_)
  clear hK K
  refine norm_ (a' := ?_) ?_ ?_
  rotate_left
  ·show Act.put _ (some 29) _ = _
   simp only [Act.put, List.setIfInBounds_toArray, List.set_cons_zero, List.set_cons_succ, i64_w, i32_w]
   rfl
  refine one_ (i := 14) (N := some 30) #[true, true, true, true, true, true, true, true, true, true, true, true, true, true, true, false, false] rfl rfl (one_of HT_.out (by kernel_rfl)) (by decide) (fun K hK => ?_)
  refine value_ (w1 := ?_) (v := ?_) (by rfl) rfl ?_ ?_
  rotate_left 2
  ·go_simp
   constructor
   ·rfl
   ·rfl
  refine hK.out _ _ ⟨(World.cell?_alloc_lt _ _ _ (World.block_lt_of_cell? _ _ (((HB.out.cell (World.block_lt_of_cell? w _ hw493_0)).trans hw493_0)))).trans (((HB.out.cell (World.block_lt_of_cell? w _ hw493_0)).trans hw493_0)), (World.cell?_alloc_lt _ _ _ (World.block_lt_of_cell? _ _ (((HB.out.cell (World.block_lt_of_cell? w _ hw494_0)).trans hw494_0)))).trans (((HB.out.cell (World.block_lt_of_cell? w _ hw494_0)).trans hw494_0))⟩ (fun hHeld => ?_)
  clear hK K
  refine norm_ (a' := ?_) ?_ ?_
  rotate_left
  ·show Act.put _ (some 30) _ = _
   simp only [Act.put, List.setIfInBounds_toArray, List.set_cons_zero, List.set_cons_succ, i64_w, i32_w]
   rfl
  refine one_ (i := 15) (N := some 31) #[true, true, true, true, true, true, true, true, true, true, true, true, true, true, true, true, false] rfl rfl (one_of HT_.out (by kernel_rfl)) (by decide) (fun K hK => ?_)
  refine Kd.S_append_step (Kd.slice 3 (Kd.int .i64)) (w0 := w) w.heap.size (by rfl) (.tmp 16) (.tmp 30) 23 22 (.slice none 0 0) 24 rfl Try.underlying23 info22 rfl (by decide) (by omega) u3 x3_1 y496 [.slice Ao14 y496.length co14] (fun _ => True) (fun k_ => some k_ = (.slice Ao14 y496.length co14 : Value).ownBlock) rfl rfl ?aP (fun k_ hk_ => ((Kd.R_mono (ok' := fun k_ => ((fun _ => True)) k_ ∧ some k_ ≠ (u3 : Value).ownBlock) (Kd.R_apart' (HO498.out) (Kd.S_typed HO_3.out) (by decide)) (fun k_ hk => ⟨trivial, hk.2⟩))).1 k_ hk_.symm) ?aF ?aO ?aB ?aS ?aL ?_
  (case aP => exact Kd.M_row (Kd.R_mono (Kd.R_tight rfl (Kd.R_mono (ok' := fun k_ => ((fun _ => True)) k_ ∧ some k_ ≠ (u3 : Value).ownBlock) (Kd.R_apart' (HO498.out) (Kd.S_typed HO_3.out) (by decide)) (fun k_ hk => ⟨trivial, hk.2⟩))) (fun _ h_ => h_)))
  (case aB => exact (gr HB.out))
  (case aF => exact (fun _ _ => trivial))
  (case aO => exact (by (with_reducible repeat (first | apply Kd.S_alloc | apply Kd.S_drewN | apply Kd.S_drew)); exact Kd.S_mono HO_3.out (fun k_ hk => ⟨trivial, fun e_ => hk.2 e_⟩)))
  (case aS => exact (bZ_ (gr HB.out)))
  (case aL => have := LMc9.out; omega)
  intro v500 w13 ho hb hg hat
  rw [← Ny499.out] at ho
  have HO501 := a_ (ho)
  replace HB := a_ (hb)
  clear HO_3 HO498
  clear ho hb hg hat
  refine hK.out _ _ ⟨((HB.out.cell (World.block_lt_of_cell? w _ hw493_0)).trans hw493_0), ((HB.out.cell (World.block_lt_of_cell? w _ hw494_0)).trans hw494_0)⟩ (fun hHeld => ?_)
  clear hK K
  refine norm_ (a' := ?_) ?_ ?_
  rotate_left
  ·show Act.put _ (some 31) _ = _
   simp only [Act.put, List.setIfInBounds_toArray, List.set_cons_zero, List.set_cons_succ, i64_w, i32_w]
   rfl
  refine pure_ (i := 16) (N := some 3) (v := ?_) (a' := ?_) #[true, true, true, true, true, true, true, true, true, true, true, true, true, true, true, true, true] rfl rfl (any_of HT_.out (by kernel_rfl)) (fun _ _ _ h => h) (Or.inl ⟨by rfl, ?_⟩) ?_ ?_
  rotate_left
  ·intro w'
   go_simp
   with_reducible rfl
  rotate_left
  ·simp only [Act.put, List.setIfInBounds_toArray, List.set_cons_zero, List.set_cons_succ, i64_w, i32_w]
   rfl
  refine done_ (done_of HT_.out (by kernel_rfl)) ?_
  try go_wp2
  go_roundg k1
  case measure => have := HK1.out; omega
  case rel => exact ⟨(y499), (wrap64 (x4_1 + 1)), (by first | rfl | (simp; done) | (simp [*]; done)), H', ⟨by have := HK1.out; omega⟩, ⟨by (with_reducible repeat (first | apply Kd.S_alloc | apply Kd.S_drewN | apply Kd.S_drew)); exact HO501.out⟩, ⟨by exact gs HB.out⟩⟩
def rr_letter.j0 : Nat → Int → Int → Bool → Option (Int × Bool × Bool)
 | 0, _, _, _ => none
 | k + 1, x0, x1, x7 => if x7 = true then (some ((x0 - 97) % 256, false, true)) else (if x0 = 65 then (some ((x0 - 65) % 256, true, true)) else (if x0 = 66 then (if x1 = 2 then (some ((x0 - 65) % 256, true, true)) else (some (0, false, false))) else (some (0, false, false))))
def rr_letter.f (k : Nat) (a0 : Int) (a1 : Int) : Option (Int × Bool × Bool) := if a0 = 97 then (rr_letter.j0 k a0 a1 true) else (if a0 = 98 then (rr_letter.j0 k a0 a1 (a1 == 2)) else (rr_letter.j0 k a0 a1 false))
theorem rr_letter.calls (k : Nat) (a0 : Int) (a1 : Int) (r1 : Int) (r2 : Bool) (r3 : Bool) (w : World) (h : rr_letter.f k a0 a1 = some (r1, r2, r3)) :
  Calls Try.prog 56 #[.int .u8 a0, .int .i64 a1] w fun e w' => e = .returned (.tuple #[.int .i64 r1, .bool r2, .bool r3]) ∧ Drawn0 w w' := by
 have H : (if a0 = 97 then (rr_letter.j0 k a0 a1 true) else (if a0 = 98 then (rr_letter.j0 k a0 a1 (a1 == 2)) else (rr_letter.j0 k a0 a1 false))) = some (r1, r2, r3) := h
 clear h
 have HC3 := a_ H
 clear H
 go_enter Try.func56, Try.ntmps56
 go_upto_region 1 with (fail)
 go_cut [7] (fun v7 wc => ∃ (kq : Nat) (x7_2 : Bool), v7 = .bool x7_2 ∧ Aside0 (rr_letter.j0 kq a0 a1 x7_2 = some (r1, r2, r3)) ∧ Aside0 (kq ≤ k) ∧ Drawn0 w wc)
 case first =>
  have H := HC3.out
  clear HC3
  by_cases c4 : a0 = 97
  ·rw [if_pos c4] at H
   have c4b0 : (a0 == 97) = true := beq_iff_eq.mpr c4
   have c4b1 : (a0 != 97) = false := bne_eq_false_iff_eq.mpr c4
   clear c4
   (first | rw [c4b0] | (simp only [i64_w, i32_w]; rw [c4b0]) | skip)
   have H' := a_ H
   clear H
   go_wp2
   go_meet
   case rel => exact ⟨_, (true), (by first | rfl | (simp; done) | (simp [*]; done)), H', ⟨by first | omega | exact Nat.le_refl _⟩, by repeat (first | exact Drawn0.refl _ | apply Drawn0.step)⟩
  rw [if_neg c4] at H
  have c4b0 : (a0 == 97) = false := beq_eq_false_iff_ne.mpr c4
  have c4b1 : (a0 != 97) = true := bne_iff_ne.mpr c4
  (first | rw [c4b0] | (simp only [i64_w, i32_w]; rw [c4b0]) | skip)
  by_cases c5 : a0 = 98
  rotate_left
  ·rw [if_neg c5] at H
   have c5b0 : (a0 == 98) = false := beq_eq_false_iff_ne.mpr c5
   have c5b1 : (a0 != 98) = true := bne_iff_ne.mpr c5
   have H' := a_ H
   clear H
   go_wp2
   go_meet
   case rel => exact ⟨_, (false), (by first | rfl | (simp; done) | (simp [*]; done)), H', ⟨by first | omega | exact Nat.le_refl _⟩, by repeat (first | exact Drawn0.refl _ | apply Drawn0.step)⟩
  rw [if_pos c5] at H
  have c5b0 : (a0 == 98) = true := beq_iff_eq.mpr c5
  have c5b1 : (a0 != 98) = false := bne_eq_false_iff_eq.mpr c5
  clear c5
  have H' := a_ H
  clear H
  go_wp2
  go_meet
  case rel => exact ⟨_, ((a1 == 2)), (by first | rfl | (simp; done) | (simp [*]; done)), H', ⟨by first | omega | exact Nat.le_refl _⟩, by repeat (first | exact Drawn0.refl _ | apply Drawn0.step)⟩
 case rest =>
  clear HC3
  try clear p2
  try clear c4
  try clear c4b0
  try clear c4b1
  try clear c5
  try clear c5b0
  try clear c5b1
  obtain ⟨kq, x7_2, rfl, HA, HJ2, ⟨mc2, rfl⟩⟩ := hcut
  cases kq with
  | zero => exact absurd HA.out (by simp [rr_letter.j0])
  | succ kj2 =>
   have H := HA.out
   clear HA
   simp only [rr_letter.j0] at H
   by_cases c6 : x7_2 = true
   ·subst c6
    have H1 := H; rw [if_pos rfl] at H1
    clear H
    have H := H1
    clear H1
    simp only [Option.some.injEq, Prod.mk.injEq] at H
    obtain ⟨rfl, rfl, rfl⟩ := H
    go_wp2
    go_ret3
    exact ⟨by first | rfl | (simp; done) | (simp [*]; done), by repeat (first | exact Drawn0.refl _ | apply Drawn0.step)⟩
   replace c6 := Bool.eq_false_iff.mpr c6
   subst c6
   have H1 := H; rw [if_neg (show ¬ (false = true) by decide)] at H1
   clear H
   have H := H1
   clear H1
   by_cases c7 : a0 = 65
   ·rw [if_pos c7] at H
    have c7b0 : (a0 == 65) = true := beq_iff_eq.mpr c7
    have c7b1 : (a0 != 65) = false := bne_eq_false_iff_eq.mpr c7
    clear c7
    simp only [Option.some.injEq, Prod.mk.injEq] at H
    obtain ⟨rfl, rfl, rfl⟩ := H
    go_wp2
    go_ret3
    exact ⟨by first | rfl | (simp; done) | (simp [*]; done), by repeat (first | exact Drawn0.refl _ | apply Drawn0.step)⟩
   rw [if_neg c7] at H
   have c7b0 : (a0 == 65) = false := beq_eq_false_iff_ne.mpr c7
   have c7b1 : (a0 != 65) = true := bne_iff_ne.mpr c7
   by_cases c8 : a0 = 66
   rotate_left
   ·rw [if_neg c8] at H
    have c8b0 : (a0 == 66) = false := beq_eq_false_iff_ne.mpr c8
    have c8b1 : (a0 != 66) = true := bne_iff_ne.mpr c8
    simp only [Option.some.injEq, Prod.mk.injEq] at H
    obtain ⟨rfl, rfl, rfl⟩ := H
    go_wp2
    go_ret3
    exact ⟨by first | rfl | (simp; done) | (simp [*]; done), by repeat (first | exact Drawn0.refl _ | apply Drawn0.step)⟩
   rw [if_pos c8] at H
   have c8b0 : (a0 == 66) = true := beq_iff_eq.mpr c8
   have c8b1 : (a0 != 66) = false := bne_eq_false_iff_eq.mpr c8
   clear c8
   by_cases c9 : a1 = 2
   rotate_left
   ·rw [if_neg c9] at H
    have c9b0 : (a1 == 2) = false := beq_eq_false_iff_ne.mpr c9
    have c9b1 : (a1 != 2) = true := bne_iff_ne.mpr c9
    simp only [Option.some.injEq, Prod.mk.injEq] at H
    obtain ⟨rfl, rfl, rfl⟩ := H
    go_wp2
    go_ret3
    exact ⟨by first | rfl | (simp; done) | (simp [*]; done), by repeat (first | exact Drawn0.refl _ | apply Drawn0.step)⟩
   rw [if_pos c9] at H
   have c9b0 : (a1 == 2) = true := beq_iff_eq.mpr c9
   have c9b1 : (a1 != 2) = false := bne_eq_false_iff_eq.mpr c9
   clear c9
   simp only [Option.some.injEq, Prod.mk.injEq] at H
   obtain ⟨rfl, rfl, rfl⟩ := H
   go_wp2
   go_ret3
   exact ⟨by first | rfl | (simp; done) | (simp [*]; done), by repeat (first | exact Drawn0.refl _ | apply Drawn0.step)⟩
def rr_step.l0 : Nat → List (List Int) → Int → Int → Int → Option (Int)
 | 0, _, _, _, _ => none
 | k + 1, x0, x1, x7, x10 => if 0 ≤ x7 then (if x7 < (x0.length : Int) then (if 0 ≤ x10 then (if x10 < ((rd_L1 x0 x7).length : Int) then (if (rd (rd_L1 x0 x7) x10) = x1 then (some x10) else (rr_step.l0 k x0 x1 x7 (wrap64 (x10 + 1)))) else (none)) else (none)) else (none)) else (none)
def rr_step.f (k : Nat) (l0 : List (List Int)) (a1 : Int) (a2 : Int) : Option (Int) := (rr_letter.f k a2 2).bind fun bt101 => (if bt101.2.1 = true then (rr_step.l0 k l0 a1 bt101.1 0) else (if 0 ≤ bt101.1 then (if bt101.1 < (l0.length : Int) then (if 0 ≤ a1 then (if a1 < ((rd_L1 l0 bt101.1).length : Int) then (some (rd (rd_L1 l0 bt101.1) a1)) else (none)) else (none)) else (none)) else (none)))
theorem rr_step.calls (k : Nat) (A0 : Option Addr) (c0 : Nat) (l0 : List (List Int)) (a1 : Int) (a2 : Int) (r : Int) (w : World) (hr0 : Kd.C (Kd.slice 3 (Kd.int .i64)) w A0 l0.length l0) (hc0 : l0.length ≤ c0) (h : rr_step.f k l0 a1 a2 = some r) :
  Calls Try.prog 58 #[.slice A0 l0.length c0, .int .i64 a1, .int .u8 a2] w fun e w' => e = .returned (.int .i64 r) ∧ Drawn0 w w' := by
 have HR0 := a_ hr0
 have HC0 := a_ hc0
 clear hr0 hc0
 have H : ((rr_letter.f k a2 2).bind fun bt101 => (if bt101.2.1 = true then (rr_step.l0 k l0 a1 bt101.1 0) else (if 0 ≤ bt101.1 then (if bt101.1 < (l0.length : Int) then (if 0 ≤ a1 then (if a1 < ((rd_L1 l0 bt101.1).length : Int) then (some (rd (rd_L1 l0 bt101.1) a1)) else (none)) else (none)) else (none)) else (none)))) = some r := h
 clear h
 replace H := Option.bind_eq_some_iff.mp H
 obtain ⟨⟨t101, t102, t103⟩, A40, H⟩ := H
 try dsimp only at H
 have A4 := a_ A40
 clear A40
 by_cases c5 : t102 = true
 rotate_left
 ·replace c5 := Bool.eq_false_iff.mpr c5
  subst c5
  have H1 := H; rw [if_neg (show ¬ (false = true) by decide)] at H1
  clear H
  have H := H1
  clear H1
  by_cases c11 : 0 ≤ t101
  rotate_left
  ·rw [if_neg c11] at H
   exact absurd H (by simp)
  rw [if_pos c11] at H
  have c11b0 : decide (0 ≤ t101) = true := decide_eq_true c11
  clear c11
  by_cases c12 : t101 < (l0.length : Int)
  rotate_left
  ·rw [if_neg c12] at H
   exact absurd H (by simp)
  rw [if_pos c12] at H
  have c12b0 : decide (t101 < (l0.length : Int)) = true := decide_eq_true c12
  clear c12
  by_cases c13 : 0 ≤ a1
  rotate_left
  ·rw [if_neg c13] at H
   exact absurd H (by simp)
  rw [if_pos c13] at H
  have c13b0 : decide (0 ≤ a1) = true := decide_eq_true c13
  clear c13
  by_cases c14 : a1 < ((rd_L1 l0 t101).length : Int)
  rotate_left
  ·rw [if_neg c14] at H
   exact absurd H (by simp)
  rw [if_pos c14] at H
  have c14b0 : decide (a1 < ((rd_L1 l0 t101).length : Int)) = true := decide_eq_true c14
  clear c14
  obtain rfl := Option.some.inj H
  go_enter Try.func58, Try.ntmps58
  go_wp2_with (first | ((with_reducible refine gate_callee (f := 56) rfl ?_); refine goesL_ (some 13) rfl rfl Try.func56 (by kernel_rfl) rfl #[.int .u8 a2, .int .i64 2] rfl (by (try simp only [List.map_toArray, List.map_cons, List.map_nil]); first | done | rfl | (simp only [List.length_drop, List.length_take]; rfl)) ?_; (with_reducible refine (rr_letter.calls k a2 2 t101 false t103 _ A4.out).mono ?_); rintro e w' ⟨rfl, ⟨nd, rfl⟩⟩; refine ⟨_, rfl, ?_⟩; have p104 : 0 ≤ (t101 : Int) := of_decide_eq_true (by first | (with_reducible assumption) | assumption); have q104 : t101 < (l0.length : Int) := of_decide_eq_true (by first | (with_reducible assumption) | assumption); obtain ⟨ad104, A104_0, c104_0, e104, hx104_0, hl104_0, hi104_0⟩ := at_L1 HR0.out t101 p104 q104; cases e104; have HR104_0 := a_ hi104_0; have HC104_0 := a_ hl104_0; clear hi104_0 hl104_0; replace p104 := eq_true p104; replace q104 := eq_true q104; have p105 : 0 ≤ (a1 : Int) := of_decide_eq_true (by first | (with_reducible assumption) | assumption); have q105 : a1 < ((rd_L1 l0 t101).length : Int) := of_decide_eq_true (by first | (with_reducible assumption) | assumption); obtain ⟨ad105, e105, hx105_0⟩ := Kd.at_int HR104_0.out a1 p105 q105; cases e105; replace p105 := eq_true p105; replace q105 := eq_true q105))
  go_ret
  exact ⟨by first | rfl | (simp; done) | (simp [*]; done), by repeat (first | exact Drawn0.refl _ | apply Drawn0.step)⟩
 subst c5
 have H1 := H; rw [if_pos rfl] at H1
 clear H
 have H := H1
 clear H1
 have H' := a_ H
 clear H
 go_enter Try.func58, Try.ntmps58
 go_wp2_with (first | ((with_reducible refine gate_callee (f := 56) rfl ?_); refine goesL_ (some 13) rfl rfl Try.func56 (by kernel_rfl) rfl #[.int .u8 a2, .int .i64 2] rfl (by (try simp only [List.map_toArray, List.map_cons, List.map_nil]); first | done | rfl | (simp only [List.length_drop, List.length_take]; rfl)) ?_; (with_reducible refine (rr_letter.calls k a2 2 t101 true t103 _ A4.out).mono ?_); rintro e w' ⟨rfl, ⟨nd, rfl⟩⟩; refine ⟨_, rfl, ?_⟩))
 go_loopg [10] k (fun kq v10 w' => ∃ (x10_1 : Int), v10 = .int .i64 x10_1 ∧ Aside0 (rr_step.l0 kq l0 a1 t101 x10_1 = some r) ∧ Aside0 (kq ≤ k) ∧ Drawn0 w w')
 case atStart => exact ⟨(0), (by first | rfl | (simp; done) | (simp [*]; done)), H', ⟨Nat.le_refl _⟩, by repeat (first | exact Drawn0.refl _ | apply Drawn0.step)⟩
 clear H'
 try clear p2
 try clear c5
 obtain ⟨x10_1, rfl, HA, HK1, ⟨m1, rfl⟩⟩ := hrel
 cases gk with
 | zero => exact absurd HA.out (by simp [rr_step.l0])
 | succ k1 =>
  have H := HA.out
  clear HA
  simp only [rr_step.l0] at H
  by_cases c6 : 0 ≤ t101
  rotate_left
  ·rw [if_neg c6] at H
   exact absurd H (by simp)
  rw [if_pos c6] at H
  have c6b0 : decide (0 ≤ t101) = true := decide_eq_true c6
  clear c6
  by_cases c7 : t101 < (l0.length : Int)
  rotate_left
  ·rw [if_neg c7] at H
   exact absurd H (by simp)
  rw [if_pos c7] at H
  have c7b0 : decide (t101 < (l0.length : Int)) = true := decide_eq_true c7
  clear c7
  by_cases c8 : 0 ≤ x10_1
  rotate_left
  ·rw [if_neg c8] at H
   exact absurd H (by simp)
  rw [if_pos c8] at H
  have c8b0 : decide (0 ≤ x10_1) = true := decide_eq_true c8
  clear c8
  by_cases c9 : x10_1 < ((rd_L1 l0 t101).length : Int)
  rotate_left
  ·rw [if_neg c9] at H
   exact absurd H (by simp)
  rw [if_pos c9] at H
  have c9b0 : decide (x10_1 < ((rd_L1 l0 t101).length : Int)) = true := decide_eq_true c9
  clear c9
  by_cases c10 : (rd (rd_L1 l0 t101) x10_1) = a1
  ·rw [if_pos c10] at H
   have c10b0 : ((rd (rd_L1 l0 t101) x10_1) == a1) = true := beq_iff_eq.mpr c10
   have c10b1 : ((rd (rd_L1 l0 t101) x10_1) != a1) = false := bne_eq_false_iff_eq.mpr c10
   clear c10
   obtain rfl := Option.some.inj H
   have p106 : 0 ≤ (t101 : Int) := of_decide_eq_true (by first | (with_reducible assumption) | assumption)
   have q106 : t101 < (l0.length : Int) := of_decide_eq_true (by first | (with_reducible assumption) | assumption)
   obtain ⟨ad106, A106_0, c106_0, e106, hx106_0, hl106_0, hi106_0⟩ := at_L1 HR0.out t101 p106 q106
   cases e106
   have HR106_0 := a_ hi106_0
   have HC106_0 := a_ hl106_0
   clear hi106_0 hl106_0
   replace p106 := eq_true p106
   replace q106 := eq_true q106
   have p107 : 0 ≤ (x10_1 : Int) := of_decide_eq_true (by first | (with_reducible assumption) | assumption)
   have q107 : x10_1 < ((rd_L1 l0 t101).length : Int) := of_decide_eq_true (by first | (with_reducible assumption) | assumption)
   obtain ⟨ad107, e107, hx107_0⟩ := Kd.at_int HR106_0.out x10_1 p107 q107
   cases e107
   replace p107 := eq_true p107
   replace q107 := eq_true q107
   go_wp2
   go_ret
   exact ⟨by first | rfl | (simp; done) | (simp [*]; done), by repeat (first | exact Drawn0.refl _ | apply Drawn0.step)⟩
  rw [if_neg c10] at H
  have c10b0 : ((rd (rd_L1 l0 t101) x10_1) == a1) = false := beq_eq_false_iff_ne.mpr c10
  have c10b1 : ((rd (rd_L1 l0 t101) x10_1) != a1) = true := bne_iff_ne.mpr c10
  have H' := a_ H
  clear H
  have p106 : 0 ≤ (t101 : Int) := of_decide_eq_true (by first | (with_reducible assumption) | assumption)
  have q106 : t101 < (l0.length : Int) := of_decide_eq_true (by first | (with_reducible assumption) | assumption)
  obtain ⟨ad106, A106_0, c106_0, e106, hx106_0, hl106_0, hi106_0⟩ := at_L1 HR0.out t101 p106 q106
  cases e106
  have HR106_0 := a_ hi106_0
  have HC106_0 := a_ hl106_0
  clear hi106_0 hl106_0
  replace p106 := eq_true p106
  replace q106 := eq_true q106
  have p107 : 0 ≤ (x10_1 : Int) := of_decide_eq_true (by first | (with_reducible assumption) | assumption)
  have q107 : x10_1 < ((rd_L1 l0 t101).length : Int) := of_decide_eq_true (by first | (with_reducible assumption) | assumption)
  obtain ⟨ad107, e107, hx107_0⟩ := Kd.at_int HR106_0.out x10_1 p107 q107
  cases e107
  replace p107 := eq_true p107
  replace q107 := eq_true q107
  go_wp2
  go_roundg k1
  case measure => have := HK1.out; omega
  case rel => exact ⟨(wrap64 (x10_1 + 1)), (by first | rfl | (simp; done) | (simp [*]; done)), H', ⟨by have := HK1.out; omega⟩, by repeat (first | exact Drawn0.refl _ | apply Drawn0.step)⟩
def rr_letters.f (a0 : Int) : Option (ByteArray) := if 0 ≤ (wrap64 (2 * a0)) then (if (wrap64 (2 * a0)) ≤ 4 then (some ((⟨#[97, 65, 98, 66]⟩ : ByteArray).extract 0 ((wrap64 (2 * a0)) : Int).toNat)) else (none)) else (none)
theorem rr_letters.calls (a0 : Int) (r : ByteArray) (w : World) (h : rr_letters.f a0 = some r) :
  Calls Try.prog 73 #[.int .i64 a0] w fun e w' => e = .returned (.string r) ∧ Drawn0 w w' := by
 have H : (if 0 ≤ (wrap64 (2 * a0)) then (if (wrap64 (2 * a0)) ≤ 4 then (some ((⟨#[97, 65, 98, 66]⟩ : ByteArray).extract 0 ((wrap64 (2 * a0)) : Int).toNat)) else (none)) else (none)) = some r := h
 clear h
 obtain ⟨ji2, hji2⟩ : ∃ j_ : Int, (wrap64 (2 * a0)) = j_ := ⟨_, rfl⟩
 replace H : (if 0 ≤ (ji2) then (if (ji2) ≤ 4 then (some ((⟨#[97, 65, 98, 66]⟩ : ByteArray).extract 0 ((ji2) : Int).toNat)) else (none)) else (none)) = some r := by first | (rw [hji2] at H; exact H) | (simp only [hji2] at H ⊢; exact H)
 have hji2w : (IntKind.i64.wrap (2 * a0)) = ji2 := (i64_w _).trans hji2
 by_cases c3 : 0 ≤ (ji2)
 rotate_left
 ·rw [if_neg c3] at H
  exact absurd H (by simp)
 rw [if_pos c3] at H
 have c3b0 := eq_true c3
 have c3b1 : decide (0 ≤ (ji2)) = true := decide_eq_true c3
 clear c3
 by_cases c4 : (ji2) ≤ 4
 rotate_left
 ·rw [if_neg c4] at H
  exact absurd H (by simp)
 rw [if_pos c4] at H
 have c4b0 := eq_true c4
 have c4b1 : decide ((ji2) ≤ 4) = true := decide_eq_true c4
 clear c4
 obtain rfl := Option.some.inj H
 go_enter Try.func73, Try.ntmps73
 go_wp2
 go_ret
 exact ⟨by first | rfl | (simp; done) | (simp only [← hji2] <;> (first | rfl | simp)) | (simp [*]; done), by repeat (first | exact Drawn0.refl _ | apply Drawn0.step)⟩
mutual
def rr_numbering.l0 : Nat → List (List Int) → List Int → List ByteArray → ByteArray → Int → Option (List Int × List ByteArray)
 | 0, _, _, _, _, _ => none
 | k + 1, x0, x6, x7, x8, x9 => if x9 < (x6.length : Int) then (rr_numbering.l1 k x0 x6 x7 x8 x9 0) else (some (x6, x7))
def rr_numbering.l1 : Nat → List (List Int) → List Int → List ByteArray → ByteArray → Int → Int → Option (List Int × List ByteArray)
 | 0, _, _, _, _, _, _ => none
 | k + 1, x0, x6, x7, x8, x9, x10 => if x10 < (x8.size : Int) then (if 0 ≤ x9 then (if x9 < (x6.length : Int) then (if 0 ≤ x10 then ((rr_step.f k x0 (rd x6 x9) (bt x8 x10)).bind fun t116 => (rr_numbering.l2 k x0 x6 x7 x8 x9 x10 t116 false 0)) else (none)) else (none)) else (none)) else (rr_numbering.l0 k x0 x6 x7 x8 (wrap64 (x9 + 1)))
def rr_numbering.l2 : Nat → List (List Int) → List Int → List ByteArray → ByteArray → Int → Int → Int → Bool → Int → Option (List Int × List ByteArray)
 | 0, _, _, _, _, _, _, _, _, _ => none
 | k + 1, x0, x6, x7, x8, x9, x10, x11, x12, x13 => if x13 < (x6.length : Int) then (if x12 = true then (rr_numbering.l2 k x0 x6 x7 x8 x9 x10 x11 true (wrap64 (x13 + 1))) else (if 0 ≤ x13 then (rr_numbering.l2 k x0 x6 x7 x8 x9 x10 x11 ((rd x6 x13) == x11) (wrap64 (x13 + 1))) else (none))) else (if x12 = true then (rr_numbering.l1 k x0 x6 x7 x8 x9 (wrap64 (x10 + 1))) else (if x6.length < 17592186044416 then (if 0 ≤ x9 then (if x9 < (x7.length : Int) then (if 0 ≤ x10 then (if x10 ≤ (wrap64 (x10 + 1)) then (if (wrap64 (x10 + 1)) ≤ (x8.size : Int) then (if (rdOf ByteArray.empty x7 x9).size + (x8.extract (x10 : Int).toNat ((wrap64 (x10 + 1)) : Int).toNat).size ≤ 9223372036854775807 then (if x7.length < 8796093022208 then (rr_numbering.l1 k x0 (x6 ++ [x11]) (x7 ++ [(rdOf ByteArray.empty x7 x9) ++ (x8.extract (x10 : Int).toNat ((wrap64 (x10 + 1)) : Int).toNat)]) x8 x9 (wrap64 (x10 + 1))) else (none)) else (none)) else (none)) else (none)) else (none)) else (none)) else (none)) else (none)))
end
def rr_numbering.f (k : Nat) (l0 : List (List Int)) (a1 : Int) : Option (List Int × List ByteArray) := (rr_letters.f (l0.length : Int)).bind fun t114 => (rr_numbering.l0 k l0 (([a1] : List Int)) (([(⟨#[]⟩ : ByteArray)] : List ByteArray)) t114 0)
def rr_numbering.T10 : Bool × List (List Nat × List Nat) := (true, [([], []), ([], []), ([], []), ([1, 2], [1, 2]), ([3], [3]), ([], []), ([], []), ([5, 6], [5, 6]), ([0, 4, 7], [0, 4, 7]), ([8, 8, 0, 1, 2, 3, 4, 5, 6, 7, 8], [8])])
def rr_numbering.B10 : List Nat := [0, 0, 0, 6, 14, 0, 0, 96, 255, 511]
theorem rr_numbering.tab10 : rtab .any (opsOf Try.f67 10) = rr_numbering.T10 := by kernel_rfl
theorem rr_numbering.bits10 : waitsOk rr_numbering.T10.2 rr_numbering.B10 = true := by kernel_rfl
def rr_numbering.T18 : Bool × List (List Nat × List Nat) := (true, [([], []), ([], []), ([], []), ([1, 2], [1, 2]), ([3], [3]), ([], []), ([], []), ([], []), ([7], [7]), ([5, 6, 8], [5, 6, 8]), ([4, 9], [4, 9]), ([10], [10]), ([0, 11], [0, 11]), ([12, 12, 0, 1, 2, 3, 4, 5, 6, 7, 8, 9, 10, 11, 12], [0, 1, 12])])
def rr_numbering.B18 : List Nat := [0, 0, 0, 6, 14, 0, 0, 0, 128, 480, 1022, 2046, 4095, 8191]
theorem rr_numbering.tab18 : rtab .any (opsOf Try.f67 18) = rr_numbering.T18 := by kernel_rfl
theorem rr_numbering.bits18 : waitsOk rr_numbering.T18.2 rr_numbering.B18 = true := by kernel_rfl
theorem rr_numbering.calls (k : Nat) (A0 : Option Addr) (c0 : Nat) (l0 : List (List Int)) (a1 : Int) (r1 : List Int) (r2 : List ByteArray) (w : World) (hr0 : Kd.C (Kd.slice 3 (Kd.int .i64)) w A0 l0.length l0) (hc0 : l0.length ≤ c0) (h : rr_numbering.f k l0 a1 = some (r1, r2)) :
  Calls Try.prog 67 #[.slice A0 l0.length c0, .int .i64 a1] w fun e w' => ∃ v0_ v1_ : Value, e = .returned (.tuple #[v0_, v1_]) ∧ Kd.R (Kd.int .i64) 3 w' w.heap.size (fun _ => True) v0_ r1 ∧ Kd.R Kd.string 9 w' w.heap.size (fun _ => True) v1_ r2 ∧ Below w.heap.size w w' := by
 have HR0 := a_ hr0
 have HC0 := a_ hc0
 clear hr0 hc0
 have HB := a_ (Below.refl w.heap.size w)
 have H : ((rr_letters.f (l0.length : Int)).bind fun t114 => (rr_numbering.l0 k l0 (([a1] : List Int)) (([(⟨#[]⟩ : ByteArray)] : List ByteArray)) t114 0)) = some (r1, r2) := h
 clear h
 obtain ⟨y108, hy108⟩ : ∃ y_ : List Int, y_ = (([a1] : List Int)) := ⟨_, rfl⟩
 replace H : ((rr_letters.f (l0.length : Int)).bind fun t114 => (rr_numbering.l0 k l0 y108 (([(⟨#[]⟩ : ByteArray)] : List ByteArray)) t114 0)) = some (r1, r2) := by first | (rw [hy108]; with_reducible exact H) | (have H2_ := (Option.bind_some _ _).symm.trans H; rw [hy108]; with_reducible exact H2_) | (have H2_ := (Option.bind_some _ _).symm.trans H; with_reducible exact H2_) | with_reducible exact H | (rw [hy108]; exact H) | exact H
 have Ny108 := a_ hy108
 clear hy108
 obtain ⟨y111, hy111⟩ : ∃ y_ : List ByteArray, y_ = (([(⟨#[]⟩ : ByteArray)] : List ByteArray)) := ⟨_, rfl⟩
 replace H : ((rr_letters.f (l0.length : Int)).bind fun t114 => (rr_numbering.l0 k l0 y108 y111 t114 0)) = some (r1, r2) := by first | (rw [hy111]; with_reducible exact H) | (have H2_ := (Option.bind_some _ _).symm.trans H; rw [hy111]; with_reducible exact H2_) | (have H2_ := (Option.bind_some _ _).symm.trans H; with_reducible exact H2_) | with_reducible exact H | (rw [hy111]; exact H) | exact H
 have Ny111 := a_ hy111
 clear hy111
 replace H := Option.bind_eq_some_iff.mp H
 obtain ⟨t114, A30, H⟩ := H
 try dsimp only at H
 have A3 := a_ A30
 clear A30
 have H' := a_ H
 clear H
 go_enter Try.func67, Try.ntmps67
 go_wp2_with (first | ((with_reducible refine gate_dst (N := 15) rfl ?_); refine Kd.R_lit (Kd.int .i64) _ 3 ?hg (N := 15) ?hd (xs := ([a1] : List Int)) (inner := [.int .i64 a1]) (ok := fun _ => True) (okp := fun _ => True) ?hr ?hp (fun _ hk => hk) trivial (Below.refl _ _) (Nat.le_refl _) (by simp) ?_; (case hd => rfl); (case hg => rfl); (case hr => first | (go_simp; done) | (go_simp; rfl)); (case hp => exact (Reps.one (show Kd.M (Kd.int .i64) _ _ _ a1 [.int .i64 a1] from rfl) (Reps.none _ _))); intro v109 w4 ho5 hb hg_ hnew_; clear hg_ hnew_; (first | rw [← Ny108.out] at ho5 | (simp only [Int.reduceToNat] at ho5; rw [← Ny108.out] at ho5)); have HO110 := a_ (Kd.R_lower ho5 (bZ_ (gr HB.out))); replace HB := a_ (bT_ HB.out (tr hb)); clear hb ho5) | ((with_reducible refine gate_dst (N := 16) rfl ?_); refine Kd.R_lit Kd.string _ 9 ?hg (N := 16) ?hd (xs := ([(⟨#[]⟩ : ByteArray)] : List ByteArray)) (inner := [.string (⟨#[]⟩ : ByteArray)]) (ok := fun _ => True) (okp := fun _ => True) ?hr ?hp (fun _ hk => hk) trivial (Below.refl _ _) (Nat.le_refl _) (by simp) ?_; (case hd => rfl); (case hg => rfl); (case hr => first | (go_simp; done) | (go_simp; rfl)); (case hp => exact (Reps.one (show Kd.M Kd.string _ _ _ (⟨#[]⟩ : ByteArray) [.string (⟨#[]⟩ : ByteArray)] from rfl) (Reps.none _ _))); intro v112 w6 ho7 hb hg_ hnew_; clear hg_ hnew_; (first | rw [← Ny111.out] at ho7 | (simp only [Int.reduceToNat] at ho7; rw [← Ny111.out] at ho7)); have HO113 := a_ (Kd.R_lower ho7 (bZ_ (gr HB.out))); replace HO110 := a_ (Kd.R_below HO110.out (tr hb)); replace HB := a_ (bT_ HB.out (tr hb)); clear hb ho7) | ((with_reducible refine gate_callee (f := 73) rfl ?_); refine goesL_ (some 19) rfl rfl Try.func73 (by kernel_rfl) rfl #[.int .i64 (l0.length : Int)] rfl (by (try simp only [List.map_toArray, List.map_cons, List.map_nil]); first | done | rfl | (simp only [List.length_drop, List.length_take]; rfl)) ?_; (with_reducible refine (rr_letters.calls (l0.length : Int) t114 _ A3.out).mono ?_); rintro e w' ⟨rfl, ⟨nd, rfl⟩⟩; refine ⟨_, rfl, ?_⟩))
 go_loopg [6, 7, 9] k (fun kq v6 v7 v9 w' => ∃ (x6_1 : List Int) (x7_1 : List ByteArray) (x9_1 : Int), v9 = .int .i64 x9_1 ∧ Aside0 (rr_numbering.l0 kq l0 x6_1 x7_1 t114 x9_1 = some (r1, r2)) ∧ Aside0 (kq ≤ k) ∧ Aside0 (Kd.R (Kd.int .i64) 3 w' w.heap.size (fun _ => True) v6 x6_1) ∧ Aside0 (Kd.R Kd.string 9 w' w.heap.size (fun _ => True) v7 x7_1) ∧ Aside0 (Below w.heap.size w w'))
 case atStart => exact ⟨(y108), (y111), (0), (by first | rfl | (simp; done) | (simp [*]; done)), H', ⟨Nat.le_refl _⟩, ⟨by exact rk HO110.out⟩, ⟨by exact rk HO113.out⟩, ⟨by exact gs HB.out⟩⟩
 clear H'
 try clear p2
 try clear c6
 try clear c7
 obtain ⟨x6_1, x7_1, x9_1, rfl, HA, HK1, HO_6, HO_7, HB⟩ := hrel
 cases gk with
 | zero => exact absurd HA.out (by simp [rr_numbering.l0])
 | succ k1 =>
  have H := HA.out
  clear HA
  simp only [rr_numbering.l0] at H
  by_cases c8 : x9_1 < (x6_1.length : Int)
  rotate_left
  ·rw [if_neg c8] at H
   have c8b0 : decide (x9_1 < (x6_1.length : Int)) = false := decide_eq_false c8
   clear c8
   simp only [Option.some.injEq, Prod.mk.injEq] at H
   obtain ⟨rfl, rfl⟩ := H
   obtain ⟨Ao34, co34, eo34⟩ := Kd.R_slice HO_6.out
   subst eo34
   go_wp2
   go_ret2
   exact ⟨_, _, by first | rfl | (simp [errW_none, errW_some] <;> rfl) | (simp [*, errW_none, errW_some] <;> rfl), by exact rk HO_6.out, by exact rk HO_7.out, by exact gs HB.out⟩
  rw [if_pos c8] at H
  have c8b0 : decide (x9_1 < (x6_1.length : Int)) = true := decide_eq_true c8
  clear c8
  have H' := a_ H
  clear H
  obtain ⟨Ao9, co9, eo9⟩ := Kd.R_slice HO_6.out
  subst eo9
  go_wp2
  go_loopg [6, 7, 10] k1 (fun kq v6 v7 v10 w' => ∃ (x6_2 : List Int) (x7_2 : List ByteArray) (x10_2 : Int), v10 = .int .i64 x10_2 ∧ Aside0 (rr_numbering.l1 kq l0 x6_2 x7_2 t114 x9_1 x10_2 = some (r1, r2)) ∧ Aside0 (kq ≤ k1) ∧ Aside0 (Kd.R (Kd.int .i64) 3 w' w.heap.size (fun _ => True) v6 x6_2) ∧ Aside0 (Kd.R Kd.string 9 w' w.heap.size (fun _ => True) v7 x7_2) ∧ Aside0 (Below w.heap.size w w'))
  case atStart => exact ⟨(x6_1), (x7_1), (0), (by first | rfl | (simp; done) | (simp [*]; done)), H', ⟨Nat.le_refl _⟩, ⟨by exact rk HO_6.out⟩, ⟨by exact rk HO_7.out⟩, ⟨by exact gs HB.out⟩⟩
  clear H'
  try clear p2
  try clear c6
  try clear c7
  try clear c8
  try clear c8b0
  try clear p2
  obtain ⟨x6_2, x7_2, x10_2, rfl, HA, HK2, HO_6, HO_7, HB⟩ := hrel
  cases gk with
  | zero => exact absurd HA.out (by simp [rr_numbering.l1])
  | succ k2 =>
   have H := HA.out
   clear HA
   simp only [rr_numbering.l1] at H
   by_cases c10 : x10_2 < (t114.size : Int)
   rotate_left
   ·rw [if_neg c10] at H
    have c10b0 : decide (x10_2 < (t114.size : Int)) = false := decide_eq_false c10
    clear c10
    have H' := a_ H
    clear H
    go_wp2
    go_roundg k2
    case measure => have := HK1.out; have := HK2.out; omega
    case rel => exact ⟨(x6_2), (x7_2), (wrap64 (x9_1 + 1)), (by first | rfl | (simp; done) | (simp [*]; done)), H', ⟨by have := HK1.out; have := HK2.out; omega⟩, ⟨by exact rk HO_6.out⟩, ⟨by exact rk HO_7.out⟩, ⟨by exact gs HB.out⟩⟩
   rw [if_pos c10] at H
   have c10b0 : decide (x10_2 < (t114.size : Int)) = true := decide_eq_true c10
   clear c10
   by_cases c11 : 0 ≤ x9_1
   rotate_left
   ·rw [if_neg c11] at H
    exact absurd H (by simp)
   rw [if_pos c11] at H
   have c11b0 : decide (0 ≤ x9_1) = true := decide_eq_true c11
   clear c11
   by_cases c12 : x9_1 < (x6_2.length : Int)
   rotate_left
   ·rw [if_neg c12] at H
    exact absurd H (by simp)
   rw [if_pos c12] at H
   have c12b0 : decide (x9_1 < (x6_2.length : Int)) = true := decide_eq_true c12
   clear c12
   by_cases c13 : 0 ≤ x10_2
   rotate_left
   ·rw [if_neg c13] at H
    exact absurd H (by simp)
   rw [if_pos c13] at H
   have c13b0 : decide (0 ≤ x10_2) = true := decide_eq_true c13
   clear c13
   replace H := Option.bind_eq_some_iff.mp H
   obtain ⟨t116, A150, H⟩ := H
   try dsimp only at H
   have A15 := a_ A150
   clear A150
   have H' := a_ H
   clear H
   try go_wp2
   replace HO_6 := a_ (Kd.R_drew HO_6.out)
   replace HO_7 := a_ (Kd.R_drew HO_7.out)
   replace HB := a_ (b1_ HB.out)
   obtain ⟨Ao17, co17, eo17⟩ := Kd.R_slice HO_6.out
   (first | subst eo17 | (injection eo17 with f1_ f2_ f3_; have f4_ := f1_.symm; have f5_ := f3_.symm; clear f1_ f2_ f3_; subst f4_; subst f5_))
   have p115 : 0 ≤ (x9_1 : Int) := of_decide_eq_true (by first | (with_reducible assumption) | assumption)
   have q115 : x9_1 < (x6_2.length : Int) := of_decide_eq_true (by first | (with_reducible assumption) | assumption)
   obtain ⟨ad115, e115, hx115_0⟩ := Kd.at_int (Kd.R_reads' HO_6.out).2.2 x9_1 p115 q115
   cases e115
   replace p115 := eq_true p115
   replace q115 := eq_true q115
   have p14 : 0 ≤ (x10_2 : Int) := of_decide_eq_true (by first | (with_reducible assumption) | assumption)
   have q14 : x10_2 < (t114.size : Int) := of_decide_eq_true (by first | (with_reducible assumption) | assumption)
   have hx14 := bt_at t114 x10_2
   replace p14 := eq_true p14
   replace q14 := eq_true q14
   refine start_ (n := 10) (S := fun w' => w'.cell? (ad115.add (x9_1).toNat) = some (.int .i64 (rd x6_2 x9_1))) (ds := []) #[false, false, false, false, false, false, false, false, false, false] (by kernel_rfl) rfl rfl (hx115_0) (fun hHeld => ?_); refine with_tabW rr_numbering.tab10 rr_numbering.bits10 (fun HT_ HW_ => ?_)
   generalize wr.drew = w16 at HO_6 HO_7 HB hx115_0 hHeld ⊢
   refine pure_ (i := 0) (N := some 32) (v := ?_) (a' := ?_) #[true, false, false, false, false, false, false, false, false, false] rfl rfl (any_of HT_.out (by kernel_rfl)) (fun _ _ _ h => h) (Or.inl ⟨by rfl, ?_⟩) ?_ ?_
   rotate_left
   ·intro w'
    go_simp
    with_reducible rfl
   rotate_left
   ·simp only [Act.put, List.setIfInBounds_toArray, List.set_cons_zero, List.set_cons_succ, i64_w, i32_w]
    rfl
   refine pure_ (i := 1) (N := some 33) (v := ?_) (a' := ?_) #[true, true, false, false, false, false, false, false, false, false] rfl rfl (any_of HT_.out (by kernel_rfl)) (fun _ _ _ h => h) (Or.inl ⟨by rfl, ?_⟩) ?_ ?_
   rotate_left
   ·intro w'
    go_simp
    with_reducible rfl
   rotate_left
   ·simp only [Act.put, List.setIfInBounds_toArray, List.set_cons_zero, List.set_cons_succ, i64_w, i32_w]
    rfl
   refine pure_ (i := 2) (N := some 34) (v := ?_) (a' := ?_) #[true, true, true, false, false, false, false, false, false, false] rfl rfl (any_of HT_.out (by kernel_rfl)) (fun _ _ _ h => h) (Or.inl ⟨by rfl, ?_⟩) ?_ ?_
   rotate_left
   ·intro w'
    go_simp
    with_reducible rfl
   rotate_left
   ·simp only [Act.put, List.setIfInBounds_toArray, List.set_cons_zero, List.set_cons_succ, i64_w, i32_w]
    rfl
   refine pure_ (i := 3) (N := some 35) (v := ?_) (a' := ?_) #[true, true, true, true, false, false, false, false, false, false] rfl rfl (any_of HT_.out (by kernel_rfl)) (fun _ _ _ h => h) (Or.inl ⟨by rfl, ?_⟩) ?_ ?_
   rotate_left
   ·intro w'
    go_simp
    with_reducible rfl
   rotate_left
   ·simp only [Act.put, List.setIfInBounds_toArray, List.set_cons_zero, List.set_cons_succ, i64_w, i32_w]
    rfl
   refine pure_ (i := 5) (N := some 37) (v := ?_) (a' := ?_) #[true, true, true, true, false, true, false, false, false, false] rfl rfl (any_of HT_.out (by kernel_rfl)) (fun _ _ _ h => h) (Or.inl ⟨by rfl, ?_⟩) ?_ ?_
   rotate_left
   ·intro w'
    go_simp
    with_reducible rfl
   rotate_left
   ·simp only [Act.put, List.setIfInBounds_toArray, List.set_cons_zero, List.set_cons_succ, i64_w, i32_w]
    rfl
   refine pure_ (i := 6) (N := some 38) (v := ?_) (a' := ?_) #[true, true, true, true, false, true, true, false, false, false] rfl rfl (any_of HT_.out (by kernel_rfl)) (fun _ _ _ h => h) (Or.inl ⟨by rfl, ?_⟩) ?_ ?_
   rotate_left
   ·intro w'
    go_simp
    with_reducible rfl
   rotate_left
   ·simp only [Act.put, List.setIfInBounds_toArray, List.set_cons_zero, List.set_cons_succ, i64_w, i32_w]
    rfl
   refine take_ (i := 4) (N := some 36) (v := ?_) (a' := ?_) #[true, true, true, true, true, true, true, false, false, false] rfl rfl (take_ofW HT_.out HW_.out (by kernel_rfl)) (fun _ _ _ h => h) (Or.inl ⟨by rfl, ?_⟩) hHeld ?_ ?_
   rotate_left
   ·intro w' s0
    go_simp
    with_reducible rfl
   rotate_left
   ·simp only [Act.put, List.setIfInBounds_toArray, List.set_cons_zero, List.set_cons_succ, i64_w, i32_w]
    rfl
   refine take_ (i := 7) (N := some 39) (v := ?_) (a' := ?_) #[true, true, true, true, true, true, true, true, false, false] rfl rfl (take_ofW HT_.out HW_.out (by kernel_rfl)) (fun _ _ _ h => h) (Or.inl ⟨by rfl, ?_⟩) hHeld ?_ ?_
   rotate_left
   ·intro w' s0
    go_simp
    with_reducible rfl
   rotate_left
   ·simp only [Act.put, List.setIfInBounds_toArray, List.set_cons_zero, List.set_cons_succ, i64_w, i32_w]
    rfl
   refine one_ (i := 8) (N := some 40) #[true, true, true, true, true, true, true, true, true, false] rfl rfl (one_of HT_.out (by kernel_rfl)) (by decide) (fun K hK => ?_)
   refine goes_ Try.func58 (by kernel_rfl) rfl #[.slice A0 l0.length c0, .int .i64 (rd x6_2 x9_1), .int .u8 (bt t114 x10_2)] (by rfl) rfl rfl (by (try simp only [List.map_toArray, List.map_cons, List.map_nil]); first | done | rfl | (simp only [List.length_drop, List.length_take]; rfl)) ?_
   with_reducible refine (rr_step.calls k2 _ _ l0 (rd x6_2 x9_1) (bt t114 x10_2) t116 _ ?side1 ?side2 A15.out).mono ?_
   (case side1 => repeat (first | exact (Kd.C_below HR0.out HB.out) | (with_reducible refine Kd.C_alloc ?_ _) | (with_reducible refine Kd.C_drewN ?_ _) | (with_reducible refine Kd.C_drew ?_)))
   (case side2 => exact HC0.out)
   rintro e w' ⟨rfl, ⟨nd, rfl⟩⟩
   refine ⟨_, rfl, ?_⟩
   refine hK.out _ _ (hHeld) (fun hHeld => ?_)
   clear hK K
   refine norm_ (a' := ?_) ?_ ?_
   rotate_left
   ·show Act.put _ (some 40) _ = _
    simp only [Act.put, List.setIfInBounds_toArray, List.set_cons_zero, List.set_cons_succ, i64_w, i32_w]
    rfl
   refine pure_ (i := 9) (N := some 11) (v := ?_) (a' := ?_) #[true, true, true, true, true, true, true, true, true, true] rfl rfl (any_of HT_.out (by kernel_rfl)) (fun _ _ _ h => h) (Or.inl ⟨by rfl, ?_⟩) ?_ ?_
   rotate_left
   ·intro w'
    go_simp
    with_reducible rfl
   rotate_left
   ·simp only [Act.put, List.setIfInBounds_toArray, List.set_cons_zero, List.set_cons_succ, i64_w, i32_w]
    rfl
   refine done_ (done_of HT_.out (by kernel_rfl)) ?_
   try go_wp2
   go_loopg [12, 13] k2 (fun kq v12 v13 w' => ∃ (x12_3 : Bool) (x13_3 : Int), v12 = .bool x12_3 ∧ v13 = .int .i64 x13_3 ∧ Aside0 (rr_numbering.l2 kq l0 x6_2 x7_2 t114 x9_1 x10_2 t116 x12_3 x13_3 = some (r1, r2)) ∧ Aside0 (kq ≤ k2) ∧ Aside0 (Kd.R (Kd.int .i64) 3 w' w.heap.size (fun _ => True) (.slice (some ad115) x6_2.length co17) x6_2) ∧ Aside0 (Kd.R Kd.string 9 w' w.heap.size (fun _ => True) u7 x7_2) ∧ Aside0 (Below w.heap.size w w'))
   case atStart => exact ⟨(false), (0), (by first | rfl | (simp; done) | (simp [*]; done)), (by first | rfl | (simp; done) | (simp [*]; done)), H', ⟨Nat.le_refl _⟩, ⟨by exact rk HO_6.out⟩, ⟨by exact rk HO_7.out⟩, ⟨by exact gs HB.out⟩⟩
   clear H'
   try clear c1
   try clear p1
   try clear q1
   try clear hx1
   try clear p2
   try clear c5
   try clear c6
   try clear c7
   try clear c8
   try clear c8b0
   try clear c10
   try clear c10b0
   try clear c11
   try clear c11b0
   try clear p11
   try clear q11
   try clear hx11
   try clear c12
   try clear c12b0
   try clear c13
   try clear c13b0
   try clear p14
   try clear q14
   try clear hx14
   try clear hx115_0
   try clear p115
   try clear p14
   try clear p2
   try clear q115
   try clear q14
   obtain ⟨x12_3, x13_3, rfl, rfl, HA, HK3, HO_6, HO_7, HB⟩ := hrel
   cases gk with
   | zero => exact absurd HA.out (by simp [rr_numbering.l2])
   | succ k3 =>
    have H := HA.out
    clear HA
    simp only [rr_numbering.l2] at H
    by_cases c18 : x13_3 < (x6_2.length : Int)
    ·rw [if_pos c18] at H
     have c18b0 : decide (x13_3 < (x6_2.length : Int)) = true := decide_eq_true c18
     clear c18
     by_cases c19 : x12_3 = true
     ·subst c19
      have H1 := H; rw [if_pos rfl] at H1
      clear H
      have H := H1
      clear H1
      have H' := a_ H
      clear H
      go_wp2
      go_roundg k3
      case measure => have := HK1.out; have := HK2.out; have := HK3.out; omega
      case rel => exact ⟨(true), (wrap64 (x13_3 + 1)), (by first | rfl | (simp; done) | (simp [*]; done)), (by first | rfl | (simp; done) | (simp [*]; done)), H', ⟨by have := HK1.out; have := HK2.out; have := HK3.out; omega⟩, ⟨by exact rk HO_6.out⟩, ⟨by exact rk HO_7.out⟩, ⟨by exact gs HB.out⟩⟩
     replace c19 := Bool.eq_false_iff.mpr c19
     subst c19
     have H1 := H; rw [if_neg (show ¬ (false = true) by decide)] at H1
     clear H
     have H := H1
     clear H1
     by_cases c20 : 0 ≤ x13_3
     rotate_left
     ·rw [if_neg c20] at H
      exact absurd H (by simp)
     rw [if_pos c20] at H
     have c20b0 : decide (0 ≤ x13_3) = true := decide_eq_true c20
     clear c20
     have H' := a_ H
     clear H
     have p117 : 0 ≤ (x13_3 : Int) := of_decide_eq_true (by first | (with_reducible assumption) | assumption)
     have q117 : x13_3 < (x6_2.length : Int) := of_decide_eq_true (by first | (with_reducible assumption) | assumption)
     obtain ⟨ad117, e117, hx117_0⟩ := Kd.at_int (Kd.R_reads' HO_6.out).2.2 x13_3 p117 q117
     obtain rfl : ad115 = ad117 := (by injection e117)
     replace p117 := eq_true p117
     replace q117 := eq_true q117
     go_wp2
     go_roundg k3
     case measure => have := HK1.out; have := HK2.out; have := HK3.out; omega
     case rel => exact ⟨(((rd x6_2 x13_3) == t116)), (wrap64 (x13_3 + 1)), (by first | rfl | (simp; done) | (simp [*]; done)), (by first | rfl | (simp; done) | (simp [*]; done)), H', ⟨by have := HK1.out; have := HK2.out; have := HK3.out; omega⟩, ⟨by exact rk HO_6.out⟩, ⟨by exact rk HO_7.out⟩, ⟨by exact gs HB.out⟩⟩
    rw [if_neg c18] at H
    have c18b0 : decide (x13_3 < (x6_2.length : Int)) = false := decide_eq_false c18
    clear c18
    by_cases c21 : x12_3 = true
    ·subst c21
     have H1 := H; rw [if_pos rfl] at H1
     clear H
     have H := H1
     clear H1
     have H' := a_ H
     clear H
     go_wp2
     go_roundg k3
     case measure => have := HK1.out; have := HK2.out; have := HK3.out; omega
     case rel => exact ⟨(x6_2), (x7_2), (wrap64 (x10_2 + 1)), (by first | rfl | (simp; done) | (simp [*]; done)), H', ⟨by have := HK1.out; have := HK2.out; have := HK3.out; omega⟩, ⟨by exact rk HO_6.out⟩, ⟨by exact rk HO_7.out⟩, ⟨by exact gs HB.out⟩⟩
    replace c21 := Bool.eq_false_iff.mpr c21
    subst c21
    have H1 := H; rw [if_neg (show ¬ (false = true) by decide)] at H1
    clear H
    have H := H1
    clear H1
    by_cases c22 : x6_2.length < 17592186044416
    rotate_left
    ·rw [if_neg c22] at H
     exact absurd H (by simp)
    rw [if_pos c22] at H
    have LMc22 := a_ c22
    clear c22
    obtain ⟨y118, hy118⟩ : ∃ y_ : List Int, y_ = (x6_2 ++ [t116]) := ⟨_, rfl⟩
    replace H : (if 0 ≤ x9_1 then (if x9_1 < (x7_2.length : Int) then (if 0 ≤ x10_2 then (if x10_2 ≤ (wrap64 (x10_2 + 1)) then (if (wrap64 (x10_2 + 1)) ≤ (t114.size : Int) then (if (rdOf ByteArray.empty x7_2 x9_1).size + (t114.extract (x10_2 : Int).toNat ((wrap64 (x10_2 + 1)) : Int).toNat).size ≤ 9223372036854775807 then (if x7_2.length < 8796093022208 then (rr_numbering.l1 k3 l0 y118 (x7_2 ++ [(rdOf ByteArray.empty x7_2 x9_1) ++ (t114.extract (x10_2 : Int).toNat ((wrap64 (x10_2 + 1)) : Int).toNat)]) t114 x9_1 (wrap64 (x10_2 + 1))) else (none)) else (none)) else (none)) else (none)) else (none)) else (none)) else (none)) = some (r1, r2) := by first | (rw [hy118]; with_reducible exact H) | (have H2_ := (Option.bind_some _ _).symm.trans H; rw [hy118]; with_reducible exact H2_) | (have H2_ := (Option.bind_some _ _).symm.trans H; with_reducible exact H2_) | with_reducible exact H | (rw [hy118]; exact H) | exact H
    have Ny118 := a_ hy118
    clear hy118
    by_cases c23 : 0 ≤ x9_1
    rotate_left
    ·rw [if_neg c23] at H
     exact absurd H (by simp)
    rw [if_pos c23] at H
    have c23b0 : decide (0 ≤ x9_1) = true := decide_eq_true c23
    clear c23
    by_cases c24 : x9_1 < (x7_2.length : Int)
    rotate_left
    ·rw [if_neg c24] at H
     exact absurd H (by simp)
    rw [if_pos c24] at H
    have c24b0 : decide (x9_1 < (x7_2.length : Int)) = true := decide_eq_true c24
    clear c24
    by_cases c25 : 0 ≤ x10_2
    rotate_left
    ·rw [if_neg c25] at H
     exact absurd H (by simp)
    rw [if_pos c25] at H
    have c25b0 := eq_true c25
    have c25b1 : decide (0 ≤ x10_2) = true := decide_eq_true c25
    clear c25
    by_cases c26 : x10_2 ≤ (wrap64 (x10_2 + 1))
    rotate_left
    ·rw [if_neg c26] at H
     exact absurd H (by simp)
    rw [if_pos c26] at H
    have c26b0 := eq_true c26
    have c26b1 : decide (x10_2 ≤ (wrap64 (x10_2 + 1))) = true := decide_eq_true c26
    by_cases c27 : (wrap64 (x10_2 + 1)) ≤ (t114.size : Int)
    rotate_left
    ·rw [if_neg c27] at H
     exact absurd H (by simp)
    rw [if_pos c27] at H
    have c27b0 := eq_true c27
    have c27b1 : decide ((wrap64 (x10_2 + 1)) ≤ (t114.size : Int)) = true := decide_eq_true c27
    by_cases c28 : (rdOf ByteArray.empty x7_2 x9_1).size + (t114.extract (x10_2 : Int).toNat ((wrap64 (x10_2 + 1)) : Int).toNat).size ≤ 9223372036854775807
    rotate_left
    ·rw [if_neg c28] at H
     exact absurd H (by simp)
    rw [if_pos c28] at H
    have c28b0 := eq_true c28
    have c28b1 : decide ((rdOf ByteArray.empty x7_2 x9_1).size + (t114.extract (x10_2 : Int).toNat ((wrap64 (x10_2 + 1)) : Int).toNat).size ≤ 9223372036854775807) = true := decide_eq_true c28
    try have c28b2 : (9223372036854775807 < (rdOf ByteArray.empty x7_2 x9_1).size + (t114.extract (x10_2 : Int).toNat ((wrap64 (x10_2 + 1)) : Int).toNat).size) = False := eq_false (Nat.not_lt.2 c28)
    (try (have c28b3 : (9223372036854775807 < (rdOf ByteArray.empty x7_2 x9_1).size + (((wrap64 (x10_2 + 1))).toNat - (x10_2).toNat)) = False := eq_false (by have h1_ := c28; simp only [ByteArray.size_append, ByteArray.size_extract] at h1_; have h2_ : ((wrap64 (x10_2 + 1)) : Int) ≤ (t114.size : Int) := of_decide_eq_true (by first | (with_reducible assumption) | assumption | (apply decide_eq_true; exact of_eq_true (by assumption))); omega)))
    by_cases c29 : x7_2.length < 8796093022208
    rotate_left
    ·rw [if_neg c29] at H
     exact absurd H (by simp)
    rw [if_pos c29] at H
    have LMc29 := a_ c29
    clear c29
    obtain ⟨y122, hy122⟩ : ∃ y_ : List ByteArray, y_ = (x7_2 ++ [(rdOf ByteArray.empty x7_2 x9_1) ++ (t114.extract (x10_2 : Int).toNat ((wrap64 (x10_2 + 1)) : Int).toNat)]) := ⟨_, rfl⟩
    replace H : (rr_numbering.l1 k3 l0 y118 y122 t114 x9_1 (wrap64 (x10_2 + 1))) = some (r1, r2) := by first | (rw [hy122]; with_reducible exact H) | (have H2_ := (Option.bind_some _ _).symm.trans H; rw [hy122]; with_reducible exact H2_) | (have H2_ := (Option.bind_some _ _).symm.trans H; with_reducible exact H2_) | with_reducible exact H | (rw [hy122]; exact H) | exact H
    have Ny122 := a_ hy122
    clear hy122
    have H' := a_ H
    clear H
    try go_wp2_with (first | ((with_reducible refine gate_builtin (b := .append) (xs := #[.tmp 58, .tmp 60]) rfl ?_); at_builtin; refine Kd.R_append (Kd.int .i64) (w0 := w) w.heap.size rfl (.tmp 58) (.tmp 60) 22 3 (.int .i64 0) 8 rfl Try.underlying22 info3 rfl (by decide) (by omega) (.slice (some ad115) x6_2.length co17) x6_2 t116 [.int .i64 t116] (fun _ => True) (fun _ => False) rfl rfl ?aP (fun _ hk => hk.elim) ?aF ?aO ?aB ?aS ?aL ?_; (case aP => exact rfl); (case aB => exact (gr HB.out)); (case aF => exact (fun _ _ => trivial)); (case aO => exact (by exact rk HO_6.out)); (case aS => exact (bZ_ (gr HB.out))); (case aL => have := LMc22.out; omega); intro v119 w30 ho hb hg hat; rw [← Ny118.out] at ho; have HO120 := a_ (ho); replace HO_7 := a_ (Kd.R_over' (by exact rk HO_7.out) (Kd.R_typed (by exact rk HO_6.out)) (by decide) hg); replace HB := a_ (hb); clear HO_6; clear ho hb hg hat))
    replace HO_7 := a_ (Kd.R_drew HO_7.out)
    replace HO120 := a_ (Kd.R_drew HO120.out)
    replace HB := a_ (b1_ HB.out)
    obtain ⟨Ao32, co32, eo32⟩ := Kd.R_slice HO_7.out
    (first | subst eo32 | (injection eo32 with f1_ f2_ f3_; have f4_ := f1_.symm; have f5_ := f3_.symm; clear f1_ f2_ f3_; subst f4_; subst f5_))
    have p121 : 0 ≤ (x9_1 : Int) := of_decide_eq_true (by first | (with_reducible assumption) | assumption)
    have q121 : x9_1 < (x7_2.length : Int) := of_decide_eq_true (by first | (with_reducible assumption) | assumption)
    obtain ⟨ad121, e121, hx121_0⟩ := Kd.at_string (Kd.R_reads' HO_7.out).2.2 x9_1 p121 q121
    cases e121
    replace p121 := eq_true p121
    replace q121 := eq_true q121
    refine start_ (n := 14) (S := fun w' => w'.cell? (ad121.add (x9_1).toNat) = some (.string (rdOf ByteArray.empty x7_2 x9_1))) (ds := [11, 12]) #[false, false, false, false, false, false, false, false, false, false, false, false, false, false] (by kernel_rfl) rfl rfl (hx121_0) (fun hHeld => ?_); refine with_tabW rr_numbering.tab18 rr_numbering.bits18 (fun HT_ HW_ => ?_)
    generalize w30.drew = w31 at HO_7 HO120 HB hx121_0 hHeld ⊢
    refine pure_ (i := 0) (N := some 62) (v := ?_) (a' := ?_) #[true, false, false, false, false, false, false, false, false, false, false, false, false, false] rfl rfl (any_of HT_.out (by kernel_rfl)) (fun _ _ _ h => h) (Or.inl ⟨by rfl, ?_⟩) ?_ ?_
    rotate_left
    ·intro w'
     go_simp
     with_reducible rfl
    rotate_left
    ·simp only [Act.put, List.setIfInBounds_toArray, List.set_cons_zero, List.set_cons_succ, i64_w, i32_w]
     rfl
    refine pure_ (i := 1) (N := some 63) (v := ?_) (a' := ?_) #[true, true, false, false, false, false, false, false, false, false, false, false, false, false] rfl rfl (any_of HT_.out (by kernel_rfl)) (fun _ _ _ h => h) (Or.inl ⟨by rfl, ?_⟩) ?_ ?_
    rotate_left
    ·intro w'
     go_simp
     with_reducible rfl
    rotate_left
    ·simp only [Act.put, List.setIfInBounds_toArray, List.set_cons_zero, List.set_cons_succ, i64_w, i32_w]
     rfl
    refine pure_ (i := 2) (N := some 64) (v := ?_) (a' := ?_) #[true, true, true, false, false, false, false, false, false, false, false, false, false, false] rfl rfl (any_of HT_.out (by kernel_rfl)) (fun _ _ _ h => h) (Or.inl ⟨by rfl, ?_⟩) ?_ ?_
    rotate_left
    ·intro w'
     go_simp
     with_reducible rfl
    rotate_left
    ·simp only [Act.put, List.setIfInBounds_toArray, List.set_cons_zero, List.set_cons_succ, i64_w, i32_w]
     rfl
    refine pure_ (i := 3) (N := some 65) (v := ?_) (a' := ?_) #[true, true, true, true, false, false, false, false, false, false, false, false, false, false] rfl rfl (any_of HT_.out (by kernel_rfl)) (fun _ _ _ h => h) (Or.inl ⟨by rfl, ?_⟩) ?_ ?_
    rotate_left
    ·intro w'
     go_simp
     with_reducible rfl
    rotate_left
    ·simp only [Act.put, List.setIfInBounds_toArray, List.set_cons_zero, List.set_cons_succ, i64_w, i32_w]
     rfl
    refine pure_ (i := 5) (N := some 67) (v := ?_) (a' := ?_) #[true, true, true, true, false, true, false, false, false, false, false, false, false, false] rfl rfl (any_of HT_.out (by kernel_rfl)) (fun _ _ _ h => h) (Or.inl ⟨by rfl, ?_⟩) ?_ ?_
    rotate_left
    ·intro w'
     go_simp
     with_reducible rfl
    rotate_left
    ·simp only [Act.put, List.setIfInBounds_toArray, List.set_cons_zero, List.set_cons_succ, i64_w, i32_w]
     rfl
    refine pure_ (i := 6) (N := some 68) (v := ?_) (a' := ?_) #[true, true, true, true, false, true, true, false, false, false, false, false, false, false] rfl rfl (any_of HT_.out (by kernel_rfl)) (fun _ _ _ h => h) (Or.inl ⟨by rfl, ?_⟩) ?_ ?_
    rotate_left
    ·intro w'
     go_simp
     with_reducible rfl
    rotate_left
    ·simp only [Act.put, List.setIfInBounds_toArray, List.set_cons_zero, List.set_cons_succ, i64_w, i32_w]
     rfl
    refine pure_ (i := 7) (N := some 69) (v := ?_) (a' := ?_) #[true, true, true, true, false, true, true, true, false, false, false, false, false, false] rfl rfl (any_of HT_.out (by kernel_rfl)) (fun _ _ _ h => h) (Or.inl ⟨by rfl, ?_⟩) ?_ ?_
    rotate_left
    ·intro w'
     go_simp
     with_reducible rfl
    rotate_left
    ·simp only [Act.put, List.setIfInBounds_toArray, List.set_cons_zero, List.set_cons_succ, i64_w, i32_w]
     rfl
    refine pure_ (i := 8) (N := some 70) (v := ?_) (a' := ?_) #[true, true, true, true, false, true, true, true, true, false, false, false, false, false] rfl rfl (any_of HT_.out (by kernel_rfl)) (fun _ _ _ h => h) (Or.inl ⟨by rfl, ?_⟩) ?_ ?_
    rotate_left
    ·intro w'
     go_simp
     with_reducible rfl
    rotate_left
    ·simp only [Act.put, List.setIfInBounds_toArray, List.set_cons_zero, List.set_cons_succ, i64_w, i32_w]
     rfl
    refine pure_ (i := 9) (N := some 71) (v := ?_) (a' := ?_) #[true, true, true, true, false, true, true, true, true, true, false, false, false, false] rfl rfl (any_of HT_.out (by kernel_rfl)) (fun _ _ _ h => h) (Or.inl ⟨by rfl, ?_⟩) ?_ ?_
    rotate_left
    ·intro w'
     go_simp
     with_reducible rfl
    rotate_left
    ·simp only [Act.put, List.setIfInBounds_toArray, List.set_cons_zero, List.set_cons_succ, i64_w, i32_w]
     rfl
    refine take_ (i := 4) (N := some 66) (v := ?_) (a' := ?_) #[true, true, true, true, true, true, true, true, true, true, false, false, false, false] rfl rfl (take_ofW HT_.out HW_.out (by kernel_rfl)) (fun _ _ _ h => h) (Or.inl ⟨by rfl, ?_⟩) hHeld ?_ ?_
    rotate_left
    ·intro w' s0
     go_simp
     with_reducible rfl
    rotate_left
    ·simp only [Act.put, List.setIfInBounds_toArray, List.set_cons_zero, List.set_cons_succ, i64_w, i32_w]
     rfl
    refine pure_ (i := 10) (N := some 72) (v := ?_) (a' := ?_) #[true, true, true, true, true, true, true, true, true, true, true, false, false, false] rfl rfl (any_of HT_.out (by kernel_rfl)) (fun _ _ _ h => h) (Or.inl ⟨by rfl, ?_⟩) ?_ ?_
    rotate_left
    ·intro w'
     go_simp
     with_reducible rfl
    rotate_left
    ·simp only [Act.put, List.setIfInBounds_toArray, List.set_cons_zero, List.set_cons_succ, i64_w, i32_w]
     rfl
    refine last_ (i := 11) (N := some 73) #[true, true, true, true, true, true, true, true, true, true, true, true, false, false] rfl rfl (one_of HT_.out (by kernel_rfl)) (by decide) (fun K hK => ?_)
    refine value_ (w1 := ?_) (v := ?_) (by rfl) rfl ?_ ?_
    rotate_left 2
    ·go_simp
     constructor
     ·rfl
     ·rfl
    refine hK.out _ _ ?_
    clear hK K
    refine norm_ (a' := ?_) ?_ ?_
    rotate_left
    ·show Act.put _ (some 73) _ = _
     simp only [Act.put, List.setIfInBounds_toArray, List.set_cons_zero, List.set_cons_succ, i64_w, i32_w]
     rfl
    refine last_ (i := 12) (N := some 74) #[true, true, true, true, true, true, true, true, true, true, true, true, true, false] rfl rfl (one_of HT_.out (by kernel_rfl)) (by decide) (fun K hK => ?_)
    refine Kd.R_append_step Kd.string (w0 := w) w.heap.size (by rfl) (.tmp 62) (.tmp 73) 26 9 (.string ⟨#[]⟩) 16 rfl Try.underlying26 info9 rfl (by decide) (by omega) (.slice (some ad121) x7_2.length co32) x7_2 ((rdOf ByteArray.empty x7_2 x9_1) ++ (t114.extract (x10_2 : Int).toNat ((wrap64 (x10_2 + 1)) : Int).toNat)) [.string ((rdOf ByteArray.empty x7_2 x9_1) ++ (t114.extract (x10_2 : Int).toNat ((wrap64 (x10_2 + 1)) : Int).toNat))] (fun _ => True) (fun _ => False) rfl rfl ?aP (fun _ hk => hk.elim) ?aF ?aO ?aB ?aS ?aL ?_
    (case aP => exact rfl)
    (case aB => exact (gr HB.out))
    (case aF => exact (fun _ _ => trivial))
    (case aO => exact (by exact rk HO_7.out))
    (case aS => exact (bZ_ (gr HB.out)))
    (case aL => have := LMc29.out; omega)
    intro v123 w33 ho hb hg hat
    rw [← Ny122.out] at ho
    have HO124 := a_ (ho)
    replace HO120 := a_ (Kd.R_over' (by exact rk HO120.out) (Kd.R_typed (by exact rk HO_7.out)) (by decide) hg)
    replace HB := a_ (hb)
    clear HO_7
    clear ho hb hg hat
    refine hK.out _ _ ?_
    clear hK K
    refine norm_ (a' := ?_) ?_ ?_
    rotate_left
    ·show Act.put _ (some 74) _ = _
     simp only [Act.put, List.setIfInBounds_toArray, List.set_cons_zero, List.set_cons_succ, i64_w, i32_w]
     rfl
    refine pure_ (i := 13) (N := some 7) (v := ?_) (a' := ?_) #[true, true, true, true, true, true, true, true, true, true, true, true, true, true] rfl rfl (any_of HT_.out (by kernel_rfl)) (fun _ _ _ h => h) (Or.inl ⟨by rfl, ?_⟩) ?_ ?_
    rotate_left
    ·intro w'
     go_simp
     with_reducible rfl
    rotate_left
    ·simp only [Act.put, List.setIfInBounds_toArray, List.set_cons_zero, List.set_cons_succ, i64_w, i32_w]
     rfl
    refine done_ (done_of HT_.out (by kernel_rfl)) ?_
    try go_wp2
    go_roundg k3
    case measure => have := HK1.out; have := HK2.out; have := HK3.out; omega
    case rel => exact ⟨(y118), (y122), (wrap64 (x10_2 + 1)), (by first | rfl | (simp; done) | (simp [*]; done)), H', ⟨by have := HK1.out; have := HK2.out; have := HK3.out; omega⟩, ⟨by exact rk HO120.out⟩, ⟨by exact rk HO124.out⟩, ⟨by exact gs HB.out⟩⟩
def rr_Connected.f (k : Nat) (l0 : List (List Int)) : Option (Bool) := (rr_numbering.f k l0 0).bind fun bt125 => (if 0 < (l0.length : Int) then (some ((bt125.1.length : Int) == ((rd_L1 l0 0).length : Int))) else (none))
theorem rr_Connected.calls (k : Nat) (A0 : Option Addr) (c0 : Nat) (l0 : List (List Int)) (r : Bool) (w : World) (hr0 : Kd.C (Kd.slice 3 (Kd.int .i64)) w A0 l0.length l0) (hc0 : l0.length ≤ c0) (h : rr_Connected.f k l0 = some r) :
  Calls Try.prog 30 #[.slice A0 l0.length c0] w fun e w' => e = .returned (.bool r) ∧ Below w.heap.size w w' := by
 have HR0 := a_ hr0
 have HC0 := a_ hc0
 clear hr0 hc0
 have HB := a_ (Below.refl w.heap.size w)
 have H : ((rr_numbering.f k l0 0).bind fun bt125 => (if 0 < (l0.length : Int) then (some ((bt125.1.length : Int) == ((rd_L1 l0 0).length : Int))) else (none))) = some r := h
 clear h
 replace H := Option.bind_eq_some_iff.mp H
 obtain ⟨⟨t125, t126⟩, A20, H⟩ := H
 try dsimp only at H
 have A2 := a_ A20
 clear A20
 by_cases c3 : 0 < (l0.length : Int)
 rotate_left
 ·rw [if_neg c3] at H
  exact absurd H (by simp)
 rw [if_pos c3] at H
 have c3b0 : decide (0 < (l0.length : Int)) = true := decide_eq_true c3
 have c3b1 : decide (0 < l0.length) = true := decide_eq_true (by omega)
 clear c3
 obtain rfl := Option.some.inj H
 go_enter Try.func30, Try.ntmps30
 go_wp2_with (first | ((with_reducible refine gate_callee (f := 67) rfl ?_); refine goesL_ (some 7) rfl rfl Try.func67 (by kernel_rfl) rfl #[.slice A0 l0.length c0, .int .i64 0] rfl (by (try simp only [List.map_toArray, List.map_cons, List.map_nil]); first | done | rfl | (simp only [List.length_drop, List.length_take]; rfl)) ?_; (with_reducible refine (rr_numbering.calls k _ _ l0 0 t125 t126 _ ?side1 ?side2 A2.out).mono ?_); (case side1 => repeat (first | exact HR0.out | (with_reducible refine Kd.C_alloc ?_ _) | (with_reducible refine Kd.C_drewN ?_ _) | (with_reducible refine Kd.C_drew ?_))); (case side2 => exact HC0.out); rintro e w4 ⟨v127, v129, rfl, ho0, ho1, hb⟩; refine ⟨_, rfl, ?_⟩; have HO128 := a_ (Kd.R_lower ho0 (bZ_ (gr HB.out))); have HO130 := a_ (Kd.R_lower ho1 (bZ_ (gr HB.out))); replace HB := a_ (bT_ HB.out (tr hb)); (try clear hb); (try clear hb2); (try clear hk); (try clear hi); (try clear ho0); (try clear ho1); obtain ⟨Ao5, co5, eo5⟩ := Kd.R_slice HO128.out; subst eo5; have p131 : 0 ≤ (0 : Int) := (by omega); have q131 : 0 < (l0.length : Int) := of_decide_eq_true (by first | (with_reducible assumption) | assumption); obtain ⟨ad131, A131_0, c131_0, e131, hx131_0, hl131_0, hi131_0⟩ := at_L1 HR0.out 0 p131 q131; cases e131; have qi131 : (0 < l0.length) = True := eq_true (by omega); (try rw [show ((0 : Int)).toNat = 0 from rfl] at hx131_0); (try rw [Addr.add_zero'] at hx131_0); replace hx131_0 := (HB.out.cell (World.block_lt_of_cell? w _ hx131_0)).trans hx131_0; have HR131_0 := a_ hi131_0; have HC131_0 := a_ hl131_0; clear hi131_0 hl131_0; replace p131 := eq_true p131; replace q131 := eq_true q131))
 go_ret
 exact ⟨by first | rfl | (simp [errW_none, errW_some] <;> rfl) | (simp [*, errW_none, errW_some] <;> rfl), by exact gs HB.out⟩
mutual
def rr_Renumber.l0 : Nat → List (List Int) → List Int → List Int → Int → Option ((List (List Int)))
 | 0, _, _, _, _ => none
 | k + 1, x0, x5, x7, x8 => if x8 < (x5.length : Int) then (if 0 ≤ x8 then (if 0 ≤ (rd x5 x8) then (if (rd x5 x8) < (x7.length : Int) then (rr_Renumber.l0 k x0 x5 (x7.set ((rd x5 x8) : Int).toNat x8) (wrap64 (x8 + 1))) else (none)) else (none)) else (none)) else (rr_Renumber.l1 k x0 x5 x7 ([] : List (List Int)) 0)
def rr_Renumber.l1 : Nat → List (List Int) → List Int → List Int → List (List Int) → Int → Option ((List (List Int)))
 | 0, _, _, _, _, _ => none
 | k + 1, x0, x5, x7, x9, x10 => if x10 < (x0.length : Int) then (rr_Renumber.l2 k x0 x5 x7 x9 x10 ([] : List Int) 0) else (some x9)
def rr_Renumber.l2 : Nat → List (List Int) → List Int → List Int → List (List Int) → Int → List Int → Int → Option ((List (List Int)))
 | 0, _, _, _, _, _, _, _ => none
 | k + 1, x0, x5, x7, x9, x10, x11, x12 => if x12 < (x5.length : Int) then (if 0 ≤ x10 then (if x10 < (x0.length : Int) then (if 0 ≤ x12 then (if 0 ≤ (rd x5 x12) then (if (rd x5 x12) < ((rd_L1 x0 x10).length : Int) then (if 0 ≤ (rd (rd_L1 x0 x10) (rd x5 x12)) then (if (rd (rd_L1 x0 x10) (rd x5 x12)) < (x7.length : Int) then (if x11.length < 17592186044416 then (rr_Renumber.l2 k x0 x5 x7 x9 x10 (x11 ++ [rd x7 (rd (rd_L1 x0 x10) (rd x5 x12))]) (wrap64 (x12 + 1))) else (none)) else (none)) else (none)) else (none)) else (none)) else (none)) else (none)) else (none)) else (if x9.length < 5864062014805 then (rr_Renumber.l1 k x0 x5 x7 (x9 ++ [x11]) (wrap64 (x10 + 1))) else (none))
end
def rr_Renumber.f (k : Nat) (l0 : List (List Int)) (a1 : Int) : Option ((List (List Int))) := (rr_numbering.f k l0 a1).bind fun bt132 => (if 0 ≤ (bt132.1.length : Int) then (if ((bt132.1.length : Int) : Int).toNat ≤ 35184372088832 then (rr_Renumber.l0 k l0 bt132.1 (List.replicate ((bt132.1.length : Int) : Int).toNat 0) 0) else (none)) else (none))
def rr_Renumber.T15 : Bool × List (List Nat × List Nat) := (true, [([], []), ([], []), ([], []), ([], []), ([2, 3], [2, 3]), ([4], [4]), ([], []), ([], []), ([6, 7], [6, 7]), ([8], [8]), ([5, 9], [5, 9]), ([10], [10]), ([1, 11], [1, 11]), ([12], [12]), ([13], [13]), ([0, 14], [0, 14]), ([15, 15, 0, 1, 2, 3, 4, 5, 6, 7, 8, 9, 10, 11, 12, 13, 14, 15], [0, 15])])
def rr_Renumber.B15 : List Nat := [0, 0, 0, 0, 12, 28, 0, 0, 192, 448, 1020, 2044, 4094, 8190, 16382, 32767, 65535]
theorem rr_Renumber.tab15 : rtab .any (opsOf Try.f32 15) = rr_Renumber.T15 := by kernel_rfl
theorem rr_Renumber.bits15 : waitsOk rr_Renumber.T15.2 rr_Renumber.B15 = true := by kernel_rfl
theorem rr_Renumber.calls (k : Nat) (A0 : Option Addr) (c0 : Nat) (l0 : List (List Int)) (a1 : Int) (r : List (List Int)) (w : World) (hr0 : Kd.C (Kd.slice 3 (Kd.int .i64)) w A0 l0.length l0) (hc0 : l0.length ≤ c0) (h : rr_Renumber.f k l0 a1 = some r) :
  Calls Try.prog 32 #[.slice A0 l0.length c0, .int .i64 a1] w fun e w' => ∃ v0_ : Value, e = .returned (v0_) ∧ Kd.S (Kd.slice 3 (Kd.int .i64)) 22 w' w.heap.size (fun _ => True) v0_ r ∧ Below w.heap.size w w' := by
 have HR0 := a_ hr0
 have HC0 := a_ hc0
 clear hr0 hc0
 have HB := a_ (Below.refl w.heap.size w)
 have H : ((rr_numbering.f k l0 a1).bind fun bt132 => (if 0 ≤ (bt132.1.length : Int) then (if ((bt132.1.length : Int) : Int).toNat ≤ 35184372088832 then (rr_Renumber.l0 k l0 bt132.1 (List.replicate ((bt132.1.length : Int) : Int).toNat 0) 0) else (none)) else (none))) = some r := h
 clear h
 replace H := Option.bind_eq_some_iff.mp H
 obtain ⟨⟨t132, t133⟩, A30, H⟩ := H
 try dsimp only at H
 have A3 := a_ A30
 clear A30
 by_cases c4 : 0 ≤ (t132.length : Int)
 rotate_left
 ·rw [if_neg c4] at H
  exact absurd H (by simp)
 rw [if_pos c4] at H
 have c4b0 := eq_true c4
 have c4b1 : decide (0 ≤ (t132.length : Int)) = true := decide_eq_true c4
 have KFc4 := a_ c4
 clear c4
 by_cases c5 : ((t132.length : Int) : Int).toNat ≤ 35184372088832
 rotate_left
 ·rw [if_neg c5] at H
  exact absurd H (by simp)
 rw [if_pos c5] at H
 have c5b0 := eq_true c5
 have c5b1 : decide (((t132.length : Int) : Int).toNat ≤ 35184372088832) = true := decide_eq_true c5
 clear c5
 obtain ⟨y138, hy138⟩ : ∃ y_ : List Int, y_ = (List.replicate ((t132.length : Int) : Int).toNat 0) := ⟨_, rfl⟩
 replace H : (rr_Renumber.l0 k l0 t132 y138 0) = some r := by first | (rw [hy138]; with_reducible exact H) | (have H2_ := (Option.bind_some _ _).symm.trans H; rw [hy138]; with_reducible exact H2_) | (have H2_ := (Option.bind_some _ _).symm.trans H; with_reducible exact H2_) | with_reducible exact H | (rw [hy138]; exact H) | exact H
 have Ny138 := a_ hy138
 clear hy138
 have H' := a_ H
 clear H
 go_enter Try.func32, Try.ntmps32
 go_wp2_with (first | ((with_reducible refine gate_callee (f := 67) rfl ?_); refine goesL_ (some 16) rfl rfl Try.func67 (by kernel_rfl) rfl #[.slice A0 l0.length c0, .int .i64 a1] rfl (by (try simp only [List.map_toArray, List.map_cons, List.map_nil]); first | done | rfl | (simp only [List.length_drop, List.length_take]; rfl)) ?_; (with_reducible refine (rr_numbering.calls k _ _ l0 a1 t132 t133 _ ?side1 ?side2 A3.out).mono ?_); (case side1 => repeat (first | exact HR0.out | (with_reducible refine Kd.C_alloc ?_ _) | (with_reducible refine Kd.C_drewN ?_ _) | (with_reducible refine Kd.C_drew ?_))); (case side2 => exact HC0.out); rintro e w6 ⟨v134, v136, rfl, ho0, ho1, hb⟩; refine ⟨_, rfl, ?_⟩; have HO135 := a_ (Kd.R_lower ho0 (bZ_ (gr HB.out))); have HO137 := a_ (Kd.R_lower ho1 (bZ_ (gr HB.out))); replace HB := a_ (bT_ HB.out (tr hb)); (try clear hb); (try clear hb2); (try clear hk); (try clear hi); (try clear ho0); (try clear ho1); obtain ⟨Ao7, co7, eo7⟩ := Kd.R_slice HO135.out; subst eo7) | ((with_reducible refine gate_dst (N := 21) rfl ?_); refine Kd.R_make (Kd.int .i64) _ 3 rfl (N := 21) rfl 22 _ _ rfl (t132.length : Int) rfl rfl Try.underlying22 (.int .i64 0) 8 info3 rfl (by decide) (by omega) 0 (ok := fun _ => True) (okp := fun _ => True) rfl (fun _ hk => hk) trivial (of_decide_eq_true (by first | (with_reducible assumption) | assumption)) (Nat.le_trans (Nat.mul_le_mul_right _ (of_decide_eq_true (by first | (with_reducible assumption) | assumption) : (t132.length : Int).toNat ≤ 35184372088832)) (by omega)) (Below.refl _ _) (Nat.le_refl _) ?_; intro v139 w8 ho9 hb hg_ hnew_; clear hg_ hnew_; (first | rw [← Ny138.out] at ho9 | (simp only [Int.reduceToNat] at ho9; rw [← Ny138.out] at ho9)); have HO140 := a_ (Kd.R_lower (Kd.R_new' ho9 (Kd.R_lt (by exact rk HO135.out))) (bZ_ (gr HB.out))); replace HO135 := a_ (Kd.R_elder' (by exact rk HO135.out) (Kd.R_base ho9) hb); replace HO137 := a_ (Kd.R_below HO137.out (tr hb)); replace HB := a_ (bT_ HB.out (tr hb)); clear hb ho9))
 go_loopg [8] k (fun kq v8 w' => ∃ (x7_1 : List Int) (x8_1 : Int), v8 = .int .i64 x8_1 ∧ Aside0 (rr_Renumber.l0 kq l0 t132 x7_1 x8_1 = some r) ∧ Aside0 (kq ≤ k) ∧ Aside0 (Kd.R (Kd.int .i64) 3 w' w.heap.size (fun k_ => some k_ ≠ (v139 : Value).ownBlock) (.slice Ao7 t132.length co7) t132) ∧ Aside0 (Kd.R (Kd.int .i64) 3 w' w.heap.size (fun k_ => some k_ ≠ ((.slice Ao7 t132.length co7) : Value).ownBlock) v139 x7_1) ∧ Aside0 (Below w.heap.size w w'))
 case atStart => exact ⟨(y138), (0), (by first | rfl | (simp; done) | (simp [*]; done)), H', ⟨Nat.le_refl _⟩, ⟨by exact rk (Kd.R_mono HO135.out (fun _ hk => hk.2))⟩, ⟨by exact rk (Kd.R_mono HO140.out (fun _ hk => hk.2))⟩, ⟨by exact gs HB.out⟩⟩
 clear H'
 try clear p2
 try clear c3
 try clear c4
 try clear c4b0
 try clear c4b1
 try clear c5
 try clear c5b0
 try clear c5b1
 try clear c6
 obtain ⟨x7_1, x8_1, rfl, HA, HK1, HO_5, HO_7, HB⟩ := hrel
 cases gk with
 | zero => exact absurd HA.out (by simp [rr_Renumber.l0])
 | succ k1 =>
  have H := HA.out
  clear HA
  simp only [rr_Renumber.l0] at H
  by_cases c10 : x8_1 < (t132.length : Int)
  ·rw [if_pos c10] at H
   have c10b0 : decide (x8_1 < (t132.length : Int)) = true := decide_eq_true c10
   clear c10
   by_cases c11 : 0 ≤ x8_1
   rotate_left
   ·rw [if_neg c11] at H
    exact absurd H (by simp)
   rw [if_pos c11] at H
   have c11b0 : decide (0 ≤ x8_1) = true := decide_eq_true c11
   clear c11
   by_cases c12 : 0 ≤ (rd t132 x8_1)
   rotate_left
   ·rw [if_neg c12] at H
    exact absurd H (by simp)
   rw [if_pos c12] at H
   have c12b0 : decide (0 ≤ (rd t132 x8_1)) = true := decide_eq_true c12
   clear c12
   by_cases c13 : (rd t132 x8_1) < (x7_1.length : Int)
   rotate_left
   ·rw [if_neg c13] at H
    exact absurd H (by simp)
   rw [if_pos c13] at H
   have c13b0 : decide ((rd t132 x8_1) < (x7_1.length : Int)) = true := decide_eq_true c13
   clear c13
   obtain ⟨y142, hy142⟩ : ∃ y_ : List Int, y_ = (x7_1.set ((rd t132 x8_1) : Int).toNat x8_1) := ⟨_, rfl⟩
   replace H : (rr_Renumber.l0 k1 l0 t132 y142 (wrap64 (x8_1 + 1))) = some r := by first | (rw [hy142]; with_reducible exact H) | (have H2_ := (Option.bind_some _ _).symm.trans H; rw [hy142]; with_reducible exact H2_) | (have H2_ := (Option.bind_some _ _).symm.trans H; with_reducible exact H2_) | with_reducible exact H | (rw [hy142]; exact H) | exact H
   have Ny142 := a_ hy142
   clear hy142
   have H' := a_ H
   clear H
   have p141 : 0 ≤ (x8_1 : Int) := of_decide_eq_true (by first | (with_reducible assumption) | assumption)
   have q141 : x8_1 < (t132.length : Int) := of_decide_eq_true (by first | (with_reducible assumption) | assumption)
   obtain ⟨ad141, e141, hx141_0⟩ := Kd.at_int (Kd.R_reads' HO_5.out).2.2 x8_1 p141 q141
   cases e141
   replace p141 := eq_true p141
   replace q141 := eq_true q141
   have p14 : 0 ≤ ((rd t132 x8_1) : Int) := of_decide_eq_true (by first | (with_reducible assumption) | assumption)
   have q14 : ((rd t132 x8_1) : Int) < ((x7_1.length : Int) : Int) := of_decide_eq_true (by first | (with_reducible assumption) | assumption)
   obtain ⟨go14, co14, eo14, gb14, gl14, cl14, HG14⟩ := Kd.R_form HO_7.out (by omega)
   (first | cases eo14 | (injection eo14 with ea_ en_ ec_; (first | subst ea_ | (injection ea_ with ea_; subst ea_)); subst ec_; clear en_))
   have GB14 := a_ gb14
   have GG14 := a_ HG14
   clear gb14 gl14 HG14
   obtain ⟨hx14_0, hf14_0⟩ := Kd.R_celln 0 HO_7.out ((rd t132 x8_1) : Int) p14 q14
   replace p14 := eq_true p14
   replace q14 := eq_true q14
   have HP15 := Kd.R_putg HO_7.out ((rd t132 x8_1) : Int) x8_1
   go_wp2_with (first | ((with_reducible refine gate_store (t := 3) (p := 34) rfl ?_); refine store_event (t := 3) (p := 34) (v := ?vo_w16) (w1 := (wr.setCell ⟨go14, ((rd t132 x8_1) : Int).toNat, none⟩ (.int .i64 x8_1))) ?hg ?ho ?hn ?hr ?_; (case ho => rfl); (case hg => rfl); (case hn => rfl); (case hr => first | (go_simp; done) | (go_simp; rfl)); intro w16 hw; have hg : wr.grownBy w16 (some go14) := (by rw [hw]; exact HP15.2); have hp_ : Kd.R (Kd.int .i64) 3 w16 w.heap.size (fun k_ => some k_ ≠ (.slice (some ad141) t132.length co7 : Value).ownBlock) (.slice (some ⟨go14, 0, none⟩) x7_1.length co14) y142 := (by rw [hw, Ny142.out]; exact HP15.1); clear HP15; replace HO_5 := a_ (Kd.R_after (v := (.slice (some ⟨go14, 0, none⟩) x7_1.length co14)) (v1 := (.slice (some ⟨go14, 0, none⟩) x7_1.length co14)) (ok := (fun _ => True)) (by exact rk (Kd.R_mono HO_5.out (fun _ hk => ⟨trivial, hk⟩))) hg (.inl rfl)); replace HO_7 := a_ (hp_); replace HB := a_ ((by rw [hw]; exact bS_ (HB.out) GB14.out : Below w.heap.size w w16)); clear hg hw hp_))
   go_roundg k1
   case measure => have := HK1.out; omega
   case rel => exact ⟨(y142), (wrap64 (x8_1 + 1)), (by first | rfl | (simp; done) | (simp [*]; done)), H', ⟨by have := HK1.out; omega⟩, ⟨by exact rk (Kd.R_mono HO_5.out (fun _ hk => hk.2))⟩, ⟨by exact rk HO_7.out⟩, ⟨by exact gs HB.out⟩⟩
  rw [if_neg c10] at H
  have c10b0 : decide (x8_1 < (t132.length : Int)) = false := decide_eq_false c10
  clear c10
  have H' := a_ H
  clear H
  go_wp2
  go_loopg [9, 10] k1 (fun kq v9 v10 w' => ∃ (x9_2 : List (List Int)) (x10_2 : Int), v10 = .int .i64 x10_2 ∧ Aside0 (rr_Renumber.l1 kq l0 t132 x7_1 x9_2 x10_2 = some r) ∧ Aside0 (kq ≤ k1) ∧ Aside0 (Kd.R (Kd.int .i64) 3 w' w.heap.size (fun k_ => some k_ ≠ (v139 : Value).ownBlock) (.slice Ao7 t132.length co7) t132) ∧ Aside0 (Kd.R (Kd.int .i64) 3 w' w.heap.size (fun k_ => some k_ ≠ ((.slice Ao7 t132.length co7) : Value).ownBlock) v139 x7_1) ∧ Aside0 (Kd.S (Kd.slice 3 (Kd.int .i64)) 22 w' w.heap.size (fun k_ => some k_ ≠ ((.slice Ao7 t132.length co7) : Value).ownBlock ∧ some k_ ≠ (v139 : Value).ownBlock) v9 x9_2) ∧ Aside0 (Below w.heap.size w w'))
  case atStart => exact ⟨(([] : List (List Int))), (0), (by first | rfl | (simp; done) | (simp [*]; done)), H', ⟨Nat.le_refl _⟩, ⟨by exact rk HO_5.out⟩, ⟨by exact rk HO_7.out⟩, ⟨by first | exact Kd.S_nil _ _ _ _ _ | exact Kd.N_nil _ _ _ _ _ | exact Kd.V_nil _ _ _ _ _ | exact Kd.Q_nil _ _ _ _ _ | exact Kd.R_nil _ _ _ _ _⟩, ⟨by exact gs HB.out⟩⟩
  clear H'
  try clear c1
  try clear p1
  try clear q1
  try clear hx1
  try clear p2
  try clear c3
  try clear c4
  try clear c4b0
  try clear c4b1
  try clear c5
  try clear c5b0
  try clear c5b1
  try clear c6
  try clear p6
  try clear c10
  try clear c10b0
  try clear c11
  try clear c11b0
  try clear c12
  try clear c12b0
  try clear c13
  try clear c13b0
  try clear p14
  try clear q14
  try clear hx14
  try clear hf14
  try clear hx141_0
  try clear hx14_0
  try clear p14
  try clear p141
  try clear p2
  try clear q14
  try clear q141
  obtain ⟨x9_2, x10_2, rfl, HA, HK2, HO_5, HO_7, HO_9, HB⟩ := hrel
  cases gk with
  | zero => exact absurd HA.out (by simp [rr_Renumber.l1])
  | succ k2 =>
   have H := HA.out
   clear HA
   simp only [rr_Renumber.l1] at H
   by_cases c17 : x10_2 < (l0.length : Int)
   rotate_left
   ·rw [if_neg c17] at H
    have c17b0 : decide (x10_2 < (l0.length : Int)) = false := decide_eq_false c17
    clear c17
    obtain rfl := Option.some.inj H
    go_wp2
    go_ret
    exact ⟨_, by first | rfl | (simp [errW_none, errW_some] <;> rfl) | (simp [*, errW_none, errW_some] <;> rfl), by (with_reducible repeat (first | apply Kd.S_alloc | apply Kd.S_drewN | apply Kd.S_drew)); exact Kd.S_mono HO_9.out (fun _ hk => trivial), by exact gs HB.out⟩
   rw [if_pos c17] at H
   have c17b0 : decide (x10_2 < (l0.length : Int)) = true := decide_eq_true c17
   clear c17
   have H' := a_ H
   clear H
   go_wp2
   go_loopg [11, 12] k2 (fun kq v11 v12 w' => ∃ (x11_3 : List Int) (x12_3 : Int), v12 = .int .i64 x12_3 ∧ Aside0 (rr_Renumber.l2 kq l0 t132 x7_1 x9_2 x10_2 x11_3 x12_3 = some r) ∧ Aside0 (kq ≤ k2) ∧ Aside0 (Kd.R (Kd.int .i64) 3 w' w.heap.size (fun k_ => some k_ ≠ (v139 : Value).ownBlock ∧ some k_ ≠ (v11 : Value).ownBlock) (.slice Ao7 t132.length co7) t132) ∧ Aside0 (Kd.R (Kd.int .i64) 3 w' w.heap.size (fun k_ => some k_ ≠ ((.slice Ao7 t132.length co7) : Value).ownBlock ∧ some k_ ≠ (v11 : Value).ownBlock) v139 x7_1) ∧ Aside0 (Kd.S (Kd.slice 3 (Kd.int .i64)) 22 w' w.heap.size (fun k_ => some k_ ≠ ((.slice Ao7 t132.length co7) : Value).ownBlock ∧ some k_ ≠ (v139 : Value).ownBlock ∧ some k_ ≠ (v11 : Value).ownBlock) u9 x9_2) ∧ Aside0 (Kd.R (Kd.int .i64) 3 w' w.heap.size (fun k_ => some k_ ≠ ((.slice Ao7 t132.length co7) : Value).ownBlock ∧ some k_ ≠ (v139 : Value).ownBlock) v11 x11_3) ∧ Aside0 (Below w.heap.size w w'))
   case atStart => exact ⟨(([] : List Int)), (0), (by first | rfl | (simp; done) | (simp [*]; done)), H', ⟨Nat.le_refl _⟩, ⟨by exact rk (Kd.R_mono HO_5.out (fun _ hk => ⟨hk, (by simp [Value.ownBlock])⟩))⟩, ⟨by exact rk (Kd.R_mono HO_7.out (fun _ hk => ⟨hk, (by simp [Value.ownBlock])⟩))⟩, ⟨by (with_reducible repeat (first | apply Kd.S_alloc | apply Kd.S_drewN | apply Kd.S_drew)); exact Kd.S_mono HO_9.out (fun _ hk => ⟨hk.1, ⟨hk.2, (by simp [Value.ownBlock])⟩⟩)⟩, ⟨by first | exact Kd.R_nil _ _ _ _ _ | exact Kd.N_nil _ _ _ _ _ | exact Kd.V_nil _ _ _ _ _ | exact Kd.Q_nil _ _ _ _ _ | exact Kd.S_nil _ _ _ _ _⟩, ⟨by exact gs HB.out⟩⟩
   clear H'
   try clear c1
   try clear p1
   try clear q1
   try clear hx1
   try clear p2
   try clear c3
   try clear c4
   try clear c4b0
   try clear c4b1
   try clear c5
   try clear c5b0
   try clear c5b1
   try clear c6
   try clear p6
   try clear c10
   try clear c10b0
   try clear c11
   try clear c11b0
   try clear c12
   try clear c12b0
   try clear c13
   try clear c13b0
   try clear p14
   try clear q14
   try clear hx14
   try clear hf14
   try clear c17
   try clear c17b0
   try clear hx141_0
   try clear hx14_0
   try clear p1
   try clear p14
   try clear p141
   try clear p2
   try clear p6
   try clear q1
   try clear q14
   try clear q141
   obtain ⟨x11_3, x12_3, rfl, HA, HK3, HO_5, HO_7, HO_9, HO_11, HB⟩ := hrel
   cases gk with
   | zero => exact absurd HA.out (by simp [rr_Renumber.l2])
   | succ k3 =>
    have H := HA.out
    clear HA
    simp only [rr_Renumber.l2] at H
    by_cases c18 : x12_3 < (t132.length : Int)
    rotate_left
    ·rw [if_neg c18] at H
     have c18b0 : decide (x12_3 < (t132.length : Int)) = false := decide_eq_false c18
     clear c18
     by_cases c30 : x9_2.length < 5864062014805
     rotate_left
     ·rw [if_neg c30] at H
      exact absurd H (by simp)
     rw [if_pos c30] at H
     have LMc30 := a_ c30
     clear c30
     obtain ⟨y150, hy150⟩ : ∃ y_ : List (List Int), y_ = (x9_2 ++ [x11_3]) := ⟨_, rfl⟩
     replace H : (rr_Renumber.l1 k3 l0 t132 x7_1 y150 (wrap64 (x10_2 + 1))) = some r := by first | (rw [hy150]; with_reducible exact H) | (have H2_ := (Option.bind_some _ _).symm.trans H; rw [hy150]; with_reducible exact H2_) | (have H2_ := (Option.bind_some _ _).symm.trans H; with_reducible exact H2_) | with_reducible exact H | (rw [hy150]; exact H) | exact H
     have Ny150 := a_ hy150
     clear hy150
     have H' := a_ H
     clear H
     obtain ⟨Ao32, co32, eo32⟩ := Kd.R_slice HO_11.out
     subst eo32
     go_wp2_with (first | ((with_reducible refine gate_builtin (b := .append) (xs := #[.tmp 63, .tmp 65]) rfl ?_); at_builtin; refine Kd.S_append (Kd.slice 3 (Kd.int .i64)) (w0 := w) w.heap.size rfl (.tmp 63) (.tmp 65) 23 22 (.slice none 0 0) 24 rfl Try.underlying23 info22 rfl (by decide) (by omega) u9 x9_2 x11_3 [.slice Ao32 x11_3.length co32] (fun k_ => some k_ ≠ (.slice Ao7 t132.length co7 : Value).ownBlock ∧ some k_ ≠ (v139 : Value).ownBlock) (fun k_ => some k_ = (.slice Ao32 x11_3.length co32 : Value).ownBlock) rfl rfl ?aP (fun k_ hk_ => ((Kd.R_mono (ok' := fun k_ => ((fun k_ => some k_ ≠ (.slice Ao7 t132.length co7 : Value).ownBlock ∧ some k_ ≠ (v139 : Value).ownBlock)) k_ ∧ some k_ ≠ (u9 : Value).ownBlock) (Kd.R_apart' (HO_11.out) (Kd.S_typed HO_9.out) (by decide)) (fun k_ hk => ⟨⟨hk.1.1, hk.1.2⟩, hk.2⟩))).1 k_ hk_.symm) ?aF ?aO ?aB ?aS ?aL ?_; (case aP => exact Kd.M_row (Kd.R_mono (Kd.R_tight rfl (Kd.R_mono (ok' := fun k_ => ((fun k_ => some k_ ≠ (.slice Ao7 t132.length co7 : Value).ownBlock ∧ some k_ ≠ (v139 : Value).ownBlock)) k_ ∧ some k_ ≠ (u9 : Value).ownBlock) (Kd.R_apart' (HO_11.out) (Kd.S_typed HO_9.out) (by decide)) (fun k_ hk => ⟨⟨hk.1.1, hk.1.2⟩, hk.2⟩))) (fun _ h_ => h_))); (case aB => exact (gr HB.out)); (case aF => exact (fun k_ hk => ⟨Kd.fresh' (Kd.R_lt (by exact rk HO_5.out)) k_ hk, Kd.fresh' (Kd.R_lt (by exact rk HO_7.out)) k_ hk⟩)); (case aO => exact (by (with_reducible repeat (first | apply Kd.S_alloc | apply Kd.S_drewN | apply Kd.S_drew)); exact Kd.S_mono HO_9.out (fun k_ hk => ⟨⟨hk.1, hk.2.1⟩, fun e_ => hk.2.2 e_⟩))); (case aS => exact (bZ_ (gr HB.out))); (case aL => have := LMc30.out; omega); intro v151 w31 ho hb hg hat; rw [← Ny150.out] at ho; have HO152 := a_ (ho); replace HO_5 := a_ (Kd.R_over' (by exact rk HO_5.out) (Kd.S_typed (by (with_reducible repeat (first | apply Kd.S_alloc | apply Kd.S_drewN | apply Kd.S_drew)); exact HO_9.out)) (by decide) hg); replace HO_7 := a_ (Kd.R_over' (by exact rk HO_7.out) (Kd.S_typed (by (with_reducible repeat (first | apply Kd.S_alloc | apply Kd.S_drewN | apply Kd.S_drew)); exact HO_9.out)) (by decide) hg); replace HB := a_ (hb); clear HO_9 HO_11; clear ho hb hg hat))
     go_roundg k3
     case measure => have := HK1.out; have := HK2.out; have := HK3.out; omega
     case rel => exact ⟨(y150), (wrap64 (x10_2 + 1)), (by first | rfl | (simp; done) | (simp [*]; done)), H', ⟨by have := HK1.out; have := HK2.out; have := HK3.out; omega⟩, ⟨by exact rk (Kd.R_mono HO_5.out (fun _ hk => hk.1))⟩, ⟨by exact rk (Kd.R_mono HO_7.out (fun _ hk => hk.1))⟩, ⟨by (with_reducible repeat (first | apply Kd.S_alloc | apply Kd.S_drewN | apply Kd.S_drew)); exact HO152.out⟩, ⟨by exact gs HB.out⟩⟩
    rw [if_pos c18] at H
    have c18b0 : decide (x12_3 < (t132.length : Int)) = true := decide_eq_true c18
    clear c18
    by_cases c19 : 0 ≤ x10_2
    rotate_left
    ·rw [if_neg c19] at H
     exact absurd H (by simp)
    rw [if_pos c19] at H
    have c19b0 : decide (0 ≤ x10_2) = true := decide_eq_true c19
    clear c19
    by_cases c20 : x10_2 < (l0.length : Int)
    rotate_left
    ·rw [if_neg c20] at H
     exact absurd H (by simp)
    rw [if_pos c20] at H
    have c20b0 : decide (x10_2 < (l0.length : Int)) = true := decide_eq_true c20
    clear c20
    by_cases c21 : 0 ≤ x12_3
    rotate_left
    ·rw [if_neg c21] at H
     exact absurd H (by simp)
    rw [if_pos c21] at H
    have c21b0 : decide (0 ≤ x12_3) = true := decide_eq_true c21
    clear c21
    by_cases c22 : 0 ≤ (rd t132 x12_3)
    rotate_left
    ·rw [if_neg c22] at H
     exact absurd H (by simp)
    rw [if_pos c22] at H
    have c22b0 : decide (0 ≤ (rd t132 x12_3)) = true := decide_eq_true c22
    clear c22
    by_cases c23 : (rd t132 x12_3) < ((rd_L1 l0 x10_2).length : Int)
    rotate_left
    ·rw [if_neg c23] at H
     exact absurd H (by simp)
    rw [if_pos c23] at H
    have c23b0 : decide ((rd t132 x12_3) < ((rd_L1 l0 x10_2).length : Int)) = true := decide_eq_true c23
    clear c23
    by_cases c24 : 0 ≤ (rd (rd_L1 l0 x10_2) (rd t132 x12_3))
    rotate_left
    ·rw [if_neg c24] at H
     exact absurd H (by simp)
    rw [if_pos c24] at H
    have c24b0 : decide (0 ≤ (rd (rd_L1 l0 x10_2) (rd t132 x12_3))) = true := decide_eq_true c24
    clear c24
    by_cases c25 : (rd (rd_L1 l0 x10_2) (rd t132 x12_3)) < (x7_1.length : Int)
    rotate_left
    ·rw [if_neg c25] at H
     exact absurd H (by simp)
    rw [if_pos c25] at H
    have c25b0 : decide ((rd (rd_L1 l0 x10_2) (rd t132 x12_3)) < (x7_1.length : Int)) = true := decide_eq_true c25
    clear c25
    by_cases c26 : x11_3.length < 17592186044416
    rotate_left
    ·rw [if_neg c26] at H
     exact absurd H (by simp)
    rw [if_pos c26] at H
    have LMc26 := a_ c26
    clear c26
    obtain ⟨y147, hy147⟩ : ∃ y_ : List Int, y_ = (x11_3 ++ [rd x7_1 (rd (rd_L1 l0 x10_2) (rd t132 x12_3))]) := ⟨_, rfl⟩
    replace H : (rr_Renumber.l2 k3 l0 t132 x7_1 x9_2 x10_2 y147 (wrap64 (x12_3 + 1))) = some r := by first | (rw [hy147]; with_reducible exact H) | (have H2_ := (Option.bind_some _ _).symm.trans H; rw [hy147]; with_reducible exact H2_) | (have H2_ := (Option.bind_some _ _).symm.trans H; with_reducible exact H2_) | with_reducible exact H | (rw [hy147]; exact H) | exact H
    have Ny147 := a_ hy147
    clear hy147
    have H' := a_ H
    clear H
    try go_wp2
    replace HO_5 := a_ (Kd.R_drew HO_5.out)
    replace HO_7 := a_ (Kd.R_drew HO_7.out)
    replace HO_9 := a_ (Kd.S_drew HO_9.out)
    replace HO_11 := a_ (Kd.R_drew HO_11.out)
    replace HB := a_ (b1_ HB.out)
    have p143 : 0 ≤ (x10_2 : Int) := of_decide_eq_true (by first | (with_reducible assumption) | assumption)
    have q143 : x10_2 < (l0.length : Int) := of_decide_eq_true (by first | (with_reducible assumption) | assumption)
    obtain ⟨ad143, A143_0, c143_0, e143, hx143_0, hl143_0, hi143_0⟩ := at_L1 HR0.out x10_2 p143 q143
    have hw143_0 := hx143_0
    cases e143
    replace hx143_0 := (HB.out.cell (World.block_lt_of_cell? w _ hx143_0)).trans hx143_0
    have HR143_0 := a_ hi143_0
    have HC143_0 := a_ hl143_0
    clear hi143_0 hl143_0
    replace p143 := eq_true p143
    replace q143 := eq_true q143
    have p144 : 0 ≤ (x12_3 : Int) := of_decide_eq_true (by first | (with_reducible assumption) | assumption)
    have q144 : x12_3 < (t132.length : Int) := of_decide_eq_true (by first | (with_reducible assumption) | assumption)
    obtain ⟨ad144, e144, hx144_0⟩ := Kd.at_int (Kd.R_reads' HO_5.out).2.2 x12_3 p144 q144
    cases e144
    replace p144 := eq_true p144
    replace q144 := eq_true q144
    have p145 : 0 ≤ ((rd t132 x12_3) : Int) := of_decide_eq_true (by first | (with_reducible assumption) | assumption)
    have q145 : (rd t132 x12_3) < ((rd_L1 l0 x10_2).length : Int) := of_decide_eq_true (by first | (with_reducible assumption) | assumption)
    obtain ⟨ad145, e145, hx145_0⟩ := Kd.at_int HR143_0.out (rd t132 x12_3) p145 q145
    have hw145_0 := hx145_0
    cases e145
    replace hx145_0 := (HB.out.cell (World.block_lt_of_cell? w _ hx145_0)).trans hx145_0
    replace p145 := eq_true p145
    replace q145 := eq_true q145
    obtain ⟨Ao28, co28, eo28⟩ := Kd.R_slice HO_7.out
    (first | subst eo28 | (injection eo28 with f1_ f2_ f3_; have f4_ := f1_.symm; have f5_ := f3_.symm; clear f1_ f2_ f3_; subst f4_; subst f5_))
    have p146 : 0 ≤ ((rd (rd_L1 l0 x10_2) (rd t132 x12_3)) : Int) := of_decide_eq_true (by first | (with_reducible assumption) | assumption)
    have q146 : (rd (rd_L1 l0 x10_2) (rd t132 x12_3)) < (x7_1.length : Int) := of_decide_eq_true (by first | (with_reducible assumption) | assumption)
    obtain ⟨ad146, e146, hx146_0⟩ := Kd.at_int (Kd.R_reads' HO_7.out).2.2 (rd (rd_L1 l0 x10_2) (rd t132 x12_3)) p146 q146
    cases e146
    replace p146 := eq_true p146
    replace q146 := eq_true q146
    refine start_ (n := 17) (S := fun w' => w'.cell? (ad143.add (x10_2).toNat) = some (.slice (some ad145) (rd_L1 l0 x10_2).length c143_0) ∧ w'.cell? (ad144.add (x12_3).toNat) = some (.int .i64 (rd t132 x12_3)) ∧ w'.cell? (ad145.add ((rd t132 x12_3)).toNat) = some (.int .i64 (rd (rd_L1 l0 x10_2) (rd t132 x12_3))) ∧ w'.cell? (ad146.add ((rd (rd_L1 l0 x10_2) (rd t132 x12_3))).toNat) = some (.int .i64 (rd x7_1 (rd (rd_L1 l0 x10_2) (rd t132 x12_3))))) (ds := [14, 15]) #[false, false, false, false, false, false, false, false, false, false, false, false, false, false, false, false, false] (by kernel_rfl) rfl rfl ⟨((HB.out.cell (World.block_lt_of_cell? w _ hw143_0)).trans hw143_0), hx144_0, ((HB.out.cell (World.block_lt_of_cell? w _ hw145_0)).trans hw145_0), hx146_0⟩ (fun hHeld => ?_); refine with_tabW rr_Renumber.tab15 rr_Renumber.bits15 (fun HT_ HW_ => ?_)
    generalize wr.drew = w27 at HO_5 HO_7 HO_9 HO_11 HB HR143_0 hx143_0 hx144_0 hx145_0 hx146_0 hHeld ⊢
    refine pure_ (i := 0) (N := some 47) (v := ?_) (a' := ?_) #[true, false, false, false, false, false, false, false, false, false, false, false, false, false, false, false, false] rfl rfl (any_of HT_.out (by kernel_rfl)) (fun _ _ _ h => h) (Or.inl ⟨by rfl, ?_⟩) ?_ ?_
    rotate_left
    ·intro w'
     go_simp
     with_reducible rfl
    rotate_left
    ·simp only [Act.put, List.setIfInBounds_toArray, List.set_cons_zero, List.set_cons_succ, i64_w, i32_w]
     rfl
    refine pure_ (i := 1) (N := some 48) (v := ?_) (a' := ?_) #[true, true, false, false, false, false, false, false, false, false, false, false, false, false, false, false, false] rfl rfl (any_of HT_.out (by kernel_rfl)) (fun _ _ _ h => h) (Or.inl ⟨by rfl, ?_⟩) ?_ ?_
    rotate_left
    ·intro w'
     go_simp
     with_reducible rfl
    rotate_left
    ·simp only [Act.put, List.setIfInBounds_toArray, List.set_cons_zero, List.set_cons_succ, i64_w, i32_w]
     rfl
    refine pure_ (i := 2) (N := some 49) (v := ?_) (a' := ?_) #[true, true, true, false, false, false, false, false, false, false, false, false, false, false, false, false, false] rfl rfl (any_of HT_.out (by kernel_rfl)) (fun _ _ _ h => h) (Or.inl ⟨by rfl, ?_⟩) ?_ ?_
    rotate_left
    ·intro w'
     go_simp
     with_reducible rfl
    rotate_left
    ·simp only [Act.put, List.setIfInBounds_toArray, List.set_cons_zero, List.set_cons_succ, i64_w, i32_w]
     rfl
    refine pure_ (i := 3) (N := some 50) (v := ?_) (a' := ?_) #[true, true, true, true, false, false, false, false, false, false, false, false, false, false, false, false, false] rfl rfl (any_of HT_.out (by kernel_rfl)) (fun _ _ _ h => h) (Or.inl ⟨by rfl, ?_⟩) ?_ ?_
    rotate_left
    ·intro w'
     go_simp
     with_reducible rfl
    rotate_left
    ·simp only [Act.put, List.setIfInBounds_toArray, List.set_cons_zero, List.set_cons_succ, i64_w, i32_w]
     rfl
    refine pure_ (i := 4) (N := some 51) (v := ?_) (a' := ?_) #[true, true, true, true, true, false, false, false, false, false, false, false, false, false, false, false, false] rfl rfl (any_of HT_.out (by kernel_rfl)) (fun _ _ _ h => h) (Or.inl ⟨by rfl, ?_⟩) ?_ ?_
    rotate_left
    ·intro w'
     go_simp
     with_reducible rfl
    rotate_left
    ·simp only [Act.put, List.setIfInBounds_toArray, List.set_cons_zero, List.set_cons_succ, i64_w, i32_w]
     rfl
    refine pure_ (i := 6) (N := some 53) (v := ?_) (a' := ?_) #[true, true, true, true, true, false, true, false, false, false, false, false, false, false, false, false, false] rfl rfl (any_of HT_.out (by kernel_rfl)) (fun _ _ _ h => h) (Or.inl ⟨by rfl, ?_⟩) ?_ ?_
    rotate_left
    ·intro w'
     go_simp
     with_reducible rfl
    rotate_left
    ·simp only [Act.put, List.setIfInBounds_toArray, List.set_cons_zero, List.set_cons_succ, i64_w, i32_w]
     rfl
    refine pure_ (i := 7) (N := some 54) (v := ?_) (a' := ?_) #[true, true, true, true, true, false, true, true, false, false, false, false, false, false, false, false, false] rfl rfl (any_of HT_.out (by kernel_rfl)) (fun _ _ _ h => h) (Or.inl ⟨by rfl, ?_⟩) ?_ ?_
    rotate_left
    ·intro w'
     go_simp
     with_reducible rfl
    rotate_left
    ·simp only [Act.put, List.setIfInBounds_toArray, List.set_cons_zero, List.set_cons_succ, i64_w, i32_w]
     rfl
    refine pure_ (i := 8) (N := some 55) (v := ?_) (a' := ?_) #[true, true, true, true, true, false, true, true, true, false, false, false, false, false, false, false, false] rfl rfl (any_of HT_.out (by kernel_rfl)) (fun _ _ _ h => h) (Or.inl ⟨by rfl, ?_⟩) ?_ ?_
    rotate_left
    ·intro w'
     go_simp
     with_reducible rfl
    rotate_left
    ·simp only [Act.put, List.setIfInBounds_toArray, List.set_cons_zero, List.set_cons_succ, i64_w, i32_w]
     rfl
    refine take_ (i := 5) (N := some 52) (v := ?_) (a' := ?_) #[true, true, true, true, true, true, true, true, true, false, false, false, false, false, false, false, false] rfl rfl (take_ofW HT_.out HW_.out (by kernel_rfl)) (fun _ _ _ h => h) (Or.inl ⟨by rfl, ?_⟩) hHeld ?_ ?_
    rotate_left
    ·rintro w' ⟨s0, s1, s2, s3⟩
     go_simp
     with_reducible rfl
    rotate_left
    ·simp only [Act.put, List.setIfInBounds_toArray, List.set_cons_zero, List.set_cons_succ, i64_w, i32_w]
     rfl
    refine take_ (i := 9) (N := some 56) (v := ?_) (a' := ?_) #[true, true, true, true, true, true, true, true, true, true, false, false, false, false, false, false, false] rfl rfl (take_ofW HT_.out HW_.out (by kernel_rfl)) (fun _ _ _ h => h) (Or.inl ⟨by rfl, ?_⟩) hHeld ?_ ?_
    rotate_left
    ·rintro w' ⟨s0, s1, s2, s3⟩
     go_simp
     with_reducible rfl
    rotate_left
    ·simp only [Act.put, List.setIfInBounds_toArray, List.set_cons_zero, List.set_cons_succ, i64_w, i32_w]
     rfl
    refine pure_ (i := 10) (N := some 57) (v := ?_) (a' := ?_) #[true, true, true, true, true, true, true, true, true, true, true, false, false, false, false, false, false] rfl rfl (any_of HT_.out (by kernel_rfl)) (fun _ _ _ h => h) (Or.inl ⟨by rfl, ?_⟩) ?_ ?_
    rotate_left
    ·intro w'
     go_simp
     with_reducible rfl
    rotate_left
    ·simp only [Act.put, List.setIfInBounds_toArray, List.set_cons_zero, List.set_cons_succ, i64_w, i32_w]
     rfl
    refine take_ (i := 11) (N := some 58) (v := ?_) (a' := ?_) #[true, true, true, true, true, true, true, true, true, true, true, true, false, false, false, false, false] rfl rfl (take_ofW HT_.out HW_.out (by kernel_rfl)) (fun _ _ _ h => h) (Or.inl ⟨by rfl, ?_⟩) hHeld ?_ ?_
    rotate_left
    ·rintro w' ⟨s0, s1, s2, s3⟩
     go_simp
     with_reducible rfl
    rotate_left
    ·simp only [Act.put, List.setIfInBounds_toArray, List.set_cons_zero, List.set_cons_succ, i64_w, i32_w]
     rfl
    refine pure_ (i := 12) (N := some 59) (v := ?_) (a' := ?_) #[true, true, true, true, true, true, true, true, true, true, true, true, true, false, false, false, false] rfl rfl (any_of HT_.out (by kernel_rfl)) (fun _ _ _ h => h) (Or.inl ⟨by rfl, ?_⟩) ?_ ?_
    rotate_left
    ·intro w'
     go_simp
     with_reducible rfl
    rotate_left
    ·simp only [Act.put, List.setIfInBounds_toArray, List.set_cons_zero, List.set_cons_succ, i64_w, i32_w]
     rfl
    refine take_ (i := 13) (N := some 60) (v := ?_) (a' := ?_) #[true, true, true, true, true, true, true, true, true, true, true, true, true, true, false, false, false] rfl rfl (take_ofW HT_.out HW_.out (by kernel_rfl)) (fun _ _ _ h => h) (Or.inl ⟨by rfl, ?_⟩) hHeld ?_ ?_
    rotate_left
    ·rintro w' ⟨s0, s1, s2, s3⟩
     go_simp
     with_reducible rfl
    rotate_left
    ·simp only [Act.put, List.setIfInBounds_toArray, List.set_cons_zero, List.set_cons_succ, i64_w, i32_w]
     rfl
    refine last_ (i := 14) (N := some 61) #[true, true, true, true, true, true, true, true, true, true, true, true, true, true, true, false, false] rfl rfl (one_of HT_.out (by kernel_rfl)) (by decide) (fun K hK => ?_)
    refine value_ (w1 := ?_) (v := ?_) (by rfl) rfl ?_ ?_
    rotate_left 2
    ·go_simp
     constructor
     ·rfl
     ·rfl
    refine hK.out _ _ ?_
    clear hK K
    refine norm_ (a' := ?_) ?_ ?_
    rotate_left
    ·show Act.put _ (some 61) _ = _
     simp only [Act.put, List.setIfInBounds_toArray, List.set_cons_zero, List.set_cons_succ, i64_w, i32_w]
     rfl
    refine last_ (i := 15) (N := some 62) #[true, true, true, true, true, true, true, true, true, true, true, true, true, true, true, true, false] rfl rfl (one_of HT_.out (by kernel_rfl)) (by decide) (fun K hK => ?_)
    refine Kd.R_append_step (Kd.int .i64) (w0 := w) w.heap.size (by rfl) (.tmp 47) (.tmp 61) 22 3 (.int .i64 0) 8 rfl Try.underlying22 info3 rfl (by decide) (by omega) u11 x11_3 (rd x7_1 (rd (rd_L1 l0 x10_2) (rd t132 x12_3))) [.int .i64 (rd x7_1 (rd (rd_L1 l0 x10_2) (rd t132 x12_3)))] (fun k_ => some k_ ≠ (.slice (some ad144) t132.length co7 : Value).ownBlock ∧ some k_ ≠ (.slice (some ad146) x7_1.length co28 : Value).ownBlock) (fun _ => False) rfl rfl ?aP (fun _ hk => hk.elim) ?aF ?aO ?aB ?aS ?aL ?_
    (case aP => exact rfl)
    (case aB => exact (gr HB.out))
    (case aF => exact (fun k_ hk => ⟨Kd.fresh' (Kd.R_lt (by exact rk HO_5.out)) k_ hk, Kd.fresh' (Kd.R_lt (by exact rk HO_7.out)) k_ hk⟩))
    (case aO => exact (by exact rk HO_11.out))
    (case aS => exact (bZ_ (gr HB.out)))
    (case aL => have := LMc26.out; omega)
    intro v148 w29 ho hb hg hat
    rw [← Ny147.out] at ho
    have HO149 := a_ (ho)
    replace HO_5 := a_ (Kd.R_after (ok := (fun k_ => some k_ ≠ (.slice (some ad146) x7_1.length co28 : Value).ownBlock)) (by exact rk HO_5.out) hg hat)
    replace HO_7 := a_ (Kd.R_after (ok := (fun k_ => some k_ ≠ (.slice (some ad144) t132.length co7 : Value).ownBlock)) (by exact rk HO_7.out) hg hat)
    replace HO_9 := a_ (Kd.S_after (ok := (fun k_ => some k_ ≠ (.slice (some ad144) t132.length co7 : Value).ownBlock ∧ some k_ ≠ (.slice (some ad146) x7_1.length co28 : Value).ownBlock)) (by (with_reducible repeat (first | apply Kd.S_alloc | apply Kd.S_drewN | apply Kd.S_drew)); exact Kd.S_mono HO_9.out (fun _ hk => ⟨⟨hk.1, hk.2.1⟩, hk.2.2⟩)) hg hat)
    replace HB := a_ (hb)
    clear HO_11
    clear ho hb hg hat
    refine hK.out _ _ ?_
    clear hK K
    refine norm_ (a' := ?_) ?_ ?_
    rotate_left
    ·show Act.put _ (some 62) _ = _
     simp only [Act.put, List.setIfInBounds_toArray, List.set_cons_zero, List.set_cons_succ, i64_w, i32_w]
     rfl
    refine pure_ (i := 16) (N := some 11) (v := ?_) (a' := ?_) #[true, true, true, true, true, true, true, true, true, true, true, true, true, true, true, true, true] rfl rfl (any_of HT_.out (by kernel_rfl)) (fun _ _ _ h => h) (Or.inl ⟨by rfl, ?_⟩) ?_ ?_
    rotate_left
    ·intro w'
     go_simp
     with_reducible rfl
    rotate_left
    ·simp only [Act.put, List.setIfInBounds_toArray, List.set_cons_zero, List.set_cons_succ, i64_w, i32_w]
     rfl
    refine done_ (done_of HT_.out (by kernel_rfl)) ?_
    try go_wp2
    go_roundg k3
    case measure => have := HK1.out; have := HK2.out; have := HK3.out; omega
    case rel => exact ⟨(y147), (wrap64 (x12_3 + 1)), (by first | rfl | (simp; done) | (simp [*]; done)), H', ⟨by have := HK1.out; have := HK2.out; have := HK3.out; omega⟩, ⟨by exact rk HO_5.out⟩, ⟨by exact rk HO_7.out⟩, ⟨by (with_reducible repeat (first | apply Kd.S_alloc | apply Kd.S_drewN | apply Kd.S_drew)); exact Kd.S_mono HO_9.out (fun _ hk => ⟨hk.1.1, ⟨hk.1.2, hk.2⟩⟩)⟩, ⟨by exact rk HO149.out⟩, ⟨by exact gs HB.out⟩⟩
def rr_Standard.f (k : Nat) (l0 : List (List Int)) : Option (Bool) := (rr_Connected.f k l0).bind fun t502 => (if t502 = true then ((rr_Renumber.f k l0 0).bind fun t503 => ((rr_Same.f k t503 l0).bind fun t506 => (some t506))) else (some false))
theorem rr_Standard.calls (k : Nat) (A0 : Option Addr) (c0 : Nat) (l0 : List (List Int)) (r : Bool) (w : World) (hr0 : Kd.C (Kd.slice 3 (Kd.int .i64)) w A0 l0.length l0) (hc0 : l0.length ≤ c0) (h : rr_Standard.f k l0 = some r) :
  Calls Try.prog 34 #[.slice A0 l0.length c0] w fun e w' => e = .returned (.bool r) ∧ Below w.heap.size w w' := by
 have HR0 := a_ hr0
 have HC0 := a_ hc0
 clear hr0 hc0
 have HB := a_ (Below.refl w.heap.size w)
 have H : ((rr_Connected.f k l0).bind fun t502 => (if t502 = true then ((rr_Renumber.f k l0 0).bind fun t503 => ((rr_Same.f k t503 l0).bind fun t506 => (some t506))) else (some false))) = some r := h
 clear h
 replace H := Option.bind_eq_some_iff.mp H
 obtain ⟨t502, A20, H⟩ := H
 try dsimp only at H
 have A2 := a_ A20
 clear A20
 by_cases c3 : t502 = true
 rotate_left
 ·replace c3 := Bool.eq_false_iff.mpr c3
  subst c3
  have H1 := H; rw [if_neg (show ¬ (false = true) by decide)] at H1
  clear H
  have H := H1
  clear H1
  obtain rfl := Option.some.inj H
  go_enter Try.func34, Try.ntmps34
  go_wp2_with (first | ((with_reducible refine gate_callee (f := 30) rfl ?_); refine goesL_ (some 4) rfl rfl Try.func30 (by kernel_rfl) rfl #[.slice A0 l0.length c0] rfl (by (try simp only [List.map_toArray, List.map_cons, List.map_nil]); first | done | rfl | (simp only [List.length_drop, List.length_take]; rfl)) ?_; (with_reducible refine (rr_Connected.calls k _ _ l0 false _ ?side1 ?side2 A2.out).mono ?_); (case side1 => repeat (first | exact HR0.out | (with_reducible refine Kd.C_alloc ?_ _) | (with_reducible refine Kd.C_drewN ?_ _) | (with_reducible refine Kd.C_drew ?_))); (case side2 => exact HC0.out); rintro e w9 ⟨rfl, hb⟩; refine ⟨_, rfl, ?_⟩; replace HB := a_ (bT_ HB.out (tr hb)); (try clear hb); (try clear hb2); (try clear hk); (try clear hi)))
  go_ret
  exact ⟨by first | rfl | (simp [errW_none, errW_some] <;> rfl) | (simp [*, errW_none, errW_some] <;> rfl), by exact gs HB.out⟩
 subst c3
 have H1 := H; rw [if_pos rfl] at H1
 clear H
 have H := H1
 clear H1
 replace H := Option.bind_eq_some_iff.mp H
 obtain ⟨t503, A40, H⟩ := H
 try dsimp only at H
 have A4 := a_ A40
 clear A40
 replace H := Option.bind_eq_some_iff.mp H
 obtain ⟨t506, A50, H⟩ := H
 try dsimp only at H
 have A5 := a_ A50
 clear A50
 obtain rfl := Option.some.inj H
 go_enter Try.func34, Try.ntmps34
 go_wp2_with (first | ((with_reducible refine gate_callee (f := 30) rfl ?_); refine goesL_ (some 4) rfl rfl Try.func30 (by kernel_rfl) rfl #[.slice A0 l0.length c0] rfl (by (try simp only [List.map_toArray, List.map_cons, List.map_nil]); first | done | rfl | (simp only [List.length_drop, List.length_take]; rfl)) ?_; (with_reducible refine (rr_Connected.calls k _ _ l0 true _ ?side1 ?side2 A2.out).mono ?_); (case side1 => repeat (first | exact HR0.out | (with_reducible refine Kd.C_alloc ?_ _) | (with_reducible refine Kd.C_drewN ?_ _) | (with_reducible refine Kd.C_drew ?_))); (case side2 => exact HC0.out); rintro e w6 ⟨rfl, hb⟩; refine ⟨_, rfl, ?_⟩; replace HB := a_ (bT_ HB.out (tr hb)); (try clear hb); (try clear hb2); (try clear hk); (try clear hi)) | (go_at_call 32; (with_reducible refine (rr_Renumber.calls k _ _ l0 0 t503 _ ?side1 ?side2 A4.out).mono ?_); (case side1 => repeat (first | exact (Kd.C_below HR0.out HB.out) | (with_reducible refine Kd.C_alloc ?_ _) | (with_reducible refine Kd.C_drewN ?_ _) | (with_reducible refine Kd.C_drew ?_))); (case side2 => exact HC0.out); rintro e w7 ⟨v504, rfl, ho0, hb⟩; have HO505 := a_ (Kd.S_lower ho0 (bZ_ (gr HB.out))); replace HB := a_ (bT_ HB.out (tr hb)); (try clear hb); (try clear hb2); (try clear hk); (try clear hi); (try clear ho0); obtain ⟨Ao8, co8, eo8⟩ := Kd.S_slice HO505.out; subst eo8) | (go_at_call 31; (with_reducible refine (rr_Same.calls k _ _ t503 _ _ l0 t506 _ ?side1 ?side2 ?side3 ?side4 A5.out).mono ?_); (case side1 => repeat (first | exact (Kd.S_reads' HO505.out).2.2 | (with_reducible refine Kd.C_alloc ?_ _) | (with_reducible refine Kd.C_drewN ?_ _) | (with_reducible refine Kd.C_drew ?_))); (case side2 => exact (Kd.S_reads' HO505.out).2.1); (case side3 => repeat (first | exact (Kd.C_below HR0.out HB.out) | (with_reducible refine Kd.C_alloc ?_ _) | (with_reducible refine Kd.C_drewN ?_ _) | (with_reducible refine Kd.C_drew ?_))); (case side4 => exact HC0.out); rintro e w' ⟨rfl, ⟨nd, rfl⟩⟩))
 go_ret
 exact ⟨by first | rfl | (simp [errW_none, errW_some] <;> rfl) | (simp [*, errW_none, errW_some] <;> rfl), by exact gs HB.out⟩
theorem eqA100 (d : Nat) (w : World) (x0 y0 : Int) (x1 y1 : Int) :
  (Op.equalIn (d + 2) 100 (.agg #[.int .i64 x0, .int .i64 x1]) (.agg #[.int .i64 y0, .int .i64 y1])).run Try.prog w = .ok (x0 == y0 && (x1 == y1)) w := by
 have hu := Try.underlying100
 have hu3 := Try.underlying3
 have hs : (sizeOf 3).run Try.prog w = .ok 1 w := by kernel_rfl
 have he : ∀ a b : Int, (Op.equalIn (d+1) 3 (.int .i64 a) (.int .i64 b)).run Try.prog w = .ok (a == b) w := fun a b => by simp [Op.equalIn, run_underlying hu3]
 have p0 : ∀ u0 u1 : Value, (part 3 #[u0, u1] 0).run Try.prog w = .ok u0 w := fun _ _ => by kernel_rfl
 have p1 : ∀ u0 u1 : Value, (part 3 #[u0, u1] 1).run Try.prog w = .ok u1 w := fun _ _ => by kernel_rfl
 rw [Op.equalIn]
 simp [run_underlying hu, hs, Std.Legacy.Range.forIn_eq_forIn_range', List.range', he, p0, p1]
 rcases Decidable.em (x0 = y0) with h0 | h0 <;> rcases Decidable.em (x1 = y1) with h1 | h1 <;> simp [h0, h1, he, p0, p1]
end Go.Proofs.Ytifkldehbaphgaa.PAll
end
section
namespace Go.Proofs.Ytifkldehbaphgaa.PAll
open Go.RowKit Go.PW.PrintWords Go.PW.PrintLast Go.PW.PrintMore
attribute [local go_sem] max2_int min2_int max_two min_two
attribute [local go_sem high] eqA100
def c_pair_72.l0 : Nat → List (S100) → Int → Int → Int → Int → Option (Int)
 | 0, _, _, _, _, _ => none
 | k + 1, x0, x7, x8, Xa0, Xa1 => if x8 < x7 then (if 0 ≤ x8 then (if x8 < (x0.length : Int) then (if (Xa0 == ((rd_T100 x0 x8).f0) && (Xa1 == ((rd_T100 x0 x8).f1))) = true then (some x8) else (c_pair_72.l0 k x0 x7 (wrap64 (x8 + 1)) Xa0 Xa1)) else (none)) else (none)) else (some (-1))
def c_pair_72.f (k : Nat) (l0 : List (S100)) (a1_0 : Int) (a1_1 : Int) : Option (Int) := c_pair_72.l0 k l0 (l0.length : Int) 0 a1_0 a1_1
theorem c_pair_72.calls (k : Nat) (A0 : Option Addr) (c0 : Nat) (l0 : List (S100)) (a1_0 : Int) (a1_1 : Int) (r : Int) (w : World) (hr0 : Kd.C k100 w A0 l0.length l0) (hc0 : l0.length ≤ c0) (h : c_pair_72.f k l0 a1_0 a1_1 = some r) :
  Calls Try.prog 72 #[.slice A0 l0.length c0, .agg #[.int .i64 a1_0, .int .i64 a1_1]] w fun e w' => e = .returned (.int .i64 r) ∧ Below w.heap.size w w' := by
 have hu100 := Try.underlying100
 have HR0 := a_ hr0
 have HC0 := a_ hc0
 clear hr0 hc0
 have HB := a_ (Below.refl w.heap.size w)
 have H : (c_pair_72.l0 k l0 (l0.length : Int) 0 a1_0 a1_1) = some r := h
 clear h
 have H' := a_ H
 clear H
 go_enter Try.func72, Try.ntmps72
 go_wp2_with (first | ((with_reducible refine gate_dst (N := 3) rfl ?_); refine box_event ?hg (N := 3) ?hd (cs := #[.int .i64 a1_0, .int .i64 a1_1]) (t := 100) ?hr ?_; (case hd => rfl); (case hg => rfl); (case hr => first | (go_simp; done) | (go_simp; rfl)); intro gb455 hg w3 hbox hb; have BK455 := a_ (hbox); have GW455 := a_ ((by rw [hg]; exact (bZ_ (gr HB.out)) : w.heap.size ≤ gb455)); have GE455 := GEc.mk ((by rw [hg]; exact (bZ_ (gr HB.out)) : w.heap.size ≤ gb455)); replace HB := a_ (bT_ HB.out (tr hb)); clear hb hbox hg))
 repeat (go_quiet (first | ((with_reducible refine gate_dst (N := 3) rfl ?_); refine box_event ?hg (N := 3) ?hd (cs := #[.int .i64 a1_0, .int .i64 a1_1]) (t := 100) ?hr ?_; (case hd => rfl); (case hg => rfl); (case hr => first | (go_simp; done) | (go_simp; rfl)); intro gb455 hg w3 hbox hb; have BK455 := a_ (hbox); have GW455 := a_ ((by rw [hg]; exact (bZ_ (gr HB.out)) : w.heap.size ≤ gb455)); have GE455 := GEc.mk ((by rw [hg]; exact (bZ_ (gr HB.out)) : w.heap.size ≤ gb455)); replace HB := a_ (bT_ HB.out (tr hb)); clear hb hbox hg)); try go_wp2_with (first | ((with_reducible refine gate_dst (N := 3) rfl ?_); refine box_event ?hg (N := 3) ?hd (cs := #[.int .i64 a1_0, .int .i64 a1_1]) (t := 100) ?hr ?_; (case hd => rfl); (case hg => rfl); (case hr => first | (go_simp; done) | (go_simp; rfl)); intro gb455 hg w3 hbox hb; have BK455 := a_ (hbox); have GW455 := a_ ((by rw [hg]; exact (bZ_ (gr HB.out)) : w.heap.size ≤ gb455)); have GE455 := GEc.mk ((by rw [hg]; exact (bZ_ (gr HB.out)) : w.heap.size ≤ gb455)); replace HB := a_ (bT_ HB.out (tr hb)); clear hb hbox hg)))
 go_loopg [8] k (fun kq v8 w' => ∃ (x8_1 : Int), v8 = .int .i64 x8_1 ∧ Aside0 (c_pair_72.l0 kq l0 (l0.length : Int) x8_1 a1_0 a1_1 = some r) ∧ Aside0 (kq ≤ k) ∧ Aside0 (w'.heap[gb455]? = some (.cells #[.int .i64 a1_0, .int .i64 a1_1] 100 (0, 0))) ∧ Aside0 (Below w.heap.size w w'))
 case atStart => exact ⟨(0), (by first | rfl | (simp; done) | (simp [*]; done)), H', ⟨Nat.le_refl _⟩, ⟨by exact bk BK455.out⟩, ⟨by exact gs HB.out⟩⟩
 clear H'
 try clear p2
 obtain ⟨x8_1, rfl, HA, HK1, BK455, HB⟩ := hrel
 cases gk with
 | zero => exact absurd HA.out (by simp [c_pair_72.l0])
 | succ k1 =>
  have H := HA.out
  clear HA
  simp only [c_pair_72.l0] at H
  by_cases c4 : x8_1 < (l0.length : Int)
  rotate_left
  ·rw [if_neg c4] at H
   have c4b0 : decide (x8_1 < (l0.length : Int)) = false := decide_eq_false c4
   clear c4
   obtain rfl := Option.some.inj H
   go_wp2
   repeat (go_quiet (fail); try go_wp2)
   go_ret
   exact ⟨by first | rfl | (simp [errW_none, errW_some] <;> rfl) | (simp [*, errW_none, errW_some] <;> rfl), by exact gs HB.out⟩
  rw [if_pos c4] at H
  have c4b0 : decide (x8_1 < (l0.length : Int)) = true := decide_eq_true c4
  clear c4
  by_cases c5 : 0 ≤ x8_1
  rotate_left
  ·rw [if_neg c5] at H
   exact absurd H (by simp)
  rw [if_pos c5] at H
  have c5b0 : decide (0 ≤ x8_1) = true := decide_eq_true c5
  clear c5
  by_cases c6 : x8_1 < (l0.length : Int)
  rotate_left
  ·rw [if_neg c6] at H
   exact absurd H (by simp)
  rw [if_pos c6] at H
  have c6b0 : decide (x8_1 < (l0.length : Int)) = true := decide_eq_true c6
  clear c6
  by_cases c7 : (a1_0 == ((rd_T100 l0 x8_1).f0) && (a1_1 == ((rd_T100 l0 x8_1).f1))) = true
  ·rw [if_pos c7] at H
   have c7b0 : (a1_0 == ((rd_T100 l0 x8_1).f0) && (a1_1 == ((rd_T100 l0 x8_1).f1))) = true := c7
   (try (have c7b1 : decide (a1_0 = ((rd_T100 l0 x8_1).f0) && (a1_1 == ((rd_T100 l0 x8_1).f1))) = true := by simpa using c7))
   (try (have c7b2 : (a1_0 == ((rd_T100 l0 x8_1).f0) && (a1_1 == ((rd_T100 l0 x8_1).f1))) = true := by simpa using c7))
   clear c7
   obtain rfl := Option.some.inj H
   have hcz8_0 : wr.cell? ⟨gb455, 0, none⟩ = some (.int .i64 a1_0) := (kc_ BK455.out 0).trans rfl
   have hcz8_1 : wr.cell? ⟨gb455, 1, none⟩ = some (.int .i64 a1_1) := (kc_ BK455.out 1).trans rfl
   have hfz8_0 := kf_ BK455.out 0
   have hfz8_1 := kf_ BK455.out 1
   have p456 : 0 ≤ (x8_1 : Int) := of_decide_eq_true (by first | (with_reducible assumption) | assumption)
   have q456 : x8_1 < (l0.length : Int) := of_decide_eq_true (by first | (with_reducible assumption) | assumption)
   obtain ⟨ad456, e456, hx456_0, hx456_1⟩ := at_T100 HR0.out x8_1 p456 q456
   cases e456
   replace hx456_0 := (HB.out.cell (World.block_lt_of_cell? w _ hx456_0)).trans hx456_0
   replace hx456_1 := (HB.out.cell (World.block_lt_of_cell? w _ hx456_1)).trans hx456_1
   replace p456 := eq_true p456
   replace q456 := eq_true q456
   go_wp2
   repeat (go_quiet (fail); try go_wp2)
   go_ret
   exact ⟨by first | rfl | (simp [errW_none, errW_some] <;> rfl) | (simp [*, errW_none, errW_some] <;> rfl), by exact gs HB.out⟩
  rw [if_neg c7] at H
  have c7b0 : (a1_0 == ((rd_T100 l0 x8_1).f0) && (a1_1 == ((rd_T100 l0 x8_1).f1))) = false := by simpa using c7
  (try (have c7b1 : decide (a1_0 = ((rd_T100 l0 x8_1).f0) && (a1_1 == ((rd_T100 l0 x8_1).f1))) = false := by simpa using c7))
  (try (have c7b2 : (a1_0 == ((rd_T100 l0 x8_1).f0) && (a1_1 == ((rd_T100 l0 x8_1).f1))) = false := by simpa using c7))
  (try (have c7b3 : ¬ (a1_0 = ((rd_T100 l0 x8_1).f0) && (a1_1 == ((rd_T100 l0 x8_1).f1))) := by simpa using c7))
  clear c7
  have H' := a_ H
  clear H
  have hcz9_0 : wr.cell? ⟨gb455, 0, none⟩ = some (.int .i64 a1_0) := (kc_ BK455.out 0).trans rfl
  have hcz9_1 : wr.cell? ⟨gb455, 1, none⟩ = some (.int .i64 a1_1) := (kc_ BK455.out 1).trans rfl
  have hfz9_0 := kf_ BK455.out 0
  have hfz9_1 := kf_ BK455.out 1
  have p456 : 0 ≤ (x8_1 : Int) := of_decide_eq_true (by first | (with_reducible assumption) | assumption)
  have q456 : x8_1 < (l0.length : Int) := of_decide_eq_true (by first | (with_reducible assumption) | assumption)
  obtain ⟨ad456, e456, hx456_0, hx456_1⟩ := at_T100 HR0.out x8_1 p456 q456
  cases e456
  replace hx456_0 := (HB.out.cell (World.block_lt_of_cell? w _ hx456_0)).trans hx456_0
  replace hx456_1 := (HB.out.cell (World.block_lt_of_cell? w _ hx456_1)).trans hx456_1
  replace p456 := eq_true p456
  replace q456 := eq_true q456
  go_wp2
  repeat (go_quiet (fail); try go_wp2)
  go_roundg k1
  case measure => have := HK1.out; omega
  case rel => exact ⟨(wrap64 (x8_1 + 1)), (by first | rfl | (simp; done) | (simp [*]; done)), H', ⟨by have := HK1.out; omega⟩, ⟨by exact bk BK455.out⟩, ⟨by exact gs HB.out⟩⟩
end Go.Proofs.Ytifkldehbaphgaa.PAll
end
section
namespace Go.Proofs.Ytifkldehbaphgaa.PAll
open Go.RowKit Go.PW.PrintWords Go.PW.PrintLast Go.PW.PrintMore
attribute [local go_sem] max2_int min2_int max_two min_two
def c_pair_71.f (k : Nat) (l0 : List (S100)) (a1_0 : Int) (a1_1 : Int) : Option (Bool) := (c_pair_72.f k l0 a1_0 a1_1).bind fun t458 => (some (decide (t458 ≥ 0)))
theorem c_pair_71.calls (k : Nat) (A0 : Option Addr) (c0 : Nat) (l0 : List (S100)) (a1_0 : Int) (a1_1 : Int) (r : Bool) (w : World) (hr0 : Kd.C k100 w A0 l0.length l0) (hc0 : l0.length ≤ c0) (h : c_pair_71.f k l0 a1_0 a1_1 = some r) :
  Calls Try.prog 71 #[.slice A0 l0.length c0, .agg #[.int .i64 a1_0, .int .i64 a1_1]] w fun e w' => e = .returned (.bool r) ∧ Below w.heap.size w w' := by
 have hu100 := Try.underlying100
 have HR0 := a_ hr0
 have HC0 := a_ hc0
 clear hr0 hc0
 have HB := a_ (Below.refl w.heap.size w)
 have H : ((c_pair_72.f k l0 a1_0 a1_1).bind fun t458 => (some (decide (t458 ≥ 0)))) = some r := h
 clear h
 replace H := Option.bind_eq_some_iff.mp H
 obtain ⟨t458, A30, H⟩ := H
 try dsimp only at H
 have A3 := a_ A30
 clear A30
 obtain rfl := Option.some.inj H
 go_enter Try.func71, Try.ntmps71
 go_wp2_with (first | ((with_reducible refine gate_dst (N := 3) rfl ?_); refine box_event ?hg (N := 3) ?hd (cs := #[.int .i64 a1_0, .int .i64 a1_1]) (t := 100) ?hr ?_; (case hd => rfl); (case hg => rfl); (case hr => first | (go_simp; done) | (go_simp; rfl)); intro gb457 hg w4 hbox hb; have BK457 := a_ (hbox); have GW457 := a_ ((by rw [hg]; exact (bZ_ (gr HB.out)) : w.heap.size ≤ gb457)); have GE457 := GEc.mk ((by rw [hg]; exact (bZ_ (gr HB.out)) : w.heap.size ≤ gb457)); replace HB := a_ (bT_ HB.out (tr hb)); clear hb hbox hg; have hcz5_0 : w4.cell? ⟨gb457, 0, none⟩ = some (.int .i64 a1_0) := (kc_ BK457.out 0).trans rfl; have hcz5_1 : w4.cell? ⟨gb457, 1, none⟩ = some (.int .i64 a1_1) := (kc_ BK457.out 1).trans rfl; have hfz5_0 := kf_ BK457.out 0; have hfz5_1 := kf_ BK457.out 1) | ((with_reducible refine gate_callee (f := 72) rfl ?_); refine goesL_ (some 7) rfl rfl Try.func72 (by kernel_rfl) rfl #[.slice A0 l0.length c0, .agg #[.int .i64 a1_0, .int .i64 a1_1]] rfl (by (try simp only [List.map_toArray, List.map_cons, List.map_nil]); first | done | rfl | (simp only [List.length_drop, List.length_take]; rfl)) ?_; (with_reducible refine (c_pair_72.calls k _ _ l0 a1_0 a1_1 t458 _ ?side1 ?side2 A3.out).mono ?_); (case side1 => repeat (first | exact (Kd.C_below HR0.out HB.out) | (with_reducible refine Kd.C_alloc ?_ _) | (with_reducible refine Kd.C_drewN ?_ _) | (with_reducible refine Kd.C_drew ?_))); (case side2 => exact HC0.out); rintro e w6 ⟨rfl, hb⟩; refine ⟨_, rfl, ?_⟩; replace BK457 := a_ (kB_ BK457.out (tr hb)); replace HB := a_ (bT_ (by exact gs HB.out) hb); (try clear hb); (try clear hb2); (try clear hk); (try clear hi)))
 go_ret
 exact ⟨by first | rfl | (simp [errW_none, errW_some] <;> rfl) | (simp [*, errW_none, errW_some] <;> rfl), by exact gs HB.out⟩
end Go.Proofs.Ytifkldehbaphgaa.PAll
end
