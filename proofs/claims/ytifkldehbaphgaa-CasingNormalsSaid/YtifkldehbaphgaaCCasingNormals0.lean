/- The law CasingNormals returns true for every input: for any table, casing.Normal reports whether no other standard table is alike to it, or returns ErrArg. No condition. Part 1 of 2. -/
import Derived.Maps.OwnSet
import Derived.DeepKeys4
import Derived.Below
import Derived.Test.YtifkldehbaphgaaB3
set_option linter.all false
set_option maxHeartbeats 8000000
set_option maxRecDepth 100000
section
namespace Go.Proofs.Ytifkldehbaphgaa.PAll
open Go.RowKit Go.PW.PrintWords Go.PW.PrintLast Go.PW.PrintMore
attribute [local go_sem] max2_int min2_int max_two min_two
mutual
def rr_Table.j0 : Nat → List (List Int) → Bool → Option (Bool)
 | 0, _, _ => none
 | k + 1, x0, x14 => if x14 = true then (some false) else (if 0 < (x0.length : Int) then (rr_Table.l0 k x0 ((rd_L1 x0 0).length : Int) 0) else (none))
def rr_Table.l0 : Nat → List (List Int) → Int → Int → Option (Bool)
 | 0, _, _, _ => none
 | k + 1, x0, x3, x4 => if x4 < (x0.length : Int) then (if 0 ≤ x4 then (if ((rd_L1 x0 x4).length : Int) = x3 then (if x3 < 1 then (rr_Table.j2 k x0 x3 x4 true) else (rr_Table.j2 k x0 x3 x4 (decide (x3 > 5)))) else (rr_Table.j2 k x0 x3 x4 true)) else (none)) else (some true)
def rr_Table.j2 : Nat → List (List Int) → Int → Int → Bool → Option (Bool)
 | 0, _, _, _, _ => none
 | k + 1, x0, x3, x4, x39 => if x39 = true then (some false) else (rr_Table.l1 k x0 x3 x4 0)
def rr_Table.l1 : Nat → List (List Int) → Int → Int → Int → Option (Bool)
 | 0, _, _, _, _ => none
 | k + 1, x0, x3, x4, x5 => if x5 < x3 then (if 0 ≤ x4 then (if x4 < (x0.length : Int) then (if 0 ≤ x5 then (if x5 < ((rd_L1 x0 x4).length : Int) then (if (rd (rd_L1 x0 x4) x5) < 0 then (rr_Table.j4 k x0 x3 x4 x5 true) else (rr_Table.j4 k x0 x3 x4 x5 (decide ((rd (rd_L1 x0 x4) x5) ≥ x3)))) else (none)) else (none)) else (none)) else (none)) else (rr_Table.l0 k x0 x3 (wrap64 (x4 + 1)))
def rr_Table.j4 : Nat → List (List Int) → Int → Int → Int → Bool → Option (Bool)
 | 0, _, _, _, _, _ => none
 | k + 1, x0, x3, x4, x5, x63 => if x63 = true then (some false) else (rr_Table.l2 k x0 x3 x4 x5 0)
def rr_Table.l2 : Nat → List (List Int) → Int → Int → Int → Int → Option (Bool)
 | 0, _, _, _, _, _ => none
 | k + 1, x0, x3, x4, x5, x6 => if x6 < x5 then (if 0 ≤ x4 then (if x4 < (x0.length : Int) then (if 0 ≤ x6 then (if x6 < ((rd_L1 x0 x4).length : Int) then (if 0 ≤ x5 then (if x5 < ((rd_L1 x0 x4).length : Int) then (if (rd (rd_L1 x0 x4) x6) = (rd (rd_L1 x0 x4) x5) then (some false) else (rr_Table.l2 k x0 x3 x4 x5 (wrap64 (x6 + 1)))) else (none)) else (none)) else (none)) else (none)) else (none)) else (none)) else (rr_Table.l1 k x0 x3 x4 (wrap64 (x5 + 1)))
end
def rr_Table.f (k : Nat) (l0 : List (List Int)) : Option (Bool) := if (l0.length : Int) < 1 then (rr_Table.j0 k l0 true) else (rr_Table.j0 k l0 (decide ((l0.length : Int) > 2)))
theorem rr_Table.calls (k : Nat) (A0 : Option Addr) (c0 : Nat) (l0 : List (List Int)) (r : Bool) (w : World) (hr0 : Kd.C (Kd.slice 3 (Kd.int .i64)) w A0 l0.length l0) (hc0 : l0.length ≤ c0) (h : rr_Table.f k l0 = some r) :
  Calls Try.prog 29 #[.slice A0 l0.length c0] w fun e w' => e = .returned (.bool r) ∧ Drawn0 w w' := by
 have HR0 := a_ hr0
 have HC0 := a_ hc0
 clear hr0 hc0
 have H : (if (l0.length : Int) < 1 then (rr_Table.j0 k l0 true) else (rr_Table.j0 k l0 (decide ((l0.length : Int) > 2)))) = some r := h
 clear h
 have HC2 := a_ H
 clear H
 go_enter Try.func29, Try.ntmps29
 go_upto_region 1 with (fail)
 repeat (go_quiet (fail); go_upto_region 1 with (fail))
 go_cut [14] (fun v14 wc => ∃ (kq : Nat) (x14_1 : Bool), v14 = .bool x14_1 ∧ Aside0 (rr_Table.j0 kq l0 x14_1 = some r) ∧ Aside0 (kq ≤ k) ∧ Drawn0 w wc)
 case first =>
  have H := HC2.out
  clear HC2
  by_cases c3 : (l0.length : Int) < 1
  ·rw [if_pos c3] at H
   have c3b0 : decide ((l0.length : Int) < 1) = true := decide_eq_true c3
   have c3b1 : decide (l0.length < 1) = true := decide_eq_true (by omega)
   clear c3
   (first | rw [c3b0] | (simp only [i64_w, i32_w]; rw [c3b0]) | skip)
   have H' := a_ H
   clear H
   go_wp2
   repeat (go_quiet (fail); try go_wp2)
   go_meet
   case rel => exact ⟨_, (true), (by first | rfl | (simp; done) | (simp [*]; done)), H', ⟨by first | omega | exact Nat.le_refl _⟩, by repeat (first | exact Drawn0.refl _ | apply Drawn0.step)⟩
  rw [if_neg c3] at H
  have c3b0 : decide ((l0.length : Int) < 1) = false := decide_eq_false c3
  have c3b1 : decide (l0.length < 1) = false := decide_eq_false (by omega)
  clear c3
  (first | rw [c3b0] | (simp only [i64_w, i32_w]; rw [c3b0]) | skip)
  have H' := a_ H
  clear H
  go_wp2
  repeat (go_quiet (fail); try go_wp2)
  go_meet
  case rel => exact ⟨_, (decide ((l0.length : Int) > 2)), (by first | rfl | (simp; done) | (simp [*]; done)), H', ⟨by first | omega | exact Nat.le_refl _⟩, by repeat (first | exact Drawn0.refl _ | apply Drawn0.step)⟩
 case rest =>
  clear HC2
  try clear c2
  try clear p2
  try clear c3
  try clear c3b0
  try clear c3b1
  obtain ⟨kq, x14_1, rfl, HA, HJ1, ⟨mc1, rfl⟩⟩ := hcut
  cases kq with
  | zero => exact absurd HA.out (by simp [rr_Table.j0])
  | succ kj1 =>
   have H := HA.out
   clear HA
   simp only [rr_Table.j0] at H
   by_cases c4 : x14_1 = true
   ·subst c4
    have H1 := H; rw [if_pos rfl] at H1
    clear H
    have H := H1
    clear H1
    obtain rfl := Option.some.inj H
    go_wp2
    repeat (go_quiet (fail); try go_wp2)
    go_ret
    exact ⟨by first | rfl | (simp; done) | (simp [*]; done), by repeat (first | exact Drawn0.refl _ | apply Drawn0.step)⟩
   replace c4 := Bool.eq_false_iff.mpr c4
   subst c4
   have H1 := H; rw [if_neg (show ¬ (false = true) by decide)] at H1
   clear H
   have H := H1
   clear H1
   by_cases c5 : 0 < (l0.length : Int)
   rotate_left
   ·rw [if_neg c5] at H
    exact absurd H (by simp)
   rw [if_pos c5] at H
   have c5b0 : decide (0 < (l0.length : Int)) = true := decide_eq_true c5
   have c5b1 : decide (0 < l0.length) = true := decide_eq_true (by omega)
   clear c5
   have H' := a_ H
   clear H
   have p319 : 0 ≤ (0 : Int) := (by omega)
   have q319 : 0 < (l0.length : Int) := of_decide_eq_true (by first | (with_reducible assumption) | assumption)
   obtain ⟨ad319, A319_0, c319_0, e319, hx319_0, hl319_0, hi319_0⟩ := at_L1 HR0.out 0 p319 q319
   cases e319
   have qi319 : (0 < l0.length) = True := eq_true (by omega)
   (try rw [show ((0 : Int)).toNat = 0 from rfl] at hx319_0)
   (try rw [Addr.add_zero'] at hx319_0)
   have HR319_0 := a_ hi319_0
   have HC319_0 := a_ hl319_0
   clear hi319_0 hl319_0
   replace p319 := eq_true p319
   replace q319 := eq_true q319
   go_wp2
   repeat (go_quiet (fail); try go_wp2)
   go_loopg [4] kj1 (fun kq v4 w' => ∃ (x4_2 : Int), v4 = .int .i64 x4_2 ∧ Aside0 (rr_Table.l0 kq l0 ((rd_L1 l0 0).length : Int) x4_2 = some r) ∧ Aside0 (kq ≤ kj1) ∧ Drawn0 w w')
   case atStart => exact ⟨(0), (by first | rfl | (simp; done) | (simp [*]; done)), H', ⟨Nat.le_refl _⟩, by repeat (first | exact Drawn0.refl _ | apply Drawn0.step)⟩
   clear H'
   try clear c1
   try clear c2
   try clear p2
   try clear c3
   try clear c3b0
   try clear c3b1
   try clear p3
   try clear q3
   try clear hx3
   try clear qi3
   try clear c4
   try clear c5
   try clear c5b0
   try clear c5b1
   try clear hx319_0
   try clear p2
   try clear p319
   try clear q319
   obtain ⟨x4_2, rfl, HA, HK2, ⟨m2, rfl⟩⟩ := hrel
   cases gk with
   | zero => exact absurd HA.out (by simp [rr_Table.l0])
   | succ k2 =>
    have H := HA.out
    clear HA
    simp only [rr_Table.l0] at H
    by_cases c6 : x4_2 < (l0.length : Int)
    rotate_left
    ·rw [if_neg c6] at H
     have c6b0 : decide (x4_2 < (l0.length : Int)) = false := decide_eq_false c6
     clear c6
     obtain rfl := Option.some.inj H
     go_wp2
     repeat (go_quiet (fail); try go_wp2)
     go_ret
     exact ⟨by first | rfl | (simp; done) | (simp [*]; done), by repeat (first | exact Drawn0.refl _ | apply Drawn0.step)⟩
    rw [if_pos c6] at H
    have c6b0 : decide (x4_2 < (l0.length : Int)) = true := decide_eq_true c6
    clear c6
    have HC7 := a_ H
    clear H
    go_upto_region 7 with (fail)
    repeat (go_quiet (fail); go_upto_region 7 with (fail))
    go_cut [39] (fun v39 wc => ∃ (kq : Nat) (x39_6 : Bool), v39 = .bool x39_6 ∧ Aside0 (rr_Table.j2 kq l0 ((rd_L1 l0 0).length : Int) x4_2 x39_6 = some r) ∧ Aside0 (kq ≤ k2) ∧ Drawn0 w wc)
    case first =>
     have H := HC7.out
     clear HC7
     by_cases c8 : 0 ≤ x4_2
     rotate_left
     ·rw [if_neg c8] at H
      exact absurd H (by simp)
     rw [if_pos c8] at H
     have c8b0 : decide (0 ≤ x4_2) = true := decide_eq_true c8
     clear c8
     (first | rw [c8b0] | (simp only [i64_w, i32_w]; rw [c8b0]) | skip)
     by_cases c9 : ((rd_L1 l0 x4_2).length : Int) = ((rd_L1 l0 0).length : Int)
     rotate_left
     ·rw [if_neg c9] at H
      have c9b0 : (((rd_L1 l0 x4_2).length : Int) == ((rd_L1 l0 0).length : Int)) = false := beq_eq_false_iff_ne.mpr c9
      have c9b1 : (((rd_L1 l0 x4_2).length : Int) != ((rd_L1 l0 0).length : Int)) = true := bne_iff_ne.mpr c9
      have c9b2 : ((rd_L1 l0 x4_2).length == (rd_L1 l0 0).length) = false := by first | simpa using c9 | (simp at c9 ⊢; omega)
      have H' := a_ H
      clear H
      have p320 : 0 ≤ (x4_2 : Int) := of_decide_eq_true (by first | (with_reducible assumption) | assumption)
      have q320 : x4_2 < (l0.length : Int) := of_decide_eq_true (by first | (with_reducible assumption) | assumption)
      obtain ⟨ad320, A320_0, c320_0, e320, hx320_0, hl320_0, hi320_0⟩ := at_L1 HR0.out x4_2 p320 q320
      obtain rfl : ad319 = ad320 := (by injection e320)
      have HR320_0 := a_ hi320_0
      have HC320_0 := a_ hl320_0
      clear hi320_0 hl320_0
      replace p320 := eq_true p320
      replace q320 := eq_true q320
      go_wp2
      repeat (go_quiet (fail); try go_wp2)
      go_meet
      case rel => exact ⟨_, (true), (by first | rfl | (simp; done) | (simp [*]; done)), H', ⟨by have := HJ1.out; have := HK2.out; first | omega | exact Nat.le_refl _⟩, by repeat (first | exact Drawn0.refl _ | apply Drawn0.step)⟩
     rw [if_pos c9] at H
     have c9b0 : (((rd_L1 l0 x4_2).length : Int) == ((rd_L1 l0 0).length : Int)) = true := beq_iff_eq.mpr c9
     have c9b1 : (((rd_L1 l0 x4_2).length : Int) != ((rd_L1 l0 0).length : Int)) = false := bne_eq_false_iff_eq.mpr c9
     have c9b2 : ((rd_L1 l0 x4_2).length == (rd_L1 l0 0).length) = true := by first | simpa using c9 | (simp at c9 ⊢; omega)
     clear c9
     by_cases c10 : ((rd_L1 l0 0).length : Int) < 1
     ·rw [if_pos c10] at H
      have c10b0 : decide (((rd_L1 l0 0).length : Int) < 1) = true := decide_eq_true c10
      have c10b1 : decide ((rd_L1 l0 0).length < 1) = true := decide_eq_true (by omega)
      clear c10
      have H' := a_ H
      clear H
      have p320 : 0 ≤ (x4_2 : Int) := of_decide_eq_true (by first | (with_reducible assumption) | assumption)
      have q320 : x4_2 < (l0.length : Int) := of_decide_eq_true (by first | (with_reducible assumption) | assumption)
      obtain ⟨ad320, A320_0, c320_0, e320, hx320_0, hl320_0, hi320_0⟩ := at_L1 HR0.out x4_2 p320 q320
      obtain rfl : ad319 = ad320 := (by injection e320)
      have HR320_0 := a_ hi320_0
      have HC320_0 := a_ hl320_0
      clear hi320_0 hl320_0
      replace p320 := eq_true p320
      replace q320 := eq_true q320
      go_wp2
      repeat (go_quiet (fail); try go_wp2)
      go_meet
      case rel => exact ⟨_, (true), (by first | rfl | (simp; done) | (simp [*]; done)), H', ⟨by have := HJ1.out; have := HK2.out; first | omega | exact Nat.le_refl _⟩, by repeat (first | exact Drawn0.refl _ | apply Drawn0.step)⟩
     rw [if_neg c10] at H
     have c10b0 : decide (((rd_L1 l0 0).length : Int) < 1) = false := decide_eq_false c10
     have c10b1 : decide ((rd_L1 l0 0).length < 1) = false := decide_eq_false (by omega)
     clear c10
     have H' := a_ H
     clear H
     have p320 : 0 ≤ (x4_2 : Int) := of_decide_eq_true (by first | (with_reducible assumption) | assumption)
     have q320 : x4_2 < (l0.length : Int) := of_decide_eq_true (by first | (with_reducible assumption) | assumption)
     obtain ⟨ad320, A320_0, c320_0, e320, hx320_0, hl320_0, hi320_0⟩ := at_L1 HR0.out x4_2 p320 q320
     obtain rfl : ad319 = ad320 := (by injection e320)
     have HR320_0 := a_ hi320_0
     have HC320_0 := a_ hl320_0
     clear hi320_0 hl320_0
     replace p320 := eq_true p320
     replace q320 := eq_true q320
     go_wp2
     repeat (go_quiet (fail); try go_wp2)
     go_meet
     case rel => exact ⟨_, (decide (((rd_L1 l0 0).length : Int) > 5)), (by first | rfl | (simp; done) | (simp [*]; done)), H', ⟨by have := HJ1.out; have := HK2.out; first | omega | exact Nat.le_refl _⟩, by repeat (first | exact Drawn0.refl _ | apply Drawn0.step)⟩
    case rest =>
     clear HC7
     try clear c1
     try clear c2
     try clear p2
     try clear c3
     try clear c3b0
     try clear c3b1
     try clear p3
     try clear q3
     try clear hx3
     try clear qi3
     try clear c4
     try clear c5
     try clear c5b0
     try clear c5b1
     try clear c6
     try clear c6b0
     try clear c8
     try clear c8b0
     try clear c9
     try clear c9b0
     try clear c9b1
     try clear c9b2
     try clear c10
     try clear c10b0
     try clear c10b1
     try clear hx319_0
     try clear hx320_0
     try clear p2
     try clear p3
     try clear p319
     try clear p320
     try clear q3
     try clear q319
     try clear q320
     obtain ⟨kq, x39_6, rfl, HA, HJ6, ⟨mc6, rfl⟩⟩ := hcut
     cases kq with
     | zero => exact absurd HA.out (by simp [rr_Table.j2])
     | succ kj6 =>
      have H := HA.out
      clear HA
      simp only [rr_Table.j2] at H
      by_cases c11 : x39_6 = true
      ·subst c11
       have H1 := H; rw [if_pos rfl] at H1
       clear H
       have H := H1
       clear H1
       obtain rfl := Option.some.inj H
       go_wp2
       repeat (go_quiet (fail); try go_wp2)
       go_ret
       exact ⟨by first | rfl | (simp; done) | (simp [*]; done), by repeat (first | exact Drawn0.refl _ | apply Drawn0.step)⟩
      replace c11 := Bool.eq_false_iff.mpr c11
      subst c11
      have H1 := H; rw [if_neg (show ¬ (false = true) by decide)] at H1
      clear H
      have H := H1
      clear H1
      have H' := a_ H
      clear H
      go_wp2
      repeat (go_quiet (fail); try go_wp2)
      go_loopg [5] kj6 (fun kq v5 w' => ∃ (x5_4 : Int), v5 = .int .i64 x5_4 ∧ Aside0 (rr_Table.l1 kq l0 ((rd_L1 l0 0).length : Int) x4_2 x5_4 = some r) ∧ Aside0 (kq ≤ kj6) ∧ Drawn0 w w')
      case atStart => exact ⟨(0), (by first | rfl | (simp; done) | (simp [*]; done)), H', ⟨Nat.le_refl _⟩, by repeat (first | exact Drawn0.refl _ | apply Drawn0.step)⟩
      clear H'
      try clear c1
      try clear c2
      try clear p2
      try clear c3
      try clear c3b0
      try clear c3b1
      try clear p3
      try clear q3
      try clear hx3
      try clear qi3
      try clear c4
      try clear c5
      try clear c5b0
      try clear c5b1
      try clear c6
      try clear c6b0
      try clear c8
      try clear c8b0
      try clear c9
      try clear c9b0
      try clear c9b1
      try clear c9b2
      try clear c10
      try clear c10b0
      try clear c10b1
      try clear c11
      try clear hx319_0
      try clear hx320_0
      try clear p2
      try clear p3
      try clear p319
      try clear p320
      try clear q3
      try clear q319
      try clear q320
      obtain ⟨x5_4, rfl, HA, HK4, ⟨m4, rfl⟩⟩ := hrel
      cases gk with
      | zero => exact absurd HA.out (by simp [rr_Table.l1])
      | succ k4 =>
       have H := HA.out
       clear HA
       simp only [rr_Table.l1] at H
       by_cases c12 : x5_4 < ((rd_L1 l0 0).length : Int)
       rotate_left
       ·rw [if_neg c12] at H
        have c12b0 : decide (x5_4 < ((rd_L1 l0 0).length : Int)) = false := decide_eq_false c12
        clear c12
        have H' := a_ H
        clear H
        go_wp2
        repeat (go_quiet (fail); try go_wp2)
        go_roundg k4
        case measure => have := HJ1.out; have := HK2.out; have := HJ6.out; have := HK4.out; omega
        case rel => exact ⟨(wrap64 (x4_2 + 1)), (by first | rfl | (simp; done) | (simp [*]; done)), H', ⟨by have := HJ1.out; have := HK2.out; have := HJ6.out; have := HK4.out; omega⟩, by repeat (first | exact Drawn0.refl _ | apply Drawn0.step)⟩
       rw [if_pos c12] at H
       have c12b0 : decide (x5_4 < ((rd_L1 l0 0).length : Int)) = true := decide_eq_true c12
       clear c12
       have HC13 := a_ H
       clear H
       go_upto_region 12 with (fail)
       repeat (go_quiet (fail); go_upto_region 12 with (fail))
       go_cut [63] (fun v63 wc => ∃ (kq : Nat) (x63_12 : Bool), v63 = .bool x63_12 ∧ Aside0 (rr_Table.j4 kq l0 ((rd_L1 l0 0).length : Int) x4_2 x5_4 x63_12 = some r) ∧ Aside0 (kq ≤ k4) ∧ Drawn0 w wc)
       case first =>
        have H := HC13.out
        clear HC13
        by_cases c14 : 0 ≤ x4_2
        rotate_left
        ·rw [if_neg c14] at H
         exact absurd H (by simp)
        rw [if_pos c14] at H
        have c14b0 : decide (0 ≤ x4_2) = true := decide_eq_true c14
        clear c14
        (first | rw [c14b0] | (simp only [i64_w, i32_w]; rw [c14b0]) | skip)
        by_cases c15 : x4_2 < (l0.length : Int)
        rotate_left
        ·rw [if_neg c15] at H
         exact absurd H (by simp)
        rw [if_pos c15] at H
        have c15b0 : decide (x4_2 < (l0.length : Int)) = true := decide_eq_true c15
        clear c15
        by_cases c16 : 0 ≤ x5_4
        rotate_left
        ·rw [if_neg c16] at H
         exact absurd H (by simp)
        rw [if_pos c16] at H
        have c16b0 : decide (0 ≤ x5_4) = true := decide_eq_true c16
        clear c16
        by_cases c17 : x5_4 < ((rd_L1 l0 x4_2).length : Int)
        rotate_left
        ·rw [if_neg c17] at H
         exact absurd H (by simp)
        rw [if_pos c17] at H
        have c17b0 : decide (x5_4 < ((rd_L1 l0 x4_2).length : Int)) = true := decide_eq_true c17
        clear c17
        by_cases c18 : (rd (rd_L1 l0 x4_2) x5_4) < 0
        ·rw [if_pos c18] at H
         have c18b0 : decide ((rd (rd_L1 l0 x4_2) x5_4) < 0) = true := decide_eq_true c18
         clear c18
         have H' := a_ H
         clear H
         have p321 : 0 ≤ (x4_2 : Int) := of_decide_eq_true (by first | (with_reducible assumption) | assumption)
         have q321 : x4_2 < (l0.length : Int) := of_decide_eq_true (by first | (with_reducible assumption) | assumption)
         obtain ⟨ad321, A321_0, c321_0, e321, hx321_0, hl321_0, hi321_0⟩ := at_L1 HR0.out x4_2 p321 q321
         obtain rfl : ad319 = ad321 := (by injection e321)
         have HR321_0 := a_ hi321_0
         have HC321_0 := a_ hl321_0
         clear hi321_0 hl321_0
         replace p321 := eq_true p321
         replace q321 := eq_true q321
         have p322 : 0 ≤ (x5_4 : Int) := of_decide_eq_true (by first | (with_reducible assumption) | assumption)
         have q322 : x5_4 < ((rd_L1 l0 x4_2).length : Int) := of_decide_eq_true (by first | (with_reducible assumption) | assumption)
         obtain ⟨ad322, e322, hx322_0⟩ := Kd.at_int HR321_0.out x5_4 p322 q322
         cases e322
         replace p322 := eq_true p322
         replace q322 := eq_true q322
         go_wp2
         repeat (go_quiet (fail); try go_wp2)
         go_meet
         case rel => exact ⟨_, (true), (by first | rfl | (simp; done) | (simp [*]; done)), H', ⟨by have := HJ1.out; have := HK2.out; have := HJ6.out; have := HK4.out; first | omega | exact Nat.le_refl _⟩, by repeat (first | exact Drawn0.refl _ | apply Drawn0.step)⟩
        rw [if_neg c18] at H
        have c18b0 : decide ((rd (rd_L1 l0 x4_2) x5_4) < 0) = false := decide_eq_false c18
        clear c18
        have H' := a_ H
        clear H
        have p321 : 0 ≤ (x4_2 : Int) := of_decide_eq_true (by first | (with_reducible assumption) | assumption)
        have q321 : x4_2 < (l0.length : Int) := of_decide_eq_true (by first | (with_reducible assumption) | assumption)
        obtain ⟨ad321, A321_0, c321_0, e321, hx321_0, hl321_0, hi321_0⟩ := at_L1 HR0.out x4_2 p321 q321
        obtain rfl : ad319 = ad321 := (by injection e321)
        have HR321_0 := a_ hi321_0
        have HC321_0 := a_ hl321_0
        clear hi321_0 hl321_0
        replace p321 := eq_true p321
        replace q321 := eq_true q321
        have p322 : 0 ≤ (x5_4 : Int) := of_decide_eq_true (by first | (with_reducible assumption) | assumption)
        have q322 : x5_4 < ((rd_L1 l0 x4_2).length : Int) := of_decide_eq_true (by first | (with_reducible assumption) | assumption)
        obtain ⟨ad322, e322, hx322_0⟩ := Kd.at_int HR321_0.out x5_4 p322 q322
        cases e322
        replace p322 := eq_true p322
        replace q322 := eq_true q322
        have p323 : 0 ≤ (x4_2 : Int) := of_decide_eq_true (by first | (with_reducible assumption) | assumption)
        have q323 : x4_2 < (l0.length : Int) := of_decide_eq_true (by first | (with_reducible assumption) | assumption)
        obtain ⟨ad323, A323_0, c323_0, e323, hx323_0, hl323_0, hi323_0⟩ := at_L1 HR0.out x4_2 p323 q323
        obtain rfl : ad319 = ad323 := (by injection e323)
        have HR323_0 := a_ hi323_0
        have HC323_0 := a_ hl323_0
        clear hi323_0 hl323_0
        replace p323 := eq_true p323
        replace q323 := eq_true q323
        have ea_ := Option.some.inj (hx321_0.symm.trans hx323_0)
        injection ea_ with ea_ en_ ec_
        subst ea_
        subst ec_
        clear en_
        have p324 : 0 ≤ (x5_4 : Int) := of_decide_eq_true (by first | (with_reducible assumption) | assumption)
        have q324 : x5_4 < ((rd_L1 l0 x4_2).length : Int) := of_decide_eq_true (by first | (with_reducible assumption) | assumption)
        obtain ⟨ad324, e324, hx324_0⟩ := Kd.at_int HR323_0.out x5_4 p324 q324
        cases e324
        replace p324 := eq_true p324
        replace q324 := eq_true q324
        go_wp2
        repeat (go_quiet (fail); try go_wp2)
        go_meet
        case rel => exact ⟨_, (decide ((rd (rd_L1 l0 x4_2) x5_4) ≥ ((rd_L1 l0 0).length : Int))), (by first | rfl | (simp; done) | (simp [*]; done)), H', ⟨by have := HJ1.out; have := HK2.out; have := HJ6.out; have := HK4.out; first | omega | exact Nat.le_refl _⟩, by repeat (first | exact Drawn0.refl _ | apply Drawn0.step)⟩
       case rest =>
        clear HC13
        try clear c1
        try clear c2
        try clear p2
        try clear c3
        try clear c3b0
        try clear c3b1
        try clear p3
        try clear q3
        try clear hx3
        try clear qi3
        try clear c4
        try clear c5
        try clear c5b0
        try clear c5b1
        try clear c6
        try clear c6b0
        try clear c8
        try clear c8b0
        try clear c9
        try clear c9b0
        try clear c9b1
        try clear c9b2
        try clear c10
        try clear c10b0
        try clear c10b1
        try clear c11
        try clear c12
        try clear c12b0
        try clear c14
        try clear c14b0
        try clear c15
        try clear c15b0
        try clear c16
        try clear c16b0
        try clear c17
        try clear c17b0
        try clear c18
        try clear c18b0
        try clear hx319_0
        try clear hx320_0
        try clear hx321_0
        try clear hx322_0
        try clear hx323_0
        try clear hx324_0
        try clear p2
        try clear p3
        try clear p319
        try clear p320
        try clear p321
        try clear p322
        try clear p323
        try clear p324
        try clear q3
        try clear q319
        try clear q320
        try clear q321
        try clear q322
        try clear q323
        try clear q324
        obtain ⟨kq, x63_12, rfl, HA, HJ12, ⟨mc12, rfl⟩⟩ := hcut
        cases kq with
        | zero => exact absurd HA.out (by simp [rr_Table.j4])
        | succ kj12 =>
         have H := HA.out
         clear HA
         simp only [rr_Table.j4] at H
         by_cases c19 : x63_12 = true
         ·subst c19
          have H1 := H; rw [if_pos rfl] at H1
          clear H
          have H := H1
          clear H1
          obtain rfl := Option.some.inj H
          go_wp2
          repeat (go_quiet (fail); try go_wp2)
          go_ret
          exact ⟨by first | rfl | (simp; done) | (simp [*]; done), by repeat (first | exact Drawn0.refl _ | apply Drawn0.step)⟩
         replace c19 := Bool.eq_false_iff.mpr c19
         subst c19
         have H1 := H; rw [if_neg (show ¬ (false = true) by decide)] at H1
         clear H
         have H := H1
         clear H1
         have H' := a_ H
         clear H
         go_wp2
         repeat (go_quiet (fail); try go_wp2)
         go_loopg [6] kj12 (fun kq v6 w' => ∃ (x6_6 : Int), v6 = .int .i64 x6_6 ∧ Aside0 (rr_Table.l2 kq l0 ((rd_L1 l0 0).length : Int) x4_2 x5_4 x6_6 = some r) ∧ Aside0 (kq ≤ kj12) ∧ Drawn0 w w')
         case atStart => exact ⟨(0), (by first | rfl | (simp; done) | (simp [*]; done)), H', ⟨Nat.le_refl _⟩, by repeat (first | exact Drawn0.refl _ | apply Drawn0.step)⟩
         clear H'
         try clear c1
         try clear c2
         try clear p2
         try clear c3
         try clear c3b0
         try clear c3b1
         try clear p3
         try clear q3
         try clear hx3
         try clear qi3
         try clear c4
         try clear c5
         try clear c5b0
         try clear c5b1
         try clear c6
         try clear c6b0
         try clear c8
         try clear c8b0
         try clear c9
         try clear c9b0
         try clear c9b1
         try clear c9b2
         try clear c10
         try clear c10b0
         try clear c10b1
         try clear c11
         try clear c12
         try clear c12b0
         try clear c14
         try clear c14b0
         try clear c15
         try clear c15b0
         try clear c16
         try clear c16b0
         try clear c17
         try clear c17b0
         try clear c18
         try clear c18b0
         try clear c19
         try clear hx319_0
         try clear hx320_0
         try clear hx321_0
         try clear hx322_0
         try clear hx323_0
         try clear hx324_0
         try clear p2
         try clear p3
         try clear p319
         try clear p320
         try clear p321
         try clear p322
         try clear p323
         try clear p324
         try clear q3
         try clear q319
         try clear q320
         try clear q321
         try clear q322
         try clear q323
         try clear q324
         obtain ⟨x6_6, rfl, HA, HK6, ⟨m6, rfl⟩⟩ := hrel
         cases gk with
         | zero => exact absurd HA.out (by simp [rr_Table.l2])
         | succ k6 =>
          have H := HA.out
          clear HA
          simp only [rr_Table.l2] at H
          by_cases c20 : x6_6 < x5_4
          rotate_left
          ·rw [if_neg c20] at H
           have c20b0 : decide (x6_6 < x5_4) = false := decide_eq_false c20
           clear c20
           have H' := a_ H
           clear H
           go_wp2
           repeat (go_quiet (fail); try go_wp2)
           go_roundg k6
           case measure => have := HJ1.out; have := HK2.out; have := HJ6.out; have := HK4.out; have := HJ12.out; have := HK6.out; omega
           case rel => exact ⟨(wrap64 (x5_4 + 1)), (by first | rfl | (simp; done) | (simp [*]; done)), H', ⟨by have := HJ1.out; have := HK2.out; have := HJ6.out; have := HK4.out; have := HJ12.out; have := HK6.out; omega⟩, by repeat (first | exact Drawn0.refl _ | apply Drawn0.step)⟩
          rw [if_pos c20] at H
          have c20b0 : decide (x6_6 < x5_4) = true := decide_eq_true c20
          clear c20
          by_cases c21 : 0 ≤ x4_2
          rotate_left
          ·rw [if_neg c21] at H
           exact absurd H (by simp)
          rw [if_pos c21] at H
          have c21b0 : decide (0 ≤ x4_2) = true := decide_eq_true c21
          clear c21
          by_cases c22 : x4_2 < (l0.length : Int)
          rotate_left
          ·rw [if_neg c22] at H
           exact absurd H (by simp)
          rw [if_pos c22] at H
          have c22b0 : decide (x4_2 < (l0.length : Int)) = true := decide_eq_true c22
          clear c22
          by_cases c23 : 0 ≤ x6_6
          rotate_left
          ·rw [if_neg c23] at H
           exact absurd H (by simp)
          rw [if_pos c23] at H
          have c23b0 : decide (0 ≤ x6_6) = true := decide_eq_true c23
          clear c23
          by_cases c24 : x6_6 < ((rd_L1 l0 x4_2).length : Int)
          rotate_left
          ·rw [if_neg c24] at H
           exact absurd H (by simp)
          rw [if_pos c24] at H
          have c24b0 : decide (x6_6 < ((rd_L1 l0 x4_2).length : Int)) = true := decide_eq_true c24
          clear c24
          by_cases c25 : 0 ≤ x5_4
          rotate_left
          ·rw [if_neg c25] at H
           exact absurd H (by simp)
          rw [if_pos c25] at H
          have c25b0 : decide (0 ≤ x5_4) = true := decide_eq_true c25
          clear c25
          by_cases c26 : x5_4 < ((rd_L1 l0 x4_2).length : Int)
          rotate_left
          ·rw [if_neg c26] at H
           exact absurd H (by simp)
          rw [if_pos c26] at H
          have c26b0 : decide (x5_4 < ((rd_L1 l0 x4_2).length : Int)) = true := decide_eq_true c26
          clear c26
          by_cases c27 : (rd (rd_L1 l0 x4_2) x6_6) = (rd (rd_L1 l0 x4_2) x5_4)
          ·rw [if_pos c27] at H
           have c27b0 : ((rd (rd_L1 l0 x4_2) x6_6) == (rd (rd_L1 l0 x4_2) x5_4)) = true := beq_iff_eq.mpr c27
           have c27b1 : ((rd (rd_L1 l0 x4_2) x6_6) != (rd (rd_L1 l0 x4_2) x5_4)) = false := bne_eq_false_iff_eq.mpr c27
           clear c27
           obtain rfl := Option.some.inj H
           have p325 : 0 ≤ (x4_2 : Int) := of_decide_eq_true (by first | (with_reducible assumption) | assumption)
           have q325 : x4_2 < (l0.length : Int) := of_decide_eq_true (by first | (with_reducible assumption) | assumption)
           obtain ⟨ad325, A325_0, c325_0, e325, hx325_0, hl325_0, hi325_0⟩ := at_L1 HR0.out x4_2 p325 q325
           obtain rfl : ad319 = ad325 := (by injection e325)
           have HR325_0 := a_ hi325_0
           have HC325_0 := a_ hl325_0
           clear hi325_0 hl325_0
           replace p325 := eq_true p325
           replace q325 := eq_true q325
           have p326 : 0 ≤ (x6_6 : Int) := of_decide_eq_true (by first | (with_reducible assumption) | assumption)
           have q326 : x6_6 < ((rd_L1 l0 x4_2).length : Int) := of_decide_eq_true (by first | (with_reducible assumption) | assumption)
           obtain ⟨ad326, e326, hx326_0⟩ := Kd.at_int HR325_0.out x6_6 p326 q326
           cases e326
           replace p326 := eq_true p326
           replace q326 := eq_true q326
           have p327 : 0 ≤ (x4_2 : Int) := of_decide_eq_true (by first | (with_reducible assumption) | assumption)
           have q327 : x4_2 < (l0.length : Int) := of_decide_eq_true (by first | (with_reducible assumption) | assumption)
           obtain ⟨ad327, A327_0, c327_0, e327, hx327_0, hl327_0, hi327_0⟩ := at_L1 HR0.out x4_2 p327 q327
           obtain rfl : ad319 = ad327 := (by injection e327)
           have HR327_0 := a_ hi327_0
           have HC327_0 := a_ hl327_0
           clear hi327_0 hl327_0
           replace p327 := eq_true p327
           replace q327 := eq_true q327
           have ea_ := Option.some.inj (hx325_0.symm.trans hx327_0)
           injection ea_ with ea_ en_ ec_
           subst ea_
           subst ec_
           clear en_
           have p328 : 0 ≤ (x5_4 : Int) := of_decide_eq_true (by first | (with_reducible assumption) | assumption)
           have q328 : x5_4 < ((rd_L1 l0 x4_2).length : Int) := of_decide_eq_true (by first | (with_reducible assumption) | assumption)
           obtain ⟨ad328, e328, hx328_0⟩ := Kd.at_int HR327_0.out x5_4 p328 q328
           cases e328
           replace p328 := eq_true p328
           replace q328 := eq_true q328
           go_wp2
           repeat (go_quiet (fail); try go_wp2)
           go_ret
           exact ⟨by first | rfl | (simp; done) | (simp [*]; done), by repeat (first | exact Drawn0.refl _ | apply Drawn0.step)⟩
          rw [if_neg c27] at H
          have c27b0 : ((rd (rd_L1 l0 x4_2) x6_6) == (rd (rd_L1 l0 x4_2) x5_4)) = false := beq_eq_false_iff_ne.mpr c27
          have c27b1 : ((rd (rd_L1 l0 x4_2) x6_6) != (rd (rd_L1 l0 x4_2) x5_4)) = true := bne_iff_ne.mpr c27
          have H' := a_ H
          clear H
          have p325 : 0 ≤ (x4_2 : Int) := of_decide_eq_true (by first | (with_reducible assumption) | assumption)
          have q325 : x4_2 < (l0.length : Int) := of_decide_eq_true (by first | (with_reducible assumption) | assumption)
          obtain ⟨ad325, A325_0, c325_0, e325, hx325_0, hl325_0, hi325_0⟩ := at_L1 HR0.out x4_2 p325 q325
          obtain rfl : ad319 = ad325 := (by injection e325)
          have HR325_0 := a_ hi325_0
          have HC325_0 := a_ hl325_0
          clear hi325_0 hl325_0
          replace p325 := eq_true p325
          replace q325 := eq_true q325
          have p326 : 0 ≤ (x6_6 : Int) := of_decide_eq_true (by first | (with_reducible assumption) | assumption)
          have q326 : x6_6 < ((rd_L1 l0 x4_2).length : Int) := of_decide_eq_true (by first | (with_reducible assumption) | assumption)
          obtain ⟨ad326, e326, hx326_0⟩ := Kd.at_int HR325_0.out x6_6 p326 q326
          cases e326
          replace p326 := eq_true p326
          replace q326 := eq_true q326
          have p327 : 0 ≤ (x4_2 : Int) := of_decide_eq_true (by first | (with_reducible assumption) | assumption)
          have q327 : x4_2 < (l0.length : Int) := of_decide_eq_true (by first | (with_reducible assumption) | assumption)
          obtain ⟨ad327, A327_0, c327_0, e327, hx327_0, hl327_0, hi327_0⟩ := at_L1 HR0.out x4_2 p327 q327
          obtain rfl : ad319 = ad327 := (by injection e327)
          have HR327_0 := a_ hi327_0
          have HC327_0 := a_ hl327_0
          clear hi327_0 hl327_0
          replace p327 := eq_true p327
          replace q327 := eq_true q327
          have ea_ := Option.some.inj (hx325_0.symm.trans hx327_0)
          injection ea_ with ea_ en_ ec_
          subst ea_
          subst ec_
          clear en_
          have p328 : 0 ≤ (x5_4 : Int) := of_decide_eq_true (by first | (with_reducible assumption) | assumption)
          have q328 : x5_4 < ((rd_L1 l0 x4_2).length : Int) := of_decide_eq_true (by first | (with_reducible assumption) | assumption)
          obtain ⟨ad328, e328, hx328_0⟩ := Kd.at_int HR327_0.out x5_4 p328 q328
          cases e328
          replace p328 := eq_true p328
          replace q328 := eq_true q328
          go_wp2
          repeat (go_quiet (fail); try go_wp2)
          go_roundg k6
          case measure => have := HJ1.out; have := HK2.out; have := HJ6.out; have := HK4.out; have := HJ12.out; have := HK6.out; omega
          case rel => exact ⟨(wrap64 (x6_6 + 1)), (by first | rfl | (simp; done) | (simp [*]; done)), H', ⟨by have := HJ1.out; have := HK2.out; have := HJ6.out; have := HK4.out; have := HJ12.out; have := HK6.out; omega⟩, by repeat (first | exact Drawn0.refl _ | apply Drawn0.step)⟩
def rl_table.l0 : Nat → List (List Int) → List (List Int) → Int → Option ((List (List Int)))
 | 0, _, _, _ => none
 | k + 1, x0, x3, x4 => if x4 < (x0.length : Int) then (if x4 < 3 then (if 0 ≤ x4 then (if 0 ≤ (mn ((rd_L1 x0 x4).length : Int) 6) then (if (mn ((rd_L1 x0 x4).length : Int) 6) ≤ ((rd_L1 x0 x4).length : Int) then (if ([] : List Int).length + ((rd_L1 x0 x4).take ((mn ((rd_L1 x0 x4).length : Int) 6) : Int).toNat).length < 17592186044416 then (if x3.length < 5864062014805 then (rl_table.l0 k x0 (x3 ++ [(([] : List Int) ++ ((rd_L1 x0 x4).take ((mn ((rd_L1 x0 x4).length : Int) 6) : Int).toNat))]) (wrap64 (x4 + 1))) else (none)) else (none)) else (none)) else (none)) else (none)) else (some x3)) else (some x3)
def rl_table.f (k : Nat) (l0 : List (List Int)) : Option ((List (List Int))) := rl_table.l0 k l0 ([] : List (List Int)) 0
def rl_table.T6 : Bool × List (List Nat × List Nat) := (true, [([], []), ([], []), ([], []), ([], []), ([2, 3], [2, 3]), ([4], [4]), ([], []), ([], []), ([6, 7], [6, 7]), ([8], [8]), ([9], [9]), ([10], [10]), ([5, 11], [5, 11]), ([1, 12], [1, 12]), ([13], [13]), ([0, 14, 13], [0, 14]), ([15, 15, 0, 1, 2, 3, 4, 5, 6, 7, 8, 9, 10, 11, 12, 13, 14, 15], [0, 15])])
def rl_table.B6 : List Nat := [0, 0, 0, 0, 12, 28, 0, 0, 192, 448, 960, 1984, 4092, 8190, 16382, 32767, 65535]
theorem rl_table.tab6 : rtab .any (opsOf Try.f27 6) = rl_table.T6 := by kernel_rfl
theorem rl_table.bits6 : waitsOk rl_table.T6.2 rl_table.B6 = true := by kernel_rfl
theorem rl_table.calls (k : Nat) (A0 : Option Addr) (c0 : Nat) (l0 : List (List Int)) (r : List (List Int)) (w : World) (hr0 : Kd.C (Kd.slice 3 (Kd.int .i64)) w A0 l0.length l0) (hc0 : l0.length ≤ c0) (h : rl_table.f k l0 = some r) :
  Calls Try.prog 27 #[.slice A0 l0.length c0] w fun e w' => ∃ v0_ : Value, e = .returned (v0_) ∧ Kd.S (Kd.slice 3 (Kd.int .i64)) 22 w' w.heap.size (fun _ => True) v0_ r ∧ Below w.heap.size w w' := by
 have HR0 := a_ hr0
 have HC0 := a_ hc0
 clear hr0 hc0
 have HB := a_ (Below.refl w.heap.size w)
 have H : (rl_table.l0 k l0 ([] : List (List Int)) 0) = some r := h
 clear h
 have H' := a_ H
 clear H
 go_enter Try.func27, Try.ntmps27
 go_wp2
 go_loopg [3, 4] k (fun kq v3 v4 w' => ∃ (x3_1 : List (List Int)) (x4_1 : Int), v4 = .int .i64 x4_1 ∧ Aside0 (rl_table.l0 kq l0 x3_1 x4_1 = some r) ∧ Aside0 (kq ≤ k) ∧ Aside0 (Kd.S (Kd.slice 3 (Kd.int .i64)) 22 w' w.heap.size (fun _ => True) v3 x3_1) ∧ Aside0 (Below w.heap.size w w'))
 case atStart => exact ⟨(([] : List (List Int))), (0), (by first | rfl | (simp; done) | (simp [*]; done)), H', ⟨Nat.le_refl _⟩, ⟨by first | exact Kd.S_nil _ _ _ _ _ | exact Kd.N_nil _ _ _ _ _ | exact Kd.V_nil _ _ _ _ _ | exact Kd.Q_nil _ _ _ _ _ | exact Kd.R_nil _ _ _ _ _⟩, ⟨by exact gs HB.out⟩⟩
 clear H'
 obtain ⟨x3_1, x4_1, rfl, HA, HK1, HO_3, HB⟩ := hrel
 cases gk with
 | zero => exact absurd HA.out (by simp [rl_table.l0])
 | succ k1 =>
  have H := HA.out
  clear HA
  simp only [rl_table.l0] at H
  by_cases c2 : x4_1 < (l0.length : Int)
  rotate_left
  ·rw [if_neg c2] at H
   have c2b0 : decide (x4_1 < (l0.length : Int)) = false := decide_eq_false c2
   clear c2
   obtain rfl := Option.some.inj H
   go_wp2
   go_ret
   exact ⟨_, by first | rfl | (simp [errW_none, errW_some] <;> rfl) | (simp [*, errW_none, errW_some] <;> rfl), by (with_reducible repeat (first | apply Kd.S_alloc | apply Kd.S_drewN | apply Kd.S_drew)); exact HO_3.out, by exact gs HB.out⟩
  rw [if_pos c2] at H
  have c2b0 : decide (x4_1 < (l0.length : Int)) = true := decide_eq_true c2
  clear c2
  by_cases c3 : x4_1 < 3
  rotate_left
  ·rw [if_neg c3] at H
   have c3b0 : decide (x4_1 < 3) = false := decide_eq_false c3
   clear c3
   obtain rfl := Option.some.inj H
   go_wp2
   go_ret
   exact ⟨_, by first | rfl | (simp [errW_none, errW_some] <;> rfl) | (simp [*, errW_none, errW_some] <;> rfl), by (with_reducible repeat (first | apply Kd.S_alloc | apply Kd.S_drewN | apply Kd.S_drew)); exact HO_3.out, by exact gs HB.out⟩
  rw [if_pos c3] at H
  have c3b0 : decide (x4_1 < 3) = true := decide_eq_true c3
  clear c3
  by_cases c4 : 0 ≤ x4_1
  rotate_left
  ·rw [if_neg c4] at H
   exact absurd H (by simp)
  rw [if_pos c4] at H
  have c4b0 : decide (0 ≤ x4_1) = true := decide_eq_true c4
  clear c4
  obtain ⟨ji5, hji5⟩ : ∃ j_ : Int, (mn ((rd_L1 l0 x4_1).length : Int) 6) = j_ := ⟨_, rfl⟩
  replace H : (if 0 ≤ (ji5) then (if (ji5) ≤ ((rd_L1 l0 x4_1).length : Int) then (if ([] : List Int).length + ((rd_L1 l0 x4_1).take ((ji5) : Int).toNat).length < 17592186044416 then (if x3_1.length < 5864062014805 then (rl_table.l0 k1 l0 (x3_1 ++ [(([] : List Int) ++ ((rd_L1 l0 x4_1).take ((ji5) : Int).toNat))]) (wrap64 (x4_1 + 1))) else (none)) else (none)) else (none)) else (none)) = some r := by first | (rw [hji5] at H; exact H) | (simp only [hji5] at H ⊢; exact H)
  have hji5_ : (if 6 < ((rd_L1 l0 x4_1).length : Int) then 6 else ((rd_L1 l0 x4_1).length : Int)) = ji5 := hji5
  by_cases c6 : 0 ≤ (ji5)
  rotate_left
  ·rw [if_neg c6] at H
   exact absurd H (by simp)
  rw [if_pos c6] at H
  have c6b0 := eq_true c6
  have c6b1 : decide (0 ≤ (ji5)) = true := decide_eq_true c6
  clear c6
  by_cases c7 : (ji5) ≤ ((rd_L1 l0 x4_1).length : Int)
  rotate_left
  ·rw [if_neg c7] at H
   exact absurd H (by simp)
  rw [if_pos c7] at H
  have c7b0 := eq_true c7
  have c7b1 : decide ((ji5) ≤ ((rd_L1 l0 x4_1).length : Int)) = true := decide_eq_true c7
  clear c7
  by_cases c8 : ([] : List Int).length + ((rd_L1 l0 x4_1).take ((ji5) : Int).toNat).length < 17592186044416
  rotate_left
  ·rw [if_neg c8] at H
   exact absurd H (by simp)
  rw [if_pos c8] at H
  have LMc8 := a_ c8
  clear c8
  obtain ⟨y496, hy496⟩ : ∃ y_ : List Int, y_ = (([] : List Int) ++ ((rd_L1 l0 x4_1).take ((ji5) : Int).toNat)) := ⟨_, rfl⟩
  replace H : (if x3_1.length < 5864062014805 then (rl_table.l0 k1 l0 (x3_1 ++ [y496]) (wrap64 (x4_1 + 1))) else (none)) = some r := by first | (rw [hy496]; with_reducible exact H) | (have H2_ := (Option.bind_some _ _).symm.trans H; rw [hy496]; with_reducible exact H2_) | (have H2_ := (Option.bind_some _ _).symm.trans H; with_reducible exact H2_) | with_reducible exact H | (rw [hy496]; exact H) | exact H
  have Ny496 := a_ hy496
  clear hy496
  by_cases c9 : x3_1.length < 5864062014805
  rotate_left
  ·rw [if_neg c9] at H
   exact absurd H (by simp)
  rw [if_pos c9] at H
  have LMc9 := a_ c9
  clear c9
  obtain ⟨y499, hy499⟩ : ∃ y_ : List (List Int), y_ = (x3_1 ++ [y496]) := ⟨_, rfl⟩
  replace H : (rl_table.l0 k1 l0 y499 (wrap64 (x4_1 + 1))) = some r := by first | (rw [hy499]; with_reducible exact H) | (have H2_ := (Option.bind_some _ _).symm.trans H; rw [hy499]; with_reducible exact H2_) | (have H2_ := (Option.bind_some _ _).symm.trans H; with_reducible exact H2_) | with_reducible exact H | (rw [hy499]; exact H) | exact H
  have Ny499 := a_ hy499
  clear hy499
  have H' := a_ H
  clear H
  try go_wp2
  replace HO_3 := a_ (Kd.S_drew HO_3.out)
  replace HB := a_ (b1_ HB.out)
  have p493 : 0 ≤ (x4_1 : Int) := of_decide_eq_true (by first | (with_reducible assumption) | assumption)
  have q493 : x4_1 < (l0.length : Int) := of_decide_eq_true (by first | (with_reducible assumption) | assumption)
  obtain ⟨ad493, A493_0, c493_0, e493, hx493_0, hl493_0, hi493_0⟩ := at_L1 HR0.out x4_1 p493 q493
  have hw493_0 := hx493_0
  cases e493
  replace hx493_0 := (HB.out.cell (World.block_lt_of_cell? w _ hx493_0)).trans hx493_0
  have HR493_0 := a_ hi493_0
  have HC493_0 := a_ hl493_0
  clear hi493_0 hl493_0
  replace p493 := eq_true p493
  replace q493 := eq_true q493
  have p494 : 0 ≤ (x4_1 : Int) := of_decide_eq_true (by first | (with_reducible assumption) | assumption)
  have q494 : x4_1 < (l0.length : Int) := of_decide_eq_true (by first | (with_reducible assumption) | assumption)
  obtain ⟨ad494, A494_0, c494_0, e494, hx494_0, hl494_0, hi494_0⟩ := at_L1 HR0.out x4_1 p494 q494
  have hw494_0 := hx494_0
  obtain rfl : ad493 = ad494 := (by injection e494)
  replace hx494_0 := (HB.out.cell (World.block_lt_of_cell? w _ hx494_0)).trans hx494_0
  have HR494_0 := a_ hi494_0
  have HC494_0 := a_ hl494_0
  clear hi494_0 hl494_0
  replace p494 := eq_true p494
  replace q494 := eq_true q494
  have ea_ := Option.some.inj (hx493_0.symm.trans hx494_0)
  injection ea_ with ea_ en_ ec_
  subst ea_
  subst ec_
  clear en_
  obtain ⟨i011, hi011, _, hsz11, _⟩ := info_parts info3
  obtain ⟨hcut11, hA11, hC11⟩ := print_take_of (P := Try.prog) (Value.int .i64) 0 22 3 .i64 Try.underlying22 hi011 hsz11 A493_0 c493_0 (rd_L1 l0 x4_1) (ji5) (of_decide_eq_true (by first | (with_reducible assumption) | assumption)) (of_decide_eq_true (by first | (with_reducible assumption) | assumption)) HC493_0.out
  have HR495 := a_ (Kd.C_of_reads (h1 := fun _ => rfl) (hA11 _ (Kd.reads_of_C HR493_0.out)))
  have HC495 := a_ hC11
  clear hA11 hC11 hi011 hsz11
  refine start_ (n := 17) (S := fun w' => w'.cell? (ad493.add (x4_1).toNat) = some (.slice A493_0 (rd_L1 l0 x4_1).length c493_0) ∧ w'.cell? (ad493.add (x4_1).toNat) = some (.slice A493_0 (rd_L1 l0 x4_1).length c493_0)) (ds := []) #[false, false, false, false, false, false, false, false, false, false, false, false, false, false, false, false, false] (by kernel_rfl) rfl rfl ⟨((HB.out.cell (World.block_lt_of_cell? w _ hw493_0)).trans hw493_0), ((HB.out.cell (World.block_lt_of_cell? w _ hw494_0)).trans hw494_0)⟩ (fun hHeld => ?_); refine with_tabW rl_table.tab6 rl_table.bits6 (fun HT_ HW_ => ?_)
  generalize wr.drew = w10 at HO_3 HB HR493_0 HR494_0 HR495 hx493_0 hx494_0 hHeld ⊢
  refine pure_ (i := 0) (N := some 16) (v := ?_) (a' := ?_) #[true, false, false, false, false, false, false, false, false, false, false, false, false, false, false, false, false] rfl rfl (any_of HT_.out (by kernel_rfl)) (fun _ _ _ h => h) (Or.inl ⟨by rfl, ?_⟩) ?_ ?_
  rotate_left
  ·intro w'
   go_simp
   with_reducible rfl
  rotate_left
  ·simp only [Act.put, List.setIfInBounds_toArray, List.set_cons_zero, List.set_cons_succ, i64_w, i32_w]
   rfl
  refine pure_ (i := 1) (N := some 17) (v := ?_) (a' := ?_) #[true, true, false, false, false, false, false, false, false, false, false, false, false, false, false, false, false] rfl rfl (any_of HT_.out (by kernel_rfl)) (fun _ _ _ h => h) (Or.inl ⟨by rfl, ?_⟩) ?_ ?_
  rotate_left
  ·intro w'
   go_simp
   with_reducible rfl
  rotate_left
  ·simp only [Act.put, List.setIfInBounds_toArray, List.set_cons_zero, List.set_cons_succ, i64_w, i32_w]
   rfl
  refine pure_ (i := 2) (N := some 18) (v := ?_) (a' := ?_) #[true, true, true, false, false, false, false, false, false, false, false, false, false, false, false, false, false] rfl rfl (any_of HT_.out (by kernel_rfl)) (fun _ _ _ h => h) (Or.inl ⟨by rfl, ?_⟩) ?_ ?_
  rotate_left
  ·intro w'
   go_simp
   with_reducible rfl
  rotate_left
  ·simp only [Act.put, List.setIfInBounds_toArray, List.set_cons_zero, List.set_cons_succ, i64_w, i32_w]
   rfl
  refine pure_ (i := 3) (N := some 19) (v := ?_) (a' := ?_) #[true, true, true, true, false, false, false, false, false, false, false, false, false, false, false, false, false] rfl rfl (any_of HT_.out (by kernel_rfl)) (fun _ _ _ h => h) (Or.inl ⟨by rfl, ?_⟩) ?_ ?_
  rotate_left
  ·intro w'
   go_simp
   with_reducible rfl
  rotate_left
  ·simp only [Act.put, List.setIfInBounds_toArray, List.set_cons_zero, List.set_cons_succ, i64_w, i32_w]
   rfl
  refine pure_ (i := 4) (N := some 20) (v := ?_) (a' := ?_) #[true, true, true, true, true, false, false, false, false, false, false, false, false, false, false, false, false] rfl rfl (any_of HT_.out (by kernel_rfl)) (fun _ _ _ h => h) (Or.inl ⟨by rfl, ?_⟩) ?_ ?_
  rotate_left
  ·intro w'
   go_simp
   with_reducible rfl
  rotate_left
  ·simp only [Act.put, List.setIfInBounds_toArray, List.set_cons_zero, List.set_cons_succ, i64_w, i32_w]
   rfl
  refine pure_ (i := 6) (N := some 22) (v := ?_) (a' := ?_) #[true, true, true, true, true, false, true, false, false, false, false, false, false, false, false, false, false] rfl rfl (any_of HT_.out (by kernel_rfl)) (fun _ _ _ h => h) (Or.inl ⟨by rfl, ?_⟩) ?_ ?_
  rotate_left
  ·intro w'
   go_simp
   with_reducible rfl
  rotate_left
  ·simp only [Act.put, List.setIfInBounds_toArray, List.set_cons_zero, List.set_cons_succ, i64_w, i32_w]
   rfl
  refine pure_ (i := 7) (N := some 23) (v := ?_) (a' := ?_) #[true, true, true, true, true, false, true, true, false, false, false, false, false, false, false, false, false] rfl rfl (any_of HT_.out (by kernel_rfl)) (fun _ _ _ h => h) (Or.inl ⟨by rfl, ?_⟩) ?_ ?_
  rotate_left
  ·intro w'
   go_simp
   with_reducible rfl
  rotate_left
  ·simp only [Act.put, List.setIfInBounds_toArray, List.set_cons_zero, List.set_cons_succ, i64_w, i32_w]
   rfl
  refine pure_ (i := 8) (N := some 24) (v := ?_) (a' := ?_) #[true, true, true, true, true, false, true, true, true, false, false, false, false, false, false, false, false] rfl rfl (any_of HT_.out (by kernel_rfl)) (fun _ _ _ h => h) (Or.inl ⟨by rfl, ?_⟩) ?_ ?_
  rotate_left
  ·intro w'
   go_simp
   with_reducible rfl
  rotate_left
  ·simp only [Act.put, List.setIfInBounds_toArray, List.set_cons_zero, List.set_cons_succ, i64_w, i32_w]
   rfl
  refine take_ (i := 5) (N := some 21) (v := ?_) (a' := ?_) #[true, true, true, true, true, true, true, true, true, false, false, false, false, false, false, false, false] rfl rfl (take_ofW HT_.out HW_.out (by kernel_rfl)) (fun _ _ _ h => h) (Or.inl ⟨by rfl, ?_⟩) hHeld ?_ ?_
  rotate_left
  ·rintro w' ⟨s0, s1⟩
   go_simp
   with_reducible rfl
  rotate_left
  ·simp only [Act.put, List.setIfInBounds_toArray, List.set_cons_zero, List.set_cons_succ, i64_w, i32_w]
   rfl
  refine take_ (i := 9) (N := some 25) (v := ?_) (a' := ?_) #[true, true, true, true, true, true, true, true, true, true, false, false, false, false, false, false, false] rfl rfl (take_ofW HT_.out HW_.out (by kernel_rfl)) (fun _ _ _ h => h) (Or.inl ⟨by rfl, ?_⟩) hHeld ?_ ?_
  rotate_left
  ·rintro w' ⟨s0, s1⟩
   go_simp
   with_reducible rfl
  rotate_left
  ·simp only [Act.put, List.setIfInBounds_toArray, List.set_cons_zero, List.set_cons_succ, i64_w, i32_w]
   rfl
  refine pure_ (i := 10) (N := some 26) (v := ?_) (a' := ?_) #[true, true, true, true, true, true, true, true, true, true, true, false, false, false, false, false, false] rfl rfl (any_of HT_.out (by kernel_rfl)) (fun _ _ _ h => h) (Or.inl ⟨by rfl, ?_⟩) ?_ ?_
  rotate_left
  ·intro w'
   go_simp
   with_reducible rfl
  rotate_left
  ·simp only [Act.put, List.setIfInBounds_toArray, List.set_cons_zero, List.set_cons_succ, i64_w, i32_w]
   rfl
  refine pure_ (i := 11) (N := some 27) (v := ?_) (a' := ?_) #[true, true, true, true, true, true, true, true, true, true, true, true, false, false, false, false, false] rfl rfl (any_of HT_.out (by kernel_rfl)) (fun _ _ _ h => h) (Or.inl ⟨by rfl, ?_⟩) ?_ ?_
  rotate_left
  ·intro w'
   go_simp
   with_reducible rfl
  rotate_left
  ·simp only [Act.put, List.setIfInBounds_toArray, List.set_cons_zero, List.set_cons_succ, i64_w, i32_w]
   rfl
  refine pure_ (i := 12) (N := some 28) (v := ?_) (a' := ?_) #[true, true, true, true, true, true, true, true, true, true, true, true, true, false, false, false, false] rfl rfl (any_of HT_.out (by kernel_rfl)) (fun _ _ _ h => h) (Or.inl ⟨by rfl, ?_⟩) ?_ ?_
  rotate_left
  ·intro w'
   go_simp
   with_reducible rfl
  rotate_left
  ·simp only [Act.put, List.setIfInBounds_toArray, List.set_cons_zero, List.set_cons_succ, i64_w, i32_w]
   rfl
  refine one_ (i := 13) (N := some 29) #[true, true, true, true, true, true, true, true, true, true, true, true, true, true, false, false, false] rfl rfl (one_of HT_.out (by kernel_rfl)) (by decide) (fun K hK => ?_)
  refine Kd.R_append_rows_step (Kd.int .i64) (w0 := w) w.heap.size (by rfl) (.tmp 17) (.tmp 28) 22 3 (.int .i64 0) 8 rfl Try.underlying22 info3 rfl (by decide) (by omega) (.slice none 0 0) ([] : List Int) ((rd_L1 l0 x4_1).take ((ji5) : Int).toNat) _ _ _ (fun _ => True) (fun _ => False) rfl rfl ?aO ?aR (fun _ _ h => h) (fun _ h => h.elim) ?aF ?aB ?aS ?aL ?_
  (case aR => first | (have hs_ : ((rd_L1 l0 x4_1).take ((ji5) : Int).toNat).length = (ji5).toNat := (by rw [List.length_take]; have h_ : ((ji5) : Int) ≤ ((rd_L1 l0 x4_1).length : Int) := of_decide_eq_true (by first | (with_reducible assumption) | assumption); omega); (refine Eq.mp (congrArg (fun m_ => ReadsRow _ _ _ _ m_ _) hs_) ?_); repeat (first | exact (Kd.C_below HR495.out HB.out) | (with_reducible refine Kd.C_alloc ?_ _) | (with_reducible refine Kd.C_drewN ?_ _) | (with_reducible refine Kd.C_drew ?_)); done) | (repeat (first | exact (Kd.C_below HR495.out HB.out) | (with_reducible refine Kd.C_alloc ?_ _) | (with_reducible refine Kd.C_drewN ?_ _) | (with_reducible refine Kd.C_drew ?_))))
  (case aB => exact (gr HB.out))
  (case aF => exact (fun _ _ => trivial))
  (case aO => exact ((Kd.R_nil _ _ _ _ (fun _ => True))))
  (case aS => exact (bZ_ (gr HB.out)))
  (case aL => have := LMc8.out; have hlx_ := (show ((rd_L1 l0 x4_1).take ((ji5) : Int).toNat).length = (ji5).toNat from (by rw [List.length_take]; have h_ : ((ji5) : Int) ≤ ((rd_L1 l0 x4_1).length : Int) := of_decide_eq_true (by first | (with_reducible assumption) | assumption); omega)); omega)
  intro v497 w12 ho hb hg hat
  rw [← Ny496.out] at ho
  have HO498 := a_ (ho)
  replace HO_3 := a_ (Kd.S_after (Kd.S_apart_nil (by (with_reducible repeat (first | apply Kd.S_alloc | apply Kd.S_drewN | apply Kd.S_drew)); exact HO_3.out)) hg hat)
  replace HB := a_ (hb)
  clear ho hb hg hat
  obtain ⟨Ao14, co14, eo14⟩ := Kd.R_slice HO498.out
  (first | subst eo14 | (injection eo14 with f1_ f2_ f3_; have f4_ := f1_.symm; have f5_ := f3_.symm; clear f1_ f2_ f3_; subst f4_; subst f5_))
  refine hK.out _ _ ⟨((HB.out.cell (World.block_lt_of_cell? w _ hw493_0)).trans hw493_0), ((HB.out.cell (World.block_lt_of_cell? w _ hw494_0)).trans hw494_0)⟩ (fun hHeld => ?_)
  clear hK K
  refine norm_ (a' := ?_) ?_ ?_
  rotate_left
  ·show Act.put _ (some 29) _ = _
   simp only [Act.put, List.setIfInBounds_toArray, List.set_cons_zero, List.set_cons_succ, i64_w, i32_w]
   rfl
  refine one_ (i := 14) (N := some 30) #[true, true, true, true, true, true, true, true, true, true, true, true, true, true, true, false, false] rfl rfl (one_of HT_.out (by kernel_rfl)) (by decide) (fun K hK => ?_)
  refine value_ (w1 := ?_) (v := ?_) (by rfl) rfl ?_ ?_
  rotate_left 2
  ·go_simp
   constructor
   ·rfl
   ·rfl
  refine hK.out _ _ ⟨(World.cell?_alloc_lt _ _ _ (World.block_lt_of_cell? _ _ (((HB.out.cell (World.block_lt_of_cell? w _ hw493_0)).trans hw493_0)))).trans (((HB.out.cell (World.block_lt_of_cell? w _ hw493_0)).trans hw493_0)), (World.cell?_alloc_lt _ _ _ (World.block_lt_of_cell? _ _ (((HB.out.cell (World.block_lt_of_cell? w _ hw494_0)).trans hw494_0)))).trans (((HB.out.cell (World.block_lt_of_cell? w _ hw494_0)).trans hw494_0))⟩ (fun hHeld => ?_)
  clear hK K
  refine norm_ (a' := ?_) ?_ ?_
  rotate_left
  ·show Act.put _ (some 30) _ = _
   simp only [Act.put, List.setIfInBounds_toArray, List.set_cons_zero, List.set_cons_succ, i64_w, i32_w]
   rfl
  refine one_ (i := 15) (N := some 31) #[true, true, true, true, true, true, true, true, true, true, true, true, true, true, true, true, false] rfl rfl (one_of HT_.out (by kernel_rfl)) (by decide) (fun K hK => ?_)
  refine Kd.S_append_step (Kd.slice 3 (Kd.int .i64)) (w0 := w) w.heap.size (by rfl) (.tmp 16) (.tmp 30) 23 22 (.slice none 0 0) 24 rfl Try.underlying23 info22 rfl (by decide) (by omega) u3 x3_1 y496 [.slice Ao14 y496.length co14] (fun _ => True) (fun k_ => some k_ = (.slice Ao14 y496.length co14 : Value).ownBlock) rfl rfl ?aP (fun k_ hk_ => ((Kd.R_mono (ok' := fun k_ => ((fun _ => True)) k_ ∧ some k_ ≠ (u3 : Value).ownBlock) (Kd.R_apart' (HO498.out) (Kd.S_typed HO_3.out) (by decide)) (fun k_ hk => ⟨trivial, hk.2⟩))).1 k_ hk_.symm) ?aF ?aO ?aB ?aS ?aL ?_
  (case aP => exact Kd.M_row (Kd.R_mono (Kd.R_tight rfl (Kd.R_mono (ok' := fun k_ => ((fun _ => True)) k_ ∧ some k_ ≠ (u3 : Value).ownBlock) (Kd.R_apart' (HO498.out) (Kd.S_typed HO_3.out) (by decide)) (fun k_ hk => ⟨trivial, hk.2⟩))) (fun _ h_ => h_)))
  (case aB => exact (gr HB.out))
  (case aF => exact (fun _ _ => trivial))
  (case aO => exact (by (with_reducible repeat (first | apply Kd.S_alloc | apply Kd.S_drewN | apply Kd.S_drew)); exact Kd.S_mono HO_3.out (fun k_ hk => ⟨trivial, fun e_ => hk.2 e_⟩)))
  (case aS => exact (bZ_ (gr HB.out)))
  (case aL => have := LMc9.out; omega)
  intro v500 w13 ho hb hg hat
  rw [← Ny499.out] at ho
  have HO501 := a_ (ho)
  replace HB := a_ (hb)
  clear HO_3 HO498
  clear ho hb hg hat
  refine hK.out _ _ ⟨((HB.out.cell (World.block_lt_of_cell? w _ hw493_0)).trans hw493_0), ((HB.out.cell (World.block_lt_of_cell? w _ hw494_0)).trans hw494_0)⟩ (fun hHeld => ?_)
  clear hK K
  refine norm_ (a' := ?_) ?_ ?_
  rotate_left
  ·show Act.put _ (some 31) _ = _
   simp only [Act.put, List.setIfInBounds_toArray, List.set_cons_zero, List.set_cons_succ, i64_w, i32_w]
   rfl
  refine pure_ (i := 16) (N := some 3) (v := ?_) (a' := ?_) #[true, true, true, true, true, true, true, true, true, true, true, true, true, true, true, true, true] rfl rfl (any_of HT_.out (by kernel_rfl)) (fun _ _ _ h => h) (Or.inl ⟨by rfl, ?_⟩) ?_ ?_
  rotate_left
  ·intro w'
   go_simp
   with_reducible rfl
  rotate_left
  ·simp only [Act.put, List.setIfInBounds_toArray, List.set_cons_zero, List.set_cons_succ, i64_w, i32_w]
   rfl
  refine done_ (done_of HT_.out (by kernel_rfl)) ?_
  try go_wp2
  go_roundg k1
  case measure => have := HK1.out; omega
  case rel => exact ⟨(y499), (wrap64 (x4_1 + 1)), (by first | rfl | (simp; done) | (simp [*]; done)), H', ⟨by have := HK1.out; omega⟩, ⟨by (with_reducible repeat (first | apply Kd.S_alloc | apply Kd.S_drewN | apply Kd.S_drew)); exact HO501.out⟩, ⟨by exact gs HB.out⟩⟩
def rr_letter.j0 : Nat → Int → Int → Bool → Option (Int × Bool × Bool)
 | 0, _, _, _ => none
 | k + 1, x0, x1, x7 => if x7 = true then (some ((x0 - 97) % 256, false, true)) else (if x0 = 65 then (some ((x0 - 65) % 256, true, true)) else (if x0 = 66 then (if x1 = 2 then (some ((x0 - 65) % 256, true, true)) else (some (0, false, false))) else (some (0, false, false))))
def rr_letter.f (k : Nat) (a0 : Int) (a1 : Int) : Option (Int × Bool × Bool) := if a0 = 97 then (rr_letter.j0 k a0 a1 true) else (if a0 = 98 then (rr_letter.j0 k a0 a1 (a1 == 2)) else (rr_letter.j0 k a0 a1 false))
theorem rr_letter.calls (k : Nat) (a0 : Int) (a1 : Int) (r1 : Int) (r2 : Bool) (r3 : Bool) (w : World) (h : rr_letter.f k a0 a1 = some (r1, r2, r3)) :
  Calls Try.prog 56 #[.int .u8 a0, .int .i64 a1] w fun e w' => e = .returned (.tuple #[.int .i64 r1, .bool r2, .bool r3]) ∧ Drawn0 w w' := by
 have H : (if a0 = 97 then (rr_letter.j0 k a0 a1 true) else (if a0 = 98 then (rr_letter.j0 k a0 a1 (a1 == 2)) else (rr_letter.j0 k a0 a1 false))) = some (r1, r2, r3) := h
 clear h
 have HC3 := a_ H
 clear H
 go_enter Try.func56, Try.ntmps56
 go_upto_region 1 with (fail)
 go_cut [7] (fun v7 wc => ∃ (kq : Nat) (x7_2 : Bool), v7 = .bool x7_2 ∧ Aside0 (rr_letter.j0 kq a0 a1 x7_2 = some (r1, r2, r3)) ∧ Aside0 (kq ≤ k) ∧ Drawn0 w wc)
 case first =>
  have H := HC3.out
  clear HC3
  by_cases c4 : a0 = 97
  ·rw [if_pos c4] at H
   have c4b0 : (a0 == 97) = true := beq_iff_eq.mpr c4
   have c4b1 : (a0 != 97) = false := bne_eq_false_iff_eq.mpr c4
   clear c4
   (first | rw [c4b0] | (simp only [i64_w, i32_w]; rw [c4b0]) | skip)
   have H' := a_ H
   clear H
   go_wp2
   go_meet
   case rel => exact ⟨_, (true), (by first | rfl | (simp; done) | (simp [*]; done)), H', ⟨by first | omega | exact Nat.le_refl _⟩, by repeat (first | exact Drawn0.refl _ | apply Drawn0.step)⟩
  rw [if_neg c4] at H
  have c4b0 : (a0 == 97) = false := beq_eq_false_iff_ne.mpr c4
  have c4b1 : (a0 != 97) = true := bne_iff_ne.mpr c4
  (first | rw [c4b0] | (simp only [i64_w, i32_w]; rw [c4b0]) | skip)
  by_cases c5 : a0 = 98
  rotate_left
  ·rw [if_neg c5] at H
   have c5b0 : (a0 == 98) = false := beq_eq_false_iff_ne.mpr c5
   have c5b1 : (a0 != 98) = true := bne_iff_ne.mpr c5
   have H' := a_ H
   clear H
   go_wp2
   go_meet
   case rel => exact ⟨_, (false), (by first | rfl | (simp; done) | (simp [*]; done)), H', ⟨by first | omega | exact Nat.le_refl _⟩, by repeat (first | exact Drawn0.refl _ | apply Drawn0.step)⟩
  rw [if_pos c5] at H
  have c5b0 : (a0 == 98) = true := beq_iff_eq.mpr c5
  have c5b1 : (a0 != 98) = false := bne_eq_false_iff_eq.mpr c5
  clear c5
  have H' := a_ H
  clear H
  go_wp2
  go_meet
  case rel => exact ⟨_, ((a1 == 2)), (by first | rfl | (simp; done) | (simp [*]; done)), H', ⟨by first | omega | exact Nat.le_refl _⟩, by repeat (first | exact Drawn0.refl _ | apply Drawn0.step)⟩
 case rest =>
  clear HC3
  try clear p2
  try clear c4
  try clear c4b0
  try clear c4b1
  try clear c5
  try clear c5b0
  try clear c5b1
  obtain ⟨kq, x7_2, rfl, HA, HJ2, ⟨mc2, rfl⟩⟩ := hcut
  cases kq with
  | zero => exact absurd HA.out (by simp [rr_letter.j0])
  | succ kj2 =>
   have H := HA.out
   clear HA
   simp only [rr_letter.j0] at H
   by_cases c6 : x7_2 = true
   ·subst c6
    have H1 := H; rw [if_pos rfl] at H1
    clear H
    have H := H1
    clear H1
    simp only [Option.some.injEq, Prod.mk.injEq] at H
    obtain ⟨rfl, rfl, rfl⟩ := H
    go_wp2
    go_ret3
    exact ⟨by first | rfl | (simp; done) | (simp [*]; done), by repeat (first | exact Drawn0.refl _ | apply Drawn0.step)⟩
   replace c6 := Bool.eq_false_iff.mpr c6
   subst c6
   have H1 := H; rw [if_neg (show ¬ (false = true) by decide)] at H1
   clear H
   have H := H1
   clear H1
   by_cases c7 : a0 = 65
   ·rw [if_pos c7] at H
    have c7b0 : (a0 == 65) = true := beq_iff_eq.mpr c7
    have c7b1 : (a0 != 65) = false := bne_eq_false_iff_eq.mpr c7
    clear c7
    simp only [Option.some.injEq, Prod.mk.injEq] at H
    obtain ⟨rfl, rfl, rfl⟩ := H
    go_wp2
    go_ret3
    exact ⟨by first | rfl | (simp; done) | (simp [*]; done), by repeat (first | exact Drawn0.refl _ | apply Drawn0.step)⟩
   rw [if_neg c7] at H
   have c7b0 : (a0 == 65) = false := beq_eq_false_iff_ne.mpr c7
   have c7b1 : (a0 != 65) = true := bne_iff_ne.mpr c7
   by_cases c8 : a0 = 66
   rotate_left
   ·rw [if_neg c8] at H
    have c8b0 : (a0 == 66) = false := beq_eq_false_iff_ne.mpr c8
    have c8b1 : (a0 != 66) = true := bne_iff_ne.mpr c8
    simp only [Option.some.injEq, Prod.mk.injEq] at H
    obtain ⟨rfl, rfl, rfl⟩ := H
    go_wp2
    go_ret3
    exact ⟨by first | rfl | (simp; done) | (simp [*]; done), by repeat (first | exact Drawn0.refl _ | apply Drawn0.step)⟩
   rw [if_pos c8] at H
   have c8b0 : (a0 == 66) = true := beq_iff_eq.mpr c8
   have c8b1 : (a0 != 66) = false := bne_eq_false_iff_eq.mpr c8
   clear c8
   by_cases c9 : a1 = 2
   rotate_left
   ·rw [if_neg c9] at H
    have c9b0 : (a1 == 2) = false := beq_eq_false_iff_ne.mpr c9
    have c9b1 : (a1 != 2) = true := bne_iff_ne.mpr c9
    simp only [Option.some.injEq, Prod.mk.injEq] at H
    obtain ⟨rfl, rfl, rfl⟩ := H
    go_wp2
    go_ret3
    exact ⟨by first | rfl | (simp; done) | (simp [*]; done), by repeat (first | exact Drawn0.refl _ | apply Drawn0.step)⟩
   rw [if_pos c9] at H
   have c9b0 : (a1 == 2) = true := beq_iff_eq.mpr c9
   have c9b1 : (a1 != 2) = false := bne_eq_false_iff_eq.mpr c9
   clear c9
   simp only [Option.some.injEq, Prod.mk.injEq] at H
   obtain ⟨rfl, rfl, rfl⟩ := H
   go_wp2
   go_ret3
   exact ⟨by first | rfl | (simp; done) | (simp [*]; done), by repeat (first | exact Drawn0.refl _ | apply Drawn0.step)⟩
def rr_step.l0 : Nat → List (List Int) → Int → Int → Int → Option (Int)
 | 0, _, _, _, _ => none
 | k + 1, x0, x1, x7, x10 => if 0 ≤ x7 then (if x7 < (x0.length : Int) then (if 0 ≤ x10 then (if x10 < ((rd_L1 x0 x7).length : Int) then (if (rd (rd_L1 x0 x7) x10) = x1 then (some x10) else (rr_step.l0 k x0 x1 x7 (wrap64 (x10 + 1)))) else (none)) else (none)) else (none)) else (none)
def rr_step.f (k : Nat) (l0 : List (List Int)) (a1 : Int) (a2 : Int) : Option (Int) := (rr_letter.f k a2 2).bind fun bt101 => (if bt101.2.1 = true then (rr_step.l0 k l0 a1 bt101.1 0) else (if 0 ≤ bt101.1 then (if bt101.1 < (l0.length : Int) then (if 0 ≤ a1 then (if a1 < ((rd_L1 l0 bt101.1).length : Int) then (some (rd (rd_L1 l0 bt101.1) a1)) else (none)) else (none)) else (none)) else (none)))
theorem rr_step.calls (k : Nat) (A0 : Option Addr) (c0 : Nat) (l0 : List (List Int)) (a1 : Int) (a2 : Int) (r : Int) (w : World) (hr0 : Kd.C (Kd.slice 3 (Kd.int .i64)) w A0 l0.length l0) (hc0 : l0.length ≤ c0) (h : rr_step.f k l0 a1 a2 = some r) :
  Calls Try.prog 58 #[.slice A0 l0.length c0, .int .i64 a1, .int .u8 a2] w fun e w' => e = .returned (.int .i64 r) ∧ Drawn0 w w' := by
 have HR0 := a_ hr0
 have HC0 := a_ hc0
 clear hr0 hc0
 have H : ((rr_letter.f k a2 2).bind fun bt101 => (if bt101.2.1 = true then (rr_step.l0 k l0 a1 bt101.1 0) else (if 0 ≤ bt101.1 then (if bt101.1 < (l0.length : Int) then (if 0 ≤ a1 then (if a1 < ((rd_L1 l0 bt101.1).length : Int) then (some (rd (rd_L1 l0 bt101.1) a1)) else (none)) else (none)) else (none)) else (none)))) = some r := h
 clear h
 replace H := Option.bind_eq_some_iff.mp H
 obtain ⟨⟨t101, t102, t103⟩, A40, H⟩ := H
 try dsimp only at H
 have A4 := a_ A40
 clear A40
 by_cases c5 : t102 = true
 rotate_left
 ·replace c5 := Bool.eq_false_iff.mpr c5
  subst c5
  have H1 := H; rw [if_neg (show ¬ (false = true) by decide)] at H1
  clear H
  have H := H1
  clear H1
  by_cases c11 : 0 ≤ t101
  rotate_left
  ·rw [if_neg c11] at H
   exact absurd H (by simp)
  rw [if_pos c11] at H
  have c11b0 : decide (0 ≤ t101) = true := decide_eq_true c11
  clear c11
  by_cases c12 : t101 < (l0.length : Int)
  rotate_left
  ·rw [if_neg c12] at H
   exact absurd H (by simp)
  rw [if_pos c12] at H
  have c12b0 : decide (t101 < (l0.length : Int)) = true := decide_eq_true c12
  clear c12
  by_cases c13 : 0 ≤ a1
  rotate_left
  ·rw [if_neg c13] at H
   exact absurd H (by simp)
  rw [if_pos c13] at H
  have c13b0 : decide (0 ≤ a1) = true := decide_eq_true c13
  clear c13
  by_cases c14 : a1 < ((rd_L1 l0 t101).length : Int)
  rotate_left
  ·rw [if_neg c14] at H
   exact absurd H (by simp)
  rw [if_pos c14] at H
  have c14b0 : decide (a1 < ((rd_L1 l0 t101).length : Int)) = true := decide_eq_true c14
  clear c14
  obtain rfl := Option.some.inj H
  go_enter Try.func58, Try.ntmps58
  go_wp2_with (first | ((with_reducible refine gate_callee (f := 56) rfl ?_); refine goesL_ (some 13) rfl rfl Try.func56 (by kernel_rfl) rfl #[.int .u8 a2, .int .i64 2] rfl (by (try simp only [List.map_toArray, List.map_cons, List.map_nil]); first | done | rfl | (simp only [List.length_drop, List.length_take]; rfl)) ?_; (with_reducible refine (rr_letter.calls k a2 2 t101 false t103 _ A4.out).mono ?_); rintro e w' ⟨rfl, ⟨nd, rfl⟩⟩; refine ⟨_, rfl, ?_⟩; have p104 : 0 ≤ (t101 : Int) := of_decide_eq_true (by first | (with_reducible assumption) | assumption); have q104 : t101 < (l0.length : Int) := of_decide_eq_true (by first | (with_reducible assumption) | assumption); obtain ⟨ad104, A104_0, c104_0, e104, hx104_0, hl104_0, hi104_0⟩ := at_L1 HR0.out t101 p104 q104; cases e104; have HR104_0 := a_ hi104_0; have HC104_0 := a_ hl104_0; clear hi104_0 hl104_0; replace p104 := eq_true p104; replace q104 := eq_true q104; have p105 : 0 ≤ (a1 : Int) := of_decide_eq_true (by first | (with_reducible assumption) | assumption); have q105 : a1 < ((rd_L1 l0 t101).length : Int) := of_decide_eq_true (by first | (with_reducible assumption) | assumption); obtain ⟨ad105, e105, hx105_0⟩ := Kd.at_int HR104_0.out a1 p105 q105; cases e105; replace p105 := eq_true p105; replace q105 := eq_true q105))
  go_ret
  exact ⟨by first | rfl | (simp; done) | (simp [*]; done), by repeat (first | exact Drawn0.refl _ | apply Drawn0.step)⟩
 subst c5
 have H1 := H; rw [if_pos rfl] at H1
 clear H
 have H := H1
 clear H1
 have H' := a_ H
 clear H
 go_enter Try.func58, Try.ntmps58
 go_wp2_with (first | ((with_reducible refine gate_callee (f := 56) rfl ?_); refine goesL_ (some 13) rfl rfl Try.func56 (by kernel_rfl) rfl #[.int .u8 a2, .int .i64 2] rfl (by (try simp only [List.map_toArray, List.map_cons, List.map_nil]); first | done | rfl | (simp only [List.length_drop, List.length_take]; rfl)) ?_; (with_reducible refine (rr_letter.calls k a2 2 t101 true t103 _ A4.out).mono ?_); rintro e w' ⟨rfl, ⟨nd, rfl⟩⟩; refine ⟨_, rfl, ?_⟩))
 go_loopg [10] k (fun kq v10 w' => ∃ (x10_1 : Int), v10 = .int .i64 x10_1 ∧ Aside0 (rr_step.l0 kq l0 a1 t101 x10_1 = some r) ∧ Aside0 (kq ≤ k) ∧ Drawn0 w w')
 case atStart => exact ⟨(0), (by first | rfl | (simp; done) | (simp [*]; done)), H', ⟨Nat.le_refl _⟩, by repeat (first | exact Drawn0.refl _ | apply Drawn0.step)⟩
 clear H'
 try clear p2
 try clear c5
 obtain ⟨x10_1, rfl, HA, HK1, ⟨m1, rfl⟩⟩ := hrel
 cases gk with
 | zero => exact absurd HA.out (by simp [rr_step.l0])
 | succ k1 =>
  have H := HA.out
  clear HA
  simp only [rr_step.l0] at H
  by_cases c6 : 0 ≤ t101
  rotate_left
  ·rw [if_neg c6] at H
   exact absurd H (by simp)
  rw [if_pos c6] at H
  have c6b0 : decide (0 ≤ t101) = true := decide_eq_true c6
  clear c6
  by_cases c7 : t101 < (l0.length : Int)
  rotate_left
  ·rw [if_neg c7] at H
   exact absurd H (by simp)
  rw [if_pos c7] at H
  have c7b0 : decide (t101 < (l0.length : Int)) = true := decide_eq_true c7
  clear c7
  by_cases c8 : 0 ≤ x10_1
  rotate_left
  ·rw [if_neg c8] at H
   exact absurd H (by simp)
  rw [if_pos c8] at H
  have c8b0 : decide (0 ≤ x10_1) = true := decide_eq_true c8
  clear c8
  by_cases c9 : x10_1 < ((rd_L1 l0 t101).length : Int)
  rotate_left
  ·rw [if_neg c9] at H
   exact absurd H (by simp)
  rw [if_pos c9] at H
  have c9b0 : decide (x10_1 < ((rd_L1 l0 t101).length : Int)) = true := decide_eq_true c9
  clear c9
  by_cases c10 : (rd (rd_L1 l0 t101) x10_1) = a1
  ·rw [if_pos c10] at H
   have c10b0 : ((rd (rd_L1 l0 t101) x10_1) == a1) = true := beq_iff_eq.mpr c10
   have c10b1 : ((rd (rd_L1 l0 t101) x10_1) != a1) = false := bne_eq_false_iff_eq.mpr c10
   clear c10
   obtain rfl := Option.some.inj H
   have p106 : 0 ≤ (t101 : Int) := of_decide_eq_true (by first | (with_reducible assumption) | assumption)
   have q106 : t101 < (l0.length : Int) := of_decide_eq_true (by first | (with_reducible assumption) | assumption)
   obtain ⟨ad106, A106_0, c106_0, e106, hx106_0, hl106_0, hi106_0⟩ := at_L1 HR0.out t101 p106 q106
   cases e106
   have HR106_0 := a_ hi106_0
   have HC106_0 := a_ hl106_0
   clear hi106_0 hl106_0
   replace p106 := eq_true p106
   replace q106 := eq_true q106
   have p107 : 0 ≤ (x10_1 : Int) := of_decide_eq_true (by first | (with_reducible assumption) | assumption)
   have q107 : x10_1 < ((rd_L1 l0 t101).length : Int) := of_decide_eq_true (by first | (with_reducible assumption) | assumption)
   obtain ⟨ad107, e107, hx107_0⟩ := Kd.at_int HR106_0.out x10_1 p107 q107
   cases e107
   replace p107 := eq_true p107
   replace q107 := eq_true q107
   go_wp2
   go_ret
   exact ⟨by first | rfl | (simp; done) | (simp [*]; done), by repeat (first | exact Drawn0.refl _ | apply Drawn0.step)⟩
  rw [if_neg c10] at H
  have c10b0 : ((rd (rd_L1 l0 t101) x10_1) == a1) = false := beq_eq_false_iff_ne.mpr c10
  have c10b1 : ((rd (rd_L1 l0 t101) x10_1) != a1) = true := bne_iff_ne.mpr c10
  have H' := a_ H
  clear H
  have p106 : 0 ≤ (t101 : Int) := of_decide_eq_true (by first | (with_reducible assumption) | assumption)
  have q106 : t101 < (l0.length : Int) := of_decide_eq_true (by first | (with_reducible assumption) | assumption)
  obtain ⟨ad106, A106_0, c106_0, e106, hx106_0, hl106_0, hi106_0⟩ := at_L1 HR0.out t101 p106 q106
  cases e106
  have HR106_0 := a_ hi106_0
  have HC106_0 := a_ hl106_0
  clear hi106_0 hl106_0
  replace p106 := eq_true p106
  replace q106 := eq_true q106
  have p107 : 0 ≤ (x10_1 : Int) := of_decide_eq_true (by first | (with_reducible assumption) | assumption)
  have q107 : x10_1 < ((rd_L1 l0 t101).length : Int) := of_decide_eq_true (by first | (with_reducible assumption) | assumption)
  obtain ⟨ad107, e107, hx107_0⟩ := Kd.at_int HR106_0.out x10_1 p107 q107
  cases e107
  replace p107 := eq_true p107
  replace q107 := eq_true q107
  go_wp2
  go_roundg k1
  case measure => have := HK1.out; omega
  case rel => exact ⟨(wrap64 (x10_1 + 1)), (by first | rfl | (simp; done) | (simp [*]; done)), H', ⟨by have := HK1.out; omega⟩, by repeat (first | exact Drawn0.refl _ | apply Drawn0.step)⟩
def rr_letters.f (a0 : Int) : Option (ByteArray) := if 0 ≤ (wrap64 (2 * a0)) then (if (wrap64 (2 * a0)) ≤ 4 then (some ((⟨#[97, 65, 98, 66]⟩ : ByteArray).extract 0 ((wrap64 (2 * a0)) : Int).toNat)) else (none)) else (none)
theorem rr_letters.calls (a0 : Int) (r : ByteArray) (w : World) (h : rr_letters.f a0 = some r) :
  Calls Try.prog 73 #[.int .i64 a0] w fun e w' => e = .returned (.string r) ∧ Drawn0 w w' := by
 have H : (if 0 ≤ (wrap64 (2 * a0)) then (if (wrap64 (2 * a0)) ≤ 4 then (some ((⟨#[97, 65, 98, 66]⟩ : ByteArray).extract 0 ((wrap64 (2 * a0)) : Int).toNat)) else (none)) else (none)) = some r := h
 clear h
 obtain ⟨ji2, hji2⟩ : ∃ j_ : Int, (wrap64 (2 * a0)) = j_ := ⟨_, rfl⟩
 replace H : (if 0 ≤ (ji2) then (if (ji2) ≤ 4 then (some ((⟨#[97, 65, 98, 66]⟩ : ByteArray).extract 0 ((ji2) : Int).toNat)) else (none)) else (none)) = some r := by first | (rw [hji2] at H; exact H) | (simp only [hji2] at H ⊢; exact H)
 have hji2w : (IntKind.i64.wrap (2 * a0)) = ji2 := (i64_w _).trans hji2
 by_cases c3 : 0 ≤ (ji2)
 rotate_left
 ·rw [if_neg c3] at H
  exact absurd H (by simp)
 rw [if_pos c3] at H
 have c3b0 := eq_true c3
 have c3b1 : decide (0 ≤ (ji2)) = true := decide_eq_true c3
 clear c3
 by_cases c4 : (ji2) ≤ 4
 rotate_left
 ·rw [if_neg c4] at H
  exact absurd H (by simp)
 rw [if_pos c4] at H
 have c4b0 := eq_true c4
 have c4b1 : decide ((ji2) ≤ 4) = true := decide_eq_true c4
 clear c4
 obtain rfl := Option.some.inj H
 go_enter Try.func73, Try.ntmps73
 go_wp2
 go_ret
 exact ⟨by first | rfl | (simp; done) | (simp only [← hji2] <;> (first | rfl | simp)) | (simp [*]; done), by repeat (first | exact Drawn0.refl _ | apply Drawn0.step)⟩
mutual
def rr_numbering.l0 : Nat → List (List Int) → List Int → List ByteArray → ByteArray → Int → Option (List Int × List ByteArray)
 | 0, _, _, _, _, _ => none
 | k + 1, x0, x6, x7, x8, x9 => if x9 < (x6.length : Int) then (rr_numbering.l1 k x0 x6 x7 x8 x9 0) else (some (x6, x7))
def rr_numbering.l1 : Nat → List (List Int) → List Int → List ByteArray → ByteArray → Int → Int → Option (List Int × List ByteArray)
 | 0, _, _, _, _, _, _ => none
 | k + 1, x0, x6, x7, x8, x9, x10 => if x10 < (x8.size : Int) then (if 0 ≤ x9 then (if x9 < (x6.length : Int) then (if 0 ≤ x10 then ((rr_step.f k x0 (rd x6 x9) (bt x8 x10)).bind fun t116 => (rr_numbering.l2 k x0 x6 x7 x8 x9 x10 t116 false 0)) else (none)) else (none)) else (none)) else (rr_numbering.l0 k x0 x6 x7 x8 (wrap64 (x9 + 1)))
def rr_numbering.l2 : Nat → List (List Int) → List Int → List ByteArray → ByteArray → Int → Int → Int → Bool → Int → Option (List Int × List ByteArray)
 | 0, _, _, _, _, _, _, _, _, _ => none
 | k + 1, x0, x6, x7, x8, x9, x10, x11, x12, x13 => if x13 < (x6.length : Int) then (if x12 = true then (rr_numbering.l2 k x0 x6 x7 x8 x9 x10 x11 true (wrap64 (x13 + 1))) else (if 0 ≤ x13 then (rr_numbering.l2 k x0 x6 x7 x8 x9 x10 x11 ((rd x6 x13) == x11) (wrap64 (x13 + 1))) else (none))) else (if x12 = true then (rr_numbering.l1 k x0 x6 x7 x8 x9 (wrap64 (x10 + 1))) else (if x6.length < 17592186044416 then (if 0 ≤ x9 then (if x9 < (x7.length : Int) then (if 0 ≤ x10 then (if x10 ≤ (wrap64 (x10 + 1)) then (if (wrap64 (x10 + 1)) ≤ (x8.size : Int) then (if (rdOf ByteArray.empty x7 x9).size + (x8.extract (x10 : Int).toNat ((wrap64 (x10 + 1)) : Int).toNat).size ≤ 9223372036854775807 then (if x7.length < 8796093022208 then (rr_numbering.l1 k x0 (x6 ++ [x11]) (x7 ++ [(rdOf ByteArray.empty x7 x9) ++ (x8.extract (x10 : Int).toNat ((wrap64 (x10 + 1)) : Int).toNat)]) x8 x9 (wrap64 (x10 + 1))) else (none)) else (none)) else (none)) else (none)) else (none)) else (none)) else (none)) else (none)))
end
def rr_numbering.f (k : Nat) (l0 : List (List Int)) (a1 : Int) : Option (List Int × List ByteArray) := (rr_letters.f (l0.length : Int)).bind fun t114 => (rr_numbering.l0 k l0 (([a1] : List Int)) (([(⟨#[]⟩ : ByteArray)] : List ByteArray)) t114 0)
def rr_numbering.T10 : Bool × List (List Nat × List Nat) := (true, [([], []), ([], []), ([], []), ([1, 2], [1, 2]), ([3], [3]), ([], []), ([], []), ([5, 6], [5, 6]), ([0, 4, 7], [0, 4, 7]), ([8, 8, 0, 1, 2, 3, 4, 5, 6, 7, 8], [8])])
def rr_numbering.B10 : List Nat := [0, 0, 0, 6, 14, 0, 0, 96, 255, 511]
theorem rr_numbering.tab10 : rtab .any (opsOf Try.f67 10) = rr_numbering.T10 := by kernel_rfl
theorem rr_numbering.bits10 : waitsOk rr_numbering.T10.2 rr_numbering.B10 = true := by kernel_rfl
def rr_numbering.T18 : Bool × List (List Nat × List Nat) := (true, [([], []), ([], []), ([], []), ([1, 2], [1, 2]), ([3], [3]), ([], []), ([], []), ([], []), ([7], [7]), ([5, 6, 8], [5, 6, 8]), ([4, 9], [4, 9]), ([10], [10]), ([0, 11], [0, 11]), ([12, 12, 0, 1, 2, 3, 4, 5, 6, 7, 8, 9, 10, 11, 12], [0, 1, 12])])
def rr_numbering.B18 : List Nat := [0, 0, 0, 6, 14, 0, 0, 0, 128, 480, 1022, 2046, 4095, 8191]
theorem rr_numbering.tab18 : rtab .any (opsOf Try.f67 18) = rr_numbering.T18 := by kernel_rfl
theorem rr_numbering.bits18 : waitsOk rr_numbering.T18.2 rr_numbering.B18 = true := by kernel_rfl
theorem rr_numbering.calls (k : Nat) (A0 : Option Addr) (c0 : Nat) (l0 : List (List Int)) (a1 : Int) (r1 : List Int) (r2 : List ByteArray) (w : World) (hr0 : Kd.C (Kd.slice 3 (Kd.int .i64)) w A0 l0.length l0) (hc0 : l0.length ≤ c0) (h : rr_numbering.f k l0 a1 = some (r1, r2)) :
  Calls Try.prog 67 #[.slice A0 l0.length c0, .int .i64 a1] w fun e w' => ∃ v0_ v1_ : Value, e = .returned (.tuple #[v0_, v1_]) ∧ Kd.R (Kd.int .i64) 3 w' w.heap.size (fun _ => True) v0_ r1 ∧ Kd.R Kd.string 9 w' w.heap.size (fun _ => True) v1_ r2 ∧ Below w.heap.size w w' := by
 have HR0 := a_ hr0
 have HC0 := a_ hc0
 clear hr0 hc0
 have HB := a_ (Below.refl w.heap.size w)
 have H : ((rr_letters.f (l0.length : Int)).bind fun t114 => (rr_numbering.l0 k l0 (([a1] : List Int)) (([(⟨#[]⟩ : ByteArray)] : List ByteArray)) t114 0)) = some (r1, r2) := h
 clear h
 obtain ⟨y108, hy108⟩ : ∃ y_ : List Int, y_ = (([a1] : List Int)) := ⟨_, rfl⟩
 replace H : ((rr_letters.f (l0.length : Int)).bind fun t114 => (rr_numbering.l0 k l0 y108 (([(⟨#[]⟩ : ByteArray)] : List ByteArray)) t114 0)) = some (r1, r2) := by first | (rw [hy108]; with_reducible exact H) | (have H2_ := (Option.bind_some _ _).symm.trans H; rw [hy108]; with_reducible exact H2_) | (have H2_ := (Option.bind_some _ _).symm.trans H; with_reducible exact H2_) | with_reducible exact H | (rw [hy108]; exact H) | exact H
 have Ny108 := a_ hy108
 clear hy108
 obtain ⟨y111, hy111⟩ : ∃ y_ : List ByteArray, y_ = (([(⟨#[]⟩ : ByteArray)] : List ByteArray)) := ⟨_, rfl⟩
 replace H : ((rr_letters.f (l0.length : Int)).bind fun t114 => (rr_numbering.l0 k l0 y108 y111 t114 0)) = some (r1, r2) := by first | (rw [hy111]; with_reducible exact H) | (have H2_ := (Option.bind_some _ _).symm.trans H; rw [hy111]; with_reducible exact H2_) | (have H2_ := (Option.bind_some _ _).symm.trans H; with_reducible exact H2_) | with_reducible exact H | (rw [hy111]; exact H) | exact H
 have Ny111 := a_ hy111
 clear hy111
 replace H := Option.bind_eq_some_iff.mp H
 obtain ⟨t114, A30, H⟩ := H
 try dsimp only at H
 have A3 := a_ A30
 clear A30
 have H' := a_ H
 clear H
 go_enter Try.func67, Try.ntmps67
 go_wp2_with (first | ((with_reducible refine gate_dst (N := 15) rfl ?_); refine Kd.R_lit (Kd.int .i64) _ 3 ?hg (N := 15) ?hd (xs := ([a1] : List Int)) (inner := [.int .i64 a1]) (ok := fun _ => True) (okp := fun _ => True) ?hr ?hp (fun _ hk => hk) trivial (Below.refl _ _) (Nat.le_refl _) (by simp) ?_; (case hd => rfl); (case hg => rfl); (case hr => first | (go_simp; done) | (go_simp; rfl)); (case hp => exact (Reps.one (show Kd.M (Kd.int .i64) _ _ _ a1 [.int .i64 a1] from rfl) (Reps.none _ _))); intro v109 w4 ho5 hb hg_ hnew_; clear hg_ hnew_; (first | rw [← Ny108.out] at ho5 | (simp only [Int.reduceToNat] at ho5; rw [← Ny108.out] at ho5)); have HO110 := a_ (Kd.R_lower ho5 (bZ_ (gr HB.out))); replace HB := a_ (bT_ HB.out (tr hb)); clear hb ho5) | ((with_reducible refine gate_dst (N := 16) rfl ?_); refine Kd.R_lit Kd.string _ 9 ?hg (N := 16) ?hd (xs := ([(⟨#[]⟩ : ByteArray)] : List ByteArray)) (inner := [.string (⟨#[]⟩ : ByteArray)]) (ok := fun _ => True) (okp := fun _ => True) ?hr ?hp (fun _ hk => hk) trivial (Below.refl _ _) (Nat.le_refl _) (by simp) ?_; (case hd => rfl); (case hg => rfl); (case hr => first | (go_simp; done) | (go_simp; rfl)); (case hp => exact (Reps.one (show Kd.M Kd.string _ _ _ (⟨#[]⟩ : ByteArray) [.string (⟨#[]⟩ : ByteArray)] from rfl) (Reps.none _ _))); intro v112 w6 ho7 hb hg_ hnew_; clear hg_ hnew_; (first | rw [← Ny111.out] at ho7 | (simp only [Int.reduceToNat] at ho7; rw [← Ny111.out] at ho7)); have HO113 := a_ (Kd.R_lower ho7 (bZ_ (gr HB.out))); replace HO110 := a_ (Kd.R_below HO110.out (tr hb)); replace HB := a_ (bT_ HB.out (tr hb)); clear hb ho7) | ((with_reducible refine gate_callee (f := 73) rfl ?_); refine goesL_ (some 19) rfl rfl Try.func73 (by kernel_rfl) rfl #[.int .i64 (l0.length : Int)] rfl (by (try simp only [List.map_toArray, List.map_cons, List.map_nil]); first | done | rfl | (simp only [List.length_drop, List.length_take]; rfl)) ?_; (with_reducible refine (rr_letters.calls (l0.length : Int) t114 _ A3.out).mono ?_); rintro e w' ⟨rfl, ⟨nd, rfl⟩⟩; refine ⟨_, rfl, ?_⟩))
 go_loopg [6, 7, 9] k (fun kq v6 v7 v9 w' => ∃ (x6_1 : List Int) (x7_1 : List ByteArray) (x9_1 : Int), v9 = .int .i64 x9_1 ∧ Aside0 (rr_numbering.l0 kq l0 x6_1 x7_1 t114 x9_1 = some (r1, r2)) ∧ Aside0 (kq ≤ k) ∧ Aside0 (Kd.R (Kd.int .i64) 3 w' w.heap.size (fun _ => True) v6 x6_1) ∧ Aside0 (Kd.R Kd.string 9 w' w.heap.size (fun _ => True) v7 x7_1) ∧ Aside0 (Below w.heap.size w w'))
 case atStart => exact ⟨(y108), (y111), (0), (by first | rfl | (simp; done) | (simp [*]; done)), H', ⟨Nat.le_refl _⟩, ⟨by exact rk HO110.out⟩, ⟨by exact rk HO113.out⟩, ⟨by exact gs HB.out⟩⟩
 clear H'
 try clear p2
 try clear c6
 try clear c7
 obtain ⟨x6_1, x7_1, x9_1, rfl, HA, HK1, HO_6, HO_7, HB⟩ := hrel
 cases gk with
 | zero => exact absurd HA.out (by simp [rr_numbering.l0])
 | succ k1 =>
  have H := HA.out
  clear HA
  simp only [rr_numbering.l0] at H
  by_cases c8 : x9_1 < (x6_1.length : Int)
  rotate_left
  ·rw [if_neg c8] at H
   have c8b0 : decide (x9_1 < (x6_1.length : Int)) = false := decide_eq_false c8
   clear c8
   simp only [Option.some.injEq, Prod.mk.injEq] at H
   obtain ⟨rfl, rfl⟩ := H
   obtain ⟨Ao34, co34, eo34⟩ := Kd.R_slice HO_6.out
   subst eo34
   go_wp2
   go_ret2
   exact ⟨_, _, by first | rfl | (simp [errW_none, errW_some] <;> rfl) | (simp [*, errW_none, errW_some] <;> rfl), by exact rk HO_6.out, by exact rk HO_7.out, by exact gs HB.out⟩
  rw [if_pos c8] at H
  have c8b0 : decide (x9_1 < (x6_1.length : Int)) = true := decide_eq_true c8
  clear c8
  have H' := a_ H
  clear H
  obtain ⟨Ao9, co9, eo9⟩ := Kd.R_slice HO_6.out
  subst eo9
  go_wp2
  go_loopg [6, 7, 10] k1 (fun kq v6 v7 v10 w' => ∃ (x6_2 : List Int) (x7_2 : List ByteArray) (x10_2 : Int), v10 = .int .i64 x10_2 ∧ Aside0 (rr_numbering.l1 kq l0 x6_2 x7_2 t114 x9_1 x10_2 = some (r1, r2)) ∧ Aside0 (kq ≤ k1) ∧ Aside0 (Kd.R (Kd.int .i64) 3 w' w.heap.size (fun _ => True) v6 x6_2) ∧ Aside0 (Kd.R Kd.string 9 w' w.heap.size (fun _ => True) v7 x7_2) ∧ Aside0 (Below w.heap.size w w'))
  case atStart => exact ⟨(x6_1), (x7_1), (0), (by first | rfl | (simp; done) | (simp [*]; done)), H', ⟨Nat.le_refl _⟩, ⟨by exact rk HO_6.out⟩, ⟨by exact rk HO_7.out⟩, ⟨by exact gs HB.out⟩⟩
  clear H'
  try clear p2
  try clear c6
  try clear c7
  try clear c8
  try clear c8b0
  try clear p2
  obtain ⟨x6_2, x7_2, x10_2, rfl, HA, HK2, HO_6, HO_7, HB⟩ := hrel
  cases gk with
  | zero => exact absurd HA.out (by simp [rr_numbering.l1])
  | succ k2 =>
   have H := HA.out
   clear HA
   simp only [rr_numbering.l1] at H
   by_cases c10 : x10_2 < (t114.size : Int)
   rotate_left
   ·rw [if_neg c10] at H
    have c10b0 : decide (x10_2 < (t114.size : Int)) = false := decide_eq_false c10
    clear c10
    have H' := a_ H
    clear H
    go_wp2
    go_roundg k2
    case measure => have := HK1.out; have := HK2.out; omega
    case rel => exact ⟨(x6_2), (x7_2), (wrap64 (x9_1 + 1)), (by first | rfl | (simp; done) | (simp [*]; done)), H', ⟨by have := HK1.out; have := HK2.out; omega⟩, ⟨by exact rk HO_6.out⟩, ⟨by exact rk HO_7.out⟩, ⟨by exact gs HB.out⟩⟩
   rw [if_pos c10] at H
   have c10b0 : decide (x10_2 < (t114.size : Int)) = true := decide_eq_true c10
   clear c10
   by_cases c11 : 0 ≤ x9_1
   rotate_left
   ·rw [if_neg c11] at H
    exact absurd H (by simp)
   rw [if_pos c11] at H
   have c11b0 : decide (0 ≤ x9_1) = true := decide_eq_true c11
   clear c11
   by_cases c12 : x9_1 < (x6_2.length : Int)
   rotate_left
   ·rw [if_neg c12] at H
    exact absurd H (by simp)
   rw [if_pos c12] at H
   have c12b0 : decide (x9_1 < (x6_2.length : Int)) = true := decide_eq_true c12
   clear c12
   by_cases c13 : 0 ≤ x10_2
   rotate_left
   ·rw [if_neg c13] at H
    exact absurd H (by simp)
   rw [if_pos c13] at H
   have c13b0 : decide (0 ≤ x10_2) = true := decide_eq_true c13
   clear c13
   replace H := Option.bind_eq_some_iff.mp H
   obtain ⟨t116, A150, H⟩ := H
   try dsimp only at H
   have A15 := a_ A150
   clear A150
   have H' := a_ H
   clear H
   try go_wp2
   replace HO_6 := a_ (Kd.R_drew HO_6.out)
   replace HO_7 := a_ (Kd.R_drew HO_7.out)
   replace HB := a_ (b1_ HB.out)
   obtain ⟨Ao17, co17, eo17⟩ := Kd.R_slice HO_6.out
   (first | subst eo17 | (injection eo17 with f1_ f2_ f3_; have f4_ := f1_.symm; have f5_ := f3_.symm; clear f1_ f2_ f3_; subst f4_; subst f5_))
   have p115 : 0 ≤ (x9_1 : Int) := of_decide_eq_true (by first | (with_reducible assumption) | assumption)
   have q115 : x9_1 < (x6_2.length : Int) := of_decide_eq_true (by first | (with_reducible assumption) | assumption)
   obtain ⟨ad115, e115, hx115_0⟩ := Kd.at_int (Kd.R_reads' HO_6.out).2.2 x9_1 p115 q115
   cases e115
   replace p115 := eq_true p115
   replace q115 := eq_true q115
   have p14 : 0 ≤ (x10_2 : Int) := of_decide_eq_true (by first | (with_reducible assumption) | assumption)
   have q14 : x10_2 < (t114.size : Int) := of_decide_eq_true (by first | (with_reducible assumption) | assumption)
   have hx14 := bt_at t114 x10_2
   replace p14 := eq_true p14
   replace q14 := eq_true q14
   refine start_ (n := 10) (S := fun w' => w'.cell? (ad115.add (x9_1).toNat) = some (.int .i64 (rd x6_2 x9_1))) (ds := []) #[false, false, false, false, false, false, false, false, false, false] (by kernel_rfl) rfl rfl (hx115_0) (fun hHeld => ?_); refine with_tabW rr_numbering.tab10 rr_numbering.bits10 (fun HT_ HW_ => ?_)
   generalize wr.drew = w16 at HO_6 HO_7 HB hx115_0 hHeld ⊢
   refine pure_ (i := 0) (N := some 32) (v := ?_) (a' := ?_) #[true, false, false, false, false, false, false, false, false, false] rfl rfl (any_of HT_.out (by kernel_rfl)) (fun _ _ _ h => h) (Or.inl ⟨by rfl, ?_⟩) ?_ ?_
   rotate_left
   ·intro w'
    go_simp
    with_reducible rfl
   rotate_left
   ·simp only [Act.put, List.setIfInBounds_toArray, List.set_cons_zero, List.set_cons_succ, i64_w, i32_w]
    rfl
   refine pure_ (i := 1) (N := some 33) (v := ?_) (a' := ?_) #[true, true, false, false, false, false, false, false, false, false] rfl rfl (any_of HT_.out (by kernel_rfl)) (fun _ _ _ h => h) (Or.inl ⟨by rfl, ?_⟩) ?_ ?_
   rotate_left
   ·intro w'
    go_simp
    with_reducible rfl
   rotate_left
   ·simp only [Act.put, List.setIfInBounds_toArray, List.set_cons_zero, List.set_cons_succ, i64_w, i32_w]
    rfl
   refine pure_ (i := 2) (N := some 34) (v := ?_) (a' := ?_) #[true, true, true, false, false, false, false, false, false, false] rfl rfl (any_of HT_.out (by kernel_rfl)) (fun _ _ _ h => h) (Or.inl ⟨by rfl, ?_⟩) ?_ ?_
   rotate_left
   ·intro w'
    go_simp
    with_reducible rfl
   rotate_left
   ·simp only [Act.put, List.setIfInBounds_toArray, List.set_cons_zero, List.set_cons_succ, i64_w, i32_w]
    rfl
   refine pure_ (i := 3) (N := some 35) (v := ?_) (a' := ?_) #[true, true, true, true, false, false, false, false, false, false] rfl rfl (any_of HT_.out (by kernel_rfl)) (fun _ _ _ h => h) (Or.inl ⟨by rfl, ?_⟩) ?_ ?_
   rotate_left
   ·intro w'
    go_simp
    with_reducible rfl
   rotate_left
   ·simp only [Act.put, List.setIfInBounds_toArray, List.set_cons_zero, List.set_cons_succ, i64_w, i32_w]
    rfl
   refine pure_ (i := 5) (N := some 37) (v := ?_) (a' := ?_) #[true, true, true, true, false, true, false, false, false, false] rfl rfl (any_of HT_.out (by kernel_rfl)) (fun _ _ _ h => h) (Or.inl ⟨by rfl, ?_⟩) ?_ ?_
   rotate_left
   ·intro w'
    go_simp
    with_reducible rfl
   rotate_left
   ·simp only [Act.put, List.setIfInBounds_toArray, List.set_cons_zero, List.set_cons_succ, i64_w, i32_w]
    rfl
   refine pure_ (i := 6) (N := some 38) (v := ?_) (a' := ?_) #[true, true, true, true, false, true, true, false, false, false] rfl rfl (any_of HT_.out (by kernel_rfl)) (fun _ _ _ h => h) (Or.inl ⟨by rfl, ?_⟩) ?_ ?_
   rotate_left
   ·intro w'
    go_simp
    with_reducible rfl
   rotate_left
   ·simp only [Act.put, List.setIfInBounds_toArray, List.set_cons_zero, List.set_cons_succ, i64_w, i32_w]
    rfl
   refine take_ (i := 4) (N := some 36) (v := ?_) (a' := ?_) #[true, true, true, true, true, true, true, false, false, false] rfl rfl (take_ofW HT_.out HW_.out (by kernel_rfl)) (fun _ _ _ h => h) (Or.inl ⟨by rfl, ?_⟩) hHeld ?_ ?_
   rotate_left
   ·intro w' s0
    go_simp
    with_reducible rfl
   rotate_left
   ·simp only [Act.put, List.setIfInBounds_toArray, List.set_cons_zero, List.set_cons_succ, i64_w, i32_w]
    rfl
   refine take_ (i := 7) (N := some 39) (v := ?_) (a' := ?_) #[true, true, true, true, true, true, true, true, false, false] rfl rfl (take_ofW HT_.out HW_.out (by kernel_rfl)) (fun _ _ _ h => h) (Or.inl ⟨by rfl, ?_⟩) hHeld ?_ ?_
   rotate_left
   ·intro w' s0
    go_simp
    with_reducible rfl
   rotate_left
   ·simp only [Act.put, List.setIfInBounds_toArray, List.set_cons_zero, List.set_cons_succ, i64_w, i32_w]
    rfl
   refine one_ (i := 8) (N := some 40) #[true, true, true, true, true, true, true, true, true, false] rfl rfl (one_of HT_.out (by kernel_rfl)) (by decide) (fun K hK => ?_)
   refine goes_ Try.func58 (by kernel_rfl) rfl #[.slice A0 l0.length c0, .int .i64 (rd x6_2 x9_1), .int .u8 (bt t114 x10_2)] (by rfl) rfl rfl (by (try simp only [List.map_toArray, List.map_cons, List.map_nil]); first | done | rfl | (simp only [List.length_drop, List.length_take]; rfl)) ?_
   with_reducible refine (rr_step.calls k2 _ _ l0 (rd x6_2 x9_1) (bt t114 x10_2) t116 _ ?side1 ?side2 A15.out).mono ?_
   (case side1 => repeat (first | exact (Kd.C_below HR0.out HB.out) | (with_reducible refine Kd.C_alloc ?_ _) | (with_reducible refine Kd.C_drewN ?_ _) | (with_reducible refine Kd.C_drew ?_)))
   (case side2 => exact HC0.out)
   rintro e w' ⟨rfl, ⟨nd, rfl⟩⟩
   refine ⟨_, rfl, ?_⟩
   refine hK.out _ _ (hHeld) (fun hHeld => ?_)
   clear hK K
   refine norm_ (a' := ?_) ?_ ?_
   rotate_left
   ·show Act.put _ (some 40) _ = _
    simp only [Act.put, List.setIfInBounds_toArray, List.set_cons_zero, List.set_cons_succ, i64_w, i32_w]
    rfl
   refine pure_ (i := 9) (N := some 11) (v := ?_) (a' := ?_) #[true, true, true, true, true, true, true, true, true, true] rfl rfl (any_of HT_.out (by kernel_rfl)) (fun _ _ _ h => h) (Or.inl ⟨by rfl, ?_⟩) ?_ ?_
   rotate_left
   ·intro w'
    go_simp
    with_reducible rfl
   rotate_left
   ·simp only [Act.put, List.setIfInBounds_toArray, List.set_cons_zero, List.set_cons_succ, i64_w, i32_w]
    rfl
   refine done_ (done_of HT_.out (by kernel_rfl)) ?_
   try go_wp2
   go_loopg [12, 13] k2 (fun kq v12 v13 w' => ∃ (x12_3 : Bool) (x13_3 : Int), v12 = .bool x12_3 ∧ v13 = .int .i64 x13_3 ∧ Aside0 (rr_numbering.l2 kq l0 x6_2 x7_2 t114 x9_1 x10_2 t116 x12_3 x13_3 = some (r1, r2)) ∧ Aside0 (kq ≤ k2) ∧ Aside0 (Kd.R (Kd.int .i64) 3 w' w.heap.size (fun _ => True) (.slice (some ad115) x6_2.length co17) x6_2) ∧ Aside0 (Kd.R Kd.string 9 w' w.heap.size (fun _ => True) u7 x7_2) ∧ Aside0 (Below w.heap.size w w'))
   case atStart => exact ⟨(false), (0), (by first | rfl | (simp; done) | (simp [*]; done)), (by first | rfl | (simp; done) | (simp [*]; done)), H', ⟨Nat.le_refl _⟩, ⟨by exact rk HO_6.out⟩, ⟨by exact rk HO_7.out⟩, ⟨by exact gs HB.out⟩⟩
   clear H'
   try clear c1
   try clear p1
   try clear q1
   try clear hx1
   try clear p2
   try clear c5
   try clear c6
   try clear c7
   try clear c8
   try clear c8b0
   try clear c10
   try clear c10b0
   try clear c11
   try clear c11b0
   try clear p11
   try clear q11
   try clear hx11
   try clear c12
   try clear c12b0
   try clear c13
   try clear c13b0
   try clear p14
   try clear q14
   try clear hx14
   try clear hx115_0
   try clear p115
   try clear p14
   try clear p2
   try clear q115
   try clear q14
   obtain ⟨x12_3, x13_3, rfl, rfl, HA, HK3, HO_6, HO_7, HB⟩ := hrel
   cases gk with
   | zero => exact absurd HA.out (by simp [rr_numbering.l2])
   | succ k3 =>
    have H := HA.out
    clear HA
    simp only [rr_numbering.l2] at H
    by_cases c18 : x13_3 < (x6_2.length : Int)
    ·rw [if_pos c18] at H
     have c18b0 : decide (x13_3 < (x6_2.length : Int)) = true := decide_eq_true c18
     clear c18
     by_cases c19 : x12_3 = true
     ·subst c19
      have H1 := H; rw [if_pos rfl] at H1
      clear H
      have H := H1
      clear H1
      have H' := a_ H
      clear H
      go_wp2
      go_roundg k3
      case measure => have := HK1.out; have := HK2.out; have := HK3.out; omega
      case rel => exact ⟨(true), (wrap64 (x13_3 + 1)), (by first | rfl | (simp; done) | (simp [*]; done)), (by first | rfl | (simp; done) | (simp [*]; done)), H', ⟨by have := HK1.out; have := HK2.out; have := HK3.out; omega⟩, ⟨by exact rk HO_6.out⟩, ⟨by exact rk HO_7.out⟩, ⟨by exact gs HB.out⟩⟩
     replace c19 := Bool.eq_false_iff.mpr c19
     subst c19
     have H1 := H; rw [if_neg (show ¬ (false = true) by decide)] at H1
     clear H
     have H := H1
     clear H1
     by_cases c20 : 0 ≤ x13_3
     rotate_left
     ·rw [if_neg c20] at H
      exact absurd H (by simp)
     rw [if_pos c20] at H
     have c20b0 : decide (0 ≤ x13_3) = true := decide_eq_true c20
     clear c20
     have H' := a_ H
     clear H
     have p117 : 0 ≤ (x13_3 : Int) := of_decide_eq_true (by first | (with_reducible assumption) | assumption)
     have q117 : x13_3 < (x6_2.length : Int) := of_decide_eq_true (by first | (with_reducible assumption) | assumption)
     obtain ⟨ad117, e117, hx117_0⟩ := Kd.at_int (Kd.R_reads' HO_6.out).2.2 x13_3 p117 q117
     obtain rfl : ad115 = ad117 := (by injection e117)
     replace p117 := eq_true p117
     replace q117 := eq_true q117
     go_wp2
     go_roundg k3
     case measure => have := HK1.out; have := HK2.out; have := HK3.out; omega
     case rel => exact ⟨(((rd x6_2 x13_3) == t116)), (wrap64 (x13_3 + 1)), (by first | rfl | (simp; done) | (simp [*]; done)), (by first | rfl | (simp; done) | (simp [*]; done)), H', ⟨by have := HK1.out; have := HK2.out; have := HK3.out; omega⟩, ⟨by exact rk HO_6.out⟩, ⟨by exact rk HO_7.out⟩, ⟨by exact gs HB.out⟩⟩
    rw [if_neg c18] at H
    have c18b0 : decide (x13_3 < (x6_2.length : Int)) = false := decide_eq_false c18
    clear c18
    by_cases c21 : x12_3 = true
    ·subst c21
     have H1 := H; rw [if_pos rfl] at H1
     clear H
     have H := H1
     clear H1
     have H' := a_ H
     clear H
     go_wp2
     go_roundg k3
     case measure => have := HK1.out; have := HK2.out; have := HK3.out; omega
     case rel => exact ⟨(x6_2), (x7_2), (wrap64 (x10_2 + 1)), (by first | rfl | (simp; done) | (simp [*]; done)), H', ⟨by have := HK1.out; have := HK2.out; have := HK3.out; omega⟩, ⟨by exact rk HO_6.out⟩, ⟨by exact rk HO_7.out⟩, ⟨by exact gs HB.out⟩⟩
    replace c21 := Bool.eq_false_iff.mpr c21
    subst c21
    have H1 := H; rw [if_neg (show ¬ (false = true) by decide)] at H1
    clear H
    have H := H1
    clear H1
    by_cases c22 : x6_2.length < 17592186044416
    rotate_left
    ·rw [if_neg c22] at H
     exact absurd H (by simp)
    rw [if_pos c22] at H
    have LMc22 := a_ c22
    clear c22
    obtain ⟨y118, hy118⟩ : ∃ y_ : List Int, y_ = (x6_2 ++ [t116]) := ⟨_, rfl⟩
    replace H : (if 0 ≤ x9_1 then (if x9_1 < (x7_2.length : Int) then (if 0 ≤ x10_2 then (if x10_2 ≤ (wrap64 (x10_2 + 1)) then (if (wrap64 (x10_2 + 1)) ≤ (t114.size : Int) then (if (rdOf ByteArray.empty x7_2 x9_1).size + (t114.extract (x10_2 : Int).toNat ((wrap64 (x10_2 + 1)) : Int).toNat).size ≤ 9223372036854775807 then (if x7_2.length < 8796093022208 then (rr_numbering.l1 k3 l0 y118 (x7_2 ++ [(rdOf ByteArray.empty x7_2 x9_1) ++ (t114.extract (x10_2 : Int).toNat ((wrap64 (x10_2 + 1)) : Int).toNat)]) t114 x9_1 (wrap64 (x10_2 + 1))) else (none)) else (none)) else (none)) else (none)) else (none)) else (none)) else (none)) = some (r1, r2) := by first | (rw [hy118]; with_reducible exact H) | (have H2_ := (Option.bind_some _ _).symm.trans H; rw [hy118]; with_reducible exact H2_) | (have H2_ := (Option.bind_some _ _).symm.trans H; with_reducible exact H2_) | with_reducible exact H | (rw [hy118]; exact H) | exact H
    have Ny118 := a_ hy118
    clear hy118
    by_cases c23 : 0 ≤ x9_1
    rotate_left
    ·rw [if_neg c23] at H
     exact absurd H (by simp)
    rw [if_pos c23] at H
    have c23b0 : decide (0 ≤ x9_1) = true := decide_eq_true c23
    clear c23
    by_cases c24 : x9_1 < (x7_2.length : Int)
    rotate_left
    ·rw [if_neg c24] at H
     exact absurd H (by simp)
    rw [if_pos c24] at H
    have c24b0 : decide (x9_1 < (x7_2.length : Int)) = true := decide_eq_true c24
    clear c24
    by_cases c25 : 0 ≤ x10_2
    rotate_left
    ·rw [if_neg c25] at H
     exact absurd H (by simp)
    rw [if_pos c25] at H
    have c25b0 := eq_true c25
    have c25b1 : decide (0 ≤ x10_2) = true := decide_eq_true c25
    clear c25
    by_cases c26 : x10_2 ≤ (wrap64 (x10_2 + 1))
    rotate_left
    ·rw [if_neg c26] at H
     exact absurd H (by simp)
    rw [if_pos c26] at H
    have c26b0 := eq_true c26
    have c26b1 : decide (x10_2 ≤ (wrap64 (x10_2 + 1))) = true := decide_eq_true c26
    by_cases c27 : (wrap64 (x10_2 + 1)) ≤ (t114.size : Int)
    rotate_left
    ·rw [if_neg c27] at H
     exact absurd H (by simp)
    rw [if_pos c27] at H
    have c27b0 := eq_true c27
    have c27b1 : decide ((wrap64 (x10_2 + 1)) ≤ (t114.size : Int)) = true := decide_eq_true c27
    by_cases c28 : (rdOf ByteArray.empty x7_2 x9_1).size + (t114.extract (x10_2 : Int).toNat ((wrap64 (x10_2 + 1)) : Int).toNat).size ≤ 9223372036854775807
    rotate_left
    ·rw [if_neg c28] at H
     exact absurd H (by simp)
    rw [if_pos c28] at H
    have c28b0 := eq_true c28
    have c28b1 : decide ((rdOf ByteArray.empty x7_2 x9_1).size + (t114.extract (x10_2 : Int).toNat ((wrap64 (x10_2 + 1)) : Int).toNat).size ≤ 9223372036854775807) = true := decide_eq_true c28
    try have c28b2 : (9223372036854775807 < (rdOf ByteArray.empty x7_2 x9_1).size + (t114.extract (x10_2 : Int).toNat ((wrap64 (x10_2 + 1)) : Int).toNat).size) = False := eq_false (Nat.not_lt.2 c28)
    (try (have c28b3 : (9223372036854775807 < (rdOf ByteArray.empty x7_2 x9_1).size + (((wrap64 (x10_2 + 1))).toNat - (x10_2).toNat)) = False := eq_false (by have h1_ := c28; simp only [ByteArray.size_append, ByteArray.size_extract] at h1_; have h2_ : ((wrap64 (x10_2 + 1)) : Int) ≤ (t114.size : Int) := of_decide_eq_true (by first | (with_reducible assumption) | assumption | (apply decide_eq_true; exact of_eq_true (by assumption))); omega)))
    by_cases c29 : x7_2.length < 8796093022208
    rotate_left
    ·rw [if_neg c29] at H
     exact absurd H (by simp)
    rw [if_pos c29] at H
    have LMc29 := a_ c29
    clear c29
    obtain ⟨y122, hy122⟩ : ∃ y_ : List ByteArray, y_ = (x7_2 ++ [(rdOf ByteArray.empty x7_2 x9_1) ++ (t114.extract (x10_2 : Int).toNat ((wrap64 (x10_2 + 1)) : Int).toNat)]) := ⟨_, rfl⟩
    replace H : (rr_numbering.l1 k3 l0 y118 y122 t114 x9_1 (wrap64 (x10_2 + 1))) = some (r1, r2) := by first | (rw [hy122]; with_reducible exact H) | (have H2_ := (Option.bind_some _ _).symm.trans H; rw [hy122]; with_reducible exact H2_) | (have H2_ := (Option.bind_some _ _).symm.trans H; with_reducible exact H2_) | with_reducible exact H | (rw [hy122]; exact H) | exact H
    have Ny122 := a_ hy122
    clear hy122
    have H' := a_ H
    clear H
    try go_wp2_with (first | ((with_reducible refine gate_builtin (b := .append) (xs := #[.tmp 58, .tmp 60]) rfl ?_); at_builtin; refine Kd.R_append (Kd.int .i64) (w0 := w) w.heap.size rfl (.tmp 58) (.tmp 60) 22 3 (.int .i64 0) 8 rfl Try.underlying22 info3 rfl (by decide) (by omega) (.slice (some ad115) x6_2.length co17) x6_2 t116 [.int .i64 t116] (fun _ => True) (fun _ => False) rfl rfl ?aP (fun _ hk => hk.elim) ?aF ?aO ?aB ?aS ?aL ?_; (case aP => exact rfl); (case aB => exact (gr HB.out)); (case aF => exact (fun _ _ => trivial)); (case aO => exact (by exact rk HO_6.out)); (case aS => exact (bZ_ (gr HB.out))); (case aL => have := LMc22.out; omega); intro v119 w30 ho hb hg hat; rw [← Ny118.out] at ho; have HO120 := a_ (ho); replace HO_7 := a_ (Kd.R_over' (by exact rk HO_7.out) (Kd.R_typed (by exact rk HO_6.out)) (by decide) hg); replace HB := a_ (hb); clear HO_6; clear ho hb hg hat))
    replace HO_7 := a_ (Kd.R_drew HO_7.out)
    replace HO120 := a_ (Kd.R_drew HO120.out)
    replace HB := a_ (b1_ HB.out)
    obtain ⟨Ao32, co32, eo32⟩ := Kd.R_slice HO_7.out
    (first | subst eo32 | (injection eo32 with f1_ f2_ f3_; have f4_ := f1_.symm; have f5_ := f3_.symm; clear f1_ f2_ f3_; subst f4_; subst f5_))
    have p121 : 0 ≤ (x9_1 : Int) := of_decide_eq_true (by first | (with_reducible assumption) | assumption)
    have q121 : x9_1 < (x7_2.length : Int) := of_decide_eq_true (by first | (with_reducible assumption) | assumption)
    obtain ⟨ad121, e121, hx121_0⟩ := Kd.at_string (Kd.R_reads' HO_7.out).2.2 x9_1 p121 q121
    cases e121
    replace p121 := eq_true p121
    replace q121 := eq_true q121
    refine start_ (n := 14) (S := fun w' => w'.cell? (ad121.add (x9_1).toNat) = some (.string (rdOf ByteArray.empty x7_2 x9_1))) (ds := [11, 12]) #[false, false, false, false, false, false, false, false, false, false, false, false, false, false] (by kernel_rfl) rfl rfl (hx121_0) (fun hHeld => ?_); refine with_tabW rr_numbering.tab18 rr_numbering.bits18 (fun HT_ HW_ => ?_)
    generalize w30.drew = w31 at HO_7 HO120 HB hx121_0 hHeld ⊢
    refine pure_ (i := 0) (N := some 62) (v := ?_) (a' := ?_) #[true, false, false, false, false, false, false, false, false, false, false, false, false, false] rfl rfl (any_of HT_.out (by kernel_rfl)) (fun _ _ _ h => h) (Or.inl ⟨by rfl, ?_⟩) ?_ ?_
    rotate_left
    ·intro w'
     go_simp
     with_reducible rfl
    rotate_left
    ·simp only [Act.put, List.setIfInBounds_toArray, List.set_cons_zero, List.set_cons_succ, i64_w, i32_w]
     rfl
    refine pure_ (i := 1) (N := some 63) (v := ?_) (a' := ?_) #[true, true, false, false, false, false, false, false, false, false, false, false, false, false] rfl rfl (any_of HT_.out (by kernel_rfl)) (fun _ _ _ h => h) (Or.inl ⟨by rfl, ?_⟩) ?_ ?_
    rotate_left
    ·intro w'
     go_simp
     with_reducible rfl
    rotate_left
    ·simp only [Act.put, List.setIfInBounds_toArray, List.set_cons_zero, List.set_cons_succ, i64_w, i32_w]
     rfl
    refine pure_ (i := 2) (N := some 64) (v := ?_) (a' := ?_) #[true, true, true, false, false, false, false, false, false, false, false, false, false, false] rfl rfl (any_of HT_.out (by kernel_rfl)) (fun _ _ _ h => h) (Or.inl ⟨by rfl, ?_⟩) ?_ ?_
    rotate_left
    ·intro w'
     go_simp
     with_reducible rfl
    rotate_left
    ·simp only [Act.put, List.setIfInBounds_toArray, List.set_cons_zero, List.set_cons_succ, i64_w, i32_w]
     rfl
    refine pure_ (i := 3) (N := some 65) (v := ?_) (a' := ?_) #[true, true, true, true, false, false, false, false, false, false, false, false, false, false] rfl rfl (any_of HT_.out (by kernel_rfl)) (fun _ _ _ h => h) (Or.inl ⟨by rfl, ?_⟩) ?_ ?_
    rotate_left
    ·intro w'
     go_simp
     with_reducible rfl
    rotate_left
    ·simp only [Act.put, List.setIfInBounds_toArray, List.set_cons_zero, List.set_cons_succ, i64_w, i32_w]
     rfl
    refine pure_ (i := 5) (N := some 67) (v := ?_) (a' := ?_) #[true, true, true, true, false, true, false, false, false, false, false, false, false, false] rfl rfl (any_of HT_.out (by kernel_rfl)) (fun _ _ _ h => h) (Or.inl ⟨by rfl, ?_⟩) ?_ ?_
    rotate_left
    ·intro w'
     go_simp
     with_reducible rfl
    rotate_left
    ·simp only [Act.put, List.setIfInBounds_toArray, List.set_cons_zero, List.set_cons_succ, i64_w, i32_w]
     rfl
    refine pure_ (i := 6) (N := some 68) (v := ?_) (a' := ?_) #[true, true, true, true, false, true, true, false, false, false, false, false, false, false] rfl rfl (any_of HT_.out (by kernel_rfl)) (fun _ _ _ h => h) (Or.inl ⟨by rfl, ?_⟩) ?_ ?_
    rotate_left
    ·intro w'
     go_simp
     with_reducible rfl
    rotate_left
    ·simp only [Act.put, List.setIfInBounds_toArray, List.set_cons_zero, List.set_cons_succ, i64_w, i32_w]
     rfl
    refine pure_ (i := 7) (N := some 69) (v := ?_) (a' := ?_) #[true, true, true, true, false, true, true, true, false, false, false, false, false, false] rfl rfl (any_of HT_.out (by kernel_rfl)) (fun _ _ _ h => h) (Or.inl ⟨by rfl, ?_⟩) ?_ ?_
    rotate_left
    ·intro w'
     go_simp
     with_reducible rfl
    rotate_left
    ·simp only [Act.put, List.setIfInBounds_toArray, List.set_cons_zero, List.set_cons_succ, i64_w, i32_w]
     rfl
    refine pure_ (i := 8) (N := some 70) (v := ?_) (a' := ?_) #[true, true, true, true, false, true, true, true, true, false, false, false, false, false] rfl rfl (any_of HT_.out (by kernel_rfl)) (fun _ _ _ h => h) (Or.inl ⟨by rfl, ?_⟩) ?_ ?_
    rotate_left
    ·intro w'
     go_simp
     with_reducible rfl
    rotate_left
    ·simp only [Act.put, List.setIfInBounds_toArray, List.set_cons_zero, List.set_cons_succ, i64_w, i32_w]
     rfl
    refine pure_ (i := 9) (N := some 71) (v := ?_) (a' := ?_) #[true, true, true, true, false, true, true, true, true, true, false, false, false, false] rfl rfl (any_of HT_.out (by kernel_rfl)) (fun _ _ _ h => h) (Or.inl ⟨by rfl, ?_⟩) ?_ ?_
    rotate_left
    ·intro w'
     go_simp
     with_reducible rfl
    rotate_left
    ·simp only [Act.put, List.setIfInBounds_toArray, List.set_cons_zero, List.set_cons_succ, i64_w, i32_w]
     rfl
    refine take_ (i := 4) (N := some 66) (v := ?_) (a' := ?_) #[true, true, true, true, true, true, true, true, true, true, false, false, false, false] rfl rfl (take_ofW HT_.out HW_.out (by kernel_rfl)) (fun _ _ _ h => h) (Or.inl ⟨by rfl, ?_⟩) hHeld ?_ ?_
    rotate_left
    ·intro w' s0
     go_simp
     with_reducible rfl
    rotate_left
    ·simp only [Act.put, List.setIfInBounds_toArray, List.set_cons_zero, List.set_cons_succ, i64_w, i32_w]
     rfl
    refine pure_ (i := 10) (N := some 72) (v := ?_) (a' := ?_) #[true, true, true, true, true, true, true, true, true, true, true, false, false, false] rfl rfl (any_of HT_.out (by kernel_rfl)) (fun _ _ _ h => h) (Or.inl ⟨by rfl, ?_⟩) ?_ ?_
    rotate_left
    ·intro w'
     go_simp
     with_reducible rfl
    rotate_left
    ·simp only [Act.put, List.setIfInBounds_toArray, List.set_cons_zero, List.set_cons_succ, i64_w, i32_w]
     rfl
    refine last_ (i := 11) (N := some 73) #[true, true, true, true, true, true, true, true, true, true, true, true, false, false] rfl rfl (one_of HT_.out (by kernel_rfl)) (by decide) (fun K hK => ?_)
    refine value_ (w1 := ?_) (v := ?_) (by rfl) rfl ?_ ?_
    rotate_left 2
    ·go_simp
     constructor
     ·rfl
     ·rfl
    refine hK.out _ _ ?_
    clear hK K
    refine norm_ (a' := ?_) ?_ ?_
    rotate_left
    ·show Act.put _ (some 73) _ = _
     simp only [Act.put, List.setIfInBounds_toArray, List.set_cons_zero, List.set_cons_succ, i64_w, i32_w]
     rfl
    refine last_ (i := 12) (N := some 74) #[true, true, true, true, true, true, true, true, true, true, true, true, true, false] rfl rfl (one_of HT_.out (by kernel_rfl)) (by decide) (fun K hK => ?_)
    refine Kd.R_append_step Kd.string (w0 := w) w.heap.size (by rfl) (.tmp 62) (.tmp 73) 26 9 (.string ⟨#[]⟩) 16 rfl Try.underlying26 info9 rfl (by decide) (by omega) (.slice (some ad121) x7_2.length co32) x7_2 ((rdOf ByteArray.empty x7_2 x9_1) ++ (t114.extract (x10_2 : Int).toNat ((wrap64 (x10_2 + 1)) : Int).toNat)) [.string ((rdOf ByteArray.empty x7_2 x9_1) ++ (t114.extract (x10_2 : Int).toNat ((wrap64 (x10_2 + 1)) : Int).toNat))] (fun _ => True) (fun _ => False) rfl rfl ?aP (fun _ hk => hk.elim) ?aF ?aO ?aB ?aS ?aL ?_
    (case aP => exact rfl)
    (case aB => exact (gr HB.out))
    (case aF => exact (fun _ _ => trivial))
    (case aO => exact (by exact rk HO_7.out))
    (case aS => exact (bZ_ (gr HB.out)))
    (case aL => have := LMc29.out; omega)
    intro v123 w33 ho hb hg hat
    rw [← Ny122.out] at ho
    have HO124 := a_ (ho)
    replace HO120 := a_ (Kd.R_over' (by exact rk HO120.out) (Kd.R_typed (by exact rk HO_7.out)) (by decide) hg)
    replace HB := a_ (hb)
    clear HO_7
    clear ho hb hg hat
    refine hK.out _ _ ?_
    clear hK K
    refine norm_ (a' := ?_) ?_ ?_
    rotate_left
    ·show Act.put _ (some 74) _ = _
     simp only [Act.put, List.setIfInBounds_toArray, List.set_cons_zero, List.set_cons_succ, i64_w, i32_w]
     rfl
    refine pure_ (i := 13) (N := some 7) (v := ?_) (a' := ?_) #[true, true, true, true, true, true, true, true, true, true, true, true, true, true] rfl rfl (any_of HT_.out (by kernel_rfl)) (fun _ _ _ h => h) (Or.inl ⟨by rfl, ?_⟩) ?_ ?_
    rotate_left
    ·intro w'
     go_simp
     with_reducible rfl
    rotate_left
    ·simp only [Act.put, List.setIfInBounds_toArray, List.set_cons_zero, List.set_cons_succ, i64_w, i32_w]
     rfl
    refine done_ (done_of HT_.out (by kernel_rfl)) ?_
    try go_wp2
    go_roundg k3
    case measure => have := HK1.out; have := HK2.out; have := HK3.out; omega
    case rel => exact ⟨(y118), (y122), (wrap64 (x10_2 + 1)), (by first | rfl | (simp; done) | (simp [*]; done)), H', ⟨by have := HK1.out; have := HK2.out; have := HK3.out; omega⟩, ⟨by exact rk HO120.out⟩, ⟨by exact rk HO124.out⟩, ⟨by exact gs HB.out⟩⟩
def rr_Connected.f (k : Nat) (l0 : List (List Int)) : Option (Bool) := (rr_numbering.f k l0 0).bind fun bt125 => (if 0 < (l0.length : Int) then (some ((bt125.1.length : Int) == ((rd_L1 l0 0).length : Int))) else (none))
theorem rr_Connected.calls (k : Nat) (A0 : Option Addr) (c0 : Nat) (l0 : List (List Int)) (r : Bool) (w : World) (hr0 : Kd.C (Kd.slice 3 (Kd.int .i64)) w A0 l0.length l0) (hc0 : l0.length ≤ c0) (h : rr_Connected.f k l0 = some r) :
  Calls Try.prog 30 #[.slice A0 l0.length c0] w fun e w' => e = .returned (.bool r) ∧ Below w.heap.size w w' := by
 have HR0 := a_ hr0
 have HC0 := a_ hc0
 clear hr0 hc0
 have HB := a_ (Below.refl w.heap.size w)
 have H : ((rr_numbering.f k l0 0).bind fun bt125 => (if 0 < (l0.length : Int) then (some ((bt125.1.length : Int) == ((rd_L1 l0 0).length : Int))) else (none))) = some r := h
 clear h
 replace H := Option.bind_eq_some_iff.mp H
 obtain ⟨⟨t125, t126⟩, A20, H⟩ := H
 try dsimp only at H
 have A2 := a_ A20
 clear A20
 by_cases c3 : 0 < (l0.length : Int)
 rotate_left
 ·rw [if_neg c3] at H
  exact absurd H (by simp)
 rw [if_pos c3] at H
 have c3b0 : decide (0 < (l0.length : Int)) = true := decide_eq_true c3
 have c3b1 : decide (0 < l0.length) = true := decide_eq_true (by omega)
 clear c3
 obtain rfl := Option.some.inj H
 go_enter Try.func30, Try.ntmps30
 go_wp2_with (first | ((with_reducible refine gate_callee (f := 67) rfl ?_); refine goesL_ (some 7) rfl rfl Try.func67 (by kernel_rfl) rfl #[.slice A0 l0.length c0, .int .i64 0] rfl (by (try simp only [List.map_toArray, List.map_cons, List.map_nil]); first | done | rfl | (simp only [List.length_drop, List.length_take]; rfl)) ?_; (with_reducible refine (rr_numbering.calls k _ _ l0 0 t125 t126 _ ?side1 ?side2 A2.out).mono ?_); (case side1 => repeat (first | exact HR0.out | (with_reducible refine Kd.C_alloc ?_ _) | (with_reducible refine Kd.C_drewN ?_ _) | (with_reducible refine Kd.C_drew ?_))); (case side2 => exact HC0.out); rintro e w4 ⟨v127, v129, rfl, ho0, ho1, hb⟩; refine ⟨_, rfl, ?_⟩; have HO128 := a_ (Kd.R_lower ho0 (bZ_ (gr HB.out))); have HO130 := a_ (Kd.R_lower ho1 (bZ_ (gr HB.out))); replace HB := a_ (bT_ HB.out (tr hb)); (try clear hb); (try clear hb2); (try clear hk); (try clear hi); (try clear ho0); (try clear ho1); obtain ⟨Ao5, co5, eo5⟩ := Kd.R_slice HO128.out; subst eo5; have p131 : 0 ≤ (0 : Int) := (by omega); have q131 : 0 < (l0.length : Int) := of_decide_eq_true (by first | (with_reducible assumption) | assumption); obtain ⟨ad131, A131_0, c131_0, e131, hx131_0, hl131_0, hi131_0⟩ := at_L1 HR0.out 0 p131 q131; cases e131; have qi131 : (0 < l0.length) = True := eq_true (by omega); (try rw [show ((0 : Int)).toNat = 0 from rfl] at hx131_0); (try rw [Addr.add_zero'] at hx131_0); replace hx131_0 := (HB.out.cell (World.block_lt_of_cell? w _ hx131_0)).trans hx131_0; have HR131_0 := a_ hi131_0; have HC131_0 := a_ hl131_0; clear hi131_0 hl131_0; replace p131 := eq_true p131; replace q131 := eq_true q131))
 go_ret
 exact ⟨by first | rfl | (simp [errW_none, errW_some] <;> rfl) | (simp [*, errW_none, errW_some] <;> rfl), by exact gs HB.out⟩
mutual
def rr_Renumber.l0 : Nat → List (List Int) → List Int → List Int → Int → Option ((List (List Int)))
 | 0, _, _, _, _ => none
 | k + 1, x0, x5, x7, x8 => if x8 < (x5.length : Int) then (if 0 ≤ x8 then (if 0 ≤ (rd x5 x8) then (if (rd x5 x8) < (x7.length : Int) then (rr_Renumber.l0 k x0 x5 (x7.set ((rd x5 x8) : Int).toNat x8) (wrap64 (x8 + 1))) else (none)) else (none)) else (none)) else (rr_Renumber.l1 k x0 x5 x7 ([] : List (List Int)) 0)
def rr_Renumber.l1 : Nat → List (List Int) → List Int → List Int → List (List Int) → Int → Option ((List (List Int)))
 | 0, _, _, _, _, _ => none
 | k + 1, x0, x5, x7, x9, x10 => if x10 < (x0.length : Int) then (rr_Renumber.l2 k x0 x5 x7 x9 x10 ([] : List Int) 0) else (some x9)
def rr_Renumber.l2 : Nat → List (List Int) → List Int → List Int → List (List Int) → Int → List Int → Int → Option ((List (List Int)))
 | 0, _, _, _, _, _, _, _ => none
 | k + 1, x0, x5, x7, x9, x10, x11, x12 => if x12 < (x5.length : Int) then (if 0 ≤ x10 then (if x10 < (x0.length : Int) then (if 0 ≤ x12 then (if 0 ≤ (rd x5 x12) then (if (rd x5 x12) < ((rd_L1 x0 x10).length : Int) then (if 0 ≤ (rd (rd_L1 x0 x10) (rd x5 x12)) then (if (rd (rd_L1 x0 x10) (rd x5 x12)) < (x7.length : Int) then (if x11.length < 17592186044416 then (rr_Renumber.l2 k x0 x5 x7 x9 x10 (x11 ++ [rd x7 (rd (rd_L1 x0 x10) (rd x5 x12))]) (wrap64 (x12 + 1))) else (none)) else (none)) else (none)) else (none)) else (none)) else (none)) else (none)) else (none)) else (if x9.length < 5864062014805 then (rr_Renumber.l1 k x0 x5 x7 (x9 ++ [x11]) (wrap64 (x10 + 1))) else (none))
end
def rr_Renumber.f (k : Nat) (l0 : List (List Int)) (a1 : Int) : Option ((List (List Int))) := (rr_numbering.f k l0 a1).bind fun bt132 => (if 0 ≤ (bt132.1.length : Int) then (if ((bt132.1.length : Int) : Int).toNat ≤ 35184372088832 then (rr_Renumber.l0 k l0 bt132.1 (List.replicate ((bt132.1.length : Int) : Int).toNat 0) 0) else (none)) else (none))
def rr_Renumber.T15 : Bool × List (List Nat × List Nat) := (true, [([], []), ([], []), ([], []), ([], []), ([2, 3], [2, 3]), ([4], [4]), ([], []), ([], []), ([6, 7], [6, 7]), ([8], [8]), ([5, 9], [5, 9]), ([10], [10]), ([1, 11], [1, 11]), ([12], [12]), ([13], [13]), ([0, 14], [0, 14]), ([15, 15, 0, 1, 2, 3, 4, 5, 6, 7, 8, 9, 10, 11, 12, 13, 14, 15], [0, 15])])
def rr_Renumber.B15 : List Nat := [0, 0, 0, 0, 12, 28, 0, 0, 192, 448, 1020, 2044, 4094, 8190, 16382, 32767, 65535]
theorem rr_Renumber.tab15 : rtab .any (opsOf Try.f32 15) = rr_Renumber.T15 := by kernel_rfl
theorem rr_Renumber.bits15 : waitsOk rr_Renumber.T15.2 rr_Renumber.B15 = true := by kernel_rfl
theorem rr_Renumber.calls (k : Nat) (A0 : Option Addr) (c0 : Nat) (l0 : List (List Int)) (a1 : Int) (r : List (List Int)) (w : World) (hr0 : Kd.C (Kd.slice 3 (Kd.int .i64)) w A0 l0.length l0) (hc0 : l0.length ≤ c0) (h : rr_Renumber.f k l0 a1 = some r) :
  Calls Try.prog 32 #[.slice A0 l0.length c0, .int .i64 a1] w fun e w' => ∃ v0_ : Value, e = .returned (v0_) ∧ Kd.S (Kd.slice 3 (Kd.int .i64)) 22 w' w.heap.size (fun _ => True) v0_ r ∧ Below w.heap.size w w' := by
 have HR0 := a_ hr0
 have HC0 := a_ hc0
 clear hr0 hc0
 have HB := a_ (Below.refl w.heap.size w)
 have H : ((rr_numbering.f k l0 a1).bind fun bt132 => (if 0 ≤ (bt132.1.length : Int) then (if ((bt132.1.length : Int) : Int).toNat ≤ 35184372088832 then (rr_Renumber.l0 k l0 bt132.1 (List.replicate ((bt132.1.length : Int) : Int).toNat 0) 0) else (none)) else (none))) = some r := h
 clear h
 replace H := Option.bind_eq_some_iff.mp H
 obtain ⟨⟨t132, t133⟩, A30, H⟩ := H
 try dsimp only at H
 have A3 := a_ A30
 clear A30
 by_cases c4 : 0 ≤ (t132.length : Int)
 rotate_left
 ·rw [if_neg c4] at H
  exact absurd H (by simp)
 rw [if_pos c4] at H
 have c4b0 := eq_true c4
 have c4b1 : decide (0 ≤ (t132.length : Int)) = true := decide_eq_true c4
 have KFc4 := a_ c4
 clear c4
 by_cases c5 : ((t132.length : Int) : Int).toNat ≤ 35184372088832
 rotate_left
 ·rw [if_neg c5] at H
  exact absurd H (by simp)
 rw [if_pos c5] at H
 have c5b0 := eq_true c5
 have c5b1 : decide (((t132.length : Int) : Int).toNat ≤ 35184372088832) = true := decide_eq_true c5
 clear c5
 obtain ⟨y138, hy138⟩ : ∃ y_ : List Int, y_ = (List.replicate ((t132.length : Int) : Int).toNat 0) := ⟨_, rfl⟩
 replace H : (rr_Renumber.l0 k l0 t132 y138 0) = some r := by first | (rw [hy138]; with_reducible exact H) | (have H2_ := (Option.bind_some _ _).symm.trans H; rw [hy138]; with_reducible exact H2_) | (have H2_ := (Option.bind_some _ _).symm.trans H; with_reducible exact H2_) | with_reducible exact H | (rw [hy138]; exact H) | exact H
 have Ny138 := a_ hy138
 clear hy138
 have H' := a_ H
 clear H
 go_enter Try.func32, Try.ntmps32
 go_wp2_with (first | ((with_reducible refine gate_callee (f := 67) rfl ?_); refine goesL_ (some 16) rfl rfl Try.func67 (by kernel_rfl) rfl #[.slice A0 l0.length c0, .int .i64 a1] rfl (by (try simp only [List.map_toArray, List.map_cons, List.map_nil]); first | done | rfl | (simp only [List.length_drop, List.length_take]; rfl)) ?_; (with_reducible refine (rr_numbering.calls k _ _ l0 a1 t132 t133 _ ?side1 ?side2 A3.out).mono ?_); (case side1 => repeat (first | exact HR0.out | (with_reducible refine Kd.C_alloc ?_ _) | (with_reducible refine Kd.C_drewN ?_ _) | (with_reducible refine Kd.C_drew ?_))); (case side2 => exact HC0.out); rintro e w6 ⟨v134, v136, rfl, ho0, ho1, hb⟩; refine ⟨_, rfl, ?_⟩; have HO135 := a_ (Kd.R_lower ho0 (bZ_ (gr HB.out))); have HO137 := a_ (Kd.R_lower ho1 (bZ_ (gr HB.out))); replace HB := a_ (bT_ HB.out (tr hb)); (try clear hb); (try clear hb2); (try clear hk); (try clear hi); (try clear ho0); (try clear ho1); obtain ⟨Ao7, co7, eo7⟩ := Kd.R_slice HO135.out; subst eo7) | ((with_reducible refine gate_dst (N := 21) rfl ?_); refine Kd.R_make (Kd.int .i64) _ 3 rfl (N := 21) rfl 22 _ _ rfl (t132.length : Int) rfl rfl Try.underlying22 (.int .i64 0) 8 info3 rfl (by decide) (by omega) 0 (ok := fun _ => True) (okp := fun _ => True) rfl (fun _ hk => hk) trivial (of_decide_eq_true (by first | (with_reducible assumption) | assumption)) (Nat.le_trans (Nat.mul_le_mul_right _ (of_decide_eq_true (by first | (with_reducible assumption) | assumption) : (t132.length : Int).toNat ≤ 35184372088832)) (by omega)) (Below.refl _ _) (Nat.le_refl _) ?_; intro v139 w8 ho9 hb hg_ hnew_; clear hg_ hnew_; (first | rw [← Ny138.out] at ho9 | (simp only [Int.reduceToNat] at ho9; rw [← Ny138.out] at ho9)); have HO140 := a_ (Kd.R_lower (Kd.R_new' ho9 (Kd.R_lt (by exact rk HO135.out))) (bZ_ (gr HB.out))); replace HO135 := a_ (Kd.R_elder' (by exact rk HO135.out) (Kd.R_base ho9) hb); replace HO137 := a_ (Kd.R_below HO137.out (tr hb)); replace HB := a_ (bT_ HB.out (tr hb)); clear hb ho9))
 go_loopg [8] k (fun kq v8 w' => ∃ (x7_1 : List Int) (x8_1 : Int), v8 = .int .i64 x8_1 ∧ Aside0 (rr_Renumber.l0 kq l0 t132 x7_1 x8_1 = some r) ∧ Aside0 (kq ≤ k) ∧ Aside0 (Kd.R (Kd.int .i64) 3 w' w.heap.size (fun k_ => some k_ ≠ (v139 : Value).ownBlock) (.slice Ao7 t132.length co7) t132) ∧ Aside0 (Kd.R (Kd.int .i64) 3 w' w.heap.size (fun k_ => some k_ ≠ ((.slice Ao7 t132.length co7) : Value).ownBlock) v139 x7_1) ∧ Aside0 (Below w.heap.size w w'))
 case atStart => exact ⟨(y138), (0), (by first | rfl | (simp; done) | (simp [*]; done)), H', ⟨Nat.le_refl _⟩, ⟨by exact rk (Kd.R_mono HO135.out (fun _ hk => hk.2))⟩, ⟨by exact rk (Kd.R_mono HO140.out (fun _ hk => hk.2))⟩, ⟨by exact gs HB.out⟩⟩
 clear H'
 try clear p2
 try clear c3
 try clear c4
 try clear c4b0
 try clear c4b1
 try clear c5
 try clear c5b0
 try clear c5b1
 try clear c6
 obtain ⟨x7_1, x8_1, rfl, HA, HK1, HO_5, HO_7, HB⟩ := hrel
 cases gk with
 | zero => exact absurd HA.out (by simp [rr_Renumber.l0])
 | succ k1 =>
  have H := HA.out
  clear HA
  simp only [rr_Renumber.l0] at H
  by_cases c10 : x8_1 < (t132.length : Int)
  ·rw [if_pos c10] at H
   have c10b0 : decide (x8_1 < (t132.length : Int)) = true := decide_eq_true c10
   clear c10
   by_cases c11 : 0 ≤ x8_1
   rotate_left
   ·rw [if_neg c11] at H
    exact absurd H (by simp)
   rw [if_pos c11] at H
   have c11b0 : decide (0 ≤ x8_1) = true := decide_eq_true c11
   clear c11
   by_cases c12 : 0 ≤ (rd t132 x8_1)
   rotate_left
   ·rw [if_neg c12] at H
    exact absurd H (by simp)
   rw [if_pos c12] at H
   have c12b0 : decide (0 ≤ (rd t132 x8_1)) = true := decide_eq_true c12
   clear c12
   by_cases c13 : (rd t132 x8_1) < (x7_1.length : Int)
   rotate_left
   ·rw [if_neg c13] at H
    exact absurd H (by simp)
   rw [if_pos c13] at H
   have c13b0 : decide ((rd t132 x8_1) < (x7_1.length : Int)) = true := decide_eq_true c13
   clear c13
   obtain ⟨y142, hy142⟩ : ∃ y_ : List Int, y_ = (x7_1.set ((rd t132 x8_1) : Int).toNat x8_1) := ⟨_, rfl⟩
   replace H : (rr_Renumber.l0 k1 l0 t132 y142 (wrap64 (x8_1 + 1))) = some r := by first | (rw [hy142]; with_reducible exact H) | (have H2_ := (Option.bind_some _ _).symm.trans H; rw [hy142]; with_reducible exact H2_) | (have H2_ := (Option.bind_some _ _).symm.trans H; with_reducible exact H2_) | with_reducible exact H | (rw [hy142]; exact H) | exact H
   have Ny142 := a_ hy142
   clear hy142
   have H' := a_ H
   clear H
   have p141 : 0 ≤ (x8_1 : Int) := of_decide_eq_true (by first | (with_reducible assumption) | assumption)
   have q141 : x8_1 < (t132.length : Int) := of_decide_eq_true (by first | (with_reducible assumption) | assumption)
   obtain ⟨ad141, e141, hx141_0⟩ := Kd.at_int (Kd.R_reads' HO_5.out).2.2 x8_1 p141 q141
   cases e141
   replace p141 := eq_true p141
   replace q141 := eq_true q141
   have p14 : 0 ≤ ((rd t132 x8_1) : Int) := of_decide_eq_true (by first | (with_reducible assumption) | assumption)
   have q14 : ((rd t132 x8_1) : Int) < ((x7_1.length : Int) : Int) := of_decide_eq_true (by first | (with_reducible assumption) | assumption)
   obtain ⟨go14, co14, eo14, gb14, gl14, cl14, HG14⟩ := Kd.R_form HO_7.out (by omega)
   (first | cases eo14 | (injection eo14 with ea_ en_ ec_; (first | subst ea_ | (injection ea_ with ea_; subst ea_)); subst ec_; clear en_))
   have GB14 := a_ gb14
   have GG14 := a_ HG14
   clear gb14 gl14 HG14
   obtain ⟨hx14_0, hf14_0⟩ := Kd.R_celln 0 HO_7.out ((rd t132 x8_1) : Int) p14 q14
   replace p14 := eq_true p14
   replace q14 := eq_true q14
   have HP15 := Kd.R_putg HO_7.out ((rd t132 x8_1) : Int) x8_1
   go_wp2_with (first | ((with_reducible refine gate_store (t := 3) (p := 34) rfl ?_); refine store_event (t := 3) (p := 34) (v := ?vo_w16) (w1 := (wr.setCell ⟨go14, ((rd t132 x8_1) : Int).toNat, none⟩ (.int .i64 x8_1))) ?hg ?ho ?hn ?hr ?_; (case ho => rfl); (case hg => rfl); (case hn => rfl); (case hr => first | (go_simp; done) | (go_simp; rfl)); intro w16 hw; have hg : wr.grownBy w16 (some go14) := (by rw [hw]; exact HP15.2); have hp_ : Kd.R (Kd.int .i64) 3 w16 w.heap.size (fun k_ => some k_ ≠ (.slice (some ad141) t132.length co7 : Value).ownBlock) (.slice (some ⟨go14, 0, none⟩) x7_1.length co14) y142 := (by rw [hw, Ny142.out]; exact HP15.1); clear HP15; replace HO_5 := a_ (Kd.R_after (v := (.slice (some ⟨go14, 0, none⟩) x7_1.length co14)) (v1 := (.slice (some ⟨go14, 0, none⟩) x7_1.length co14)) (ok := (fun _ => True)) (by exact rk (Kd.R_mono HO_5.out (fun _ hk => ⟨trivial, hk⟩))) hg (.inl rfl)); replace HO_7 := a_ (hp_); replace HB := a_ ((by rw [hw]; exact bS_ (HB.out) GB14.out : Below w.heap.size w w16)); clear hg hw hp_))
   go_roundg k1
   case measure => have := HK1.out; omega
   case rel => exact ⟨(y142), (wrap64 (x8_1 + 1)), (by first | rfl | (simp; done) | (simp [*]; done)), H', ⟨by have := HK1.out; omega⟩, ⟨by exact rk (Kd.R_mono HO_5.out (fun _ hk => hk.2))⟩, ⟨by exact rk HO_7.out⟩, ⟨by exact gs HB.out⟩⟩
  rw [if_neg c10] at H
  have c10b0 : decide (x8_1 < (t132.length : Int)) = false := decide_eq_false c10
  clear c10
  have H' := a_ H
  clear H
  go_wp2
  go_loopg [9, 10] k1 (fun kq v9 v10 w' => ∃ (x9_2 : List (List Int)) (x10_2 : Int), v10 = .int .i64 x10_2 ∧ Aside0 (rr_Renumber.l1 kq l0 t132 x7_1 x9_2 x10_2 = some r) ∧ Aside0 (kq ≤ k1) ∧ Aside0 (Kd.R (Kd.int .i64) 3 w' w.heap.size (fun k_ => some k_ ≠ (v139 : Value).ownBlock) (.slice Ao7 t132.length co7) t132) ∧ Aside0 (Kd.R (Kd.int .i64) 3 w' w.heap.size (fun k_ => some k_ ≠ ((.slice Ao7 t132.length co7) : Value).ownBlock) v139 x7_1) ∧ Aside0 (Kd.S (Kd.slice 3 (Kd.int .i64)) 22 w' w.heap.size (fun k_ => some k_ ≠ ((.slice Ao7 t132.length co7) : Value).ownBlock ∧ some k_ ≠ (v139 : Value).ownBlock) v9 x9_2) ∧ Aside0 (Below w.heap.size w w'))
  case atStart => exact ⟨(([] : List (List Int))), (0), (by first | rfl | (simp; done) | (simp [*]; done)), H', ⟨Nat.le_refl _⟩, ⟨by exact rk HO_5.out⟩, ⟨by exact rk HO_7.out⟩, ⟨by first | exact Kd.S_nil _ _ _ _ _ | exact Kd.N_nil _ _ _ _ _ | exact Kd.V_nil _ _ _ _ _ | exact Kd.Q_nil _ _ _ _ _ | exact Kd.R_nil _ _ _ _ _⟩, ⟨by exact gs HB.out⟩⟩
  clear H'
  try clear c1
  try clear p1
  try clear q1
  try clear hx1
  try clear p2
  try clear c3
  try clear c4
  try clear c4b0
  try clear c4b1
  try clear c5
  try clear c5b0
  try clear c5b1
  try clear c6
  try clear p6
  try clear c10
  try clear c10b0
  try clear c11
  try clear c11b0
  try clear c12
  try clear c12b0
  try clear c13
  try clear c13b0
  try clear p14
  try clear q14
  try clear hx14
  try clear hf14
  try clear hx141_0
  try clear hx14_0
  try clear p14
  try clear p141
  try clear p2
  try clear q14
  try clear q141
  obtain ⟨x9_2, x10_2, rfl, HA, HK2, HO_5, HO_7, HO_9, HB⟩ := hrel
  cases gk with
  | zero => exact absurd HA.out (by simp [rr_Renumber.l1])
  | succ k2 =>
   have H := HA.out
   clear HA
   simp only [rr_Renumber.l1] at H
   by_cases c17 : x10_2 < (l0.length : Int)
   rotate_left
   ·rw [if_neg c17] at H
    have c17b0 : decide (x10_2 < (l0.length : Int)) = false := decide_eq_false c17
    clear c17
    obtain rfl := Option.some.inj H
    go_wp2
    go_ret
    exact ⟨_, by first | rfl | (simp [errW_none, errW_some] <;> rfl) | (simp [*, errW_none, errW_some] <;> rfl), by (with_reducible repeat (first | apply Kd.S_alloc | apply Kd.S_drewN | apply Kd.S_drew)); exact Kd.S_mono HO_9.out (fun _ hk => trivial), by exact gs HB.out⟩
   rw [if_pos c17] at H
   have c17b0 : decide (x10_2 < (l0.length : Int)) = true := decide_eq_true c17
   clear c17
   have H' := a_ H
   clear H
   go_wp2
   go_loopg [11, 12] k2 (fun kq v11 v12 w' => ∃ (x11_3 : List Int) (x12_3 : Int), v12 = .int .i64 x12_3 ∧ Aside0 (rr_Renumber.l2 kq l0 t132 x7_1 x9_2 x10_2 x11_3 x12_3 = some r) ∧ Aside0 (kq ≤ k2) ∧ Aside0 (Kd.R (Kd.int .i64) 3 w' w.heap.size (fun k_ => some k_ ≠ (v139 : Value).ownBlock ∧ some k_ ≠ (v11 : Value).ownBlock) (.slice Ao7 t132.length co7) t132) ∧ Aside0 (Kd.R (Kd.int .i64) 3 w' w.heap.size (fun k_ => some k_ ≠ ((.slice Ao7 t132.length co7) : Value).ownBlock ∧ some k_ ≠ (v11 : Value).ownBlock) v139 x7_1) ∧ Aside0 (Kd.S (Kd.slice 3 (Kd.int .i64)) 22 w' w.heap.size (fun k_ => some k_ ≠ ((.slice Ao7 t132.length co7) : Value).ownBlock ∧ some k_ ≠ (v139 : Value).ownBlock ∧ some k_ ≠ (v11 : Value).ownBlock) u9 x9_2) ∧ Aside0 (Kd.R (Kd.int .i64) 3 w' w.heap.size (fun k_ => some k_ ≠ ((.slice Ao7 t132.length co7) : Value).ownBlock ∧ some k_ ≠ (v139 : Value).ownBlock) v11 x11_3) ∧ Aside0 (Below w.heap.size w w'))
   case atStart => exact ⟨(([] : List Int)), (0), (by first | rfl | (simp; done) | (simp [*]; done)), H', ⟨Nat.le_refl _⟩, ⟨by exact rk (Kd.R_mono HO_5.out (fun _ hk => ⟨hk, (by simp [Value.ownBlock])⟩))⟩, ⟨by exact rk (Kd.R_mono HO_7.out (fun _ hk => ⟨hk, (by simp [Value.ownBlock])⟩))⟩, ⟨by (with_reducible repeat (first | apply Kd.S_alloc | apply Kd.S_drewN | apply Kd.S_drew)); exact Kd.S_mono HO_9.out (fun _ hk => ⟨hk.1, ⟨hk.2, (by simp [Value.ownBlock])⟩⟩)⟩, ⟨by first | exact Kd.R_nil _ _ _ _ _ | exact Kd.N_nil _ _ _ _ _ | exact Kd.V_nil _ _ _ _ _ | exact Kd.Q_nil _ _ _ _ _ | exact Kd.S_nil _ _ _ _ _⟩, ⟨by exact gs HB.out⟩⟩
   clear H'
   try clear c1
   try clear p1
   try clear q1
   try clear hx1
   try clear p2
   try clear c3
   try clear c4
   try clear c4b0
   try clear c4b1
   try clear c5
   try clear c5b0
   try clear c5b1
   try clear c6
   try clear p6
   try clear c10
   try clear c10b0
   try clear c11
   try clear c11b0
   try clear c12
   try clear c12b0
   try clear c13
   try clear c13b0
   try clear p14
   try clear q14
   try clear hx14
   try clear hf14
   try clear c17
   try clear c17b0
   try clear hx141_0
   try clear hx14_0
   try clear p1
   try clear p14
   try clear p141
   try clear p2
   try clear p6
   try clear q1
   try clear q14
   try clear q141
   obtain ⟨x11_3, x12_3, rfl, HA, HK3, HO_5, HO_7, HO_9, HO_11, HB⟩ := hrel
   cases gk with
   | zero => exact absurd HA.out (by simp [rr_Renumber.l2])
   | succ k3 =>
    have H := HA.out
    clear HA
    simp only [rr_Renumber.l2] at H
    by_cases c18 : x12_3 < (t132.length : Int)
    rotate_left
    ·rw [if_neg c18] at H
     have c18b0 : decide (x12_3 < (t132.length : Int)) = false := decide_eq_false c18
     clear c18
     by_cases c30 : x9_2.length < 5864062014805
     rotate_left
     ·rw [if_neg c30] at H
      exact absurd H (by simp)
     rw [if_pos c30] at H
     have LMc30 := a_ c30
     clear c30
     obtain ⟨y150, hy150⟩ : ∃ y_ : List (List Int), y_ = (x9_2 ++ [x11_3]) := ⟨_, rfl⟩
     replace H : (rr_Renumber.l1 k3 l0 t132 x7_1 y150 (wrap64 (x10_2 + 1))) = some r := by first | (rw [hy150]; with_reducible exact H) | (have H2_ := (Option.bind_some _ _).symm.trans H; rw [hy150]; with_reducible exact H2_) | (have H2_ := (Option.bind_some _ _).symm.trans H; with_reducible exact H2_) | with_reducible exact H | (rw [hy150]; exact H) | exact H
     have Ny150 := a_ hy150
     clear hy150
     have H' := a_ H
     clear H
     obtain ⟨Ao32, co32, eo32⟩ := Kd.R_slice HO_11.out
     subst eo32
     go_wp2_with (first | ((with_reducible refine gate_builtin (b := .append) (xs := #[.tmp 63, .tmp 65]) rfl ?_); at_builtin; refine Kd.S_append (Kd.slice 3 (Kd.int .i64)) (w0 := w) w.heap.size rfl (.tmp 63) (.tmp 65) 23 22 (.slice none 0 0) 24 rfl Try.underlying23 info22 rfl (by decide) (by omega) u9 x9_2 x11_3 [.slice Ao32 x11_3.length co32] (fun k_ => some k_ ≠ (.slice Ao7 t132.length co7 : Value).ownBlock ∧ some k_ ≠ (v139 : Value).ownBlock) (fun k_ => some k_ = (.slice Ao32 x11_3.length co32 : Value).ownBlock) rfl rfl ?aP (fun k_ hk_ => ((Kd.R_mono (ok' := fun k_ => ((fun k_ => some k_ ≠ (.slice Ao7 t132.length co7 : Value).ownBlock ∧ some k_ ≠ (v139 : Value).ownBlock)) k_ ∧ some k_ ≠ (u9 : Value).ownBlock) (Kd.R_apart' (HO_11.out) (Kd.S_typed HO_9.out) (by decide)) (fun k_ hk => ⟨⟨hk.1.1, hk.1.2⟩, hk.2⟩))).1 k_ hk_.symm) ?aF ?aO ?aB ?aS ?aL ?_; (case aP => exact Kd.M_row (Kd.R_mono (Kd.R_tight rfl (Kd.R_mono (ok' := fun k_ => ((fun k_ => some k_ ≠ (.slice Ao7 t132.length co7 : Value).ownBlock ∧ some k_ ≠ (v139 : Value).ownBlock)) k_ ∧ some k_ ≠ (u9 : Value).ownBlock) (Kd.R_apart' (HO_11.out) (Kd.S_typed HO_9.out) (by decide)) (fun k_ hk => ⟨⟨hk.1.1, hk.1.2⟩, hk.2⟩))) (fun _ h_ => h_))); (case aB => exact (gr HB.out)); (case aF => exact (fun k_ hk => ⟨Kd.fresh' (Kd.R_lt (by exact rk HO_5.out)) k_ hk, Kd.fresh' (Kd.R_lt (by exact rk HO_7.out)) k_ hk⟩)); (case aO => exact (by (with_reducible repeat (first | apply Kd.S_alloc | apply Kd.S_drewN | apply Kd.S_drew)); exact Kd.S_mono HO_9.out (fun k_ hk => ⟨⟨hk.1, hk.2.1⟩, fun e_ => hk.2.2 e_⟩))); (case aS => exact (bZ_ (gr HB.out))); (case aL => have := LMc30.out; omega); intro v151 w31 ho hb hg hat; rw [← Ny150.out] at ho; have HO152 := a_ (ho); replace HO_5 := a_ (Kd.R_over' (by exact rk HO_5.out) (Kd.S_typed (by (with_reducible repeat (first | apply Kd.S_alloc | apply Kd.S_drewN | apply Kd.S_drew)); exact HO_9.out)) (by decide) hg); replace HO_7 := a_ (Kd.R_over' (by exact rk HO_7.out) (Kd.S_typed (by (with_reducible repeat (first | apply Kd.S_alloc | apply Kd.S_drewN | apply Kd.S_drew)); exact HO_9.out)) (by decide) hg); replace HB := a_ (hb); clear HO_9 HO_11; clear ho hb hg hat))
     go_roundg k3
     case measure => have := HK1.out; have := HK2.out; have := HK3.out; omega
     case rel => exact ⟨(y150), (wrap64 (x10_2 + 1)), (by first | rfl | (simp; done) | (simp [*]; done)), H', ⟨by have := HK1.out; have := HK2.out; have := HK3.out; omega⟩, ⟨by exact rk (Kd.R_mono HO_5.out (fun _ hk => hk.1))⟩, ⟨by exact rk (Kd.R_mono HO_7.out (fun _ hk => hk.1))⟩, ⟨by (with_reducible repeat (first | apply Kd.S_alloc | apply Kd.S_drewN | apply Kd.S_drew)); exact HO152.out⟩, ⟨by exact gs HB.out⟩⟩
    rw [if_pos c18] at H
    have c18b0 : decide (x12_3 < (t132.length : Int)) = true := decide_eq_true c18
    clear c18
    by_cases c19 : 0 ≤ x10_2
    rotate_left
    ·rw [if_neg c19] at H
     exact absurd H (by simp)
    rw [if_pos c19] at H
    have c19b0 : decide (0 ≤ x10_2) = true := decide_eq_true c19
    clear c19
    by_cases c20 : x10_2 < (l0.length : Int)
    rotate_left
    ·rw [if_neg c20] at H
     exact absurd H (by simp)
    rw [if_pos c20] at H
    have c20b0 : decide (x10_2 < (l0.length : Int)) = true := decide_eq_true c20
    clear c20
    by_cases c21 : 0 ≤ x12_3
    rotate_left
    ·rw [if_neg c21] at H
     exact absurd H (by simp)
    rw [if_pos c21] at H
    have c21b0 : decide (0 ≤ x12_3) = true := decide_eq_true c21
    clear c21
    by_cases c22 : 0 ≤ (rd t132 x12_3)
    rotate_left
    ·rw [if_neg c22] at H
     exact absurd H (by simp)
    rw [if_pos c22] at H
    have c22b0 : decide (0 ≤ (rd t132 x12_3)) = true := decide_eq_true c22
    clear c22
    by_cases c23 : (rd t132 x12_3) < ((rd_L1 l0 x10_2).length : Int)
    rotate_left
    ·rw [if_neg c23] at H
     exact absurd H (by simp)
    rw [if_pos c23] at H
    have c23b0 : decide ((rd t132 x12_3) < ((rd_L1 l0 x10_2).length : Int)) = true := decide_eq_true c23
    clear c23
    by_cases c24 : 0 ≤ (rd (rd_L1 l0 x10_2) (rd t132 x12_3))
    rotate_left
    ·rw [if_neg c24] at H
     exact absurd H (by simp)
    rw [if_pos c24] at H
    have c24b0 : decide (0 ≤ (rd (rd_L1 l0 x10_2) (rd t132 x12_3))) = true := decide_eq_true c24
    clear c24
    by_cases c25 : (rd (rd_L1 l0 x10_2) (rd t132 x12_3)) < (x7_1.length : Int)
    rotate_left
    ·rw [if_neg c25] at H
     exact absurd H (by simp)
    rw [if_pos c25] at H
    have c25b0 : decide ((rd (rd_L1 l0 x10_2) (rd t132 x12_3)) < (x7_1.length : Int)) = true := decide_eq_true c25
    clear c25
    by_cases c26 : x11_3.length < 17592186044416
    rotate_left
    ·rw [if_neg c26] at H
     exact absurd H (by simp)
    rw [if_pos c26] at H
    have LMc26 := a_ c26
    clear c26
    obtain ⟨y147, hy147⟩ : ∃ y_ : List Int, y_ = (x11_3 ++ [rd x7_1 (rd (rd_L1 l0 x10_2) (rd t132 x12_3))]) := ⟨_, rfl⟩
    replace H : (rr_Renumber.l2 k3 l0 t132 x7_1 x9_2 x10_2 y147 (wrap64 (x12_3 + 1))) = some r := by first | (rw [hy147]; with_reducible exact H) | (have H2_ := (Option.bind_some _ _).symm.trans H; rw [hy147]; with_reducible exact H2_) | (have H2_ := (Option.bind_some _ _).symm.trans H; with_reducible exact H2_) | with_reducible exact H | (rw [hy147]; exact H) | exact H
    have Ny147 := a_ hy147
    clear hy147
    have H' := a_ H
    clear H
    try go_wp2
    replace HO_5 := a_ (Kd.R_drew HO_5.out)
    replace HO_7 := a_ (Kd.R_drew HO_7.out)
    replace HO_9 := a_ (Kd.S_drew HO_9.out)
    replace HO_11 := a_ (Kd.R_drew HO_11.out)
    replace HB := a_ (b1_ HB.out)
    have p143 : 0 ≤ (x10_2 : Int) := of_decide_eq_true (by first | (with_reducible assumption) | assumption)
    have q143 : x10_2 < (l0.length : Int) := of_decide_eq_true (by first | (with_reducible assumption) | assumption)
    obtain ⟨ad143, A143_0, c143_0, e143, hx143_0, hl143_0, hi143_0⟩ := at_L1 HR0.out x10_2 p143 q143
    have hw143_0 := hx143_0
    cases e143
    replace hx143_0 := (HB.out.cell (World.block_lt_of_cell? w _ hx143_0)).trans hx143_0
    have HR143_0 := a_ hi143_0
    have HC143_0 := a_ hl143_0
    clear hi143_0 hl143_0
    replace p143 := eq_true p143
    replace q143 := eq_true q143
    have p144 : 0 ≤ (x12_3 : Int) := of_decide_eq_true (by first | (with_reducible assumption) | assumption)
    have q144 : x12_3 < (t132.length : Int) := of_decide_eq_true (by first | (with_reducible assumption) | assumption)
    obtain ⟨ad144, e144, hx144_0⟩ := Kd.at_int (Kd.R_reads' HO_5.out).2.2 x12_3 p144 q144
    cases e144
    replace p144 := eq_true p144
    replace q144 := eq_true q144
    have p145 : 0 ≤ ((rd t132 x12_3) : Int) := of_decide_eq_true (by first | (with_reducible assumption) | assumption)
    have q145 : (rd t132 x12_3) < ((rd_L1 l0 x10_2).length : Int) := of_decide_eq_true (by first | (with_reducible assumption) | assumption)
    obtain ⟨ad145, e145, hx145_0⟩ := Kd.at_int HR143_0.out (rd t132 x12_3) p145 q145
    have hw145_0 := hx145_0
    cases e145
    replace hx145_0 := (HB.out.cell (World.block_lt_of_cell? w _ hx145_0)).trans hx145_0
    replace p145 := eq_true p145
    replace q145 := eq_true q145
    obtain ⟨Ao28, co28, eo28⟩ := Kd.R_slice HO_7.out
    (first | subst eo28 | (injection eo28 with f1_ f2_ f3_; have f4_ := f1_.symm; have f5_ := f3_.symm; clear f1_ f2_ f3_; subst f4_; subst f5_))
    have p146 : 0 ≤ ((rd (rd_L1 l0 x10_2) (rd t132 x12_3)) : Int) := of_decide_eq_true (by first | (with_reducible assumption) | assumption)
    have q146 : (rd (rd_L1 l0 x10_2) (rd t132 x12_3)) < (x7_1.length : Int) := of_decide_eq_true (by first | (with_reducible assumption) | assumption)
    obtain ⟨ad146, e146, hx146_0⟩ := Kd.at_int (Kd.R_reads' HO_7.out).2.2 (rd (rd_L1 l0 x10_2) (rd t132 x12_3)) p146 q146
    cases e146
    replace p146 := eq_true p146
    replace q146 := eq_true q146
    refine start_ (n := 17) (S := fun w' => w'.cell? (ad143.add (x10_2).toNat) = some (.slice (some ad145) (rd_L1 l0 x10_2).length c143_0) ∧ w'.cell? (ad144.add (x12_3).toNat) = some (.int .i64 (rd t132 x12_3)) ∧ w'.cell? (ad145.add ((rd t132 x12_3)).toNat) = some (.int .i64 (rd (rd_L1 l0 x10_2) (rd t132 x12_3))) ∧ w'.cell? (ad146.add ((rd (rd_L1 l0 x10_2) (rd t132 x12_3))).toNat) = some (.int .i64 (rd x7_1 (rd (rd_L1 l0 x10_2) (rd t132 x12_3))))) (ds := [14, 15]) #[false, false, false, false, false, false, false, false, false, false, false, false, false, false, false, false, false] (by kernel_rfl) rfl rfl ⟨((HB.out.cell (World.block_lt_of_cell? w _ hw143_0)).trans hw143_0), hx144_0, ((HB.out.cell (World.block_lt_of_cell? w _ hw145_0)).trans hw145_0), hx146_0⟩ (fun hHeld => ?_); refine with_tabW rr_Renumber.tab15 rr_Renumber.bits15 (fun HT_ HW_ => ?_)
    generalize wr.drew = w27 at HO_5 HO_7 HO_9 HO_11 HB HR143_0 hx143_0 hx144_0 hx145_0 hx146_0 hHeld ⊢
    refine pure_ (i := 0) (N := some 47) (v := ?_) (a' := ?_) #[true, false, false, false, false, false, false, false, false, false, false, false, false, false, false, false, false] rfl rfl (any_of HT_.out (by kernel_rfl)) (fun _ _ _ h => h) (Or.inl ⟨by rfl, ?_⟩) ?_ ?_
    rotate_left
    ·intro w'
     go_simp
     with_reducible rfl
    rotate_left
    ·simp only [Act.put, List.setIfInBounds_toArray, List.set_cons_zero, List.set_cons_succ, i64_w, i32_w]
     rfl
    refine pure_ (i := 1) (N := some 48) (v := ?_) (a' := ?_) #[true, true, false, false, false, false, false, false, false, false, false, false, false, false, false, false, false] rfl rfl (any_of HT_.out (by kernel_rfl)) (fun _ _ _ h => h) (Or.inl ⟨by rfl, ?_⟩) ?_ ?_
    rotate_left
    ·intro w'
     go_simp
     with_reducible rfl
    rotate_left
    ·simp only [Act.put, List.setIfInBounds_toArray, List.set_cons_zero, List.set_cons_succ, i64_w, i32_w]
     rfl
    refine pure_ (i := 2) (N := some 49) (v := ?_) (a' := ?_) #[true, true, true, false, false, false, false, false, false, false, false, false, false, false, false, false, false] rfl rfl (any_of HT_.out (by kernel_rfl)) (fun _ _ _ h => h) (Or.inl ⟨by rfl, ?_⟩) ?_ ?_
    rotate_left
    ·intro w'
     go_simp
     with_reducible rfl
    rotate_left
    ·simp only [Act.put, List.setIfInBounds_toArray, List.set_cons_zero, List.set_cons_succ, i64_w, i32_w]
     rfl
    refine pure_ (i := 3) (N := some 50) (v := ?_) (a' := ?_) #[true, true, true, true, false, false, false, false, false, false, false, false, false, false, false, false, false] rfl rfl (any_of HT_.out (by kernel_rfl)) (fun _ _ _ h => h) (Or.inl ⟨by rfl, ?_⟩) ?_ ?_
    rotate_left
    ·intro w'
     go_simp
     with_reducible rfl
    rotate_left
    ·simp only [Act.put, List.setIfInBounds_toArray, List.set_cons_zero, List.set_cons_succ, i64_w, i32_w]
     rfl
    refine pure_ (i := 4) (N := some 51) (v := ?_) (a' := ?_) #[true, true, true, true, true, false, false, false, false, false, false, false, false, false, false, false, false] rfl rfl (any_of HT_.out (by kernel_rfl)) (fun _ _ _ h => h) (Or.inl ⟨by rfl, ?_⟩) ?_ ?_
    rotate_left
    ·intro w'
     go_simp
     with_reducible rfl
    rotate_left
    ·simp only [Act.put, List.setIfInBounds_toArray, List.set_cons_zero, List.set_cons_succ, i64_w, i32_w]
     rfl
    refine pure_ (i := 6) (N := some 53) (v := ?_) (a' := ?_) #[true, true, true, true, true, false, true, false, false, false, false, false, false, false, false, false, false] rfl rfl (any_of HT_.out (by kernel_rfl)) (fun _ _ _ h => h) (Or.inl ⟨by rfl, ?_⟩) ?_ ?_
    rotate_left
    ·intro w'
     go_simp
     with_reducible rfl
    rotate_left
    ·simp only [Act.put, List.setIfInBounds_toArray, List.set_cons_zero, List.set_cons_succ, i64_w, i32_w]
     rfl
    refine pure_ (i := 7) (N := some 54) (v := ?_) (a' := ?_) #[true, true, true, true, true, false, true, true, false, false, false, false, false, false, false, false, false] rfl rfl (any_of HT_.out (by kernel_rfl)) (fun _ _ _ h => h) (Or.inl ⟨by rfl, ?_⟩) ?_ ?_
    rotate_left
    ·intro w'
     go_simp
     with_reducible rfl
    rotate_left
    ·simp only [Act.put, List.setIfInBounds_toArray, List.set_cons_zero, List.set_cons_succ, i64_w, i32_w]
     rfl
    refine pure_ (i := 8) (N := some 55) (v := ?_) (a' := ?_) #[true, true, true, true, true, false, true, true, true, false, false, false, false, false, false, false, false] rfl rfl (any_of HT_.out (by kernel_rfl)) (fun _ _ _ h => h) (Or.inl ⟨by rfl, ?_⟩) ?_ ?_
    rotate_left
    ·intro w'
     go_simp
     with_reducible rfl
    rotate_left
    ·simp only [Act.put, List.setIfInBounds_toArray, List.set_cons_zero, List.set_cons_succ, i64_w, i32_w]
     rfl
    refine take_ (i := 5) (N := some 52) (v := ?_) (a' := ?_) #[true, true, true, true, true, true, true, true, true, false, false, false, false, false, false, false, false] rfl rfl (take_ofW HT_.out HW_.out (by kernel_rfl)) (fun _ _ _ h => h) (Or.inl ⟨by rfl, ?_⟩) hHeld ?_ ?_
    rotate_left
    ·rintro w' ⟨s0, s1, s2, s3⟩
     go_simp
     with_reducible rfl
    rotate_left
    ·simp only [Act.put, List.setIfInBounds_toArray, List.set_cons_zero, List.set_cons_succ, i64_w, i32_w]
     rfl
    refine take_ (i := 9) (N := some 56) (v := ?_) (a' := ?_) #[true, true, true, true, true, true, true, true, true, true, false, false, false, false, false, false, false] rfl rfl (take_ofW HT_.out HW_.out (by kernel_rfl)) (fun _ _ _ h => h) (Or.inl ⟨by rfl, ?_⟩) hHeld ?_ ?_
    rotate_left
    ·rintro w' ⟨s0, s1, s2, s3⟩
     go_simp
     with_reducible rfl
    rotate_left
    ·simp only [Act.put, List.setIfInBounds_toArray, List.set_cons_zero, List.set_cons_succ, i64_w, i32_w]
     rfl
    refine pure_ (i := 10) (N := some 57) (v := ?_) (a' := ?_) #[true, true, true, true, true, true, true, true, true, true, true, false, false, false, false, false, false] rfl rfl (any_of HT_.out (by kernel_rfl)) (fun _ _ _ h => h) (Or.inl ⟨by rfl, ?_⟩) ?_ ?_
    rotate_left
    ·intro w'
     go_simp
     with_reducible rfl
    rotate_left
    ·simp only [Act.put, List.setIfInBounds_toArray, List.set_cons_zero, List.set_cons_succ, i64_w, i32_w]
     rfl
    refine take_ (i := 11) (N := some 58) (v := ?_) (a' := ?_) #[true, true, true, true, true, true, true, true, true, true, true, true, false, false, false, false, false] rfl rfl (take_ofW HT_.out HW_.out (by kernel_rfl)) (fun _ _ _ h => h) (Or.inl ⟨by rfl, ?_⟩) hHeld ?_ ?_
    rotate_left
    ·rintro w' ⟨s0, s1, s2, s3⟩
     go_simp
     with_reducible rfl
    rotate_left
    ·simp only [Act.put, List.setIfInBounds_toArray, List.set_cons_zero, List.set_cons_succ, i64_w, i32_w]
     rfl
    refine pure_ (i := 12) (N := some 59) (v := ?_) (a' := ?_) #[true, true, true, true, true, true, true, true, true, true, true, true, true, false, false, false, false] rfl rfl (any_of HT_.out (by kernel_rfl)) (fun _ _ _ h => h) (Or.inl ⟨by rfl, ?_⟩) ?_ ?_
    rotate_left
    ·intro w'
     go_simp
     with_reducible rfl
    rotate_left
    ·simp only [Act.put, List.setIfInBounds_toArray, List.set_cons_zero, List.set_cons_succ, i64_w, i32_w]
     rfl
    refine take_ (i := 13) (N := some 60) (v := ?_) (a' := ?_) #[true, true, true, true, true, true, true, true, true, true, true, true, true, true, false, false, false] rfl rfl (take_ofW HT_.out HW_.out (by kernel_rfl)) (fun _ _ _ h => h) (Or.inl ⟨by rfl, ?_⟩) hHeld ?_ ?_
    rotate_left
    ·rintro w' ⟨s0, s1, s2, s3⟩
     go_simp
     with_reducible rfl
    rotate_left
    ·simp only [Act.put, List.setIfInBounds_toArray, List.set_cons_zero, List.set_cons_succ, i64_w, i32_w]
     rfl
    refine last_ (i := 14) (N := some 61) #[true, true, true, true, true, true, true, true, true, true, true, true, true, true, true, false, false] rfl rfl (one_of HT_.out (by kernel_rfl)) (by decide) (fun K hK => ?_)
    refine value_ (w1 := ?_) (v := ?_) (by rfl) rfl ?_ ?_
    rotate_left 2
    ·go_simp
     constructor
     ·rfl
     ·rfl
    refine hK.out _ _ ?_
    clear hK K
    refine norm_ (a' := ?_) ?_ ?_
    rotate_left
    ·show Act.put _ (some 61) _ = _
     simp only [Act.put, List.setIfInBounds_toArray, List.set_cons_zero, List.set_cons_succ, i64_w, i32_w]
     rfl
    refine last_ (i := 15) (N := some 62) #[true, true, true, true, true, true, true, true, true, true, true, true, true, true, true, true, false] rfl rfl (one_of HT_.out (by kernel_rfl)) (by decide) (fun K hK => ?_)
    refine Kd.R_append_step (Kd.int .i64) (w0 := w) w.heap.size (by rfl) (.tmp 47) (.tmp 61) 22 3 (.int .i64 0) 8 rfl Try.underlying22 info3 rfl (by decide) (by omega) u11 x11_3 (rd x7_1 (rd (rd_L1 l0 x10_2) (rd t132 x12_3))) [.int .i64 (rd x7_1 (rd (rd_L1 l0 x10_2) (rd t132 x12_3)))] (fun k_ => some k_ ≠ (.slice (some ad144) t132.length co7 : Value).ownBlock ∧ some k_ ≠ (.slice (some ad146) x7_1.length co28 : Value).ownBlock) (fun _ => False) rfl rfl ?aP (fun _ hk => hk.elim) ?aF ?aO ?aB ?aS ?aL ?_
    (case aP => exact rfl)
    (case aB => exact (gr HB.out))
    (case aF => exact (fun k_ hk => ⟨Kd.fresh' (Kd.R_lt (by exact rk HO_5.out)) k_ hk, Kd.fresh' (Kd.R_lt (by exact rk HO_7.out)) k_ hk⟩))
    (case aO => exact (by exact rk HO_11.out))
    (case aS => exact (bZ_ (gr HB.out)))
    (case aL => have := LMc26.out; omega)
    intro v148 w29 ho hb hg hat
    rw [← Ny147.out] at ho
    have HO149 := a_ (ho)
    replace HO_5 := a_ (Kd.R_after (ok := (fun k_ => some k_ ≠ (.slice (some ad146) x7_1.length co28 : Value).ownBlock)) (by exact rk HO_5.out) hg hat)
    replace HO_7 := a_ (Kd.R_after (ok := (fun k_ => some k_ ≠ (.slice (some ad144) t132.length co7 : Value).ownBlock)) (by exact rk HO_7.out) hg hat)
    replace HO_9 := a_ (Kd.S_after (ok := (fun k_ => some k_ ≠ (.slice (some ad144) t132.length co7 : Value).ownBlock ∧ some k_ ≠ (.slice (some ad146) x7_1.length co28 : Value).ownBlock)) (by (with_reducible repeat (first | apply Kd.S_alloc | apply Kd.S_drewN | apply Kd.S_drew)); exact Kd.S_mono HO_9.out (fun _ hk => ⟨⟨hk.1, hk.2.1⟩, hk.2.2⟩)) hg hat)
    replace HB := a_ (hb)
    clear HO_11
    clear ho hb hg hat
    refine hK.out _ _ ?_
    clear hK K
    refine norm_ (a' := ?_) ?_ ?_
    rotate_left
    ·show Act.put _ (some 62) _ = _
     simp only [Act.put, List.setIfInBounds_toArray, List.set_cons_zero, List.set_cons_succ, i64_w, i32_w]
     rfl
    refine pure_ (i := 16) (N := some 11) (v := ?_) (a' := ?_) #[true, true, true, true, true, true, true, true, true, true, true, true, true, true, true, true, true] rfl rfl (any_of HT_.out (by kernel_rfl)) (fun _ _ _ h => h) (Or.inl ⟨by rfl, ?_⟩) ?_ ?_
    rotate_left
    ·intro w'
     go_simp
     with_reducible rfl
    rotate_left
    ·simp only [Act.put, List.setIfInBounds_toArray, List.set_cons_zero, List.set_cons_succ, i64_w, i32_w]
     rfl
    refine done_ (done_of HT_.out (by kernel_rfl)) ?_
    try go_wp2
    go_roundg k3
    case measure => have := HK1.out; have := HK2.out; have := HK3.out; omega
    case rel => exact ⟨(y147), (wrap64 (x12_3 + 1)), (by first | rfl | (simp; done) | (simp [*]; done)), H', ⟨by have := HK1.out; have := HK2.out; have := HK3.out; omega⟩, ⟨by exact rk HO_5.out⟩, ⟨by exact rk HO_7.out⟩, ⟨by (with_reducible repeat (first | apply Kd.S_alloc | apply Kd.S_drewN | apply Kd.S_drew)); exact Kd.S_mono HO_9.out (fun _ hk => ⟨hk.1.1, ⟨hk.1.2, hk.2⟩⟩)⟩, ⟨by exact rk HO149.out⟩, ⟨by exact gs HB.out⟩⟩
def rr_Standard.f (k : Nat) (l0 : List (List Int)) : Option (Bool) := (rr_Connected.f k l0).bind fun t502 => (if t502 = true then ((rr_Renumber.f k l0 0).bind fun t503 => ((rr_Same.f k t503 l0).bind fun t506 => (some t506))) else (some false))
theorem rr_Standard.calls (k : Nat) (A0 : Option Addr) (c0 : Nat) (l0 : List (List Int)) (r : Bool) (w : World) (hr0 : Kd.C (Kd.slice 3 (Kd.int .i64)) w A0 l0.length l0) (hc0 : l0.length ≤ c0) (h : rr_Standard.f k l0 = some r) :
  Calls Try.prog 34 #[.slice A0 l0.length c0] w fun e w' => e = .returned (.bool r) ∧ Below w.heap.size w w' := by
 have HR0 := a_ hr0
 have HC0 := a_ hc0
 clear hr0 hc0
 have HB := a_ (Below.refl w.heap.size w)
 have H : ((rr_Connected.f k l0).bind fun t502 => (if t502 = true then ((rr_Renumber.f k l0 0).bind fun t503 => ((rr_Same.f k t503 l0).bind fun t506 => (some t506))) else (some false))) = some r := h
 clear h
 replace H := Option.bind_eq_some_iff.mp H
 obtain ⟨t502, A20, H⟩ := H
 try dsimp only at H
 have A2 := a_ A20
 clear A20
 by_cases c3 : t502 = true
 rotate_left
 ·replace c3 := Bool.eq_false_iff.mpr c3
  subst c3
  have H1 := H; rw [if_neg (show ¬ (false = true) by decide)] at H1
  clear H
  have H := H1
  clear H1
  obtain rfl := Option.some.inj H
  go_enter Try.func34, Try.ntmps34
  go_wp2_with (first | ((with_reducible refine gate_callee (f := 30) rfl ?_); refine goesL_ (some 4) rfl rfl Try.func30 (by kernel_rfl) rfl #[.slice A0 l0.length c0] rfl (by (try simp only [List.map_toArray, List.map_cons, List.map_nil]); first | done | rfl | (simp only [List.length_drop, List.length_take]; rfl)) ?_; (with_reducible refine (rr_Connected.calls k _ _ l0 false _ ?side1 ?side2 A2.out).mono ?_); (case side1 => repeat (first | exact HR0.out | (with_reducible refine Kd.C_alloc ?_ _) | (with_reducible refine Kd.C_drewN ?_ _) | (with_reducible refine Kd.C_drew ?_))); (case side2 => exact HC0.out); rintro e w9 ⟨rfl, hb⟩; refine ⟨_, rfl, ?_⟩; replace HB := a_ (bT_ HB.out (tr hb)); (try clear hb); (try clear hb2); (try clear hk); (try clear hi)))
  go_ret
  exact ⟨by first | rfl | (simp [errW_none, errW_some] <;> rfl) | (simp [*, errW_none, errW_some] <;> rfl), by exact gs HB.out⟩
 subst c3
 have H1 := H; rw [if_pos rfl] at H1
 clear H
 have H := H1
 clear H1
 replace H := Option.bind_eq_some_iff.mp H
 obtain ⟨t503, A40, H⟩ := H
 try dsimp only at H
 have A4 := a_ A40
 clear A40
 replace H := Option.bind_eq_some_iff.mp H
 obtain ⟨t506, A50, H⟩ := H
 try dsimp only at H
 have A5 := a_ A50
 clear A50
 obtain rfl := Option.some.inj H
 go_enter Try.func34, Try.ntmps34
 go_wp2_with (first | ((with_reducible refine gate_callee (f := 30) rfl ?_); refine goesL_ (some 4) rfl rfl Try.func30 (by kernel_rfl) rfl #[.slice A0 l0.length c0] rfl (by (try simp only [List.map_toArray, List.map_cons, List.map_nil]); first | done | rfl | (simp only [List.length_drop, List.length_take]; rfl)) ?_; (with_reducible refine (rr_Connected.calls k _ _ l0 true _ ?side1 ?side2 A2.out).mono ?_); (case side1 => repeat (first | exact HR0.out | (with_reducible refine Kd.C_alloc ?_ _) | (with_reducible refine Kd.C_drewN ?_ _) | (with_reducible refine Kd.C_drew ?_))); (case side2 => exact HC0.out); rintro e w6 ⟨rfl, hb⟩; refine ⟨_, rfl, ?_⟩; replace HB := a_ (bT_ HB.out (tr hb)); (try clear hb); (try clear hb2); (try clear hk); (try clear hi)) | (go_at_call 32; (with_reducible refine (rr_Renumber.calls k _ _ l0 0 t503 _ ?side1 ?side2 A4.out).mono ?_); (case side1 => repeat (first | exact (Kd.C_below HR0.out HB.out) | (with_reducible refine Kd.C_alloc ?_ _) | (with_reducible refine Kd.C_drewN ?_ _) | (with_reducible refine Kd.C_drew ?_))); (case side2 => exact HC0.out); rintro e w7 ⟨v504, rfl, ho0, hb⟩; have HO505 := a_ (Kd.S_lower ho0 (bZ_ (gr HB.out))); replace HB := a_ (bT_ HB.out (tr hb)); (try clear hb); (try clear hb2); (try clear hk); (try clear hi); (try clear ho0); obtain ⟨Ao8, co8, eo8⟩ := Kd.S_slice HO505.out; subst eo8) | (go_at_call 31; (with_reducible refine (rr_Same.calls k _ _ t503 _ _ l0 t506 _ ?side1 ?side2 ?side3 ?side4 A5.out).mono ?_); (case side1 => repeat (first | exact (Kd.S_reads' HO505.out).2.2 | (with_reducible refine Kd.C_alloc ?_ _) | (with_reducible refine Kd.C_drewN ?_ _) | (with_reducible refine Kd.C_drew ?_))); (case side2 => exact (Kd.S_reads' HO505.out).2.1); (case side3 => repeat (first | exact (Kd.C_below HR0.out HB.out) | (with_reducible refine Kd.C_alloc ?_ _) | (with_reducible refine Kd.C_drewN ?_ _) | (with_reducible refine Kd.C_drew ?_))); (case side4 => exact HC0.out); rintro e w' ⟨rfl, ⟨nd, rfl⟩⟩))
 go_ret
 exact ⟨by first | rfl | (simp [errW_none, errW_some] <;> rfl) | (simp [*, errW_none, errW_some] <;> rfl), by exact gs HB.out⟩
def rr_Alike.l0 : Nat → List (List Int) → Int → Int → Option (Int)
 | 0, _, _, _ => none
 | k + 1, x0, x3, x4 => if 0 < (x0.length : Int) then (if x4 < ((rd_L1 x0 0).length : Int) then ((rr_Renumber.f k x0 x4).bind fun t529 => ((rr_Same.f k t529 x0).bind fun t532 => (if t532 = true then (rr_Alike.l0 k x0 (wrap64 (x3 + 1)) (wrap64 (x4 + 1))) else (rr_Alike.l0 k x0 x3 (wrap64 (x4 + 1)))))) else (if x3 = 0 then (none) else (some (wrap64 (((rd_L1 x0 0).length : Int) / x3))))) else (none)
def rr_Alike.f (k : Nat) (l0 : List (List Int)) : Option (Int) := rr_Alike.l0 k l0 0 0
theorem rr_Alike.calls (k : Nat) (A0 : Option Addr) (c0 : Nat) (l0 : List (List Int)) (r : Int) (w : World) (hr0 : Kd.C (Kd.slice 3 (Kd.int .i64)) w A0 l0.length l0) (hc0 : l0.length ≤ c0) (h : rr_Alike.f k l0 = some r) :
  Calls Try.prog 69 #[.slice A0 l0.length c0] w fun e w' => e = .returned (.int .i64 r) ∧ Below w.heap.size w w' := by
 have HR0 := a_ hr0
 have HC0 := a_ hc0
 clear hr0 hc0
 have HB := a_ (Below.refl w.heap.size w)
 have H : (rr_Alike.l0 k l0 0 0) = some r := h
 clear h
 have H' := a_ H
 clear H
 go_enter Try.func69, Try.ntmps69
 go_wp2
 go_loopg [3, 4] k (fun kq v3 v4 w' => ∃ (x3_1 : Int) (x4_1 : Int), v3 = .int .i64 x3_1 ∧ v4 = .int .i64 x4_1 ∧ Aside0 (rr_Alike.l0 kq l0 x3_1 x4_1 = some r) ∧ Aside0 (kq ≤ k) ∧ Aside0 (Below w.heap.size w w'))
 case atStart => exact ⟨(0), (0), (by first | rfl | (simp; done) | (simp [*]; done)), (by first | rfl | (simp; done) | (simp [*]; done)), H', ⟨Nat.le_refl _⟩, ⟨by exact gs HB.out⟩⟩
 clear H'
 obtain ⟨x3_1, x4_1, rfl, rfl, HA, HK1, HB⟩ := hrel
 cases gk with
 | zero => exact absurd HA.out (by simp [rr_Alike.l0])
 | succ k1 =>
  have H := HA.out
  clear HA
  simp only [rr_Alike.l0] at H
  by_cases c2 : 0 < (l0.length : Int)
  rotate_left
  ·rw [if_neg c2] at H
   exact absurd H (by simp)
  rw [if_pos c2] at H
  have c2b0 : decide (0 < (l0.length : Int)) = true := decide_eq_true c2
  have c2b1 : decide (0 < l0.length) = true := decide_eq_true (by omega)
  clear c2
  by_cases c3 : x4_1 < ((rd_L1 l0 0).length : Int)
  rotate_left
  ·rw [if_neg c3] at H
   have c3b0 : decide (x4_1 < ((rd_L1 l0 0).length : Int)) = false := decide_eq_false c3
   clear c3
   by_cases c11 : x3_1 = 0
   ·rw [if_pos c11] at H
    exact absurd H (by simp)
   rw [if_neg c11] at H
   have c11b0 : (x3_1 == 0) = false := beq_eq_false_iff_ne.mpr c11
   have c11b1 : (x3_1 != 0) = true := bne_iff_ne.mpr c11
   obtain rfl := Option.some.inj H
   have p527 : 0 ≤ (0 : Int) := (by omega)
   have q527 : 0 < (l0.length : Int) := of_decide_eq_true (by first | (with_reducible assumption) | assumption)
   obtain ⟨ad527, A527_0, c527_0, e527, hx527_0, hl527_0, hi527_0⟩ := at_L1 HR0.out 0 p527 q527
   cases e527
   have qi527 : (0 < l0.length) = True := eq_true (by omega)
   (try rw [show ((0 : Int)).toNat = 0 from rfl] at hx527_0)
   (try rw [Addr.add_zero'] at hx527_0)
   replace hx527_0 := (HB.out.cell (World.block_lt_of_cell? w _ hx527_0)).trans hx527_0
   have HR527_0 := a_ hi527_0
   have HC527_0 := a_ hl527_0
   clear hi527_0 hl527_0
   replace p527 := eq_true p527
   replace q527 := eq_true q527
   have p528 : 0 ≤ (0 : Int) := (by omega)
   have q528 : 0 < (l0.length : Int) := of_decide_eq_true (by first | (with_reducible assumption) | assumption)
   obtain ⟨ad528, A528_0, c528_0, e528, hx528_0, hl528_0, hi528_0⟩ := at_L1 HR0.out 0 p528 q528
   obtain rfl : ad527 = ad528 := (by injection e528)
   have qi528 : (0 < l0.length) = True := eq_true (by omega)
   (try rw [show ((0 : Int)).toNat = 0 from rfl] at hx528_0)
   (try rw [Addr.add_zero'] at hx528_0)
   replace hx528_0 := (HB.out.cell (World.block_lt_of_cell? w _ hx528_0)).trans hx528_0
   have HR528_0 := a_ hi528_0
   have HC528_0 := a_ hl528_0
   clear hi528_0 hl528_0
   replace p528 := eq_true p528
   replace q528 := eq_true q528
   have ea_ := Option.some.inj (hx527_0.symm.trans hx528_0)
   injection ea_ with ea_ en_ ec_
   subst ea_
   subst ec_
   clear en_
   go_wp2
   go_ret
   exact ⟨by first | rfl | (simp [errW_none, errW_some] <;> rfl) | (simp [*, errW_none, errW_some] <;> rfl), by exact gs HB.out⟩
  rw [if_pos c3] at H
  have c3b0 : decide (x4_1 < ((rd_L1 l0 0).length : Int)) = true := decide_eq_true c3
  clear c3
  replace H := Option.bind_eq_some_iff.mp H
  obtain ⟨t529, A40, H⟩ := H
  try dsimp only at H
  have A4 := a_ A40
  clear A40
  replace H := Option.bind_eq_some_iff.mp H
  obtain ⟨t532, A50, H⟩ := H
  try dsimp only at H
  have A5 := a_ A50
  clear A50
  by_cases c6 : t532 = true
  ·subst c6
   have H1 := H; rw [if_pos rfl] at H1
   clear H
   have H := H1
   clear H1
   have H' := a_ H
   clear H
   have p527 : 0 ≤ (0 : Int) := (by omega)
   have q527 : 0 < (l0.length : Int) := of_decide_eq_true (by first | (with_reducible assumption) | assumption)
   obtain ⟨ad527, A527_0, c527_0, e527, hx527_0, hl527_0, hi527_0⟩ := at_L1 HR0.out 0 p527 q527
   cases e527
   have qi527 : (0 < l0.length) = True := eq_true (by omega)
   (try rw [show ((0 : Int)).toNat = 0 from rfl] at hx527_0)
   (try rw [Addr.add_zero'] at hx527_0)
   replace hx527_0 := (HB.out.cell (World.block_lt_of_cell? w _ hx527_0)).trans hx527_0
   have HR527_0 := a_ hi527_0
   have HC527_0 := a_ hl527_0
   clear hi527_0 hl527_0
   replace p527 := eq_true p527
   replace q527 := eq_true q527
   go_wp2_with (first | ((with_reducible refine gate_callee (f := 32) rfl ?_); refine goesL_ (some 15) rfl rfl Try.func32 (by kernel_rfl) rfl #[.slice (some ad527) l0.length c0, .int .i64 x4_1] rfl (by (try simp only [List.map_toArray, List.map_cons, List.map_nil]); first | done | rfl | (simp only [List.length_drop, List.length_take]; rfl)) ?_; (with_reducible refine (rr_Renumber.calls k1 _ _ l0 x4_1 t529 _ ?side1 ?side2 A4.out).mono ?_); (case side1 => repeat (first | exact (Kd.C_below HR0.out HB.out) | (with_reducible refine Kd.C_alloc ?_ _) | (with_reducible refine Kd.C_drewN ?_ _) | (with_reducible refine Kd.C_drew ?_))); (case side2 => exact HC0.out); rintro e w7 ⟨v530, rfl, ho0, hb⟩; refine ⟨_, rfl, ?_⟩; have HO531 := a_ (Kd.S_lower ho0 (bZ_ (gr HB.out))); replace HB := a_ (bT_ HB.out (tr hb)); (try clear hb); (try clear hb2); (try clear hk); (try clear hi); (try clear ho0); obtain ⟨Ao8, co8, eo8⟩ := Kd.S_slice HO531.out; subst eo8) | ((with_reducible refine gate_callee (f := 31) rfl ?_); refine goesL_ (some 17) rfl rfl Try.func31 (by kernel_rfl) rfl #[.slice Ao8 t529.length co8, .slice (some ad527) l0.length c0] rfl (by (try simp only [List.map_toArray, List.map_cons, List.map_nil]); first | done | rfl | (simp only [List.length_drop, List.length_take]; rfl)) ?_; (with_reducible refine (rr_Same.calls k1 _ _ t529 _ _ l0 true _ ?side1 ?side2 ?side3 ?side4 A5.out).mono ?_); (case side1 => repeat (first | exact (Kd.S_reads' HO531.out).2.2 | (with_reducible refine Kd.C_alloc ?_ _) | (with_reducible refine Kd.C_drewN ?_ _) | (with_reducible refine Kd.C_drew ?_))); (case side2 => exact (Kd.S_reads' HO531.out).2.1); (case side3 => repeat (first | exact (Kd.C_below HR0.out HB.out) | (with_reducible refine Kd.C_alloc ?_ _) | (with_reducible refine Kd.C_drewN ?_ _) | (with_reducible refine Kd.C_drew ?_))); (case side4 => exact HC0.out); rintro e w' ⟨rfl, ⟨nd, rfl⟩⟩; refine ⟨_, rfl, ?_⟩))
   go_roundg k1
   case measure => have := HK1.out; omega
   case rel => exact ⟨(wrap64 (x3_1 + 1)), (wrap64 (x4_1 + 1)), (by first | rfl | (simp; done) | (simp [*]; done)), (by first | rfl | (simp; done) | (simp [*]; done)), H', ⟨by have := HK1.out; omega⟩, ⟨by exact gs HB.out⟩⟩
  replace c6 := Bool.eq_false_iff.mpr c6
  subst c6
  have H1 := H; rw [if_neg (show ¬ (false = true) by decide)] at H1
  clear H
  have H := H1
  clear H1
  have H' := a_ H
  clear H
  have p527 : 0 ≤ (0 : Int) := (by omega)
  have q527 : 0 < (l0.length : Int) := of_decide_eq_true (by first | (with_reducible assumption) | assumption)
  obtain ⟨ad527, A527_0, c527_0, e527, hx527_0, hl527_0, hi527_0⟩ := at_L1 HR0.out 0 p527 q527
  cases e527
  have qi527 : (0 < l0.length) = True := eq_true (by omega)
  (try rw [show ((0 : Int)).toNat = 0 from rfl] at hx527_0)
  (try rw [Addr.add_zero'] at hx527_0)
  replace hx527_0 := (HB.out.cell (World.block_lt_of_cell? w _ hx527_0)).trans hx527_0
  have HR527_0 := a_ hi527_0
  have HC527_0 := a_ hl527_0
  clear hi527_0 hl527_0
  replace p527 := eq_true p527
  replace q527 := eq_true q527
  go_wp2_with (first | ((with_reducible refine gate_callee (f := 32) rfl ?_); refine goesL_ (some 15) rfl rfl Try.func32 (by kernel_rfl) rfl #[.slice (some ad527) l0.length c0, .int .i64 x4_1] rfl (by (try simp only [List.map_toArray, List.map_cons, List.map_nil]); first | done | rfl | (simp only [List.length_drop, List.length_take]; rfl)) ?_; (with_reducible refine (rr_Renumber.calls k1 _ _ l0 x4_1 t529 _ ?side1 ?side2 A4.out).mono ?_); (case side1 => repeat (first | exact (Kd.C_below HR0.out HB.out) | (with_reducible refine Kd.C_alloc ?_ _) | (with_reducible refine Kd.C_drewN ?_ _) | (with_reducible refine Kd.C_drew ?_))); (case side2 => exact HC0.out); rintro e w9 ⟨v530, rfl, ho0, hb⟩; refine ⟨_, rfl, ?_⟩; have HO531 := a_ (Kd.S_lower ho0 (bZ_ (gr HB.out))); replace HB := a_ (bT_ HB.out (tr hb)); (try clear hb); (try clear hb2); (try clear hk); (try clear hi); (try clear ho0); obtain ⟨Ao10, co10, eo10⟩ := Kd.S_slice HO531.out; subst eo10) | ((with_reducible refine gate_callee (f := 31) rfl ?_); refine goesL_ (some 17) rfl rfl Try.func31 (by kernel_rfl) rfl #[.slice Ao10 t529.length co10, .slice (some ad527) l0.length c0] rfl (by (try simp only [List.map_toArray, List.map_cons, List.map_nil]); first | done | rfl | (simp only [List.length_drop, List.length_take]; rfl)) ?_; (with_reducible refine (rr_Same.calls k1 _ _ t529 _ _ l0 false _ ?side1 ?side2 ?side3 ?side4 A5.out).mono ?_); (case side1 => repeat (first | exact (Kd.S_reads' HO531.out).2.2 | (with_reducible refine Kd.C_alloc ?_ _) | (with_reducible refine Kd.C_drewN ?_ _) | (with_reducible refine Kd.C_drew ?_))); (case side2 => exact (Kd.S_reads' HO531.out).2.1); (case side3 => repeat (first | exact (Kd.C_below HR0.out HB.out) | (with_reducible refine Kd.C_alloc ?_ _) | (with_reducible refine Kd.C_drewN ?_ _) | (with_reducible refine Kd.C_drew ?_))); (case side4 => exact HC0.out); rintro e w' ⟨rfl, ⟨nd, rfl⟩⟩; refine ⟨_, rfl, ?_⟩))
  go_roundg k1
  case measure => have := HK1.out; omega
  case rel => exact ⟨(x3_1), (wrap64 (x4_1 + 1)), (by first | rfl | (simp; done) | (simp [*]; done)), (by first | rfl | (simp; done) | (simp [*]; done)), H', ⟨by have := HK1.out; omega⟩, ⟨by exact gs HB.out⟩⟩
def rr_Normal.f (k : Nat) (l0 : List (List Int)) : Option (Bool) := (rr_Alike.f k l0).bind fun t533 => (some (t533 == 1))
theorem rr_Normal.calls (k : Nat) (A0 : Option Addr) (c0 : Nat) (l0 : List (List Int)) (r : Bool) (w : World) (hr0 : Kd.C (Kd.slice 3 (Kd.int .i64)) w A0 l0.length l0) (hc0 : l0.length ≤ c0) (h : rr_Normal.f k l0 = some r) :
  Calls Try.prog 35 #[.slice A0 l0.length c0] w fun e w' => e = .returned (.bool r) ∧ Below w.heap.size w w' := by
 have HR0 := a_ hr0
 have HC0 := a_ hc0
 clear hr0 hc0
 have HB := a_ (Below.refl w.heap.size w)
 have H : ((rr_Alike.f k l0).bind fun t533 => (some (t533 == 1))) = some r := h
 clear h
 replace H := Option.bind_eq_some_iff.mp H
 obtain ⟨t533, A20, H⟩ := H
 try dsimp only at H
 have A2 := a_ A20
 clear A20
 obtain rfl := Option.some.inj H
 go_enter Try.func35, Try.ntmps35
 go_wp2_with (first | ((with_reducible refine gate_callee (f := 69) rfl ?_); refine goesL_ (some 4) rfl rfl Try.func69 (by kernel_rfl) rfl #[.slice A0 l0.length c0] rfl (by (try simp only [List.map_toArray, List.map_cons, List.map_nil]); first | done | rfl | (simp only [List.length_drop, List.length_take]; rfl)) ?_; (with_reducible refine (rr_Alike.calls k _ _ l0 t533 _ ?side1 ?side2 A2.out).mono ?_); (case side1 => repeat (first | exact HR0.out | (with_reducible refine Kd.C_alloc ?_ _) | (with_reducible refine Kd.C_drewN ?_ _) | (with_reducible refine Kd.C_drew ?_))); (case side2 => exact HC0.out); rintro e w3 ⟨rfl, hb⟩; refine ⟨_, rfl, ?_⟩; replace HB := a_ (bT_ HB.out (tr hb)); (try clear hb); (try clear hb2); (try clear hk); (try clear hi)))
 go_ret
 exact ⟨by first | rfl | (simp [errW_none, errW_some] <;> rfl) | (simp [*, errW_none, errW_some] <;> rfl), by exact gs HB.out⟩
end Go.Proofs.Ytifkldehbaphgaa.PAll
end
section
namespace Go.KeySet
open Go.Maps (Keyed)
open Go.ChangeMaps (setBlock modify_eq_set heap_setBlock_same heap_setBlock_other)
open Go.MapKept Go.RowKit
def is (w : World) (b : Nat) (L : List Value) : Prop := ∃ es clock, w.heap[b]? = some (.map es clock) ∧ es.toList.map (fun x : MapEntry => x.key) = L ∧ ∀ x ∈ es.toList, x.val = .bool true
theorem made (w : World) : is (w.alloc (.map #[] 0)) w.heap.size [] := ⟨#[], 0, (MapKept.heap_alloc w _).1, rfl, by simp⟩
theorem lt {w : World} {b : Nat} {L : List Value} (h : is w b L) : b < w.heap.size := by
 obtain ⟨es, clock, hb, _⟩ := h
 exact (Array.getElem?_eq_some_iff.1 hb).1
theorem kept {w w' : World} {b : Nat} {L : List Value} {row : Option Nat} (h : is w b L) (hg : w.grownBy w' row) (hne : some b ≠ row) : is w' b L := by
 have hlt := lt h
 obtain ⟨es, clock, hb, h1, h2⟩ := h
 exact ⟨es, clock, (hg.block b hlt hne).trans hb, h1, h2⟩
theorem of_block {w w' : World} {b : Nat} {L : List Value} (h : is w b L) (e : w'.heap[b]? = w.heap[b]?) : is w' b L := by
 obtain ⟨es, clock, hb, h1, h2⟩ := h
 exact ⟨es, clock, e.trans hb, h1, h2⟩
variable {P : Program} {k e t : TypeId} {w : World} {b : Nat} {L : List Value}
theorem keys {es : Array MapEntry} (hL : es.toList.map (fun x : MapEntry => x.key) = L) (hk : ∀ v ∈ L, ∃ l, keyOf P k v = some l) : ∀ x ∈ es.toList, ∃ l, keyOf P k x.key = some l := fun x hx => hk _ (by rw [← hL]; exact List.mem_map.2 ⟨x, hx, rfl⟩)
theorem store (h : is w b L) (K : Keyed P k) (ht : P.underlying t = some (.map k e)) (hk : ∀ v ∈ L, ∃ l, keyOf P k v = some l) {key : Value} {kl : Lit} (hkey : keyOf P k key = some kl) :
  ∃ w', (Instr.mapUpdate t (.map (some b)) key (.bool true)).run P w = .ok () w' ∧ w.grownBy w' (some b) ∧ (key ∈ L → is w' b L) ∧ (key ∉ L → is w' b (L ++ [key])) := by
 obtain ⟨es, clock, hb, hL, hv⟩ := h
 rcases K.find w hkey es.toList (keys hL hk) with ⟨h1, h2⟩ | ⟨j, e0, h1, h2, h3⟩
 ·refine ⟨setBlock w b (.map (es.push ⟨key, .bool true, clock⟩) (clock + 1)), ?_, ⟨rfl, rfl, rfl, by simp [setBlock], fun i _ hi => heap_setBlock_other hb _ (fun e => hi (by rw [e]))⟩, ?_, ?_⟩
  ·simp [Instr.mapUpdate, run_underlying ht, MapKept.run_getObj_map hb, K.check w false hkey, h1, MapKept.run_setObj_map _ hb, Result.andThen, setBlock]
  ·intro hm
   rw [← hL] at hm
   obtain ⟨x, hx, e1⟩ := List.mem_map.1 hm
   exact absurd e1 (h2 x hx)
  ·intro _
   refine ⟨_, _, heap_setBlock_same hb _, by simp [hL], ?_⟩
   intro x hx
   simp only [Array.toList_push, List.mem_append, List.mem_singleton] at hx
   rcases hx with hx | rfl
   ·exact hv x hx
   ·rfl
 ·have hj : es[j]? = some e0 := by simpa using h2
  have hjl : j < es.toList.length := (List.getElem?_eq_some_iff.1 h2).1
  have hlist : (es.modify j (fun e' => { e' with key := key, val := .bool true })).toList = es.toList.set j { e0 with key := key, val := .bool true } := by rw [Array.toList_modify, modify_eq_set _ _ _ _ h2]
  refine ⟨setBlock w b (.map (es.modify j (fun e' => { e' with key := key, val := .bool true })) clock), ?_, ⟨rfl, rfl, rfl, by simp [setBlock], fun i _ hi => heap_setBlock_other hb _ (fun e => hi (by rw [e]))⟩, ?_, ?_⟩
  ·simp [Instr.mapUpdate, run_underlying ht, MapKept.run_getObj_map hb, K.check w false hkey, h1, hj, h3, K.stays w hkey, MapKept.run_setObj_map _ hb, Result.andThen, setBlock]
  ·intro _
   refine ⟨_, _, heap_setBlock_same hb _, ?_, ?_⟩
   ·rw [hlist, List.map_set, ← hL]
    have : key = (es.toList.map (fun x : MapEntry => x.key))[j]'(by simpa using hjl) := by
     rw [List.getElem_map, (List.getElem?_eq_some_iff.1 h2).2, h3]
    show (es.toList.map (fun x : MapEntry => x.key)).set j key = _
    conv => lhs; rw [this]
    exact List.set_getElem_self _
   ·intro x hx
    rw [hlist] at hx
    rcases List.mem_or_eq_of_mem_set hx with hx | rfl
    ·exact hv x hx
    ·rfl
  ·intro hn
   exact absurd (by rw [← hL]; exact List.mem_map.2 ⟨e0, List.mem_of_getElem? h2, h3⟩) hn
theorem len (h : is w b L) (ht : P.underlying t = some (.map k e)) (ty : TypeId) : (Builtin.len_ #[t] ty #[.map (some b)]).run P w = .ok (.int .i64 L.length) w := by
 obtain ⟨es, clock, hb, hL, hv⟩ := h
 rw [← hL]
 simp [Builtin.len_, run_underlying ht, MapKept.run_getObj_map hb, goInt, Result.andThen]
theorem is_below {w w' : World} (h : is w b L) (hb : Below w.heap.size w w') : is w' b L := of_block h (hb.block b (lt h))
theorem wp_store {ops : Array Oper} {rest : List Oper} {o : Oper} {a : Act} {Q : Exit → Act → World → Prop} (hg : o.guard = none) (m x v : Operand) (t : TypeId) (hop : o.op = Op.mapUpdate t m x v)
  (k e : TypeId) (K : Keyed P k) (ht : P.underlying t = some (.map k e)) (b : Nat) (L : List Value) (hm : a.eval m = .map (some b)) (his : is w b L) (hk : ∀ v ∈ L, ∃ l, keyOf P k v = some l)
  (key : Value) (hx : a.eval x = key) (hv : a.eval v = .bool true) (hkey : ∃ l, keyOf P k key = some l)
  (hK : ∀ w', w.grownBy w' (some b) → (key ∈ L → is w' b L) → (key ∉ L → is w' b (L ++ [key])) → wpList P ops Q rest (a.put o.dst undef) w') :
  wpList P ops Q (o :: rest) a w := by
 refine wpList_plain hg fun K' hK' => ?_
 obtain ⟨l, hl⟩ := hkey
 obtain ⟨w', hrun, r0, r1, r2⟩ := store his K ht hk hl
 unfold Oper.wp
 simp [execOp, hop, hm, hx, hv, hrun, Result.andThen]
 exact hK' _ _ (hK w' r0 r1 r2)
theorem wp_len {ops : Array Oper} {rest : List Oper} {o : Oper} {a : Act} {Q : Exit → Act → World → Prop} (hg : o.guard = none) (m : Operand) (t : TypeId) (hop : o.op = Op.call { callee := Callee.builtin Builtin.len, args := #[m], argTypes := #[t] })
  (k e : TypeId) (ht : P.underlying t = some (.map k e)) (b : Nat) (L : List Value) (hm : a.eval m = .map (some b)) (his : is w b L)
  (hK : wpList P ops Q rest (a.put o.dst (.int .i64 L.length)) w) : wpList P ops Q (o :: rest) a w := by
 refine wpList_plain hg fun K' hK' => ?_
 unfold Oper.wp
 simp [execOp, hop, resolve, invoke, builtin, hm, len his ht o.type, Result.andThen]
 exact hK' _ _ hK
end Go.KeySet
end
section
namespace Go.Proofs.Ytifkldehbaphgaa.PAll
open Go.RowKit Go.PW.PrintWords
def goodU (n : Nat) (u : List Int) : Prop := u.length = n ∧ ∀ x ∈ u, (Lit.int .i64 x).wf = true
instance (n : Nat) (u : List Int) : Decidable (goodU n u) := by unfold goodU; infer_instance
def encU (u : List Int) : Value := .agg ((u.map (Value.int .i64)).toArray)
theorem encU_inj {u v : List Int} (h : encU u = encU v) : u = v := by
 unfold encU at h
 injection h with h
 have h2 : u.map (Value.int .i64) = v.map (Value.int .i64) := by simpa using congrArg Array.toList h
 exact (List.map_inj_right (f := Value.int .i64) (fun a b e => by injection e)).1 h2
theorem encU_mem {u : List Int} {L : List (List Int)} : encU u ∈ L.map encU ↔ u ∈ L := by
 constructor
 ·intro h
  obtain ⟨v, hv, e⟩ := List.mem_map.1 h
  exact encU_inj e ▸ hv
 ·exact fun h => List.mem_map.2 ⟨u, h, rfl⟩
def addU (L : List (List Int)) (u : List Int) : List (List Int) := if u ∈ L then L else L ++ [u]
theorem laidAll : laidOutB Try.prog = true := by kernel_rfl
theorem lits_int (d : Nat) {n : Int} (h : (Lit.int .i64 n).wf = true) : Try.prog.keyLits (d + 1) 3 [.int .i64 n] = some [.int .i64 n] := by
 simp [Program.keyLits, Try.underlying3, h]
theorem cells3 : Try.prog.cellsOf 3 = 1 := by kernel_rfl
theorem cells75 : Try.prog.cellsOf 75 = 5 := by kernel_rfl
theorem lits_col (d : Nat) {a b c e f : Int} (ha : (Lit.int .i64 a).wf = true) (hb : (Lit.int .i64 b).wf = true) (hc : (Lit.int .i64 c).wf = true) (he : (Lit.int .i64 e).wf = true) (hf : (Lit.int .i64 f).wf = true) :
  Try.prog.keyLits (d + 2) 75 [.int .i64 a, .int .i64 b, .int .i64 c, .int .i64 e, .int .i64 f] = some [.int .i64 a, .int .i64 b, .int .i64 c, .int .i64 e, .int .i64 f] := by
 unfold Program.keyLits
 simp [Try.underlying75, cells75, cells3, List.range, List.range.loop, lits_int d ha, lits_int d hb, lits_int d hc, lits_int d he, lits_int d hf]
theorem cells76 : Try.prog.cellsOf 76 = 10 := by kernel_rfl
theorem cells78 : Try.prog.cellsOf 78 = 12 := by kernel_rfl
theorem lits_cols (d : Nat) {u v : List Int} (hu : goodU 5 u) (hv : goodU 5 v) : Try.prog.keyLits (d + 3) 76 ((u ++ v).map (Value.int .i64)) = some ((u ++ v).map (Lit.int .i64)) := by
 obtain ⟨hl, hw⟩ := hu
 obtain ⟨hl2, hw2⟩ := hv
 match u, hl, v, hl2 with
 | [a, b, c, e, f], _, [a', b', c', e', f'], _ =>
  unfold Program.keyLits
  simp [Try.underlying76, cells76, cells75, List.range, List.range.loop, lits_col d (hw a (by simp)) (hw b (by simp)) (hw c (by simp)) (hw e (by simp)) (hw f (by simp)), lits_col d (hw2 a' (by simp)) (hw2 b' (by simp)) (hw2 c' (by simp)) (hw2 e' (by simp)) (hw2 f' (by simp))]
theorem keyed98 : Go.Maps.Keyed Try.prog 78 := Go.Maps.Keyed.of_law (deep_law_laid laidAll (m := 5) (by omega) (of_decide_eq_true (by kernel_rfl)) (by kernel_rfl) (by rw [Try.underlying78]))
theorem key98 {u : List Int} (h : goodU 12 u) : ∃ l, keyOf Try.prog 78 (encU u) = some l := by
 obtain ⟨hl, hw⟩ := h
 match u, hl with
 | [g, q, a, b, c, e, f, a', b', c', e', f'], _ =>
  have hk : Try.prog.keyType 78 = true := by kernel_rfl
  have hs : Try.prog.types.size + 1 = (Try.prog.types.size - 3) + 4 := by have : 3 ≤ Try.prog.types.size := of_decide_eq_true (by kernel_rfl); omega
  have hfm : (Value.agg (([g, q, a, b, c, e, f, a', b', c', e', f'] : List Int).map (Value.int .i64)).toArray).formed Try.prog 78 = true := by simp [Value.formed, Try.underlying78, cells78]
  have hc2 : (Value.agg (([g, q, a, b, c, e, f, a', b', c', e', f'] : List Int).map (Value.int .i64)).toArray).cells.toList = ([g, q, a, b, c, e, f, a', b', c', e', f'] : List Int).map (Value.int .i64) := by simp [Value.cells]
  have hcols := lits_cols (Try.prog.types.size - 3) (u := [a, b, c, e, f]) (v := [a', b', c', e', f']) ⟨rfl, fun x hx => hw x (by simp at hx; rcases hx with h | h | h | h | h <;> simp [h])⟩ ⟨rfl, fun x hx => hw x (by simp at hx; rcases hx with h | h | h | h | h <;> simp [h])⟩
  unfold keyOf encU
  rw [Try.underlying78]
  simp only [hk, hfm, Bool.and_self, if_true, hc2]
  rw [hs]
  unfold Program.keyLits
  simp at hcols
  simp [Try.underlying78, cells78, cells76, cells3, lits_int _ (hw g (by simp)), lits_int _ (hw q (by simp)), hcols]
end Go.Proofs.Ytifkldehbaphgaa.PAll
end
section
namespace Go.Proofs.Ytifkldehbaphgaa.PAll
open Go.RowKit Go.PW.PrintWords Go.PW.PrintLast Go.PW.PrintMore
attribute [local go_sem] max2_int min2_int max_two min_two
def rowC (a b : Int) (L : List Int) : Array Value := ((a :: b :: L).map (Value.int .i64)).toArray
theorem rowC_cell (a b : Int) (L : List Int) (j : Nat) (hj : j < L.length) : (rowC a b L)[2 + j]? = some (.int .i64 (L.getD j 0)) := by
 rw [Nat.add_comm]
 simp [rowC, hj]
theorem rowC_set (a b : Int) (L : List Int) (j : Nat) (v : Int) : (rowC a b L).setIfInBounds (2 + j) (.int .i64 v) = rowC a b (L.set j v) := by
 rw [Nat.add_comm]
 simp [rowC]
theorem ten_of (L : List Int) (h : L.length = 10) : ∃ y0 y1 y2 y3 y4 y5 y6 y7 y8 y9, L = [y0, y1, y2, y3, y4, y5, y6, y7, y8, y9] := by
 match L, h with
 | [y0, y1, y2, y3, y4, y5, y6, y7, y8, y9], _ => exact ⟨y0, y1, y2, y3, y4, y5, y6, y7, y8, y9, rfl⟩
mutual
def c_table_renumbered.l0 : Nat → List Int → Int → Int → Int → Int → Int → Int → Int → Int → Int → Int → Int → Int → Int → Int → List Int → Option (List Int)
 | 0, _, _, _, _, _, _, _, _, _, _, _, _, _, _, _, _ => none
 | k + 1, l, g, q, a0, a1, a2, a3, a4, a5, a6, a7, a8, a9, a10, a11, L => if q < g then (c_table_renumbered.l1 k l g q 0 a0 a1 a2 a3 a4 a5 a6 a7 a8 a9 a10 a11 L) else some L
def c_table_renumbered.l1 : Nat → List Int → Int → Int → Int → Int → Int → Int → Int → Int → Int → Int → Int → Int → Int → Int → Int → List Int → Option (List Int)
 | 0, _, _, _, _, _, _, _, _, _, _, _, _, _, _, _, _, _ => none
 | k + 1, l, g, q, i, a0, a1, a2, a3, a4, a5, a6, a7, a8, a9, a10, a11, L => if i < (l.length : Int) then (if 0 ≤ i then (if i < (l.length : Int) then ((colAtF a0 a1 a2 a3 a4 a5 a6 a7 a8 a9 a10 a11 q (rd l i)).bind fun t => ((sl_Index_int_int.f k l t).bind fun u => (if (0 ≤ q ∧ q < 2) ∧ i < 5 then (c_table_renumbered.l1 k l g q (wrap64 (i + 1)) a0 a1 a2 a3 a4 a5 a6 a7 a8 a9 a10 a11 (L.set (q.toNat * 5 + i.toNat) u)) else none))) else none) else none) else (c_table_renumbered.l0 k l g (wrap64 (q + 1)) a0 a1 a2 a3 a4 a5 a6 a7 a8 a9 a10 a11 L)
end
def c_table_renumbered.f (k : Nat) (a0_0 : Int) (a0_1 : Int) (a0_2 : Int) (a0_3 : Int) (a0_4 : Int) (a0_5 : Int) (a0_6 : Int) (a0_7 : Int) (a0_8 : Int) (a0_9 : Int) (a0_10 : Int) (a0_11 : Int) (a1 : Int) : Option (Int × Int × Int × Int × Int × Int × Int × Int × Int × Int × Int × Int) := (c_table_order.f k a0_0 a0_1 a0_2 a0_3 a0_4 a0_5 a0_6 a0_7 a0_8 a0_9 a0_10 a0_11 a1).bind fun bt => ((c_table_renumbered.l0 k bt.1 a0_0 0 a0_0 a0_1 a0_2 a0_3 a0_4 a0_5 a0_6 a0_7 a0_8 a0_9 a0_10 a0_11 (List.replicate 10 0)).bind fun L => some (a0_0, a0_1, L.getD 0 0, L.getD 1 0, L.getD 2 0, L.getD 3 0, L.getD 4 0, L.getD 5 0, L.getD 6 0, L.getD 7 0, L.getD 8 0, L.getD 9 0))
theorem c_table_renumbered.calls (k : Nat) (a0_0 : Int) (a0_1 : Int) (a0_2 : Int) (a0_3 : Int) (a0_4 : Int) (a0_5 : Int) (a0_6 : Int) (a0_7 : Int) (a0_8 : Int) (a0_9 : Int) (a0_10 : Int) (a0_11 : Int) (a1 : Int) (r1 : Int) (r2 : Int) (r3 : Int) (r4 : Int) (r5 : Int) (r6 : Int) (r7 : Int) (r8 : Int) (r9 : Int) (r10 : Int) (r11 : Int) (r12 : Int) (w : World) (h : c_table_renumbered.f k a0_0 a0_1 a0_2 a0_3 a0_4 a0_5 a0_6 a0_7 a0_8 a0_9 a0_10 a0_11 a1 = some (r1, r2, r3, r4, r5, r6, r7, r8, r9, r10, r11, r12)) :
  Calls Try.prog 65 #[.agg #[.int .i64 a0_0, .int .i64 a0_1, .int .i64 a0_2, .int .i64 a0_3, .int .i64 a0_4, .int .i64 a0_5, .int .i64 a0_6, .int .i64 a0_7, .int .i64 a0_8, .int .i64 a0_9, .int .i64 a0_10, .int .i64 a0_11], .int .i64 a1] w fun e w' => e = .returned (.agg #[.int .i64 r1, .int .i64 r2, .int .i64 r3, .int .i64 r4, .int .i64 r5, .int .i64 r6, .int .i64 r7, .int .i64 r8, .int .i64 r9, .int .i64 r10, .int .i64 r11, .int .i64 r12]) ∧ Below w.heap.size w w' := by
 have hu78 := Try.underlying78
 have HB := a_ (Below.refl w.heap.size w)
 have H := h
 unfold c_table_renumbered.f at H
 clear h
 replace H := Option.bind_eq_some_iff.mp H
 obtain ⟨⟨t205, t208⟩, A30, H⟩ := H
 have A3 := a_ A30
 clear A30
 replace H := Option.bind_eq_some_iff.mp H
 obtain ⟨LF, H0_, H⟩ := H
 have HR_ := a_ H
 have H' := a_ (show c_table_renumbered.l0 k t205 a0_0 0 a0_0 a0_1 a0_2 a0_3 a0_4 a0_5 a0_6 a0_7 a0_8 a0_9 a0_10 a0_11 (List.replicate 10 0) = some LF from H0_)
 clear H H0_
 go_enter Try.func65, Try.ntmps65
 go_wp2_with (first | ((with_reducible refine gate_dst (N := 2) rfl ?_); refine box_event ?hg (N := 2) ?hd (cs := #[.int .i64 a0_0, .int .i64 a0_1, .int .i64 a0_2, .int .i64 a0_3, .int .i64 a0_4, .int .i64 a0_5, .int .i64 a0_6, .int .i64 a0_7, .int .i64 a0_8, .int .i64 a0_9, .int .i64 a0_10, .int .i64 a0_11]) (t := 78) ?hr ?_; (case hd => rfl); (case hg => rfl); (case hr => first | (go_simp; done) | (go_simp; rfl)); intro gb203 hg w4 hbox hb; have BK203 := a_ (hbox); have GW203 := a_ ((by rw [hg]; exact (bZ_ (gr HB.out)) : w.heap.size ≤ gb203)); have GE203 := GEc.mk ((by rw [hg]; exact (bZ_ (gr HB.out)) : w.heap.size ≤ gb203)); replace HB := a_ (bT_ HB.out (tr hb)); clear hb hbox hg) | ((with_reducible refine gate_dst (N := 4) rfl ?_); refine box_event ?hg (N := 4) ?hd (cs := #[.int .i64 0, .int .i64 0, .int .i64 0, .int .i64 0, .int .i64 0, .int .i64 0, .int .i64 0, .int .i64 0, .int .i64 0, .int .i64 0, .int .i64 0, .int .i64 0]) (t := 78) ?hr ?_; (case hd => rfl); (case hg => rfl); (case hr => first | (go_simp; done) | (go_simp; rfl)); intro gb204 hg w5 hbox hb; have BK204 := a_ (hbox); have GW204 := a_ ((by rw [hg]; exact (bZ_ (by exact gs HB.out)) : w.heap.size ≤ gb204)); have GE204 := GEc.mk ((by rw [hg]; exact (bZ_ (by exact gs HB.out)) : w.heap.size ≤ gb204)); have NB203_204 := NEc.mk ((by rw [hg]; exact Nat.ne_of_lt (blk_lt (g := gb203) (o := .cells #[.int .i64 a0_0, .int .i64 a0_1, .int .i64 a0_2, .int .i64 a0_3, .int .i64 a0_4, .int .i64 a0_5, .int .i64 a0_6, .int .i64 a0_7, .int .i64 a0_8, .int .i64 a0_9, .int .i64 a0_10, .int .i64 a0_11] 78 (0, 0)) (by exact bk BK203.out)) : gb203 ≠ gb204)); have NB204_203 := NEc.mk ((by rw [hg]; exact Nat.ne_of_gt (blk_lt (g := gb203) (o := .cells #[.int .i64 a0_0, .int .i64 a0_1, .int .i64 a0_2, .int .i64 a0_3, .int .i64 a0_4, .int .i64 a0_5, .int .i64 a0_6, .int .i64 a0_7, .int .i64 a0_8, .int .i64 a0_9, .int .i64 a0_10, .int .i64 a0_11] 78 (0, 0)) (by exact bk BK203.out)) : gb204 ≠ gb203)); replace BK203 := a_ (kB_ BK203.out (tr hb)); replace HB := a_ (bT_ (by exact gs HB.out) hb); clear hb hbox hg; have hnb6 := NB203_204.out; have hnc6 := NB204_203.out; obtain ⟨hcz7_0, hcz7_1, hcz7_2, hcz7_3, hcz7_4, hcz7_5, hcz7_6, hcz7_7, hcz7_8, hcz7_9, hcz7_10, hcz7_11⟩ := cs12 BK203.out; have hfz7_0 := kf_ BK203.out 0; have hfz7_1 := kf_ BK203.out 1; have hfz7_2 := kf_ BK203.out 2; have hfz7_3 := kf_ BK203.out 3; have hfz7_4 := kf_ BK203.out 4; have hfz7_5 := kf_ BK203.out 5; have hfz7_6 := kf_ BK203.out 6; have hfz7_7 := kf_ BK203.out 7; have hfz7_8 := kf_ BK203.out 8; have hfz7_9 := kf_ BK203.out 9; have hfz7_10 := kf_ BK203.out 10; have hfz7_11 := kf_ BK203.out 11) | ((with_reducible refine gate_callee (f := 53) rfl ?_); refine goesL_ (some 14) rfl rfl Try.func53 (by kernel_rfl) rfl #[.agg #[.int .i64 a0_0, .int .i64 a0_1, .int .i64 a0_2, .int .i64 a0_3, .int .i64 a0_4, .int .i64 a0_5, .int .i64 a0_6, .int .i64 a0_7, .int .i64 a0_8, .int .i64 a0_9, .int .i64 a0_10, .int .i64 a0_11], .int .i64 a1] rfl (by (try simp only [List.map_toArray, List.map_cons, List.map_nil]); first | done | rfl | (simp only [List.length_drop, List.length_take]; rfl)) ?_; (with_reducible refine (c_table_order.calls k a0_0 a0_1 a0_2 a0_3 a0_4 a0_5 a0_6 a0_7 a0_8 a0_9 a0_10 a0_11 a1 t205 t208 _ A3.out).mono ?_); rintro e w8 ⟨v206, v209, rfl, ho0, ho1, hb⟩; refine ⟨_, rfl, ?_⟩; have HO207 := a_ (Kd.R_lower ho0 (bZ_ (by exact gs HB.out))); have HO210 := a_ (Kd.R_lower ho1 (bZ_ (by exact gs HB.out))); replace BK203 := a_ (kB_ BK203.out (tr hb)); replace BK204 := a_ (kB_ BK204.out (tr hb)); replace HB := a_ (bT_ (by exact gs HB.out) hb); (try clear hb); (try clear hb2); (try clear hk); (try clear hi); (try clear ho0); (try clear ho1); obtain ⟨hcz9_0, hcz9_1, hcz9_2, hcz9_3, hcz9_4, hcz9_5, hcz9_6, hcz9_7, hcz9_8, hcz9_9, hcz9_10, hcz9_11⟩ := cs12 BK203.out; have hfz9_0 := kf_ BK203.out 0; have hfz9_1 := kf_ BK203.out 1; have hfz9_2 := kf_ BK203.out 2; have hfz9_3 := kf_ BK203.out 3; have hfz9_4 := kf_ BK203.out 4; have hfz9_5 := kf_ BK203.out 5; have hfz9_6 := kf_ BK203.out 6; have hfz9_7 := kf_ BK203.out 7; have hfz9_8 := kf_ BK203.out 8; have hfz9_9 := kf_ BK203.out 9; have hfz9_10 := kf_ BK203.out 10; have hfz9_11 := kf_ BK203.out 11) | ((with_reducible refine gate_dst (N := 7) rfl ?_); refine box_event ?hg (N := 7) ?hd (cs := #[.int .i64 0, .int .i64 0, .int .i64 0, .int .i64 0, .int .i64 0, .int .i64 0, .int .i64 0, .int .i64 0, .int .i64 0, .int .i64 0, .int .i64 0, .int .i64 0]) (t := 78) ?hr ?_; (case hd => rfl); (case hg => rfl); (case hr => first | (go_simp; done) | (go_simp; rfl)); intro gb211 hg w10 hbox hb; have BK211 := a_ (hbox); have GW211 := a_ ((by rw [hg]; exact (bZ_ (by exact gs HB.out)) : w.heap.size ≤ gb211)); have GE211 := GEc.mk ((by rw [hg]; exact (bZ_ (by exact gs HB.out)) : w.heap.size ≤ gb211)); have NB203_211 := NEc.mk ((by rw [hg]; exact Nat.ne_of_lt (blk_lt (g := gb203) (o := .cells #[.int .i64 a0_0, .int .i64 a0_1, .int .i64 a0_2, .int .i64 a0_3, .int .i64 a0_4, .int .i64 a0_5, .int .i64 a0_6, .int .i64 a0_7, .int .i64 a0_8, .int .i64 a0_9, .int .i64 a0_10, .int .i64 a0_11] 78 (0, 0)) (by exact bk BK203.out)) : gb203 ≠ gb211)); have NB211_203 := NEc.mk ((by rw [hg]; exact Nat.ne_of_gt (blk_lt (g := gb203) (o := .cells #[.int .i64 a0_0, .int .i64 a0_1, .int .i64 a0_2, .int .i64 a0_3, .int .i64 a0_4, .int .i64 a0_5, .int .i64 a0_6, .int .i64 a0_7, .int .i64 a0_8, .int .i64 a0_9, .int .i64 a0_10, .int .i64 a0_11] 78 (0, 0)) (by exact bk BK203.out)) : gb211 ≠ gb203)); have NB204_211 := NEc.mk ((by rw [hg]; exact Nat.ne_of_lt (blk_lt (g := gb204) (o := .cells #[.int .i64 0, .int .i64 0, .int .i64 0, .int .i64 0, .int .i64 0, .int .i64 0, .int .i64 0, .int .i64 0, .int .i64 0, .int .i64 0, .int .i64 0, .int .i64 0] 78 (0, 0)) (by exact bk BK204.out)) : gb204 ≠ gb211)); have NB211_204 := NEc.mk ((by rw [hg]; exact Nat.ne_of_gt (blk_lt (g := gb204) (o := .cells #[.int .i64 0, .int .i64 0, .int .i64 0, .int .i64 0, .int .i64 0, .int .i64 0, .int .i64 0, .int .i64 0, .int .i64 0, .int .i64 0, .int .i64 0, .int .i64 0] 78 (0, 0)) (by exact bk BK204.out)) : gb211 ≠ gb204)); replace HO207 := a_ (Kd.R_below HO207.out (tr hb)); replace HO210 := a_ (Kd.R_below HO210.out (tr hb)); replace BK203 := a_ (kB_ BK203.out (tr hb)); replace BK204 := a_ (kB_ BK204.out (tr hb)); replace HB := a_ (bT_ (by exact gs HB.out) hb); clear hb hbox hg; have hnb11 := NB211_203.out; have hnc11 := NB203_211.out; have hnb12 := NB211_204.out; have hnc12 := NB204_211.out; obtain ⟨hcz13_0, hcz13_1, hcz13_2, hcz13_3, hcz13_4, hcz13_5, hcz13_6, hcz13_7, hcz13_8, hcz13_9, hcz13_10, hcz13_11⟩ := cs12 BK211.out; have hfz13_0 := kf_ BK211.out 0; have hfz13_1 := kf_ BK211.out 1; have hfz13_2 := kf_ BK211.out 2; have hfz13_3 := kf_ BK211.out 3; have hfz13_4 := kf_ BK211.out 4; have hfz13_5 := kf_ BK211.out 5; have hfz13_6 := kf_ BK211.out 6; have hfz13_7 := kf_ BK211.out 7; have hfz13_8 := kf_ BK211.out 8; have hfz13_9 := kf_ BK211.out 9; have hfz13_10 := kf_ BK211.out 10; have hfz13_11 := kf_ BK211.out 11; obtain ⟨hcz14_0, hcz14_1, hcz14_2, hcz14_3, hcz14_4, hcz14_5, hcz14_6, hcz14_7, hcz14_8, hcz14_9, hcz14_10, hcz14_11⟩ := cs12 BK203.out; have hfz14_0 := kf_ BK203.out 0; have hfz14_1 := kf_ BK203.out 1; have hfz14_2 := kf_ BK203.out 2; have hfz14_3 := kf_ BK203.out 3; have hfz14_4 := kf_ BK203.out 4; have hfz14_5 := kf_ BK203.out 5; have hfz14_6 := kf_ BK203.out 6; have hfz14_7 := kf_ BK203.out 7; have hfz14_8 := kf_ BK203.out 8; have hfz14_9 := kf_ BK203.out 9; have hfz14_10 := kf_ BK203.out 10; have hfz14_11 := kf_ BK203.out 11))
 go_loopg [24] k (fun kq v24 w' => ∃ (x24_1 : Int) (L_1 : List Int), v24 = .int .i64 x24_1 ∧ Aside0 (c_table_renumbered.l0 kq t205 a0_0 x24_1 a0_0 a0_1 a0_2 a0_3 a0_4 a0_5 a0_6 a0_7 a0_8 a0_9 a0_10 a0_11 L_1 = some LF) ∧ Aside0 (L_1.length = 10) ∧ Aside0 (kq ≤ k) ∧ Aside0 (Kd.R (Kd.int .i64) 3 w' w.heap.size (fun _ => True) v206 t205) ∧ Aside0 (w'.heap[gb203]? = some (.cells #[.int .i64 a0_0, .int .i64 a0_1, .int .i64 a0_2, .int .i64 a0_3, .int .i64 a0_4, .int .i64 a0_5, .int .i64 a0_6, .int .i64 a0_7, .int .i64 a0_8, .int .i64 a0_9, .int .i64 a0_10, .int .i64 a0_11] 78 (0, 0))) ∧ Aside0 (w'.heap[gb204]? = some (.cells #[.int .i64 0, .int .i64 0, .int .i64 0, .int .i64 0, .int .i64 0, .int .i64 0, .int .i64 0, .int .i64 0, .int .i64 0, .int .i64 0, .int .i64 0, .int .i64 0] 78 (0, 0))) ∧ Aside0 (w'.heap[gb211]? = some (.cells (rowC a0_0 a0_1 L_1) 78 (0, 0))) ∧ Aside0 (Below w.heap.size w w'))
 case atStart => exact ⟨(0), (List.replicate 10 0), (by first | rfl | (simp; done) | (simp [*]; done)), H', ⟨rfl⟩, ⟨Nat.le_refl _⟩, ⟨by exact rk (Kd.R_mono (Kd.R_far (p := ⟨gb211, 11, none⟩) (Kd.R_far (p := ⟨gb211, 10, none⟩) (Kd.R_far (p := ⟨gb211, 9, none⟩) (Kd.R_far (p := ⟨gb211, 8, none⟩) (Kd.R_far (p := ⟨gb211, 7, none⟩) (Kd.R_far (p := ⟨gb211, 6, none⟩) (Kd.R_far (p := ⟨gb211, 5, none⟩) (Kd.R_far (p := ⟨gb211, 4, none⟩) (Kd.R_far (p := ⟨gb211, 3, none⟩) (Kd.R_far (p := ⟨gb211, 2, none⟩) (Kd.R_far (p := ⟨gb211, 1, none⟩) (Kd.R_far (p := ⟨gb211, 0, none⟩) (Kd.R_types HO207.out BK211.out (by decide)) (fun _ hk => hk.2) (.int .i64 a0_0)) (fun _ hk => hk.2) (.int .i64 a0_1)) (fun _ hk => hk.2) (.int .i64 0)) (fun _ hk => hk.2) (.int .i64 0)) (fun _ hk => hk.2) (.int .i64 0)) (fun _ hk => hk.2) (.int .i64 0)) (fun _ hk => hk.2) (.int .i64 0)) (fun _ hk => hk.2) (.int .i64 0)) (fun _ hk => hk.2) (.int .i64 0)) (fun _ hk => hk.2) (.int .i64 0)) (fun _ hk => hk.2) (.int .i64 0)) (fun _ hk => hk.2) (.int .i64 0)) (fun _ hk => trivial))⟩, ⟨by exact bk BK203.out⟩, ⟨by exact bk BK204.out⟩, ⟨by exact pb BK211.out (by rfl)⟩, ⟨by exact gs HB.out⟩⟩
 clear H'
 try clear c1
 try clear p2
 try clear c5
 try clear c6
 try clear c11
 try clear c12
 try clear hcz13_0 hcz13_1 hcz13_10 hcz13_11 hcz13_2 hcz13_3 hcz13_4 hcz13_5 hcz13_6 hcz13_7 hcz13_8 hcz13_9
 try clear hcz14_0 hcz14_1 hcz14_10 hcz14_11 hcz14_2 hcz14_3 hcz14_4 hcz14_5 hcz14_6 hcz14_7 hcz14_8 hcz14_9
 try clear hcz7_0 hcz7_1 hcz7_10 hcz7_11 hcz7_2 hcz7_3 hcz7_4 hcz7_5 hcz7_6 hcz7_7 hcz7_8 hcz7_9
 try clear hcz9_0 hcz9_1 hcz9_10 hcz9_11 hcz9_2 hcz9_3 hcz9_4 hcz9_5 hcz9_6 hcz9_7 hcz9_8 hcz9_9
 try clear hfz13_0 hfz13_1 hfz13_10 hfz13_11 hfz13_2 hfz13_3 hfz13_4 hfz13_5 hfz13_6 hfz13_7 hfz13_8 hfz13_9
 try clear hfz14_0 hfz14_1 hfz14_10 hfz14_11 hfz14_2 hfz14_3 hfz14_4 hfz14_5 hfz14_6 hfz14_7 hfz14_8 hfz14_9
 try clear hfz7_0 hfz7_1 hfz7_10 hfz7_11 hfz7_2 hfz7_3 hfz7_4 hfz7_5 hfz7_6 hfz7_7 hfz7_8 hfz7_9
 try clear hfz9_0 hfz9_1 hfz9_10 hfz9_11 hfz9_2 hfz9_3 hfz9_4 hfz9_5 hfz9_6 hfz9_7 hfz9_8 hfz9_9
 obtain ⟨x24_1, L_1, rfl, HA, HL_1, HK1, HO_5, BK203, BK204, BK211, HB⟩ := hrel
 cases gk with
 | zero => exact absurd HA.out (by simp [c_table_renumbered.l0])
 | succ k1 =>
  have H := HA.out
  clear HA
  simp only [c_table_renumbered.l0] at H
  by_cases c15 : x24_1 < a0_0
  rotate_left
  ·rw [if_neg c15] at H
   have c15b0 : decide (x24_1 < a0_0) = false := decide_eq_false c15
   clear c15
   obtain rfl := Option.some.inj H
   obtain ⟨Xa2_1, Xa3_1, Xa4_1, Xa5_1, Xa6_1, Xa7_1, Xa8_1, Xa9_1, Xa10_1, Xa11_1, hten_⟩ := ten_of _ HL_1.out
   subst hten_
   have H := HR_.out
   simp only [List.getD_cons_zero, List.getD_cons_succ] at H
   replace BK211 := a_ (show wr.heap[gb211]? = some (.cells #[.int .i64 a0_0, .int .i64 a0_1, .int .i64 Xa2_1, .int .i64 Xa3_1, .int .i64 Xa4_1, .int .i64 Xa5_1, .int .i64 Xa6_1, .int .i64 Xa7_1, .int .i64 Xa8_1, .int .i64 Xa9_1, .int .i64 Xa10_1, .int .i64 Xa11_1] 78 (0, 0)) from BK211.out)
   simp only [Option.some.injEq, Prod.mk.injEq] at H
   obtain ⟨rfl, rfl, rfl, rfl, rfl, rfl, rfl, rfl, rfl, rfl, rfl, rfl⟩ := H
   have hnb64 := NB211_203.out
   have hnc64 := NB203_211.out
   have hnb65 := NB211_204.out
   have hnc65 := NB204_211.out
   obtain ⟨hcz66_0, hcz66_1, hcz66_2, hcz66_3, hcz66_4, hcz66_5, hcz66_6, hcz66_7, hcz66_8, hcz66_9, hcz66_10, hcz66_11⟩ := cs12 BK211.out
   have hfz66_0 := kf_ BK211.out 0
   have hfz66_1 := kf_ BK211.out 1
   have hfz66_2 := kf_ BK211.out 2
   have hfz66_3 := kf_ BK211.out 3
   have hfz66_4 := kf_ BK211.out 4
   have hfz66_5 := kf_ BK211.out 5
   have hfz66_6 := kf_ BK211.out 6
   have hfz66_7 := kf_ BK211.out 7
   have hfz66_8 := kf_ BK211.out 8
   have hfz66_9 := kf_ BK211.out 9
   have hfz66_10 := kf_ BK211.out 10
   have hfz66_11 := kf_ BK211.out 11
   have hnb67 := NB204_203.out
   have hnc67 := NB203_204.out
   obtain ⟨hcz68_0, hcz68_1, hcz68_2, hcz68_3, hcz68_4, hcz68_5, hcz68_6, hcz68_7, hcz68_8, hcz68_9, hcz68_10, hcz68_11⟩ := cs12 BK204.out
   have hfz68_0 := kf_ BK204.out 0
   have hfz68_1 := kf_ BK204.out 1
   have hfz68_2 := kf_ BK204.out 2
   have hfz68_3 := kf_ BK204.out 3
   have hfz68_4 := kf_ BK204.out 4
   have hfz68_5 := kf_ BK204.out 5
   have hfz68_6 := kf_ BK204.out 6
   have hfz68_7 := kf_ BK204.out 7
   have hfz68_8 := kf_ BK204.out 8
   have hfz68_9 := kf_ BK204.out 9
   have hfz68_10 := kf_ BK204.out 10
   have hfz68_11 := kf_ BK204.out 11
   go_wp2
   refine bodyPost_ret (results_cell_row rfl _ _ gb204 78 #[.int .i64 a0_0, .int .i64 a0_1, .int .i64 Xa2_1, .int .i64 Xa3_1, .int .i64 Xa4_1, .int .i64 Xa5_1, .int .i64 Xa6_1, .int .i64 Xa7_1, .int .i64 Xa8_1, .int .i64 Xa9_1, .int .i64 Xa10_1, .int .i64 Xa11_1] (0, 0) _ rfl (by exact pb BK204.out (by rfl)) Try.underlying78 rfl (by kernel_rfl)) rfl ?_
   exact ⟨by first | rfl | (simp [errW_none, errW_some] <;> rfl) | (simp [*, errW_none, errW_some] <;> rfl), by exact gs HB.out⟩
  rw [if_pos c15] at H
  have c15b0 : decide (x24_1 < a0_0) = true := decide_eq_true c15
  clear c15
  have H' := a_ H
  clear H
  obtain ⟨Ao16, co16, eo16⟩ := Kd.R_slice HO_5.out
  subst eo16
  go_wp2
  go_loopg [29] k1 (fun kq v29 w' => ∃ (x29_2 : Int) (L_2 : List Int), v29 = .int .i64 x29_2 ∧ Aside0 (c_table_renumbered.l1 kq t205 a0_0 x24_1 x29_2 a0_0 a0_1 a0_2 a0_3 a0_4 a0_5 a0_6 a0_7 a0_8 a0_9 a0_10 a0_11 L_2 = some LF) ∧ Aside0 (L_2.length = 10) ∧ Aside0 (kq ≤ k1) ∧ Aside0 (Kd.R (Kd.int .i64) 3 w' w.heap.size (fun _ => True) (.slice Ao16 t205.length co16) t205) ∧ Aside0 (Kd.R (Kd.int .i64) 3 w' w.heap.size (fun _ => True) (.slice Ao16 t205.length co16) t205) ∧ Aside0 (w'.heap[gb203]? = some (.cells #[.int .i64 a0_0, .int .i64 a0_1, .int .i64 a0_2, .int .i64 a0_3, .int .i64 a0_4, .int .i64 a0_5, .int .i64 a0_6, .int .i64 a0_7, .int .i64 a0_8, .int .i64 a0_9, .int .i64 a0_10, .int .i64 a0_11] 78 (0, 0))) ∧ Aside0 (w'.heap[gb204]? = some (.cells #[.int .i64 0, .int .i64 0, .int .i64 0, .int .i64 0, .int .i64 0, .int .i64 0, .int .i64 0, .int .i64 0, .int .i64 0, .int .i64 0, .int .i64 0, .int .i64 0] 78 (0, 0))) ∧ Aside0 (w'.heap[gb211]? = some (.cells (rowC a0_0 a0_1 L_2) 78 (0, 0))) ∧ Aside0 (Below w.heap.size w w'))
  case atStart => exact ⟨(0), (L_1), (by first | rfl | (simp; done) | (simp [*]; done)), H', HL_1, ⟨Nat.le_refl _⟩, ⟨by exact rk HO_5.out⟩, ⟨by exact rk HO_5.out⟩, ⟨by exact bk BK203.out⟩, ⟨by exact bk BK204.out⟩, ⟨by exact bk BK211.out⟩, ⟨by exact gs HB.out⟩⟩
  clear H'
  try clear c1
  try clear p2
  try clear c5
  try clear c6
  try clear c11
  try clear c12
  try clear c15
  try clear c15b0
  try clear hcz13_0 hcz13_1 hcz13_10 hcz13_11 hcz13_2 hcz13_3 hcz13_4 hcz13_5 hcz13_6 hcz13_7 hcz13_8 hcz13_9
  try clear hcz14_0 hcz14_1 hcz14_10 hcz14_11 hcz14_2 hcz14_3 hcz14_4 hcz14_5 hcz14_6 hcz14_7 hcz14_8 hcz14_9
  try clear hcz7_0 hcz7_1 hcz7_10 hcz7_11 hcz7_2 hcz7_3 hcz7_4 hcz7_5 hcz7_6 hcz7_7 hcz7_8 hcz7_9
  try clear hcz9_0 hcz9_1 hcz9_10 hcz9_11 hcz9_2 hcz9_3 hcz9_4 hcz9_5 hcz9_6 hcz9_7 hcz9_8 hcz9_9
  try clear hfz13_0 hfz13_1 hfz13_10 hfz13_11 hfz13_2 hfz13_3 hfz13_4 hfz13_5 hfz13_6 hfz13_7 hfz13_8 hfz13_9
  try clear hfz14_0 hfz14_1 hfz14_10 hfz14_11 hfz14_2 hfz14_3 hfz14_4 hfz14_5 hfz14_6 hfz14_7 hfz14_8 hfz14_9
  try clear hfz7_0 hfz7_1 hfz7_10 hfz7_11 hfz7_2 hfz7_3 hfz7_4 hfz7_5 hfz7_6 hfz7_7 hfz7_8 hfz7_9
  try clear hfz9_0 hfz9_1 hfz9_10 hfz9_11 hfz9_2 hfz9_3 hfz9_4 hfz9_5 hfz9_6 hfz9_7 hfz9_8 hfz9_9
  try clear p2
  obtain ⟨x29_2, L_2, rfl, HA, HL_2, HK2, HO_5, HO_27, BK203, BK204, BK211, HB⟩ := hrel
  cases gk with
  | zero => exact absurd HA.out (by simp [c_table_renumbered.l1])
  | succ k2 =>
   have H := HA.out
   clear HA
   simp only [c_table_renumbered.l1] at H
   by_cases c17 : x29_2 < (t205.length : Int)
   rotate_left
   ·rw [if_neg c17] at H
    have c17b0 : decide (x29_2 < (t205.length : Int)) = false := decide_eq_false c17
    clear c17
    have H' := a_ H
    clear H
    go_wp2
    go_roundg k2
    case measure => have := HK1.out; have := HK2.out; omega
    case rel => exact ⟨(wrap64 (x24_1 + 1)), (L_2), (by first | rfl | (simp; done) | (simp [*]; done)), H', HL_2, ⟨by have := HK1.out; have := HK2.out; omega⟩, ⟨by exact rk HO_5.out⟩, ⟨by exact bk BK203.out⟩, ⟨by exact bk BK204.out⟩, ⟨by exact bk BK211.out⟩, ⟨by exact gs HB.out⟩⟩
   rw [if_pos c17] at H
   have c17b0 : decide (x29_2 < (t205.length : Int)) = true := decide_eq_true c17
   clear c17
   by_cases c18 : 0 ≤ x29_2
   rotate_left
   ·rw [if_neg c18] at H
    exact absurd H (by simp)
   rw [if_pos c18] at H
   have c18b0 : decide (0 ≤ x29_2) = true := decide_eq_true c18
   clear c18
   by_cases c19 : x29_2 < (t205.length : Int)
   rotate_left
   ·rw [if_neg c19] at H
    exact absurd H (by simp)
   rw [if_pos c19] at H
   have c19b0 : decide (x29_2 < (t205.length : Int)) = true := decide_eq_true c19
   clear c19
   replace H := Option.bind_eq_some_iff.mp H
   obtain ⟨t213, A200, H⟩ := H
   have A20 := a_ A200
   clear A200
   replace H := Option.bind_eq_some_iff.mp H
   obtain ⟨t214, A210, H⟩ := H
   have A21 := a_ A210
   clear A210
   by_cases c22 : (0 ≤ x24_1 ∧ x24_1 < 2) ∧ x29_2 < 5
   rotate_left
   ·rw [if_neg c22] at H
    exact absurd H (by simp)
   rw [if_pos c22] at H
   have H' := a_ H
   clear H
   have hqb := c22.1.1
   have hqc := c22.1.2
   have hic := c22.2
   have hib : 0 ≤ x29_2 := of_decide_eq_true (by assumption)
   clear c22
   have hsb := (colAt_in A20.out).2.1
   have hsc := (colAt_in A20.out).2.2
   have p212 : 0 ≤ (x29_2 : Int) := hib
   have q212 : x29_2 < (t205.length : Int) := of_decide_eq_true (by first | (with_reducible assumption) | assumption)
   obtain ⟨ad212, e212, hx212_0⟩ := Kd.at_int (Kd.R_reads' HO_27.out).2.2 x29_2 p212 q212
   cases e212
   replace p212 := eq_true p212
   replace q212 := eq_true q212
   try go_wp2
   replace HO_5 := a_ (Kd.R_drew HO_5.out)
   replace HO_27 := a_ (Kd.R_drew HO_27.out)
   replace BK203 := a_ (kD_ BK203.out)
   replace BK204 := a_ (kD_ BK204.out)
   replace BK211 := a_ (kD_ BK211.out)
   replace HB := a_ (b1_ HB.out)
   refine start_ (n := 14) (S := fun w' => w'.cell? ⟨gb203, 0, none⟩ = some (.int .i64 a0_0) ∧ w'.cell? ⟨gb203, 1, none⟩ = some (.int .i64 a0_1) ∧ w'.cell? ⟨gb203, 2, none⟩ = some (.int .i64 a0_2) ∧ w'.cell? ⟨gb203, 3, none⟩ = some (.int .i64 a0_3) ∧ w'.cell? ⟨gb203, 4, none⟩ = some (.int .i64 a0_4) ∧ w'.cell? ⟨gb203, 5, none⟩ = some (.int .i64 a0_5) ∧ w'.cell? ⟨gb203, 6, none⟩ = some (.int .i64 a0_6) ∧ w'.cell? ⟨gb203, 7, none⟩ = some (.int .i64 a0_7) ∧ w'.cell? ⟨gb203, 8, none⟩ = some (.int .i64 a0_8) ∧ w'.cell? ⟨gb203, 9, none⟩ = some (.int .i64 a0_9) ∧ w'.cell? ⟨gb203, 10, none⟩ = some (.int .i64 a0_10) ∧ w'.cell? ⟨gb203, 11, none⟩ = some (.int .i64 a0_11)) (ds := []) #[false, false, false, false, false, false, false, false, false, false, false, false, false, false] (by kernel_rfl) rfl rfl ⟨(kc_ BK203.out 0).trans rfl, (kc_ BK203.out 1).trans rfl, (kc_ BK203.out 2).trans rfl, (kc_ BK203.out 3).trans rfl, (kc_ BK203.out 4).trans rfl, (kc_ BK203.out 5).trans rfl, (kc_ BK203.out 6).trans rfl, (kc_ BK203.out 7).trans rfl, (kc_ BK203.out 8).trans rfl, (kc_ BK203.out 9).trans rfl, (kc_ BK203.out 10).trans rfl, (kc_ BK203.out 11).trans rfl⟩ (fun hHeld => ?_)
   generalize wr.drew = w24 at HO_5 HO_27 BK203 BK204 BK211 HB hHeld ⊢
   refine pure_ (i := 0) (N := (some 34)) (v := ?_) (a' := ?_) #[true, false, false, false, false, false, false, false, false, false, false, false, false, false] rfl rfl (by kernel_rfl) (fun _ _ _ h => h) (Or.inl ⟨by rfl, ?_⟩) ?_ ?_
   rotate_left
   ·intro w'
    first | (go_simp; with_reducible rfl) | rfl | (go_simp; done)
   rotate_left
   ·first | (simp only [Act.put, List.setIfInBounds_toArray, List.set_cons_zero, List.set_cons_succ, i64_w, i32_w]; rfl) | rfl
   refine pure_ (i := 1) (N := (some 35)) (v := ?_) (a' := ?_) #[true, true, false, false, false, false, false, false, false, false, false, false, false, false] rfl rfl (by kernel_rfl) (fun _ _ _ h => h) (Or.inl ⟨by rfl, ?_⟩) ?_ ?_
   rotate_left
   ·intro w'
    first | (go_simp; with_reducible rfl) | rfl | (go_simp; done)
   rotate_left
   ·first | (simp only [Act.put, List.setIfInBounds_toArray, List.set_cons_zero, List.set_cons_succ, i64_w, i32_w]; rfl) | rfl
   refine pure_ (i := 2) (N := (some 36)) (v := ?_) (a' := ?_) #[true, true, true, false, false, false, false, false, false, false, false, false, false, false] rfl rfl (by kernel_rfl) (fun _ _ _ h => h) (Or.inl ⟨by rfl, ?_⟩) ?_ ?_
   rotate_left
   ·intro w'
    first | (go_simp; with_reducible rfl) | rfl | (go_simp; done)
   rotate_left
   ·first | (simp only [Act.put, List.setIfInBounds_toArray, List.set_cons_zero, List.set_cons_succ, i64_w, i32_w]; rfl) | rfl
   refine pure_ (i := 3) (N := (some 37)) (v := ?_) (a' := ?_) #[true, true, true, true, false, false, false, false, false, false, false, false, false, false] rfl rfl (by kernel_rfl) (fun _ _ _ h => h) (Or.inl ⟨by rfl, ?_⟩) ?_ ?_
   rotate_left
   ·intro w'
    first | (go_simp; with_reducible rfl) | rfl | (go_simp; done)
   rotate_left
   ·first | (simp only [Act.put, List.setIfInBounds_toArray, List.set_cons_zero, List.set_cons_succ, i64_w, i32_w]; rfl) | rfl
   refine pure_ (i := 4) (N := (some 38)) (v := ?_) (a' := ?_) #[true, true, true, true, true, false, false, false, false, false, false, false, false, false] rfl rfl (by kernel_rfl) (fun _ _ _ h => h) (Or.inl ⟨by rfl, ?_⟩) ?_ ?_
   rotate_left
   ·intro w'
    first | (go_simp; with_reducible rfl) | rfl | (go_simp; done)
   rotate_left
   ·first | (simp only [Act.put, List.setIfInBounds_toArray, List.set_cons_zero, List.set_cons_succ, i64_w, i32_w]; rfl) | rfl
   refine pure_ (i := 5) (N := (some 39)) (v := ?_) (a' := ?_) #[true, true, true, true, true, true, false, false, false, false, false, false, false, false] rfl rfl (by kernel_rfl) (fun _ _ _ h => h) (Or.inl ⟨by rfl, ?_⟩) ?_ ?_
   rotate_left
   ·intro w'
    first | (go_simp; with_reducible rfl) | rfl | (go_simp; done)
   rotate_left
   ·first | (simp only [Act.put, List.setIfInBounds_toArray, List.set_cons_zero, List.set_cons_succ, i64_w, i32_w]; rfl) | rfl
   refine pure_ (i := 6) (N := (some 40)) (v := ?_) (a' := ?_) #[true, true, true, true, true, true, true, false, false, false, false, false, false, false] rfl rfl (by kernel_rfl) (fun _ _ _ h => h) (Or.inl ⟨by rfl, ?_⟩) ?_ ?_
   rotate_left
   ·intro w'
    first | (go_simp; with_reducible rfl) | rfl | (go_simp; done)
   rotate_left
   ·first | (simp only [Act.put, List.setIfInBounds_toArray, List.set_cons_zero, List.set_cons_succ, i64_w, i32_w]; rfl) | rfl
   refine pure_ (i := 7) (N := (some 41)) (v := ?_) (a' := ?_) #[true, true, true, true, true, true, true, true, false, false, false, false, false, false] rfl rfl (by kernel_rfl) (fun _ _ _ h => h) (Or.inl ⟨by rfl, ?_⟩) ?_ ?_
   rotate_left
   ·intro w'
    first | (go_simp; with_reducible rfl) | rfl | (go_simp; done)
   rotate_left
   ·first | (simp only [Act.put, List.setIfInBounds_toArray, List.set_cons_zero, List.set_cons_succ, i64_w, i32_w]; rfl) | rfl
   refine pure_ (i := 10) (N := (some 44)) (v := ?_) (a' := ?_) #[true, true, true, true, true, true, true, true, false, false, true, false, false, false] rfl rfl (by kernel_rfl) (fun _ _ _ h => h) (Or.inl ⟨by rfl, ?_⟩) ?_ ?_
   rotate_left
   ·intro w'
    first | (go_simp; with_reducible rfl) | rfl | (go_simp; done)
   rotate_left
   ·first | (simp only [Act.put, List.setIfInBounds_toArray, List.set_cons_zero, List.set_cons_succ, i64_w, i32_w]; rfl) | rfl
   refine pure_ (i := 11) (N := (some 45)) (v := ?_) (a' := ?_) #[true, true, true, true, true, true, true, true, false, false, true, true, false, false] rfl rfl (by kernel_rfl) (fun _ _ _ h => h) (Or.inl ⟨by rfl, ?_⟩) ?_ ?_
   rotate_left
   ·intro w'
    first | (go_simp; with_reducible rfl) | rfl | (go_simp; done)
   rotate_left
   ·first | (simp only [Act.put, List.setIfInBounds_toArray, List.set_cons_zero, List.set_cons_succ, i64_w, i32_w]; rfl) | rfl
   refine take_ (i := 8) (N := (some 42)) (v := ?_) (a' := ?_) #[true, true, true, true, true, true, true, true, true, false, true, true, false, false] rfl rfl (by kernel_rfl) (fun _ _ _ h => h) (Or.inl ⟨by rfl, ?_⟩) hHeld ?_ ?_
   rotate_left
   ·rintro w' ⟨s0, s1, s2, s3, s4, s5, s6, s7, s8, s9, s10, s11⟩
    have hcc := colAt_cell A20.out s2 s3 s4 s5 s6 s7 s8 s9 s10 s11
    first | (go_simp; with_reducible rfl) | rfl | (go_simp; done)
   rotate_left
   ·first | (simp only [Act.put, List.setIfInBounds_toArray, List.set_cons_zero, List.set_cons_succ, i64_w, i32_w]; rfl) | rfl
   refine one_ (i := 9) (N := (some 43)) #[true, true, true, true, true, true, true, true, true, true, true, true, false, false] rfl rfl (by kernel_rfl) (by decide) (fun K hK => ?_)
   refine goes_ Try.func88 (by kernel_rfl) rfl #[.slice (some ad212) t205.length co16, .int .i64 t213] (by rfl) rfl rfl (by (try simp only [List.map_toArray, List.map_cons, List.map_nil]); first | done | rfl | (simp only [List.length_drop, List.length_take]; rfl)) ?_
   with_reducible refine (sl_Index_int_int.calls k2 _ _ t205 t213 t214 _ ?side1 ?side2 A21.out).mono ?_
   (case side1 => repeat (first | exact (Kd.R_reads' HO_5.out).2.2 | (with_reducible refine Kd.C_alloc ?_ _) | (with_reducible refine Kd.C_drewN ?_ _) | (with_reducible refine Kd.C_drew ?_)))
   (case side2 => exact (Kd.R_reads' HO_5.out).2.1)
   rintro e w' ⟨rfl, ⟨nd, rfl⟩⟩
   refine ⟨_, rfl, ?_⟩
   refine hK.out _ _ ⟨(kc_ BK203.out 0).trans rfl, (kc_ BK203.out 1).trans rfl, (kc_ BK203.out 2).trans rfl, (kc_ BK203.out 3).trans rfl, (kc_ BK203.out 4).trans rfl, (kc_ BK203.out 5).trans rfl, (kc_ BK203.out 6).trans rfl, (kc_ BK203.out 7).trans rfl, (kc_ BK203.out 8).trans rfl, (kc_ BK203.out 9).trans rfl, (kc_ BK203.out 10).trans rfl, (kc_ BK203.out 11).trans rfl⟩ (fun hHeld => ?_)
   clear hK K
   refine norm_ (a' := ?_) ?_ ?_
   rotate_left
   ·show Act.put _ (some 43) _ = _
    simp only [Act.put, List.setIfInBounds_toArray, List.set_cons_zero, List.set_cons_succ, i64_w, i32_w]
    rfl
   refine pure_ (i := 12) (N := (some 46)) (v := ?_) (a' := ?_) #[true, true, true, true, true, true, true, true, true, true, true, true, true, false] rfl rfl (by kernel_rfl) (fun _ _ _ h => h) (Or.inl ⟨by rfl, ?_⟩) ?_ ?_
   rotate_left
   ·intro w'
    first | (go_simp; with_reducible rfl) | rfl | (go_simp; done)
   rotate_left
   ·first | (simp only [Act.put, List.setIfInBounds_toArray, List.set_cons_zero, List.set_cons_succ, i64_w, i32_w]; rfl) | rfl
   refine one_ (i := 13) (N := none) #[true, true, true, true, true, true, true, true, true, true, true, true, true, true] rfl rfl (by kernel_rfl) (by decide) (fun K hK => ?_)
   have hj_ : x24_1.toNat * 5 + x29_2.toNat < L_2.length := by rw [HL_2.out]; omega
   have hs26 : w24.cell? ⟨gb211, 2 + x24_1.toNat * 5 + x29_2.toNat, none⟩ = some (.int .i64 (L_2.getD (x24_1.toNat * 5 + x29_2.toNat) 0)) := (kc_ BK211.out _).trans (by rw [Nat.add_assoc]; exact rowC_cell _ _ _ _ hj_)
   have hfs26 := kf_ BK211.out (2 + x24_1.toNat * 5 + x29_2.toNat)
   have hns26_0 := NB203_211.out
   have hns26_1 := NB204_211.out
   have hms26_0 := NB211_203.out
   have hms26_1 := NB211_204.out
   refine skip_ (w1 := ?_) (by rfl) rfl ?_ ?_
   rotate_left
   ·go_simp
    rfl
   refine hK.out _ _ ⟨((cell_far (p := ⟨gb211, _, none⟩) NB203_211.out _).trans (hHeld.1)), ((cell_far (p := ⟨gb211, _, none⟩) NB203_211.out _).trans (hHeld.2.1)), ((cell_far (p := ⟨gb211, _, none⟩) NB203_211.out _).trans (hHeld.2.2.1)), ((cell_far (p := ⟨gb211, _, none⟩) NB203_211.out _).trans (hHeld.2.2.2.1)), ((cell_far (p := ⟨gb211, _, none⟩) NB203_211.out _).trans (hHeld.2.2.2.2.1)), ((cell_far (p := ⟨gb211, _, none⟩) NB203_211.out _).trans (hHeld.2.2.2.2.2.1)), ((cell_far (p := ⟨gb211, _, none⟩) NB203_211.out _).trans (hHeld.2.2.2.2.2.2.1)), ((cell_far (p := ⟨gb211, _, none⟩) NB203_211.out _).trans (hHeld.2.2.2.2.2.2.2.1)), ((cell_far (p := ⟨gb211, _, none⟩) NB203_211.out _).trans (hHeld.2.2.2.2.2.2.2.2.1)), ((cell_far (p := ⟨gb211, _, none⟩) NB203_211.out _).trans (hHeld.2.2.2.2.2.2.2.2.2.1)), ((cell_far (p := ⟨gb211, _, none⟩) NB203_211.out _).trans (hHeld.2.2.2.2.2.2.2.2.2.2.1)), ((cell_far (p := ⟨gb211, _, none⟩) NB203_211.out _).trans (hHeld.2.2.2.2.2.2.2.2.2.2.2))⟩ (fun hHeld => ?_)
   clear hK K
   refine done_ (by kernel_rfl) ?_
   try go_wp2
   go_roundg k2
   case measure => have := HK1.out; have := HK2.out; omega
   case rel => exact ⟨(wrap64 (x29_2 + 1)), (L_2.set (x24_1.toNat * 5 + x29_2.toNat) t214), (by first | rfl | (rw [show wrap64 (x29_2 + 1) = x29_2 + 1 from by unfold wrap64; omega])), H', ⟨by rw [List.length_set]; exact HL_2.out⟩, ⟨by have := HK1.out; have := HK2.out; omega⟩, ⟨by (with_reducible repeat (first | apply Kd.R_alloc | apply Kd.R_drewN | apply Kd.R_drew)); exact Kd.R_mono (Kd.R_far (p := ⟨gb211, 2 + x24_1.toNat * 5 + x29_2.toNat, none⟩) (Kd.R_types HO_5.out BK211.out (by decide)) (fun _ hk => hk.2) (.int .i64 t214)) (fun _ hk => trivial)⟩, ⟨by (with_reducible repeat (first | apply Kd.R_alloc | apply Kd.R_drewN | apply Kd.R_drew)); exact Kd.R_mono (Kd.R_far (p := ⟨gb211, 2 + x24_1.toNat * 5 + x29_2.toNat, none⟩) (Kd.R_types HO_27.out BK211.out (by decide)) (fun _ hk => hk.2) (.int .i64 t214)) (fun _ hk => trivial)⟩, ⟨by exact bk BK203.out⟩, ⟨by exact bk BK204.out⟩, ⟨by (with_reducible repeat (first | refine kN_ ?_ _ | refine kD_ ?_ | refine kA_ ?_ _)); rw [← rowC_set, ← Nat.add_assoc]; refine blk_set ?_ _ _; (with_reducible repeat (first | refine kN_ ?_ _ | refine kD_ ?_ | refine kA_ ?_ _)); exact BK211.out⟩, ⟨by exact gs HB.out⟩⟩
theorem addU_good {n : Nat} {L : List (List Int)} {u : List Int} (h : ∀ v ∈ L, goodU n v) (hu : goodU n u) : ∀ v ∈ addU L u, goodU n v := by
 unfold addU
 split
 ·exact h
 ·intro v hv
  rcases List.mem_append.1 hv with hv | hv
  ·exact h v hv
  ·rw [List.mem_singleton.1 hv]; exact hu
theorem is_add {w : World} {b : Nat} {L : List (List Int)} {u : List Int} (h1 : encU u ∈ L.map encU → Go.KeySet.is w b (L.map encU)) (h2 : encU u ∉ L.map encU → Go.KeySet.is w b (L.map encU ++ [encU u])) : Go.KeySet.is w b ((addU L u).map encU) := by
 unfold addU
 split
 ·rename_i h; exact h1 (encU_mem.2 h)
 ·rename_i h; rw [List.map_append]; exact h2 (fun e => h (encU_mem.1 e))
def c_table_alike.l0 : Nat → List (List Int) → Int → Int → Int → Int → Int → Int → Int → Int → Int → Int → Int → Int → Int → Int → Option (List (List Int))
 | 0, _, _, _, _, _, _, _, _, _, _, _, _, _, _, _ => none
 | k + 1, x3, x7, x8, Xb0, Xb1, Xb2, Xb3, Xb4, Xb5, Xb6, Xb7, Xb8, Xb9, Xb10, Xb11 => if x8 < x7 then ((c_table_renumbered.f k Xb0 Xb1 Xb2 Xb3 Xb4 Xb5 Xb6 Xb7 Xb8 Xb9 Xb10 Xb11 x8).bind fun bt207 => (if goodU 12 [bt207.1, bt207.2.1, bt207.2.2.1, bt207.2.2.2.1, bt207.2.2.2.2.1, bt207.2.2.2.2.2.1, bt207.2.2.2.2.2.2.1, bt207.2.2.2.2.2.2.2.1, bt207.2.2.2.2.2.2.2.2.1, bt207.2.2.2.2.2.2.2.2.2.1, bt207.2.2.2.2.2.2.2.2.2.2.1, bt207.2.2.2.2.2.2.2.2.2.2.2] then (c_table_alike.l0 k (addU x3 [bt207.1, bt207.2.1, bt207.2.2.1, bt207.2.2.2.1, bt207.2.2.2.2.1, bt207.2.2.2.2.2.1, bt207.2.2.2.2.2.2.1, bt207.2.2.2.2.2.2.2.1, bt207.2.2.2.2.2.2.2.2.1, bt207.2.2.2.2.2.2.2.2.2.1, bt207.2.2.2.2.2.2.2.2.2.2.1, bt207.2.2.2.2.2.2.2.2.2.2.2]) x7 (wrap64 (x8 + 1)) Xb0 Xb1 Xb2 Xb3 Xb4 Xb5 Xb6 Xb7 Xb8 Xb9 Xb10 Xb11) else none)) else (some x3)
def c_table_alike.f (k : Nat) (a0_0 : Int) (a0_1 : Int) (a0_2 : Int) (a0_3 : Int) (a0_4 : Int) (a0_5 : Int) (a0_6 : Int) (a0_7 : Int) (a0_8 : Int) (a0_9 : Int) (a0_10 : Int) (a0_11 : Int) : Option (List (List Int)) := c_table_alike.l0 k [] a0_1 0 a0_0 a0_1 a0_2 a0_3 a0_4 a0_5 a0_6 a0_7 a0_8 a0_9 a0_10 a0_11
theorem c_table_alike.calls (k : Nat) (a0_0 : Int) (a0_1 : Int) (a0_2 : Int) (a0_3 : Int) (a0_4 : Int) (a0_5 : Int) (a0_6 : Int) (a0_7 : Int) (a0_8 : Int) (a0_9 : Int) (a0_10 : Int) (a0_11 : Int) (r : List (List Int)) (w : World) (h : c_table_alike.f k a0_0 a0_1 a0_2 a0_3 a0_4 a0_5 a0_6 a0_7 a0_8 a0_9 a0_10 a0_11 = some r) :
  Calls Try.prog 68 #[.agg #[.int .i64 a0_0, .int .i64 a0_1, .int .i64 a0_2, .int .i64 a0_3, .int .i64 a0_4, .int .i64 a0_5, .int .i64 a0_6, .int .i64 a0_7, .int .i64 a0_8, .int .i64 a0_9, .int .i64 a0_10, .int .i64 a0_11]] w fun e w' => (∃ b, e = .returned (.map (some b)) ∧ w.heap.size ≤ b ∧ Go.KeySet.is w' b (r.map encU)) ∧ Below w.heap.size w w' := by
 have hmm := @run_makeMap Try.prog
 have hu78 := Try.underlying78
 have HB := a_ (Below.refl w.heap.size w)
 have H : (c_table_alike.l0 k [] a0_1 0 a0_0 a0_1 a0_2 a0_3 a0_4 a0_5 a0_6 a0_7 a0_8 a0_9 a0_10 a0_11) = some r := h
 clear h
 have H' := a_ H
 clear H
 go_enter Try.func68, Try.ntmps68
 go_wp2_with (first | ((with_reducible refine gate_dst (N := 1) rfl ?_); refine box_event ?hg (N := 1) ?hd (cs := #[.int .i64 a0_0, .int .i64 a0_1, .int .i64 a0_2, .int .i64 a0_3, .int .i64 a0_4, .int .i64 a0_5, .int .i64 a0_6, .int .i64 a0_7, .int .i64 a0_8, .int .i64 a0_9, .int .i64 a0_10, .int .i64 a0_11]) (t := 78) ?hr ?_; (case hd => rfl); (case hg => rfl); (case hr => first | (go_simp; done) | (go_simp; rfl)); intro gb206 hg w2 hbox hb; have BK206 := a_ (hbox); have GW206 := a_ ((by rw [hg]; exact (bZ_ (gr HB.out)) : w.heap.size ≤ gb206)); have GE206 := GEc.mk ((by rw [hg]; exact (bZ_ (gr HB.out)) : w.heap.size ≤ gb206)); replace HB := a_ (bT_ HB.out (tr hb)); clear hb hbox hg; obtain ⟨hcz3_0, hcz3_1, hcz3_2, hcz3_3, hcz3_4, hcz3_5, hcz3_6, hcz3_7, hcz3_8, hcz3_9, hcz3_10, hcz3_11⟩ := cs12 BK206.out; have hfz3_0 := kf_ BK206.out 0; have hfz3_1 := kf_ BK206.out 1; have hfz3_2 := kf_ BK206.out 2; have hfz3_3 := kf_ BK206.out 3; have hfz3_4 := kf_ BK206.out 4; have hfz3_5 := kf_ BK206.out 5; have hfz3_6 := kf_ BK206.out 6; have hfz3_7 := kf_ BK206.out 7; have hfz3_8 := kf_ BK206.out 8; have hfz3_9 := kf_ BK206.out 9; have hfz3_10 := kf_ BK206.out 10; have hfz3_11 := kf_ BK206.out 11; have hcy_ : (w2.alloc (Obj.map #[] 0)).cell? ⟨gb206, 1, none⟩ = some (.int .i64 a0_1) := (kc_ (kA_ BK206.out _) 1).trans rfl; have hfy_ := kf_ (kA_ BK206.out (Obj.map #[] 0)) 1))
 have hne : Aside0 (gb206 ≠ w2.heap.size) := ⟨Nat.ne_of_lt (blk_lt BK206.out)⟩
 have hge : Aside0 (w.heap.size ≤ w2.heap.size) := ⟨HB.out.size⟩
 go_loopg [8] k (fun kq v8 w' => ∃ (L1 : List (List Int)) (x8_1 : Int), v8 = .int .i64 x8_1 ∧ Aside0 (c_table_alike.l0 kq L1 a0_1 x8_1 a0_0 a0_1 a0_2 a0_3 a0_4 a0_5 a0_6 a0_7 a0_8 a0_9 a0_10 a0_11 = some r) ∧ Aside0 (kq ≤ k) ∧ Aside0 (w'.heap[gb206]? = some (.cells #[.int .i64 a0_0, .int .i64 a0_1, .int .i64 a0_2, .int .i64 a0_3, .int .i64 a0_4, .int .i64 a0_5, .int .i64 a0_6, .int .i64 a0_7, .int .i64 a0_8, .int .i64 a0_9, .int .i64 a0_10, .int .i64 a0_11] 78 (0, 0))) ∧ Aside0 (Below w.heap.size w w') ∧ Aside0 (Go.KeySet.is w' w2.heap.size (L1.map encU)) ∧ Aside0 (∀ u ∈ L1, goodU 12 u))
 case atStart => exact ⟨[], (0), (by first | rfl | (simp; done) | (simp [*]; done)), H', ⟨Nat.le_refl _⟩, ⟨by exact bk BK206.out⟩, ⟨by exact gs HB.out⟩, ⟨Go.KeySet.of_block (Go.KeySet.made w2) rfl⟩, ⟨by simp⟩⟩
 clear H'
 try clear p2
 try clear hcz3_0 hcz3_1 hcz3_10 hcz3_11 hcz3_2 hcz3_3 hcz3_4 hcz3_5 hcz3_6 hcz3_7 hcz3_8 hcz3_9
 try clear hfz3_0 hfz3_1 hfz3_10 hfz3_11 hfz3_2 hfz3_3 hfz3_4 hfz3_5 hfz3_6 hfz3_7 hfz3_8 hfz3_9
 obtain ⟨L1, x8_1, rfl, HA, HK1, BK206, HB, IS, GD⟩ := hrel
 cases gk with
 | zero => exact absurd HA.out (by simp [c_table_alike.l0])
 | succ k1 =>
  have H := HA.out
  clear HA
  simp only [c_table_alike.l0] at H
  by_cases c4 : x8_1 < a0_1
  rotate_left
  ·rw [if_neg c4] at H
   have c4b0 : decide (x8_1 < a0_1) = false := decide_eq_false c4
   clear c4
   obtain rfl := Option.some.inj H
   go_wp2
   go_ret
   exact ⟨⟨_, rfl, hge.out, Go.KeySet.of_block IS.out rfl⟩, by exact gs HB.out⟩
  rw [if_pos c4] at H
  have c4b0 : decide (x8_1 < a0_1) = true := decide_eq_true c4
  clear c4
  replace H := Option.bind_eq_some_iff.mp H
  obtain ⟨⟨t207, t208, t209, t210, t211, t212, t213, t214, t215, t216, t217, t218⟩, A50, H⟩ := H
  obtain ⟨u1, hu1⟩ : ∃ u : List Int, [t207, t208, t209, t210, t211, t212, t213, t214, t215, t216, t217, t218] = u := ⟨_, rfl⟩
  dsimp only at H
  rw [hu1] at H
  by_cases cg : goodU 12 u1
  case neg => rw [if_neg cg] at H; exact absurd H (by simp)
  rw [if_pos cg] at H
  have A5 := a_ A50
  clear A50
  have H' := a_ H
  clear H
  obtain ⟨hcz6_0, hcz6_1, hcz6_2, hcz6_3, hcz6_4, hcz6_5, hcz6_6, hcz6_7, hcz6_8, hcz6_9, hcz6_10, hcz6_11⟩ := cs12 BK206.out
  have hfz6_0 := kf_ BK206.out 0
  have hfz6_1 := kf_ BK206.out 1
  have hfz6_2 := kf_ BK206.out 2
  have hfz6_3 := kf_ BK206.out 3
  have hfz6_4 := kf_ BK206.out 4
  have hfz6_5 := kf_ BK206.out 5
  have hfz6_6 := kf_ BK206.out 6
  have hfz6_7 := kf_ BK206.out 7
  have hfz6_8 := kf_ BK206.out 8
  have hfz6_9 := kf_ BK206.out 9
  have hfz6_10 := kf_ BK206.out 10
  have hfz6_11 := kf_ BK206.out 11
  go_wp2_with (first | ((with_reducible refine gate_callee (f := 65) rfl ?_); refine goesL_ (some 14) rfl rfl Try.func65 (by kernel_rfl) rfl #[.agg #[.int .i64 a0_0, .int .i64 a0_1, .int .i64 a0_2, .int .i64 a0_3, .int .i64 a0_4, .int .i64 a0_5, .int .i64 a0_6, .int .i64 a0_7, .int .i64 a0_8, .int .i64 a0_9, .int .i64 a0_10, .int .i64 a0_11], .int .i64 x8_1] rfl (by (try simp only [List.map_toArray, List.map_cons, List.map_nil]); first | done | rfl | (simp only [List.length_drop, List.length_take]; rfl)) ?_; (with_reducible refine (c_table_renumbered.calls k1 a0_0 a0_1 a0_2 a0_3 a0_4 a0_5 a0_6 a0_7 a0_8 a0_9 a0_10 a0_11 x8_1 t207 t208 t209 t210 t211 t212 t213 t214 t215 t216 t217 t218 _ A5.out).mono ?_); rintro e w7 ⟨rfl, hb⟩; refine ⟨_, rfl, ?_⟩; have n0_ := a_ (kB_ BK206.out (tr hb)); have n1_ := a_ (bT_ (by exact gs HB.out) hb); clear BK206; clear HB; have BK206 := n0_; have HB := n1_; replace IS := a_ (Go.KeySet.is_below (by exact Go.KeySet.of_block IS.out rfl) hb); clear n0_ n1_; (try clear hb); (try clear hb2); (try clear hk); (try clear hi)) | (at_mapUpdate; refine Go.KeySet.wp_store rfl _ _ _ 97 rfl 78 4 keyed98 Try.underlying97 w2.heap.size (L1.map encU) rfl (by exact Go.KeySet.of_block IS.out rfl) (fun v hv => by obtain ⟨u, hu, rfl⟩ := List.mem_map.1 hv; exact key98 (GD.out u hu)) (encU u1) (by subst hu1; rfl) rfl (key98 cg) ?_; intro w8 hg8 hin hout; replace BK206 := a_ (blk_grown (g := gb206) (o := .cells #[.int .i64 a0_0, .int .i64 a0_1, .int .i64 a0_2, .int .i64 a0_3, .int .i64 a0_4, .int .i64 a0_5, .int .i64 a0_6, .int .i64 a0_7, .int .i64 a0_8, .int .i64 a0_9, .int .i64 a0_10, .int .i64 a0_11] 78 (0, 0)) (by exact bk BK206.out) hg8 (fun e => absurd (Option.some.inj e) hne.out)); replace HB := a_ (Below.grown (by exact gs HB.out) hg8 (bZ_ (by exact gs HB.out)) (fun k_ hk_ => by cases hk_; exact hge.out)); have IS2 := a_ (is_add hin hout); clear IS hin hout hg8))
  go_roundg k1
  case measure => have := HK1.out; omega
  case rel => exact ⟨addU L1 u1, (wrap64 (x8_1 + 1)), (by first | rfl | (simp; done) | (simp [*]; done)), H', ⟨by have := HK1.out; omega⟩, ⟨by exact bk BK206.out⟩, ⟨by exact gs HB.out⟩, ⟨Go.KeySet.of_block IS2.out rfl⟩, ⟨addU_good GD.out cg⟩⟩
def c_Normal.j0 : Nat → Bool → Int → Int → Int → Int → Int → Int → Int → Int → Int → Int → Int → Int → Option (Bool × Int)
 | 0, _, _, _, _, _, _, _, _, _, _, _, _, _ => none
 | k + 1, x17, Xc0, Xc1, Xc2, Xc3, Xc4, Xc5, Xc6, Xc7, Xc8, Xc9, Xc10, Xc11 => if x17 = true then (some (false, 2)) else ((c_table_alike.f k Xc0 Xc1 Xc2 Xc3 Xc4 Xc5 Xc6 Xc7 Xc8 Xc9 Xc10 Xc11).bind fun t234 => (some (((t234.length : Int) == 1), 0)))
def c_Normal.f (k : Nat) (l0 : List (List Int)) : Option (Bool × Int) := (c_newTable.f k l0).bind fun bt219 => (if bt219.2.2.2.2.2.2.2.2.2.2.2.2 = true then ((c_table_isStandard.f k bt219.1 bt219.2.1 bt219.2.2.1 bt219.2.2.2.1 bt219.2.2.2.2.1 bt219.2.2.2.2.2.1 bt219.2.2.2.2.2.2.1 bt219.2.2.2.2.2.2.2.1 bt219.2.2.2.2.2.2.2.2.1 bt219.2.2.2.2.2.2.2.2.2.1 bt219.2.2.2.2.2.2.2.2.2.2.1 bt219.2.2.2.2.2.2.2.2.2.2.2.1).bind fun t233 => (c_Normal.j0 k (!t233) bt219.1 bt219.2.1 bt219.2.2.1 bt219.2.2.2.1 bt219.2.2.2.2.1 bt219.2.2.2.2.2.1 bt219.2.2.2.2.2.2.1 bt219.2.2.2.2.2.2.2.1 bt219.2.2.2.2.2.2.2.2.1 bt219.2.2.2.2.2.2.2.2.2.1 bt219.2.2.2.2.2.2.2.2.2.2.1 bt219.2.2.2.2.2.2.2.2.2.2.2.1)) else (c_Normal.j0 k true bt219.1 bt219.2.1 bt219.2.2.1 bt219.2.2.2.1 bt219.2.2.2.2.1 bt219.2.2.2.2.2.1 bt219.2.2.2.2.2.2.1 bt219.2.2.2.2.2.2.2.1 bt219.2.2.2.2.2.2.2.2.1 bt219.2.2.2.2.2.2.2.2.2.1 bt219.2.2.2.2.2.2.2.2.2.2.1 bt219.2.2.2.2.2.2.2.2.2.2.2.1))
theorem c_Normal.calls (k : Nat) (A0 : Option Addr) (c0 : Nat) (l0 : List (List Int)) (r1 : Bool) (r2 : Int) (w : World) (hr0 : Kd.C (Kd.slice 3 (Kd.int .i64)) w A0 l0.length l0) (hc0 : l0.length ≤ c0) (h : c_Normal.f k l0 = some (r1, r2)) :
  Calls Try.prog 33 #[.slice A0 l0.length c0] w fun e w' => e = .returned (.tuple #[.bool r1, .int .i64 r2]) ∧ Below w.heap.size w w' := by
 have hu78 := Try.underlying78
 have HR0 := a_ hr0
 have HC0 := a_ hc0
 clear hr0 hc0
 have HB := a_ (Below.refl w.heap.size w)
 have H : ((c_newTable.f k l0).bind fun bt219 => (if bt219.2.2.2.2.2.2.2.2.2.2.2.2 = true then ((c_table_isStandard.f k bt219.1 bt219.2.1 bt219.2.2.1 bt219.2.2.2.1 bt219.2.2.2.2.1 bt219.2.2.2.2.2.1 bt219.2.2.2.2.2.2.1 bt219.2.2.2.2.2.2.2.1 bt219.2.2.2.2.2.2.2.2.1 bt219.2.2.2.2.2.2.2.2.2.1 bt219.2.2.2.2.2.2.2.2.2.2.1 bt219.2.2.2.2.2.2.2.2.2.2.2.1).bind fun t233 => (c_Normal.j0 k (!t233) bt219.1 bt219.2.1 bt219.2.2.1 bt219.2.2.2.1 bt219.2.2.2.2.1 bt219.2.2.2.2.2.1 bt219.2.2.2.2.2.2.1 bt219.2.2.2.2.2.2.2.1 bt219.2.2.2.2.2.2.2.2.1 bt219.2.2.2.2.2.2.2.2.2.1 bt219.2.2.2.2.2.2.2.2.2.2.1 bt219.2.2.2.2.2.2.2.2.2.2.2.1)) else (c_Normal.j0 k true bt219.1 bt219.2.1 bt219.2.2.1 bt219.2.2.2.1 bt219.2.2.2.2.1 bt219.2.2.2.2.2.1 bt219.2.2.2.2.2.2.1 bt219.2.2.2.2.2.2.2.1 bt219.2.2.2.2.2.2.2.2.1 bt219.2.2.2.2.2.2.2.2.2.1 bt219.2.2.2.2.2.2.2.2.2.2.1 bt219.2.2.2.2.2.2.2.2.2.2.2.1))) = some (r1, r2) := h
 clear h
 replace H := Option.bind_eq_some_iff.mp H
 obtain ⟨⟨t219, t220, t221, t222, t223, t224, t225, t226, t227, t228, t229, t230, t231⟩, A20, H⟩ := H
 try dsimp only at H
 have A2 := a_ A20
 clear A20
 have HC3 := a_ H
 clear H
 go_enter Try.func33, Try.ntmps33
 go_upto_region 2 with (first | ((with_reducible refine gate_callee (f := 51) rfl ?_); refine goesL_ (some 8) rfl rfl Try.func51 (by kernel_rfl) rfl #[.slice A0 l0.length c0] rfl (by (try simp only [List.map_toArray, List.map_cons, List.map_nil]); first | done | rfl | (simp only [List.length_drop, List.length_take]; rfl)) ?_; (with_reducible refine (c_newTable.calls k _ _ l0 t219 t220 t221 t222 t223 t224 t225 t226 t227 t228 t229 t230 t231 _ ?side1 ?side2 A2.out).mono ?_); (case side1 => repeat (first | exact HR0.out | (with_reducible refine Kd.C_alloc ?_ _) | (with_reducible refine Kd.C_drewN ?_ _) | (with_reducible refine Kd.C_drew ?_))); (case side2 => exact HC0.out); rintro e w4 ⟨rfl, hb⟩; refine ⟨_, rfl, ?_⟩; replace HB := a_ (bT_ HB.out (tr hb)); (try clear hb); (try clear hb2); (try clear hk); (try clear hi)) | ((with_reducible refine gate_dst (N := 4) rfl ?_); refine box_event ?hg (N := 4) ?hd (cs := #[.int .i64 0, .int .i64 0, .int .i64 0, .int .i64 0, .int .i64 0, .int .i64 0, .int .i64 0, .int .i64 0, .int .i64 0, .int .i64 0, .int .i64 0, .int .i64 0]) (t := 78) ?hr ?_; (case hd => rfl); (case hg => rfl); (case hr => first | (go_simp; done) | (go_simp; rfl)); intro gb232 hg w5 hbox hb; have BK232 := a_ (hbox); have GW232 := a_ ((by rw [hg]; exact (bZ_ (gr HB.out)) : w.heap.size ≤ gb232)); have GE232 := GEc.mk ((by rw [hg]; exact (bZ_ (gr HB.out)) : w.heap.size ≤ gb232)); replace HB := a_ (bT_ HB.out (tr hb)); clear hb hbox hg; obtain ⟨hcz6_0, hcz6_1, hcz6_2, hcz6_3, hcz6_4, hcz6_5, hcz6_6, hcz6_7, hcz6_8, hcz6_9, hcz6_10, hcz6_11⟩ := cs12 BK232.out; have hfz6_0 := kf_ BK232.out 0; have hfz6_1 := kf_ BK232.out 1; have hfz6_2 := kf_ BK232.out 2; have hfz6_3 := kf_ BK232.out 3; have hfz6_4 := kf_ BK232.out 4; have hfz6_5 := kf_ BK232.out 5; have hfz6_6 := kf_ BK232.out 6; have hfz6_7 := kf_ BK232.out 7; have hfz6_8 := kf_ BK232.out 8; have hfz6_9 := kf_ BK232.out 9; have hfz6_10 := kf_ BK232.out 10; have hfz6_11 := kf_ BK232.out 11))
 (try simp only [Act.put, List.setIfInBounds_toArray, List.set_cons_zero, List.set_cons_succ])
 go_cut [17] (fun v17 wc => ∃ (kq : Nat) (x17_2 : Bool), v17 = .bool x17_2 ∧ Aside0 (c_Normal.j0 kq x17_2 t219 t220 t221 t222 t223 t224 t225 t226 t227 t228 t229 t230 = some (r1, r2)) ∧ Aside0 (kq ≤ k) ∧ Aside0 (wc.heap[gb232]? = some (.cells #[.int .i64 t219, .int .i64 t220, .int .i64 t221, .int .i64 t222, .int .i64 t223, .int .i64 t224, .int .i64 t225, .int .i64 t226, .int .i64 t227, .int .i64 t228, .int .i64 t229, .int .i64 t230] 78 (0, 0))) ∧ Aside0 (Below w.heap.size w wc))
 case first =>
  have H := HC3.out
  clear HC3
  by_cases c7 : t231 = true
  rotate_left
  ·replace c7 := Bool.eq_false_iff.mpr c7
   subst c7
   have H1 := H; rw [if_neg (show ¬ (false = true) by decide)] at H1
   clear H
   have H := H1
   clear H1
   have H' := a_ H
   clear H
   go_wp2
   go_meet
   case rel => exact ⟨_, (true), (by first | rfl | (simp; done) | (simp [*]; done)), H', ⟨by first | omega | exact Nat.le_refl _⟩, ⟨by exact pb BK232.out (by rfl)⟩, ⟨by exact gs HB.out⟩⟩
  subst c7
  have H1 := H; rw [if_pos rfl] at H1
  clear H
  have H := H1
  clear H1
  replace H := Option.bind_eq_some_iff.mp H
  obtain ⟨t233, A80, H⟩ := H
  try dsimp only at H
  have A8 := a_ A80
  clear A80
  have H' := a_ H
  clear H
  obtain ⟨hcz9_0, hcz9_1, hcz9_2, hcz9_3, hcz9_4, hcz9_5, hcz9_6, hcz9_7, hcz9_8, hcz9_9, hcz9_10, hcz9_11⟩ := cs12 BK232.out
  have hfz9_0 := kf_ BK232.out 0
  have hfz9_1 := kf_ BK232.out 1
  have hfz9_2 := kf_ BK232.out 2
  have hfz9_3 := kf_ BK232.out 3
  have hfz9_4 := kf_ BK232.out 4
  have hfz9_5 := kf_ BK232.out 5
  have hfz9_6 := kf_ BK232.out 6
  have hfz9_7 := kf_ BK232.out 7
  have hfz9_8 := kf_ BK232.out 8
  have hfz9_9 := kf_ BK232.out 9
  have hfz9_10 := kf_ BK232.out 10
  have hfz9_11 := kf_ BK232.out 11
  go_wp2_with (first | (go_at_call 52; (with_reducible refine (c_table_isStandard.calls k t219 t220 t221 t222 t223 t224 t225 t226 t227 t228 t229 t230 t233 _ A8.out).mono ?_); rintro e w10 ⟨rfl, hb⟩; replace BK232 := a_ (kB_ (g := gb232) (o := .cells #[.int .i64 t219, .int .i64 t220, .int .i64 t221, .int .i64 t222, .int .i64 t223, .int .i64 t224, .int .i64 t225, .int .i64 t226, .int .i64 t227, .int .i64 t228, .int .i64 t229, .int .i64 t230] 78 (0, 0)) (by exact pb BK232.out (by rfl)) hb); replace HB := a_ (bT_ (by exact gs HB.out) hb); (try clear hb); (try clear hb2); (try clear hk); (try clear hi)))
  go_meet
  case rel => exact ⟨_, (!t233), (by first | rfl | (simp; done) | (simp [*]; done)), H', ⟨by first | omega | exact Nat.le_refl _⟩, ⟨by exact bk BK232.out⟩, ⟨by exact gs HB.out⟩⟩
 case rest =>
  clear HC3
  try clear p2
  try clear c3
  try clear c5
  try clear c7
  try clear hcz6_0 hcz6_1 hcz6_10 hcz6_11 hcz6_2 hcz6_3 hcz6_4 hcz6_5 hcz6_6 hcz6_7 hcz6_8 hcz6_9
  try clear hcz9_0 hcz9_1 hcz9_10 hcz9_11 hcz9_2 hcz9_3 hcz9_4 hcz9_5 hcz9_6 hcz9_7 hcz9_8 hcz9_9
  try clear hfz6_0 hfz6_1 hfz6_10 hfz6_11 hfz6_2 hfz6_3 hfz6_4 hfz6_5 hfz6_6 hfz6_7 hfz6_8 hfz6_9
  try clear hfz9_0 hfz9_1 hfz9_10 hfz9_11 hfz9_2 hfz9_3 hfz9_4 hfz9_5 hfz9_6 hfz9_7 hfz9_8 hfz9_9
  obtain ⟨kq, x17_2, rfl, HA, HJ2, BK232, HB⟩ := hcut
  cases kq with
  | zero => exact absurd HA.out (by simp [c_Normal.j0])
  | succ kj2 =>
   have H := HA.out
   clear HA
   simp only [c_Normal.j0] at H
   by_cases c11 : x17_2 = true
   ·subst c11
    have H1 := H; rw [if_pos rfl] at H1
    clear H
    have H := H1
    clear H1
    simp only [Option.some.injEq, Prod.mk.injEq] at H
    obtain ⟨rfl, rfl⟩ := H
    go_wp2
    go_ret2
    exact ⟨by first | rfl | (simp [errW_none, errW_some] <;> rfl) | (simp [*, errW_none, errW_some] <;> rfl), by exact gs HB.out⟩
   replace c11 := Bool.eq_false_iff.mpr c11
   subst c11
   have H1 := H; rw [if_neg (show ¬ (false = true) by decide)] at H1
   clear H
   have H := H1
   clear H1
   replace H := Option.bind_eq_some_iff.mp H
   obtain ⟨t234, A120, H⟩ := H
   try dsimp only at H
   have A12 := a_ A120
   clear A120
   simp only [Option.some.injEq, Prod.mk.injEq] at H
   obtain ⟨rfl, rfl⟩ := H
   obtain ⟨hcz13_0, hcz13_1, hcz13_2, hcz13_3, hcz13_4, hcz13_5, hcz13_6, hcz13_7, hcz13_8, hcz13_9, hcz13_10, hcz13_11⟩ := cs12 BK232.out
   have hfz13_0 := kf_ BK232.out 0
   have hfz13_1 := kf_ BK232.out 1
   have hfz13_2 := kf_ BK232.out 2
   have hfz13_3 := kf_ BK232.out 3
   have hfz13_4 := kf_ BK232.out 4
   have hfz13_5 := kf_ BK232.out 5
   have hfz13_6 := kf_ BK232.out 6
   have hfz13_7 := kf_ BK232.out 7
   have hfz13_8 := kf_ BK232.out 8
   have hfz13_9 := kf_ BK232.out 9
   have hfz13_10 := kf_ BK232.out 10
   have hfz13_11 := kf_ BK232.out 11
   go_wp2_with (first | ((with_reducible refine gate_callee (f := 68) rfl ?_); refine goesL_ (some 19) rfl rfl Try.func68 (by kernel_rfl) rfl #[.agg #[.int .i64 t219, .int .i64 t220, .int .i64 t221, .int .i64 t222, .int .i64 t223, .int .i64 t224, .int .i64 t225, .int .i64 t226, .int .i64 t227, .int .i64 t228, .int .i64 t229, .int .i64 t230]] rfl (by (try simp only [List.map_toArray, List.map_cons, List.map_nil]); first | done | rfl | (simp only [List.length_drop, List.length_take]; rfl)) ?_; (with_reducible refine (c_table_alike.calls kj2 t219 t220 t221 t222 t223 t224 t225 t226 t227 t228 t229 t230 t234 _ A12.out).mono ?_); rintro e w14 ⟨⟨bm_, rfl, hbm_, IS_⟩, hb⟩; refine ⟨_, rfl, ?_⟩; replace BK232 := a_ (kB_ BK232.out (tr hb)); replace HB := a_ (bT_ (by exact gs HB.out) hb); (try clear hb); (try clear hb2); (try clear hk); (try clear hi)) | (at_len; refine Go.KeySet.wp_len rfl _ _ rfl 78 4 Try.underlying97 bm_ (t234.map encU) rfl (by exact Go.KeySet.of_block IS_ rfl) ?_; rw [List.length_map]))
   go_ret2
   exact ⟨by first | rfl | (simp [errW_none, errW_some] <;> rfl) | (simp [*, errW_none, errW_some] <;> rfl), by exact gs HB.out⟩
end Go.Proofs.Ytifkldehbaphgaa.PAll
end
