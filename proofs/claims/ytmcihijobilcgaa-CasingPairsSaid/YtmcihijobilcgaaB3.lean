/- What the proofs of all laws of this seat lean on: what Go's functions that remouldlaw01.awake calls answer, and that awake returns true. No condition. Part 4 of 5. -/
import Derived.Test.YtmcihijobilcgaaB2
set_option linter.all false
section
namespace Go.Proofs.Ytmcihijobilcgaa.PAll
open Go.RowKit Go.Proofs.YtmcihijobilcgaaW.PrintWords Go.Proofs.YtmcihijobilcgaaW.PrintLast Go.Proofs.YtmcihijobilcgaaW.PrintMore
attribute [local go_sem] max2_int max_two
mutual
def remouldref01_Same.l0 : Nat → List (List Int) → List (List Int) → Int → Option (Bool)
  | 0, _, _, _ => none
  | k + 1, x0, x1, x5 => if x5 < (x0.length : Int) then (if 0 ≤ x5 then (if x5 < (x1.length : Int) then (if ((rd_L5 x0 x5).length : Int) = ((rd_L5 x1 x5).length : Int) then (remouldref01_Same.l1 k x0 x1 x5 0) else (some false)) else (none)) else (none)) else (some true)
def remouldref01_Same.l1 : Nat → List (List Int) → List (List Int) → Int → Int → Option (Bool)
  | 0, _, _, _, _ => none
  | k + 1, x0, x1, x5, x6 => if 0 ≤ x5 then (if x5 < (x0.length : Int) then (if x6 < ((rd_L5 x0 x5).length : Int) then (if 0 ≤ x6 then (if x5 < (x1.length : Int) then (if x6 < ((rd_L5 x1 x5).length : Int) then (if (rd (rd_L5 x0 x5) x6) = (rd (rd_L5 x1 x5) x6) then (remouldref01_Same.l1 k x0 x1 x5 (wrap64 (x6 + 1))) else (some false)) else (none)) else (none)) else (none)) else (remouldref01_Same.l0 k x0 x1 (wrap64 (x5 + 1)))) else (none)) else (none)
end
def remouldref01_Same.f (k : Nat) (l0 : List (List Int)) (l1 : List (List Int)) : Option (Bool) := if (l0.length : Int) = (l1.length : Int) then (remouldref01_Same.l0 k l0 l1 0) else (some false)
set_option maxHeartbeats 8000000 in
set_option maxRecDepth 100000 in
theorem remouldref01_Same.calls (k : Nat) (A0 : Option Addr) (c0 : Nat) (l0 : List (List Int)) (A1 : Option Addr) (c1 : Nat) (l1 : List (List Int)) (r : Bool) (w : World) (hr0 : Kd.C (Kd.slice 3 (Kd.int .i64)) w A0 l0.length l0) (hc0 : l0.length ≤ c0) (hr1 : Kd.C (Kd.slice 3 (Kd.int .i64)) w A1 l1.length l1) (hc1 : l1.length ≤ c1) (h : remouldref01_Same.f k l0 l1 = some r) :
    Calls Try.prog 19 #[.slice A0 l0.length c0, .slice A1 l1.length c1] w fun e w' => e = .returned (.bool r) ∧ Drawn0 w w' := by
  have HR0 := Aside0.mk hr0
  have HC0 := Aside0.mk hc0
  clear hr0 hc0
  have HR1 := Aside0.mk hr1
  have HC1 := Aside0.mk hc1
  clear hr1 hc1
  have H : (if (l0.length : Int) = (l1.length : Int) then (remouldref01_Same.l0 k l0 l1 0) else (some false)) = some r := h
  clear h
  by_cases c3 : (l0.length : Int) = (l1.length : Int)
  rotate_left
  · rw [if_neg c3] at H
    have c3b0 : ((l0.length : Int) == (l1.length : Int)) = false := beq_eq_false_iff_ne.mpr c3
    have c3b1 : ((l0.length : Int) != (l1.length : Int)) = true := bne_iff_ne.mpr c3
    have c3b2 : (l0.length == l1.length) = false := by first | simpa using c3 | (simp at c3 ⊢; omega)
    obtain rfl := Option.some.inj H
    go_enter Try.func19, Try.ntmps19
    go_wp2
    repeat (go_quiet (fail); try go_wp2)
    go_ret
    exact ⟨by first | rfl | (simp; done) | (simp [*]; done), by repeat (first | exact Drawn0.refl _ | apply Drawn0.step)⟩
  rw [if_pos c3] at H
  have c3b0 : ((l0.length : Int) == (l1.length : Int)) = true := beq_iff_eq.mpr c3
  have c3b1 : ((l0.length : Int) != (l1.length : Int)) = false := bne_eq_false_iff_eq.mpr c3
  have c3b2 : (l0.length == l1.length) = true := by first | simpa using c3 | (simp at c3 ⊢; omega)
  clear c3
  have H' := Aside0.mk H
  clear H
  go_enter Try.func19, Try.ntmps19
  go_wp2
  repeat (go_quiet (fail); try go_wp2)
  go_loopg [5] k (fun kq v5 w' => ∃ (x5_1 : Int), v5 = .int .i64 x5_1 ∧ Aside0 (remouldref01_Same.l0 kq l0 l1 x5_1 = some r) ∧ Aside0 (kq ≤ k) ∧ Drawn0 w w')
  case atStart => exact ⟨(0), (by first | rfl | (simp; done) | (simp [*]; done)), H', ⟨Nat.le_refl _⟩, by repeat (first | exact Drawn0.refl _ | apply Drawn0.step)⟩
  clear H'
  try clear c1
  try clear p2
  try clear c3
  try clear c3b0
  try clear c3b1
  try clear c3b2
  obtain ⟨x5_1, rfl, HA, HK1, ⟨m1, rfl⟩⟩ := hrel
  cases gk with
  | zero => exact absurd HA.out (by simp [remouldref01_Same.l0])
  | succ k1 =>
    have H := HA.out
    clear HA
    simp only [remouldref01_Same.l0] at H
    by_cases c4 : x5_1 < (l0.length : Int)
    rotate_left
    · rw [if_neg c4] at H
      have c4b0 : decide (x5_1 < (l0.length : Int)) = false := decide_eq_false c4
      clear c4
      obtain rfl := Option.some.inj H
      go_wp2
      repeat (go_quiet (fail); try go_wp2)
      go_ret
      exact ⟨by first | rfl | (simp; done) | (simp [*]; done), by repeat (first | exact Drawn0.refl _ | apply Drawn0.step)⟩
    rw [if_pos c4] at H
    have c4b0 : decide (x5_1 < (l0.length : Int)) = true := decide_eq_true c4
    clear c4
    by_cases c5 : 0 ≤ x5_1
    rotate_left
    · rw [if_neg c5] at H
      exact absurd H (by simp)
    rw [if_pos c5] at H
    have c5b0 : decide (0 ≤ x5_1) = true := decide_eq_true c5
    clear c5
    by_cases c6 : x5_1 < (l1.length : Int)
    rotate_left
    · rw [if_neg c6] at H
      exact absurd H (by simp)
    rw [if_pos c6] at H
    have c6b0 : decide (x5_1 < (l1.length : Int)) = true := decide_eq_true c6
    clear c6
    by_cases c7 : ((rd_L5 l0 x5_1).length : Int) = ((rd_L5 l1 x5_1).length : Int)
    rotate_left
    · rw [if_neg c7] at H
      have c7b0 : (((rd_L5 l0 x5_1).length : Int) == ((rd_L5 l1 x5_1).length : Int)) = false := beq_eq_false_iff_ne.mpr c7
      have c7b1 : (((rd_L5 l0 x5_1).length : Int) != ((rd_L5 l1 x5_1).length : Int)) = true := bne_iff_ne.mpr c7
      have c7b2 : ((rd_L5 l0 x5_1).length == (rd_L5 l1 x5_1).length) = false := by first | simpa using c7 | (simp at c7 ⊢; omega)
      obtain rfl := Option.some.inj H
      have p128 : 0 ≤ (x5_1 : Int) := of_decide_eq_true (by first | (with_reducible assumption) | assumption)
      have q128 : x5_1 < (l0.length : Int) := of_decide_eq_true (by first | (with_reducible assumption) | assumption)
      obtain ⟨ad128, A128_0, c128_0, e128, hx128_0, hl128_0, hi128_0⟩ := at_L5 HR0.out x5_1 p128 q128
      cases e128
      have HR128_0 := Aside0.mk hi128_0
      have HC128_0 := Aside0.mk hl128_0
      clear hi128_0 hl128_0
      replace p128 := eq_true p128
      replace q128 := eq_true q128
      have p129 : 0 ≤ (x5_1 : Int) := of_decide_eq_true (by first | (with_reducible assumption) | assumption)
      have q129 : x5_1 < (l1.length : Int) := of_decide_eq_true (by first | (with_reducible assumption) | assumption)
      obtain ⟨ad129, A129_0, c129_0, e129, hx129_0, hl129_0, hi129_0⟩ := at_L5 HR1.out x5_1 p129 q129
      cases e129
      have HR129_0 := Aside0.mk hi129_0
      have HC129_0 := Aside0.mk hl129_0
      clear hi129_0 hl129_0
      replace p129 := eq_true p129
      replace q129 := eq_true q129
      go_wp2
      repeat (go_quiet (fail); try go_wp2)
      go_ret
      exact ⟨by first | rfl | (simp; done) | (simp [*]; done), by repeat (first | exact Drawn0.refl _ | apply Drawn0.step)⟩
    rw [if_pos c7] at H
    have c7b0 : (((rd_L5 l0 x5_1).length : Int) == ((rd_L5 l1 x5_1).length : Int)) = true := beq_iff_eq.mpr c7
    have c7b1 : (((rd_L5 l0 x5_1).length : Int) != ((rd_L5 l1 x5_1).length : Int)) = false := bne_eq_false_iff_eq.mpr c7
    have c7b2 : ((rd_L5 l0 x5_1).length == (rd_L5 l1 x5_1).length) = true := by first | simpa using c7 | (simp at c7 ⊢; omega)
    clear c7
    have H' := Aside0.mk H
    clear H
    have p128 : 0 ≤ (x5_1 : Int) := of_decide_eq_true (by first | (with_reducible assumption) | assumption)
    have q128 : x5_1 < (l0.length : Int) := of_decide_eq_true (by first | (with_reducible assumption) | assumption)
    obtain ⟨ad128, A128_0, c128_0, e128, hx128_0, hl128_0, hi128_0⟩ := at_L5 HR0.out x5_1 p128 q128
    cases e128
    have HR128_0 := Aside0.mk hi128_0
    have HC128_0 := Aside0.mk hl128_0
    clear hi128_0 hl128_0
    replace p128 := eq_true p128
    replace q128 := eq_true q128
    have p129 : 0 ≤ (x5_1 : Int) := of_decide_eq_true (by first | (with_reducible assumption) | assumption)
    have q129 : x5_1 < (l1.length : Int) := of_decide_eq_true (by first | (with_reducible assumption) | assumption)
    obtain ⟨ad129, A129_0, c129_0, e129, hx129_0, hl129_0, hi129_0⟩ := at_L5 HR1.out x5_1 p129 q129
    cases e129
    have HR129_0 := Aside0.mk hi129_0
    have HC129_0 := Aside0.mk hl129_0
    clear hi129_0 hl129_0
    replace p129 := eq_true p129
    replace q129 := eq_true q129
    go_wp2
    repeat (go_quiet (fail); try go_wp2)
    go_loopg [6] k1 (fun kq v6 w' => ∃ (x6_2 : Int), v6 = .int .i64 x6_2 ∧ Aside0 (remouldref01_Same.l1 kq l0 l1 x5_1 x6_2 = some r) ∧ Aside0 (kq ≤ k1) ∧ Drawn0 w w')
    case atStart => exact ⟨(0), (by first | rfl | (simp; done) | (simp [*]; done)), H', ⟨Nat.le_refl _⟩, by repeat (first | exact Drawn0.refl _ | apply Drawn0.step)⟩
    clear H'
    try clear c1
    try clear p1
    try clear q1
    try clear hx1
    try clear p2
    try clear c3
    try clear c3b0
    try clear c3b1
    try clear c3b2
    try clear c4
    try clear c4b0
    try clear c5
    try clear c5b0
    try clear c6
    try clear c6b0
    try clear c7
    try clear c7b0
    try clear c7b1
    try clear c7b2
    try clear hx128_0
    try clear hx129_0
    try clear p128
    try clear p129
    try clear p2
    try clear q128
    try clear q129
    obtain ⟨x6_2, rfl, HA, HK2, ⟨m2, rfl⟩⟩ := hrel
    cases gk with
    | zero => exact absurd HA.out (by simp [remouldref01_Same.l1])
    | succ k2 =>
      have H := HA.out
      clear HA
      simp only [remouldref01_Same.l1] at H
      by_cases c8 : 0 ≤ x5_1
      rotate_left
      · rw [if_neg c8] at H
        exact absurd H (by simp)
      rw [if_pos c8] at H
      have c8b0 : decide (0 ≤ x5_1) = true := decide_eq_true c8
      clear c8
      by_cases c9 : x5_1 < (l0.length : Int)
      rotate_left
      · rw [if_neg c9] at H
        exact absurd H (by simp)
      rw [if_pos c9] at H
      have c9b0 : decide (x5_1 < (l0.length : Int)) = true := decide_eq_true c9
      clear c9
      by_cases c10 : x6_2 < ((rd_L5 l0 x5_1).length : Int)
      rotate_left
      · rw [if_neg c10] at H
        have c10b0 : decide (x6_2 < ((rd_L5 l0 x5_1).length : Int)) = false := decide_eq_false c10
        clear c10
        have H' := Aside0.mk H
        clear H
        have p130 : 0 ≤ (x5_1 : Int) := of_decide_eq_true (by first | (with_reducible assumption) | assumption)
        have q130 : x5_1 < (l0.length : Int) := of_decide_eq_true (by first | (with_reducible assumption) | assumption)
        obtain ⟨ad130, A130_0, c130_0, e130, hx130_0, hl130_0, hi130_0⟩ := at_L5 HR0.out x5_1 p130 q130
        obtain rfl : ad128 = ad130 := (by injection e130)
        have HR130_0 := Aside0.mk hi130_0
        have HC130_0 := Aside0.mk hl130_0
        clear hi130_0 hl130_0
        replace p130 := eq_true p130
        replace q130 := eq_true q130
        go_wp2
        repeat (go_quiet (fail); try go_wp2)
        go_roundg k2
        case measure => have := HK1.out; have := HK2.out; omega
        case rel => exact ⟨(wrap64 (x5_1 + 1)), (by first | rfl | (simp; done) | (simp [*]; done)), H', ⟨by have := HK1.out; have := HK2.out; omega⟩, by repeat (first | exact Drawn0.refl _ | apply Drawn0.step)⟩
      rw [if_pos c10] at H
      have c10b0 : decide (x6_2 < ((rd_L5 l0 x5_1).length : Int)) = true := decide_eq_true c10
      clear c10
      by_cases c11 : 0 ≤ x6_2
      rotate_left
      · rw [if_neg c11] at H
        exact absurd H (by simp)
      rw [if_pos c11] at H
      have c11b0 : decide (0 ≤ x6_2) = true := decide_eq_true c11
      clear c11
      by_cases c12 : x5_1 < (l1.length : Int)
      rotate_left
      · rw [if_neg c12] at H
        exact absurd H (by simp)
      rw [if_pos c12] at H
      have c12b0 : decide (x5_1 < (l1.length : Int)) = true := decide_eq_true c12
      clear c12
      by_cases c13 : x6_2 < ((rd_L5 l1 x5_1).length : Int)
      rotate_left
      · rw [if_neg c13] at H
        exact absurd H (by simp)
      rw [if_pos c13] at H
      have c13b0 : decide (x6_2 < ((rd_L5 l1 x5_1).length : Int)) = true := decide_eq_true c13
      clear c13
      by_cases c14 : (rd (rd_L5 l0 x5_1) x6_2) = (rd (rd_L5 l1 x5_1) x6_2)
      rotate_left
      · rw [if_neg c14] at H
        have c14b0 : ((rd (rd_L5 l0 x5_1) x6_2) == (rd (rd_L5 l1 x5_1) x6_2)) = false := beq_eq_false_iff_ne.mpr c14
        have c14b1 : ((rd (rd_L5 l0 x5_1) x6_2) != (rd (rd_L5 l1 x5_1) x6_2)) = true := bne_iff_ne.mpr c14
        obtain rfl := Option.some.inj H
        have p130 : 0 ≤ (x5_1 : Int) := of_decide_eq_true (by first | (with_reducible assumption) | assumption)
        have q130 : x5_1 < (l0.length : Int) := of_decide_eq_true (by first | (with_reducible assumption) | assumption)
        obtain ⟨ad130, A130_0, c130_0, e130, hx130_0, hl130_0, hi130_0⟩ := at_L5 HR0.out x5_1 p130 q130
        obtain rfl : ad128 = ad130 := (by injection e130)
        have HR130_0 := Aside0.mk hi130_0
        have HC130_0 := Aside0.mk hl130_0
        clear hi130_0 hl130_0
        replace p130 := eq_true p130
        replace q130 := eq_true q130
        have p131 : 0 ≤ (x5_1 : Int) := of_decide_eq_true (by first | (with_reducible assumption) | assumption)
        have q131 : x5_1 < (l0.length : Int) := of_decide_eq_true (by first | (with_reducible assumption) | assumption)
        obtain ⟨ad131, A131_0, c131_0, e131, hx131_0, hl131_0, hi131_0⟩ := at_L5 HR0.out x5_1 p131 q131
        obtain rfl : ad128 = ad131 := (by injection e131)
        have HR131_0 := Aside0.mk hi131_0
        have HC131_0 := Aside0.mk hl131_0
        clear hi131_0 hl131_0
        replace p131 := eq_true p131
        replace q131 := eq_true q131
        have ea_ := Option.some.inj (hx130_0.symm.trans hx131_0)
        injection ea_ with ea_ en_ ec_
        subst ea_
        subst ec_
        clear en_
        have p132 : 0 ≤ (x6_2 : Int) := of_decide_eq_true (by first | (with_reducible assumption) | assumption)
        have q132 : x6_2 < ((rd_L5 l0 x5_1).length : Int) := of_decide_eq_true (by first | (with_reducible assumption) | assumption)
        obtain ⟨ad132, e132, hx132_0⟩ := Kd.at_int HR131_0.out x6_2 p132 q132
        cases e132
        replace p132 := eq_true p132
        replace q132 := eq_true q132
        have p133 : 0 ≤ (x5_1 : Int) := of_decide_eq_true (by first | (with_reducible assumption) | assumption)
        have q133 : x5_1 < (l1.length : Int) := of_decide_eq_true (by first | (with_reducible assumption) | assumption)
        obtain ⟨ad133, A133_0, c133_0, e133, hx133_0, hl133_0, hi133_0⟩ := at_L5 HR1.out x5_1 p133 q133
        obtain rfl : ad129 = ad133 := (by injection e133)
        have HR133_0 := Aside0.mk hi133_0
        have HC133_0 := Aside0.mk hl133_0
        clear hi133_0 hl133_0
        replace p133 := eq_true p133
        replace q133 := eq_true q133
        have p134 : 0 ≤ (x6_2 : Int) := of_decide_eq_true (by first | (with_reducible assumption) | assumption)
        have q134 : x6_2 < ((rd_L5 l1 x5_1).length : Int) := of_decide_eq_true (by first | (with_reducible assumption) | assumption)
        obtain ⟨ad134, e134, hx134_0⟩ := Kd.at_int HR133_0.out x6_2 p134 q134
        cases e134
        replace p134 := eq_true p134
        replace q134 := eq_true q134
        go_wp2
        repeat (go_quiet (fail); try go_wp2)
        go_ret
        exact ⟨by first | rfl | (simp; done) | (simp [*]; done), by repeat (first | exact Drawn0.refl _ | apply Drawn0.step)⟩
      rw [if_pos c14] at H
      have c14b0 : ((rd (rd_L5 l0 x5_1) x6_2) == (rd (rd_L5 l1 x5_1) x6_2)) = true := beq_iff_eq.mpr c14
      have c14b1 : ((rd (rd_L5 l0 x5_1) x6_2) != (rd (rd_L5 l1 x5_1) x6_2)) = false := bne_eq_false_iff_eq.mpr c14
      clear c14
      have H' := Aside0.mk H
      clear H
      have p130 : 0 ≤ (x5_1 : Int) := of_decide_eq_true (by first | (with_reducible assumption) | assumption)
      have q130 : x5_1 < (l0.length : Int) := of_decide_eq_true (by first | (with_reducible assumption) | assumption)
      obtain ⟨ad130, A130_0, c130_0, e130, hx130_0, hl130_0, hi130_0⟩ := at_L5 HR0.out x5_1 p130 q130
      obtain rfl : ad128 = ad130 := (by injection e130)
      have HR130_0 := Aside0.mk hi130_0
      have HC130_0 := Aside0.mk hl130_0
      clear hi130_0 hl130_0
      replace p130 := eq_true p130
      replace q130 := eq_true q130
      have p131 : 0 ≤ (x5_1 : Int) := of_decide_eq_true (by first | (with_reducible assumption) | assumption)
      have q131 : x5_1 < (l0.length : Int) := of_decide_eq_true (by first | (with_reducible assumption) | assumption)
      obtain ⟨ad131, A131_0, c131_0, e131, hx131_0, hl131_0, hi131_0⟩ := at_L5 HR0.out x5_1 p131 q131
      obtain rfl : ad128 = ad131 := (by injection e131)
      have HR131_0 := Aside0.mk hi131_0
      have HC131_0 := Aside0.mk hl131_0
      clear hi131_0 hl131_0
      replace p131 := eq_true p131
      replace q131 := eq_true q131
      have ea_ := Option.some.inj (hx130_0.symm.trans hx131_0)
      injection ea_ with ea_ en_ ec_
      subst ea_
      subst ec_
      clear en_
      have p132 : 0 ≤ (x6_2 : Int) := of_decide_eq_true (by first | (with_reducible assumption) | assumption)
      have q132 : x6_2 < ((rd_L5 l0 x5_1).length : Int) := of_decide_eq_true (by first | (with_reducible assumption) | assumption)
      obtain ⟨ad132, e132, hx132_0⟩ := Kd.at_int HR131_0.out x6_2 p132 q132
      cases e132
      replace p132 := eq_true p132
      replace q132 := eq_true q132
      have p133 : 0 ≤ (x5_1 : Int) := of_decide_eq_true (by first | (with_reducible assumption) | assumption)
      have q133 : x5_1 < (l1.length : Int) := of_decide_eq_true (by first | (with_reducible assumption) | assumption)
      obtain ⟨ad133, A133_0, c133_0, e133, hx133_0, hl133_0, hi133_0⟩ := at_L5 HR1.out x5_1 p133 q133
      obtain rfl : ad129 = ad133 := (by injection e133)
      have HR133_0 := Aside0.mk hi133_0
      have HC133_0 := Aside0.mk hl133_0
      clear hi133_0 hl133_0
      replace p133 := eq_true p133
      replace q133 := eq_true q133
      have p134 : 0 ≤ (x6_2 : Int) := of_decide_eq_true (by first | (with_reducible assumption) | assumption)
      have q134 : x6_2 < ((rd_L5 l1 x5_1).length : Int) := of_decide_eq_true (by first | (with_reducible assumption) | assumption)
      obtain ⟨ad134, e134, hx134_0⟩ := Kd.at_int HR133_0.out x6_2 p134 q134
      cases e134
      replace p134 := eq_true p134
      replace q134 := eq_true q134
      go_wp2
      repeat (go_quiet (fail); try go_wp2)
      go_roundg k2
      case measure => have := HK1.out; have := HK2.out; omega
      case rel => exact ⟨(wrap64 (x6_2 + 1)), (by first | rfl | (simp; done) | (simp [*]; done)), H', ⟨by have := HK1.out; have := HK2.out; omega⟩, by repeat (first | exact Drawn0.refl _ | apply Drawn0.step)⟩
end Go.Proofs.Ytmcihijobilcgaa.PAll
end
section
namespace Go.Proofs.Ytmcihijobilcgaa.PAll
open Go.RowKit Go.Proofs.YtmcihijobilcgaaW.PrintWords Go.Proofs.YtmcihijobilcgaaW.PrintLast Go.Proofs.YtmcihijobilcgaaW.PrintMore
attribute [local go_sem] max2_int max_two
def casing_exponents.l0 : Nat → ByteArray → Int → Int → Int → Int → Option (Int × Int)
  | 0, _, _, _, _, _ => none
  | k + 1, x0, x7, x8, x137000, x137001 => if x8 < x7 then (if 0 ≤ x8 then (if x8 < (x0.size : Int) then ((strings_IndexByte.f (⟨#[97, 65, 98, 66]⟩ : ByteArray) (bt x0 x8)).bind fun t137 => (if (wrap64 (Int.tdiv t137 2)) = 0 then (casing_exponents.l0 k x0 x7 (wrap64 (x8 + 1)) (wrap64 (x137000 + (wrap64 (1 - (wrap64 ((Int.tmod t137 2) * 2)))))) x137001) else (if (wrap64 (Int.tdiv t137 2)) = 1 then (casing_exponents.l0 k x0 x7 (wrap64 (x8 + 1)) x137000 (wrap64 (x137001 + (wrap64 (1 - (wrap64 ((Int.tmod t137 2) * 2))))))) else (none)))) else (none)) else (none)) else (some (x137000, x137001))
def casing_exponents.f (k : Nat) (a0 : ByteArray) : Option (Int × Int) := casing_exponents.l0 k a0 (a0.size : Int) 0 0 0
set_option maxHeartbeats 8000000 in
set_option maxRecDepth 100000 in
theorem casing_exponents.calls (k : Nat) (a0 : ByteArray) (r1 : Int) (r2 : Int) (w : World) (h : casing_exponents.f k a0 = some (r1, r2)) :
    Calls Try.prog 54 #[.string a0] w fun e w' => e = .returned (.agg #[.int .i64 r1, .int .i64 r2]) ∧ Below w.heap.size w w' := by
  have hu50 := Try.underlying50
  have HB := Aside0.mk (Below.refl w.heap.size w)
  have H : (casing_exponents.l0 k a0 (a0.size : Int) 0 0 0) = some (r1, r2) := h
  clear h
  have H' := Aside0.mk H
  clear H
  go_enter Try.func54, Try.ntmps54
  go_wp2_with (first | ((with_reducible refine gate_dst (N := 2) rfl ?_); refine box_event ?hg (N := 2) ?hd (cs := #[.int .i64 0, .int .i64 0]) (t := 50) ?hr ?_; (case hd => rfl); (case hg => rfl); (case hr => first | (go_simp; done) | (go_simp; rfl)); intro gb135 hg w2 hbox hb; have BK135 := Aside0.mk (hbox); have GW135 := Aside0.mk ((by rw [hg]; exact (below_size (gr HB.out)) : w.heap.size ≤ gb135)); have GE135 := Aside0.mk ((by rw [hg]; exact (below_size (gr HB.out)) : w.heap.size ≤ gb135)); replace HB := Aside0.mk (below_step HB.out (tr hb)); clear hb hbox hg) | ((with_reducible refine gate_dst (N := 3) rfl ?_); refine box_event ?hg (N := 3) ?hd (cs := #[.int .i64 0, .int .i64 0]) (t := 50) ?hr ?_; (case hd => rfl); (case hg => rfl); (case hr => first | (go_simp; done) | (go_simp; rfl)); intro gb136 hg w3 hbox hb; have BK136 := Aside0.mk (hbox); have GW136 := Aside0.mk ((by rw [hg]; exact (below_size (by repeat (first | (with_reducible first | exact HB.out | apply below_alloc | apply pw_below_drewN | apply below_drew1 | refine below_set ?_ GE135.out) | exact HB.out))) : w.heap.size ≤ gb136)); have GE136 := Aside0.mk ((by rw [hg]; exact (below_size (by repeat (first | (with_reducible first | exact HB.out | apply below_alloc | apply pw_below_drewN | apply below_drew1 | refine below_set ?_ GE135.out) | exact HB.out))) : w.heap.size ≤ gb136)); have NB135_136 := Aside0.mk ((by rw [hg]; exact Nat.ne_of_lt (blk_lt (g := gb135) (o := .cells #[.int .i64 0, .int .i64 0] 50 (0, 0)) (by (with_reducible repeat (first | refine blk_drewN ?_ _ | refine blk_drew ?_ | refine blk_alloc ?_ _)); exact BK135.out)) : gb135 ≠ gb136)); have NB136_135 := Aside0.mk ((by rw [hg]; exact Nat.ne_of_gt (blk_lt (g := gb135) (o := .cells #[.int .i64 0, .int .i64 0] 50 (0, 0)) (by (with_reducible repeat (first | refine blk_drewN ?_ _ | refine blk_drew ?_ | refine blk_alloc ?_ _)); exact BK135.out)) : gb136 ≠ gb135)); replace BK135 := Aside0.mk (blk_below BK135.out (tr hb)); replace HB := Aside0.mk (below_step (by repeat (first | (with_reducible first | exact HB.out | apply below_alloc | apply pw_below_drewN | apply below_drew1 | refine below_set ?_ GE135.out) | exact HB.out)) hb); clear hb hbox hg))
  go_loopg [8] k (fun kq v8 w' => ∃ (x8_1 : Int) (x137000_1 : Int) (x137001_1 : Int), v8 = .int .i64 x8_1 ∧ Aside0 (casing_exponents.l0 kq a0 (a0.size : Int) x8_1 x137000_1 x137001_1 = some (r1, r2)) ∧ Aside0 (kq ≤ k) ∧ Aside0 (w'.heap[gb135]? = some (.cells #[.int .i64 0, .int .i64 0] 50 (0, 0))) ∧ Aside0 (w'.heap[gb136]? = some (.cells #[.int .i64 x137000_1, .int .i64 x137001_1] 50 (0, 0))) ∧ Aside0 (Below w.heap.size w w'))
  case atStart => exact ⟨(0), (0), (0), (by first | rfl | (simp; done) | (simp [*]; done)), H', ⟨Nat.le_refl _⟩, ⟨by (with_reducible repeat (first | refine blk_drewN ?_ _ | refine blk_drew ?_ | refine blk_alloc ?_ _)); exact BK135.out⟩, ⟨by (with_reducible repeat (first | refine blk_drewN ?_ _ | refine blk_drew ?_ | refine blk_alloc ?_ _)); exact BK136.out⟩, ⟨by repeat (first | (with_reducible first | exact HB.out | apply below_alloc | apply pw_below_drewN | apply below_drew1 | refine below_set ?_ GE135.out | refine below_set ?_ GE136.out) | exact HB.out)⟩⟩
  clear H'
  try clear p2
  obtain ⟨x8_1, x137000_1, x137001_1, rfl, HA, HK1, BK135, BK136, HB⟩ := hrel
  cases gk with
  | zero => exact absurd HA.out (by simp [casing_exponents.l0])
  | succ k1 =>
    have H := HA.out
    clear HA
    simp only [casing_exponents.l0] at H
    by_cases c4 : x8_1 < (a0.size : Int)
    rotate_left
    · rw [if_neg c4] at H
      have c4b0 : decide (x8_1 < (a0.size : Int)) = false := decide_eq_false c4
      clear c4
      simp only [Option.some.injEq, Prod.mk.injEq] at H
      obtain ⟨rfl, rfl⟩ := H
      have hnb16 := NB136_135.out
      have hnc16 := NB135_136.out
      have hcz17_0 : wr.cell? ⟨gb136, 0, none⟩ = some (.int .i64 x137000_1) := (blk_cell BK136.out 0).trans rfl
      have hcz17_1 : wr.cell? ⟨gb136, 1, none⟩ = some (.int .i64 x137001_1) := (blk_cell BK136.out 1).trans rfl
      have hfz17_0 := blk_frozen BK136.out 0
      have hfz17_1 := blk_frozen BK136.out 1
      have hcz18_0 : wr.cell? ⟨gb135, 0, none⟩ = some (.int .i64 0) := (blk_cell BK135.out 0).trans rfl
      have hcz18_1 : wr.cell? ⟨gb135, 1, none⟩ = some (.int .i64 0) := (blk_cell BK135.out 1).trans rfl
      have hfz18_0 := blk_frozen BK135.out 0
      have hfz18_1 := blk_frozen BK135.out 1
      go_wp2
      refine bodyPost_ret (results_cell_row rfl _ _ gb135 50 #[.int .i64 x137000_1, .int .i64 x137001_1] (0, 0) _ rfl (by (with_reducible repeat (first | refine blk_drewN ?_ _ | refine blk_drew ?_ | refine blk_alloc ?_ _)); refine blk_put (cs := #[.int .i64 x137000_1, .int .i64 0]) ?_ 1 _ rfl; (with_reducible repeat (first | refine blk_drewN ?_ _ | refine blk_drew ?_ | refine blk_alloc ?_ _)); refine blk_put (cs := #[.int .i64 0, .int .i64 0]) ?_ 0 _ rfl; (with_reducible repeat (first | refine blk_drewN ?_ _ | refine blk_drew ?_ | refine blk_alloc ?_ _)); exact BK135.out) Try.underlying50 rfl (by kernel_rfl)) rfl ?_
      exact ⟨by first | rfl | (simp [errW_none, errW_some] <;> rfl) | (simp [*, errW_none, errW_some] <;> rfl), by repeat (first | (with_reducible first | exact HB.out | apply below_alloc | apply pw_below_drewN | apply below_drew1 | refine below_set ?_ GE135.out | refine below_set ?_ GE136.out) | exact HB.out)⟩
    rw [if_pos c4] at H
    have c4b0 : decide (x8_1 < (a0.size : Int)) = true := decide_eq_true c4
    clear c4
    by_cases c5 : 0 ≤ x8_1
    rotate_left
    · rw [if_neg c5] at H
      exact absurd H (by simp)
    rw [if_pos c5] at H
    have c5b0 : decide (0 ≤ x8_1) = true := decide_eq_true c5
    clear c5
    by_cases c6 : x8_1 < (a0.size : Int)
    rotate_left
    · rw [if_neg c6] at H
      exact absurd H (by simp)
    rw [if_pos c6] at H
    have c6b0 : decide (x8_1 < (a0.size : Int)) = true := decide_eq_true c6
    clear c6
    replace H := Option.bind_eq_some_iff.mp H
    obtain ⟨t137, A80, H⟩ := H
    try dsimp only at H
    have A8 := Aside0.mk A80
    clear A80
    obtain ⟨ji9, hji9⟩ : ∃ j_ : Int, (wrap64 (Int.tdiv t137 2)) = j_ := ⟨_, rfl⟩
    replace H : (if ji9 = 0 then (casing_exponents.l0 k1 a0 (a0.size : Int) (wrap64 (x8_1 + 1)) (wrap64 (x137000_1 + (wrap64 (1 - (wrap64 ((Int.tmod t137 2) * 2)))))) x137001_1) else (if ji9 = 1 then (casing_exponents.l0 k1 a0 (a0.size : Int) (wrap64 (x8_1 + 1)) x137000_1 (wrap64 (x137001_1 + (wrap64 (1 - (wrap64 ((Int.tmod t137 2) * 2))))))) else (none))) = some (r1, r2) := by first | (rw [hji9] at H; exact H) | (simp only [hji9] at H ⊢; exact H)
    by_cases c10 : ji9 = 0
    · subst c10
      have H1 : (casing_exponents.l0 k1 a0 (a0.size : Int) (wrap64 (x8_1 + 1)) (wrap64 (x137000_1 + (wrap64 (1 - (wrap64 ((Int.tmod t137 2) * 2)))))) x137001_1) = some (r1, r2) := by rw [if_pos rfl] at H; exact H
      clear H
      have H := H1
      clear H1
      have H' := Aside0.mk H
      clear H
      have p7 : 0 ≤ (x8_1 : Int) := of_decide_eq_true (by first | (with_reducible assumption) | assumption)
      have q7 : x8_1 < (a0.size : Int) := of_decide_eq_true (by first | (with_reducible assumption) | assumption)
      have hx7 := bt_at a0 x8_1
      replace p7 := eq_true p7
      replace q7 := eq_true q7
      go_wp2_with (first | ((with_reducible refine gate_callee (f := 76) rfl ?_); refine goesL_ (some 14) rfl rfl Try.func76 (by kernel_rfl) rfl #[.string (⟨#[97, 65, 98, 66]⟩ : ByteArray), .int .u8 (bt a0 x8_1)] rfl (by (try simp only [List.map_toArray, List.map_cons, List.map_nil]); first | done | rfl | (simp only [List.length_drop, List.length_take]; rfl)) ?_; (with_reducible refine (strings_IndexByte.calls (⟨#[97, 65, 98, 66]⟩ : ByteArray) (bt a0 x8_1) t137 _ A8.out).mono ?_); rintro e w' ⟨rfl, ⟨nd, rfl⟩⟩; refine ⟨_, rfl, ?_⟩; (try (rw [drewN_self wr]; generalize hq_ : World.drewN wr _ = wr; have n0_ : Aside0 (wr.heap[gb135]? = some (.cells #[.int .i64 0, .int .i64 0] 50 (0, 0))) := ⟨by rw [← hq_]; exact (by (with_reducible repeat (first | refine blk_drewN ?_ _ | refine blk_drew ?_ | refine blk_alloc ?_ _)); exact BK135.out)⟩; have n1_ : Aside0 (wr.heap[gb136]? = some (.cells #[.int .i64 x137000_1, .int .i64 x137001_1] 50 (0, 0))) := ⟨by rw [← hq_]; exact (by (with_reducible repeat (first | refine blk_drewN ?_ _ | refine blk_drew ?_ | refine blk_alloc ?_ _)); exact BK136.out)⟩; have n2_ : Aside0 (Below w.heap.size w wr) := ⟨by rw [← hq_]; exact (by repeat (first | (with_reducible first | exact HB.out | apply below_alloc | apply pw_below_drewN | apply below_drew1 | refine below_set ?_ GE135.out | refine below_set ?_ GE136.out) | exact HB.out))⟩; clear BK135 BK136 HB hq_; have BK135 := n0_; have BK136 := n1_; have HB := n2_; clear n0_ n1_ n2_)); have hnb11 := NB136_135.out; have hnc11 := NB135_136.out; have hcz12_0 : wr.cell? ⟨gb136, 0, none⟩ = some (.int .i64 x137000_1) := (blk_cell BK136.out 0).trans rfl; have hcz12_1 : wr.cell? ⟨gb136, 1, none⟩ = some (.int .i64 x137001_1) := (blk_cell BK136.out 1).trans rfl; have hfz12_0 := blk_frozen BK136.out 0; have hfz12_1 := blk_frozen BK136.out 1))
      go_roundg k1
      case measure => have := HK1.out; omega
      case rel => exact ⟨(wrap64 (x8_1 + 1)), (wrap64 (x137000_1 + (wrap64 (1 - (wrap64 ((Int.tmod t137 2) * 2)))))), (x137001_1), (by first | rfl | (simp; done) | (simp [*]; done)), H', ⟨by have := HK1.out; omega⟩, ⟨by (with_reducible repeat (first | refine blk_drewN ?_ _ | refine blk_drew ?_ | refine blk_alloc ?_ _)); refine blk_far ?_ NB135_136.out _; (with_reducible repeat (first | refine blk_drewN ?_ _ | refine blk_drew ?_ | refine blk_alloc ?_ _)); exact BK135.out⟩, ⟨by (with_reducible repeat (first | refine blk_drewN ?_ _ | refine blk_drew ?_ | refine blk_alloc ?_ _)); refine blk_put (cs := #[.int .i64 x137000_1, .int .i64 x137001_1]) ?_ 0 _ rfl; (with_reducible repeat (first | refine blk_drewN ?_ _ | refine blk_drew ?_ | refine blk_alloc ?_ _)); exact BK136.out⟩, ⟨by repeat (first | (with_reducible first | exact HB.out | apply below_alloc | apply pw_below_drewN | apply below_drew1 | refine below_set ?_ GE135.out | refine below_set ?_ GE136.out) | exact HB.out)⟩⟩
    rw [if_neg c10] at H
    clear c10
    by_cases c13 : ji9 = 1
    rotate_left
    · rw [if_neg c13] at H
      exact absurd H (by simp)
    subst c13
    have H1 : (casing_exponents.l0 k1 a0 (a0.size : Int) (wrap64 (x8_1 + 1)) x137000_1 (wrap64 (x137001_1 + (wrap64 (1 - (wrap64 ((Int.tmod t137 2) * 2))))))) = some (r1, r2) := by rw [if_pos rfl] at H; exact H
    clear H
    have H := H1
    clear H1
    have H' := Aside0.mk H
    clear H
    have p7 : 0 ≤ (x8_1 : Int) := of_decide_eq_true (by first | (with_reducible assumption) | assumption)
    have q7 : x8_1 < (a0.size : Int) := of_decide_eq_true (by first | (with_reducible assumption) | assumption)
    have hx7 := bt_at a0 x8_1
    replace p7 := eq_true p7
    replace q7 := eq_true q7
    go_wp2_with (first | ((with_reducible refine gate_callee (f := 76) rfl ?_); refine goesL_ (some 14) rfl rfl Try.func76 (by kernel_rfl) rfl #[.string (⟨#[97, 65, 98, 66]⟩ : ByteArray), .int .u8 (bt a0 x8_1)] rfl (by (try simp only [List.map_toArray, List.map_cons, List.map_nil]); first | done | rfl | (simp only [List.length_drop, List.length_take]; rfl)) ?_; (with_reducible refine (strings_IndexByte.calls (⟨#[97, 65, 98, 66]⟩ : ByteArray) (bt a0 x8_1) t137 _ A8.out).mono ?_); rintro e w' ⟨rfl, ⟨nd, rfl⟩⟩; refine ⟨_, rfl, ?_⟩; (try (rw [drewN_self wr]; generalize hq_ : World.drewN wr _ = wr; have n0_ : Aside0 (wr.heap[gb135]? = some (.cells #[.int .i64 0, .int .i64 0] 50 (0, 0))) := ⟨by rw [← hq_]; exact (by (with_reducible repeat (first | refine blk_drewN ?_ _ | refine blk_drew ?_ | refine blk_alloc ?_ _)); exact BK135.out)⟩; have n1_ : Aside0 (wr.heap[gb136]? = some (.cells #[.int .i64 x137000_1, .int .i64 x137001_1] 50 (0, 0))) := ⟨by rw [← hq_]; exact (by (with_reducible repeat (first | refine blk_drewN ?_ _ | refine blk_drew ?_ | refine blk_alloc ?_ _)); exact BK136.out)⟩; have n2_ : Aside0 (Below w.heap.size w wr) := ⟨by rw [← hq_]; exact (by repeat (first | (with_reducible first | exact HB.out | apply below_alloc | apply pw_below_drewN | apply below_drew1 | refine below_set ?_ GE135.out | refine below_set ?_ GE136.out) | exact HB.out))⟩; clear BK135 BK136 HB hq_; have BK135 := n0_; have BK136 := n1_; have HB := n2_; clear n0_ n1_ n2_)); have hnb14 := NB136_135.out; have hnc14 := NB135_136.out; have hcz15_0 : wr.cell? ⟨gb136, 0, none⟩ = some (.int .i64 x137000_1) := (blk_cell BK136.out 0).trans rfl; have hcz15_1 : wr.cell? ⟨gb136, 1, none⟩ = some (.int .i64 x137001_1) := (blk_cell BK136.out 1).trans rfl; have hfz15_0 := blk_frozen BK136.out 0; have hfz15_1 := blk_frozen BK136.out 1))
    go_roundg k1
    case measure => have := HK1.out; omega
    case rel => exact ⟨(wrap64 (x8_1 + 1)), (x137000_1), (wrap64 (x137001_1 + (wrap64 (1 - (wrap64 ((Int.tmod t137 2) * 2)))))), (by first | rfl | (simp; done) | (simp [*]; done)), H', ⟨by have := HK1.out; omega⟩, ⟨by (with_reducible repeat (first | refine blk_drewN ?_ _ | refine blk_drew ?_ | refine blk_alloc ?_ _)); refine blk_far ?_ NB135_136.out _; (with_reducible repeat (first | refine blk_drewN ?_ _ | refine blk_drew ?_ | refine blk_alloc ?_ _)); exact BK135.out⟩, ⟨by (with_reducible repeat (first | refine blk_drewN ?_ _ | refine blk_drew ?_ | refine blk_alloc ?_ _)); refine blk_put (cs := #[.int .i64 x137000_1, .int .i64 x137001_1]) ?_ 1 _ rfl; (with_reducible repeat (first | refine blk_drewN ?_ _ | refine blk_drew ?_ | refine blk_alloc ?_ _)); exact BK136.out⟩, ⟨by repeat (first | (with_reducible first | exact HB.out | apply below_alloc | apply pw_below_drewN | apply below_drew1 | refine below_set ?_ GE135.out | refine below_set ?_ GE136.out) | exact HB.out)⟩⟩
end Go.Proofs.Ytmcihijobilcgaa.PAll
end
section
namespace Go.Proofs.Ytmcihijobilcgaa.PAll
open Go.RowKit Go.Proofs.YtmcihijobilcgaaW.PrintWords Go.Proofs.YtmcihijobilcgaaW.PrintLast Go.Proofs.YtmcihijobilcgaaW.PrintMore
attribute [local go_sem] max2_int max_two
def casing_gcd.l0 : Nat → Int → Int → Option (Int)
  | 0, _, _ => none
  | k + 1, x0, x1 => if x1 = 0 then (some (mx x0 (wrap64 (-x0)))) else (casing_gcd.l0 k x1 (Int.tmod x0 x1))
def casing_gcd.f (k : Nat) (a0 : Int) (a1 : Int) : Option (Int) := casing_gcd.l0 k a0 a1
set_option maxHeartbeats 8000000 in
set_option maxRecDepth 100000 in
theorem casing_gcd.calls (k : Nat) (a0 : Int) (a1 : Int) (r : Int) (w : World) (h : casing_gcd.f k a0 a1 = some r) :
    Calls Try.prog 55 #[.int .i64 a0, .int .i64 a1] w fun e w' => e = .returned (.int .i64 r) ∧ Below w.heap.size w w' := by
  have HB := Aside0.mk (Below.refl w.heap.size w)
  have H : (casing_gcd.l0 k a0 a1) = some r := h
  clear h
  have H' := Aside0.mk H
  clear H
  go_enter Try.func55, Try.ntmps55
  go_wp2
  repeat (go_quiet (fail); try go_wp2)
  go_loopg [0, 1] k (fun kq v0 v1 w' => ∃ (x0_1 : Int) (x1_1 : Int), v0 = .int .i64 x0_1 ∧ v1 = .int .i64 x1_1 ∧ Aside0 (casing_gcd.l0 kq x0_1 x1_1 = some r) ∧ Aside0 (kq ≤ k) ∧ Aside0 (Below w.heap.size w w'))
  case atStart => exact ⟨(a0), (a1), (by first | rfl | (simp; done) | (simp [*]; done)), (by first | rfl | (simp; done) | (simp [*]; done)), H', ⟨Nat.le_refl _⟩, ⟨by repeat (first | (with_reducible first | exact HB.out | apply below_alloc | apply pw_below_drewN | apply below_drew1) | exact HB.out)⟩⟩
  clear H'
  try clear p2
  obtain ⟨x0_1, x1_1, rfl, rfl, HA, HK1, HB⟩ := hrel
  cases gk with
  | zero => exact absurd HA.out (by simp [casing_gcd.l0])
  | succ k1 =>
    have H := HA.out
    clear HA
    simp only [casing_gcd.l0] at H
    by_cases c3 : x1_1 = 0
    rotate_left
    · rw [if_neg c3] at H
      have c3b0 : (x1_1 == 0) = false := beq_eq_false_iff_ne.mpr c3
      have c3b1 : (x1_1 != 0) = true := bne_iff_ne.mpr c3
      have H' := Aside0.mk H
      clear H
      go_wp2
      repeat (go_quiet (fail); try go_wp2)
      go_roundg k1
      case measure => have := HK1.out; omega
      case rel => exact ⟨(x1_1), (Int.tmod x0_1 x1_1), (by first | rfl | (simp; done) | (simp [*]; done)), (by first | rfl | (simp; done) | (simp [*]; done)), H', ⟨by have := HK1.out; omega⟩, ⟨by repeat (first | (with_reducible first | exact HB.out | apply below_alloc | apply pw_below_drewN | apply below_drew1) | exact HB.out)⟩⟩
    rw [if_pos c3] at H
    have c3b0 : (x1_1 == 0) = true := beq_iff_eq.mpr c3
    have c3b1 : (x1_1 != 0) = false := bne_eq_false_iff_eq.mpr c3
    clear c3
    obtain ⟨ji4, hji4⟩ : ∃ j_ : Int, (mx x0_1 (wrap64 (-x0_1))) = j_ := ⟨_, rfl⟩
    replace H : (some ji4) = some r := by first | (rw [hji4] at H; exact H) | (simp only [hji4] at H ⊢; exact H)
    have hji4_ : (if x0_1 < (wrap64 (-x0_1)) then (wrap64 (-x0_1)) else x0_1) = ji4 := hji4
    obtain rfl := Option.some.inj H
    go_wp2
    repeat (go_quiet (fail); try go_wp2)
    go_ret
    exact ⟨by first | rfl | (simp [errW_none, errW_some] <;> rfl) | (simp only [← hji4]; first | rfl | (simp [errW_none, errW_some] <;> rfl)) | (simp [*, errW_none, errW_some] <;> rfl), by repeat (first | (with_reducible first | exact HB.out | apply below_alloc | apply pw_below_drewN | apply below_drew1) | exact HB.out)⟩
end Go.Proofs.Ytmcihijobilcgaa.PAll
end
section
namespace Go.Proofs.Ytmcihijobilcgaa.PAll
open Go.RowKit Go.Proofs.YtmcihijobilcgaaW.PrintWords Go.Proofs.YtmcihijobilcgaaW.PrintLast Go.Proofs.YtmcihijobilcgaaW.PrintMore
attribute [local go_sem] max2_int max_two
mutual
def casing_Factors.l0 : Nat → Int → Int → List ByteArray → Int → Int → Int → List ByteArray → Option (List Int × Int × Int)
  | 0, _, _, _, _, _, _, _ => none
  | k + 1, x5, x6, x22, x23, x24, x139000, x139001 => if x24 < x23 then (if 0 ≤ x24 then (if x24 < (x22.length : Int) then ((casing_exponents.f k (rdOf ByteArray.empty x22 x24)).bind fun bt141 => ((casing_gcd.f k bt141.1 bt141.2).bind fun t144 => ((casing_gcd.f k x5 t144).bind fun t145 => (if x24 ≤ (x139001.length : Int) then (casing_Factors.l1 k t145 x6 x22 x23 x24 (x139001.take (x24 : Int).toNat) ((x139001.take (x24 : Int).toNat).length : Int) 0 x139000 x139001 bt141.1 bt141.2) else (none))))) else (none)) else (none)) else (if x139000 = 2 then (if (mx x5 1) = 0 then (none) else (casing_Factors.j2 k (([x5, wrap64 (Int.tdiv x6 (mx x5 1))] : List Int)))) else (casing_Factors.j2 k (([x5] : List Int))))
def casing_Factors.l1 : Nat → Int → Int → List ByteArray → Int → Int → List ByteArray → Int → Int → Int → List ByteArray → Int → Int → Option (List Int × Int × Int)
  | 0, _, _, _, _, _, _, _, _, _, _, _, _ => none
  | k + 1, x5, x6, x22, x23, x24, x41, x42, x43, x139000, x139001, x144000, x144001 => if x43 < x42 then (if 0 ≤ x43 then (if x43 < (x41.length : Int) then ((casing_exponents.f k (rdOf ByteArray.empty x41 x43)).bind fun bt148 => ((casing_gcd.f k x6 (wrap64 ((wrap64 (x144000 * bt148.2)) - (wrap64 (x144001 * bt148.1))))).bind fun t151 => (casing_Factors.l1 k x5 t151 x22 x23 x24 x41 x42 (wrap64 (x43 + 1)) x139000 x139001 x144000 x144001))) else (none)) else (none)) else (casing_Factors.l0 k x5 x6 x22 x23 (wrap64 (x24 + 1)) x139000 x139001)
def casing_Factors.j2 : Nat → List Int → Option (List Int × Int × Int)
  | 0, _ => none
  | k + 1, x13 => casing_Factors.l2 k ([] : List Int) 0 x13 (x13.length : Int) 0
def casing_Factors.l2 : Nat → List Int → Int → List Int → Int → Int → Option (List Int × Int × Int)
  | 0, _, _, _, _, _ => none
  | k + 1, x14, x15, x75, x76, x77 => if x77 < x76 then (if 0 ≤ x77 then (if x77 < (x75.length : Int) then (if (rd x75 x77) = 0 then (casing_Factors.l2 k x14 (wrap64 (x15 + 1)) x75 x76 (wrap64 (x77 + 1))) else (if (rd x75 x77) > 1 then (if x14.length < 17592186044416 then (casing_Factors.l2 k (x14 ++ [rd x75 x77]) x15 x75 x76 (wrap64 (x77 + 1))) else (none)) else (casing_Factors.l2 k x14 x15 x75 x76 (wrap64 (x77 + 1))))) else (none)) else (none)) else (some (x14, x15, 0))
end
def casing_Factors.f (k : Nat) (a0_0 : Int) (l0_1 : List ByteArray) : Option (List Int × Int × Int) := (casing_isGroup.f a0_0 l0_1).bind fun t139 => (if t139 = true then (casing_Factors.l0 k 0 0 l0_1 (l0_1.length : Int) 0 a0_0 l0_1) else (some (([] : List Int), 0, 2)))
set_option maxHeartbeats 8000000 in
set_option maxRecDepth 100000 in
theorem casing_Factors.calls (k : Nat) (a0_0 : Int) (A0_1 : Option Addr) (c0_1 : Nat) (l0_1 : List ByteArray) (r1 : List Int) (r2 : Int) (r3 : Int) (w : World) (hr0_1 : Kd.C Kd.string w A0_1 l0_1.length l0_1) (hc0_1 : l0_1.length ≤ c0_1) (h : casing_Factors.f k a0_0 l0_1 = some (r1, r2, r3)) :
    Calls Try.prog 20 #[.agg #[.int .i64 a0_0, .slice A0_1 l0_1.length c0_1]] w fun e w' => ∃ v0_ : Value, e = .returned (.tuple #[v0_, .int .i64 r2, .int .i64 r3]) ∧ Kd.R (Kd.int .i64) 3 w' w.heap.size (fun _ => True) v0_ r1 ∧ Below w.heap.size w w' := by
  have hu24 := Try.underlying24
  have hu50 := Try.underlying50
  have HR0_1 := Aside0.mk hr0_1
  have HC0_1 := Aside0.mk hc0_1
  clear hr0_1 hc0_1
  have HB := Aside0.mk (Below.refl w.heap.size w)
  have H : ((casing_isGroup.f a0_0 l0_1).bind fun t139 => (if t139 = true then (casing_Factors.l0 k 0 0 l0_1 (l0_1.length : Int) 0 a0_0 l0_1) else (some (([] : List Int), 0, 2)))) = some (r1, r2, r3) := h
  clear h
  replace H := Option.bind_eq_some_iff.mp H
  obtain ⟨t139, A20, H⟩ := H
  try dsimp only at H
  have A2 := Aside0.mk A20
  clear A20
  by_cases c3 : t139 = true
  rotate_left
  · replace c3 := Bool.eq_false_iff.mpr c3
    subst c3
    have H1 : (some (([] : List Int), 0, 2)) = some (r1, r2, r3) := by rw [if_neg (show ¬ (false = true) by decide)] at H; exact H
    clear H
    have H := H1
    clear H1
    simp only [Option.some.injEq, Prod.mk.injEq] at H
    obtain ⟨rfl, rfl, rfl⟩ := H
    go_enter Try.func20, Try.ntmps20
    go_wp2_with (first | ((with_reducible refine gate_dst (N := 1) rfl ?_); refine box_event ?hg (N := 1) ?hd (cs := #[.int .i64 a0_0, .slice A0_1 l0_1.length c0_1]) (t := 24) ?hr ?_; (case hd => rfl); (case hg => rfl); (case hr => first | (go_simp; done) | (go_simp; rfl)); intro gb138 hg w54 hbox hb; have BK138 := Aside0.mk (hbox); have GW138 := Aside0.mk ((by rw [hg]; exact (below_size (gr HB.out)) : w.heap.size ≤ gb138)); have GE138 := Aside0.mk ((by rw [hg]; exact (below_size (gr HB.out)) : w.heap.size ≤ gb138)); replace HB := Aside0.mk (below_step HB.out (tr hb)); clear hb hbox hg; have hcz55_0 : w54.cell? ⟨gb138, 0, none⟩ = some (.int .i64 a0_0) := (blk_cell BK138.out 0).trans rfl; have hcz55_1 : w54.cell? ⟨gb138, 1, none⟩ = some (.slice A0_1 l0_1.length c0_1) := (blk_cell BK138.out 1).trans rfl; have hfz55_0 := blk_frozen BK138.out 0; have hfz55_1 := blk_frozen BK138.out 1) | ((with_reducible refine gate_callee (f := 48) rfl ?_); refine goesL_ (some 19) rfl rfl Try.func48 (by kernel_rfl) rfl #[.agg #[.int .i64 a0_0, .slice A0_1 l0_1.length c0_1]] rfl (by (try simp only [List.map_toArray, List.map_cons, List.map_nil]); first | done | rfl | (simp only [List.length_drop, List.length_take]; rfl)) ?_; (with_reducible refine (casing_isGroup.calls a0_0 _ _ l0_1 false _ ?side1 ?side2 A2.out).mono ?_); (case side1 => repeat (first | exact (Kd.C_below HR0_1.out HB.out) | (with_reducible refine Kd.C_alloc ?_ _) | (with_reducible refine Kd.C_drewN ?_ _) | (with_reducible refine Kd.C_drew ?_))); (case side2 => exact HC0_1.out); rintro e w56 ⟨rfl, hb⟩; refine ⟨_, rfl, ?_⟩; replace BK138 := Aside0.mk (blk_below BK138.out (tr hb)); replace HB := Aside0.mk (below_step (by repeat (first | (with_reducible first | exact HB.out | apply below_alloc | apply pw_below_drewN | apply below_drew1 | refine below_set ?_ GE138.out) | exact HB.out)) hb); (try clear hb); (try clear hb2); (try clear hk); (try clear hi)))
    go_ret3
    exact ⟨_, by first | rfl | (simp [errW_none, errW_some] <;> rfl) | (simp [*, errW_none, errW_some] <;> rfl), by first | exact Kd.R_nil _ _ _ _ _ | exact Kd.N_nil _ _ _ _ _ | exact Kd.V_nil _ _ _ _ _ | exact Kd.Q_nil _ _ _ _ _ | exact Kd.S_nil _ _ _ _ _, by repeat (first | (with_reducible first | exact HB.out | apply below_alloc | apply pw_below_drewN | apply below_drew1 | refine below_set ?_ GE138.out) | exact HB.out)⟩
  subst c3
  have H1 : (casing_Factors.l0 k 0 0 l0_1 (l0_1.length : Int) 0 a0_0 l0_1) = some (r1, r2, r3) := by rw [if_pos rfl] at H; exact H
  clear H
  have H := H1
  clear H1
  have H' := Aside0.mk H
  clear H
  go_enter Try.func20, Try.ntmps20
  go_wp2_with (first | ((with_reducible refine gate_dst (N := 1) rfl ?_); refine box_event ?hg (N := 1) ?hd (cs := #[.int .i64 a0_0, .slice A0_1 l0_1.length c0_1]) (t := 24) ?hr ?_; (case hd => rfl); (case hg => rfl); (case hr => first | (go_simp; done) | (go_simp; rfl)); intro gb138 hg w4 hbox hb; have BK138 := Aside0.mk (hbox); have GW138 := Aside0.mk ((by rw [hg]; exact (below_size (gr HB.out)) : w.heap.size ≤ gb138)); have GE138 := Aside0.mk ((by rw [hg]; exact (below_size (gr HB.out)) : w.heap.size ≤ gb138)); replace HB := Aside0.mk (below_step HB.out (tr hb)); clear hb hbox hg; have hcz5_0 : w4.cell? ⟨gb138, 0, none⟩ = some (.int .i64 a0_0) := (blk_cell BK138.out 0).trans rfl; have hcz5_1 : w4.cell? ⟨gb138, 1, none⟩ = some (.slice A0_1 l0_1.length c0_1) := (blk_cell BK138.out 1).trans rfl; have hfz5_0 := blk_frozen BK138.out 0; have hfz5_1 := blk_frozen BK138.out 1) | ((with_reducible refine gate_callee (f := 48) rfl ?_); refine goesL_ (some 19) rfl rfl Try.func48 (by kernel_rfl) rfl #[.agg #[.int .i64 a0_0, .slice A0_1 l0_1.length c0_1]] rfl (by (try simp only [List.map_toArray, List.map_cons, List.map_nil]); first | done | rfl | (simp only [List.length_drop, List.length_take]; rfl)) ?_; (with_reducible refine (casing_isGroup.calls a0_0 _ _ l0_1 true _ ?side1 ?side2 A2.out).mono ?_); (case side1 => repeat (first | exact (Kd.C_below HR0_1.out HB.out) | (with_reducible refine Kd.C_alloc ?_ _) | (with_reducible refine Kd.C_drewN ?_ _) | (with_reducible refine Kd.C_drew ?_))); (case side2 => exact HC0_1.out); rintro e w6 ⟨rfl, hb⟩; refine ⟨_, rfl, ?_⟩; replace BK138 := Aside0.mk (blk_below BK138.out (tr hb)); replace HB := Aside0.mk (below_step (by repeat (first | (with_reducible first | exact HB.out | apply below_alloc | apply pw_below_drewN | apply below_drew1 | refine below_set ?_ GE138.out) | exact HB.out)) hb); (try clear hb); (try clear hb2); (try clear hk); (try clear hi); have hcz7_0 : w6.cell? ⟨gb138, 0, none⟩ = some (.int .i64 a0_0) := (blk_cell BK138.out 0).trans rfl; have hcz7_1 : w6.cell? ⟨gb138, 1, none⟩ = some (.slice A0_1 l0_1.length c0_1) := (blk_cell BK138.out 1).trans rfl; have hfz7_0 := blk_frozen BK138.out 0; have hfz7_1 := blk_frozen BK138.out 1))
  go_loopg [5, 6, 24] k (fun kq v5 v6 v24 w' => ∃ (x5_1 : Int) (x6_1 : Int) (x24_1 : Int), v5 = .int .i64 x5_1 ∧ v6 = .int .i64 x6_1 ∧ v24 = .int .i64 x24_1 ∧ Aside0 (casing_Factors.l0 kq x5_1 x6_1 l0_1 (l0_1.length : Int) x24_1 a0_0 l0_1 = some (r1, r2, r3)) ∧ Aside0 (kq ≤ k) ∧ Aside0 (w'.heap[gb138]? = some (.cells #[.int .i64 a0_0, (.slice A0_1 l0_1.length c0_1)] 24 (0, 0))) ∧ Aside0 (Below w.heap.size w w'))
  case atStart => exact ⟨(0), (0), (0), (by first | rfl | (simp; done) | (simp [*]; done)), (by first | rfl | (simp; done) | (simp [*]; done)), (by first | rfl | (simp; done) | (simp [*]; done)), H', ⟨Nat.le_refl _⟩, ⟨by (with_reducible repeat (first | refine blk_drewN ?_ _ | refine blk_drew ?_ | refine blk_alloc ?_ _)); exact BK138.out⟩, ⟨by repeat (first | (with_reducible first | exact HB.out | apply below_alloc | apply pw_below_drewN | apply below_drew1 | refine below_set ?_ GE138.out) | exact HB.out)⟩⟩
  clear H'
  try clear c2
  try clear p2
  try clear c3
  try clear c4
  try clear hcz5_0
  try clear hcz5_1
  try clear hcz7_0
  try clear hcz7_1
  try clear hfz5_0
  try clear hfz5_1
  try clear hfz7_0
  try clear hfz7_1
  obtain ⟨x5_1, x6_1, x24_1, rfl, rfl, rfl, HA, HK1, BK138, HB⟩ := hrel
  cases gk with
  | zero => exact absurd HA.out (by simp [casing_Factors.l0])
  | succ k1 =>
    have H := HA.out
    clear HA
    simp only [casing_Factors.l0] at H
    by_cases c8 : x24_1 < (l0_1.length : Int)
    · rw [if_pos c8] at H
      have c8b0 : decide (x24_1 < (l0_1.length : Int)) = true := decide_eq_true c8
      clear c8
      by_cases c9 : 0 ≤ x24_1
      rotate_left
      · rw [if_neg c9] at H
        exact absurd H (by simp)
      rw [if_pos c9] at H
      have c9b0 : decide (0 ≤ x24_1) = true := decide_eq_true c9
      clear c9
      by_cases c10 : x24_1 < (l0_1.length : Int)
      rotate_left
      · rw [if_neg c10] at H
        exact absurd H (by simp)
      rw [if_pos c10] at H
      have c10b0 : decide (x24_1 < (l0_1.length : Int)) = true := decide_eq_true c10
      clear c10
      replace H := Option.bind_eq_some_iff.mp H
      obtain ⟨⟨t141, t142⟩, A110, H⟩ := H
      try dsimp only at H
      have A11 := Aside0.mk A110
      clear A110
      replace H := Option.bind_eq_some_iff.mp H
      obtain ⟨t144, A120, H⟩ := H
      try dsimp only at H
      have A12 := Aside0.mk A120
      clear A120
      replace H := Option.bind_eq_some_iff.mp H
      obtain ⟨t145, A130, H⟩ := H
      try dsimp only at H
      have A13 := Aside0.mk A130
      clear A130
      have c14b0 := eq_true (of_decide_eq_true (by first | (with_reducible assumption) | assumption) : 0 ≤ x24_1)
      by_cases c15 : x24_1 ≤ (l0_1.length : Int)
      rotate_left
      · rw [if_neg c15] at H
        exact absurd H (by simp)
      rw [if_pos c15] at H
      have c15b0 := eq_true c15
      have c15b1 : decide (x24_1 ≤ (l0_1.length : Int)) = true := decide_eq_true c15
      have KFc15 := Aside0.mk c15
      clear c15
      have H' := Aside0.mk H
      clear H
      have p140 : 0 ≤ (x24_1 : Int) := of_decide_eq_true (by first | (with_reducible assumption) | assumption)
      have q140 : x24_1 < (l0_1.length : Int) := of_decide_eq_true (by first | (with_reducible assumption) | assumption)
      obtain ⟨ad140, e140, hx140_0⟩ := Kd.at_string HR0_1.out x24_1 p140 q140
      cases e140
      replace hx140_0 := (HB.out.cell (World.block_lt_of_cell? w _ hx140_0)).trans hx140_0
      replace p140 := eq_true p140
      replace q140 := eq_true q140
      go_wp2_with (first | ((with_reducible refine gate_callee (f := 54) rfl ?_); refine goesL_ (some 30) rfl rfl Try.func54 (by kernel_rfl) rfl #[.string (rdOf ByteArray.empty l0_1 x24_1)] rfl (by (try simp only [List.map_toArray, List.map_cons, List.map_nil]); first | done | rfl | (simp only [List.length_drop, List.length_take]; rfl)) ?_; (with_reducible refine (casing_exponents.calls k1 (rdOf ByteArray.empty l0_1 x24_1) t141 t142 _ A11.out).mono ?_); rintro e w16 ⟨rfl, hb⟩; refine ⟨_, rfl, ?_⟩; replace BK138 := Aside0.mk (blk_below BK138.out (tr hb)); replace HB := Aside0.mk (below_step (by repeat (first | (with_reducible first | exact HB.out | apply below_alloc | apply pw_below_drewN | apply below_drew1 | refine below_set ?_ GE138.out) | exact HB.out)) hb); (try clear hb); (try clear hb2); (try clear hk); (try clear hi)) | ((with_reducible refine gate_dst (N := 9) rfl ?_); refine box_event ?hg (N := 9) ?hd (cs := #[.int .i64 0, .int .i64 0]) (t := 50) ?hr ?_; (case hd => rfl); (case hg => rfl); (case hr => first | (go_simp; done) | (go_simp; rfl)); intro gb143 hg w17 hbox hb; have BK143 := Aside0.mk (hbox); have GW143 := Aside0.mk ((by rw [hg]; exact (below_size (by repeat (first | (with_reducible first | exact HB.out | apply below_alloc | apply pw_below_drewN | apply below_drew1 | refine below_set ?_ GE138.out) | exact HB.out))) : w.heap.size ≤ gb143)); have GE143 := Aside0.mk ((by rw [hg]; exact (below_size (by repeat (first | (with_reducible first | exact HB.out | apply below_alloc | apply pw_below_drewN | apply below_drew1 | refine below_set ?_ GE138.out) | exact HB.out))) : w.heap.size ≤ gb143)); have NB138_143 := Aside0.mk ((by rw [hg]; exact Nat.ne_of_lt (blk_lt (g := gb138) (o := .cells #[.int .i64 a0_0, .slice (some ad140) l0_1.length c0_1] 24 (0, 0)) (by (with_reducible repeat (first | refine blk_drewN ?_ _ | refine blk_drew ?_ | refine blk_alloc ?_ _)); exact BK138.out)) : gb138 ≠ gb143)); have NB143_138 := Aside0.mk ((by rw [hg]; exact Nat.ne_of_gt (blk_lt (g := gb138) (o := .cells #[.int .i64 a0_0, .slice (some ad140) l0_1.length c0_1] 24 (0, 0)) (by (with_reducible repeat (first | refine blk_drewN ?_ _ | refine blk_drew ?_ | refine blk_alloc ?_ _)); exact BK138.out)) : gb143 ≠ gb138)); replace BK138 := Aside0.mk (blk_below BK138.out (tr hb)); replace HB := Aside0.mk (below_step (by repeat (first | (with_reducible first | exact HB.out | apply below_alloc | apply pw_below_drewN | apply below_drew1 | refine below_set ?_ GE138.out) | exact HB.out)) hb); clear hb hbox hg; have hnb18 := NB143_138.out; have hnc18 := NB138_143.out; have hcz19_0 : w17.cell? ⟨gb143, 0, none⟩ = some (.int .i64 0) := (blk_cell BK143.out 0).trans rfl; have hcz19_1 : w17.cell? ⟨gb143, 1, none⟩ = some (.int .i64 0) := (blk_cell BK143.out 1).trans rfl; have hfz19_0 := blk_frozen BK143.out 0; have hfz19_1 := blk_frozen BK143.out 1) | ((with_reducible refine gate_callee (f := 55) rfl ?_); refine goesL_ (some 36) rfl rfl Try.func55 (by kernel_rfl) rfl #[.int .i64 t141, .int .i64 t142] rfl (by (try simp only [List.map_toArray, List.map_cons, List.map_nil]); first | done | rfl | (simp only [List.length_drop, List.length_take]; rfl)) ?_; (with_reducible refine (casing_gcd.calls k1 t141 t142 t144 _ A12.out).mono ?_); rintro e w20 ⟨rfl, hb⟩; refine ⟨_, rfl, ?_⟩; replace BK138 := Aside0.mk (blk_below (g := gb138) (o := .cells #[.int .i64 a0_0, .slice (some ad140) l0_1.length c0_1] 24 (0, 0)) (by (with_reducible repeat (first | refine blk_drewN ?_ _ | refine blk_drew ?_ | refine blk_alloc ?_ _)); refine blk_far ?_ NB138_143.out _; (with_reducible repeat (first | refine blk_drewN ?_ _ | refine blk_drew ?_ | refine blk_alloc ?_ _)); refine blk_far ?_ NB138_143.out _; (with_reducible repeat (first | refine blk_drewN ?_ _ | refine blk_drew ?_ | refine blk_alloc ?_ _)); exact BK138.out) hb); replace BK143 := Aside0.mk (blk_below (g := gb143) (o := .cells #[.int .i64 t141, .int .i64 t142] 50 (0, 0)) (by (with_reducible repeat (first | refine blk_drewN ?_ _ | refine blk_drew ?_ | refine blk_alloc ?_ _)); refine blk_put (cs := #[.int .i64 t141, .int .i64 0]) ?_ 1 _ rfl; (with_reducible repeat (first | refine blk_drewN ?_ _ | refine blk_drew ?_ | refine blk_alloc ?_ _)); refine blk_put (cs := #[.int .i64 0, .int .i64 0]) ?_ 0 _ rfl; (with_reducible repeat (first | refine blk_drewN ?_ _ | refine blk_drew ?_ | refine blk_alloc ?_ _)); exact BK143.out) hb); replace HB := Aside0.mk (below_step (by repeat (first | (with_reducible first | exact HB.out | apply below_alloc | apply pw_below_drewN | apply below_drew1 | refine below_set ?_ GE138.out | refine below_set ?_ GE143.out) | exact HB.out)) hb); (try clear hb); (try clear hb2); (try clear hk); (try clear hi)) | ((with_reducible refine gate_callee (f := 55) rfl ?_); refine goesL_ (some 37) rfl rfl Try.func55 (by kernel_rfl) rfl #[.int .i64 x5_1, .int .i64 t144] rfl (by (try simp only [List.map_toArray, List.map_cons, List.map_nil]); first | done | rfl | (simp only [List.length_drop, List.length_take]; rfl)) ?_; (with_reducible refine (casing_gcd.calls k1 x5_1 t144 t145 _ A13.out).mono ?_); rintro e w21 ⟨rfl, hb⟩; refine ⟨_, rfl, ?_⟩; replace BK138 := Aside0.mk (blk_below BK138.out (tr hb)); replace BK143 := Aside0.mk (blk_below BK143.out (tr hb)); replace HB := Aside0.mk (below_step (by repeat (first | (with_reducible first | exact HB.out | apply below_alloc | apply pw_below_drewN | apply below_drew1 | refine below_set ?_ GE138.out | refine below_set ?_ GE143.out) | exact HB.out)) hb); (try clear hb); (try clear hb2); (try clear hk); (try clear hi); have hcz22_0 : w21.cell? ⟨gb138, 0, none⟩ = some (.int .i64 a0_0) := (blk_cell BK138.out 0).trans rfl; have hcz22_1 : w21.cell? ⟨gb138, 1, none⟩ = some (.slice (some ad140) l0_1.length c0_1) := (blk_cell BK138.out 1).trans rfl; have hfz22_0 := blk_frozen BK138.out 0; have hfz22_1 := blk_frozen BK138.out 1; obtain ⟨i023, hi023, _, hsz23, _⟩ := info_parts info9; obtain ⟨hcut23, hA23, hC23⟩ := print_take_of (P := Try.prog) Value.string (⟨#[]⟩ : ByteArray) 22 9 .i64 Try.underlying22 hi023 hsz23 (some ad140) c0_1 l0_1 x24_1 (of_decide_eq_true (by first | (with_reducible assumption) | assumption)) (of_decide_eq_true (by first | (with_reducible assumption) | assumption)) HC0_1.out; have HR146 := Aside0.mk (Kd.C_of_reads (h1 := fun _ => rfl) (hA23 _ (Kd.reads_of_C HR0_1.out))); have HC146 := Aside0.mk hC23; clear hA23 hC23 hi023 hsz23))
      go_loopg [6, 43] k1 (fun kq v6 v43 w' => ∃ (x6_2 : Int) (x43_2 : Int), v6 = .int .i64 x6_2 ∧ v43 = .int .i64 x43_2 ∧ Aside0 (casing_Factors.l1 kq t145 x6_2 l0_1 (l0_1.length : Int) x24_1 (l0_1.take (x24_1 : Int).toNat) ((l0_1.take (x24_1 : Int).toNat).length : Int) x43_2 a0_0 l0_1 t141 t142 = some (r1, r2, r3)) ∧ Aside0 (kq ≤ k1) ∧ Aside0 (w'.heap[gb138]? = some (.cells #[.int .i64 a0_0, (.slice (some ad140) l0_1.length c0_1)] 24 (0, 0))) ∧ Aside0 (w'.heap[gb143]? = some (.cells #[.int .i64 t141, .int .i64 t142] 50 (0, 0))) ∧ Aside0 (Below w.heap.size w w'))
      case atStart => exact ⟨(x6_1), (0), (by first | rfl | (simp; done) | (simp [*]; done)), (by first | rfl | (simp; done) | (simp [*]; done)), H', ⟨Nat.le_refl _⟩, ⟨by (with_reducible repeat (first | refine blk_drewN ?_ _ | refine blk_drew ?_ | refine blk_alloc ?_ _)); exact BK138.out⟩, ⟨by (with_reducible repeat (first | refine blk_drewN ?_ _ | refine blk_drew ?_ | refine blk_alloc ?_ _)); exact BK143.out⟩, ⟨by repeat (first | (with_reducible first | exact HB.out | apply below_alloc | apply pw_below_drewN | apply below_drew1 | refine below_set ?_ GE138.out | refine below_set ?_ GE143.out) | exact HB.out)⟩⟩
      clear H'
      try clear c1
      try clear p1
      try clear q1
      try clear hx1
      try clear c2
      try clear p2
      try clear c3
      try clear c4
      try clear c5
      try clear c8
      try clear c8b0
      try clear c9
      try clear c9b0
      try clear c10
      try clear c10b0
      try clear c14
      try clear c14b0
      try clear p14
      try clear q14
      try clear hx14
      try clear c15
      try clear c15b0
      try clear c15b1
      try clear c18
      try clear c20
      try clear hcz19_0
      try clear hcz19_1
      try clear hcz22_0
      try clear hcz22_1
      try clear hcz5_0
      try clear hcz5_1
      try clear hcz7_0
      try clear hcz7_1
      try clear hfz19_0
      try clear hfz19_1
      try clear hfz22_0
      try clear hfz22_1
      try clear hfz5_0
      try clear hfz5_1
      try clear hfz7_0
      try clear hfz7_1
      try clear hx140_0
      try clear p140
      try clear p2
      try clear q140
      obtain ⟨x6_2, x43_2, rfl, rfl, HA, HK2, BK138, BK143, HB⟩ := hrel
      cases gk with
      | zero => exact absurd HA.out (by simp [casing_Factors.l1])
      | succ k2 =>
        have H := HA.out
        clear HA
        simp only [casing_Factors.l1] at H
        by_cases c24 : x43_2 < ((l0_1.take (x24_1 : Int).toNat).length : Int)
        rotate_left
        · rw [if_neg c24] at H
          have c24b0 : decide (x43_2 < ((l0_1.take (x24_1 : Int).toNat).length : Int)) = false := decide_eq_false c24
          (try (have c24bm : decide (x43_2 < max x24_1 0) = false := by have q_ : ((l0_1.take (x24_1 : Int).toNat).length : Int) = max x24_1 0 := (by rw [List.length_take]; first | omega | (have h_0 := KFc15.out; omega) | (have h_ : (x24_1 : Int) ≤ (l0_1.length : Int) := of_decide_eq_true (by first | (with_reducible assumption) | assumption); omega)); rw [← q_]; exact decide_eq_false c24))
          (try (have c24bn : (x43_2 < max x24_1 0) = False := eq_false (of_decide_eq_false c24bm)))
          clear c24
          have H' := Aside0.mk H
          clear H
          go_wp2
          go_roundg k2
          case measure => have := HK1.out; have := HK2.out; omega
          case rel => exact ⟨(t145), (x6_2), (wrap64 (x24_1 + 1)), (by first | rfl | (simp; done) | (simp [*]; done)), (by first | rfl | (simp; done) | (simp [*]; done)), (by first | rfl | (simp; done) | (simp [*]; done)), H', ⟨by have := HK1.out; have := HK2.out; omega⟩, ⟨by (with_reducible repeat (first | refine blk_drewN ?_ _ | refine blk_drew ?_ | refine blk_alloc ?_ _)); exact BK138.out⟩, ⟨by repeat (first | (with_reducible first | exact HB.out | apply below_alloc | apply pw_below_drewN | apply below_drew1 | refine below_set ?_ GE138.out | refine below_set ?_ GE143.out) | exact HB.out)⟩⟩
        rw [if_pos c24] at H
        have c24b0 : decide (x43_2 < ((l0_1.take (x24_1 : Int).toNat).length : Int)) = true := decide_eq_true c24
        (try (have c24bm : decide (x43_2 < max x24_1 0) = true := by have q_ : ((l0_1.take (x24_1 : Int).toNat).length : Int) = max x24_1 0 := (by rw [List.length_take]; first | omega | (have h_0 := KFc15.out; omega) | (have h_ : (x24_1 : Int) ≤ (l0_1.length : Int) := of_decide_eq_true (by first | (with_reducible assumption) | assumption); omega)); rw [← q_]; exact decide_eq_true c24))
        (try (have c24bn : (x43_2 < max x24_1 0) = True := eq_true (of_decide_eq_true c24bm)))
        clear c24
        by_cases c25 : 0 ≤ x43_2
        rotate_left
        · rw [if_neg c25] at H
          exact absurd H (by simp)
        rw [if_pos c25] at H
        have c25b0 : decide (0 ≤ x43_2) = true := decide_eq_true c25
        clear c25
        by_cases c26 : x43_2 < ((l0_1.take (x24_1 : Int).toNat).length : Int)
        rotate_left
        · rw [if_neg c26] at H
          exact absurd H (by simp)
        rw [if_pos c26] at H
        have c26b0 : decide (x43_2 < ((l0_1.take (x24_1 : Int).toNat).length : Int)) = true := decide_eq_true c26
        (try (have c26bm : decide (x43_2 < max x24_1 0) = true := by have q_ : ((l0_1.take (x24_1 : Int).toNat).length : Int) = max x24_1 0 := (by rw [List.length_take]; first | omega | (have h_0 := KFc15.out; omega) | (have h_ : (x24_1 : Int) ≤ (l0_1.length : Int) := of_decide_eq_true (by first | (with_reducible assumption) | assumption); omega)); rw [← q_]; exact decide_eq_true c26))
        (try (have c26bn : (x43_2 < max x24_1 0) = True := eq_true (of_decide_eq_true c26bm)))
        clear c26
        replace H := Option.bind_eq_some_iff.mp H
        obtain ⟨⟨t148, t149⟩, A270, H⟩ := H
        try dsimp only at H
        have A27 := Aside0.mk A270
        clear A270
        replace H := Option.bind_eq_some_iff.mp H
        obtain ⟨t151, A280, H⟩ := H
        try dsimp only at H
        have A28 := Aside0.mk A280
        clear A280
        have H' := Aside0.mk H
        clear H
        have p147 : 0 ≤ (x43_2 : Int) := of_decide_eq_true (by first | (with_reducible assumption) | assumption)
        have q147 : x43_2 < ((l0_1.take (x24_1 : Int).toNat).length : Int) := of_decide_eq_true (by first | (with_reducible assumption) | assumption)
        obtain ⟨ad147, e147, hx147_0⟩ := Kd.at_string HR146.out x43_2 p147 q147
        obtain rfl : ad140 = ad147 := (by injection e147)
        replace hx147_0 := (HB.out.cell (World.block_lt_of_cell? w _ hx147_0)).trans hx147_0
        replace p147 := eq_true p147
        replace q147 := eq_true q147
        go_wp2_with (first | ((with_reducible refine gate_callee (f := 54) rfl ?_); refine goesL_ (some 48) rfl rfl Try.func54 (by kernel_rfl) rfl #[.string (rdOf ByteArray.empty (l0_1.take (x24_1 : Int).toNat) x43_2)] rfl (by (try simp only [List.map_toArray, List.map_cons, List.map_nil]); first | done | rfl | (simp only [List.length_drop, List.length_take]; rfl)) ?_; (with_reducible refine (casing_exponents.calls k2 (rdOf ByteArray.empty (l0_1.take (x24_1 : Int).toNat) x43_2) t148 t149 _ A27.out).mono ?_); rintro e w29 ⟨rfl, hb⟩; refine ⟨_, rfl, ?_⟩; replace BK138 := Aside0.mk (blk_below BK138.out (tr hb)); replace BK143 := Aside0.mk (blk_below BK143.out (tr hb)); replace HB := Aside0.mk (below_step (by repeat (first | (with_reducible first | exact HB.out | apply below_alloc | apply pw_below_drewN | apply below_drew1 | refine below_set ?_ GE138.out | refine below_set ?_ GE143.out) | exact HB.out)) hb); (try clear hb); (try clear hb2); (try clear hk); (try clear hi)) | ((with_reducible refine gate_dst (N := 12) rfl ?_); refine box_event ?hg (N := 12) ?hd (cs := #[.int .i64 0, .int .i64 0]) (t := 50) ?hr ?_; (case hd => rfl); (case hg => rfl); (case hr => first | (go_simp; done) | (go_simp; rfl)); intro gb150 hg w30 hbox hb; have BK150 := Aside0.mk (hbox); have GW150 := Aside0.mk ((by rw [hg]; exact (below_size (by repeat (first | (with_reducible first | exact HB.out | apply below_alloc | apply pw_below_drewN | apply below_drew1 | refine below_set ?_ GE138.out | refine below_set ?_ GE143.out) | exact HB.out))) : w.heap.size ≤ gb150)); have GE150 := Aside0.mk ((by rw [hg]; exact (below_size (by repeat (first | (with_reducible first | exact HB.out | apply below_alloc | apply pw_below_drewN | apply below_drew1 | refine below_set ?_ GE138.out | refine below_set ?_ GE143.out) | exact HB.out))) : w.heap.size ≤ gb150)); have NB138_150 := Aside0.mk ((by rw [hg]; exact Nat.ne_of_lt (blk_lt (g := gb138) (o := .cells #[.int .i64 a0_0, .slice (some ad140) l0_1.length c0_1] 24 (0, 0)) (by (with_reducible repeat (first | refine blk_drewN ?_ _ | refine blk_drew ?_ | refine blk_alloc ?_ _)); exact BK138.out)) : gb138 ≠ gb150)); have NB150_138 := Aside0.mk ((by rw [hg]; exact Nat.ne_of_gt (blk_lt (g := gb138) (o := .cells #[.int .i64 a0_0, .slice (some ad140) l0_1.length c0_1] 24 (0, 0)) (by (with_reducible repeat (first | refine blk_drewN ?_ _ | refine blk_drew ?_ | refine blk_alloc ?_ _)); exact BK138.out)) : gb150 ≠ gb138)); have NB143_150 := Aside0.mk ((by rw [hg]; exact Nat.ne_of_lt (blk_lt (g := gb143) (o := .cells #[.int .i64 t141, .int .i64 t142] 50 (0, 0)) (by (with_reducible repeat (first | refine blk_drewN ?_ _ | refine blk_drew ?_ | refine blk_alloc ?_ _)); exact BK143.out)) : gb143 ≠ gb150)); have NB150_143 := Aside0.mk ((by rw [hg]; exact Nat.ne_of_gt (blk_lt (g := gb143) (o := .cells #[.int .i64 t141, .int .i64 t142] 50 (0, 0)) (by (with_reducible repeat (first | refine blk_drewN ?_ _ | refine blk_drew ?_ | refine blk_alloc ?_ _)); exact BK143.out)) : gb150 ≠ gb143)); replace BK138 := Aside0.mk (blk_below BK138.out (tr hb)); replace BK143 := Aside0.mk (blk_below BK143.out (tr hb)); replace HB := Aside0.mk (below_step (by repeat (first | (with_reducible first | exact HB.out | apply below_alloc | apply pw_below_drewN | apply below_drew1 | refine below_set ?_ GE138.out | refine below_set ?_ GE143.out) | exact HB.out)) hb); clear hb hbox hg; have hnb31 := NB150_138.out; have hnc31 := NB138_150.out; have hnb32 := NB150_143.out; have hnc32 := NB143_150.out; have hcz33_0 : w30.cell? ⟨gb150, 0, none⟩ = some (.int .i64 0) := (blk_cell BK150.out 0).trans rfl; have hcz33_1 : w30.cell? ⟨gb150, 1, none⟩ = some (.int .i64 0) := (blk_cell BK150.out 1).trans rfl; have hfz33_0 := blk_frozen BK150.out 0; have hfz33_1 := blk_frozen BK150.out 1; have hnb34 := NB143_138.out; have hnc34 := NB138_143.out; have hcz35_0 : w30.cell? ⟨gb143, 0, none⟩ = some (.int .i64 t141) := (blk_cell BK143.out 0).trans rfl; have hcz35_1 : w30.cell? ⟨gb143, 1, none⟩ = some (.int .i64 t142) := (blk_cell BK143.out 1).trans rfl; have hfz35_0 := blk_frozen BK143.out 0; have hfz35_1 := blk_frozen BK143.out 1) | ((with_reducible refine gate_callee (f := 55) rfl ?_); refine goesL_ (some 61) rfl rfl Try.func55 (by kernel_rfl) rfl #[.int .i64 x6_2, .int .i64 (wrap64 ((wrap64 (t141 * t149)) - (wrap64 (t142 * t148))))] rfl (by (try simp only [List.map_toArray, List.map_cons, List.map_nil]); first | done | rfl | (simp only [List.length_drop, List.length_take]; rfl)) ?_; (with_reducible refine (casing_gcd.calls k2 x6_2 (wrap64 ((wrap64 (t141 * t149)) - (wrap64 (t142 * t148)))) t151 _ A28.out).mono ?_); rintro e w36 ⟨rfl, hb⟩; refine ⟨_, rfl, ?_⟩; replace BK138 := Aside0.mk (blk_below (g := gb138) (o := .cells #[.int .i64 a0_0, .slice (some ad140) l0_1.length c0_1] 24 (0, 0)) (by (with_reducible repeat (first | refine blk_drewN ?_ _ | refine blk_drew ?_ | refine blk_alloc ?_ _)); refine blk_far ?_ NB138_150.out _; (with_reducible repeat (first | refine blk_drewN ?_ _ | refine blk_drew ?_ | refine blk_alloc ?_ _)); refine blk_far ?_ NB138_150.out _; (with_reducible repeat (first | refine blk_drewN ?_ _ | refine blk_drew ?_ | refine blk_alloc ?_ _)); exact BK138.out) hb); replace BK143 := Aside0.mk (blk_below (g := gb143) (o := .cells #[.int .i64 t141, .int .i64 t142] 50 (0, 0)) (by (with_reducible repeat (first | refine blk_drewN ?_ _ | refine blk_drew ?_ | refine blk_alloc ?_ _)); refine blk_far ?_ NB143_150.out _; (with_reducible repeat (first | refine blk_drewN ?_ _ | refine blk_drew ?_ | refine blk_alloc ?_ _)); refine blk_far ?_ NB143_150.out _; (with_reducible repeat (first | refine blk_drewN ?_ _ | refine blk_drew ?_ | refine blk_alloc ?_ _)); exact BK143.out) hb); replace BK150 := Aside0.mk (blk_below (g := gb150) (o := .cells #[.int .i64 t148, .int .i64 t149] 50 (0, 0)) (by (with_reducible repeat (first | refine blk_drewN ?_ _ | refine blk_drew ?_ | refine blk_alloc ?_ _)); refine blk_put (cs := #[.int .i64 t148, .int .i64 0]) ?_ 1 _ rfl; (with_reducible repeat (first | refine blk_drewN ?_ _ | refine blk_drew ?_ | refine blk_alloc ?_ _)); refine blk_put (cs := #[.int .i64 0, .int .i64 0]) ?_ 0 _ rfl; (with_reducible repeat (first | refine blk_drewN ?_ _ | refine blk_drew ?_ | refine blk_alloc ?_ _)); exact BK150.out) hb); replace HB := Aside0.mk (below_step (by repeat (first | (with_reducible first | exact HB.out | apply below_alloc | apply pw_below_drewN | apply below_drew1 | refine below_set ?_ GE138.out | refine below_set ?_ GE143.out | refine below_set ?_ GE150.out) | exact HB.out)) hb); (try clear hb); (try clear hb2); (try clear hk); (try clear hi)))
        go_roundg k2
        case measure => have := HK1.out; have := HK2.out; omega
        case rel => exact ⟨(t151), (wrap64 (x43_2 + 1)), (by first | rfl | (simp; done) | (simp [*]; done)), (by first | rfl | (simp; done) | (simp [*]; done)), H', ⟨by have := HK1.out; have := HK2.out; omega⟩, ⟨by (with_reducible repeat (first | refine blk_drewN ?_ _ | refine blk_drew ?_ | refine blk_alloc ?_ _)); exact BK138.out⟩, ⟨by (with_reducible repeat (first | refine blk_drewN ?_ _ | refine blk_drew ?_ | refine blk_alloc ?_ _)); exact BK143.out⟩, ⟨by repeat (first | (with_reducible first | exact HB.out | apply below_alloc | apply pw_below_drewN | apply below_drew1 | refine below_set ?_ GE138.out | refine below_set ?_ GE143.out | refine below_set ?_ GE150.out) | exact HB.out)⟩⟩
    rw [if_neg c8] at H
    have c8b0 : decide (x24_1 < (l0_1.length : Int)) = false := decide_eq_false c8
    clear c8
    obtain ⟨y152, hy152⟩ : ∃ y_ : List Int, y_ = (([x5_1] : List Int)) := ⟨_, rfl⟩
    replace H : (if a0_0 = 2 then (if (mx x5_1 1) = 0 then (none) else (casing_Factors.j2 k1 (([x5_1, wrap64 (Int.tdiv x6_1 (mx x5_1 1))] : List Int)))) else (casing_Factors.j2 k1 y152)) = some (r1, r2, r3) := by first | (rw [hy152]; with_reducible exact H) | (have H2_ := (Option.bind_some _ _).symm.trans H; rw [hy152]; with_reducible exact H2_) | (have H2_ := (Option.bind_some _ _).symm.trans H; with_reducible exact H2_) | with_reducible exact H | (rw [hy152]; exact H) | exact H
    have Ny152 := Aside0.mk hy152
    clear hy152
    have HC37 := Aside0.mk H
    clear H
    go_upto_if 68 with (first | ((with_reducible refine gate_dst (N := 65) rfl ?_); refine Kd.R_lit (Kd.int .i64) _ 3 ?hg (N := 65) ?hd (xs := ([x5_1] : List Int)) (inner := [.int .i64 x5_1]) (ok := fun _ => True) (okp := fun _ => True) ?hr ?hp (fun _ hk => hk) trivial (Below.refl _ _) (Nat.le_refl _) (by simp) ?_; (case hd => rfl); (case hg => rfl); (case hr => first | (go_simp; done) | (go_simp; rfl)); (case hp => exact (Reps.one (show Kd.M (Kd.int .i64) _ _ _ x5_1 [.int .i64 x5_1] from rfl) (Reps.none _ _))); intro v153 w38 ho39 hb hg_ hnew_; clear hg_ hnew_; (first | rw [← Ny152.out] at ho39 | (simp only [Int.reduceToNat] at ho39; rw [← Ny152.out] at ho39)); have HO154 := Aside0.mk (Kd.R_lower ho39 (below_size (by repeat (first | (with_reducible first | exact HB.out | apply below_alloc | apply pw_below_drewN | apply below_drew1 | refine below_set ?_ GE138.out) | exact HB.out)))); replace BK138 := Aside0.mk (blk_below BK138.out (tr hb)); replace HB := Aside0.mk (below_step (by repeat (first | (with_reducible first | exact HB.out | apply below_alloc | apply pw_below_drewN | apply below_drew1 | refine below_set ?_ GE138.out) | exact HB.out)) hb); clear hb ho39; have hcz40_0 : w38.cell? ⟨gb138, 0, none⟩ = some (.int .i64 a0_0) := (blk_cell BK138.out 0).trans rfl; have hcz40_1 : w38.cell? ⟨gb138, 1, none⟩ = some (.slice A0_1 l0_1.length c0_1) := (blk_cell BK138.out 1).trans rfl; have hfz40_0 := blk_frozen BK138.out 0; have hfz40_1 := blk_frozen BK138.out 1))
    (try simp only [Act.put, List.setIfInBounds_toArray, List.set_cons_zero, List.set_cons_succ])
    go_cut [13] (fun v13 wc => ∃ (kq : Nat) (x13_36 : List Int), Aside0 (casing_Factors.j2 kq x13_36 = some (r1, r2, r3)) ∧ Aside0 (kq ≤ k1) ∧ Aside0 (Kd.R (Kd.int .i64) 3 wc w.heap.size (fun _ => True) v13 x13_36) ∧ Aside0 (wc.heap[gb138]? = some (.cells #[.int .i64 a0_0, (.slice A0_1 l0_1.length c0_1)] 24 (0, 0))) ∧ Aside0 (Below w.heap.size w wc))
    case first =>
      have H := HC37.out
      clear HC37
      by_cases c41 : a0_0 = 2
      rotate_left
      · rw [if_neg c41] at H
        have c41b0 : (a0_0 == 2) = false := beq_eq_false_iff_ne.mpr c41
        have c41b1 : (a0_0 != 2) = true := bne_iff_ne.mpr c41
        (first | rw [c41b0] | (simp only [i64_w, i32_w]; rw [c41b0]) | skip)
        have H' := Aside0.mk H
        clear H
        go_wp2
        go_meet
        case rel => exact ⟨_, (y152), H', ⟨by have := HK1.out; first | omega | exact Nat.le_refl _⟩, ⟨by (with_reducible repeat (first | apply Kd.R_alloc | apply Kd.R_drewN | apply Kd.R_drew)); exact HO154.out⟩, ⟨by (with_reducible repeat (first | refine blk_drewN ?_ _ | refine blk_drew ?_ | refine blk_alloc ?_ _)); exact BK138.out⟩, ⟨by repeat (first | (with_reducible first | exact HB.out | apply below_alloc | apply pw_below_drewN | apply below_drew1 | refine below_set ?_ GE138.out) | exact HB.out)⟩⟩
      rw [if_pos c41] at H
      have c41b0 : (a0_0 == 2) = true := beq_iff_eq.mpr c41
      have c41b1 : (a0_0 != 2) = false := bne_eq_false_iff_eq.mpr c41
      clear c41
      (first | rw [c41b0] | (simp only [i64_w, i32_w]; rw [c41b0]) | skip)
      obtain ⟨ji42, hji42⟩ : ∃ j_ : Int, (mx x5_1 1) = j_ := ⟨_, rfl⟩
      replace H : (if (ji42) = 0 then (none) else (casing_Factors.j2 k1 (([x5_1, wrap64 (Int.tdiv x6_1 (ji42))] : List Int)))) = some (r1, r2, r3) := by first | (rw [hji42] at H; exact H) | (simp only [hji42] at H ⊢; exact H)
      have hji42_ : (if x5_1 < 1 then 1 else x5_1) = ji42 := hji42
      by_cases c43 : (ji42) = 0
      · rw [if_pos c43] at H
        exact absurd H (by simp)
      rw [if_neg c43] at H
      have c43b0 : ((ji42) == 0) = false := beq_eq_false_iff_ne.mpr c43
      have c43b1 : ((ji42) != 0) = true := bne_iff_ne.mpr c43
      obtain ⟨y155, hy155⟩ : ∃ y_ : List Int, y_ = (([x5_1, wrap64 (Int.tdiv x6_1 (ji42))] : List Int)) := ⟨_, rfl⟩
      replace H : (casing_Factors.j2 k1 y155) = some (r1, r2, r3) := by first | (rw [hy155]; with_reducible exact H) | (have H2_ := (Option.bind_some _ _).symm.trans H; rw [hy155]; with_reducible exact H2_) | (have H2_ := (Option.bind_some _ _).symm.trans H; with_reducible exact H2_) | with_reducible exact H | (rw [hy155]; exact H) | exact H
      have Ny155 := Aside0.mk hy155
      clear hy155
      have H' := Aside0.mk H
      clear H
      go_wp2_with (first | ((with_reducible refine gate_dst (N := 74) rfl ?_); refine Kd.R_lit (Kd.int .i64) _ 3 ?hg (N := 74) ?hd (xs := ([x5_1, wrap64 (Int.tdiv x6_1 (ji42))] : List Int)) (inner := [.int .i64 x5_1, .int .i64 (wrap64 (Int.tdiv x6_1 (ji42)))]) (ok := fun _ => True) (okp := fun _ => True) ?hr ?hp (fun _ hk => hk) trivial (Below.refl _ _) (Nat.le_refl _) (by simp) ?_; (case hd => rfl); (case hg => rfl); (case hr => first | (go_simp; done) | (go_simp; rfl)); (case hp => exact (Reps.one (show Kd.M (Kd.int .i64) _ _ _ x5_1 [.int .i64 x5_1] from rfl) (Reps.one (show Kd.M (Kd.int .i64) _ _ _ (wrap64 (Int.tdiv x6_1 (ji42))) [.int .i64 (wrap64 (Int.tdiv x6_1 (ji42)))] from rfl) (Reps.none _ _)))); intro v156 w44 ho45 hb hg_ hnew_; clear hg_ hnew_; (first | rw [← Ny155.out] at ho45 | (simp only [Int.reduceToNat] at ho45; rw [← Ny155.out] at ho45)); have HO157 := Aside0.mk (Kd.R_lower (Kd.R_new' ho45 (Kd.R_lt (by (with_reducible repeat (first | apply Kd.R_alloc | apply Kd.R_drewN | apply Kd.R_drew)); exact HO154.out))) (below_size (by repeat (first | (with_reducible first | exact HB.out | apply below_alloc | apply pw_below_drewN | apply below_drew1 | refine below_set ?_ GE138.out) | exact HB.out)))); replace HO154 := Aside0.mk (Kd.R_elder' (by (with_reducible repeat (first | apply Kd.R_alloc | apply Kd.R_drewN | apply Kd.R_drew)); exact HO154.out) (Kd.R_base ho45) hb); replace BK138 := Aside0.mk (blk_below BK138.out (tr hb)); replace HB := Aside0.mk (below_step (by repeat (first | (with_reducible first | exact HB.out | apply below_alloc | apply pw_below_drewN | apply below_drew1 | refine below_set ?_ GE138.out) | exact HB.out)) hb); clear hb ho45))
      go_meet
      case rel => exact ⟨_, (y155), H', ⟨by have := HK1.out; first | omega | exact Nat.le_refl _⟩, ⟨by (with_reducible repeat (first | apply Kd.R_alloc | apply Kd.R_drewN | apply Kd.R_drew)); exact Kd.R_mono HO157.out (fun _ hk => trivial)⟩, ⟨by (with_reducible repeat (first | refine blk_drewN ?_ _ | refine blk_drew ?_ | refine blk_alloc ?_ _)); exact BK138.out⟩, ⟨by repeat (first | (with_reducible first | exact HB.out | apply below_alloc | apply pw_below_drewN | apply below_drew1 | refine below_set ?_ GE138.out) | exact HB.out)⟩⟩
    case rest =>
      clear HC37
      try clear c1
      try clear p1
      try clear q1
      try clear hx1
      try clear c2
      try clear p2
      try clear c3
      try clear c4
      try clear c5
      try clear p6
      try clear c8
      try clear c8b0
      try clear c9
      try clear c9b0
      try clear c10
      try clear c10b0
      try clear c14
      try clear c14b0
      try clear p14
      try clear q14
      try clear hx14
      try clear c15
      try clear c15b0
      try clear c15b1
      try clear c18
      try clear c20
      try clear c24
      try clear c24b0
      try clear c25
      try clear c25b0
      try clear c26
      try clear c26b0
      try clear c31
      try clear c32
      try clear c34
      try clear c41
      try clear c41b0
      try clear c41b1
      try clear c43
      try clear c43b0
      try clear c43b1
      try clear hcz19_0
      try clear hcz19_1
      try clear hcz22_0
      try clear hcz22_1
      try clear hcz33_0
      try clear hcz33_1
      try clear hcz35_0
      try clear hcz35_1
      try clear hcz40_0
      try clear hcz40_1
      try clear hcz5_0
      try clear hcz5_1
      try clear hcz7_0
      try clear hcz7_1
      try clear hfz19_0
      try clear hfz19_1
      try clear hfz22_0
      try clear hfz22_1
      try clear hfz33_0
      try clear hfz33_1
      try clear hfz35_0
      try clear hfz35_1
      try clear hfz40_0
      try clear hfz40_1
      try clear hfz5_0
      try clear hfz5_1
      try clear hfz7_0
      try clear hfz7_1
      try clear hx140_0
      try clear hx147_0
      try clear p1
      try clear p14
      try clear p140
      try clear p147
      try clear p2
      try clear q1
      try clear q14
      try clear q140
      try clear q147
      obtain ⟨kq, x13_36, HA, HJ36, HO_13, BK138, HB⟩ := hcut
      cases kq with
      | zero => exact absurd HA.out (by simp [casing_Factors.j2])
      | succ kj36 =>
        have H := HA.out
        clear HA
        simp only [casing_Factors.j2] at H
        have H' := Aside0.mk H
        clear H
        obtain ⟨Ao46, co46, eo46⟩ := Kd.R_slice HO_13.out
        subst eo46
        go_wp2
        go_loopg [14, 15, 77] kj36 (fun kq v14 v15 v77 w' => ∃ (x14_3 : List Int) (x15_3 : Int) (x77_3 : Int), v15 = .int .i64 x15_3 ∧ v77 = .int .i64 x77_3 ∧ Aside0 (casing_Factors.l2 kq x14_3 x15_3 x13_36 (x13_36.length : Int) x77_3 = some (r1, r2, r3)) ∧ Aside0 (kq ≤ kj36) ∧ Aside0 (Kd.R (Kd.int .i64) 3 w' w.heap.size (fun k_ => some k_ ≠ ((.slice Ao46 x13_36.length co46) : Value).ownBlock) v14 x14_3) ∧ Aside0 (Kd.R (Kd.int .i64) 3 w' w.heap.size (fun k_ => some k_ ≠ (v14 : Value).ownBlock) (.slice Ao46 x13_36.length co46) x13_36) ∧ Aside0 (w'.heap[gb138]? = some (.cells #[.int .i64 a0_0, (.slice A0_1 l0_1.length c0_1)] 24 (0, 0))) ∧ Aside0 (Below w.heap.size w w'))
        case atStart => exact ⟨(([] : List Int)), (0), (0), (by first | rfl | (simp; done) | (simp [*]; done)), (by first | rfl | (simp; done) | (simp [*]; done)), H', ⟨Nat.le_refl _⟩, ⟨by first | exact Kd.R_nil _ _ _ _ _ | exact Kd.N_nil _ _ _ _ _ | exact Kd.V_nil _ _ _ _ _ | exact Kd.Q_nil _ _ _ _ _ | exact Kd.S_nil _ _ _ _ _⟩, ⟨by (with_reducible repeat (first | apply Kd.R_alloc | apply Kd.R_drewN | apply Kd.R_drew)); exact Kd.R_mono HO_13.out (fun _ hk => (by simp [Value.ownBlock]))⟩, ⟨by (with_reducible repeat (first | refine blk_drewN ?_ _ | refine blk_drew ?_ | refine blk_alloc ?_ _)); exact BK138.out⟩, ⟨by repeat (first | (with_reducible first | exact HB.out | apply below_alloc | apply pw_below_drewN | apply below_drew1 | refine below_set ?_ GE138.out) | exact HB.out)⟩⟩
        clear H'
        try clear c1
        try clear p1
        try clear q1
        try clear hx1
        try clear c2
        try clear p2
        try clear c3
        try clear c4
        try clear c5
        try clear p6
        try clear c8
        try clear c8b0
        try clear c9
        try clear c9b0
        try clear c10
        try clear c10b0
        try clear c14
        try clear c14b0
        try clear p14
        try clear q14
        try clear hx14
        try clear c15
        try clear c15b0
        try clear c15b1
        try clear c18
        try clear c20
        try clear c24
        try clear c24b0
        try clear c25
        try clear c25b0
        try clear c26
        try clear c26b0
        try clear c31
        try clear c32
        try clear c34
        try clear c41
        try clear c41b0
        try clear c41b1
        try clear c43
        try clear c43b0
        try clear c43b1
        try clear hcz19_0
        try clear hcz19_1
        try clear hcz22_0
        try clear hcz22_1
        try clear hcz33_0
        try clear hcz33_1
        try clear hcz35_0
        try clear hcz35_1
        try clear hcz40_0
        try clear hcz40_1
        try clear hcz5_0
        try clear hcz5_1
        try clear hcz7_0
        try clear hcz7_1
        try clear hfz19_0
        try clear hfz19_1
        try clear hfz22_0
        try clear hfz22_1
        try clear hfz33_0
        try clear hfz33_1
        try clear hfz35_0
        try clear hfz35_1
        try clear hfz40_0
        try clear hfz40_1
        try clear hfz5_0
        try clear hfz5_1
        try clear hfz7_0
        try clear hfz7_1
        try clear hx140_0
        try clear hx147_0
        try clear p1
        try clear p14
        try clear p140
        try clear p147
        try clear p2
        try clear p6
        try clear q1
        try clear q14
        try clear q140
        try clear q147
        obtain ⟨x14_3, x15_3, x77_3, rfl, rfl, HA, HK3, HO_14, HO_75, BK138, HB⟩ := hrel
        cases gk with
        | zero => exact absurd HA.out (by simp [casing_Factors.l2])
        | succ k3 =>
          have H := HA.out
          clear HA
          simp only [casing_Factors.l2] at H
          by_cases c47 : x77_3 < (x13_36.length : Int)
          rotate_left
          · rw [if_neg c47] at H
            have c47b0 : decide (x77_3 < (x13_36.length : Int)) = false := decide_eq_false c47
            clear c47
            simp only [Option.some.injEq, Prod.mk.injEq] at H
            obtain ⟨rfl, rfl, rfl⟩ := H
            go_wp2
            go_ret3
            exact ⟨_, by first | rfl | (simp [errW_none, errW_some] <;> rfl) | (simp [*, errW_none, errW_some] <;> rfl), by (with_reducible repeat (first | apply Kd.R_alloc | apply Kd.R_drewN | apply Kd.R_drew)); exact Kd.R_mono HO_14.out (fun _ hk => trivial), by repeat (first | (with_reducible first | exact HB.out | apply below_alloc | apply pw_below_drewN | apply below_drew1 | refine below_set ?_ GE138.out) | exact HB.out)⟩
          rw [if_pos c47] at H
          have c47b0 : decide (x77_3 < (x13_36.length : Int)) = true := decide_eq_true c47
          clear c47
          by_cases c48 : 0 ≤ x77_3
          rotate_left
          · rw [if_neg c48] at H
            exact absurd H (by simp)
          rw [if_pos c48] at H
          have c48b0 : decide (0 ≤ x77_3) = true := decide_eq_true c48
          clear c48
          by_cases c49 : x77_3 < (x13_36.length : Int)
          rotate_left
          · rw [if_neg c49] at H
            exact absurd H (by simp)
          rw [if_pos c49] at H
          have c49b0 : decide (x77_3 < (x13_36.length : Int)) = true := decide_eq_true c49
          clear c49
          by_cases c50 : (rd x13_36 x77_3) = 0
          · rw [if_pos c50] at H
            have c50b0 : ((rd x13_36 x77_3) == 0) = true := beq_iff_eq.mpr c50
            have c50b1 : ((rd x13_36 x77_3) != 0) = false := bne_eq_false_iff_eq.mpr c50
            clear c50
            have H' := Aside0.mk H
            clear H
            have p158 : 0 ≤ (x77_3 : Int) := of_decide_eq_true (by first | (with_reducible assumption) | assumption)
            have q158 : x77_3 < (x13_36.length : Int) := of_decide_eq_true (by first | (with_reducible assumption) | assumption)
            obtain ⟨ad158, e158, hx158_0⟩ := Kd.at_int (Kd.R_reads' HO_75.out).2.2 x77_3 p158 q158
            cases e158
            replace p158 := eq_true p158
            replace q158 := eq_true q158
            go_wp2
            go_roundg k3
            case measure => have := HK1.out; have := HJ36.out; have := HK3.out; omega
            case rel => exact ⟨(x14_3), (wrap64 (x15_3 + 1)), (wrap64 (x77_3 + 1)), (by first | rfl | (simp; done) | (simp [*]; done)), (by first | rfl | (simp; done) | (simp [*]; done)), H', ⟨by have := HK1.out; have := HJ36.out; have := HK3.out; omega⟩, ⟨by (with_reducible repeat (first | apply Kd.R_alloc | apply Kd.R_drewN | apply Kd.R_drew)); exact HO_14.out⟩, ⟨by (with_reducible repeat (first | apply Kd.R_alloc | apply Kd.R_drewN | apply Kd.R_drew)); exact HO_75.out⟩, ⟨by (with_reducible repeat (first | refine blk_drewN ?_ _ | refine blk_drew ?_ | refine blk_alloc ?_ _)); exact BK138.out⟩, ⟨by repeat (first | (with_reducible first | exact HB.out | apply below_alloc | apply pw_below_drewN | apply below_drew1 | refine below_set ?_ GE138.out) | exact HB.out)⟩⟩
          rw [if_neg c50] at H
          have c50b0 : ((rd x13_36 x77_3) == 0) = false := beq_eq_false_iff_ne.mpr c50
          have c50b1 : ((rd x13_36 x77_3) != 0) = true := bne_iff_ne.mpr c50
          by_cases c51 : (rd x13_36 x77_3) > 1
          rotate_left
          · rw [if_neg c51] at H
            have c51b0 : decide (1 < (rd x13_36 x77_3)) = false := decide_eq_false c51
            clear c51
            have H' := Aside0.mk H
            clear H
            have p158 : 0 ≤ (x77_3 : Int) := of_decide_eq_true (by first | (with_reducible assumption) | assumption)
            have q158 : x77_3 < (x13_36.length : Int) := of_decide_eq_true (by first | (with_reducible assumption) | assumption)
            obtain ⟨ad158, e158, hx158_0⟩ := Kd.at_int (Kd.R_reads' HO_75.out).2.2 x77_3 p158 q158
            cases e158
            replace p158 := eq_true p158
            replace q158 := eq_true q158
            go_wp2
            go_roundg k3
            case measure => have := HK1.out; have := HJ36.out; have := HK3.out; omega
            case rel => exact ⟨(x14_3), (x15_3), (wrap64 (x77_3 + 1)), (by first | rfl | (simp; done) | (simp [*]; done)), (by first | rfl | (simp; done) | (simp [*]; done)), H', ⟨by have := HK1.out; have := HJ36.out; have := HK3.out; omega⟩, ⟨by (with_reducible repeat (first | apply Kd.R_alloc | apply Kd.R_drewN | apply Kd.R_drew)); exact HO_14.out⟩, ⟨by (with_reducible repeat (first | apply Kd.R_alloc | apply Kd.R_drewN | apply Kd.R_drew)); exact HO_75.out⟩, ⟨by (with_reducible repeat (first | refine blk_drewN ?_ _ | refine blk_drew ?_ | refine blk_alloc ?_ _)); exact BK138.out⟩, ⟨by repeat (first | (with_reducible first | exact HB.out | apply below_alloc | apply pw_below_drewN | apply below_drew1 | refine below_set ?_ GE138.out) | exact HB.out)⟩⟩
          rw [if_pos c51] at H
          have c51b0 : decide (1 < (rd x13_36 x77_3)) = true := decide_eq_true c51
          clear c51
          by_cases c52 : x14_3.length < 17592186044416
          rotate_left
          · rw [if_neg c52] at H
            exact absurd H (by simp)
          rw [if_pos c52] at H
          have LMc52 := Aside0.mk c52
          clear c52
          obtain ⟨y159, hy159⟩ : ∃ y_ : List Int, y_ = (x14_3 ++ [rd x13_36 x77_3]) := ⟨_, rfl⟩
          replace H : (casing_Factors.l2 k3 y159 x15_3 x13_36 (x13_36.length : Int) (wrap64 (x77_3 + 1))) = some (r1, r2, r3) := by first | (rw [hy159]; with_reducible exact H) | (have H2_ := (Option.bind_some _ _).symm.trans H; rw [hy159]; with_reducible exact H2_) | (have H2_ := (Option.bind_some _ _).symm.trans H; with_reducible exact H2_) | with_reducible exact H | (rw [hy159]; exact H) | exact H
          have Ny159 := Aside0.mk hy159
          clear hy159
          have H' := Aside0.mk H
          clear H
          have p158 : 0 ≤ (x77_3 : Int) := of_decide_eq_true (by first | (with_reducible assumption) | assumption)
          have q158 : x77_3 < (x13_36.length : Int) := of_decide_eq_true (by first | (with_reducible assumption) | assumption)
          obtain ⟨ad158, e158, hx158_0⟩ := Kd.at_int (Kd.R_reads' HO_75.out).2.2 x77_3 p158 q158
          cases e158
          replace p158 := eq_true p158
          replace q158 := eq_true q158
          go_wp2_with (first | ((with_reducible refine gate_builtin (b := .append) (xs := #[.tmp 89, .tmp 91]) rfl ?_); at_builtin; refine Kd.R_append (Kd.int .i64) (w0 := w) w.heap.size rfl (.tmp 89) (.tmp 91) 36 3 (.int .i64 0) 8 rfl Try.underlying36 info3 rfl (by decide) (by omega) u14 x14_3 (rd x13_36 x77_3) [.int .i64 (rd x13_36 x77_3)] (fun k_ => some k_ ≠ (.slice (some ad158) x13_36.length co46 : Value).ownBlock) (fun _ => False) rfl rfl ?aP (fun _ hk => hk.elim) ?aF ?aO ?aB ?aS ?aL ?_; (case aP => exact rfl); (case aB => exact (by repeat (first | (with_reducible first | exact HB.out | apply below_alloc | apply pw_below_drewN | apply below_drew1 | refine below_set ?_ GE138.out) | exact HB.out))); (case aF => exact (fun k_ hk => Kd.fresh' (Kd.R_lt (by (with_reducible repeat (first | apply Kd.R_alloc | apply Kd.R_drewN | apply Kd.R_drew)); exact HO_75.out)) k_ hk)); (case aO => exact (by (with_reducible repeat (first | apply Kd.R_alloc | apply Kd.R_drewN | apply Kd.R_drew)); exact HO_14.out)); (case aS => exact (below_size (by repeat (first | (with_reducible first | exact HB.out | apply below_alloc | apply pw_below_drewN | apply below_drew1 | refine below_set ?_ GE138.out) | exact HB.out)))); (case aL => have := LMc52.out; omega); intro v160 w53 ho hb hg hat; rw [← Ny159.out] at ho; have HO161 := Aside0.mk (ho); replace HO_75 := Aside0.mk (Kd.R_after (ok := (fun _ => True)) (by (with_reducible repeat (first | apply Kd.R_alloc | apply Kd.R_drewN | apply Kd.R_drew)); exact Kd.R_mono HO_75.out (fun _ hk => ⟨trivial, hk⟩)) hg hat); replace BK138 := Aside0.mk (blk_grown (g := gb138) (o := .cells #[.int .i64 a0_0, .slice A0_1 l0_1.length c0_1] 24 (0, 0)) (by (with_reducible repeat (first | refine blk_drewN ?_ _ | refine blk_drew ?_ | refine blk_alloc ?_ _)); exact BK138.out) hg (Kd.R_ne HO_14.out BK138.out (by decide))); replace HB := Aside0.mk (hb); clear HO_14; clear ho hb hg hat))
          go_roundg k3
          case measure => have := HK1.out; have := HJ36.out; have := HK3.out; omega
          case rel => exact ⟨(y159), (x15_3), (wrap64 (x77_3 + 1)), (by first | rfl | (simp; done) | (simp [*]; done)), (by first | rfl | (simp; done) | (simp [*]; done)), H', ⟨by have := HK1.out; have := HJ36.out; have := HK3.out; omega⟩, ⟨by (with_reducible repeat (first | apply Kd.R_alloc | apply Kd.R_drewN | apply Kd.R_drew)); exact HO161.out⟩, ⟨by (with_reducible repeat (first | apply Kd.R_alloc | apply Kd.R_drewN | apply Kd.R_drew)); exact Kd.R_mono HO_75.out (fun _ hk => hk.2)⟩, ⟨by (with_reducible repeat (first | refine blk_drewN ?_ _ | refine blk_drew ?_ | refine blk_alloc ?_ _)); exact BK138.out⟩, ⟨by repeat (first | (with_reducible first | exact HB.out | apply below_alloc | apply pw_below_drewN | apply below_drew1 | refine below_set ?_ GE138.out) | exact HB.out)⟩⟩
end Go.Proofs.Ytmcihijobilcgaa.PAll
end
section
namespace Go.Proofs.Ytmcihijobilcgaa.PAll
open Go.RowKit Go.Proofs.YtmcihijobilcgaaW.PrintWords Go.Proofs.YtmcihijobilcgaaW.PrintLast Go.Proofs.YtmcihijobilcgaaW.PrintMore
attribute [local go_sem] max2_int max_two
def remouldlaw01_ints.l0 : Nat → List Int → List Int → Int → Option (Bool)
  | 0, _, _, _ => none
  | k + 1, x0, x1, x5 => if x5 < (x0.length : Int) then (if 0 ≤ x5 then (if x5 < (x1.length : Int) then (if (rd x0 x5) = (rd x1 x5) then (remouldlaw01_ints.l0 k x0 x1 (wrap64 (x5 + 1))) else (some false)) else (none)) else (none)) else (some true)
def remouldlaw01_ints.f (k : Nat) (l0 : List Int) (l1 : List Int) : Option (Bool) := if (l0.length : Int) = (l1.length : Int) then (remouldlaw01_ints.l0 k l0 l1 0) else (some false)
set_option maxHeartbeats 8000000 in
set_option maxRecDepth 100000 in
theorem remouldlaw01_ints.calls (k : Nat) (A0 : Option Addr) (c0 : Nat) (l0 : List Int) (A1 : Option Addr) (c1 : Nat) (l1 : List Int) (r : Bool) (w : World) (hr0 : Kd.C (Kd.int .i64) w A0 l0.length l0) (hc0 : l0.length ≤ c0) (hr1 : Kd.C (Kd.int .i64) w A1 l1.length l1) (hc1 : l1.length ≤ c1) (h : remouldlaw01_ints.f k l0 l1 = some r) :
    Calls Try.prog 22 #[.slice A0 l0.length c0, .slice A1 l1.length c1] w fun e w' => e = .returned (.bool r) ∧ Drawn0 w w' := by
  have HR0 := Aside0.mk hr0
  have HC0 := Aside0.mk hc0
  clear hr0 hc0
  have HR1 := Aside0.mk hr1
  have HC1 := Aside0.mk hc1
  clear hr1 hc1
  have H : (if (l0.length : Int) = (l1.length : Int) then (remouldlaw01_ints.l0 k l0 l1 0) else (some false)) = some r := h
  clear h
  by_cases c3 : (l0.length : Int) = (l1.length : Int)
  rotate_left
  · rw [if_neg c3] at H
    have c3b0 : ((l0.length : Int) == (l1.length : Int)) = false := beq_eq_false_iff_ne.mpr c3
    have c3b1 : ((l0.length : Int) != (l1.length : Int)) = true := bne_iff_ne.mpr c3
    have c3b2 : (l0.length == l1.length) = false := by first | simpa using c3 | (simp at c3 ⊢; omega)
    obtain rfl := Option.some.inj H
    go_enter Try.func22, Try.ntmps22
    go_wp2
    repeat (go_quiet (fail); try go_wp2)
    go_ret
    exact ⟨by first | rfl | (simp; done) | (simp [*]; done), by repeat (first | exact Drawn0.refl _ | apply Drawn0.step)⟩
  rw [if_pos c3] at H
  have c3b0 : ((l0.length : Int) == (l1.length : Int)) = true := beq_iff_eq.mpr c3
  have c3b1 : ((l0.length : Int) != (l1.length : Int)) = false := bne_eq_false_iff_eq.mpr c3
  have c3b2 : (l0.length == l1.length) = true := by first | simpa using c3 | (simp at c3 ⊢; omega)
  clear c3
  have H' := Aside0.mk H
  clear H
  go_enter Try.func22, Try.ntmps22
  go_wp2
  repeat (go_quiet (fail); try go_wp2)
  go_loopg [5] k (fun kq v5 w' => ∃ (x5_1 : Int), v5 = .int .i64 x5_1 ∧ Aside0 (remouldlaw01_ints.l0 kq l0 l1 x5_1 = some r) ∧ Aside0 (kq ≤ k) ∧ Drawn0 w w')
  case atStart => exact ⟨(0), (by first | rfl | (simp; done) | (simp [*]; done)), H', ⟨Nat.le_refl _⟩, by repeat (first | exact Drawn0.refl _ | apply Drawn0.step)⟩
  clear H'
  try clear c1
  try clear c2
  try clear p2
  try clear c3
  try clear c3b0
  try clear c3b1
  try clear c3b2
  obtain ⟨x5_1, rfl, HA, HK1, ⟨m1, rfl⟩⟩ := hrel
  cases gk with
  | zero => exact absurd HA.out (by simp [remouldlaw01_ints.l0])
  | succ k1 =>
    have H := HA.out
    clear HA
    simp only [remouldlaw01_ints.l0] at H
    by_cases c4 : x5_1 < (l0.length : Int)
    rotate_left
    · rw [if_neg c4] at H
      have c4b0 : decide (x5_1 < (l0.length : Int)) = false := decide_eq_false c4
      clear c4
      obtain rfl := Option.some.inj H
      go_wp2
      repeat (go_quiet (fail); try go_wp2)
      go_ret
      exact ⟨by first | rfl | (simp; done) | (simp [*]; done), by repeat (first | exact Drawn0.refl _ | apply Drawn0.step)⟩
    rw [if_pos c4] at H
    have c4b0 : decide (x5_1 < (l0.length : Int)) = true := decide_eq_true c4
    clear c4
    by_cases c5 : 0 ≤ x5_1
    rotate_left
    · rw [if_neg c5] at H
      exact absurd H (by simp)
    rw [if_pos c5] at H
    have c5b0 : decide (0 ≤ x5_1) = true := decide_eq_true c5
    clear c5
    by_cases c6 : x5_1 < (l1.length : Int)
    rotate_left
    · rw [if_neg c6] at H
      exact absurd H (by simp)
    rw [if_pos c6] at H
    have c6b0 : decide (x5_1 < (l1.length : Int)) = true := decide_eq_true c6
    clear c6
    by_cases c7 : (rd l0 x5_1) = (rd l1 x5_1)
    rotate_left
    · rw [if_neg c7] at H
      have c7b0 : ((rd l0 x5_1) == (rd l1 x5_1)) = false := beq_eq_false_iff_ne.mpr c7
      have c7b1 : ((rd l0 x5_1) != (rd l1 x5_1)) = true := bne_iff_ne.mpr c7
      obtain rfl := Option.some.inj H
      have p162 : 0 ≤ (x5_1 : Int) := of_decide_eq_true (by first | (with_reducible assumption) | assumption)
      have q162 : x5_1 < (l0.length : Int) := of_decide_eq_true (by first | (with_reducible assumption) | assumption)
      obtain ⟨ad162, e162, hx162_0⟩ := Kd.at_int HR0.out x5_1 p162 q162
      cases e162
      replace p162 := eq_true p162
      replace q162 := eq_true q162
      have p163 : 0 ≤ (x5_1 : Int) := of_decide_eq_true (by first | (with_reducible assumption) | assumption)
      have q163 : x5_1 < (l1.length : Int) := of_decide_eq_true (by first | (with_reducible assumption) | assumption)
      obtain ⟨ad163, e163, hx163_0⟩ := Kd.at_int HR1.out x5_1 p163 q163
      cases e163
      replace p163 := eq_true p163
      replace q163 := eq_true q163
      go_wp2
      repeat (go_quiet (fail); try go_wp2)
      go_ret
      exact ⟨by first | rfl | (simp; done) | (simp [*]; done), by repeat (first | exact Drawn0.refl _ | apply Drawn0.step)⟩
    rw [if_pos c7] at H
    have c7b0 : ((rd l0 x5_1) == (rd l1 x5_1)) = true := beq_iff_eq.mpr c7
    have c7b1 : ((rd l0 x5_1) != (rd l1 x5_1)) = false := bne_eq_false_iff_eq.mpr c7
    clear c7
    have H' := Aside0.mk H
    clear H
    have p162 : 0 ≤ (x5_1 : Int) := of_decide_eq_true (by first | (with_reducible assumption) | assumption)
    have q162 : x5_1 < (l0.length : Int) := of_decide_eq_true (by first | (with_reducible assumption) | assumption)
    obtain ⟨ad162, e162, hx162_0⟩ := Kd.at_int HR0.out x5_1 p162 q162
    cases e162
    replace p162 := eq_true p162
    replace q162 := eq_true q162
    have p163 : 0 ≤ (x5_1 : Int) := of_decide_eq_true (by first | (with_reducible assumption) | assumption)
    have q163 : x5_1 < (l1.length : Int) := of_decide_eq_true (by first | (with_reducible assumption) | assumption)
    obtain ⟨ad163, e163, hx163_0⟩ := Kd.at_int HR1.out x5_1 p163 q163
    cases e163
    replace p163 := eq_true p163
    replace q163 := eq_true q163
    go_wp2
    repeat (go_quiet (fail); try go_wp2)
    go_roundg k1
    case measure => have := HK1.out; omega
    case rel => exact ⟨(wrap64 (x5_1 + 1)), (by first | rfl | (simp; done) | (simp [*]; done)), H', ⟨by have := HK1.out; omega⟩, by repeat (first | exact Drawn0.refl _ | apply Drawn0.step)⟩
end Go.Proofs.Ytmcihijobilcgaa.PAll
end
section
namespace Go.Proofs.Ytmcihijobilcgaa.PAll
open Go.RowKit Go.Proofs.YtmcihijobilcgaaW.PrintWords Go.Proofs.YtmcihijobilcgaaW.PrintLast Go.Proofs.YtmcihijobilcgaaW.PrintMore
attribute [local go_sem] max2_int max_two
def casing_Count.f (k : Nat) (a0_0 : Int) (l0_1 : List ByteArray) (a1 : Int) : Option (Int × Int) := (casing_isGroup.f a0_0 l0_1).bind fun t165 => (if t165 = true then ((casing_within.f a1 1 5).bind fun t166 => (if t166 = true then ((casing_tables.f k a0_0 l0_1 a1).bind fun t167 => (some ((t167.length : Int), 0))) else (some (0, 2)))) else (some (0, 2)))
set_option maxHeartbeats 8000000 in
set_option maxRecDepth 100000 in
theorem casing_Count.calls (k : Nat) (a0_0 : Int) (A0_1 : Option Addr) (c0_1 : Nat) (l0_1 : List ByteArray) (a1 : Int) (r1 : Int) (r2 : Int) (w : World) (hr0_1 : Kd.C Kd.string w A0_1 l0_1.length l0_1) (hc0_1 : l0_1.length ≤ c0_1) (h : casing_Count.f k a0_0 l0_1 a1 = some (r1, r2)) :
    Calls Try.prog 26 #[.agg #[.int .i64 a0_0, .slice A0_1 l0_1.length c0_1], .int .i64 a1] w fun e w' => e = .returned (.tuple #[.int .i64 r1, .int .i64 r2]) ∧ Below w.heap.size w w' := by
  have hu24 := Try.underlying24
  have HR0_1 := Aside0.mk hr0_1
  have HC0_1 := Aside0.mk hc0_1
  clear hr0_1 hc0_1
  have HB := Aside0.mk (Below.refl w.heap.size w)
  have H : ((casing_isGroup.f a0_0 l0_1).bind fun t165 => (if t165 = true then ((casing_within.f a1 1 5).bind fun t166 => (if t166 = true then ((casing_tables.f k a0_0 l0_1 a1).bind fun t167 => (some ((t167.length : Int), 0))) else (some (0, 2)))) else (some (0, 2)))) = some (r1, r2) := h
  clear h
  replace H := Option.bind_eq_some_iff.mp H
  obtain ⟨t165, A30, H⟩ := H
  try dsimp only at H
  have A3 := Aside0.mk A30
  clear A30
  by_cases c4 : t165 = true
  rotate_left
  · replace c4 := Bool.eq_false_iff.mpr c4
    subst c4
    have H1 : (some (0, 2)) = some (r1, r2) := by rw [if_neg (show ¬ (false = true) by decide)] at H; exact H
    clear H
    have H := H1
    clear H1
    simp only [Option.some.injEq, Prod.mk.injEq] at H
    obtain ⟨rfl, rfl⟩ := H
    go_enter Try.func26, Try.ntmps26
    go_wp2_with (first | ((with_reducible refine gate_dst (N := 2) rfl ?_); refine box_event ?hg (N := 2) ?hd (cs := #[.int .i64 a0_0, .slice A0_1 l0_1.length c0_1]) (t := 24) ?hr ?_; (case hd => rfl); (case hg => rfl); (case hr => first | (go_simp; done) | (go_simp; rfl)); intro gb164 hg w17 hbox hb; have BK164 := Aside0.mk (hbox); have GW164 := Aside0.mk ((by rw [hg]; exact (below_size (gr HB.out)) : w.heap.size ≤ gb164)); have GE164 := Aside0.mk ((by rw [hg]; exact (below_size (gr HB.out)) : w.heap.size ≤ gb164)); replace HB := Aside0.mk (below_step HB.out (tr hb)); clear hb hbox hg; have hcz18_0 : w17.cell? ⟨gb164, 0, none⟩ = some (.int .i64 a0_0) := (blk_cell BK164.out 0).trans rfl; have hcz18_1 : w17.cell? ⟨gb164, 1, none⟩ = some (.slice A0_1 l0_1.length c0_1) := (blk_cell BK164.out 1).trans rfl; have hfz18_0 := blk_frozen BK164.out 0; have hfz18_1 := blk_frozen BK164.out 1) | ((with_reducible refine gate_callee (f := 48) rfl ?_); refine goesL_ (some 7) rfl rfl Try.func48 (by kernel_rfl) rfl #[.agg #[.int .i64 a0_0, .slice A0_1 l0_1.length c0_1]] rfl (by (try simp only [List.map_toArray, List.map_cons, List.map_nil]); first | done | rfl | (simp only [List.length_drop, List.length_take]; rfl)) ?_; (with_reducible refine (casing_isGroup.calls a0_0 _ _ l0_1 false _ ?side1 ?side2 A3.out).mono ?_); (case side1 => repeat (first | exact (Kd.C_below HR0_1.out HB.out) | (with_reducible refine Kd.C_alloc ?_ _) | (with_reducible refine Kd.C_drewN ?_ _) | (with_reducible refine Kd.C_drew ?_))); (case side2 => exact HC0_1.out); rintro e w19 ⟨rfl, hb⟩; refine ⟨_, rfl, ?_⟩; replace BK164 := Aside0.mk (blk_below BK164.out (tr hb)); replace HB := Aside0.mk (below_step (by repeat (first | (with_reducible first | exact HB.out | apply below_alloc | apply pw_below_drewN | apply below_drew1 | refine below_set ?_ GE164.out) | exact HB.out)) hb); (try clear hb); (try clear hb2); (try clear hk); (try clear hi)))
    go_ret2
    exact ⟨by first | rfl | (simp [errW_none, errW_some] <;> rfl) | (simp [*, errW_none, errW_some] <;> rfl), by repeat (first | (with_reducible first | exact HB.out | apply below_alloc | apply pw_below_drewN | apply below_drew1 | refine below_set ?_ GE164.out) | exact HB.out)⟩
  subst c4
  have H1 : ((casing_within.f a1 1 5).bind fun t166 => (if t166 = true then ((casing_tables.f k a0_0 l0_1 a1).bind fun t167 => (some ((t167.length : Int), 0))) else (some (0, 2)))) = some (r1, r2) := by rw [if_pos rfl] at H; exact H
  clear H
  have H := H1
  clear H1
  replace H := Option.bind_eq_some_iff.mp H
  obtain ⟨t166, A50, H⟩ := H
  try dsimp only at H
  have A5 := Aside0.mk A50
  clear A50
  by_cases c6 : t166 = true
  rotate_left
  · replace c6 := Bool.eq_false_iff.mpr c6
    subst c6
    have H1 : (some (0, 2)) = some (r1, r2) := by rw [if_neg (show ¬ (false = true) by decide)] at H; exact H
    clear H
    have H := H1
    clear H1
    simp only [Option.some.injEq, Prod.mk.injEq] at H
    obtain ⟨rfl, rfl⟩ := H
    go_enter Try.func26, Try.ntmps26
    go_wp2_with (first | ((with_reducible refine gate_dst (N := 2) rfl ?_); refine box_event ?hg (N := 2) ?hd (cs := #[.int .i64 a0_0, .slice A0_1 l0_1.length c0_1]) (t := 24) ?hr ?_; (case hd => rfl); (case hg => rfl); (case hr => first | (go_simp; done) | (go_simp; rfl)); intro gb164 hg w14 hbox hb; have BK164 := Aside0.mk (hbox); have GW164 := Aside0.mk ((by rw [hg]; exact (below_size (gr HB.out)) : w.heap.size ≤ gb164)); have GE164 := Aside0.mk ((by rw [hg]; exact (below_size (gr HB.out)) : w.heap.size ≤ gb164)); replace HB := Aside0.mk (below_step HB.out (tr hb)); clear hb hbox hg; have hcz15_0 : w14.cell? ⟨gb164, 0, none⟩ = some (.int .i64 a0_0) := (blk_cell BK164.out 0).trans rfl; have hcz15_1 : w14.cell? ⟨gb164, 1, none⟩ = some (.slice A0_1 l0_1.length c0_1) := (blk_cell BK164.out 1).trans rfl; have hfz15_0 := blk_frozen BK164.out 0; have hfz15_1 := blk_frozen BK164.out 1) | ((with_reducible refine gate_callee (f := 48) rfl ?_); refine goesL_ (some 7) rfl rfl Try.func48 (by kernel_rfl) rfl #[.agg #[.int .i64 a0_0, .slice A0_1 l0_1.length c0_1]] rfl (by (try simp only [List.map_toArray, List.map_cons, List.map_nil]); first | done | rfl | (simp only [List.length_drop, List.length_take]; rfl)) ?_; (with_reducible refine (casing_isGroup.calls a0_0 _ _ l0_1 true _ ?side1 ?side2 A3.out).mono ?_); (case side1 => repeat (first | exact (Kd.C_below HR0_1.out HB.out) | (with_reducible refine Kd.C_alloc ?_ _) | (with_reducible refine Kd.C_drewN ?_ _) | (with_reducible refine Kd.C_drew ?_))); (case side2 => exact HC0_1.out); rintro e w16 ⟨rfl, hb⟩; refine ⟨_, rfl, ?_⟩; replace BK164 := Aside0.mk (blk_below BK164.out (tr hb)); replace HB := Aside0.mk (below_step (by repeat (first | (with_reducible first | exact HB.out | apply below_alloc | apply pw_below_drewN | apply below_drew1 | refine below_set ?_ GE164.out) | exact HB.out)) hb); (try clear hb); (try clear hb2); (try clear hk); (try clear hi)) | (go_at_call 49; (with_reducible refine (casing_within.calls a1 1 5 false _ A5.out).mono ?_); rintro e w' ⟨rfl, ⟨nd, rfl⟩⟩))
    go_ret2
    exact ⟨by first | rfl | (simp [errW_none, errW_some] <;> rfl) | (simp [*, errW_none, errW_some] <;> rfl), by repeat (first | (with_reducible first | exact HB.out | apply below_alloc | apply pw_below_drewN | apply below_drew1 | refine below_set ?_ GE164.out) | exact HB.out)⟩
  subst c6
  have H1 : ((casing_tables.f k a0_0 l0_1 a1).bind fun t167 => (some ((t167.length : Int), 0))) = some (r1, r2) := by rw [if_pos rfl] at H; exact H
  clear H
  have H := H1
  clear H1
  replace H := Option.bind_eq_some_iff.mp H
  obtain ⟨t167, A70, H⟩ := H
  try dsimp only at H
  have A7 := Aside0.mk A70
  clear A70
  simp only [Option.some.injEq, Prod.mk.injEq] at H
  obtain ⟨rfl, rfl⟩ := H
  go_enter Try.func26, Try.ntmps26
  go_wp2_with (first | ((with_reducible refine gate_dst (N := 2) rfl ?_); refine box_event ?hg (N := 2) ?hd (cs := #[.int .i64 a0_0, .slice A0_1 l0_1.length c0_1]) (t := 24) ?hr ?_; (case hd => rfl); (case hg => rfl); (case hr => first | (go_simp; done) | (go_simp; rfl)); intro gb164 hg w8 hbox hb; have BK164 := Aside0.mk (hbox); have GW164 := Aside0.mk ((by rw [hg]; exact (below_size (gr HB.out)) : w.heap.size ≤ gb164)); have GE164 := Aside0.mk ((by rw [hg]; exact (below_size (gr HB.out)) : w.heap.size ≤ gb164)); replace HB := Aside0.mk (below_step HB.out (tr hb)); clear hb hbox hg; have hcz9_0 : w8.cell? ⟨gb164, 0, none⟩ = some (.int .i64 a0_0) := (blk_cell BK164.out 0).trans rfl; have hcz9_1 : w8.cell? ⟨gb164, 1, none⟩ = some (.slice A0_1 l0_1.length c0_1) := (blk_cell BK164.out 1).trans rfl; have hfz9_0 := blk_frozen BK164.out 0; have hfz9_1 := blk_frozen BK164.out 1) | ((with_reducible refine gate_callee (f := 48) rfl ?_); refine goesL_ (some 7) rfl rfl Try.func48 (by kernel_rfl) rfl #[.agg #[.int .i64 a0_0, .slice A0_1 l0_1.length c0_1]] rfl (by (try simp only [List.map_toArray, List.map_cons, List.map_nil]); first | done | rfl | (simp only [List.length_drop, List.length_take]; rfl)) ?_; (with_reducible refine (casing_isGroup.calls a0_0 _ _ l0_1 true _ ?side1 ?side2 A3.out).mono ?_); (case side1 => repeat (first | exact (Kd.C_below HR0_1.out HB.out) | (with_reducible refine Kd.C_alloc ?_ _) | (with_reducible refine Kd.C_drewN ?_ _) | (with_reducible refine Kd.C_drew ?_))); (case side2 => exact HC0_1.out); rintro e w10 ⟨rfl, hb⟩; refine ⟨_, rfl, ?_⟩; replace BK164 := Aside0.mk (blk_below BK164.out (tr hb)); replace HB := Aside0.mk (below_step (by repeat (first | (with_reducible first | exact HB.out | apply below_alloc | apply pw_below_drewN | apply below_drew1 | refine below_set ?_ GE164.out) | exact HB.out)) hb); (try clear hb); (try clear hb2); (try clear hk); (try clear hi)) | (go_at_call 49; (with_reducible refine (casing_within.calls a1 1 5 true _ A5.out).mono ?_); rintro e w' ⟨rfl, ⟨nd, rfl⟩⟩; have hcz11_0 : w10.cell? ⟨gb164, 0, none⟩ = some (.int .i64 a0_0) := (blk_cell BK164.out 0).trans rfl; have hcz11_1 : w10.cell? ⟨gb164, 1, none⟩ = some (.slice A0_1 l0_1.length c0_1) := (blk_cell BK164.out 1).trans rfl; have hfz11_0 := blk_frozen BK164.out 0; have hfz11_1 := blk_frozen BK164.out 1) | ((with_reducible refine gate_callee (f := 50) rfl ?_); refine goesL_ (some 16) rfl rfl Try.func50 (by kernel_rfl) rfl #[.agg #[.int .i64 a0_0, .slice A0_1 l0_1.length c0_1], .int .i64 a1] rfl (by (try simp only [List.map_toArray, List.map_cons, List.map_nil]); first | done | rfl | (simp only [List.length_drop, List.length_take]; rfl)) ?_; (with_reducible refine (casing_tables.calls k a0_0 _ _ l0_1 a1 t167 _ ?side1 ?side2 A7.out).mono ?_); (case side1 => repeat (first | exact (Kd.C_below HR0_1.out (by repeat (first | (with_reducible first | exact HB.out | apply below_alloc | apply pw_below_drewN | apply below_drew1 | refine below_set ?_ GE164.out) | exact HB.out))) | (with_reducible refine Kd.C_alloc ?_ _) | (with_reducible refine Kd.C_drewN ?_ _) | (with_reducible refine Kd.C_drew ?_))); (case side2 => exact HC0_1.out); rintro e w12 ⟨v168, rfl, ho0, hb⟩; refine ⟨_, rfl, ?_⟩; have HO169 := Aside0.mk (Kd.R_lower ho0 (below_size (by repeat (first | (with_reducible first | exact HB.out | apply below_alloc | apply pw_below_drewN | apply below_drew1 | refine below_set ?_ GE164.out) | exact HB.out)))); replace BK164 := Aside0.mk (blk_below BK164.out (tr hb)); replace HB := Aside0.mk (below_step (by repeat (first | (with_reducible first | exact HB.out | apply below_alloc | apply pw_below_drewN | apply below_drew1 | refine below_set ?_ GE164.out) | exact HB.out)) hb); (try clear hb); (try clear hb2); (try clear hk); (try clear hi); (try clear ho0); obtain ⟨Ao13, co13, eo13⟩ := Kd.R_slice HO169.out; subst eo13))
  go_ret2
  exact ⟨by first | rfl | (simp [errW_none, errW_some] <;> rfl) | (simp [*, errW_none, errW_some] <;> rfl), by repeat (first | (with_reducible first | exact HB.out | apply below_alloc | apply pw_below_drewN | apply below_drew1 | refine below_set ?_ GE164.out) | exact HB.out)⟩
end Go.Proofs.Ytmcihijobilcgaa.PAll
end
section
namespace Go.Proofs.Ytmcihijobilcgaa.PAll
open Go.RowKit Go.Proofs.YtmcihijobilcgaaW.PrintWords Go.Proofs.YtmcihijobilcgaaW.PrintLast Go.Proofs.YtmcihijobilcgaaW.PrintMore
attribute [local go_sem] max2_int max_two
def remouldlaw01_texts.l0 : Nat → List ByteArray → List ByteArray → Int → Option (Bool)
  | 0, _, _, _ => none
  | k + 1, x0, x1, x5 => if x5 < (x0.length : Int) then (if 0 ≤ x5 then (if x5 < (x1.length : Int) then (if (rdOf ByteArray.empty x0 x5).toList = (rdOf ByteArray.empty x1 x5).toList then (remouldlaw01_texts.l0 k x0 x1 (wrap64 (x5 + 1))) else (some false)) else (none)) else (none)) else (some true)
def remouldlaw01_texts.f (k : Nat) (l0 : List ByteArray) (l1 : List ByteArray) : Option (Bool) := if (l0.length : Int) = (l1.length : Int) then (remouldlaw01_texts.l0 k l0 l1 0) else (some false)
set_option maxHeartbeats 8000000 in
set_option maxRecDepth 100000 in
theorem remouldlaw01_texts.calls (k : Nat) (A0 : Option Addr) (c0 : Nat) (l0 : List ByteArray) (A1 : Option Addr) (c1 : Nat) (l1 : List ByteArray) (r : Bool) (w : World) (hr0 : Kd.C Kd.string w A0 l0.length l0) (hc0 : l0.length ≤ c0) (hr1 : Kd.C Kd.string w A1 l1.length l1) (hc1 : l1.length ≤ c1) (h : remouldlaw01_texts.f k l0 l1 = some r) :
    Calls Try.prog 43 #[.slice A0 l0.length c0, .slice A1 l1.length c1] w fun e w' => e = .returned (.bool r) ∧ Drawn0 w w' := by
  have HR0 := Aside0.mk hr0
  have HC0 := Aside0.mk hc0
  clear hr0 hc0
  have HR1 := Aside0.mk hr1
  have HC1 := Aside0.mk hc1
  clear hr1 hc1
  have H : (if (l0.length : Int) = (l1.length : Int) then (remouldlaw01_texts.l0 k l0 l1 0) else (some false)) = some r := h
  clear h
  by_cases c3 : (l0.length : Int) = (l1.length : Int)
  rotate_left
  · rw [if_neg c3] at H
    have c3b0 : ((l0.length : Int) == (l1.length : Int)) = false := beq_eq_false_iff_ne.mpr c3
    have c3b1 : ((l0.length : Int) != (l1.length : Int)) = true := bne_iff_ne.mpr c3
    have c3b2 : (l0.length == l1.length) = false := by first | simpa using c3 | (simp at c3 ⊢; omega)
    obtain rfl := Option.some.inj H
    go_enter Try.func43, Try.ntmps43
    go_wp2
    repeat (go_quiet (fail); try go_wp2)
    go_ret
    exact ⟨by first | rfl | (simp; done) | (simp [*]; done), by repeat (first | exact Drawn0.refl _ | apply Drawn0.step)⟩
  rw [if_pos c3] at H
  have c3b0 : ((l0.length : Int) == (l1.length : Int)) = true := beq_iff_eq.mpr c3
  have c3b1 : ((l0.length : Int) != (l1.length : Int)) = false := bne_eq_false_iff_eq.mpr c3
  have c3b2 : (l0.length == l1.length) = true := by first | simpa using c3 | (simp at c3 ⊢; omega)
  clear c3
  have H' := Aside0.mk H
  clear H
  go_enter Try.func43, Try.ntmps43
  go_wp2
  repeat (go_quiet (fail); try go_wp2)
  go_loopg [5] k (fun kq v5 w' => ∃ (x5_1 : Int), v5 = .int .i64 x5_1 ∧ Aside0 (remouldlaw01_texts.l0 kq l0 l1 x5_1 = some r) ∧ Aside0 (kq ≤ k) ∧ Drawn0 w w')
  case atStart => exact ⟨(0), (by first | rfl | (simp; done) | (simp [*]; done)), H', ⟨Nat.le_refl _⟩, by repeat (first | exact Drawn0.refl _ | apply Drawn0.step)⟩
  clear H'
  try clear c1
  try clear p2
  try clear c3
  try clear c3b0
  try clear c3b1
  try clear c3b2
  obtain ⟨x5_1, rfl, HA, HK1, ⟨m1, rfl⟩⟩ := hrel
  cases gk with
  | zero => exact absurd HA.out (by simp [remouldlaw01_texts.l0])
  | succ k1 =>
    have H := HA.out
    clear HA
    simp only [remouldlaw01_texts.l0] at H
    by_cases c4 : x5_1 < (l0.length : Int)
    rotate_left
    · rw [if_neg c4] at H
      have c4b0 : decide (x5_1 < (l0.length : Int)) = false := decide_eq_false c4
      clear c4
      obtain rfl := Option.some.inj H
      go_wp2
      repeat (go_quiet (fail); try go_wp2)
      go_ret
      exact ⟨by first | rfl | (simp; done) | (simp [*]; done), by repeat (first | exact Drawn0.refl _ | apply Drawn0.step)⟩
    rw [if_pos c4] at H
    have c4b0 : decide (x5_1 < (l0.length : Int)) = true := decide_eq_true c4
    clear c4
    by_cases c5 : 0 ≤ x5_1
    rotate_left
    · rw [if_neg c5] at H
      exact absurd H (by simp)
    rw [if_pos c5] at H
    have c5b0 : decide (0 ≤ x5_1) = true := decide_eq_true c5
    clear c5
    by_cases c6 : x5_1 < (l1.length : Int)
    rotate_left
    · rw [if_neg c6] at H
      exact absurd H (by simp)
    rw [if_pos c6] at H
    have c6b0 : decide (x5_1 < (l1.length : Int)) = true := decide_eq_true c6
    clear c6
    by_cases c7 : (rdOf ByteArray.empty l0 x5_1).toList = (rdOf ByteArray.empty l1 x5_1).toList
    rotate_left
    · rw [if_neg c7] at H
      have c7b0 : ((rdOf ByteArray.empty l0 x5_1).toList == (rdOf ByteArray.empty l1 x5_1).toList) = false := beq_eq_false_iff_ne.mpr c7
      have c7b1 : ((rdOf ByteArray.empty l0 x5_1).toList != (rdOf ByteArray.empty l1 x5_1).toList) = true := bne_iff_ne.mpr c7
      obtain rfl := Option.some.inj H
      have p201 : 0 ≤ (x5_1 : Int) := of_decide_eq_true (by first | (with_reducible assumption) | assumption)
      have q201 : x5_1 < (l0.length : Int) := of_decide_eq_true (by first | (with_reducible assumption) | assumption)
      obtain ⟨ad201, e201, hx201_0⟩ := Kd.at_string HR0.out x5_1 p201 q201
      cases e201
      replace p201 := eq_true p201
      replace q201 := eq_true q201
      have p202 : 0 ≤ (x5_1 : Int) := of_decide_eq_true (by first | (with_reducible assumption) | assumption)
      have q202 : x5_1 < (l1.length : Int) := of_decide_eq_true (by first | (with_reducible assumption) | assumption)
      obtain ⟨ad202, e202, hx202_0⟩ := Kd.at_string HR1.out x5_1 p202 q202
      cases e202
      replace p202 := eq_true p202
      replace q202 := eq_true q202
      go_wp2
      repeat (go_quiet (fail); try go_wp2)
      go_ret
      exact ⟨by first | rfl | (simp; done) | (simp [*]; done), by repeat (first | exact Drawn0.refl _ | apply Drawn0.step)⟩
    rw [if_pos c7] at H
    have c7b0 : ((rdOf ByteArray.empty l0 x5_1).toList == (rdOf ByteArray.empty l1 x5_1).toList) = true := beq_iff_eq.mpr c7
    have c7b1 : ((rdOf ByteArray.empty l0 x5_1).toList != (rdOf ByteArray.empty l1 x5_1).toList) = false := bne_eq_false_iff_eq.mpr c7
    clear c7
    have H' := Aside0.mk H
    clear H
    have p201 : 0 ≤ (x5_1 : Int) := of_decide_eq_true (by first | (with_reducible assumption) | assumption)
    have q201 : x5_1 < (l0.length : Int) := of_decide_eq_true (by first | (with_reducible assumption) | assumption)
    obtain ⟨ad201, e201, hx201_0⟩ := Kd.at_string HR0.out x5_1 p201 q201
    cases e201
    replace p201 := eq_true p201
    replace q201 := eq_true q201
    have p202 : 0 ≤ (x5_1 : Int) := of_decide_eq_true (by first | (with_reducible assumption) | assumption)
    have q202 : x5_1 < (l1.length : Int) := of_decide_eq_true (by first | (with_reducible assumption) | assumption)
    obtain ⟨ad202, e202, hx202_0⟩ := Kd.at_string HR1.out x5_1 p202 q202
    cases e202
    replace p202 := eq_true p202
    replace q202 := eq_true q202
    go_wp2
    repeat (go_quiet (fail); try go_wp2)
    go_roundg k1
    case measure => have := HK1.out; omega
    case rel => exact ⟨(wrap64 (x5_1 + 1)), (by first | rfl | (simp; done) | (simp [*]; done)), H', ⟨by have := HK1.out; omega⟩, by repeat (first | exact Drawn0.refl _ | apply Drawn0.step)⟩
end Go.Proofs.Ytmcihijobilcgaa.PAll
end
section
namespace Go.Proofs.Ytmcihijobilcgaa.PAll
open Go.RowKit Go.Proofs.YtmcihijobilcgaaW.PrintWords Go.Proofs.YtmcihijobilcgaaW.PrintLast Go.Proofs.YtmcihijobilcgaaW.PrintMore
def okC (d : Nat) (c : List Int) (i : Nat) : Prop := ∀ m, m < i → 0 ≤ c.getD m 0 ∧ c.getD m 0 ≤ (d : Int) - 1 ∧ c.getD m 0 ∉ c.take m
instance (d : Nat) (c : List Int) (i : Nat) : Decidable (okC d c i) := inferInstanceAs (Decidable (∀ m, m < i → 0 ≤ c.getD m 0 ∧ c.getD m 0 ≤ (d : Int) - 1 ∧ c.getD m 0 ∉ c.take m))
def okT (l : List (List Int)) : Prop := (1 ≤ l.length ∧ l.length ≤ 2) ∧ (1 ≤ (rd_L5 l 0).length ∧ (rd_L5 l 0).length ≤ 5) ∧ ∀ k, k < l.length → (rd_L5 l (k : Int)).length = (rd_L5 l 0).length ∧ okC (rd_L5 l 0).length (rd_L5 l (k : Int)) (rd_L5 l 0).length
instance (l : List (List Int)) : Decidable (okT l) := inferInstanceAs (Decidable (_ ∧ _))
def pad5 (c : List Int) : List Int := (c ++ List.replicate 5 0).take 5
theorem pad5_length (c : List Int) : (pad5 c).length = 5 := by simp [pad5]
theorem pad5_get (c : List Int) (m : Nat) (h : m < 5) : (pad5 c)[m]? = some (c.getD m 0) := by
  simp only [pad5, List.getElem?_take, h, if_true]
  rcases Nat.lt_or_ge m c.length with h1 | h1
  · rw [List.getElem?_append_left h1]; simp [h1]
  · rw [List.getElem?_append_right h1, List.getElem?_replicate, if_pos (by omega)]; simp [h1]
theorem pad5_set (c : List Int) (i : Nat) (h : i < 5) (hc : i < c.length) : (pad5 (c.take i)).set i (c.getD i 0) = pad5 (c.take (i + 1)) := by
  apply List.ext_getElem?
  intro m
  rcases Nat.lt_or_ge m 5 with h5 | h5
  · rw [List.getElem?_set, pad5_get _ _ h5, pad5_get _ _ h5, pad5_length]
    by_cases e : i = m
    · subst e
      rw [if_pos rfl, if_pos h]
      simp [List.getD, List.getElem?_take]
    rw [if_neg e]
    simp only [List.getD, List.getElem?_take]
    by_cases h1 : m < i
    · rw [if_pos h1, if_pos (by omega)]
    · rw [if_neg h1, if_neg (by omega)]
  · rw [List.getElem?_eq_none (by rw [List.length_set, pad5_length]; exact h5), List.getElem?_eq_none (by rw [pad5_length]; exact h5)]
def mixT (l : List (List Int)) (k i : Nat) : List Int :=
  if k = 0 then pad5 ((rd_L5 l 0).take i) ++ pad5 [] else if k = 1 then pad5 (rd_L5 l 0) ++ pad5 ((rd_L5 l 1).take i) else pad5 (rd_L5 l 0) ++ pad5 (rd_L5 l 1)
theorem mixT_length (l : List (List Int)) (k i : Nat) : (mixT l k i).length = 10 := by
  unfold mixT
  split
  · simp [pad5_length]
  · split <;> simp [pad5_length]
theorem mixT_set0 (l : List (List Int)) (i : Nat) (h : i < 5) (hc : i < (rd_L5 l 0).length) : (mixT l 0 i).set i ((rd_L5 l 0).getD i 0) = mixT l 0 (i + 1) := by
  simp only [mixT, if_true]
  rw [List.set_append_left _ _ (by rw [pad5_length]; exact h), pad5_set _ _ h hc]
theorem mixT_set1 (l : List (List Int)) (i : Nat) (h : i < 5) (hc : i < (rd_L5 l 1).length) : (mixT l 1 i).set (5 + i) ((rd_L5 l 1).getD i 0) = mixT l 1 (i + 1) := by
  simp only [mixT, if_true, Nat.one_ne_zero, if_false]
  rw [List.set_append_right _ _ (by rw [pad5_length]; omega), pad5_length, Nat.add_sub_cancel_left, pad5_set _ _ h hc]
theorem mixT_next0 (l : List (List Int)) (n : Nat) (h : (rd_L5 l 0).length = n) : mixT l 0 n = mixT l 1 0 := by
  simp only [mixT, if_true, Nat.one_ne_zero, if_false, ← h, List.take_length, List.take_zero]
theorem mixT_next1 (l : List (List Int)) (n : Nat) (h : (rd_L5 l 1).length = n) : mixT l 1 n = mixT l 2 0 := by
  simp only [mixT, if_true, Nat.one_ne_zero, if_false, ← h, List.take_length]
  rfl
theorem list10 (L : List Int) (h : L.length = 10) : L = [L.getD 0 0, L.getD 1 0, L.getD 2 0, L.getD 3 0, L.getD 4 0, L.getD 5 0, L.getD 6 0, L.getD 7 0, L.getD 8 0, L.getD 9 0] := by
  match L, h with
  | [_, _, _, _, _, _, _, _, _, _], _ => rfl
def tabL (l : List (List Int)) : List Int := mixT l l.length 0
def casing_newTable.f (k : Nat) (l0 : List (List Int)) : Option (Int × Int × Int × Int × Int × Int × Int × Int × Int × Int × Int × Int × Bool) :=
  if okT l0 then some ((l0.length : Int), ((rd_L5 l0 0).length : Int), (tabL l0).getD 0 0, (tabL l0).getD 1 0, (tabL l0).getD 2 0, (tabL l0).getD 3 0, (tabL l0).getD 4 0, (tabL l0).getD 5 0, (tabL l0).getD 6 0, (tabL l0).getD 7 0, (tabL l0).getD 8 0, (tabL l0).getD 9 0, true)
  else some (0, 0, 0, 0, 0, 0, 0, 0, 0, 0, 0, 0, false)
theorem within_true {a lo hi : Int} (h1 : lo ≤ a) (h2 : a ≤ hi) : casing_within.f a lo hi = some true := by unfold casing_within.f; rw [if_pos h1, decide_eq_true h2]
theorem within_false {a lo hi : Int} (h : ¬ (lo ≤ a ∧ a ≤ hi)) : casing_within.f a lo hi = some false := by
  unfold casing_within.f
  by_cases h1 : lo ≤ a
  · rw [if_pos h1, decide_eq_false (fun h2 => h ⟨h1, h2⟩)]
  · rw [if_neg h1]
theorem set12 {W : World} {g : Nat} (u0 u1 u2 u3 u4 u5 u6 u7 u8 u9 u10 u11 a0 a1 a2 a3 a4 a5 a6 a7 a8 a9 a10 a11 : Value) (h : W.heap[g]? = some (.cells #[u0, u1, u2, u3, u4, u5, u6, u7, u8, u9, u10, u11] 79 (0, 0))) : ((((((((((((W.setCell ⟨g, 0, none⟩ a0).setCell ⟨g, 1, none⟩ a1).setCell ⟨g, 2, none⟩ a2).setCell ⟨g, 3, none⟩ a3).setCell ⟨g, 4, none⟩ a4).setCell ⟨g, 5, none⟩ a5).setCell ⟨g, 6, none⟩ a6).setCell ⟨g, 7, none⟩ a7).setCell ⟨g, 8, none⟩ a8).setCell ⟨g, 9, none⟩ a9).setCell ⟨g, 10, none⟩ a10).setCell ⟨g, 11, none⟩ a11).heap[g]? = some (.cells #[a0, a1, a2, a3, a4, a5, a6, a7, a8, a9, a10, a11] 79 (0, 0)) := by
  have h0 : (W.setCell ⟨g, 0, none⟩ a0).heap[g]? = some (.cells #[a0, u1, u2, u3, u4, u5, u6, u7, u8, u9, u10, u11] 79 (0, 0)) := blk_put h 0 _ rfl
  have h1 : ((W.setCell ⟨g, 0, none⟩ a0).setCell ⟨g, 1, none⟩ a1).heap[g]? = some (.cells #[a0, a1, u2, u3, u4, u5, u6, u7, u8, u9, u10, u11] 79 (0, 0)) := blk_put h0 1 _ rfl
  have h2 : (((W.setCell ⟨g, 0, none⟩ a0).setCell ⟨g, 1, none⟩ a1).setCell ⟨g, 2, none⟩ a2).heap[g]? = some (.cells #[a0, a1, a2, u3, u4, u5, u6, u7, u8, u9, u10, u11] 79 (0, 0)) := blk_put h1 2 _ rfl
  have h3 : ((((W.setCell ⟨g, 0, none⟩ a0).setCell ⟨g, 1, none⟩ a1).setCell ⟨g, 2, none⟩ a2).setCell ⟨g, 3, none⟩ a3).heap[g]? = some (.cells #[a0, a1, a2, a3, u4, u5, u6, u7, u8, u9, u10, u11] 79 (0, 0)) := blk_put h2 3 _ rfl
  have h4 : (((((W.setCell ⟨g, 0, none⟩ a0).setCell ⟨g, 1, none⟩ a1).setCell ⟨g, 2, none⟩ a2).setCell ⟨g, 3, none⟩ a3).setCell ⟨g, 4, none⟩ a4).heap[g]? = some (.cells #[a0, a1, a2, a3, a4, u5, u6, u7, u8, u9, u10, u11] 79 (0, 0)) := blk_put h3 4 _ rfl
  have h5 : ((((((W.setCell ⟨g, 0, none⟩ a0).setCell ⟨g, 1, none⟩ a1).setCell ⟨g, 2, none⟩ a2).setCell ⟨g, 3, none⟩ a3).setCell ⟨g, 4, none⟩ a4).setCell ⟨g, 5, none⟩ a5).heap[g]? = some (.cells #[a0, a1, a2, a3, a4, a5, u6, u7, u8, u9, u10, u11] 79 (0, 0)) := blk_put h4 5 _ rfl
  have h6 : (((((((W.setCell ⟨g, 0, none⟩ a0).setCell ⟨g, 1, none⟩ a1).setCell ⟨g, 2, none⟩ a2).setCell ⟨g, 3, none⟩ a3).setCell ⟨g, 4, none⟩ a4).setCell ⟨g, 5, none⟩ a5).setCell ⟨g, 6, none⟩ a6).heap[g]? = some (.cells #[a0, a1, a2, a3, a4, a5, a6, u7, u8, u9, u10, u11] 79 (0, 0)) := blk_put h5 6 _ rfl
  have h7 : ((((((((W.setCell ⟨g, 0, none⟩ a0).setCell ⟨g, 1, none⟩ a1).setCell ⟨g, 2, none⟩ a2).setCell ⟨g, 3, none⟩ a3).setCell ⟨g, 4, none⟩ a4).setCell ⟨g, 5, none⟩ a5).setCell ⟨g, 6, none⟩ a6).setCell ⟨g, 7, none⟩ a7).heap[g]? = some (.cells #[a0, a1, a2, a3, a4, a5, a6, a7, u8, u9, u10, u11] 79 (0, 0)) := blk_put h6 7 _ rfl
  have h8 : (((((((((W.setCell ⟨g, 0, none⟩ a0).setCell ⟨g, 1, none⟩ a1).setCell ⟨g, 2, none⟩ a2).setCell ⟨g, 3, none⟩ a3).setCell ⟨g, 4, none⟩ a4).setCell ⟨g, 5, none⟩ a5).setCell ⟨g, 6, none⟩ a6).setCell ⟨g, 7, none⟩ a7).setCell ⟨g, 8, none⟩ a8).heap[g]? = some (.cells #[a0, a1, a2, a3, a4, a5, a6, a7, a8, u9, u10, u11] 79 (0, 0)) := blk_put h7 8 _ rfl
  have h9 : ((((((((((W.setCell ⟨g, 0, none⟩ a0).setCell ⟨g, 1, none⟩ a1).setCell ⟨g, 2, none⟩ a2).setCell ⟨g, 3, none⟩ a3).setCell ⟨g, 4, none⟩ a4).setCell ⟨g, 5, none⟩ a5).setCell ⟨g, 6, none⟩ a6).setCell ⟨g, 7, none⟩ a7).setCell ⟨g, 8, none⟩ a8).setCell ⟨g, 9, none⟩ a9).heap[g]? = some (.cells #[a0, a1, a2, a3, a4, a5, a6, a7, a8, a9, u10, u11] 79 (0, 0)) := blk_put h8 9 _ rfl
  have h10 : (((((((((((W.setCell ⟨g, 0, none⟩ a0).setCell ⟨g, 1, none⟩ a1).setCell ⟨g, 2, none⟩ a2).setCell ⟨g, 3, none⟩ a3).setCell ⟨g, 4, none⟩ a4).setCell ⟨g, 5, none⟩ a5).setCell ⟨g, 6, none⟩ a6).setCell ⟨g, 7, none⟩ a7).setCell ⟨g, 8, none⟩ a8).setCell ⟨g, 9, none⟩ a9).setCell ⟨g, 10, none⟩ a10).heap[g]? = some (.cells #[a0, a1, a2, a3, a4, a5, a6, a7, a8, a9, a10, u11] 79 (0, 0)) := blk_put h9 10 _ rfl
  have h11 : ((((((((((((W.setCell ⟨g, 0, none⟩ a0).setCell ⟨g, 1, none⟩ a1).setCell ⟨g, 2, none⟩ a2).setCell ⟨g, 3, none⟩ a3).setCell ⟨g, 4, none⟩ a4).setCell ⟨g, 5, none⟩ a5).setCell ⟨g, 6, none⟩ a6).setCell ⟨g, 7, none⟩ a7).setCell ⟨g, 8, none⟩ a8).setCell ⟨g, 9, none⟩ a9).setCell ⟨g, 10, none⟩ a10).setCell ⟨g, 11, none⟩ a11).heap[g]? = some (.cells #[a0, a1, a2, a3, a4, a5, a6, a7, a8, a9, a10, a11] 79 (0, 0)) := blk_put h10 11 _ rfl
  exact h11
theorem below12 {w W : World} {g : Nat} (a0 a1 a2 a3 a4 a5 a6 a7 a8 a9 a10 a11 : Value) (h : Below w.heap.size w W) (hg : w.heap.size ≤ g) : Below w.heap.size w ((((((((((((W.setCell ⟨g, 0, none⟩ a0).setCell ⟨g, 1, none⟩ a1).setCell ⟨g, 2, none⟩ a2).setCell ⟨g, 3, none⟩ a3).setCell ⟨g, 4, none⟩ a4).setCell ⟨g, 5, none⟩ a5).setCell ⟨g, 6, none⟩ a6).setCell ⟨g, 7, none⟩ a7).setCell ⟨g, 8, none⟩ a8).setCell ⟨g, 9, none⟩ a9).setCell ⟨g, 10, none⟩ a10).setCell ⟨g, 11, none⟩ a11) := (below_set (below_set (below_set (below_set (below_set (below_set (below_set (below_set (below_set (below_set (below_set (below_set h hg) hg) hg) hg) hg) hg) hg) hg) hg) hg) hg) hg)
theorem at_row {w W : World} {ad : Addr} {n : Nat} {xs : List (List Int)} (hC : Kd.C (Kd.slice 3 (Kd.int .i64)) w (some ad) n xs) (hb : Below w.heap.size w W) (i : Int) (h0 : 0 ≤ i) (h1 : i < n) :
    ∃ A0 c0, W.cell? (ad.add i.toNat) = some (.slice A0 (rd_L5 xs i).length c0) ∧ (rd_L5 xs i).length ≤ c0 ∧ Kd.C (Kd.int .i64) W A0 (rd_L5 xs i).length (rd_L5 xs i) := by
  obtain ⟨ad', A0, c0, e, h2, h3, h4⟩ := at_L5 (Kd.C_below hC hb) i h0 h1
  cases e
  exact ⟨A0, c0, h2, h3, h4⟩
theorem at_row0 {w W : World} {ad : Addr} {n : Nat} {xs : List (List Int)} (hC : Kd.C (Kd.slice 3 (Kd.int .i64)) w (some ad) n xs) (hb : Below w.heap.size w W) (h1 : 0 < n) :
    ∃ A0 c0, W.cell? ad = some (.slice A0 (rd_L5 xs 0).length c0) ∧ (rd_L5 xs 0).length ≤ c0 ∧ Kd.C (Kd.int .i64) W A0 (rd_L5 xs 0).length (rd_L5 xs 0) := by
  obtain ⟨A0, c0, h2, h3, h4⟩ := at_row hC hb 0 (by omega) (by omega)
  rw [show ((0 : Int)).toNat = 0 from rfl, Addr.add_zero'] at h2
  exact ⟨A0, c0, h2, h3, h4⟩
theorem tabC_at (l : List (List Int)) (k i j : Nat) (h : j < 10) (W : World) (g : Nat) (hb : W.heap[g]? = some (.cells ((((l.length : Int) :: ((rd_L5 l 0).length : Int) :: mixT l k i).map (Value.int .i64)).toArray) 79 (0, 0))) : W.cell? ⟨g, j + 2, none⟩ = some (.int .i64 ((mixT l k i).getD j 0)) := by
  have hl := mixT_length l k i
  simp [World.cell?, hb, hl, h]
def colP (l : List (List Int)) (q : Nat) : Prop := (rd_L5 l (q : Int)).length = (rd_L5 l 0).length ∧ okC (rd_L5 l 0).length (rd_L5 l (q : Int)) (rd_L5 l 0).length
def tabC (l : List (List Int)) (k i : Nat) : Array Value := (((l.length : Int) :: ((rd_L5 l 0).length : Int) :: mixT l k i).map (Value.int .i64)).toArray
theorem tabC_set (l : List (List Int)) (k i : Nat) (j : Int) (hk : k < 2) (hi : i < 5) (hc : i < (rd_L5 l (k : Int)).length) (hj : (rd_L5 l (k : Int)).getD i 0 = j) : (tabC l k i).setIfInBounds (2 + k * 5 + i) (.int .i64 j) = tabC l k (i + 1) := by
  subst hj
  obtain rfl | rfl : k = 0 ∨ k = 1 := by omega
  · have h := mixT_set0 l i hi hc
    unfold tabC
    rw [← h, show 2 + 0 * 5 + i = i + 2 from by omega]
    simp
  · have h := mixT_set1 l i hi hc
    unfold tabC
    rw [← h, show 2 + 1 * 5 + i = (5 + i) + 2 from by omega]
    simp
def NewR (w : World) (l : List (List Int)) (e : Ending) (w' : World) : Prop :=
  ∃ t : List Int, ∃ b : Bool, t.length = 12 ∧ e = .returned (.tuple #[.agg (t.map (Value.int .i64)).toArray, .bool b]) ∧ Below w.heap.size w w' ∧
    if okT l then t = (l.length : Int) :: ((rd_L5 l 0).length : Int) :: tabL l ∧ b = true else t = List.replicate 12 0 ∧ b = false
set_option maxHeartbeats 8000000 in
set_option maxRecDepth 100000 in
theorem newTable_any (A0 : Option Addr) (c0 : Nat) (l0 : List (List Int)) (w : World) (hr0 : Kd.C (Kd.slice 3 (Kd.int .i64)) w A0 l0.length l0) (hc0 : l0.length ≤ c0) :
    Calls Try.prog 60 #[.slice A0 l0.length c0] w (NewR w l0) := by
  have hu79 := Try.underlying79
  have HR := Aside0.mk hr0
  have HC := Aside0.mk hc0
  clear hr0 hc0
  by_cases c1 : 1 ≤ l0.length ∧ l0.length ≤ 2
  rotate_left
  · have HF := Aside0.mk (within_false (a := (l0.length : Int)) (lo := 1) (hi := 2) (by omega))
    have HN := Aside0.mk (show ¬ okT l0 from fun h => c1 h.1)
    clear c1
    go_enter Try.func60, Try.ntmps60
    go_wp2_with (first | ((with_reducible refine gate_dst (N := 2) rfl ?_); refine box_event ?hg (N := 2) ?hd (cs := #[.int .i64 0, .int .i64 0, .int .i64 0, .int .i64 0, .int .i64 0, .int .i64 0, .int .i64 0, .int .i64 0, .int .i64 0, .int .i64 0, .int .i64 0, .int .i64 0]) (t := 79) ?hr ?_; (case hd => rfl); (case hg => rfl); (case hr => first | (go_simp; done) | (go_simp; rfl)); intro g2 hg w1 hbox hb; have n0_ := Aside0.mk hb; have n1_ := Aside0.mk hbox; have n2_ := Aside0.mk (show w.heap.size ≤ g2 by rw [hg]; exact Nat.le_refl _); have n3_ := Aside0.mk (Kd.C_below HR.out hb); clear hg hb hbox; have HB1 := n0_; have BK2 := n1_; have GE2 := n2_; have HR1 := n3_; clear n0_ n1_ n2_ n3_) | ((with_reducible refine gate_callee (f := 49) rfl ?_); refine goesL_ (some 11) rfl rfl Try.func49 (by kernel_rfl) rfl #[.int .i64 (l0.length : Int), .int .i64 1, .int .i64 2] rfl (by (try simp only [List.map_toArray, List.map_cons, List.map_nil]); first | done | rfl) ?_; (with_reducible refine (casing_within.calls (l0.length : Int) 1 2 false _ HF.out).mono ?_); rintro e wq ⟨rfl, hdr⟩; refine ⟨_, rfl, ?_⟩; replace HB1 := Aside0.mk (show Below w.heap.size w wq by obtain ⟨nd, rfl⟩ := hdr; exact pw_below_drewN HB1.out nd); replace BK2 := Aside0.mk (show wq.heap[g2]? = _ by obtain ⟨nd, rfl⟩ := hdr; exact BK2.out); clear hdr; have hz0 : wq.cell? ⟨g2, 0, none⟩ = some (.int .i64 0) := (blk_cell BK2.out 0).trans rfl; have hf0 := blk_frozen BK2.out 0; have hz1 : wq.cell? ⟨g2, 1, none⟩ = some (.int .i64 0) := (blk_cell BK2.out 1).trans rfl; have hf1 := blk_frozen BK2.out 1; have hz2 : wq.cell? ⟨g2, 2, none⟩ = some (.int .i64 0) := (blk_cell BK2.out 2).trans rfl; have hf2 := blk_frozen BK2.out 2; have hz3 : wq.cell? ⟨g2, 3, none⟩ = some (.int .i64 0) := (blk_cell BK2.out 3).trans rfl; have hf3 := blk_frozen BK2.out 3; have hz4 : wq.cell? ⟨g2, 4, none⟩ = some (.int .i64 0) := (blk_cell BK2.out 4).trans rfl; have hf4 := blk_frozen BK2.out 4; have hz5 : wq.cell? ⟨g2, 5, none⟩ = some (.int .i64 0) := (blk_cell BK2.out 5).trans rfl; have hf5 := blk_frozen BK2.out 5; have hz6 : wq.cell? ⟨g2, 6, none⟩ = some (.int .i64 0) := (blk_cell BK2.out 6).trans rfl; have hf6 := blk_frozen BK2.out 6; have hz7 : wq.cell? ⟨g2, 7, none⟩ = some (.int .i64 0) := (blk_cell BK2.out 7).trans rfl; have hf7 := blk_frozen BK2.out 7; have hz8 : wq.cell? ⟨g2, 8, none⟩ = some (.int .i64 0) := (blk_cell BK2.out 8).trans rfl; have hf8 := blk_frozen BK2.out 8; have hz9 : wq.cell? ⟨g2, 9, none⟩ = some (.int .i64 0) := (blk_cell BK2.out 9).trans rfl; have hf9 := blk_frozen BK2.out 9; have hz10 : wq.cell? ⟨g2, 10, none⟩ = some (.int .i64 0) := (blk_cell BK2.out 10).trans rfl; have hf10 := blk_frozen BK2.out 10; have hz11 : wq.cell? ⟨g2, 11, none⟩ = some (.int .i64 0) := (blk_cell BK2.out 11).trans rfl; have hf11 := blk_frozen BK2.out 11))
    refine bodyPost_ret (results_ct rfl _ _ g2 79 #[.int .i64 0, .int .i64 0, .int .i64 0, .int .i64 0, .int .i64 0, .int .i64 0, .int .i64 0, .int .i64 0, .int .i64 0, .int .i64 0, .int .i64 0, .int .i64 0] (0, 0) _ rfl (set12 _ _ _ _ _ _ _ _ _ _ _ _ _ _ _ _ _ _ _ _ _ _ _ _ BK2.out) Try.underlying79 rfl (by kernel_rfl)) rfl ?_
    exact ⟨List.replicate 12 0, false, rfl, rfl, below12 _ _ _ _ _ _ _ _ _ _ _ _ HB1.out GE2.out, by rw [if_neg HN.out]; exact ⟨rfl, rfl⟩⟩
  · obtain ⟨ad, A1, n1, e1, -, -, -⟩ := at_L5 HR.out 0 (by omega) (by omega)
    subst e1
    have H1 := Aside0.mk (show 0 < l0.length from c1.1)
    have HT := Aside0.mk (within_true (a := (l0.length : Int)) (lo := 1) (hi := 2) (by omega) (by omega))
    have C1 := Aside0.mk c1
    clear c1
    by_cases c2 : 1 ≤ (rd_L5 l0 0).length ∧ (rd_L5 l0 0).length ≤ 5
    rotate_left
    · have HF := Aside0.mk (within_false (a := ((rd_L5 l0 0).length : Int)) (lo := 1) (hi := 5) (by omega))
      have HN := Aside0.mk (show ¬ okT l0 from fun h => c2 h.2.1)
      clear c2
      go_enter Try.func60, Try.ntmps60
      go_wp2_with (first | ((with_reducible refine gate_dst (N := 2) rfl ?_); refine box_event ?hg (N := 2) ?hd (cs := #[.int .i64 0, .int .i64 0, .int .i64 0, .int .i64 0, .int .i64 0, .int .i64 0, .int .i64 0, .int .i64 0, .int .i64 0, .int .i64 0, .int .i64 0, .int .i64 0]) (t := 79) ?hr ?_; (case hd => rfl); (case hg => rfl); (case hr => first | (go_simp; done) | (go_simp; rfl)); intro g2 hg w1 hbox hb; have n0_ := Aside0.mk hb; have n1_ := Aside0.mk hbox; have n2_ := Aside0.mk (show w.heap.size ≤ g2 by rw [hg]; exact Nat.le_refl _); have n3_ := Aside0.mk (Kd.C_below HR.out hb); clear hg hb hbox; have HB1 := n0_; have BK2 := n1_; have GE2 := n2_; have HR1 := n3_; clear n0_ n1_ n2_ n3_) | ((with_reducible refine gate_callee (f := 49) rfl ?_); refine goesL_ (some 11) rfl rfl Try.func49 (by kernel_rfl) rfl #[.int .i64 (l0.length : Int), .int .i64 1, .int .i64 2] rfl (by (try simp only [List.map_toArray, List.map_cons, List.map_nil]); first | done | rfl) ?_; (with_reducible refine (casing_within.calls (l0.length : Int) 1 2 true _ HT.out).mono ?_); rintro e wq ⟨rfl, hdr⟩; refine ⟨_, rfl, ?_⟩; replace HB1 := Aside0.mk (show Below w.heap.size w wq by obtain ⟨nd, rfl⟩ := hdr; exact pw_below_drewN HB1.out nd); replace BK2 := Aside0.mk (show wq.heap[g2]? = _ by obtain ⟨nd, rfl⟩ := hdr; exact BK2.out); clear hdr; have hz0 : wq.cell? ⟨g2, 0, none⟩ = some (.int .i64 0) := (blk_cell BK2.out 0).trans rfl; have hf0 := blk_frozen BK2.out 0; have hz1 : wq.cell? ⟨g2, 1, none⟩ = some (.int .i64 0) := (blk_cell BK2.out 1).trans rfl; have hf1 := blk_frozen BK2.out 1; have hz2 : wq.cell? ⟨g2, 2, none⟩ = some (.int .i64 0) := (blk_cell BK2.out 2).trans rfl; have hf2 := blk_frozen BK2.out 2; have hz3 : wq.cell? ⟨g2, 3, none⟩ = some (.int .i64 0) := (blk_cell BK2.out 3).trans rfl; have hf3 := blk_frozen BK2.out 3; have hz4 : wq.cell? ⟨g2, 4, none⟩ = some (.int .i64 0) := (blk_cell BK2.out 4).trans rfl; have hf4 := blk_frozen BK2.out 4; have hz5 : wq.cell? ⟨g2, 5, none⟩ = some (.int .i64 0) := (blk_cell BK2.out 5).trans rfl; have hf5 := blk_frozen BK2.out 5; have hz6 : wq.cell? ⟨g2, 6, none⟩ = some (.int .i64 0) := (blk_cell BK2.out 6).trans rfl; have hf6 := blk_frozen BK2.out 6; have hz7 : wq.cell? ⟨g2, 7, none⟩ = some (.int .i64 0) := (blk_cell BK2.out 7).trans rfl; have hf7 := blk_frozen BK2.out 7; have hz8 : wq.cell? ⟨g2, 8, none⟩ = some (.int .i64 0) := (blk_cell BK2.out 8).trans rfl; have hf8 := blk_frozen BK2.out 8; have hz9 : wq.cell? ⟨g2, 9, none⟩ = some (.int .i64 0) := (blk_cell BK2.out 9).trans rfl; have hf9 := blk_frozen BK2.out 9; have hz10 : wq.cell? ⟨g2, 10, none⟩ = some (.int .i64 0) := (blk_cell BK2.out 10).trans rfl; have hf10 := blk_frozen BK2.out 10; have hz11 : wq.cell? ⟨g2, 11, none⟩ = some (.int .i64 0) := (blk_cell BK2.out 11).trans rfl; have hf11 := blk_frozen BK2.out 11; obtain ⟨A1, n1, hx1, hl1, hi1⟩ := at_row0 HR.out HB1.out H1.out; have hlt1 : ((0 : Int) < (l0.length : Int)) := (by have := H1.out; omega); have hI1 := Aside0.mk hi1; have hL1 := Aside0.mk hl1; clear hi1 hl1) | (go_at_call 49; (with_reducible refine (casing_within.calls ((rd_L5 l0 0).length : Int) 1 5 false _ HF.out).mono ?_); rintro e wq ⟨rfl, hdr⟩; clear hx1; replace HB1 := Aside0.mk (show Below w.heap.size w wq by obtain ⟨nd, rfl⟩ := hdr; exact pw_below_drewN HB1.out nd); replace BK2 := Aside0.mk (show wq.heap[g2]? = _ by obtain ⟨nd, rfl⟩ := hdr; exact BK2.out); clear hdr; have hz0 : wq.cell? ⟨g2, 0, none⟩ = some (.int .i64 0) := (blk_cell BK2.out 0).trans rfl; have hf0 := blk_frozen BK2.out 0; have hz1 : wq.cell? ⟨g2, 1, none⟩ = some (.int .i64 0) := (blk_cell BK2.out 1).trans rfl; have hf1 := blk_frozen BK2.out 1; have hz2 : wq.cell? ⟨g2, 2, none⟩ = some (.int .i64 0) := (blk_cell BK2.out 2).trans rfl; have hf2 := blk_frozen BK2.out 2; have hz3 : wq.cell? ⟨g2, 3, none⟩ = some (.int .i64 0) := (blk_cell BK2.out 3).trans rfl; have hf3 := blk_frozen BK2.out 3; have hz4 : wq.cell? ⟨g2, 4, none⟩ = some (.int .i64 0) := (blk_cell BK2.out 4).trans rfl; have hf4 := blk_frozen BK2.out 4; have hz5 : wq.cell? ⟨g2, 5, none⟩ = some (.int .i64 0) := (blk_cell BK2.out 5).trans rfl; have hf5 := blk_frozen BK2.out 5; have hz6 : wq.cell? ⟨g2, 6, none⟩ = some (.int .i64 0) := (blk_cell BK2.out 6).trans rfl; have hf6 := blk_frozen BK2.out 6; have hz7 : wq.cell? ⟨g2, 7, none⟩ = some (.int .i64 0) := (blk_cell BK2.out 7).trans rfl; have hf7 := blk_frozen BK2.out 7; have hz8 : wq.cell? ⟨g2, 8, none⟩ = some (.int .i64 0) := (blk_cell BK2.out 8).trans rfl; have hf8 := blk_frozen BK2.out 8; have hz9 : wq.cell? ⟨g2, 9, none⟩ = some (.int .i64 0) := (blk_cell BK2.out 9).trans rfl; have hf9 := blk_frozen BK2.out 9; have hz10 : wq.cell? ⟨g2, 10, none⟩ = some (.int .i64 0) := (blk_cell BK2.out 10).trans rfl; have hf10 := blk_frozen BK2.out 10; have hz11 : wq.cell? ⟨g2, 11, none⟩ = some (.int .i64 0) := (blk_cell BK2.out 11).trans rfl; have hf11 := blk_frozen BK2.out 11))
      refine bodyPost_ret (results_ct rfl _ _ g2 79 #[.int .i64 0, .int .i64 0, .int .i64 0, .int .i64 0, .int .i64 0, .int .i64 0, .int .i64 0, .int .i64 0, .int .i64 0, .int .i64 0, .int .i64 0, .int .i64 0] (0, 0) _ rfl (set12 _ _ _ _ _ _ _ _ _ _ _ _ _ _ _ _ _ _ _ _ _ _ _ _ BK2.out) Try.underlying79 rfl (by kernel_rfl)) rfl ?_
      exact ⟨List.replicate 12 0, false, rfl, rfl, below12 _ _ _ _ _ _ _ _ _ _ _ _ HB1.out GE2.out, by rw [if_neg HN.out]; exact ⟨rfl, rfl⟩⟩
    · have HT2 := Aside0.mk (within_true (a := ((rd_L5 l0 0).length : Int)) (lo := 1) (hi := 5) (by omega) (by omega))
      have C2 := Aside0.mk c2
      clear c2
      go_enter Try.func60, Try.ntmps60
      go_wp2_with (first | ((with_reducible refine gate_dst (N := 2) rfl ?_); refine box_event ?hg (N := 2) ?hd (cs := #[.int .i64 0, .int .i64 0, .int .i64 0, .int .i64 0, .int .i64 0, .int .i64 0, .int .i64 0, .int .i64 0, .int .i64 0, .int .i64 0, .int .i64 0, .int .i64 0]) (t := 79) ?hr ?_; (case hd => rfl); (case hg => rfl); (case hr => first | (go_simp; done) | (go_simp; rfl)); intro g2 hg w1 hbox hb; have n0_ := Aside0.mk hb; have n1_ := Aside0.mk hbox; have n2_ := Aside0.mk (show w.heap.size ≤ g2 by rw [hg]; exact Nat.le_refl _); have n3_ := Aside0.mk (Kd.C_below HR.out hb); clear hg hb hbox; have HB1 := n0_; have BK2 := n1_; have GE2 := n2_; have HR1 := n3_; clear n0_ n1_ n2_ n3_) | ((with_reducible refine gate_callee (f := 49) rfl ?_); refine goesL_ (some 11) rfl rfl Try.func49 (by kernel_rfl) rfl #[.int .i64 (l0.length : Int), .int .i64 1, .int .i64 2] rfl (by (try simp only [List.map_toArray, List.map_cons, List.map_nil]); first | done | rfl) ?_; (with_reducible refine (casing_within.calls (l0.length : Int) 1 2 true _ HT.out).mono ?_); rintro e wq ⟨rfl, hdr⟩; refine ⟨_, rfl, ?_⟩; replace HB1 := Aside0.mk (show Below w.heap.size w wq by obtain ⟨nd, rfl⟩ := hdr; exact pw_below_drewN HB1.out nd); replace BK2 := Aside0.mk (show wq.heap[g2]? = _ by obtain ⟨nd, rfl⟩ := hdr; exact BK2.out); clear hdr; have hz0 : wq.cell? ⟨g2, 0, none⟩ = some (.int .i64 0) := (blk_cell BK2.out 0).trans rfl; have hf0 := blk_frozen BK2.out 0; have hz1 : wq.cell? ⟨g2, 1, none⟩ = some (.int .i64 0) := (blk_cell BK2.out 1).trans rfl; have hf1 := blk_frozen BK2.out 1; have hz2 : wq.cell? ⟨g2, 2, none⟩ = some (.int .i64 0) := (blk_cell BK2.out 2).trans rfl; have hf2 := blk_frozen BK2.out 2; have hz3 : wq.cell? ⟨g2, 3, none⟩ = some (.int .i64 0) := (blk_cell BK2.out 3).trans rfl; have hf3 := blk_frozen BK2.out 3; have hz4 : wq.cell? ⟨g2, 4, none⟩ = some (.int .i64 0) := (blk_cell BK2.out 4).trans rfl; have hf4 := blk_frozen BK2.out 4; have hz5 : wq.cell? ⟨g2, 5, none⟩ = some (.int .i64 0) := (blk_cell BK2.out 5).trans rfl; have hf5 := blk_frozen BK2.out 5; have hz6 : wq.cell? ⟨g2, 6, none⟩ = some (.int .i64 0) := (blk_cell BK2.out 6).trans rfl; have hf6 := blk_frozen BK2.out 6; have hz7 : wq.cell? ⟨g2, 7, none⟩ = some (.int .i64 0) := (blk_cell BK2.out 7).trans rfl; have hf7 := blk_frozen BK2.out 7; have hz8 : wq.cell? ⟨g2, 8, none⟩ = some (.int .i64 0) := (blk_cell BK2.out 8).trans rfl; have hf8 := blk_frozen BK2.out 8; have hz9 : wq.cell? ⟨g2, 9, none⟩ = some (.int .i64 0) := (blk_cell BK2.out 9).trans rfl; have hf9 := blk_frozen BK2.out 9; have hz10 : wq.cell? ⟨g2, 10, none⟩ = some (.int .i64 0) := (blk_cell BK2.out 10).trans rfl; have hf10 := blk_frozen BK2.out 10; have hz11 : wq.cell? ⟨g2, 11, none⟩ = some (.int .i64 0) := (blk_cell BK2.out 11).trans rfl; have hf11 := blk_frozen BK2.out 11; obtain ⟨A1, n1, hx1, hl1, hi1⟩ := at_row0 HR.out HB1.out H1.out; have hlt1 : ((0 : Int) < (l0.length : Int)) := (by have := H1.out; omega); have hI1 := Aside0.mk hi1; have hL1 := Aside0.mk hl1; clear hi1 hl1) | (go_at_call 49; (with_reducible refine (casing_within.calls ((rd_L5 l0 0).length : Int) 1 5 true _ HT2.out).mono ?_); rintro e wq ⟨rfl, hdr⟩; clear hx1 hlt1; replace HB1 := Aside0.mk (show Below w.heap.size w wq by obtain ⟨nd, rfl⟩ := hdr; exact pw_below_drewN HB1.out nd); replace BK2 := Aside0.mk (show wq.heap[g2]? = _ by obtain ⟨nd, rfl⟩ := hdr; exact BK2.out); clear hdr; have hz0 : wq.cell? ⟨g2, 0, none⟩ = some (.int .i64 0) := (blk_cell BK2.out 0).trans rfl; have hf0 := blk_frozen BK2.out 0; have hz1 : wq.cell? ⟨g2, 1, none⟩ = some (.int .i64 0) := (blk_cell BK2.out 1).trans rfl; have hf1 := blk_frozen BK2.out 1; have hz2 : wq.cell? ⟨g2, 2, none⟩ = some (.int .i64 0) := (blk_cell BK2.out 2).trans rfl; have hf2 := blk_frozen BK2.out 2; have hz3 : wq.cell? ⟨g2, 3, none⟩ = some (.int .i64 0) := (blk_cell BK2.out 3).trans rfl; have hf3 := blk_frozen BK2.out 3; have hz4 : wq.cell? ⟨g2, 4, none⟩ = some (.int .i64 0) := (blk_cell BK2.out 4).trans rfl; have hf4 := blk_frozen BK2.out 4; have hz5 : wq.cell? ⟨g2, 5, none⟩ = some (.int .i64 0) := (blk_cell BK2.out 5).trans rfl; have hf5 := blk_frozen BK2.out 5; have hz6 : wq.cell? ⟨g2, 6, none⟩ = some (.int .i64 0) := (blk_cell BK2.out 6).trans rfl; have hf6 := blk_frozen BK2.out 6; have hz7 : wq.cell? ⟨g2, 7, none⟩ = some (.int .i64 0) := (blk_cell BK2.out 7).trans rfl; have hf7 := blk_frozen BK2.out 7; have hz8 : wq.cell? ⟨g2, 8, none⟩ = some (.int .i64 0) := (blk_cell BK2.out 8).trans rfl; have hf8 := blk_frozen BK2.out 8; have hz9 : wq.cell? ⟨g2, 9, none⟩ = some (.int .i64 0) := (blk_cell BK2.out 9).trans rfl; have hf9 := blk_frozen BK2.out 9; have hz10 : wq.cell? ⟨g2, 10, none⟩ = some (.int .i64 0) := (blk_cell BK2.out 10).trans rfl; have hf10 := blk_frozen BK2.out 10; have hz11 : wq.cell? ⟨g2, 11, none⟩ = some (.int .i64 0) := (blk_cell BK2.out 11).trans rfl; have hf11 := blk_frozen BK2.out 11; obtain ⟨A1, n1, hx1, hl1, hi1⟩ := at_row0 HR.out HB1.out H1.out; have hlt1 : ((0 : Int) < (l0.length : Int)) := (by have := H1.out; omega); have hI1 := Aside0.mk hi1; have hL1 := Aside0.mk hl1; clear hi1 hl1))
      have BK4 := Aside0.mk (blk_new wq (.cells (tabC l0 0 0) 79))
      have HB := Aside0.mk (below_alloc HB1.out (.cells (tabC l0 0 0) 79))
      have NE42 := Aside0.mk (show wq.heap.size ≠ g2 from fun e => absurd (blk_lt BK2.out) (by omega))
      have GE4 := Aside0.mk (show w.heap.size ≤ wq.heap.size from HB1.out.size)
      replace BK2 := Aside0.mk (blk_alloc BK2.out (.cells (tabC l0 0 0) 79))
      clear HB1 hx1 hI1 hL1
      have hta : (#[.int .i64 (l0.length : Int), .int .i64 ((rd_L5 l0 0).length : Int), .int .i64 0, .int .i64 0, .int .i64 0, .int .i64 0, .int .i64 0, .int .i64 0, .int .i64 0, .int .i64 0, .int .i64 0, .int .i64 0] : Array Value) = tabC l0 0 0 := rfl
      rw [hta]
      generalize wq.alloc (.cells (tabC l0 0 0) 79) = W4 at BK4 BK2 HB ⊢
      generalize wq.heap.size = g4 at BK4 NE42 GE4 ⊢
      clear hta hlt1
      go_loopw [31] (fun v31 wr => ∃ k : Nat, k ≤ l0.length ∧ v31 = .int .i64 k ∧ Aside0 (wr.heap[g4]? = some (.cells (tabC l0 k 0) 79 (0, 0))) ∧ Aside0 (wr.heap[g2]? = some (.cells #[.int .i64 0, .int .i64 0, .int .i64 0, .int .i64 0, .int .i64 0, .int .i64 0, .int .i64 0, .int .i64 0, .int .i64 0, .int .i64 0, .int .i64 0, .int .i64 0] 79 (0, 0))) ∧ Aside0 (Below w.heap.size w wr) ∧ Aside0 (∀ q, q < k → colP l0 q)) (fun v31 _ => l0.length - (intOf v31).toNat)
      case atStart => exact ⟨0, Nat.zero_le _, rfl, BK4, BK2, HB, ⟨fun q hq => absurd hq (Nat.not_lt_zero q)⟩⟩
      clear BK4 BK2 HB
      obtain ⟨k, hk, rfl, BK4, BK2, HB, HCOL⟩ := hrel
      by_cases hkd : k < l0.length
      rotate_left
      · obtain rfl : k = l0.length := by omega
        have HOK := Aside0.mk (show okT l0 from ⟨C1.out, C2.out, fun q hq => HCOL.out q hq⟩)
        have hv0 : wr.cell? ⟨g4, 0, none⟩ = some (.int .i64 (l0.length : Int)) := (blk_cell BK4.out 0).trans rfl
        have hv1 : wr.cell? ⟨g4, 1, none⟩ = some (.int .i64 ((rd_L5 l0 0).length : Int)) := (blk_cell BK4.out 1).trans rfl
        have hv2 : wr.cell? ⟨g4, 2, none⟩ = some (.int .i64 ((tabL l0).getD 0 0)) := tabC_at l0 l0.length 0 0 (by decide) wr g4 BK4.out
        have hv3 : wr.cell? ⟨g4, 3, none⟩ = some (.int .i64 ((tabL l0).getD 1 0)) := tabC_at l0 l0.length 0 1 (by decide) wr g4 BK4.out
        have hv4 : wr.cell? ⟨g4, 4, none⟩ = some (.int .i64 ((tabL l0).getD 2 0)) := tabC_at l0 l0.length 0 2 (by decide) wr g4 BK4.out
        have hv5 : wr.cell? ⟨g4, 5, none⟩ = some (.int .i64 ((tabL l0).getD 3 0)) := tabC_at l0 l0.length 0 3 (by decide) wr g4 BK4.out
        have hv6 : wr.cell? ⟨g4, 6, none⟩ = some (.int .i64 ((tabL l0).getD 4 0)) := tabC_at l0 l0.length 0 4 (by decide) wr g4 BK4.out
        have hv7 : wr.cell? ⟨g4, 7, none⟩ = some (.int .i64 ((tabL l0).getD 5 0)) := tabC_at l0 l0.length 0 5 (by decide) wr g4 BK4.out
        have hv8 : wr.cell? ⟨g4, 8, none⟩ = some (.int .i64 ((tabL l0).getD 6 0)) := tabC_at l0 l0.length 0 6 (by decide) wr g4 BK4.out
        have hv9 : wr.cell? ⟨g4, 9, none⟩ = some (.int .i64 ((tabL l0).getD 7 0)) := tabC_at l0 l0.length 0 7 (by decide) wr g4 BK4.out
        have hv10 : wr.cell? ⟨g4, 10, none⟩ = some (.int .i64 ((tabL l0).getD 8 0)) := tabC_at l0 l0.length 0 8 (by decide) wr g4 BK4.out
        have hv11 : wr.cell? ⟨g4, 11, none⟩ = some (.int .i64 ((tabL l0).getD 9 0)) := tabC_at l0 l0.length 0 9 (by decide) wr g4 BK4.out
        have hz0 : wr.cell? ⟨g2, 0, none⟩ = some (.int .i64 0) := (blk_cell BK2.out 0).trans rfl
        have hf0 := blk_frozen BK2.out 0
        have hz1 : wr.cell? ⟨g2, 1, none⟩ = some (.int .i64 0) := (blk_cell BK2.out 1).trans rfl
        have hf1 := blk_frozen BK2.out 1
        have hz2 : wr.cell? ⟨g2, 2, none⟩ = some (.int .i64 0) := (blk_cell BK2.out 2).trans rfl
        have hf2 := blk_frozen BK2.out 2
        have hz3 : wr.cell? ⟨g2, 3, none⟩ = some (.int .i64 0) := (blk_cell BK2.out 3).trans rfl
        have hf3 := blk_frozen BK2.out 3
        have hz4 : wr.cell? ⟨g2, 4, none⟩ = some (.int .i64 0) := (blk_cell BK2.out 4).trans rfl
        have hf4 := blk_frozen BK2.out 4
        have hz5 : wr.cell? ⟨g2, 5, none⟩ = some (.int .i64 0) := (blk_cell BK2.out 5).trans rfl
        have hf5 := blk_frozen BK2.out 5
        have hz6 : wr.cell? ⟨g2, 6, none⟩ = some (.int .i64 0) := (blk_cell BK2.out 6).trans rfl
        have hf6 := blk_frozen BK2.out 6
        have hz7 : wr.cell? ⟨g2, 7, none⟩ = some (.int .i64 0) := (blk_cell BK2.out 7).trans rfl
        have hf7 := blk_frozen BK2.out 7
        have hz8 : wr.cell? ⟨g2, 8, none⟩ = some (.int .i64 0) := (blk_cell BK2.out 8).trans rfl
        have hf8 := blk_frozen BK2.out 8
        have hz9 : wr.cell? ⟨g2, 9, none⟩ = some (.int .i64 0) := (blk_cell BK2.out 9).trans rfl
        have hf9 := blk_frozen BK2.out 9
        have hz10 : wr.cell? ⟨g2, 10, none⟩ = some (.int .i64 0) := (blk_cell BK2.out 10).trans rfl
        have hf10 := blk_frozen BK2.out 10
        have hz11 : wr.cell? ⟨g2, 11, none⟩ = some (.int .i64 0) := (blk_cell BK2.out 11).trans rfl
        have hf11 := blk_frozen BK2.out 11
        have HB1 := HB
        go_wp2
        refine bodyPost_ret (results_ct rfl _ _ g2 79 #[.int .i64 (l0.length : Int), .int .i64 ((rd_L5 l0 0).length : Int), .int .i64 ((tabL l0).getD 0 0), .int .i64 ((tabL l0).getD 1 0), .int .i64 ((tabL l0).getD 2 0), .int .i64 ((tabL l0).getD 3 0), .int .i64 ((tabL l0).getD 4 0), .int .i64 ((tabL l0).getD 5 0), .int .i64 ((tabL l0).getD 6 0), .int .i64 ((tabL l0).getD 7 0), .int .i64 ((tabL l0).getD 8 0), .int .i64 ((tabL l0).getD 9 0)] (0, 0) _ rfl (set12 _ _ _ _ _ _ _ _ _ _ _ _ _ _ _ _ _ _ _ _ _ _ _ _ BK2.out) Try.underlying79 rfl (by kernel_rfl)) rfl ?_
        have hl10 := list10 (tabL l0) (mixT_length _ _ _)
        refine ⟨(l0.length : Int) :: ((rd_L5 l0 0).length : Int) :: tabL l0, true, by simp [tabL, mixT_length], ?_, below12 _ _ _ _ _ _ _ _ _ _ _ _ HB1.out GE2.out, by rw [if_pos HOK.out]; exact ⟨rfl, rfl⟩⟩
        rw [hl10]
        rfl
      obtain ⟨A2, n2, hx0, hl2, hi2⟩ := at_row HR.out (Below.refl _ _) (k : Int) (by omega) (by omega)
      simp only [Int.toNat_natCast] at hx0
      have hx2 : wr.cell? (ad.add k) = _ := (HB.out.cell (World.block_lt_of_cell? _ _ hx0)).trans hx0
      have HI0 := Aside0.mk hi2
      have HL2 := Aside0.mk hl2
      clear hi2 hl2 hx0
      have hd4 : wr.cell? ⟨g4, 1, none⟩ = some (.int .i64 ((rd_L5 l0 0).length : Int)) := (blk_cell BK4.out 1).trans rfl
      by_cases e1 : (rd_L5 l0 (k : Int)).length = (rd_L5 l0 0).length
      rotate_left
      · have HN := Aside0.mk (show ¬ okT l0 from fun h => e1 (h.2.2 k hkd).1)
        have hne : (((rd_L5 l0 (k : Int)).length : Int) != ((rd_L5 l0 0).length : Int)) = true := bne_iff_ne.mpr (by omega)
        have hz0 : wr.cell? ⟨g2, 0, none⟩ = some (.int .i64 0) := (blk_cell BK2.out 0).trans rfl
        have hf0 := blk_frozen BK2.out 0
        have hz1 : wr.cell? ⟨g2, 1, none⟩ = some (.int .i64 0) := (blk_cell BK2.out 1).trans rfl
        have hf1 := blk_frozen BK2.out 1
        have hz2 : wr.cell? ⟨g2, 2, none⟩ = some (.int .i64 0) := (blk_cell BK2.out 2).trans rfl
        have hf2 := blk_frozen BK2.out 2
        have hz3 : wr.cell? ⟨g2, 3, none⟩ = some (.int .i64 0) := (blk_cell BK2.out 3).trans rfl
        have hf3 := blk_frozen BK2.out 3
        have hz4 : wr.cell? ⟨g2, 4, none⟩ = some (.int .i64 0) := (blk_cell BK2.out 4).trans rfl
        have hf4 := blk_frozen BK2.out 4
        have hz5 : wr.cell? ⟨g2, 5, none⟩ = some (.int .i64 0) := (blk_cell BK2.out 5).trans rfl
        have hf5 := blk_frozen BK2.out 5
        have hz6 : wr.cell? ⟨g2, 6, none⟩ = some (.int .i64 0) := (blk_cell BK2.out 6).trans rfl
        have hf6 := blk_frozen BK2.out 6
        have hz7 : wr.cell? ⟨g2, 7, none⟩ = some (.int .i64 0) := (blk_cell BK2.out 7).trans rfl
        have hf7 := blk_frozen BK2.out 7
        have hz8 : wr.cell? ⟨g2, 8, none⟩ = some (.int .i64 0) := (blk_cell BK2.out 8).trans rfl
        have hf8 := blk_frozen BK2.out 8
        have hz9 : wr.cell? ⟨g2, 9, none⟩ = some (.int .i64 0) := (blk_cell BK2.out 9).trans rfl
        have hf9 := blk_frozen BK2.out 9
        have hz10 : wr.cell? ⟨g2, 10, none⟩ = some (.int .i64 0) := (blk_cell BK2.out 10).trans rfl
        have hf10 := blk_frozen BK2.out 10
        have hz11 : wr.cell? ⟨g2, 11, none⟩ = some (.int .i64 0) := (blk_cell BK2.out 11).trans rfl
        have hf11 := blk_frozen BK2.out 11
        have HB1 := HB
        go_wp2
        refine bodyPost_ret (results_ct rfl _ _ g2 79 #[.int .i64 0, .int .i64 0, .int .i64 0, .int .i64 0, .int .i64 0, .int .i64 0, .int .i64 0, .int .i64 0, .int .i64 0, .int .i64 0, .int .i64 0, .int .i64 0] (0, 0) _ rfl (set12 _ _ _ _ _ _ _ _ _ _ _ _ _ _ _ _ _ _ _ _ _ _ _ _ BK2.out) Try.underlying79 rfl (by kernel_rfl)) rfl ?_
        exact ⟨List.replicate 12 0, false, rfl, rfl, below12 _ _ _ _ _ _ _ _ _ _ _ _ HB1.out GE2.out, by rw [if_neg HN.out]; exact ⟨rfl, rfl⟩⟩
      · have hne : (((rd_L5 l0 (k : Int)).length : Int) != ((rd_L5 l0 0).length : Int)) = false := bne_eq_false_iff_eq.mpr (by omega)
        have E1 := Aside0.mk e1
        clear e1
        go_wp2
        clear hne hx2
        go_loopw [44] (fun v44 ws => ∃ i : Nat, i ≤ (rd_L5 l0 (k : Int)).length ∧ v44 = .int .i64 i ∧ Aside0 (ws.heap[g4]? = some (.cells (tabC l0 k i) 79 (0, 0))) ∧ Aside0 (ws.heap[g2]? = some (.cells #[.int .i64 0, .int .i64 0, .int .i64 0, .int .i64 0, .int .i64 0, .int .i64 0, .int .i64 0, .int .i64 0, .int .i64 0, .int .i64 0, .int .i64 0, .int .i64 0] 79 (0, 0))) ∧ Aside0 (Below w.heap.size w ws) ∧ Aside0 (okC (rd_L5 l0 0).length (rd_L5 l0 (k : Int)) i)) (fun v44 _ => (rd_L5 l0 (k : Int)).length - (intOf v44).toNat)
        case atStart => exact ⟨0, Nat.zero_le _, rfl, BK4, BK2, HB, ⟨fun q hq => absurd hq (Nat.not_lt_zero q)⟩⟩
        clear BK4 BK2 HB hd4
        obtain ⟨i, hi, rfl, BK4, BK2, HB, HOKC⟩ := hrel
        have HI2 := Aside0.mk (Kd.C_below HI0.out HB.out)
        by_cases hid : i < (rd_L5 l0 (k : Int)).length
        rotate_left
        · obtain rfl : i = (rd_L5 l0 (k : Int)).length := by omega
          have HCOL2 := Aside0.mk (show ∀ q, q < k + 1 → colP l0 q from fun q hq => by
            rcases Nat.lt_or_ge q k with h1 | h1
            · exact HCOL.out q h1
            · obtain rfl : q = k := by omega
              exact ⟨E1.out, by have h2 := HOKC.out; rw [E1.out] at h2; exact h2⟩)
          have hw1 : wrap64 ((k : Int) + 1) = ((k + 1 : Nat) : Int) := by have := C1.out; rw [wrap64_small _ (by omega) (by omega)]; omega
          have hlt : decide (((rd_L5 l0 (k : Int)).length : Int) < ((rd_L5 l0 (k : Int)).length : Int)) = false := decide_eq_false (by omega)
          have HNX := Aside0.mk (show tabC l0 k (rd_L5 l0 (k : Int)).length = tabC l0 (k + 1) 0 by
            have := C1.out
            obtain rfl | rfl : k = 0 ∨ k = 1 := by omega
            · exact congrArg (fun L : List Int => (((l0.length : Int) :: ((rd_L5 l0 0).length : Int) :: L).map (Value.int .i64)).toArray) (mixT_next0 l0 _ rfl)
            · exact congrArg (fun L : List Int => (((l0.length : Int) :: ((rd_L5 l0 0).length : Int) :: L).map (Value.int .i64)).toArray) (mixT_next1 l0 _ rfl))
          go_wp2
          go_roundw
          case rel => exact ⟨k + 1, by omega, by rw [hw1], ⟨by rw [← HNX.out]; exact BK4.out⟩, BK2, HB, HCOL2⟩
          case measure => rw [hw1]; simp [intOf]; omega
        obtain ⟨ad2, e2, hx2⟩ := Kd.at_int HI2.out (i : Int) (by omega) (by omega)
        cases e2
        simp only [Int.toNat_natCast] at hx2
        obtain ⟨j, hj⟩ : ∃ j : Int, rd (rd_L5 l0 (k : Int)) (i : Int) = j := ⟨_, rfl⟩
        rw [hj] at hx2
        have HJ := Aside0.mk (show (rd_L5 l0 (k : Int)).getD i 0 = j from hj)
        clear hj
        have hd4 : wr.cell? ⟨g4, 1, none⟩ = some (.int .i64 ((rd_L5 l0 0).length : Int)) := (blk_cell BK4.out 1).trans rfl
        have hw9 : wrap64 (((rd_L5 l0 0).length : Int) - 1) = ((rd_L5 l0 0).length : Int) - 1 := by have := C2.out; exact wrap64_small _ (by omega) (by omega)
        by_cases e3 : 0 ≤ j ∧ j ≤ ((rd_L5 l0 0).length : Int) - 1
        rotate_left
        · have HF := Aside0.mk (within_false (a := j) (lo := 0) (hi := ((rd_L5 l0 0).length : Int) - 1) e3)
          have HN := Aside0.mk (show ¬ okT l0 from fun h => by
            have h1 := (h.2.2 k hkd).2 i (by have := E1.out; omega)
            rw [HJ.out] at h1
            exact e3 ⟨h1.1, h1.2.1⟩)
          clear e3
          go_wp2_with (first | (go_at_call 49; (first | rw [hw9] | skip); (with_reducible refine (casing_within.calls j 0 (((rd_L5 l0 0).length : Int) - 1) false _ HF.out).mono ?_); rintro e wq ⟨rfl, hdr⟩; clear hx2 hd4; have HB1 := Aside0.mk (show Below w.heap.size w wq by obtain ⟨nd, rfl⟩ := hdr; exact pw_below_drewN HB.out nd); replace BK2 := Aside0.mk (show wq.heap[g2]? = _ by obtain ⟨nd, rfl⟩ := hdr; exact BK2.out); replace BK4 := Aside0.mk (show wq.heap[g4]? = _ by obtain ⟨nd, rfl⟩ := hdr; exact BK4.out); replace HI2 := Aside0.mk (show Kd.C (Kd.int .i64) wq (some ad2) _ _ by obtain ⟨nd, rfl⟩ := hdr; exact Kd.C_drewN HI2.out nd); clear HB hdr; have hz0 : wq.cell? ⟨g2, 0, none⟩ = some (.int .i64 0) := (blk_cell BK2.out 0).trans rfl; have hf0 := blk_frozen BK2.out 0; have hz1 : wq.cell? ⟨g2, 1, none⟩ = some (.int .i64 0) := (blk_cell BK2.out 1).trans rfl; have hf1 := blk_frozen BK2.out 1; have hz2 : wq.cell? ⟨g2, 2, none⟩ = some (.int .i64 0) := (blk_cell BK2.out 2).trans rfl; have hf2 := blk_frozen BK2.out 2; have hz3 : wq.cell? ⟨g2, 3, none⟩ = some (.int .i64 0) := (blk_cell BK2.out 3).trans rfl; have hf3 := blk_frozen BK2.out 3; have hz4 : wq.cell? ⟨g2, 4, none⟩ = some (.int .i64 0) := (blk_cell BK2.out 4).trans rfl; have hf4 := blk_frozen BK2.out 4; have hz5 : wq.cell? ⟨g2, 5, none⟩ = some (.int .i64 0) := (blk_cell BK2.out 5).trans rfl; have hf5 := blk_frozen BK2.out 5; have hz6 : wq.cell? ⟨g2, 6, none⟩ = some (.int .i64 0) := (blk_cell BK2.out 6).trans rfl; have hf6 := blk_frozen BK2.out 6; have hz7 : wq.cell? ⟨g2, 7, none⟩ = some (.int .i64 0) := (blk_cell BK2.out 7).trans rfl; have hf7 := blk_frozen BK2.out 7; have hz8 : wq.cell? ⟨g2, 8, none⟩ = some (.int .i64 0) := (blk_cell BK2.out 8).trans rfl; have hf8 := blk_frozen BK2.out 8; have hz9 : wq.cell? ⟨g2, 9, none⟩ = some (.int .i64 0) := (blk_cell BK2.out 9).trans rfl; have hf9 := blk_frozen BK2.out 9; have hz10 : wq.cell? ⟨g2, 10, none⟩ = some (.int .i64 0) := (blk_cell BK2.out 10).trans rfl; have hf10 := blk_frozen BK2.out 10; have hz11 : wq.cell? ⟨g2, 11, none⟩ = some (.int .i64 0) := (blk_cell BK2.out 11).trans rfl; have hf11 := blk_frozen BK2.out 11))
          refine bodyPost_ret (results_ct rfl _ _ g2 79 #[.int .i64 0, .int .i64 0, .int .i64 0, .int .i64 0, .int .i64 0, .int .i64 0, .int .i64 0, .int .i64 0, .int .i64 0, .int .i64 0, .int .i64 0, .int .i64 0] (0, 0) _ rfl (set12 _ _ _ _ _ _ _ _ _ _ _ _ _ _ _ _ _ _ _ _ _ _ _ _ BK2.out) Try.underlying79 rfl (by kernel_rfl)) rfl ?_
          exact ⟨List.replicate 12 0, false, rfl, rfl, below12 _ _ _ _ _ _ _ _ _ _ _ _ HB1.out GE2.out, by rw [if_neg HN.out]; exact ⟨rfl, rfl⟩⟩
        · have HT9 := Aside0.mk (within_true (a := j) (lo := 0) (hi := ((rd_L5 l0 0).length : Int) - 1) e3.1 e3.2)
          have E3 := Aside0.mk e3
          clear e3
          have hti : ((rd_L5 l0 (k : Int)).take i).length = i := by rw [List.length_take]; omega
          have hrl : (rd_L5 l0 (k : Int)).length ≤ 5 := by have := C2.out; have := E1.out; omega
          have HIN := Aside0.mk (show (i : Int) ≤ (n2 : Int) by have := HL2.out; omega)
          have HID := Aside0.mk hid
          have HTI := Aside0.mk hti
          have HRL := Aside0.mk hrl
          clear hti hrl
          by_cases e4 : j ∈ (rd_L5 l0 (k : Int)).take i
          · have HCN := Aside0.mk ((Contains_f j ((rd_L5 l0 (k : Int)).take i) (by have := HTI.out; have := HRL.out; omega) (i + 1) (by have := HTI.out; omega)).trans (congrArg some (decide_eq_true e4)))
            have HN := Aside0.mk (show ¬ okT l0 from fun h => by
              have h1 := (h.2.2 k hkd).2 i (by have := E1.out; omega)
              rw [HJ.out] at h1
              exact h1.2.2 e4)
            clear e4
            have hin := HIN.out
            go_wp2_with (first | (go_at_call 49; (first | rw [hw9] | skip); (with_reducible refine (casing_within.calls j 0 (((rd_L5 l0 0).length : Int) - 1) true _ HT9.out).mono ?_); rintro e wq ⟨rfl, hdr⟩; clear hx2 hd4; replace HB := Aside0.mk (show Below w.heap.size w wq by obtain ⟨nd, rfl⟩ := hdr; exact pw_below_drewN HB.out nd); replace BK2 := Aside0.mk (show wq.heap[g2]? = _ by obtain ⟨nd, rfl⟩ := hdr; exact BK2.out); replace BK4 := Aside0.mk (show wq.heap[g4]? = _ by obtain ⟨nd, rfl⟩ := hdr; exact BK4.out); replace HI2 := Aside0.mk (show Kd.C (Kd.int .i64) wq (some ad2) _ _ by obtain ⟨nd, rfl⟩ := hdr; exact Kd.C_drewN HI2.out nd); clear hdr; have hz0 : wq.cell? ⟨g2, 0, none⟩ = some (.int .i64 0) := (blk_cell BK2.out 0).trans rfl; have hf0 := blk_frozen BK2.out 0; have hz1 : wq.cell? ⟨g2, 1, none⟩ = some (.int .i64 0) := (blk_cell BK2.out 1).trans rfl; have hf1 := blk_frozen BK2.out 1; have hz2 : wq.cell? ⟨g2, 2, none⟩ = some (.int .i64 0) := (blk_cell BK2.out 2).trans rfl; have hf2 := blk_frozen BK2.out 2; have hz3 : wq.cell? ⟨g2, 3, none⟩ = some (.int .i64 0) := (blk_cell BK2.out 3).trans rfl; have hf3 := blk_frozen BK2.out 3; have hz4 : wq.cell? ⟨g2, 4, none⟩ = some (.int .i64 0) := (blk_cell BK2.out 4).trans rfl; have hf4 := blk_frozen BK2.out 4; have hz5 : wq.cell? ⟨g2, 5, none⟩ = some (.int .i64 0) := (blk_cell BK2.out 5).trans rfl; have hf5 := blk_frozen BK2.out 5; have hz6 : wq.cell? ⟨g2, 6, none⟩ = some (.int .i64 0) := (blk_cell BK2.out 6).trans rfl; have hf6 := blk_frozen BK2.out 6; have hz7 : wq.cell? ⟨g2, 7, none⟩ = some (.int .i64 0) := (blk_cell BK2.out 7).trans rfl; have hf7 := blk_frozen BK2.out 7; have hz8 : wq.cell? ⟨g2, 8, none⟩ = some (.int .i64 0) := (blk_cell BK2.out 8).trans rfl; have hf8 := blk_frozen BK2.out 8; have hz9 : wq.cell? ⟨g2, 9, none⟩ = some (.int .i64 0) := (blk_cell BK2.out 9).trans rfl; have hf9 := blk_frozen BK2.out 9; have hz10 : wq.cell? ⟨g2, 10, none⟩ = some (.int .i64 0) := (blk_cell BK2.out 10).trans rfl; have hf10 := blk_frozen BK2.out 10; have hz11 : wq.cell? ⟨g2, 11, none⟩ = some (.int .i64 0) := (blk_cell BK2.out 11).trans rfl; have hf11 := blk_frozen BK2.out 11) | (go_at_call 81; have hcon := slices_Contains_int_int.calls (i + 1) (some ad2) n2 ((rd_L5 l0 (k : Int)).take i) j true wq (Kd.C_take HI2.out (Nat.le_of_lt HID.out)) (by have := HTI.out; have := HIN.out; omega) HCN.out; rw [HTI.out] at hcon; refine Calls.mono hcon ?_; clear hcon; rintro e wq ⟨rfl, hdr⟩; replace HB := Aside0.mk (show Below w.heap.size w wq by obtain ⟨nd, rfl⟩ := hdr; exact pw_below_drewN HB.out nd); replace BK2 := Aside0.mk (show wq.heap[g2]? = _ by obtain ⟨nd, rfl⟩ := hdr; exact BK2.out); replace BK4 := Aside0.mk (show wq.heap[g4]? = _ by obtain ⟨nd, rfl⟩ := hdr; exact BK4.out); replace HI2 := Aside0.mk (show Kd.C (Kd.int .i64) wq (some ad2) _ _ by obtain ⟨nd, rfl⟩ := hdr; exact Kd.C_drewN HI2.out nd); clear hdr; have hz0 : wq.cell? ⟨g2, 0, none⟩ = some (.int .i64 0) := (blk_cell BK2.out 0).trans rfl; have hf0 := blk_frozen BK2.out 0; have hz1 : wq.cell? ⟨g2, 1, none⟩ = some (.int .i64 0) := (blk_cell BK2.out 1).trans rfl; have hf1 := blk_frozen BK2.out 1; have hz2 : wq.cell? ⟨g2, 2, none⟩ = some (.int .i64 0) := (blk_cell BK2.out 2).trans rfl; have hf2 := blk_frozen BK2.out 2; have hz3 : wq.cell? ⟨g2, 3, none⟩ = some (.int .i64 0) := (blk_cell BK2.out 3).trans rfl; have hf3 := blk_frozen BK2.out 3; have hz4 : wq.cell? ⟨g2, 4, none⟩ = some (.int .i64 0) := (blk_cell BK2.out 4).trans rfl; have hf4 := blk_frozen BK2.out 4; have hz5 : wq.cell? ⟨g2, 5, none⟩ = some (.int .i64 0) := (blk_cell BK2.out 5).trans rfl; have hf5 := blk_frozen BK2.out 5; have hz6 : wq.cell? ⟨g2, 6, none⟩ = some (.int .i64 0) := (blk_cell BK2.out 6).trans rfl; have hf6 := blk_frozen BK2.out 6; have hz7 : wq.cell? ⟨g2, 7, none⟩ = some (.int .i64 0) := (blk_cell BK2.out 7).trans rfl; have hf7 := blk_frozen BK2.out 7; have hz8 : wq.cell? ⟨g2, 8, none⟩ = some (.int .i64 0) := (blk_cell BK2.out 8).trans rfl; have hf8 := blk_frozen BK2.out 8; have hz9 : wq.cell? ⟨g2, 9, none⟩ = some (.int .i64 0) := (blk_cell BK2.out 9).trans rfl; have hf9 := blk_frozen BK2.out 9; have hz10 : wq.cell? ⟨g2, 10, none⟩ = some (.int .i64 0) := (blk_cell BK2.out 10).trans rfl; have hf10 := blk_frozen BK2.out 10; have hz11 : wq.cell? ⟨g2, 11, none⟩ = some (.int .i64 0) := (blk_cell BK2.out 11).trans rfl; have hf11 := blk_frozen BK2.out 11))
            have HB1 := HB
            refine bodyPost_ret (results_ct rfl _ _ g2 79 #[.int .i64 0, .int .i64 0, .int .i64 0, .int .i64 0, .int .i64 0, .int .i64 0, .int .i64 0, .int .i64 0, .int .i64 0, .int .i64 0, .int .i64 0, .int .i64 0] (0, 0) _ rfl (set12 _ _ _ _ _ _ _ _ _ _ _ _ _ _ _ _ _ _ _ _ _ _ _ _ BK2.out) Try.underlying79 rfl (by kernel_rfl)) rfl ?_
            exact ⟨List.replicate 12 0, false, rfl, rfl, below12 _ _ _ _ _ _ _ _ _ _ _ _ HB1.out GE2.out, by rw [if_neg HN.out]; exact ⟨rfl, rfl⟩⟩
          have HCN := Aside0.mk ((Contains_f j ((rd_L5 l0 (k : Int)).take i) (by have := HTI.out; have := HRL.out; omega) (i + 1) (by have := HTI.out; omega)).trans (congrArg some (decide_eq_false e4)))
          have E4 := Aside0.mk e4
          clear e4
          have hin := HIN.out
          have hk2 : (k : Int) < 2 := by have := C1.out; omega
          have hi5 : (i : Int) < 5 := by have := HRL.out; have := HID.out; omega
          go_wp2_with (first | (go_at_call 49; (first | rw [hw9] | skip); (with_reducible refine (casing_within.calls j 0 (((rd_L5 l0 0).length : Int) - 1) true _ HT9.out).mono ?_); rintro e wq ⟨rfl, hdr⟩; clear hx2 hd4; replace HB := Aside0.mk (show Below w.heap.size w wq by obtain ⟨nd, rfl⟩ := hdr; exact pw_below_drewN HB.out nd); replace BK2 := Aside0.mk (show wq.heap[g2]? = _ by obtain ⟨nd, rfl⟩ := hdr; exact BK2.out); replace BK4 := Aside0.mk (show wq.heap[g4]? = _ by obtain ⟨nd, rfl⟩ := hdr; exact BK4.out); replace HI2 := Aside0.mk (show Kd.C (Kd.int .i64) wq (some ad2) _ _ by obtain ⟨nd, rfl⟩ := hdr; exact Kd.C_drewN HI2.out nd); clear hdr; have hz0 : wq.cell? ⟨g2, 0, none⟩ = some (.int .i64 0) := (blk_cell BK2.out 0).trans rfl; have hf0 := blk_frozen BK2.out 0; have hz1 : wq.cell? ⟨g2, 1, none⟩ = some (.int .i64 0) := (blk_cell BK2.out 1).trans rfl; have hf1 := blk_frozen BK2.out 1; have hz2 : wq.cell? ⟨g2, 2, none⟩ = some (.int .i64 0) := (blk_cell BK2.out 2).trans rfl; have hf2 := blk_frozen BK2.out 2; have hz3 : wq.cell? ⟨g2, 3, none⟩ = some (.int .i64 0) := (blk_cell BK2.out 3).trans rfl; have hf3 := blk_frozen BK2.out 3; have hz4 : wq.cell? ⟨g2, 4, none⟩ = some (.int .i64 0) := (blk_cell BK2.out 4).trans rfl; have hf4 := blk_frozen BK2.out 4; have hz5 : wq.cell? ⟨g2, 5, none⟩ = some (.int .i64 0) := (blk_cell BK2.out 5).trans rfl; have hf5 := blk_frozen BK2.out 5; have hz6 : wq.cell? ⟨g2, 6, none⟩ = some (.int .i64 0) := (blk_cell BK2.out 6).trans rfl; have hf6 := blk_frozen BK2.out 6; have hz7 : wq.cell? ⟨g2, 7, none⟩ = some (.int .i64 0) := (blk_cell BK2.out 7).trans rfl; have hf7 := blk_frozen BK2.out 7; have hz8 : wq.cell? ⟨g2, 8, none⟩ = some (.int .i64 0) := (blk_cell BK2.out 8).trans rfl; have hf8 := blk_frozen BK2.out 8; have hz9 : wq.cell? ⟨g2, 9, none⟩ = some (.int .i64 0) := (blk_cell BK2.out 9).trans rfl; have hf9 := blk_frozen BK2.out 9; have hz10 : wq.cell? ⟨g2, 10, none⟩ = some (.int .i64 0) := (blk_cell BK2.out 10).trans rfl; have hf10 := blk_frozen BK2.out 10; have hz11 : wq.cell? ⟨g2, 11, none⟩ = some (.int .i64 0) := (blk_cell BK2.out 11).trans rfl; have hf11 := blk_frozen BK2.out 11) | (go_at_call 81; have hcon := slices_Contains_int_int.calls (i + 1) (some ad2) n2 ((rd_L5 l0 (k : Int)).take i) j false wq (Kd.C_take HI2.out (Nat.le_of_lt HID.out)) (by have := HTI.out; have := HIN.out; omega) HCN.out; rw [HTI.out] at hcon; refine Calls.mono hcon ?_; clear hcon; rintro e wq ⟨rfl, hdr⟩; replace HB := Aside0.mk (show Below w.heap.size w wq by obtain ⟨nd, rfl⟩ := hdr; exact pw_below_drewN HB.out nd); replace BK2 := Aside0.mk (show wq.heap[g2]? = _ by obtain ⟨nd, rfl⟩ := hdr; exact BK2.out); replace BK4 := Aside0.mk (show wq.heap[g4]? = _ by obtain ⟨nd, rfl⟩ := hdr; exact BK4.out); replace HI2 := Aside0.mk (show Kd.C (Kd.int .i64) wq (some ad2) _ _ by obtain ⟨nd, rfl⟩ := hdr; exact Kd.C_drewN HI2.out nd); clear hdr; have hz0 : wq.cell? ⟨g2, 0, none⟩ = some (.int .i64 0) := (blk_cell BK2.out 0).trans rfl; have hf0 := blk_frozen BK2.out 0; have hz1 : wq.cell? ⟨g2, 1, none⟩ = some (.int .i64 0) := (blk_cell BK2.out 1).trans rfl; have hf1 := blk_frozen BK2.out 1; have hz2 : wq.cell? ⟨g2, 2, none⟩ = some (.int .i64 0) := (blk_cell BK2.out 2).trans rfl; have hf2 := blk_frozen BK2.out 2; have hz3 : wq.cell? ⟨g2, 3, none⟩ = some (.int .i64 0) := (blk_cell BK2.out 3).trans rfl; have hf3 := blk_frozen BK2.out 3; have hz4 : wq.cell? ⟨g2, 4, none⟩ = some (.int .i64 0) := (blk_cell BK2.out 4).trans rfl; have hf4 := blk_frozen BK2.out 4; have hz5 : wq.cell? ⟨g2, 5, none⟩ = some (.int .i64 0) := (blk_cell BK2.out 5).trans rfl; have hf5 := blk_frozen BK2.out 5; have hz6 : wq.cell? ⟨g2, 6, none⟩ = some (.int .i64 0) := (blk_cell BK2.out 6).trans rfl; have hf6 := blk_frozen BK2.out 6; have hz7 : wq.cell? ⟨g2, 7, none⟩ = some (.int .i64 0) := (blk_cell BK2.out 7).trans rfl; have hf7 := blk_frozen BK2.out 7; have hz8 : wq.cell? ⟨g2, 8, none⟩ = some (.int .i64 0) := (blk_cell BK2.out 8).trans rfl; have hf8 := blk_frozen BK2.out 8; have hz9 : wq.cell? ⟨g2, 9, none⟩ = some (.int .i64 0) := (blk_cell BK2.out 9).trans rfl; have hf9 := blk_frozen BK2.out 9; have hz10 : wq.cell? ⟨g2, 10, none⟩ = some (.int .i64 0) := (blk_cell BK2.out 10).trans rfl; have hf10 := blk_frozen BK2.out 10; have hz11 : wq.cell? ⟨g2, 11, none⟩ = some (.int .i64 0) := (blk_cell BK2.out 11).trans rfl; have hf11 := blk_frozen BK2.out 11; have hst : wq.cell? ⟨g4, 2 + k * 5 + i, none⟩ = some (.int .i64 ((mixT l0 k i).getD (k * 5 + i) 0)) := (by rw [show 2 + k * 5 + i = (k * 5 + i) + 2 from by omega]; exact tabC_at l0 k i (k * 5 + i) (by omega) wq g4 BK4.out); have hsf := blk_frozen BK4.out (2 + k * 5 + i)))
          have hw1 : ((i : Int) + 1) = ((i + 1 : Nat) : Int) := by omega
          have HST := Aside0.mk (tabC_set l0 k i j (by omega) (by omega) HID.out HJ.out)
          refine ⟨⟨i + 1, by omega, by rw [hw1], ⟨by rw [← HST.out]; exact blk_set BK4.out _ _⟩, ⟨blk_far BK2.out (fun e => NE42.out e.symm) _⟩, ⟨below_set HB.out GE4.out⟩, ⟨fun q hq => ?_⟩⟩, by rw [hw1]; simp [intOf]; omega⟩
          rcases Nat.lt_or_ge q i with h1 | h1
          · exact HOKC.out q h1
          · obtain rfl : q = i := by omega
            rw [HJ.out]
            exact ⟨E3.out.1, E3.out.2, E4.out⟩
theorem casing_newTable.calls (k : Nat) (A0 : Option Addr) (c0 : Nat) (l0 : List (List Int)) (r1 : Int) (r2 : Int) (r3 : Int) (r4 : Int) (r5 : Int) (r6 : Int) (r7 : Int) (r8 : Int) (r9 : Int) (r10 : Int) (r11 : Int) (r12 : Int) (r13 : Bool) (w : World) (hr0 : Kd.C (Kd.slice 3 (Kd.int .i64)) w A0 l0.length l0) (hc0 : l0.length ≤ c0) (h : casing_newTable.f k l0 = some (r1, r2, r3, r4, r5, r6, r7, r8, r9, r10, r11, r12, r13)) :
    Calls Try.prog 60 #[.slice A0 l0.length c0] w fun e w' => e = .returned (.tuple #[.agg #[.int .i64 r1, .int .i64 r2, .int .i64 r3, .int .i64 r4, .int .i64 r5, .int .i64 r6, .int .i64 r7, .int .i64 r8, .int .i64 r9, .int .i64 r10, .int .i64 r11, .int .i64 r12], .bool r13]) ∧ Below w.heap.size w w' := by
  refine (newTable_any A0 c0 l0 w hr0 hc0).mono ?_
  rintro e w' ⟨t, b, hl, rfl, hb, hif⟩
  refine ⟨?_, hb⟩
  unfold casing_newTable.f at h
  by_cases hok : okT l0
  rotate_left
  · rw [if_neg hok] at h hif
    obtain ⟨rfl, rfl⟩ := hif
    cases h
    rfl
  rw [if_pos hok] at h hif
  obtain ⟨rfl, rfl⟩ := hif
  cases h
  rw [list10 (tabL l0) (mixT_length _ _ _)]
  rfl
end Go.Proofs.Ytmcihijobilcgaa.PAll
end
section
namespace Go.Proofs.Ytmcihijobilcgaa.PAll
open Go.RowKit Go.Proofs.YtmcihijobilcgaaW.PrintWords Go.Proofs.YtmcihijobilcgaaW.PrintLast Go.Proofs.YtmcihijobilcgaaW.PrintMore
attribute [local go_sem] max2_int max_two
def slices_Reverse_byte_byte.l0 : Nat → List Int → Int → Int → Option (List Int)
  | 0, _, _, _ => none
  | k + 1, x0, x2, x3 => if x2 < x3 then (if 0 ≤ x3 then (if x3 < (x0.length : Int) then (if 0 ≤ x2 then (if x2 < (x0.length : Int) then (slices_Reverse_byte_byte.l0 k ((x0.set (x2 : Int).toNat (rd x0 x3)).set (x3 : Int).toNat (rd x0 x2)) (wrap64 (x2 + 1)) (wrap64 (x3 - 1))) else (none)) else (none)) else (none)) else (none)) else (some x0)
def slices_Reverse_byte_byte.f (k : Nat) (l0 : List Int) : Option (List Int) := slices_Reverse_byte_byte.l0 k l0 0 (wrap64 ((l0.length : Int) - 1))
def slices_Reverse_byte_byte.T3 : Bool × List (List Nat × List Nat) := (true, [([], []), ([], []), ([], []), ([], []), ([], []), ([], []), ([4, 5], [4, 5]), ([6], [6]), ([], []), ([], []), ([8, 9], [8, 9]), ([10], [10]), ([0, 1, 0, 1, 4, 5, 6, 7, 11], [0, 1]), ([12, 7, 0, 1, 4, 5, 6, 7, 11], [7, 12]), ([2, 3, 0, 1, 2, 3, 4, 5, 6, 7, 8, 9, 10, 11, 12, 13], [2, 3]), ([14, 11, 13, 0, 1, 2, 3, 4, 5, 6, 7, 8, 9, 10, 11, 12, 13], [11, 14])])
def slices_Reverse_byte_byte.B3 : List Nat := [0, 0, 0, 0, 0, 0, 48, 112, 0, 0, 768, 1792, 4083, 8179, 16383, 32767]
theorem slices_Reverse_byte_byte.tab3 : rtab .any (opsOf Try.f84 3) = slices_Reverse_byte_byte.T3 := by kernel_rfl
theorem slices_Reverse_byte_byte.bits3 : waitsOk slices_Reverse_byte_byte.T3.2 slices_Reverse_byte_byte.B3 = true := by kernel_rfl
end Go.Proofs.Ytmcihijobilcgaa.PAll
end
section
namespace Go.Proofs.Ytmcihijobilcgaa.PAll
open Go.RowKit Go.Proofs.YtmcihijobilcgaaW.PrintWords Go.Proofs.YtmcihijobilcgaaW.PrintLast Go.Proofs.YtmcihijobilcgaaW.PrintMore
def BW (w : World) (g : Nat) (xs : List Int) : Prop :=
  ∃ cs fz, w.heap[g]? = some (.cells cs 5 fz) ∧ xs.length ≤ 140737488355328 ∧ (∀ j, j < xs.length → cs[j]? = some (.int .u8 (xs.getD j 0))) ∧ ∀ j, j < xs.length → ¬ (fz.1 ≤ j ∧ j < fz.2)
theorem BW_drew {w : World} {g : Nat} {xs : List Int} (h : BW w g xs) : BW w.drew g xs := h
theorem BW_reads {w : World} {g : Nat} {xs : List Int} (h : BW w g xs) : Kd.C (Kd.int .u8) w (some ⟨g, 0, none⟩) xs.length xs := by
  obtain ⟨cs, fz, hg, hl, hc, hf⟩ := h
  refine Kd.C_of_reads (enc := Value.int .u8) (d := (0 : Int)) (h1 := fun _ => rfl) ⟨rfl, by omega, fun _ => ⟨_, rfl, fun j hj => ?_⟩⟩
  rw [Addr.add_lit]
  simp [World.cell?, hg, hc j hj]
theorem BW_celln {w : World} {g : Nat} {xs : List Int} (h : BW w g xs) (i : Int) (h0 : 0 ≤ i) (hi : i < (xs.length : Int)) : w.cell? ⟨g, i.toNat, none⟩ = some (.int .u8 (rd xs i)) ∧ w.frozen? ⟨g, i.toNat, none⟩ = false := by
  obtain ⟨cs, fz, hg, hl, hc, hf⟩ := h
  have hj : i.toNat < xs.length := by omega
  refine ⟨?_, ?_⟩
  · have h1 := hc i.toNat hj
    simp [World.cell?, hg, h1, rd, hj]
  · have h2 := hf i.toNat hj
    simp only [World.frozen?, hg]
    simp only [Bool.and_eq_false_iff, decide_eq_false_iff_not]
    omega
theorem BW_putn {w : World} {g : Nat} {xs : List Int} (h : BW w g xs) (i : Int) (x : Int) : BW (w.setCell ⟨g, i.toNat, none⟩ (.int .u8 x)) g (xs.set i.toNat x) := by
  obtain ⟨cs, fz, hg, hl, hc, hf⟩ := h
  refine ⟨cs.setIfInBounds i.toNat (.int .u8 x), fz, ?_, by simpa using hl, fun j hj => ?_, fun j hj => hf j (by simpa using hj)⟩
  · simp only [World.setCell]
    rw [Array.getElem?_modify]
    simp [hg]
  · have hj' : j < xs.length := by simpa using hj
    have hcs : j < cs.size := by
      have h1 := hc j hj'
      exact (Array.getElem?_eq_some_iff.1 h1).1
    by_cases e : i.toNat = j
    · subst e
      simp [hcs, hj']
    · rw [Array.getElem?_setIfInBounds_ne (by omega), hc j hj']
      simp [List.getD, List.getElem?_set, e]
set_option maxHeartbeats 8000000 in
set_option maxRecDepth 100000 in
theorem Reverse_bytes (k : Nat) (g c : Nat) (l0 : List Int) (r : List Int) (w0 w : World) (hB : Below w0.heap.size w0 w) (hge : w0.heap.size ≤ g) (ho0 : BW w g l0) (h : slices_Reverse_byte_byte.f k l0 = some r) :
    Calls Try.prog 84 #[.slice (some ⟨g, 0, none⟩) l0.length c] w fun e w' => e = .returned (.tuple #[]) ∧ (BW w' g r ∧ l0.length = r.length) ∧ Below w0.heap.size w0 w' := by
  have HO0 := Aside0.mk (show BW w g l0 ∧ l0.length = l0.length from ⟨ho0, rfl⟩)
  have HB := Aside0.mk hB
  have GB8 := Aside0.mk hge
  clear hB hge
  have H : (slices_Reverse_byte_byte.l0 k l0 0 (wrap64 ((l0.length : Int) - 1))) = some r := h
  clear h
  have H' := Aside0.mk H
  clear H
  go_enter Try.func84, Try.ntmps84
  go_wp2
  go_loopg [2, 3] k (fun kq v2 v3 w' => ∃ (x0_1 : List Int) (x2_1 : Int) (x3_1 : Int), v2 = .int .i64 x2_1 ∧ v3 = .int .i64 x3_1 ∧ Aside0 (slices_Reverse_byte_byte.l0 kq x0_1 x2_1 x3_1 = some r) ∧ Aside0 (kq ≤ k) ∧ Aside0 (BW w' g x0_1 ∧ l0.length = x0_1.length) ∧ Aside0 (Below w0.heap.size w0 w'))
  case atStart => exact ⟨(l0), (0), (wrap64 ((l0.length : Int) - 1)), (by first | rfl | (simp; done) | (simp [*]; done)), (by first | rfl | (simp; done) | (simp [*]; done)), H', ⟨Nat.le_refl _⟩, ⟨by first | exact HO0.out | exact ⟨HO0.out.1, rfl⟩ | exact ⟨HO0.out.1, trivial⟩⟩, ⟨by repeat (first | (with_reducible first | exact HB.out | apply below_alloc | apply pw_below_drewN | apply below_drew1) | exact HB.out)⟩⟩
  clear H'
  try clear c1
  try clear p2
  obtain ⟨x0_1, x2_1, x3_1, rfl, rfl, HA, HK1, HO_0, HB⟩ := hrel
  have hl0_1 := HO_0.out.2
  (try simp only [hl0_1])
  cases gk with
  | zero => exact absurd HA.out (by simp [slices_Reverse_byte_byte.l0])
  | succ k1 =>
    have H := HA.out
    clear HA
    simp only [slices_Reverse_byte_byte.l0] at H
    by_cases c3 : x2_1 < x3_1
    rotate_left
    · rw [if_neg c3] at H
      have c3b0 : decide (x2_1 < x3_1) = false := decide_eq_false c3
      clear c3
      obtain rfl := Option.some.inj H
      go_wp2
      first | go_end0 | ((try simp only [Exit.inBlock, Exit.then]); refine bodyPost_ret (results_none rfl _ _ _) rfl ?_)
      have hb_ : Below w0.heap.size w0 wr := HB.out
      first | exact ⟨rfl, HO_0.out.1, hb_⟩ | exact ⟨rfl, HO_0.out, hb_⟩ | exact ⟨rfl, HO_0.out.1, HO_0.out.2, hb_⟩ | exact ⟨rfl, ⟨HO_0.out.1, HO_0.out.2⟩, hb_⟩
    rw [if_pos c3] at H
    have c3b0 : decide (x2_1 < x3_1) = true := decide_eq_true c3
    clear c3
    by_cases c4 : 0 ≤ x3_1
    rotate_left
    · rw [if_neg c4] at H
      exact absurd H (by simp)
    rw [if_pos c4] at H
    have c4b0 : decide (0 ≤ x3_1) = true := decide_eq_true c4
    clear c4
    by_cases c5 : x3_1 < (x0_1.length : Int)
    rotate_left
    · rw [if_neg c5] at H
      exact absurd H (by simp)
    rw [if_pos c5] at H
    have c5b0 : decide (x3_1 < (x0_1.length : Int)) = true := decide_eq_true c5
    clear c5
    by_cases c6 : 0 ≤ x2_1
    rotate_left
    · rw [if_neg c6] at H
      exact absurd H (by simp)
    rw [if_pos c6] at H
    have c6b0 : decide (0 ≤ x2_1) = true := decide_eq_true c6
    clear c6
    by_cases c7 : x2_1 < (x0_1.length : Int)
    rotate_left
    · rw [if_neg c7] at H
      exact absurd H (by simp)
    rw [if_pos c7] at H
    have c7b0 : decide (x2_1 < (x0_1.length : Int)) = true := decide_eq_true c7
    clear c7
    obtain ⟨y199, hy199⟩ : ∃ y_ : List Int, y_ = (x0_1.set (x2_1 : Int).toNat (rd x0_1 x3_1)) := ⟨_, rfl⟩
    replace H : (slices_Reverse_byte_byte.l0 k1 (y199.set (x3_1 : Int).toNat (rd x0_1 x2_1)) (wrap64 (x2_1 + 1)) (wrap64 (x3_1 - 1))) = some r := by first | (rw [hy199]; with_reducible exact H) | (have H2_ := (Option.bind_some _ _).symm.trans H; rw [hy199]; with_reducible exact H2_) | (have H2_ := (Option.bind_some _ _).symm.trans H; with_reducible exact H2_) | with_reducible exact H | (rw [hy199]; exact H) | exact H
    have Ny199 := Aside0.mk hy199
    clear hy199
    obtain ⟨y200, hy200⟩ : ∃ y_ : List Int, y_ = (y199.set (x3_1 : Int).toNat (rd x0_1 x2_1)) := ⟨_, rfl⟩
    replace H : (slices_Reverse_byte_byte.l0 k1 y200 (wrap64 (x2_1 + 1)) (wrap64 (x3_1 - 1))) = some r := by first | (rw [hy200]; with_reducible exact H) | (have H2_ := (Option.bind_some _ _).symm.trans H; rw [hy200]; with_reducible exact H2_) | (have H2_ := (Option.bind_some _ _).symm.trans H; with_reducible exact H2_) | with_reducible exact H | (rw [hy200]; exact H) | exact H
    have Ny200 := Aside0.mk hy200
    clear hy200
    have H' := Aside0.mk H
    clear H
    try go_wp2
    have n0_ := Aside0.mk ((show BW wr.drew g x0_1 ∧ l0.length = x0_1.length from ⟨BW_drew HO_0.out.1, HO_0.out.2⟩))
    have n1_ := Aside0.mk (below_drew1 HB.out)
    clear HO_0
    skip
    clear HB
    have HO_0 := n0_
    skip
    have HB := n1_
    clear n0_ n1_
    have p197 : 0 ≤ (x3_1 : Int) := of_decide_eq_true (by first | (with_reducible assumption) | assumption)
    have q197 : x3_1 < (x0_1.length : Int) := of_decide_eq_true (by first | (with_reducible assumption) | assumption)
    obtain ⟨ad197, e197, hx197_0⟩ := Kd.at_int (BW_reads HO_0.out.1) x3_1 p197 q197
    cases e197
    replace p197 := eq_true p197
    replace q197 := eq_true q197
    have p198 : 0 ≤ (x2_1 : Int) := of_decide_eq_true (by first | (with_reducible assumption) | assumption)
    have q198 : x2_1 < (x0_1.length : Int) := of_decide_eq_true (by first | (with_reducible assumption) | assumption)
    obtain ⟨ad198, e198, hx198_0⟩ := Kd.at_int (BW_reads HO_0.out.1) x2_1 p198 q198
    cases e198
    replace p198 := eq_true p198
    replace q198 := eq_true q198
    have p8 : 0 ≤ (x2_1 : Int) := of_decide_eq_true (by first | (with_reducible assumption) | assumption)
    have q8 : (x2_1 : Int) < ((x0_1.length : Int) : Int) := of_decide_eq_true (by first | (with_reducible assumption) | assumption)
    (first | simp only [add_plain] at hx197_0 | skip)
    (first | simp only [add_plain] at hx198_0 | skip)
    obtain ⟨hx8_0, hf8_0⟩ := BW_celln HO_0.out.1 (x2_1 : Int) p8 q8
    replace p8 := eq_true p8
    replace q8 := eq_true q8
    have HP11 := BW_putn HO_0.out.1 (x2_1 : Int) (rd x0_1 x3_1)
    rw [← Ny199.out] at HP11
    have HQ11 := Aside0.mk HP11
    clear HP11
    have p9 : 0 ≤ (x3_1 : Int) := of_decide_eq_true (by first | (with_reducible assumption) | assumption)
    have q9 : (x3_1 : Int) < ((x0_1.length : Int) : Int) := of_decide_eq_true (by first | (with_reducible assumption) | assumption)
    obtain ⟨hx9_0, hf9_0⟩ := BW_celln HQ11.out (x3_1 : Int) p9 (by rw [Ny199.out, List.length_set]; exact q9)
    replace p9 := eq_true p9
    replace q9 := eq_true q9
    have HP12 := BW_putn HQ11.out (x3_1 : Int) (rd x0_1 x2_1)
    rw [← Ny200.out] at HP12
    have HQ12 := Aside0.mk HP12
    clear HP12
    refine start_ (n := 16) (S := fun w' => w'.cell? ⟨g, (x3_1).toNat, none⟩ = some (.int .u8 (rd x0_1 x3_1)) ∧ w'.cell? ⟨g, (x2_1).toNat, none⟩ = some (.int .u8 (rd x0_1 x2_1))) (ds := [13, 15]) #[false, false, false, false, false, false, false, false, false, false, false, false, false, false, false, false] (by kernel_rfl) rfl rfl ⟨hx197_0, hx198_0⟩ (fun hHeld => ?_); refine with_tabW slices_Reverse_byte_byte.tab3 slices_Reverse_byte_byte.bits3 (fun HT_ HW_ => ?_)
    generalize wr.drew = w10 at HO_0 HB HQ11 HQ12 hf8_0 hf9_0 hx197_0 hx198_0 hx8_0 hx9_0 hHeld ⊢
    refine pure_ (i := 0) (N := some 14) (v := ?_) (a' := ?_) #[true, false, false, false, false, false, false, false, false, false, false, false, false, false, false, false] rfl rfl (any_of HT_.out (by kernel_rfl)) (fun _ _ _ h => h) (Or.inl ⟨by rfl, ?_⟩) ?_ ?_
    rotate_left
    · intro w'
      go_simp
      with_reducible rfl
    rotate_left
    · simp only [Act.put, List.setIfInBounds_toArray, List.set_cons_zero, List.set_cons_succ, i64_w, i32_w]
      rfl
    refine pure_ (i := 1) (N := some 15) (v := ?_) (a' := ?_) #[true, true, false, false, false, false, false, false, false, false, false, false, false, false, false, false] rfl rfl (any_of HT_.out (by kernel_rfl)) (fun _ _ _ h => h) (Or.inl ⟨by rfl, ?_⟩) ?_ ?_
    rotate_left
    · intro w'
      go_simp
      with_reducible rfl
    rotate_left
    · simp only [Act.put, List.setIfInBounds_toArray, List.set_cons_zero, List.set_cons_succ, i64_w, i32_w]
      rfl
    refine pure_ (i := 2) (N := some 16) (v := ?_) (a' := ?_) #[true, true, true, false, false, false, false, false, false, false, false, false, false, false, false, false] rfl rfl (any_of HT_.out (by kernel_rfl)) (fun _ _ _ h => h) (Or.inl ⟨by rfl, ?_⟩) ?_ ?_
    rotate_left
    · intro w'
      go_simp
      with_reducible rfl
    rotate_left
    · simp only [Act.put, List.setIfInBounds_toArray, List.set_cons_zero, List.set_cons_succ, i64_w, i32_w]
      rfl
    refine pure_ (i := 3) (N := some 17) (v := ?_) (a' := ?_) #[true, true, true, true, false, false, false, false, false, false, false, false, false, false, false, false] rfl rfl (any_of HT_.out (by kernel_rfl)) (fun _ _ _ h => h) (Or.inl ⟨by rfl, ?_⟩) ?_ ?_
    rotate_left
    · intro w'
      go_simp
      with_reducible rfl
    rotate_left
    · simp only [Act.put, List.setIfInBounds_toArray, List.set_cons_zero, List.set_cons_succ, i64_w, i32_w]
      rfl
    refine pure_ (i := 4) (N := some 18) (v := ?_) (a' := ?_) #[true, true, true, true, true, false, false, false, false, false, false, false, false, false, false, false] rfl rfl (any_of HT_.out (by kernel_rfl)) (fun _ _ _ h => h) (Or.inl ⟨by rfl, ?_⟩) ?_ ?_
    rotate_left
    · intro w'
      go_simp
      with_reducible rfl
    rotate_left
    · simp only [Act.put, List.setIfInBounds_toArray, List.set_cons_zero, List.set_cons_succ, i64_w, i32_w]
      rfl
    refine pure_ (i := 5) (N := some 19) (v := ?_) (a' := ?_) #[true, true, true, true, true, true, false, false, false, false, false, false, false, false, false, false] rfl rfl (any_of HT_.out (by kernel_rfl)) (fun _ _ _ h => h) (Or.inl ⟨by rfl, ?_⟩) ?_ ?_
    rotate_left
    · intro w'
      go_simp
      with_reducible rfl
    rotate_left
    · simp only [Act.put, List.setIfInBounds_toArray, List.set_cons_zero, List.set_cons_succ, i64_w, i32_w]
      rfl
    refine pure_ (i := 6) (N := some 20) (v := ?_) (a' := ?_) #[true, true, true, true, true, true, true, false, false, false, false, false, false, false, false, false] rfl rfl (any_of HT_.out (by kernel_rfl)) (fun _ _ _ h => h) (Or.inl ⟨by rfl, ?_⟩) ?_ ?_
    rotate_left
    · intro w'
      go_simp
      with_reducible rfl
    rotate_left
    · simp only [Act.put, List.setIfInBounds_toArray, List.set_cons_zero, List.set_cons_succ, i64_w, i32_w]
      rfl
    refine pure_ (i := 8) (N := some 22) (v := ?_) (a' := ?_) #[true, true, true, true, true, true, true, false, true, false, false, false, false, false, false, false] rfl rfl (any_of HT_.out (by kernel_rfl)) (fun _ _ _ h => h) (Or.inl ⟨by rfl, ?_⟩) ?_ ?_
    rotate_left
    · intro w'
      go_simp
      with_reducible rfl
    rotate_left
    · simp only [Act.put, List.setIfInBounds_toArray, List.set_cons_zero, List.set_cons_succ, i64_w, i32_w]
      rfl
    refine pure_ (i := 9) (N := some 23) (v := ?_) (a' := ?_) #[true, true, true, true, true, true, true, false, true, true, false, false, false, false, false, false] rfl rfl (any_of HT_.out (by kernel_rfl)) (fun _ _ _ h => h) (Or.inl ⟨by rfl, ?_⟩) ?_ ?_
    rotate_left
    · intro w'
      go_simp
      with_reducible rfl
    rotate_left
    · simp only [Act.put, List.setIfInBounds_toArray, List.set_cons_zero, List.set_cons_succ, i64_w, i32_w]
      rfl
    refine pure_ (i := 10) (N := some 24) (v := ?_) (a' := ?_) #[true, true, true, true, true, true, true, false, true, true, true, false, false, false, false, false] rfl rfl (any_of HT_.out (by kernel_rfl)) (fun _ _ _ h => h) (Or.inl ⟨by rfl, ?_⟩) ?_ ?_
    rotate_left
    · intro w'
      go_simp
      with_reducible rfl
    rotate_left
    · simp only [Act.put, List.setIfInBounds_toArray, List.set_cons_zero, List.set_cons_succ, i64_w, i32_w]
      rfl
    refine take_ (i := 7) (N := some 21) (v := ?_) (a' := ?_) #[true, true, true, true, true, true, true, true, true, true, true, false, false, false, false, false] rfl rfl (take_ofW HT_.out HW_.out (by kernel_rfl)) (fun _ _ _ h => h) (Or.inl ⟨by rfl, ?_⟩) hHeld ?_ ?_
    rotate_left
    · rintro w' ⟨s0, s1⟩
      go_simp
      with_reducible rfl
    rotate_left
    · simp only [Act.put, List.setIfInBounds_toArray, List.set_cons_zero, List.set_cons_succ, i64_w, i32_w]
      rfl
    refine take_ (i := 11) (N := some 25) (v := ?_) (a' := ?_) #[true, true, true, true, true, true, true, true, true, true, true, true, false, false, false, false] rfl rfl (take_ofW HT_.out HW_.out (by kernel_rfl)) (fun _ _ _ h => h) (Or.inl ⟨by rfl, ?_⟩) hHeld ?_ ?_
    rotate_left
    · rintro w' ⟨s0, s1⟩
      go_simp
      with_reducible rfl
    rotate_left
    · simp only [Act.put, List.setIfInBounds_toArray, List.set_cons_zero, List.set_cons_succ, i64_w, i32_w]
      rfl
    refine pure_ (i := 12) (N := some 26) (v := ?_) (a' := ?_) #[true, true, true, true, true, true, true, true, true, true, true, true, true, false, false, false] rfl rfl (any_of HT_.out (by kernel_rfl)) (fun _ _ _ h => h) (Or.inl ⟨by rfl, ?_⟩) ?_ ?_
    rotate_left
    · intro w'
      go_simp
      with_reducible rfl
    rotate_left
    · simp only [Act.put, List.setIfInBounds_toArray, List.set_cons_zero, List.set_cons_succ, i64_w, i32_w]
      rfl
    refine last_ (i := 13) (N := none) #[true, true, true, true, true, true, true, true, true, true, true, true, true, true, false, false] rfl rfl (one_of HT_.out (by kernel_rfl)) (by decide) (fun K hK => ?_)
    refine skip_ (w1 := ?_) (by rfl) rfl ?_ ?_
    rotate_left
    · go_simp
      rfl
    refine hK.out _ _ ?_
    clear hK K
    refine pure_ (i := 14) (N := some 27) (v := ?_) (a' := ?_) #[true, true, true, true, true, true, true, true, true, true, true, true, true, true, true, false] rfl rfl (any_of HT_.out (by kernel_rfl)) (fun _ _ _ h => h) (Or.inl ⟨by rfl, ?_⟩) ?_ ?_
    rotate_left
    · intro w'
      go_simp
      with_reducible rfl
    rotate_left
    · simp only [Act.put, List.setIfInBounds_toArray, List.set_cons_zero, List.set_cons_succ, i64_w, i32_w]
      rfl
    refine last_ (i := 15) (N := none) #[true, true, true, true, true, true, true, true, true, true, true, true, true, true, true, true] rfl rfl (one_of HT_.out (by kernel_rfl)) (by decide) (fun K hK => ?_)
    refine skip_ (w1 := ?_) (by rfl) rfl ?_ ?_
    rotate_left
    · go_simp
      rfl
    refine hK.out _ _ ?_
    clear hK K
    refine done_ (done_of HT_.out (by kernel_rfl)) ?_
    try go_wp2
    (try simp only [← hl0_1])
    go_roundg k1
    case measure => have := HK1.out; omega
    case rel => exact ⟨(y200), (wrap64 (x2_1 + 1)), (wrap64 (x3_1 - 1)), (by first | rfl | (simp; done) | (simp [*]; done)), (by first | rfl | (simp; done) | (simp [*]; done)), H', ⟨by have := HK1.out; omega⟩, ⟨HQ12.out, by rw [Ny200.out, Ny199.out]; simpa using hl0_1⟩, ⟨by repeat (first | (with_reducible first | exact HB.out | apply below_alloc | apply pw_below_drewN | apply below_drew1 | refine below_set ?_ GB8.out | refine below_set ?_ GB8.out) | exact HB.out)⟩⟩
end Go.Proofs.Ytmcihijobilcgaa.PAll
end
section
namespace Go.Proofs.Ytmcihijobilcgaa.PAll
open Go.RowKit Go.Proofs.YtmcihijobilcgaaW.PrintWords Go.Proofs.YtmcihijobilcgaaW.PrintLast Go.Proofs.YtmcihijobilcgaaW.PrintMore
section
variable {P : Program} {ops : Array Oper} {rest : List Oper} {o : Oper} {a : Act} {Q : Exit → Act → World → Prop}
theorem bytesW_event {W : World} (hgd : o.guard = none) {N : Tmp} (_hd : o.dst = some N) {src dst : TypeId} {x : Operand} (ho : o.op = .convert src dst x) {s : ByteArray} (hx : a.eval x = .string s) (hl : s.size ≤ 140737488355328)
    (hs : P.underlying src = some .string) (hdt : P.underlying dst = some (.slice 5)) (he : P.underlying 5 = some (.int .u8))
    (h : ∀ g c w1, W.heap.size ≤ g → BW w1 g (strBytes s) → Below W.heap.size W w1 → wpList P ops Q rest (a.put o.dst (.slice (some ⟨g, 0, none⟩) (strBytes s).length c)) w1) : wpList P ops Q (o :: rest) a W := by
  have hr := Lib.run_convert_string_bytes (P := P) W src dst 5 s hs hdt he
  have h1 := h W.heap.size (grownCap W s.size 0 5) (Lib.bytesWorld W 5 s) (Nat.le_refl _) ⟨_, _, Lib.bytesWorld_at_new W 5 s, by rw [strBytes_length]; exact hl, fun j hj => ?_, fun j hj hf => ?_⟩ ⟨rfl, rfl, rfl, by rw [Lib.bytesWorld_size]; omega, fun i hi => Lib.bytesWorld_at_old W 5 s i hi⟩
  rw [strBytes_length] at h1
  · refine Kd.event_run hgd (v := .slice (some ⟨W.heap.size, 0, none⟩) s.size (grownCap W s.size 0 5)) (w1 := Lib.bytesWorld W 5 s) ?_ h1
    simp [execOp, ho, hx, hr, Result.andThen]
  · rw [strBytes_length] at hj
    have hc := Lib.bytesWorld_cell W 5 s j hj
    simp only [World.cell?, Lib.bytesWorld_at_new] at hc
    simpa [strBytes, List.getD, hj] using hc
  · rw [strBytes_length] at hj
    have hc := Lib.bytesWorld_cell W 5 s j hj
    simp only [World.cell?, Lib.bytesWorld_at_new] at hc
    have := (Array.getElem?_eq_some_iff.1 (show (Lib.bytesCells W 5 s)[j]? = _ from hc)).1
    omega
end
def mixL (k : Nat) (l : List Int) : List Int := (l.take k).map (fun c => Go.bits .xor .u8 c 32) ++ l.drop k
theorem mixL_length (k : Nat) (l : List Int) : (mixL k l).length = l.length := by simp [mixL]; omega
theorem mixL_rd (k : Nat) (l : List Int) (h : k < l.length) : rd (mixL k l) (k : Int) = rd l (k : Int) := by
  have hk : k < (mixL k l).length := by rw [mixL_length]; exact h
  simp only [rd, Int.toNat_natCast]
  simp only [mixL, List.getD, List.getElem?_append, List.length_map, List.length_take, Nat.min_eq_left (Nat.le_of_lt h), Nat.lt_irrefl, if_false, Nat.sub_self, List.getElem?_drop, Nat.add_zero]
theorem mixL_step (k : Nat) (l : List Int) (h : k < l.length) : (mixL k l).set k (Go.bits .xor .u8 (rd l (k : Int)) 32) = mixL (k + 1) l := by
  have hr : rd l (k : Int) = l[k] := by simp [rd, h]
  rw [hr]
  simp only [mixL]
  rw [List.set_append_right _ _ (by simp; omega)]
  simp only [List.length_map, List.length_take, Nat.min_eq_left (Nat.le_of_lt h), Nat.sub_self]
  rw [List.drop_eq_getElem_cons h, List.set_cons_zero, List.take_succ_eq_append_getElem h, List.map_append, List.append_assoc]
  rfl
def casing_turned.f (a0 : ByteArray) : Option (ByteArray) :=
  if a0.size ≤ 1000000 then (slices_Reverse_byte_byte.f (a0.size + 1) (strBytes a0)).bind fun l => some (strOfNums (l.map fun c => Go.bits .xor .u8 c 32)) else none
set_option maxHeartbeats 8000000 in
set_option maxRecDepth 100000 in
theorem casing_turned.calls (a0 : ByteArray) (r : ByteArray) (w : World) (h : casing_turned.f a0 = some r) :
    Calls Try.prog 66 #[.string a0] w fun e w' => e = .returned (.string r) ∧ Below w.heap.size w w' := by
  unfold casing_turned.f at h
  by_cases hsz : a0.size ≤ 1000000
  rotate_left
  · rw [if_neg hsz] at h; cases h
  rw [if_pos hsz] at h
  obtain ⟨l, hl, h⟩ := Option.bind_eq_some_iff.1 h
  obtain rfl := Option.some.inj h
  have HSZ := Aside0.mk (show a0.size ≤ 140737488355328 by omega)
  have HS6 := Aside0.mk hsz
  have HL := Aside0.mk hl
  clear hsz hl h
  have hcv0 : ∀ (W : World) (A : Option Addr) (n c : Nat) (xs : List Int), True := fun _ _ _ _ _ => trivial
  clear hcv0
  go_enter Try.func66, Try.ntmps66
  go_wp2_with (first | ((with_reducible refine gate_dst (N := 7) rfl ?_); refine bytesW_event ?hg (N := 7) ?hd rfl (s := a0) ?hx HSZ.out Try.underlying9 Try.underlying83 Try.underlying5 ?_; (case hd => rfl); (case hg => rfl); (case hx => rfl); intro g c w1 hge hbw hb; have HGE := Aside0.mk hge; have HBW := Aside0.mk hbw; have HB := Aside0.mk hb; clear hge hbw hb) | ((with_reducible refine gate_callee (f := 84) rfl ?_); refine goesL_ (some 9) rfl rfl Try.func84 (by kernel_rfl) rfl #[.slice (some ⟨g, 0, none⟩) (strBytes a0).length c] rfl (by (try simp only [List.map_toArray, List.map_cons, List.map_nil]); first | done | rfl) ?_; (with_reducible refine (Reverse_bytes (a0.size + 1) g c (strBytes a0) l w w1 HB.out HGE.out HBW.out HL.out).mono ?_); rintro e w2 ⟨rfl, ⟨hbw, hlen⟩, hb⟩; refine ⟨_, rfl, ?_⟩; rw [hlen]; have HLE := Aside0.mk hlen; have HBW2 := Aside0.mk hbw; have HB2 := Aside0.mk hb; clear hlen hbw hb HBW HB))
  have hN : l.length ≤ 1000000 := by rw [← HLE.out, strBytes_length]; exact HS6.out
  have HN := Aside0.mk hN
  clear hN h
  go_loopw [12] (fun v12 wr => ∃ k : Nat, k ≤ l.length ∧ v12 = .int .i64 k ∧ Aside0 (BW wr g (mixL k l)) ∧ Aside0 (Below w.heap.size w wr)) (fun v12 _ => l.length - (intOf v12).toNat)
  case atStart => exact ⟨0, Nat.zero_le _, rfl, ⟨by simpa [mixL] using HBW2.out⟩, ⟨HB2.out⟩⟩
  obtain ⟨k, hk, rfl, HBK, HBL⟩ := hrel
  by_cases hkd : k < l.length
  rotate_left
  · obtain rfl : k = l.length := by omega
    have hm : mixL l.length l = l.map (fun c => Go.bits .xor .u8 c 32) := by simp [mixL]
    have hbw := HBK.out
    rw [hm] at hbw
    have hC := BW_reads hbw
    have hlm : (l.map (fun c => Go.bits .xor .u8 c 32)).length = l.length := List.length_map _
    have hcv := Kd.C_string (P := Try.prog) (A := some ⟨g, 0, none⟩) (c := c) Try.underlying83 Try.underlying5 Try.underlying9 hC
    rw [hlm] at hcv
    have hlt : decide ((l.length : Int) < (l.length : Int)) = false := decide_eq_false (by omega)
    clear hm hbw hC hlm
    go_wp2
    go_ret
    exact ⟨rfl, HBL.out⟩
  have hkm : (k : Int) < ((mixL k l).length : Int) := by rw [mixL_length]; omega
  obtain ⟨hx, hf⟩ := BW_celln HBK.out (k : Int) (by omega) hkm
  rw [mixL_rd k l hkd] at hx
  simp only [Int.toNat_natCast] at hx hf
  have hlt : decide ((k : Int) < (l.length : Int)) = true := decide_eq_true (by omega)
  have hw : wrap64 ((k : Int) + 1) = ((k + 1 : Nat) : Int) := by have := HN.out; rw [wrap64_small _ (by omega) (by omega)]; omega
  have hput := BW_putn HBK.out (k : Int) (Go.bits .xor .u8 (rd l (k : Int)) 32)
  simp only [Int.toNat_natCast] at hput
  rw [mixL_step k l hkd] at hput
  have HPUT := Aside0.mk hput
  clear hput
  go_wp2_with (first | (go_at_call 80; refine (casing_inverse.calls (rd l (k : Int)) _ _ rfl).mono ?_; rintro e w3 ⟨rfl, ⟨nd, rfl⟩⟩))
  refine ⟨⟨k + 1, by omega, by rw [hw], ⟨HPUT.out⟩, ⟨below_set (pw_below_drewN HBL.out nd) HGE.out⟩⟩, by rw [hw]; simp [intOf]; omega⟩
end Go.Proofs.Ytmcihijobilcgaa.PAll
end
