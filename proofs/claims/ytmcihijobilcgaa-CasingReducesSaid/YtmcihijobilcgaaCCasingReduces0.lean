/- The law CasingReduces returns true for every input: for any int and string, casing.Reduce returns the reduced word, or ErrArg. No condition. Part 1 of 1. -/
import Derived.Lib.SpaceUEq
import Derived.Test.YtmcihijobilcgaaRows
import Derived.WalkKit
import Derived.ProofKit
import Derived.OpenShut
import Derived.ShutString
import Derived.ChangeOld
import Derived.Below
import Derived.SizedLaws
import Derived.Test.YtmcihijobilcgaaB5
set_option linter.all false
section
namespace Go.Proofs.Ytmcihijobilcgaa.PAll
open Go.RowKit Go.Proofs.YtmcihijobilcgaaW.PrintWords Go.Proofs.YtmcihijobilcgaaW.PrintLast Go.Proofs.YtmcihijobilcgaaW.PrintMore
attribute [local go_sem] max2_int min2_int max_two min_two max_three min_three max_four min_four
def remouldlaw01_brief.f (a0 : ByteArray) : Option (ByteArray) := if 0 ≤ (mn (a0.size : Int) 31) then (if (mn (a0.size : Int) 31) ≤ (a0.size : Int) then (some (a0.extract 0 ((mn (a0.size : Int) 31) : Int).toNat)) else (none)) else (none)
set_option maxHeartbeats 8000000 in
set_option maxRecDepth 100000 in
theorem remouldlaw01_brief.calls (a0 : ByteArray) (r : ByteArray) (w : World) (h : remouldlaw01_brief.f a0 = some r) :
    Calls Try.prog 30 #[.string a0] w fun e w' => e = .returned (.string r) ∧ Below w.heap.size w w' := by
  have HB := Aside0.mk (Below.refl w.heap.size w)
  have H : (if 0 ≤ (mn (a0.size : Int) 31) then (if (mn (a0.size : Int) 31) ≤ (a0.size : Int) then (some (a0.extract 0 ((mn (a0.size : Int) 31) : Int).toNat)) else (none)) else (none)) = some r := h
  clear h
  obtain ⟨ji2, hji2⟩ : ∃ j_ : Int, (mn (a0.size : Int) 31) = j_ := ⟨_, rfl⟩
  replace H : (if 0 ≤ (ji2) then (if (ji2) ≤ (a0.size : Int) then (some (a0.extract 0 ((ji2) : Int).toNat)) else (none)) else (none)) = some r := by first | (rw [hji2] at H; exact H) | (simp only [hji2] at H ⊢; exact H)
  (try (have hji2h : ji2 ≤ 31 := by (rw [← hji2]; unfold mn; (repeat' split) <;> omega)))
  (try (have hji2g : ji2 ≤ 64 := by omega))
  (try (have hji2l : 0 ≤ ji2 := by (rw [← hji2]; unfold mn; (repeat' split) <;> omega)))
  (try (have hji2m : 0 ≤ ji2 := by omega))
  have hji2_ : (if 31 < (a0.size : Int) then 31 else (a0.size : Int)) = ji2 := hji2
  by_cases c3 : 0 ≤ (ji2)
  · rw [if_pos c3] at H
    have c3b0 := eq_true c3
    have c3b1 : decide (0 ≤ (ji2)) = true := decide_eq_true c3
    clear c3
    by_cases c4 : (ji2) ≤ (a0.size : Int)
    · rw [if_pos c4] at H
      have c4b0 := eq_true c4
      have c4b1 : decide ((ji2) ≤ (a0.size : Int)) = true := decide_eq_true c4
      clear c4
      obtain rfl := Option.some.inj H
      go_enter Try.func30, Try.ntmps30
      go_wp2
      go_ret
      exact ⟨by first | rfl | (simp [errW_none, errW_some] <;> rfl) | (simp only [← hji2]; first | rfl | (simp [errW_none, errW_some] <;> rfl)) | (simp [*, errW_none, errW_some] <;> rfl), by repeat (first | (with_reducible first | exact HB.out | apply below_alloc | apply pw_below_drewN | apply below_drew1) | exact HB.out)⟩
    · rw [if_neg c4] at H
      exact absurd H (by simp)
  · rw [if_neg c3] at H
    exact absurd H (by simp)
end Go.Proofs.Ytmcihijobilcgaa.PAll
end
section
namespace Go.Proofs.Ytmcihijobilcgaa.PAll
open Go.RowKit Go.Proofs.YtmcihijobilcgaaW.PrintWords Go.Proofs.YtmcihijobilcgaaW.PrintLast Go.Proofs.YtmcihijobilcgaaW.PrintMore
attribute [local go_sem] max2_int min2_int max_two min_two max_three min_three max_four min_four
def remouldref01_letter.j0 : Nat → Int → Int → Bool → Option (Int × Bool × Bool)
  | 0, _, _, _ => none
  | k + 1, x0, x1, x7 => if x7 = true then (some ((x0 - 97) % 256, false, true)) else (if x0 = 65 then (some ((x0 - 65) % 256, true, true)) else (if x0 = 66 then (if x1 = 2 then (some ((x0 - 65) % 256, true, true)) else (some (0, false, false))) else (some (0, false, false))))
def remouldref01_letter.f (k : Nat) (a0 : Int) (a1 : Int) : Option (Int × Bool × Bool) := if a0 = 97 then (remouldref01_letter.j0 k a0 a1 true) else (if a0 = 98 then (remouldref01_letter.j0 k a0 a1 (a1 == 2)) else (remouldref01_letter.j0 k a0 a1 false))
theorem remouldref01_letter.mono_l : ∀ k, (∀ y0 y1 y2, LeO (remouldref01_letter.j0 k y0 y1 y2) (remouldref01_letter.j0 (k + 1) y0 y1 y2))
  | 0 => fun _ _ _ r h => by simp [remouldref01_letter.j0] at h
  | k + 1 => by
    have ih0 := remouldref01_letter.mono_l k
    · intro y0 y1 y2
      unfold remouldref01_letter.j0
      repeat' first
      | (with_reducible exact ih0 _ _ _)
      | (with_reducible exact LeO.refl _)
      | (with_reducible exact LeO.none _)
      | (with_reducible refine LeO.ite ?_ ?_)
      | (with_reducible refine LeO.bind ?_ (fun _ => ?_))
      | exact ih0 _ _ _
      | exact LeO.none _
      | refine LeO.ite ?_ ?_
      | refine LeO.bind ?_ (fun _ => ?_)
theorem remouldref01_letter.mono : ∀ a0 a1 k, LeO (remouldref01_letter.f k a0 a1) (remouldref01_letter.f (k + 1) a0 a1) := by
  intro a0 a1 k
  have ih0 := remouldref01_letter.mono_l k
  unfold remouldref01_letter.f
  repeat' first
      | (with_reducible exact ih0 _ _ _)
      | (with_reducible exact LeO.refl _)
      | (with_reducible exact LeO.none _)
      | (with_reducible refine LeO.ite ?_ ?_)
      | (with_reducible refine LeO.bind ?_ (fun _ => ?_))
      | exact ih0 _ _ _
      | exact LeO.none _
      | refine LeO.ite ?_ ?_
      | refine LeO.bind ?_ (fun _ => ?_)
set_option maxHeartbeats 8000000 in
set_option maxRecDepth 100000 in
theorem remouldref01_letter.calls (k : Nat) (a0 : Int) (a1 : Int) (r1 : Int) (r2 : Bool) (r3 : Bool) (w : World) (h : remouldref01_letter.f k a0 a1 = some (r1, r2, r3)) :
    Calls Try.prog 57 #[.int .u8 a0, .int .i64 a1] w fun e w' => e = .returned (.tuple #[.int .i64 r1, .bool r2, .bool r3]) ∧ Drawn0 w w' := by
  have H : (if a0 = 97 then (remouldref01_letter.j0 k a0 a1 true) else (if a0 = 98 then (remouldref01_letter.j0 k a0 a1 (a1 == 2)) else (remouldref01_letter.j0 k a0 a1 false))) = some (r1, r2, r3) := h
  clear h
  have HC3 := Aside0.mk H
  clear H
  go_enter Try.func57, Try.ntmps57
  go_upto_region 1 with (fail)
  go_cut [7] (fun v7 wc => ∃ (kq : Nat) (x7_2 : Bool), v7 = .bool x7_2 ∧ Aside0 (remouldref01_letter.j0 kq a0 a1 x7_2 = some (r1, r2, r3)) ∧ Aside0 (kq ≤ k) ∧ Drawn0 w wc)
  case first =>
    have H := HC3.out
    clear HC3
    by_cases c4 : a0 = 97
    · rw [if_pos c4] at H
      have c4b0 : (a0 == 97) = true := beq_iff_eq.mpr c4
      have c4b1 : (a0 != 97) = false := bne_eq_false_iff_eq.mpr c4
      clear c4
      (first | rw [c4b0] | (simp only [i64_w, i32_w]; rw [c4b0]) | skip)
      have H' := Aside0.mk H
      clear H
      go_wp2
      go_meet
      case rel => exact ⟨_, (true), (by first | rfl | (simp; done) | (simp [*]; done)), H', ⟨by first | omega | exact Nat.le_refl _⟩, by repeat (first | exact Drawn0.refl _ | apply Drawn0.step)⟩
    · rw [if_neg c4] at H
      have c4b0 : (a0 == 97) = false := beq_eq_false_iff_ne.mpr c4
      have c4b1 : (a0 != 97) = true := bne_iff_ne.mpr c4
      (first | rw [c4b0] | (simp only [i64_w, i32_w]; rw [c4b0]) | skip)
      by_cases c5 : a0 = 98
      · rw [if_pos c5] at H
        have c5b0 : (a0 == 98) = true := beq_iff_eq.mpr c5
        have c5b1 : (a0 != 98) = false := bne_eq_false_iff_eq.mpr c5
        clear c5
        have H' := Aside0.mk H
        clear H
        go_wp2
        go_meet
        case rel => exact ⟨_, ((a1 == 2)), (by first | rfl | (simp; done) | (simp [*]; done)), H', ⟨by first | omega | exact Nat.le_refl _⟩, by repeat (first | exact Drawn0.refl _ | apply Drawn0.step)⟩
      · rw [if_neg c5] at H
        have c5b0 : (a0 == 98) = false := beq_eq_false_iff_ne.mpr c5
        have c5b1 : (a0 != 98) = true := bne_iff_ne.mpr c5
        have H' := Aside0.mk H
        clear H
        go_wp2
        go_meet
        case rel => exact ⟨_, (false), (by first | rfl | (simp; done) | (simp [*]; done)), H', ⟨by first | omega | exact Nat.le_refl _⟩, by repeat (first | exact Drawn0.refl _ | apply Drawn0.step)⟩
  case rest =>
    clear HC3
    try clear p2
    try clear c4
    try clear c4b0
    try clear c4b1
    try clear c5
    try clear c5b0
    try clear c5b1
    obtain ⟨kq, x7_2, rfl, HA, HJ2, ⟨mc2, rfl⟩⟩ := hcut
    cases kq with
    | zero => exact absurd HA.out (by simp [remouldref01_letter.j0])
    | succ kj2 =>
      have H := HA.out
      clear HA
      simp only [remouldref01_letter.j0] at H
      by_cases c6 : x7_2 = true
      · subst c6
        have H1 : (some ((a0 - 97) % 256, false, true)) = some (r1, r2, r3) := by rw [if_pos rfl] at H; exact H
        clear H
        have H := H1
        clear H1
        simp only [Option.some.injEq, Prod.mk.injEq] at H
        obtain ⟨rfl, rfl, rfl⟩ := H
        go_wp2
        go_ret3
        exact ⟨by first | rfl | (simp; done) | (simp [*]; done), by repeat (first | exact Drawn0.refl _ | apply Drawn0.step)⟩
      · replace c6 := Bool.eq_false_iff.mpr c6
        subst c6
        have H1 : (if a0 = 65 then (some ((a0 - 65) % 256, true, true)) else (if a0 = 66 then (if a1 = 2 then (some ((a0 - 65) % 256, true, true)) else (some (0, false, false))) else (some (0, false, false)))) = some (r1, r2, r3) := by rw [if_neg (show ¬ (false = true) by decide)] at H; exact H
        clear H
        have H := H1
        clear H1
        by_cases c7 : a0 = 65
        · rw [if_pos c7] at H
          have c7b0 : (a0 == 65) = true := beq_iff_eq.mpr c7
          have c7b1 : (a0 != 65) = false := bne_eq_false_iff_eq.mpr c7
          clear c7
          simp only [Option.some.injEq, Prod.mk.injEq] at H
          obtain ⟨rfl, rfl, rfl⟩ := H
          go_wp2
          go_ret3
          exact ⟨by first | rfl | (simp; done) | (simp [*]; done), by repeat (first | exact Drawn0.refl _ | apply Drawn0.step)⟩
        · rw [if_neg c7] at H
          have c7b0 : (a0 == 65) = false := beq_eq_false_iff_ne.mpr c7
          have c7b1 : (a0 != 65) = true := bne_iff_ne.mpr c7
          by_cases c8 : a0 = 66
          · rw [if_pos c8] at H
            have c8b0 : (a0 == 66) = true := beq_iff_eq.mpr c8
            have c8b1 : (a0 != 66) = false := bne_eq_false_iff_eq.mpr c8
            clear c8
            by_cases c9 : a1 = 2
            · rw [if_pos c9] at H
              have c9b0 : (a1 == 2) = true := beq_iff_eq.mpr c9
              have c9b1 : (a1 != 2) = false := bne_eq_false_iff_eq.mpr c9
              clear c9
              simp only [Option.some.injEq, Prod.mk.injEq] at H
              obtain ⟨rfl, rfl, rfl⟩ := H
              go_wp2
              go_ret3
              exact ⟨by first | rfl | (simp; done) | (simp [*]; done), by repeat (first | exact Drawn0.refl _ | apply Drawn0.step)⟩
            · rw [if_neg c9] at H
              have c9b0 : (a1 == 2) = false := beq_eq_false_iff_ne.mpr c9
              have c9b1 : (a1 != 2) = true := bne_iff_ne.mpr c9
              simp only [Option.some.injEq, Prod.mk.injEq] at H
              obtain ⟨rfl, rfl, rfl⟩ := H
              go_wp2
              go_ret3
              exact ⟨by first | rfl | (simp; done) | (simp [*]; done), by repeat (first | exact Drawn0.refl _ | apply Drawn0.step)⟩
          · rw [if_neg c8] at H
            have c8b0 : (a0 == 66) = false := beq_eq_false_iff_ne.mpr c8
            have c8b1 : (a0 != 66) = true := bne_iff_ne.mpr c8
            simp only [Option.some.injEq, Prod.mk.injEq] at H
            obtain ⟨rfl, rfl, rfl⟩ := H
            go_wp2
            go_ret3
            exact ⟨by first | rfl | (simp; done) | (simp [*]; done), by repeat (first | exact Drawn0.refl _ | apply Drawn0.step)⟩
end Go.Proofs.Ytmcihijobilcgaa.PAll
end
section
namespace Go.Proofs.Ytmcihijobilcgaa.PAll
open Go.RowKit Go.Proofs.YtmcihijobilcgaaW.PrintWords Go.Proofs.YtmcihijobilcgaaW.PrintLast Go.Proofs.YtmcihijobilcgaaW.PrintMore
attribute [local go_sem] max2_int min2_int max_two min_two max_three min_three max_four min_four
def remouldref01_Word.l0 : Nat → Int → ByteArray → Int → Option (Bool)
  | 0, _, _, _ => none
  | k + 1, x0, x1, x5 => if x5 < (x1.size : Int) then (if 0 ≤ x5 then ((remouldref01_letter.f k (bt x1 x5) x0).bind fun bt108 => (if bt108.2.2 = true then (remouldref01_Word.l0 k x0 x1 (wrap64 (x5 + 1))) else (some false))) else (none)) else (if x0 = 1 then (some (decide ((x1.size : Int) ≤ 30))) else (if x0 = 2 then (some (decide ((x1.size : Int) ≤ 30))) else (some false)))
def remouldref01_Word.f (k : Nat) (a0 : Int) (a1 : ByteArray) : Option (Bool) := remouldref01_Word.l0 k a0 a1 0
theorem remouldref01_Word.mono_l : ∀ k, (∀ y0 y1 y2, LeO (remouldref01_Word.l0 k y0 y1 y2) (remouldref01_Word.l0 (k + 1) y0 y1 y2))
  | 0 => fun _ _ _ r h => by simp [remouldref01_Word.l0] at h
  | k + 1 => by
    have ih0 := remouldref01_Word.mono_l k
    · intro y0 y1 y2
      unfold remouldref01_Word.l0
      repeat' first
      | (with_reducible exact ih0 _ _ _)
      | (with_reducible exact remouldref01_letter.mono _ _ _)
      | (with_reducible exact LeO.refl _)
      | (with_reducible exact LeO.none _)
      | (with_reducible refine LeO.ite ?_ ?_)
      | (with_reducible refine LeO.bind ?_ (fun _ => ?_))
      | exact ih0 _ _ _
      | exact remouldref01_letter.mono _ _ _
      | exact LeO.none _
      | refine LeO.ite ?_ ?_
      | refine LeO.bind ?_ (fun _ => ?_)
theorem remouldref01_Word.mono : ∀ a0 a1 k, LeO (remouldref01_Word.f k a0 a1) (remouldref01_Word.f (k + 1) a0 a1) := by
  intro a0 a1 k
  have ih0 := remouldref01_Word.mono_l k
  unfold remouldref01_Word.f
  repeat' first
      | (with_reducible exact ih0 _ _ _)
      | (with_reducible exact remouldref01_letter.mono _ _ _)
      | (with_reducible exact LeO.refl _)
      | (with_reducible exact LeO.none _)
      | (with_reducible refine LeO.ite ?_ ?_)
      | (with_reducible refine LeO.bind ?_ (fun _ => ?_))
      | exact ih0 _ _ _
      | exact remouldref01_letter.mono _ _ _
      | exact LeO.none _
      | refine LeO.ite ?_ ?_
      | refine LeO.bind ?_ (fun _ => ?_)
set_option maxHeartbeats 8000000 in
set_option maxRecDepth 100000 in
theorem remouldref01_Word.calls (k : Nat) (a0 : Int) (a1 : ByteArray) (r : Bool) (w : World) (h : remouldref01_Word.f k a0 a1 = some r) :
    Calls Try.prog 32 #[.int .i64 a0, .string a1] w fun e w' => e = .returned (.bool r) ∧ Drawn0 w w' := by
  have H : (remouldref01_Word.l0 k a0 a1 0) = some r := h
  clear h
  have H' := Aside0.mk H
  clear H
  go_enter Try.func32, Try.ntmps32
  go_wp2
  go_loopg [5] k (fun kq v5 w' => ∃ (x5_1 : Int), v5 = .int .i64 x5_1 ∧ Aside0 (remouldref01_Word.l0 kq a0 a1 x5_1 = some r) ∧ Aside0 (kq ≤ k) ∧ Drawn0 w w')
  case atStart => exact ⟨(0), (by first | rfl | (simp; done) | (simp [*]; done)), H', ⟨Nat.le_refl _⟩, by repeat (first | exact Drawn0.refl _ | apply Drawn0.step)⟩
  case round =>
    clear H'
    try clear p2
    obtain ⟨x5_1, rfl, HA, HK1, ⟨m1, rfl⟩⟩ := hrel
    cases gk with
    | zero => exact absurd HA.out (by simp [remouldref01_Word.l0])
    | succ k1 =>
      have H := HA.out
      clear HA
      simp only [remouldref01_Word.l0] at H
      by_cases c3 : x5_1 < (a1.size : Int)
      · rw [if_pos c3] at H
        have c3b0 : decide (x5_1 < (a1.size : Int)) = true := decide_eq_true c3
        clear c3
        by_cases c4 : 0 ≤ x5_1
        · rw [if_pos c4] at H
          have c4b0 : decide (0 ≤ x5_1) = true := decide_eq_true c4
          clear c4
          replace H := Option.bind_eq_some_iff.mp H
          obtain ⟨⟨t108, t109, t110⟩, A60, H⟩ := H
          replace H : (if t110 = true then (remouldref01_Word.l0 k1 a0 a1 (wrap64 (x5_1 + 1))) else (some false)) = some r := H
          have A6 := Aside0.mk A60
          clear A60
          by_cases c7 : t110 = true
          · subst c7
            have H1 : (remouldref01_Word.l0 k1 a0 a1 (wrap64 (x5_1 + 1))) = some r := by rw [if_pos rfl] at H; exact H
            clear H
            have H := H1
            clear H1
            have H' := Aside0.mk H
            clear H
            have p5 : 0 ≤ (x5_1 : Int) := of_decide_eq_true (by first | (with_reducible assumption) | assumption)
            have q5 : x5_1 < (a1.size : Int) := of_decide_eq_true (by first | (with_reducible assumption) | assumption)
            have hx5 := bt_at a1 x5_1
            replace p5 := eq_true p5
            replace q5 := eq_true q5
            go_wp2_with (first | ((with_reducible refine gate_callee (f := 57) rfl ?_); refine goesL_ (some 20) rfl rfl Try.func57 (by kernel_rfl) rfl #[.int .u8 (bt a1 x5_1), .int .i64 a0] rfl (by (try simp only [List.map_toArray, List.map_cons, List.map_nil]); first | done | rfl | (simp only [List.length_drop, List.length_take]; rfl)) ?_; (with_reducible refine (remouldref01_letter.calls k1 (bt a1 x5_1) a0 t108 t109 true _ A6.out).mono ?_); rintro e w' ⟨rfl, ⟨nd, rfl⟩⟩; refine ⟨_, rfl, ?_⟩))
            go_roundg k1
            case measure => have := HK1.out; omega
            case rel => exact ⟨(wrap64 (x5_1 + 1)), (by first | rfl | (simp; done) | (simp [*]; done)), H', ⟨by have := HK1.out; omega⟩, by repeat (first | exact Drawn0.refl _ | apply Drawn0.step)⟩
          · replace c7 := Bool.eq_false_iff.mpr c7
            subst c7
            have H1 : (some false) = some r := by rw [if_neg (show ¬ (false = true) by decide)] at H; exact H
            clear H
            have H := H1
            clear H1
            obtain rfl := Option.some.inj H
            have p5 : 0 ≤ (x5_1 : Int) := of_decide_eq_true (by first | (with_reducible assumption) | assumption)
            have q5 : x5_1 < (a1.size : Int) := of_decide_eq_true (by first | (with_reducible assumption) | assumption)
            have hx5 := bt_at a1 x5_1
            replace p5 := eq_true p5
            replace q5 := eq_true q5
            go_wp2_with (first | ((with_reducible refine gate_callee (f := 57) rfl ?_); refine goesL_ (some 20) rfl rfl Try.func57 (by kernel_rfl) rfl #[.int .u8 (bt a1 x5_1), .int .i64 a0] rfl (by (try simp only [List.map_toArray, List.map_cons, List.map_nil]); first | done | rfl | (simp only [List.length_drop, List.length_take]; rfl)) ?_; (with_reducible refine (remouldref01_letter.calls k1 (bt a1 x5_1) a0 t108 t109 false _ A6.out).mono ?_); rintro e w' ⟨rfl, ⟨nd, rfl⟩⟩; refine ⟨_, rfl, ?_⟩))
            go_ret
            exact ⟨by first | rfl | (simp; done) | (simp [*]; done), by repeat (first | exact Drawn0.refl _ | apply Drawn0.step)⟩
        · rw [if_neg c4] at H
          exact absurd H (by simp)
      · rw [if_neg c3] at H
        have c3b0 : decide (x5_1 < (a1.size : Int)) = false := decide_eq_false c3
        clear c3
        by_cases c8 : a0 = 1
        · rw [if_pos c8] at H
          have c8b0 : (a0 == 1) = true := beq_iff_eq.mpr c8
          have c8b1 : (a0 != 1) = false := bne_eq_false_iff_eq.mpr c8
          clear c8
          obtain rfl := Option.some.inj H
          go_wp2
          go_ret
          exact ⟨by first | rfl | (simp; done) | (simp [*]; done), by repeat (first | exact Drawn0.refl _ | apply Drawn0.step)⟩
        · rw [if_neg c8] at H
          have c8b0 : (a0 == 1) = false := beq_eq_false_iff_ne.mpr c8
          have c8b1 : (a0 != 1) = true := bne_iff_ne.mpr c8
          by_cases c9 : a0 = 2
          · rw [if_pos c9] at H
            have c9b0 : (a0 == 2) = true := beq_iff_eq.mpr c9
            have c9b1 : (a0 != 2) = false := bne_eq_false_iff_eq.mpr c9
            clear c9
            obtain rfl := Option.some.inj H
            go_wp2
            go_ret
            exact ⟨by first | rfl | (simp; done) | (simp [*]; done), by repeat (first | exact Drawn0.refl _ | apply Drawn0.step)⟩
          · rw [if_neg c9] at H
            have c9b0 : (a0 == 2) = false := beq_eq_false_iff_ne.mpr c9
            have c9b1 : (a0 != 2) = true := bne_iff_ne.mpr c9
            obtain rfl := Option.some.inj H
            go_wp2
            go_ret
            exact ⟨by first | rfl | (simp; done) | (simp [*]; done), by repeat (first | exact Drawn0.refl _ | apply Drawn0.step)⟩
end Go.Proofs.Ytmcihijobilcgaa.PAll
end
section
namespace Go.Proofs.Ytmcihijobilcgaa.PAll
open Go.RowKit Go.Proofs.YtmcihijobilcgaaW.PrintWords Go.Proofs.YtmcihijobilcgaaW.PrintLast Go.Proofs.YtmcihijobilcgaaW.PrintMore
attribute [local go_sem] max2_int min2_int max_two min_two max_three min_three max_four min_four
def casing_Reduce.f (k : Nat) (a0 : Int) (a1 : ByteArray) : Option (ByteArray × Int) := (casing_within.f a0 1 2).bind fun t508 => (if t508 = true then ((casing_isWord.f a0 a1).bind fun t509 => (if t509 = true then ((casing_joined.f k (([a1] : List ByteArray))).bind fun t513 => (some (t513, 0))) else (some ((⟨#[]⟩ : ByteArray), 2)))) else (some ((⟨#[]⟩ : ByteArray), 2)))
theorem casing_Reduce.mono : ∀ a0 a1 k, LeO (casing_Reduce.f k a0 a1) (casing_Reduce.f (k + 1) a0 a1) := by
  intro a0 a1 k
  unfold casing_Reduce.f
  repeat' first
      | (with_reducible exact casing_joined.mono _ _)
      | (with_reducible exact LeO.refl _)
      | (with_reducible exact LeO.none _)
      | (with_reducible refine LeO.ite ?_ ?_)
      | (with_reducible refine LeO.bind ?_ (fun _ => ?_))
      | exact casing_joined.mono _ _
      | exact LeO.none _
      | refine LeO.ite ?_ ?_
      | refine LeO.bind ?_ (fun _ => ?_)
set_option maxHeartbeats 8000000 in
set_option maxRecDepth 100000 in
theorem casing_Reduce.calls (k : Nat) (a0 : Int) (a1 : ByteArray) (r1 : ByteArray) (r2 : Int) (w : World) (h : casing_Reduce.f k a0 a1 = some (r1, r2)) :
    Calls Try.prog 31 #[.int .i64 a0, .string a1] w fun e w' => e = .returned (.tuple #[.string r1, .int .i64 r2]) ∧ Below w.heap.size w w' := by
  have HB := Aside0.mk (Below.refl w.heap.size w)
  have H : ((casing_within.f a0 1 2).bind fun t508 => (if t508 = true then ((casing_isWord.f a0 a1).bind fun t509 => (if t509 = true then ((casing_joined.f k (([a1] : List ByteArray))).bind fun t513 => (some (t513, 0))) else (some ((⟨#[]⟩ : ByteArray), 2)))) else (some ((⟨#[]⟩ : ByteArray), 2)))) = some (r1, r2) := h
  clear h
  replace H := Option.bind_eq_some_iff.mp H
  obtain ⟨t508, A30, H⟩ := H
  replace H : (if t508 = true then ((casing_isWord.f a0 a1).bind fun t509 => (if t509 = true then ((casing_joined.f k (([a1] : List ByteArray))).bind fun t513 => (some (t513, 0))) else (some ((⟨#[]⟩ : ByteArray), 2)))) else (some ((⟨#[]⟩ : ByteArray), 2))) = some (r1, r2) := H
  have A3 := Aside0.mk A30
  clear A30
  by_cases c4 : t508 = true
  · subst c4
    have H1 : ((casing_isWord.f a0 a1).bind fun t509 => (if t509 = true then ((casing_joined.f k (([a1] : List ByteArray))).bind fun t513 => (some (t513, 0))) else (some ((⟨#[]⟩ : ByteArray), 2)))) = some (r1, r2) := by rw [if_pos rfl] at H; exact H
    clear H
    have H := H1
    clear H1
    replace H := Option.bind_eq_some_iff.mp H
    obtain ⟨t509, A50, H⟩ := H
    replace H : (if t509 = true then ((casing_joined.f k (([a1] : List ByteArray))).bind fun t513 => (some (t513, 0))) else (some ((⟨#[]⟩ : ByteArray), 2))) = some (r1, r2) := H
    have A5 := Aside0.mk A50
    clear A50
    by_cases c6 : t509 = true
    · subst c6
      have H1 : ((casing_joined.f k (([a1] : List ByteArray))).bind fun t513 => (some (t513, 0))) = some (r1, r2) := by rw [if_pos rfl] at H; exact H
      clear H
      have H := H1
      clear H1
      obtain ⟨y510, hy510⟩ : ∃ y_ : List ByteArray, y_ = (([a1] : List ByteArray)) := ⟨_, rfl⟩
      replace H : ((casing_joined.f k y510).bind fun t513 => (some (t513, 0))) = some (r1, r2) := by first | (rw [hy510]; with_reducible exact H) | (have H2_ := (Option.bind_some _ _).symm.trans H; rw [hy510]; with_reducible exact H2_) | (have H2_ := (Option.bind_some _ _).symm.trans H; with_reducible exact H2_) | with_reducible exact H | (rw [hy510]; exact H) | exact H
      have Ny510 := Aside0.mk hy510
      clear hy510
      replace H := Option.bind_eq_some_iff.mp H
      obtain ⟨t513, A70, H⟩ := H
      replace H : (some (t513, 0)) = some (r1, r2) := H
      have A7 := Aside0.mk A70
      clear A70
      simp only [Option.some.injEq, Prod.mk.injEq] at H
      obtain ⟨rfl, rfl⟩ := H
      go_enter Try.func31, Try.ntmps31
      go_wp2_with (first | ((with_reducible refine gate_callee (f := 49) rfl ?_); refine goesL_ (some 7) rfl rfl Try.func49 (by kernel_rfl) rfl #[.int .i64 a0, .int .i64 1, .int .i64 2] rfl (by (try simp only [List.map_toArray, List.map_cons, List.map_nil]); first | done | rfl | (simp only [List.length_drop, List.length_take]; rfl)) ?_; (with_reducible refine (casing_within.calls a0 1 2 true _ A3.out).mono ?_); rintro e w' ⟨rfl, ⟨nd, rfl⟩⟩; refine ⟨_, rfl, ?_⟩) | (go_at_call 58; (with_reducible refine (casing_isWord.calls a0 a1 true _ A5.out).mono ?_); rintro e w8 ⟨rfl, hb⟩; have n0_ := Aside0.mk (below_step (by repeat (first | (with_reducible first | exact HB.out | apply below_alloc | apply pw_below_drewN | apply below_drew1) | exact HB.out)) hb); clear HB; have HB := n0_; clear n0_; (try clear hb); (try clear hb2); (try clear hk); (try clear hi)) | ((with_reducible refine gate_dst (N := 16) rfl ?_); refine Kd.R_lit Kd.string _ 9 ?hg (N := 16) ?hd (xs := ([a1] : List ByteArray)) (inner := [.string a1]) (ok := fun _ => True) (okp := fun _ => True) ?hr ?hp (fun _ hk => hk) trivial (Below.refl _ _) (Nat.le_refl _) (by simp) ?_; (case hd => rfl); (case hg => rfl); (case hr => first | (go_simp; done) | (go_simp; rfl)); (case hp => exact (Reps.one (show Kd.M Kd.string _ _ _ a1 [.string a1] from rfl) (Reps.none _ _))); intro v511 w9 ho10 hb hg_ hnew_; clear hg_ hnew_; (first | rw [← Ny510.out] at ho10 | (simp only [Int.reduceToNat] at ho10; rw [← Ny510.out] at ho10)); have n0_ := Aside0.mk (Kd.R_lower ho10 (below_size (by repeat (first | (with_reducible first | exact HB.out | apply below_alloc | apply pw_below_drewN | apply below_drew1) | exact HB.out)))); have n1_ := Aside0.mk (below_step (by repeat (first | (with_reducible first | exact HB.out | apply below_alloc | apply pw_below_drewN | apply below_drew1) | exact HB.out)) hb); clear HB; have HO512 := n0_; have HB := n1_; clear n0_ n1_; clear hb ho10; obtain ⟨Ao11, co11, eo11⟩ := Kd.R_slice HO512.out; subst eo11) | ((with_reducible refine gate_callee (f := 59) rfl ?_); refine goesL_ (some 17) rfl rfl Try.func59 (by kernel_rfl) rfl #[.slice Ao11 y510.length co11] rfl (by (try simp only [List.map_toArray, List.map_cons, List.map_nil]); first | done | rfl | (simp only [List.length_drop, List.length_take]; rfl)) ?_; (with_reducible refine (casing_joined.calls k _ _ y510 t513 _ ?side1 ?side2 A7.out).mono ?_); (case side1 => repeat (first | exact (Kd.R_reads' HO512.out).2.2 | (with_reducible refine Kd.C_alloc ?_ _) | (with_reducible refine Kd.C_drewN ?_ _) | (with_reducible refine Kd.C_drew ?_))); (case side2 => exact (Kd.R_reads' HO512.out).2.1); rintro e w12 ⟨rfl, hb⟩; refine ⟨_, rfl, ?_⟩; have n0_ := Aside0.mk (Kd.R_below (by (with_reducible repeat (first | apply Kd.R_alloc | apply Kd.R_drewN | apply Kd.R_drew)); exact HO512.out) hb); have n1_ := Aside0.mk (below_step (by repeat (first | (with_reducible first | exact HB.out | apply below_alloc | apply pw_below_drewN | apply below_drew1) | exact HB.out)) hb); clear HO512; clear HB; have HO512 := n0_; have HB := n1_; clear n0_ n1_; (try clear hb); (try clear hb2); (try clear hk); (try clear hi)))
      go_ret2
      exact ⟨by first | rfl | (simp [errW_none, errW_some] <;> rfl) | (simp [*, errW_none, errW_some] <;> rfl), by repeat (first | (with_reducible first | exact HB.out | apply below_alloc | apply pw_below_drewN | apply below_drew1) | exact HB.out)⟩
    · replace c6 := Bool.eq_false_iff.mpr c6
      subst c6
      have H1 : (some ((⟨#[]⟩ : ByteArray), 2)) = some (r1, r2) := by rw [if_neg (show ¬ (false = true) by decide)] at H; exact H
      clear H
      have H := H1
      clear H1
      simp only [Option.some.injEq, Prod.mk.injEq] at H
      obtain ⟨rfl, rfl⟩ := H
      go_enter Try.func31, Try.ntmps31
      go_wp2_with (first | ((with_reducible refine gate_callee (f := 49) rfl ?_); refine goesL_ (some 7) rfl rfl Try.func49 (by kernel_rfl) rfl #[.int .i64 a0, .int .i64 1, .int .i64 2] rfl (by (try simp only [List.map_toArray, List.map_cons, List.map_nil]); first | done | rfl | (simp only [List.length_drop, List.length_take]; rfl)) ?_; (with_reducible refine (casing_within.calls a0 1 2 true _ A3.out).mono ?_); rintro e w' ⟨rfl, ⟨nd, rfl⟩⟩; refine ⟨_, rfl, ?_⟩) | (go_at_call 58; (with_reducible refine (casing_isWord.calls a0 a1 false _ A5.out).mono ?_); rintro e w13 ⟨rfl, hb⟩; have n0_ := Aside0.mk (below_step (by repeat (first | (with_reducible first | exact HB.out | apply below_alloc | apply pw_below_drewN | apply below_drew1) | exact HB.out)) hb); clear HB; have HB := n0_; clear n0_; (try clear hb); (try clear hb2); (try clear hk); (try clear hi)))
      go_ret2
      exact ⟨by first | rfl | (simp [errW_none, errW_some] <;> rfl) | (simp [*, errW_none, errW_some] <;> rfl), by repeat (first | (with_reducible first | exact HB.out | apply below_alloc | apply pw_below_drewN | apply below_drew1) | exact HB.out)⟩
  · replace c4 := Bool.eq_false_iff.mpr c4
    subst c4
    have H1 : (some ((⟨#[]⟩ : ByteArray), 2)) = some (r1, r2) := by rw [if_neg (show ¬ (false = true) by decide)] at H; exact H
    clear H
    have H := H1
    clear H1
    simp only [Option.some.injEq, Prod.mk.injEq] at H
    obtain ⟨rfl, rfl⟩ := H
    go_enter Try.func31, Try.ntmps31
    go_wp2_with (first | ((with_reducible refine gate_callee (f := 49) rfl ?_); refine goesL_ (some 7) rfl rfl Try.func49 (by kernel_rfl) rfl #[.int .i64 a0, .int .i64 1, .int .i64 2] rfl (by (try simp only [List.map_toArray, List.map_cons, List.map_nil]); first | done | rfl | (simp only [List.length_drop, List.length_take]; rfl)) ?_; (with_reducible refine (casing_within.calls a0 1 2 false _ A3.out).mono ?_); rintro e w' ⟨rfl, ⟨nd, rfl⟩⟩; refine ⟨_, rfl, ?_⟩))
    go_ret2
    exact ⟨by first | rfl | (simp [errW_none, errW_some] <;> rfl) | (simp [*, errW_none, errW_some] <;> rfl), by repeat (first | (with_reducible first | exact HB.out | apply below_alloc | apply pw_below_drewN | apply below_drew1) | exact HB.out)⟩
end Go.Proofs.Ytmcihijobilcgaa.PAll
end
section
namespace Go.Proofs.Ytmcihijobilcgaa.PAll
open Go.RowKit Go.Proofs.YtmcihijobilcgaaW.PrintWords Go.Proofs.YtmcihijobilcgaaW.PrintLast Go.Proofs.YtmcihijobilcgaaW.PrintMore
attribute [local go_sem] max2_int min2_int max_two min_two max_three min_three max_four min_four
def remouldref01_inverse.f (a0 : Int) : Option (Int) := if a0 ≥ 97 then (some ((((a0 - 97) % 256) + 65) % 256)) else (some ((((a0 - 65) % 256) + 97) % 256))
set_option maxHeartbeats 8000000 in
set_option maxRecDepth 100000 in
theorem remouldref01_inverse.calls (a0 : Int) (r : Int) (w : World) (h : remouldref01_inverse.f a0 = some r) :
    Calls Try.prog 56 #[.int .u8 a0] w fun e w' => e = .returned (.int .u8 r) ∧ Drawn0 w w' := by
  have H : (if a0 ≥ 97 then (some ((((a0 - 97) % 256) + 65) % 256)) else (some ((((a0 - 65) % 256) + 97) % 256))) = some r := h
  clear h
  by_cases c2 : a0 ≥ 97
  · rw [if_pos c2] at H
    have c2b0 : decide (97 ≤ a0) = true := decide_eq_true c2
    clear c2
    obtain rfl := Option.some.inj H
    go_enter Try.func56, Try.ntmps56
    go_wp2
    go_ret
    exact ⟨by first | rfl | (simp; done) | (simp [*]; done), by repeat (first | exact Drawn0.refl _ | apply Drawn0.step)⟩
  · rw [if_neg c2] at H
    have c2b0 : decide (97 ≤ a0) = false := decide_eq_false c2
    clear c2
    obtain rfl := Option.some.inj H
    go_enter Try.func56, Try.ntmps56
    go_wp2
    go_ret
    exact ⟨by first | rfl | (simp; done) | (simp [*]; done), by repeat (first | exact Drawn0.refl _ | apply Drawn0.step)⟩
end Go.Proofs.Ytmcihijobilcgaa.PAll
end
section
namespace Go.Proofs.Ytmcihijobilcgaa.PAll
open Go.RowKit Go.Proofs.YtmcihijobilcgaaW.PrintWords Go.Proofs.YtmcihijobilcgaaW.PrintLast Go.Proofs.YtmcihijobilcgaaW.PrintMore
attribute [local go_sem] max2_int min2_int max_two min_two max_three min_three max_four min_four
def remouldref01_Reduce.l0 : Nat → ByteArray → List Int → Int → Option (ByteArray)
  | 0, _, _, _ => none
  | k + 1, x0, x3, x4 => if x4 < (x0.size : Int) then (if (x3.length : Int) > 0 then (if 0 ≤ (wrap64 ((x3.length : Int) - 1)) then (if (wrap64 ((x3.length : Int) - 1)) < (x3.length : Int) then (if 0 ≤ x4 then ((remouldref01_inverse.f (bt x0 x4)).bind fun t515 => (if (rd x3 (wrap64 ((x3.length : Int) - 1))) = t515 then (if (wrap64 ((x3.length : Int) - 1)) ≤ (x3.length : Int) then (remouldref01_Reduce.l0 k x0 (x3.take ((wrap64 ((x3.length : Int) - 1)) : Int).toNat) (wrap64 (x4 + 1))) else (none)) else (if x3.length < 140737488355328 then (remouldref01_Reduce.l0 k x0 (x3 ++ [bt x0 x4]) (wrap64 (x4 + 1))) else (none)))) else (none)) else (none)) else (none)) else (if 0 ≤ x4 then (if x3.length < 140737488355328 then (remouldref01_Reduce.l0 k x0 (x3 ++ [bt x0 x4]) (wrap64 (x4 + 1))) else (none)) else (none))) else (some (strOfNums x3))
def remouldref01_Reduce.f (k : Nat) (a0 : ByteArray) : Option (ByteArray) := remouldref01_Reduce.l0 k a0 ([] : List Int) 0
theorem remouldref01_Reduce.mono_l : ∀ k, (∀ y0 y1 y2, LeO (remouldref01_Reduce.l0 k y0 y1 y2) (remouldref01_Reduce.l0 (k + 1) y0 y1 y2))
  | 0 => fun _ _ _ r h => by simp [remouldref01_Reduce.l0] at h
  | k + 1 => by
    have ih0 := remouldref01_Reduce.mono_l k
    · intro y0 y1 y2
      unfold remouldref01_Reduce.l0
      repeat' first
      | (with_reducible exact ih0 _ _ _)
      | (with_reducible exact LeO.refl _)
      | (with_reducible exact LeO.none _)
      | (with_reducible refine LeO.ite ?_ ?_)
      | (with_reducible refine LeO.bind ?_ (fun _ => ?_))
      | exact ih0 _ _ _
      | exact LeO.none _
      | refine LeO.ite ?_ ?_
      | refine LeO.bind ?_ (fun _ => ?_)
theorem remouldref01_Reduce.mono : ∀ a0 k, LeO (remouldref01_Reduce.f k a0) (remouldref01_Reduce.f (k + 1) a0) := by
  intro a0 k
  have ih0 := remouldref01_Reduce.mono_l k
  unfold remouldref01_Reduce.f
  repeat' first
      | (with_reducible exact ih0 _ _ _)
      | (with_reducible exact LeO.refl _)
      | (with_reducible exact LeO.none _)
      | (with_reducible refine LeO.ite ?_ ?_)
      | (with_reducible refine LeO.bind ?_ (fun _ => ?_))
      | exact ih0 _ _ _
      | exact LeO.none _
      | refine LeO.ite ?_ ?_
      | refine LeO.bind ?_ (fun _ => ?_)
set_option maxHeartbeats 8000000 in
set_option maxRecDepth 100000 in
theorem remouldref01_Reduce.calls (k : Nat) (a0 : ByteArray) (r : ByteArray) (w : World) (h : remouldref01_Reduce.f k a0 = some r) :
    Calls Try.prog 33 #[.string a0] w fun e w' => e = .returned (.string r) ∧ Below w.heap.size w w' := by
  have HB := Aside0.mk (Below.refl w.heap.size w)
  have H : (remouldref01_Reduce.l0 k a0 ([] : List Int) 0) = some r := h
  clear h
  have H' := Aside0.mk H
  clear H
  go_enter Try.func33, Try.ntmps33
  go_wp2
  repeat (go_quiet (fail); try go_wp2)
  go_loopg [3, 4] k (fun kq v3 v4 w' => ∃ (x3_1 : List Int) (x4_1 : Int), v4 = .int .i64 x4_1 ∧ Aside0 (remouldref01_Reduce.l0 kq a0 x3_1 x4_1 = some r) ∧ Aside0 (kq ≤ k) ∧ Aside0 (Kd.R (Kd.int .u8) 5 w' w.heap.size (fun _ => True) v3 x3_1) ∧ Aside0 (Below w.heap.size w w'))
  case atStart => exact ⟨(([] : List Int)), (0), (by first | rfl | (simp; done) | (simp [*]; done)), H', ⟨Nat.le_refl _⟩, ⟨by first | exact Kd.R_nil _ _ _ _ _ | exact Kd.N_nil _ _ _ _ _ | exact Kd.V_nil _ _ _ _ _ | exact Kd.Q_nil _ _ _ _ _ | exact Kd.S_nil _ _ _ _ _⟩, ⟨by repeat (first | (with_reducible first | exact HB.out | apply below_alloc | apply pw_below_drewN | apply below_drew1) | exact HB.out)⟩⟩
  case round =>
    clear H'
    obtain ⟨x3_1, x4_1, rfl, HA, HK1, HO_3, HB⟩ := hrel
    cases gk with
    | zero => exact absurd HA.out (by simp [remouldref01_Reduce.l0])
    | succ k1 =>
      have H := HA.out
      clear HA
      simp only [remouldref01_Reduce.l0] at H
      by_cases c2 : x4_1 < (a0.size : Int)
      · rw [if_pos c2] at H
        have c2b0 : decide (x4_1 < (a0.size : Int)) = true := decide_eq_true c2
        clear c2
        by_cases c3 : (x3_1.length : Int) > 0
        · rw [if_pos c3] at H
          have c3b0 : decide (0 < (x3_1.length : Int)) = true := decide_eq_true c3
          have c3b1 : decide (0 < x3_1.length) = true := decide_eq_true (by omega)
          clear c3
          obtain ⟨ji4, hji4⟩ : ∃ j_ : Int, (wrap64 ((x3_1.length : Int) - 1)) = j_ := ⟨_, rfl⟩
          replace H : (if 0 ≤ (ji4) then (if (ji4) < (x3_1.length : Int) then (if 0 ≤ x4_1 then ((remouldref01_inverse.f (bt a0 x4_1)).bind fun t515 => (if (rd x3_1 (ji4)) = t515 then (if (ji4) ≤ (x3_1.length : Int) then (remouldref01_Reduce.l0 k1 a0 (x3_1.take ((ji4) : Int).toNat) (wrap64 (x4_1 + 1))) else (none)) else (if x3_1.length < 140737488355328 then (remouldref01_Reduce.l0 k1 a0 (x3_1 ++ [bt a0 x4_1]) (wrap64 (x4_1 + 1))) else (none)))) else (none)) else (none)) else (none)) = some r := by first | (rw [hji4] at H; exact H) | (simp only [hji4] at H ⊢; exact H)
          have hji4w : (IntKind.i64.wrap ((x3_1.length : Int) - 1)) = ji4 := (i64_w _).trans hji4
          by_cases c5 : 0 ≤ (ji4)
          · rw [if_pos c5] at H
            have c5b0 : decide (0 ≤ (ji4)) = true := decide_eq_true c5
            clear c5
            by_cases c6 : (ji4) < (x3_1.length : Int)
            · rw [if_pos c6] at H
              have c6b0 : decide ((ji4) < (x3_1.length : Int)) = true := decide_eq_true c6
              clear c6
              by_cases c7 : 0 ≤ x4_1
              · rw [if_pos c7] at H
                have c7b0 : decide (0 ≤ x4_1) = true := decide_eq_true c7
                clear c7
                replace H := Option.bind_eq_some_iff.mp H
                obtain ⟨t515, A90, H⟩ := H
                replace H : (if (rd x3_1 (ji4)) = t515 then (if (ji4) ≤ (x3_1.length : Int) then (remouldref01_Reduce.l0 k1 a0 (x3_1.take ((ji4) : Int).toNat) (wrap64 (x4_1 + 1))) else (none)) else (if x3_1.length < 140737488355328 then (remouldref01_Reduce.l0 k1 a0 (x3_1 ++ [bt a0 x4_1]) (wrap64 (x4_1 + 1))) else (none))) = some r := H
                have A9 := Aside0.mk A90
                clear A90
                by_cases c10 : (rd x3_1 (ji4)) = t515
                · rw [if_pos c10] at H
                  have c10b0 : ((rd x3_1 (ji4)) == t515) = true := beq_iff_eq.mpr c10
                  have c10b1 : ((rd x3_1 (ji4)) != t515) = false := bne_eq_false_iff_eq.mpr c10
                  clear c10
                  by_cases c11 : (ji4) ≤ (x3_1.length : Int)
                  · rw [if_pos c11] at H
                    have c11b0 := eq_true c11
                    have c11b1 : decide ((ji4) ≤ (x3_1.length : Int)) = true := decide_eq_true c11
                    have KFc11 := Aside0.mk c11
                    clear c11
                    obtain ⟨y516, hy516⟩ : ∃ y_ : List Int, y_ = (x3_1.take ((ji4) : Int).toNat) := ⟨_, rfl⟩
                    replace H : (remouldref01_Reduce.l0 k1 a0 y516 (wrap64 (x4_1 + 1))) = some r := by first | (rw [hy516]; with_reducible exact H) | (have H2_ := (Option.bind_some _ _).symm.trans H; rw [hy516]; with_reducible exact H2_) | (have H2_ := (Option.bind_some _ _).symm.trans H; with_reducible exact H2_) | with_reducible exact H | (rw [hy516]; exact H) | exact H
                    have Ny516 := Aside0.mk hy516
                    clear hy516
                    have H' := Aside0.mk H
                    clear H
                    obtain ⟨Ao12, co12, eo12⟩ := Kd.R_slice HO_3.out
                    subst eo12
                    have p514 : 0 ≤ ((ji4) : Int) := of_decide_eq_true (by first | (with_reducible assumption) | assumption)
                    have q514 : (ji4) < (x3_1.length : Int) := of_decide_eq_true (by first | (with_reducible assumption) | assumption)
                    obtain ⟨ad514, e514, hx514_0⟩ := Kd.at_int (Kd.R_reads' HO_3.out).2.2 (ji4) p514 q514
                    cases e514
                    replace p514 := eq_true p514
                    replace q514 := eq_true q514
                    have p8 : 0 ≤ (x4_1 : Int) := of_decide_eq_true (by first | (with_reducible assumption) | assumption)
                    have q8 : x4_1 < (a0.size : Int) := of_decide_eq_true (by first | (with_reducible assumption) | assumption)
                    have hx8 := bt_at a0 x4_1
                    replace p8 := eq_true p8
                    replace q8 := eq_true q8
                    go_wp2_with (first | (go_at_call 56; (with_reducible refine (remouldref01_inverse.calls (bt a0 x4_1) t515 _ A9.out).mono ?_); rintro e w' ⟨rfl, ⟨nd, rfl⟩⟩; (try first | exact ⟨rfl, _, World.drewN_drewN _ _ _⟩ | exact ⟨rfl, _, Eq.trans (World.drewN_drewN _ _ _) (congrArg (World.drewN _) (Nat.add_assoc _ _ _))⟩); have q13 : ((ji4) : Int) ≤ ((x3_1.length : Int) : Int) := of_decide_eq_true (by first | (with_reducible assumption) | assumption); obtain ⟨i013, hi013, _, hsz13, _⟩ := info_parts info5; have hcut13 := cut_to (P := Try.prog) 83 5 .i64 Try.underlying83 hi013 (some ad514) x3_1.length co12 (ji4) (of_decide_eq_true (by first | (with_reducible assumption) | assumption)) q13 (Kd.R_reads' HO_3.out).2.1; have hr13 := Kd.R_take (m := ((ji4) : Int).toNat) HO_3.out (by omega); have hy13 : y516.length = ((ji4) : Int).toNat := (by rw [Ny516.out, List.length_take]; omega); rw [← Ny516.out] at hr13; rw [← hy13] at hr13 hcut13; clear hy13 hi013 hsz13 HO_3; have HO518 := Aside0.mk hr13; clear hr13; replace q13 := eq_true q13))
                    repeat (go_quiet (first | (go_at_call 56; (with_reducible refine (remouldref01_inverse.calls (bt a0 x4_1) t515 _ A9.out).mono ?_); rintro e w' ⟨rfl, ⟨nd, rfl⟩⟩; (try first | exact ⟨rfl, _, World.drewN_drewN _ _ _⟩ | exact ⟨rfl, _, Eq.trans (World.drewN_drewN _ _ _) (congrArg (World.drewN _) (Nat.add_assoc _ _ _))⟩); have q13 : ((ji4) : Int) ≤ ((x3_1.length : Int) : Int) := of_decide_eq_true (by first | (with_reducible assumption) | assumption); obtain ⟨i013, hi013, _, hsz13, _⟩ := info_parts info5; have hcut13 := cut_to (P := Try.prog) 83 5 .i64 Try.underlying83 hi013 (some ad514) x3_1.length co12 (ji4) (of_decide_eq_true (by first | (with_reducible assumption) | assumption)) q13 (Kd.R_reads' HO_3.out).2.1; have hr13 := Kd.R_take (m := ((ji4) : Int).toNat) HO_3.out (by omega); have hy13 : y516.length = ((ji4) : Int).toNat := (by rw [Ny516.out, List.length_take]; omega); rw [← Ny516.out] at hr13; rw [← hy13] at hr13 hcut13; clear hy13 hi013 hsz13 HO_3; have HO518 := Aside0.mk hr13; clear hr13; replace q13 := eq_true q13)); try go_wp2_with (first | (go_at_call 56; (with_reducible refine (remouldref01_inverse.calls (bt a0 x4_1) t515 _ A9.out).mono ?_); rintro e w' ⟨rfl, ⟨nd, rfl⟩⟩; (try first | exact ⟨rfl, _, World.drewN_drewN _ _ _⟩ | exact ⟨rfl, _, Eq.trans (World.drewN_drewN _ _ _) (congrArg (World.drewN _) (Nat.add_assoc _ _ _))⟩); have q13 : ((ji4) : Int) ≤ ((x3_1.length : Int) : Int) := of_decide_eq_true (by first | (with_reducible assumption) | assumption); obtain ⟨i013, hi013, _, hsz13, _⟩ := info_parts info5; have hcut13 := cut_to (P := Try.prog) 83 5 .i64 Try.underlying83 hi013 (some ad514) x3_1.length co12 (ji4) (of_decide_eq_true (by first | (with_reducible assumption) | assumption)) q13 (Kd.R_reads' HO_3.out).2.1; have hr13 := Kd.R_take (m := ((ji4) : Int).toNat) HO_3.out (by omega); have hy13 : y516.length = ((ji4) : Int).toNat := (by rw [Ny516.out, List.length_take]; omega); rw [← Ny516.out] at hr13; rw [← hy13] at hr13 hcut13; clear hy13 hi013 hsz13 HO_3; have HO518 := Aside0.mk hr13; clear hr13; replace q13 := eq_true q13)))
                    go_roundg k1
                    case measure => have := HK1.out; omega
                    case rel => exact ⟨(y516), (wrap64 (x4_1 + 1)), (by first | rfl | (simp; done) | (simp [*]; done)), H', ⟨by have := HK1.out; omega⟩, ⟨by (with_reducible repeat (first | apply Kd.R_alloc | apply Kd.R_drewN | apply Kd.R_drew)); exact HO518.out⟩, ⟨by repeat (first | (with_reducible first | exact HB.out | apply below_alloc | apply pw_below_drewN | apply below_drew1) | exact HB.out)⟩⟩
                  · rw [if_neg c11] at H
                    exact absurd H (by simp)
                · rw [if_neg c10] at H
                  have c10b0 : ((rd x3_1 (ji4)) == t515) = false := beq_eq_false_iff_ne.mpr c10
                  have c10b1 : ((rd x3_1 (ji4)) != t515) = true := bne_iff_ne.mpr c10
                  by_cases c15 : x3_1.length < 140737488355328
                  · rw [if_pos c15] at H
                    have LMc15 := Aside0.mk c15
                    clear c15
                    obtain ⟨y519, hy519⟩ : ∃ y_ : List Int, y_ = (x3_1 ++ [bt a0 x4_1]) := ⟨_, rfl⟩
                    replace H : (remouldref01_Reduce.l0 k1 a0 y519 (wrap64 (x4_1 + 1))) = some r := by first | (rw [hy519]; with_reducible exact H) | (have H2_ := (Option.bind_some _ _).symm.trans H; rw [hy519]; with_reducible exact H2_) | (have H2_ := (Option.bind_some _ _).symm.trans H; with_reducible exact H2_) | with_reducible exact H | (rw [hy519]; exact H) | exact H
                    have Ny519 := Aside0.mk hy519
                    clear hy519
                    have H' := Aside0.mk H
                    clear H
                    obtain ⟨Ao16, co16, eo16⟩ := Kd.R_slice HO_3.out
                    subst eo16
                    have p514 : 0 ≤ ((ji4) : Int) := of_decide_eq_true (by first | (with_reducible assumption) | assumption)
                    have q514 : (ji4) < (x3_1.length : Int) := of_decide_eq_true (by first | (with_reducible assumption) | assumption)
                    obtain ⟨ad514, e514, hx514_0⟩ := Kd.at_int (Kd.R_reads' HO_3.out).2.2 (ji4) p514 q514
                    cases e514
                    replace p514 := eq_true p514
                    replace q514 := eq_true q514
                    have p8 : 0 ≤ (x4_1 : Int) := of_decide_eq_true (by first | (with_reducible assumption) | assumption)
                    have q8 : x4_1 < (a0.size : Int) := of_decide_eq_true (by first | (with_reducible assumption) | assumption)
                    have hx8 := bt_at a0 x4_1
                    replace p8 := eq_true p8
                    replace q8 := eq_true q8
                    go_wp2_with (first | (go_at_call 56; (with_reducible refine (remouldref01_inverse.calls (bt a0 x4_1) t515 _ A9.out).mono ?_); rintro e w' ⟨rfl, ⟨nd, rfl⟩⟩; (try first | exact ⟨rfl, _, World.drewN_drewN _ _ _⟩ | exact ⟨rfl, _, Eq.trans (World.drewN_drewN _ _ _) (congrArg (World.drewN _) (Nat.add_assoc _ _ _))⟩); have p14 : 0 ≤ (x4_1 : Int) := of_decide_eq_true (by first | (with_reducible assumption) | assumption); have q14 : x4_1 < (a0.size : Int) := of_decide_eq_true (by first | (with_reducible assumption) | assumption); have hx14 := bt_at a0 x4_1; replace p14 := eq_true p14; replace q14 := eq_true q14) | ((with_reducible refine gate_builtin (b := .append) (xs := #[.tmp 32, .tmp 36]) rfl ?_); at_builtin; refine Kd.R_append (Kd.int .u8) (w0 := w) w.heap.size rfl (.tmp 32) (.tmp 36) 83 5 (.int .u8 0) 1 rfl Try.underlying83 info5 rfl (by decide) (by omega) (.slice (some ad514) x3_1.length co16) x3_1 (bt a0 x4_1) [.int .u8 (bt a0 x4_1)] (fun _ => True) (fun _ => False) rfl rfl ?aP (fun _ hk => hk.elim) ?aF ?aO ?aB ?aS ?aL ?_; (case aP => exact rfl); (case aB => exact (by repeat (first | (with_reducible first | exact HB.out | apply below_alloc | apply pw_below_drewN | apply below_drew1) | exact HB.out))); (case aF => exact (fun _ _ => trivial)); (case aO => exact (by (with_reducible repeat (first | apply Kd.R_alloc | apply Kd.R_drewN | apply Kd.R_drew)); exact HO_3.out)); (case aS => exact (below_size (by repeat (first | (with_reducible first | exact HB.out | apply below_alloc | apply pw_below_drewN | apply below_drew1) | exact HB.out)))); (case aL => have := LMc15.out; omega); intro v520 w17 ho hb hg hat; rw [← Ny519.out] at ho; have n0_ := Aside0.mk (hb); have n1_ := Aside0.mk (ho); clear HB; clear HO_3; have HB := n0_; have HO521 := n1_; clear n0_ n1_; clear ho hb hg hat))
                    repeat (go_quiet (first | (go_at_call 56; (with_reducible refine (remouldref01_inverse.calls (bt a0 x4_1) t515 _ A9.out).mono ?_); rintro e w' ⟨rfl, ⟨nd, rfl⟩⟩; (try first | exact ⟨rfl, _, World.drewN_drewN _ _ _⟩ | exact ⟨rfl, _, Eq.trans (World.drewN_drewN _ _ _) (congrArg (World.drewN _) (Nat.add_assoc _ _ _))⟩); have p14 : 0 ≤ (x4_1 : Int) := of_decide_eq_true (by first | (with_reducible assumption) | assumption); have q14 : x4_1 < (a0.size : Int) := of_decide_eq_true (by first | (with_reducible assumption) | assumption); have hx14 := bt_at a0 x4_1; replace p14 := eq_true p14; replace q14 := eq_true q14) | ((with_reducible refine gate_builtin (b := .append) (xs := #[.tmp 32, .tmp 36]) rfl ?_); at_builtin; refine Kd.R_append (Kd.int .u8) (w0 := w) w.heap.size rfl (.tmp 32) (.tmp 36) 83 5 (.int .u8 0) 1 rfl Try.underlying83 info5 rfl (by decide) (by omega) (.slice (some ad514) x3_1.length co16) x3_1 (bt a0 x4_1) [.int .u8 (bt a0 x4_1)] (fun _ => True) (fun _ => False) rfl rfl ?aP (fun _ hk => hk.elim) ?aF ?aO ?aB ?aS ?aL ?_; (case aP => exact rfl); (case aB => exact (by repeat (first | (with_reducible first | exact HB.out | apply below_alloc | apply pw_below_drewN | apply below_drew1) | exact HB.out))); (case aF => exact (fun _ _ => trivial)); (case aO => exact (by (with_reducible repeat (first | apply Kd.R_alloc | apply Kd.R_drewN | apply Kd.R_drew)); exact HO_3.out)); (case aS => exact (below_size (by repeat (first | (with_reducible first | exact HB.out | apply below_alloc | apply pw_below_drewN | apply below_drew1) | exact HB.out)))); (case aL => have := LMc15.out; omega); intro v520 w17 ho hb hg hat; rw [← Ny519.out] at ho; have n0_ := Aside0.mk (hb); have n1_ := Aside0.mk (ho); clear HB; clear HO_3; have HB := n0_; have HO521 := n1_; clear n0_ n1_; clear ho hb hg hat)); try go_wp2_with (first | (go_at_call 56; (with_reducible refine (remouldref01_inverse.calls (bt a0 x4_1) t515 _ A9.out).mono ?_); rintro e w' ⟨rfl, ⟨nd, rfl⟩⟩; (try first | exact ⟨rfl, _, World.drewN_drewN _ _ _⟩ | exact ⟨rfl, _, Eq.trans (World.drewN_drewN _ _ _) (congrArg (World.drewN _) (Nat.add_assoc _ _ _))⟩); have p14 : 0 ≤ (x4_1 : Int) := of_decide_eq_true (by first | (with_reducible assumption) | assumption); have q14 : x4_1 < (a0.size : Int) := of_decide_eq_true (by first | (with_reducible assumption) | assumption); have hx14 := bt_at a0 x4_1; replace p14 := eq_true p14; replace q14 := eq_true q14) | ((with_reducible refine gate_builtin (b := .append) (xs := #[.tmp 32, .tmp 36]) rfl ?_); at_builtin; refine Kd.R_append (Kd.int .u8) (w0 := w) w.heap.size rfl (.tmp 32) (.tmp 36) 83 5 (.int .u8 0) 1 rfl Try.underlying83 info5 rfl (by decide) (by omega) (.slice (some ad514) x3_1.length co16) x3_1 (bt a0 x4_1) [.int .u8 (bt a0 x4_1)] (fun _ => True) (fun _ => False) rfl rfl ?aP (fun _ hk => hk.elim) ?aF ?aO ?aB ?aS ?aL ?_; (case aP => exact rfl); (case aB => exact (by repeat (first | (with_reducible first | exact HB.out | apply below_alloc | apply pw_below_drewN | apply below_drew1) | exact HB.out))); (case aF => exact (fun _ _ => trivial)); (case aO => exact (by (with_reducible repeat (first | apply Kd.R_alloc | apply Kd.R_drewN | apply Kd.R_drew)); exact HO_3.out)); (case aS => exact (below_size (by repeat (first | (with_reducible first | exact HB.out | apply below_alloc | apply pw_below_drewN | apply below_drew1) | exact HB.out)))); (case aL => have := LMc15.out; omega); intro v520 w17 ho hb hg hat; rw [← Ny519.out] at ho; have n0_ := Aside0.mk (hb); have n1_ := Aside0.mk (ho); clear HB; clear HO_3; have HB := n0_; have HO521 := n1_; clear n0_ n1_; clear ho hb hg hat)))
                    go_roundg k1
                    case measure => have := HK1.out; omega
                    case rel => exact ⟨(y519), (wrap64 (x4_1 + 1)), (by first | rfl | (simp; done) | (simp [*]; done)), H', ⟨by have := HK1.out; omega⟩, ⟨by (with_reducible repeat (first | apply Kd.R_alloc | apply Kd.R_drewN | apply Kd.R_drew)); exact HO521.out⟩, ⟨by repeat (first | (with_reducible first | exact HB.out | apply below_alloc | apply pw_below_drewN | apply below_drew1) | exact HB.out)⟩⟩
                  · rw [if_neg c15] at H
                    exact absurd H (by simp)
              · rw [if_neg c7] at H
                exact absurd H (by simp)
            · rw [if_neg c6] at H
              exact absurd H (by simp)
          · rw [if_neg c5] at H
            exact absurd H (by simp)
        · rw [if_neg c3] at H
          have c3b0 : decide (0 < (x3_1.length : Int)) = false := decide_eq_false c3
          have c3b1 : decide (0 < x3_1.length) = false := decide_eq_false (by omega)
          clear c3
          by_cases c18 : 0 ≤ x4_1
          · rw [if_pos c18] at H
            have c18b0 : decide (0 ≤ x4_1) = true := decide_eq_true c18
            clear c18
            by_cases c20 : x3_1.length < 140737488355328
            · rw [if_pos c20] at H
              have LMc20 := Aside0.mk c20
              clear c20
              obtain ⟨y522, hy522⟩ : ∃ y_ : List Int, y_ = (x3_1 ++ [bt a0 x4_1]) := ⟨_, rfl⟩
              replace H : (remouldref01_Reduce.l0 k1 a0 y522 (wrap64 (x4_1 + 1))) = some r := by first | (rw [hy522]; with_reducible exact H) | (have H2_ := (Option.bind_some _ _).symm.trans H; rw [hy522]; with_reducible exact H2_) | (have H2_ := (Option.bind_some _ _).symm.trans H; with_reducible exact H2_) | with_reducible exact H | (rw [hy522]; exact H) | exact H
              have Ny522 := Aside0.mk hy522
              clear hy522
              have H' := Aside0.mk H
              clear H
              obtain ⟨Ao21, co21, eo21⟩ := Kd.R_slice HO_3.out
              subst eo21
              have p19 : 0 ≤ (x4_1 : Int) := of_decide_eq_true (by first | (with_reducible assumption) | assumption)
              have q19 : x4_1 < (a0.size : Int) := of_decide_eq_true (by first | (with_reducible assumption) | assumption)
              have hx19 := bt_at a0 x4_1
              replace p19 := eq_true p19
              replace q19 := eq_true q19
              go_wp2_with (first | ((with_reducible refine gate_builtin (b := .append) (xs := #[.tmp 32, .tmp 36]) rfl ?_); at_builtin; refine Kd.R_append (Kd.int .u8) (w0 := w) w.heap.size rfl (.tmp 32) (.tmp 36) 83 5 (.int .u8 0) 1 rfl Try.underlying83 info5 rfl (by decide) (by omega) (.slice Ao21 x3_1.length co21) x3_1 (bt a0 x4_1) [.int .u8 (bt a0 x4_1)] (fun _ => True) (fun _ => False) rfl rfl ?aP (fun _ hk => hk.elim) ?aF ?aO ?aB ?aS ?aL ?_; (case aP => exact rfl); (case aB => exact (by repeat (first | (with_reducible first | exact HB.out | apply below_alloc | apply pw_below_drewN | apply below_drew1) | exact HB.out))); (case aF => exact (fun _ _ => trivial)); (case aO => exact (by (with_reducible repeat (first | apply Kd.R_alloc | apply Kd.R_drewN | apply Kd.R_drew)); exact HO_3.out)); (case aS => exact (below_size (by repeat (first | (with_reducible first | exact HB.out | apply below_alloc | apply pw_below_drewN | apply below_drew1) | exact HB.out)))); (case aL => have := LMc20.out; omega); intro v523 w22 ho hb hg hat; rw [← Ny522.out] at ho; have n0_ := Aside0.mk (hb); have n1_ := Aside0.mk (ho); clear HB; clear HO_3; have HB := n0_; have HO524 := n1_; clear n0_ n1_; clear ho hb hg hat))
              repeat (go_quiet (first | ((with_reducible refine gate_builtin (b := .append) (xs := #[.tmp 32, .tmp 36]) rfl ?_); at_builtin; refine Kd.R_append (Kd.int .u8) (w0 := w) w.heap.size rfl (.tmp 32) (.tmp 36) 83 5 (.int .u8 0) 1 rfl Try.underlying83 info5 rfl (by decide) (by omega) (.slice Ao21 x3_1.length co21) x3_1 (bt a0 x4_1) [.int .u8 (bt a0 x4_1)] (fun _ => True) (fun _ => False) rfl rfl ?aP (fun _ hk => hk.elim) ?aF ?aO ?aB ?aS ?aL ?_; (case aP => exact rfl); (case aB => exact (by repeat (first | (with_reducible first | exact HB.out | apply below_alloc | apply pw_below_drewN | apply below_drew1) | exact HB.out))); (case aF => exact (fun _ _ => trivial)); (case aO => exact (by (with_reducible repeat (first | apply Kd.R_alloc | apply Kd.R_drewN | apply Kd.R_drew)); exact HO_3.out)); (case aS => exact (below_size (by repeat (first | (with_reducible first | exact HB.out | apply below_alloc | apply pw_below_drewN | apply below_drew1) | exact HB.out)))); (case aL => have := LMc20.out; omega); intro v523 w22 ho hb hg hat; rw [← Ny522.out] at ho; have n0_ := Aside0.mk (hb); have n1_ := Aside0.mk (ho); clear HB; clear HO_3; have HB := n0_; have HO524 := n1_; clear n0_ n1_; clear ho hb hg hat)); try go_wp2_with (first | ((with_reducible refine gate_builtin (b := .append) (xs := #[.tmp 32, .tmp 36]) rfl ?_); at_builtin; refine Kd.R_append (Kd.int .u8) (w0 := w) w.heap.size rfl (.tmp 32) (.tmp 36) 83 5 (.int .u8 0) 1 rfl Try.underlying83 info5 rfl (by decide) (by omega) (.slice Ao21 x3_1.length co21) x3_1 (bt a0 x4_1) [.int .u8 (bt a0 x4_1)] (fun _ => True) (fun _ => False) rfl rfl ?aP (fun _ hk => hk.elim) ?aF ?aO ?aB ?aS ?aL ?_; (case aP => exact rfl); (case aB => exact (by repeat (first | (with_reducible first | exact HB.out | apply below_alloc | apply pw_below_drewN | apply below_drew1) | exact HB.out))); (case aF => exact (fun _ _ => trivial)); (case aO => exact (by (with_reducible repeat (first | apply Kd.R_alloc | apply Kd.R_drewN | apply Kd.R_drew)); exact HO_3.out)); (case aS => exact (below_size (by repeat (first | (with_reducible first | exact HB.out | apply below_alloc | apply pw_below_drewN | apply below_drew1) | exact HB.out)))); (case aL => have := LMc20.out; omega); intro v523 w22 ho hb hg hat; rw [← Ny522.out] at ho; have n0_ := Aside0.mk (hb); have n1_ := Aside0.mk (ho); clear HB; clear HO_3; have HB := n0_; have HO524 := n1_; clear n0_ n1_; clear ho hb hg hat)))
              go_roundg k1
              case measure => have := HK1.out; omega
              case rel => exact ⟨(y522), (wrap64 (x4_1 + 1)), (by first | rfl | (simp; done) | (simp [*]; done)), H', ⟨by have := HK1.out; omega⟩, ⟨by (with_reducible repeat (first | apply Kd.R_alloc | apply Kd.R_drewN | apply Kd.R_drew)); exact HO524.out⟩, ⟨by repeat (first | (with_reducible first | exact HB.out | apply below_alloc | apply pw_below_drewN | apply below_drew1) | exact HB.out)⟩⟩
            · rw [if_neg c20] at H
              exact absurd H (by simp)
          · rw [if_neg c18] at H
            exact absurd H (by simp)
      · rw [if_neg c2] at H
        have c2b0 : decide (x4_1 < (a0.size : Int)) = false := decide_eq_false c2
        clear c2
        obtain rfl := Option.some.inj H
        have hcv23 := own_string (P := Try.prog) Try.underlying83 Try.underlying5 Try.underlying9 (Kd.own_of_R HO_3.out)
        go_wp2
        repeat (go_quiet (fail); try go_wp2)
        go_ret
        exact ⟨by first | rfl | (simp [errW_none, errW_some] <;> rfl) | (simp [*, errW_none, errW_some] <;> rfl), by repeat (first | (with_reducible first | exact HB.out | apply below_alloc | apply pw_below_drewN | apply below_drew1) | exact HB.out)⟩
end Go.Proofs.Ytmcihijobilcgaa.PAll
end
section
namespace Go.Proofs.Ytmcihijobilcgaa.PAll
open Go.RowKit Go.Proofs.YtmcihijobilcgaaW.PrintWords Go.Proofs.YtmcihijobilcgaaW.PrintLast Go.Proofs.YtmcihijobilcgaaW.PrintMore
attribute [local go_sem] max2_int min2_int max_two min_two max_three min_three max_four min_four
def remouldlaw01_CasingReduces.f (k : Nat) (a0 : Int) (a1 : ByteArray) : Option (Bool) := (remouldlaw01_brief.f a1).bind fun t525 => ((casing_Reduce.f k a0 t525).bind fun bt526 => ((remouldref01_Word.f k a0 t525).bind fun t528 => (if t528 = true then ((remouldref01_Reduce.f k t525).bind fun t529 => (if bt526.1.toList = t529.toList then (if bt526.2 = 0 then ((remouldlaw01_awake.f).bind fun t530 => (some t530)) else (some false)) else (some false))) else (if bt526.1.toList = ([] : List UInt8) then (if bt526.2 = 2 then ((remouldlaw01_awake.f).bind fun t531 => (some t531)) else (some false)) else (some false)))))
theorem remouldlaw01_CasingReduces.mono : ∀ a0 a1 k, LeO (remouldlaw01_CasingReduces.f k a0 a1) (remouldlaw01_CasingReduces.f (k + 1) a0 a1) := by
  intro a0 a1 k
  unfold remouldlaw01_CasingReduces.f
  repeat' first
      | (with_reducible exact casing_Reduce.mono _ _ _)
      | (with_reducible exact remouldref01_Reduce.mono _ _)
      | (with_reducible exact remouldref01_Word.mono _ _ _)
      | (with_reducible exact LeO.refl _)
      | (with_reducible exact LeO.none _)
      | (with_reducible refine LeO.ite ?_ ?_)
      | (with_reducible refine LeO.bind ?_ (fun _ => ?_))
      | exact casing_Reduce.mono _ _ _
      | exact remouldref01_Reduce.mono _ _
      | exact remouldref01_Word.mono _ _ _
      | exact LeO.none _
      | refine LeO.ite ?_ ?_
      | refine LeO.bind ?_ (fun _ => ?_)
set_option maxHeartbeats 8000000 in
set_option maxRecDepth 100000 in
theorem remouldlaw01_CasingReduces.calls (k : Nat) (a0 : Int) (a1 : ByteArray) (r : Bool) (w : World) (h : remouldlaw01_CasingReduces.f k a0 a1 = some r) :
    Calls Try.prog 8 #[.int .i64 a0, .string a1] w fun e w' => e = .returned (.bool r) ∧ Below w.heap.size w w' := by
  have HB := Aside0.mk (Below.refl w.heap.size w)
  have H : ((remouldlaw01_brief.f a1).bind fun t525 => ((casing_Reduce.f k a0 t525).bind fun bt526 => ((remouldref01_Word.f k a0 t525).bind fun t528 => (if t528 = true then ((remouldref01_Reduce.f k t525).bind fun t529 => (if bt526.1.toList = t529.toList then (if bt526.2 = 0 then ((remouldlaw01_awake.f).bind fun t530 => (some t530)) else (some false)) else (some false))) else (if bt526.1.toList = ([] : List UInt8) then (if bt526.2 = 2 then ((remouldlaw01_awake.f).bind fun t531 => (some t531)) else (some false)) else (some false)))))) = some r := h
  clear h
  replace H := Option.bind_eq_some_iff.mp H
  obtain ⟨t525, A30, H⟩ := H
  replace H : ((casing_Reduce.f k a0 t525).bind fun bt526 => ((remouldref01_Word.f k a0 t525).bind fun t528 => (if t528 = true then ((remouldref01_Reduce.f k t525).bind fun t529 => (if bt526.1.toList = t529.toList then (if bt526.2 = 0 then ((remouldlaw01_awake.f).bind fun t530 => (some t530)) else (some false)) else (some false))) else (if bt526.1.toList = ([] : List UInt8) then (if bt526.2 = 2 then ((remouldlaw01_awake.f).bind fun t531 => (some t531)) else (some false)) else (some false))))) = some r := H
  have A3 := Aside0.mk A30
  clear A30
  replace H := Option.bind_eq_some_iff.mp H
  obtain ⟨⟨t526, t527⟩, A40, H⟩ := H
  replace H : ((remouldref01_Word.f k a0 t525).bind fun t528 => (if t528 = true then ((remouldref01_Reduce.f k t525).bind fun t529 => (if t526.toList = t529.toList then (if t527 = 0 then ((remouldlaw01_awake.f).bind fun t530 => (some t530)) else (some false)) else (some false))) else (if t526.toList = ([] : List UInt8) then (if t527 = 2 then ((remouldlaw01_awake.f).bind fun t531 => (some t531)) else (some false)) else (some false)))) = some r := H
  have A4 := Aside0.mk A40
  clear A40
  replace H := Option.bind_eq_some_iff.mp H
  obtain ⟨t528, A50, H⟩ := H
  replace H : (if t528 = true then ((remouldref01_Reduce.f k t525).bind fun t529 => (if t526.toList = t529.toList then (if t527 = 0 then ((remouldlaw01_awake.f).bind fun t530 => (some t530)) else (some false)) else (some false))) else (if t526.toList = ([] : List UInt8) then (if t527 = 2 then ((remouldlaw01_awake.f).bind fun t531 => (some t531)) else (some false)) else (some false))) = some r := H
  have A5 := Aside0.mk A50
  clear A50
  by_cases c6 : t528 = true
  · subst c6
    have H1 : ((remouldref01_Reduce.f k t525).bind fun t529 => (if t526.toList = t529.toList then (if t527 = 0 then ((remouldlaw01_awake.f).bind fun t530 => (some t530)) else (some false)) else (some false))) = some r := by rw [if_pos rfl] at H; exact H
    clear H
    have H := H1
    clear H1
    replace H := Option.bind_eq_some_iff.mp H
    obtain ⟨t529, A70, H⟩ := H
    replace H : (if t526.toList = t529.toList then (if t527 = 0 then ((remouldlaw01_awake.f).bind fun t530 => (some t530)) else (some false)) else (some false)) = some r := H
    have A7 := Aside0.mk A70
    clear A70
    by_cases c8 : t526.toList = t529.toList
    · rw [if_pos c8] at H
      have c8b0 : (t526.toList == t529.toList) = true := beq_iff_eq.mpr c8
      have c8b1 : (t526.toList != t529.toList) = false := bne_eq_false_iff_eq.mpr c8
      clear c8
      by_cases c9 : t527 = 0
      · rw [if_pos c9] at H
        have c9b0 : (t527 == 0) = true := beq_iff_eq.mpr c9
        have c9b1 : (t527 != 0) = false := bne_eq_false_iff_eq.mpr c9
        clear c9
        replace H := Option.bind_eq_some_iff.mp H
        obtain ⟨t530, A100, H⟩ := H
        replace H : (some t530) = some r := H
        have A10 := Aside0.mk A100
        clear A100
        obtain rfl := Option.some.inj H
        go_enter Try.func8, Try.ntmps8
        go_wp2_with (first | ((with_reducible refine gate_callee (f := 30) rfl ?_); refine goesL_ (some 9) rfl rfl Try.func30 (by kernel_rfl) rfl #[.string a1] rfl (by (try simp only [List.map_toArray, List.map_cons, List.map_nil]); first | done | rfl | (simp only [List.length_drop, List.length_take]; rfl)) ?_; (with_reducible refine (remouldlaw01_brief.calls a1 t525 _ A3.out).mono ?_); rintro e w11 ⟨rfl, hb⟩; refine ⟨_, rfl, ?_⟩; have n0_ := Aside0.mk (below_step (by repeat (first | (with_reducible first | exact HB.out | apply below_alloc | apply pw_below_drewN | apply below_drew1) | exact HB.out)) hb); clear HB; have HB := n0_; clear n0_; (try clear hb); (try clear hb2); (try clear hk); (try clear hi)) | ((with_reducible refine gate_callee (f := 31) rfl ?_); refine goesL_ (some 13) rfl rfl Try.func31 (by kernel_rfl) rfl #[.int .i64 a0, .string t525] rfl (by (try simp only [List.map_toArray, List.map_cons, List.map_nil]); first | done | rfl | (simp only [List.length_drop, List.length_take]; rfl)) ?_; (with_reducible refine (casing_Reduce.calls k a0 t525 t526 t527 _ A4.out).mono ?_); rintro e w12 ⟨rfl, hb⟩; refine ⟨_, rfl, ?_⟩; have n0_ := Aside0.mk (below_step (by repeat (first | (with_reducible first | exact HB.out | apply below_alloc | apply pw_below_drewN | apply below_drew1) | exact HB.out)) hb); clear HB; have HB := n0_; clear n0_; (try clear hb); (try clear hb2); (try clear hk); (try clear hi)) | ((with_reducible refine gate_callee (f := 32) rfl ?_); refine goesL_ (some 18) rfl rfl Try.func32 (by kernel_rfl) rfl #[.int .i64 a0, .string t525] rfl (by (try simp only [List.map_toArray, List.map_cons, List.map_nil]); first | done | rfl | (simp only [List.length_drop, List.length_take]; rfl)) ?_; (with_reducible refine (remouldref01_Word.calls k a0 t525 true _ A5.out).mono ?_); rintro e w' ⟨rfl, ⟨nd, rfl⟩⟩; refine ⟨_, rfl, ?_⟩) | ((with_reducible refine gate_callee (f := 33) rfl ?_); refine goesL_ (some 31) rfl rfl Try.func33 (by kernel_rfl) rfl #[.string t525] rfl (by (try simp only [List.map_toArray, List.map_cons, List.map_nil]); first | done | rfl | (simp only [List.length_drop, List.length_take]; rfl)) ?_; (with_reducible refine (remouldref01_Reduce.calls k t525 t529 _ A7.out).mono ?_); rintro e w13 ⟨rfl, hb⟩; refine ⟨_, rfl, ?_⟩; have n0_ := Aside0.mk (below_step (by repeat (first | (with_reducible first | exact HB.out | apply below_alloc | apply pw_below_drewN | apply below_drew1) | exact HB.out)) hb); clear HB; have HB := n0_; clear n0_; (try clear hb); (try clear hb2); (try clear hk); (try clear hi)) | (go_at_call 17; (with_reducible refine (remouldlaw01_awake.calls  t530 _ A10.out).mono ?_); rintro e w14 ⟨rfl, hb⟩; have n0_ := Aside0.mk (below_step (by repeat (first | (with_reducible first | exact HB.out | apply below_alloc | apply pw_below_drewN | apply below_drew1) | exact HB.out)) hb); clear HB; have HB := n0_; clear n0_; (try clear hb); (try clear hb2); (try clear hk); (try clear hi)))
        go_ret
        exact ⟨by first | rfl | (simp [errW_none, errW_some] <;> rfl) | (simp [*, errW_none, errW_some] <;> rfl), by repeat (first | (with_reducible first | exact HB.out | apply below_alloc | apply pw_below_drewN | apply below_drew1) | exact HB.out)⟩
      · rw [if_neg c9] at H
        have c9b0 : (t527 == 0) = false := beq_eq_false_iff_ne.mpr c9
        have c9b1 : (t527 != 0) = true := bne_iff_ne.mpr c9
        obtain rfl := Option.some.inj H
        go_enter Try.func8, Try.ntmps8
        go_wp2_with (first | ((with_reducible refine gate_callee (f := 30) rfl ?_); refine goesL_ (some 9) rfl rfl Try.func30 (by kernel_rfl) rfl #[.string a1] rfl (by (try simp only [List.map_toArray, List.map_cons, List.map_nil]); first | done | rfl | (simp only [List.length_drop, List.length_take]; rfl)) ?_; (with_reducible refine (remouldlaw01_brief.calls a1 t525 _ A3.out).mono ?_); rintro e w15 ⟨rfl, hb⟩; refine ⟨_, rfl, ?_⟩; have n0_ := Aside0.mk (below_step (by repeat (first | (with_reducible first | exact HB.out | apply below_alloc | apply pw_below_drewN | apply below_drew1) | exact HB.out)) hb); clear HB; have HB := n0_; clear n0_; (try clear hb); (try clear hb2); (try clear hk); (try clear hi)) | ((with_reducible refine gate_callee (f := 31) rfl ?_); refine goesL_ (some 13) rfl rfl Try.func31 (by kernel_rfl) rfl #[.int .i64 a0, .string t525] rfl (by (try simp only [List.map_toArray, List.map_cons, List.map_nil]); first | done | rfl | (simp only [List.length_drop, List.length_take]; rfl)) ?_; (with_reducible refine (casing_Reduce.calls k a0 t525 t526 t527 _ A4.out).mono ?_); rintro e w16 ⟨rfl, hb⟩; refine ⟨_, rfl, ?_⟩; have n0_ := Aside0.mk (below_step (by repeat (first | (with_reducible first | exact HB.out | apply below_alloc | apply pw_below_drewN | apply below_drew1) | exact HB.out)) hb); clear HB; have HB := n0_; clear n0_; (try clear hb); (try clear hb2); (try clear hk); (try clear hi)) | ((with_reducible refine gate_callee (f := 32) rfl ?_); refine goesL_ (some 18) rfl rfl Try.func32 (by kernel_rfl) rfl #[.int .i64 a0, .string t525] rfl (by (try simp only [List.map_toArray, List.map_cons, List.map_nil]); first | done | rfl | (simp only [List.length_drop, List.length_take]; rfl)) ?_; (with_reducible refine (remouldref01_Word.calls k a0 t525 true _ A5.out).mono ?_); rintro e w' ⟨rfl, ⟨nd, rfl⟩⟩; refine ⟨_, rfl, ?_⟩) | ((with_reducible refine gate_callee (f := 33) rfl ?_); refine goesL_ (some 31) rfl rfl Try.func33 (by kernel_rfl) rfl #[.string t525] rfl (by (try simp only [List.map_toArray, List.map_cons, List.map_nil]); first | done | rfl | (simp only [List.length_drop, List.length_take]; rfl)) ?_; (with_reducible refine (remouldref01_Reduce.calls k t525 t529 _ A7.out).mono ?_); rintro e w17 ⟨rfl, hb⟩; refine ⟨_, rfl, ?_⟩; have n0_ := Aside0.mk (below_step (by repeat (first | (with_reducible first | exact HB.out | apply below_alloc | apply pw_below_drewN | apply below_drew1) | exact HB.out)) hb); clear HB; have HB := n0_; clear n0_; (try clear hb); (try clear hb2); (try clear hk); (try clear hi)))
        go_ret
        exact ⟨by first | rfl | (simp [errW_none, errW_some] <;> rfl) | (simp [*, errW_none, errW_some] <;> rfl), by repeat (first | (with_reducible first | exact HB.out | apply below_alloc | apply pw_below_drewN | apply below_drew1) | exact HB.out)⟩
    · rw [if_neg c8] at H
      have c8b0 : (t526.toList == t529.toList) = false := beq_eq_false_iff_ne.mpr c8
      have c8b1 : (t526.toList != t529.toList) = true := bne_iff_ne.mpr c8
      obtain rfl := Option.some.inj H
      go_enter Try.func8, Try.ntmps8
      go_wp2_with (first | ((with_reducible refine gate_callee (f := 30) rfl ?_); refine goesL_ (some 9) rfl rfl Try.func30 (by kernel_rfl) rfl #[.string a1] rfl (by (try simp only [List.map_toArray, List.map_cons, List.map_nil]); first | done | rfl | (simp only [List.length_drop, List.length_take]; rfl)) ?_; (with_reducible refine (remouldlaw01_brief.calls a1 t525 _ A3.out).mono ?_); rintro e w18 ⟨rfl, hb⟩; refine ⟨_, rfl, ?_⟩; have n0_ := Aside0.mk (below_step (by repeat (first | (with_reducible first | exact HB.out | apply below_alloc | apply pw_below_drewN | apply below_drew1) | exact HB.out)) hb); clear HB; have HB := n0_; clear n0_; (try clear hb); (try clear hb2); (try clear hk); (try clear hi)) | ((with_reducible refine gate_callee (f := 31) rfl ?_); refine goesL_ (some 13) rfl rfl Try.func31 (by kernel_rfl) rfl #[.int .i64 a0, .string t525] rfl (by (try simp only [List.map_toArray, List.map_cons, List.map_nil]); first | done | rfl | (simp only [List.length_drop, List.length_take]; rfl)) ?_; (with_reducible refine (casing_Reduce.calls k a0 t525 t526 t527 _ A4.out).mono ?_); rintro e w19 ⟨rfl, hb⟩; refine ⟨_, rfl, ?_⟩; have n0_ := Aside0.mk (below_step (by repeat (first | (with_reducible first | exact HB.out | apply below_alloc | apply pw_below_drewN | apply below_drew1) | exact HB.out)) hb); clear HB; have HB := n0_; clear n0_; (try clear hb); (try clear hb2); (try clear hk); (try clear hi)) | ((with_reducible refine gate_callee (f := 32) rfl ?_); refine goesL_ (some 18) rfl rfl Try.func32 (by kernel_rfl) rfl #[.int .i64 a0, .string t525] rfl (by (try simp only [List.map_toArray, List.map_cons, List.map_nil]); first | done | rfl | (simp only [List.length_drop, List.length_take]; rfl)) ?_; (with_reducible refine (remouldref01_Word.calls k a0 t525 true _ A5.out).mono ?_); rintro e w' ⟨rfl, ⟨nd, rfl⟩⟩; refine ⟨_, rfl, ?_⟩) | ((with_reducible refine gate_callee (f := 33) rfl ?_); refine goesL_ (some 31) rfl rfl Try.func33 (by kernel_rfl) rfl #[.string t525] rfl (by (try simp only [List.map_toArray, List.map_cons, List.map_nil]); first | done | rfl | (simp only [List.length_drop, List.length_take]; rfl)) ?_; (with_reducible refine (remouldref01_Reduce.calls k t525 t529 _ A7.out).mono ?_); rintro e w20 ⟨rfl, hb⟩; refine ⟨_, rfl, ?_⟩; have n0_ := Aside0.mk (below_step (by repeat (first | (with_reducible first | exact HB.out | apply below_alloc | apply pw_below_drewN | apply below_drew1) | exact HB.out)) hb); clear HB; have HB := n0_; clear n0_; (try clear hb); (try clear hb2); (try clear hk); (try clear hi)))
      go_ret
      exact ⟨by first | rfl | (simp [errW_none, errW_some] <;> rfl) | (simp [*, errW_none, errW_some] <;> rfl), by repeat (first | (with_reducible first | exact HB.out | apply below_alloc | apply pw_below_drewN | apply below_drew1) | exact HB.out)⟩
  · replace c6 := Bool.eq_false_iff.mpr c6
    subst c6
    have H1 : (if t526.toList = ([] : List UInt8) then (if t527 = 2 then ((remouldlaw01_awake.f).bind fun t531 => (some t531)) else (some false)) else (some false)) = some r := by rw [if_neg (show ¬ (false = true) by decide)] at H; exact H
    clear H
    have H := H1
    clear H1
    by_cases c21 : t526.toList = ([] : List UInt8)
    · rw [if_pos c21] at H
      have c21b0 : (t526.toList == ([] : List UInt8)) = true := beq_iff_eq.mpr c21
      have c21b1 : (t526.toList != ([] : List UInt8)) = false := bne_eq_false_iff_eq.mpr c21
      clear c21
      by_cases c22 : t527 = 2
      · rw [if_pos c22] at H
        have c22b0 : (t527 == 2) = true := beq_iff_eq.mpr c22
        have c22b1 : (t527 != 2) = false := bne_eq_false_iff_eq.mpr c22
        clear c22
        replace H := Option.bind_eq_some_iff.mp H
        obtain ⟨t531, A230, H⟩ := H
        replace H : (some t531) = some r := H
        have A23 := Aside0.mk A230
        clear A230
        obtain rfl := Option.some.inj H
        go_enter Try.func8, Try.ntmps8
        go_wp2_with (first | ((with_reducible refine gate_callee (f := 30) rfl ?_); refine goesL_ (some 9) rfl rfl Try.func30 (by kernel_rfl) rfl #[.string a1] rfl (by (try simp only [List.map_toArray, List.map_cons, List.map_nil]); first | done | rfl | (simp only [List.length_drop, List.length_take]; rfl)) ?_; (with_reducible refine (remouldlaw01_brief.calls a1 t525 _ A3.out).mono ?_); rintro e w24 ⟨rfl, hb⟩; refine ⟨_, rfl, ?_⟩; have n0_ := Aside0.mk (below_step (by repeat (first | (with_reducible first | exact HB.out | apply below_alloc | apply pw_below_drewN | apply below_drew1) | exact HB.out)) hb); clear HB; have HB := n0_; clear n0_; (try clear hb); (try clear hb2); (try clear hk); (try clear hi)) | ((with_reducible refine gate_callee (f := 31) rfl ?_); refine goesL_ (some 13) rfl rfl Try.func31 (by kernel_rfl) rfl #[.int .i64 a0, .string t525] rfl (by (try simp only [List.map_toArray, List.map_cons, List.map_nil]); first | done | rfl | (simp only [List.length_drop, List.length_take]; rfl)) ?_; (with_reducible refine (casing_Reduce.calls k a0 t525 t526 t527 _ A4.out).mono ?_); rintro e w25 ⟨rfl, hb⟩; refine ⟨_, rfl, ?_⟩; have n0_ := Aside0.mk (below_step (by repeat (first | (with_reducible first | exact HB.out | apply below_alloc | apply pw_below_drewN | apply below_drew1) | exact HB.out)) hb); clear HB; have HB := n0_; clear n0_; (try clear hb); (try clear hb2); (try clear hk); (try clear hi)) | ((with_reducible refine gate_callee (f := 32) rfl ?_); refine goesL_ (some 18) rfl rfl Try.func32 (by kernel_rfl) rfl #[.int .i64 a0, .string t525] rfl (by (try simp only [List.map_toArray, List.map_cons, List.map_nil]); first | done | rfl | (simp only [List.length_drop, List.length_take]; rfl)) ?_; (with_reducible refine (remouldref01_Word.calls k a0 t525 false _ A5.out).mono ?_); rintro e w' ⟨rfl, ⟨nd, rfl⟩⟩; refine ⟨_, rfl, ?_⟩) | (go_at_call 17; (with_reducible refine (remouldlaw01_awake.calls  t531 _ A23.out).mono ?_); rintro e w26 ⟨rfl, hb⟩; have n0_ := Aside0.mk (below_step (by repeat (first | (with_reducible first | exact HB.out | apply below_alloc | apply pw_below_drewN | apply below_drew1) | exact HB.out)) hb); clear HB; have HB := n0_; clear n0_; (try clear hb); (try clear hb2); (try clear hk); (try clear hi)))
        go_ret
        exact ⟨by first | rfl | (simp [errW_none, errW_some] <;> rfl) | (simp [*, errW_none, errW_some] <;> rfl), by repeat (first | (with_reducible first | exact HB.out | apply below_alloc | apply pw_below_drewN | apply below_drew1) | exact HB.out)⟩
      · rw [if_neg c22] at H
        have c22b0 : (t527 == 2) = false := beq_eq_false_iff_ne.mpr c22
        have c22b1 : (t527 != 2) = true := bne_iff_ne.mpr c22
        obtain rfl := Option.some.inj H
        go_enter Try.func8, Try.ntmps8
        go_wp2_with (first | ((with_reducible refine gate_callee (f := 30) rfl ?_); refine goesL_ (some 9) rfl rfl Try.func30 (by kernel_rfl) rfl #[.string a1] rfl (by (try simp only [List.map_toArray, List.map_cons, List.map_nil]); first | done | rfl | (simp only [List.length_drop, List.length_take]; rfl)) ?_; (with_reducible refine (remouldlaw01_brief.calls a1 t525 _ A3.out).mono ?_); rintro e w27 ⟨rfl, hb⟩; refine ⟨_, rfl, ?_⟩; have n0_ := Aside0.mk (below_step (by repeat (first | (with_reducible first | exact HB.out | apply below_alloc | apply pw_below_drewN | apply below_drew1) | exact HB.out)) hb); clear HB; have HB := n0_; clear n0_; (try clear hb); (try clear hb2); (try clear hk); (try clear hi)) | ((with_reducible refine gate_callee (f := 31) rfl ?_); refine goesL_ (some 13) rfl rfl Try.func31 (by kernel_rfl) rfl #[.int .i64 a0, .string t525] rfl (by (try simp only [List.map_toArray, List.map_cons, List.map_nil]); first | done | rfl | (simp only [List.length_drop, List.length_take]; rfl)) ?_; (with_reducible refine (casing_Reduce.calls k a0 t525 t526 t527 _ A4.out).mono ?_); rintro e w28 ⟨rfl, hb⟩; refine ⟨_, rfl, ?_⟩; have n0_ := Aside0.mk (below_step (by repeat (first | (with_reducible first | exact HB.out | apply below_alloc | apply pw_below_drewN | apply below_drew1) | exact HB.out)) hb); clear HB; have HB := n0_; clear n0_; (try clear hb); (try clear hb2); (try clear hk); (try clear hi)) | ((with_reducible refine gate_callee (f := 32) rfl ?_); refine goesL_ (some 18) rfl rfl Try.func32 (by kernel_rfl) rfl #[.int .i64 a0, .string t525] rfl (by (try simp only [List.map_toArray, List.map_cons, List.map_nil]); first | done | rfl | (simp only [List.length_drop, List.length_take]; rfl)) ?_; (with_reducible refine (remouldref01_Word.calls k a0 t525 false _ A5.out).mono ?_); rintro e w' ⟨rfl, ⟨nd, rfl⟩⟩; refine ⟨_, rfl, ?_⟩))
        go_ret
        exact ⟨by first | rfl | (simp [errW_none, errW_some] <;> rfl) | (simp [*, errW_none, errW_some] <;> rfl), by repeat (first | (with_reducible first | exact HB.out | apply below_alloc | apply pw_below_drewN | apply below_drew1) | exact HB.out)⟩
    · rw [if_neg c21] at H
      have c21b0 : (t526.toList == ([] : List UInt8)) = false := beq_eq_false_iff_ne.mpr c21
      have c21b1 : (t526.toList != ([] : List UInt8)) = true := bne_iff_ne.mpr c21
      obtain rfl := Option.some.inj H
      go_enter Try.func8, Try.ntmps8
      go_wp2_with (first | ((with_reducible refine gate_callee (f := 30) rfl ?_); refine goesL_ (some 9) rfl rfl Try.func30 (by kernel_rfl) rfl #[.string a1] rfl (by (try simp only [List.map_toArray, List.map_cons, List.map_nil]); first | done | rfl | (simp only [List.length_drop, List.length_take]; rfl)) ?_; (with_reducible refine (remouldlaw01_brief.calls a1 t525 _ A3.out).mono ?_); rintro e w29 ⟨rfl, hb⟩; refine ⟨_, rfl, ?_⟩; have n0_ := Aside0.mk (below_step (by repeat (first | (with_reducible first | exact HB.out | apply below_alloc | apply pw_below_drewN | apply below_drew1) | exact HB.out)) hb); clear HB; have HB := n0_; clear n0_; (try clear hb); (try clear hb2); (try clear hk); (try clear hi)) | ((with_reducible refine gate_callee (f := 31) rfl ?_); refine goesL_ (some 13) rfl rfl Try.func31 (by kernel_rfl) rfl #[.int .i64 a0, .string t525] rfl (by (try simp only [List.map_toArray, List.map_cons, List.map_nil]); first | done | rfl | (simp only [List.length_drop, List.length_take]; rfl)) ?_; (with_reducible refine (casing_Reduce.calls k a0 t525 t526 t527 _ A4.out).mono ?_); rintro e w30 ⟨rfl, hb⟩; refine ⟨_, rfl, ?_⟩; have n0_ := Aside0.mk (below_step (by repeat (first | (with_reducible first | exact HB.out | apply below_alloc | apply pw_below_drewN | apply below_drew1) | exact HB.out)) hb); clear HB; have HB := n0_; clear n0_; (try clear hb); (try clear hb2); (try clear hk); (try clear hi)) | ((with_reducible refine gate_callee (f := 32) rfl ?_); refine goesL_ (some 18) rfl rfl Try.func32 (by kernel_rfl) rfl #[.int .i64 a0, .string t525] rfl (by (try simp only [List.map_toArray, List.map_cons, List.map_nil]); first | done | rfl | (simp only [List.length_drop, List.length_take]; rfl)) ?_; (with_reducible refine (remouldref01_Word.calls k a0 t525 false _ A5.out).mono ?_); rintro e w' ⟨rfl, ⟨nd, rfl⟩⟩; refine ⟨_, rfl, ?_⟩))
      go_ret
      exact ⟨by first | rfl | (simp [errW_none, errW_some] <;> rfl) | (simp [*, errW_none, errW_some] <;> rfl), by repeat (first | (with_reducible first | exact HB.out | apply below_alloc | apply pw_below_drewN | apply below_drew1) | exact HB.out)⟩
def remouldlaw01_CasingReduces.Pure : Prop := ∀ (a0 : Int) (a1 : ByteArray), (Lit.int .i64 a0).wf = true → a1.size ≤ 140737488351232 → ∃ k, remouldlaw01_CasingReduces.f k a0 a1 = some true
theorem remouldlaw01_CasingReduces.walk (P : remouldlaw01_CasingReduces.Pure) (a0 : Int) (a1 : ByteArray) (w : World) (w0 : (Lit.int .i64 a0).wf = true) (w1 : a1.size ≤ 140737488351232) :
    Calls Try.prog 8 #[.int .i64 a0, .string a1] w fun e w' => e = .returned (.bool true) ∧ Below w.heap.size w w' := by
  obtain ⟨k, h⟩ := P a0 a1 w0 w1
  refine (remouldlaw01_CasingReduces.calls k a0 a1 true w h).mono ?_
  rintro e w' ⟨rfl, hd⟩
  exact ⟨rfl, hd⟩
end Go.Proofs.Ytmcihijobilcgaa.PAll
end
section
namespace Go.Proofs.Ytmcihijobilcgaa.PAll
open Go.RowKit Go.Proofs.YtmcihijobilcgaaW.PrintWords Go.Proofs.YtmcihijobilcgaaW.PrintLast Go.Proofs.YtmcihijobilcgaaW.PrintMore
def isLet (g : Nat) (b : Nat) : Bool := b == 97 || b == 65 || (g == 2 && (b == 98 || b == 66))
def allLet (g : Nat) (s : ByteArray) : Bool := s.data.toList.all fun b => isLet g b.toNat
theorem isLet_small {g b : Nat} (h : isLet g b = true) : b < 128 := by
  simp [isLet] at h; omega
theorem noLetter_eq (g : Nat) (hg : g = 1 ∨ g = 2) (x : Nat) : noLetter g x = !(isLet g x) := by
  obtain rfl | rfl := hg
  · have d0 : Utf8.decode (sgn 1) 0 = (97, 1) := by kernel_rfl
    have d1 : Utf8.decode (sgn 1) 1 = (65, 1) := by kernel_rfl
    have e : (sgn 1).size = 2 := by kernel_rfl
    unfold noLetter hasR
    rw [e]
    simp only [hasFrom, e, d0, d1]
    by_cases h1 : x = 97
    · subst h1; simp [isLet]
    · by_cases h2 : x = 65
      · subst h2; simp [isLet]
      · have a1 : ¬ (97 : Int) = (x : Int) := by omega
        have a2 : ¬ (65 : Int) = (x : Int) := by omega
        simp [isLet, h1, h2, a1, a2]
  · have d0 : Utf8.decode (sgn 2) 0 = (97, 1) := by kernel_rfl
    have d1 : Utf8.decode (sgn 2) 1 = (65, 1) := by kernel_rfl
    have d2 : Utf8.decode (sgn 2) 2 = (98, 1) := by kernel_rfl
    have d3 : Utf8.decode (sgn 2) 3 = (66, 1) := by kernel_rfl
    have e : (sgn 2).size = 4 := by kernel_rfl
    unfold noLetter hasR
    rw [e]
    simp only [hasFrom, e, d0, d1, d2, d3]
    by_cases h1 : x = 97
    · subst h1; simp [isLet]
    · by_cases h2 : x = 65
      · subst h2; simp [isLet]
      · by_cases h3 : x = 98
        · subst h3; simp [isLet]
        · by_cases h4 : x = 66
          · subst h4; simp [isLet]
          · have a1 : ¬ (97 : Int) = (x : Int) := by omega
            have a2 : ¬ (65 : Int) = (x : Int) := by omega
            have a3 : ¬ (98 : Int) = (x : Int) := by omega
            have a4 : ¬ (66 : Int) = (x : Int) := by omega
            simp [isLet, h1, h2, h3, h4, a1, a2, a3, a4]
theorem get!_toNat (s : ByteArray) (i : Nat) (h : i < s.size) : (s.get! i).toNat = (s.data.toList[i]'(by simpa using h)).toNat := by
  have e : s.data[i]? = some (s.data[i]'h) := Array.getElem?_eq_getElem h
  rw [ByteArray.get!]
  simp [getElem!_def, e]
theorem idx_word (g : Nat) (hg : g = 1 ∨ g = 2) (s : ByteArray) : ∀ (f pos : Nat), s.size ≤ pos + f →
    decide (0 ≤ Lib.idxFuncFrom (noLetter g) true s f pos) = !((s.data.toList.drop pos).all fun b => isLet g b.toNat)
  | 0, pos, h => by
    rw [List.drop_eq_nil_of_le (by simpa using h)]
    simp [Lib.idxFuncFrom]
  | f + 1, pos, h => by
    by_cases hp : pos < s.size
    · have hp' : pos < s.data.toList.length := by simpa using hp
      rw [List.drop_eq_getElem_cons hp', List.all_cons]
      simp only [Lib.idxFuncFrom, hp, if_true]
      rw [noLetter_eq g hg]
      have hd := Lib.decode_at s pos
      rw [get!_toNat s pos hp] at hd
      rcases Lib.decodeN_cases (s.size - pos) (s.data.toList[pos]).toNat (s.get! (pos + 1)).toNat (s.get! (pos + 2)).toNat (s.get! (pos + 3)).toNat with h1 | h1 | h1 | h1 | h1
      · rw [hd, h1.2]
        dsimp only
        cases hl : isLet g (s.data.toList[pos]).toNat
        · simp
        · simp only [Bool.not_true, Bool.false_eq_true, if_false, Bool.true_and]
          exact idx_word g hg s f (pos + 1) (by omega)
      all_goals
        have hb : ¬ (s.data.toList[pos]).toNat < 128 → isLet g (s.data.toList[pos]).toNat = false := fun hn => by
          cases hl : isLet g (s.data.toList[pos]).toNat
          · rfl
          · exact absurd (isLet_small hl) hn
      · have hR : isLet g (Utf8.decode s pos).1 = false := by
          cases hl : isLet g (Utf8.decode s pos).1
          · rfl
          · have := isLet_small hl; rw [hd, h1.2.2.2.2] at this; dsimp only at this; omega
        rw [hR, hb (by omega)]
        simp
      · have hR : isLet g (Utf8.decode s pos).1 = false := by
          cases hl : isLet g (Utf8.decode s pos).1
          · rfl
          · have := isLet_small hl; rw [hd, h1.2.2.2.2.2] at this; dsimp only at this; omega
        rw [hR, hb (by omega)]
        simp
      · have hR : isLet g (Utf8.decode s pos).1 = false := by
          cases hl : isLet g (Utf8.decode s pos).1
          · rfl
          · have := isLet_small hl; rw [hd] at this; omega
        have hn : ¬ (s.data.toList[pos]).toNat < 128 := fun hlt => by
          have : Lib.decodeN (s.size - pos) (s.data.toList[pos]).toNat (s.get! (pos + 1)).toNat (s.get! (pos + 2)).toNat (s.get! (pos + 3)).toNat = ((s.data.toList[pos]).toNat, 1) := by
            unfold Lib.decodeN; rw [if_pos hlt]
          rw [this] at h1
          dsimp only at h1
          omega
        rw [hR, hb hn]
        simp
      · have hR : isLet g (Utf8.decode s pos).1 = false := by
          rw [hd, h1]
          simp [isLet]
        have hn : ¬ (s.data.toList[pos]).toNat < 128 := fun hlt => by
          have : Lib.decodeN (s.size - pos) (s.data.toList[pos]).toNat (s.get! (pos + 1)).toNat (s.get! (pos + 2)).toNat (s.get! (pos + 3)).toNat = ((s.data.toList[pos]).toNat, 1) := by
            unfold Lib.decodeN; rw [if_pos hlt]
          rw [this] at h1
          have := congrArg Prod.fst h1
          dsimp only at this
          omega
        rw [hR, hb hn]
        simp
    · rw [List.drop_eq_nil_of_le (by simpa using hp)]
      rw [Lib.idxFuncFrom_end _ _ _ _ _ hp]
      simp
theorem wordB_eq (g : Nat) (hg : g = 1 ∨ g = 2) (s : ByteArray) : wordB g s = (decide (s.size ≤ 30) && allLet g s) := by
  unfold wordB Lib.idxFunc
  rw [idx_word g hg s s.size 0 (by omega)]
  simp [allLet]
theorem letter_ok (k : Nat) (c : Int) (g : Int) (b : Nat) (hc : c = b) (hg : g = 1 ∨ g = 2) : ∃ x y, remouldref01_letter.f (k + 1) c g = some (x, y, isLet g.toNat b) := by
  subst hc
  obtain rfl | rfl := hg
  all_goals
    unfold remouldref01_letter.f
    simp only [remouldref01_letter.j0]
    by_cases h1 : b = 97
    · subst h1; exact ⟨_, _, by simp [isLet]; exact ⟨rfl, rfl⟩⟩
    · by_cases h2 : b = 65
      · subst h2; exact ⟨_, _, by simp [isLet]; exact ⟨rfl, rfl⟩⟩
      · by_cases h3 : b = 98
        · subst h3; exact ⟨_, _, by simp [isLet]; exact ⟨rfl, rfl⟩⟩
        · by_cases h4 : b = 66
          · subst h4; exact ⟨_, _, by simp [isLet]; exact ⟨rfl, rfl⟩⟩
          · refine ⟨0, false, ?_⟩
            rw [if_neg (by omega), if_neg (by omega), if_neg (by simp), if_neg (by omega), if_neg (by omega)]
            simp [isLet, h1, h2, h3, h4]
theorem bt_data (s : ByteArray) (i : Nat) (h : i < s.size) : bt s (i : Int) = ((s.data.toList[i]'(by simpa using h)).toNat : Int) := by
  simp [bt, h]
  rfl
theorem letter_any (k : Nat) (c g : Int) : ∃ x y b, remouldref01_letter.f (k + 1) c g = some (x, y, b) := by
  unfold remouldref01_letter.f
  simp only [remouldref01_letter.j0]
  repeat' split
  all_goals exact ⟨_, _, _, rfl⟩
theorem refWord_l0 (g : Int) (s : ByteArray) (hs : s.size ≤ 1000000) : ∀ (m k i : Nat), i + m = s.size → m + 2 ≤ k →
    remouldref01_Word.l0 k g s (i : Int) = some (decide ((g = 1 ∨ g = 2) ∧ s.size ≤ 30) && (s.data.toList.drop i).all fun b => isLet g.toNat b.toNat)
  | 0, k, i, h, hk => by
    obtain ⟨k, rfl⟩ : ∃ q, k = q + 1 := ⟨k - 1, by omega⟩
    simp only [remouldref01_Word.l0]
    rw [if_neg (by omega), List.drop_eq_nil_of_le (by simp; omega)]
    have e30 : ((s.size : Int) ≤ 30) = (s.size ≤ 30) := by apply propext; omega
    by_cases h1 : g = 1
    · subst h1; simp [e30]
    · rw [if_neg h1]
      by_cases h2 : g = 2
      · subst h2; simp [e30]
      · rw [if_neg h2]; simp [h1, h2]
  | m + 1, k, i, h, hk => by
    obtain ⟨k, rfl⟩ : ∃ q, k = q + 1 := ⟨k - 1, by omega⟩
    have hi : i < s.size := by omega
    have hi' : i < s.data.toList.length := by simpa using hi
    simp only [remouldref01_Word.l0]
    rw [if_pos (by omega), if_pos (by omega), wrap64_small _ (by omega) (by omega)]
    have ih := refWord_l0 g s hs m k (i + 1) (by omega) (by omega)
    rw [show ((i : Int) + 1) = ((i + 1 : Nat) : Int) from by omega, ih, List.drop_eq_getElem_cons hi', List.all_cons]
    obtain ⟨q, rfl⟩ : ∃ q, k = q + 1 := ⟨k - 1, by omega⟩
    by_cases hg : g = 1 ∨ g = 2
    · obtain ⟨x, y, hl⟩ := letter_ok q (bt s i) g (s.data.toList[i]).toNat (bt_data s i hi) hg
      rw [hl]
      simp only [Option.bind_some]
      cases hb : isLet g.toNat (s.data.toList[i]).toNat <;> simp
    · obtain ⟨x, y, b, hl⟩ := letter_any q (bt s i) g
      rw [hl]
      simp only [Option.bind_some]
      have : decide ((g = 1 ∨ g = 2) ∧ s.size ≤ 30) = false := decide_eq_false fun h => hg h.1
      rw [this]
      cases b <;> simp
theorem refWord_f (g : Int) (s : ByteArray) (hs : s.size ≤ 1000000) (k : Nat) (hk : s.size + 2 ≤ k) :
    remouldref01_Word.f k g s = some (decide ((g = 1 ∨ g = 2) ∧ s.size ≤ 30) && allLet g.toNat s) := by
  have := refWord_l0 g s hs s.size k 0 (by omega) hk
  simpa [remouldref01_Word.f, allLet] using this
theorem isWord_f (g : Int) (hg : g = 1 ∨ g = 2) (s : ByteArray) : casing_isWord.f g s = some (decide (s.size ≤ 30) && allLet g.toNat s) := by
  unfold casing_isWord.f
  rw [if_pos hg, wordB_eq g.toNat (by omega) s]
def invI (c : Int) : Int := Go.bits .xor .u8 c 32
def pushW (out : List Int) (c : Int) : List Int := if 0 < out.length ∧ rd out ((out.length : Int) - 1) = invI c then out.take (out.length - 1) else out ++ [c]
def redW (out : List Int) (l : List Int) : List Int := l.foldl pushW out
theorem pushW_len (out : List Int) (c : Int) : (pushW out c).length ≤ out.length + 1 := by
  unfold pushW; split
  · simp; omega
  · simp
theorem rd_strBytes (s : ByteArray) (i : Nat) (h : i < s.size) : (strBytes s)[i]'(by rw [strBytes_length]; exact h) = bt s (i : Int) := by
  rw [bt_data s i h]
  simp [strBytes]
theorem joined_l1 (x5 : ByteArray) (hs : x5.size ≤ 1000000) (x8 : List ByteArray) (x9 x10 : Int) : ∀ (m k i : Nat) (x3 : List Int), i + m = x5.size → x3.length + m ≤ 100000000 →
    casing_joined.l1 (k + m + 1) x3 x5 x8 x9 x10 (x5.size : Int) (i : Int) = casing_joined.l0 k (redW x3 ((strBytes x5).drop i)) x8 x9 (wrap64 (x10 + 1))
  | 0, k, i, x3, h, hl => by
    simp only [casing_joined.l1]
    rw [if_neg (by omega), List.drop_eq_nil_of_le (by rw [strBytes_length]; omega)]
    rfl
  | m + 1, k, i, x3, h, hl => by
    have hi : i < x5.size := by omega
    rw [show k + (m + 1) + 1 = (k + m + 1) + 1 from by omega]
    simp only [casing_joined.l1]
    rw [if_pos (by omega)]
    have hw : wrap64 ((i : Int) + 1) = ((i + 1 : Nat) : Int) := by rw [wrap64_small _ (by omega) (by omega)]; omega
    have hd : (strBytes x5).drop i = bt x5 i :: (strBytes x5).drop (i + 1) := by
      rw [List.drop_eq_getElem_cons (by rw [strBytes_length]; exact hi), rd_strBytes x5 i hi]
    have hstep : ∀ y, redW y ((strBytes x5).drop i) = redW (pushW y (bt x5 i)) ((strBytes x5).drop (i + 1)) := fun y => by rw [hd]; rfl
    rw [hstep, hw]
    by_cases h0 : 0 < x3.length
    · have hw1 : wrap64 ((x3.length : Int) - 1) = (x3.length : Int) - 1 := wrap64_small _ (by omega) (by omega)
      rw [if_pos (show (x3.length : Int) > 0 by omega), hw1, if_pos (by omega), if_pos (by omega), if_pos (by omega), if_pos (by omega)]
      show (some (invI (bt x5 i))).bind _ = _
      simp only [Option.bind_some]
      by_cases he : rd x3 ((x3.length : Int) - 1) = invI (bt x5 i)
      · rw [if_pos he, if_pos (by omega)]
        have hp : pushW x3 (bt x5 i) = x3.take (x3.length - 1) := by unfold pushW; rw [if_pos ⟨h0, he⟩]
        rw [hp, show ((x3.length : Int) - 1).toNat = x3.length - 1 from by omega]
        exact joined_l1 x5 hs x8 x9 x10 m k (i + 1) _ (by omega) (by simp; omega)
      · rw [if_neg he, if_pos (by omega)]
        have hp : pushW x3 (bt x5 i) = x3 ++ [bt x5 i] := by unfold pushW; rw [if_neg (fun h => he h.2)]
        rw [hp]
        exact joined_l1 x5 hs x8 x9 x10 m k (i + 1) _ (by omega) (by simp; omega)
    · rw [if_neg (by omega), if_pos (by omega), if_pos (by omega), if_pos (by omega)]
      have hp : pushW x3 (bt x5 i) = x3 ++ [bt x5 i] := by unfold pushW; rw [if_neg (fun h => h0 h.1)]
      rw [hp]
      exact joined_l1 x5 hs x8 x9 x10 m k (i + 1) _ (by omega) (by simp; omega)
theorem redW_len : ∀ (l out : List Int), (redW out l).length ≤ out.length + l.length
  | [], out => by simp [redW]
  | c :: l, out => by
    have h1 := redW_len l (pushW out c)
    have h2 := pushW_len out c
    show (redW (pushW out c) l).length ≤ _
    simp
    omega
def joinFuel : List ByteArray → Nat
  | [] => 1
  | s :: l => s.size + 2 + joinFuel l
def joinLen : List ByteArray → Nat
  | [] => 0
  | s :: l => s.size + joinLen l
theorem joined_l0 (ws : List ByteArray) (hn : ws.length ≤ 1000000) : ∀ (m i k : Nat) (x3 : List Int), i + m = ws.length → x3.length + joinLen (ws.drop i) ≤ 1000000 →
    casing_joined.l0 (k + joinFuel (ws.drop i)) x3 ws (ws.length : Int) (i : Int) = some (strOfNums (redW x3 ((ws.drop i).map strBytes).flatten))
  | 0, i, k, x3, h, hl => by
    rw [List.drop_eq_nil_of_le (by omega)]
    simp only [joinFuel, casing_joined.l0]
    rw [if_neg (by omega)]
    rfl
  | m + 1, i, k, x3, h, hl => by
    have hi : i < ws.length := by omega
    rw [List.drop_eq_getElem_cons hi] at hl ⊢
    simp only [joinLen] at hl
    have hr : rdOf ByteArray.empty ws (i : Int) = ws[i] := by simp [rdOf, hi]
    rw [show k + joinFuel (ws[i] :: ws.drop (i + 1)) = (k + joinFuel (ws.drop (i + 1)) + ws[i].size + 1) + 1 from by simp [joinFuel]; omega]
    simp only [casing_joined.l0]
    rw [if_pos (by omega), if_pos (by omega), if_pos (by omega), hr]
    have h1 := joined_l1 ws[i] (by omega) ws (ws.length : Int) (i : Int) ws[i].size (k + joinFuel (ws.drop (i + 1))) 0 x3 (by omega) (by omega)
    simp only [Int.natCast_zero, List.drop_zero] at h1
    rw [h1, wrap64_small _ (by omega) (by omega), show ((i : Int) + 1) = ((i + 1 : Nat) : Int) from by omega]
    have hlen := redW_len (strBytes ws[i]) x3
    rw [strBytes_length] at hlen
    rw [joined_l0 ws hn m (i + 1) k _ (by omega) (by omega)]
    simp only [List.map_cons, List.flatten_cons, redW, List.foldl_append]
theorem joined_f (ws : List ByteArray) (hn : ws.length ≤ 1000000) (hl : joinLen ws ≤ 1000000) (k : Nat) (hk : joinFuel ws ≤ k) :
    casing_joined.f k ws = some (strOfNums (redW [] (ws.map strBytes).flatten)) := by
  obtain ⟨q, rfl⟩ : ∃ q, k = q + joinFuel ws := ⟨k - joinFuel ws, by omega⟩
  have := joined_l0 ws hn ws.length 0 q [] (by omega) (by simpa using hl)
  simpa [casing_joined.f] using this
def letC (c : Int) : Prop := c = 97 ∨ c = 65 ∨ c = 98 ∨ c = 66
theorem letI_of {g b : Nat} (h : isLet g b = true) : letC (b : Int) := by
  simp [isLet] at h
  unfold letC
  omega
theorem letI_bytes {g : Nat} {s : ByteArray} (h : allLet g s = true) : ∀ c ∈ strBytes s, letC c := by
  intro c hc
  unfold strBytes at hc
  obtain ⟨b, hb, rfl⟩ := List.mem_map.1 hc
  unfold allLet at h
  exact letI_of (List.all_eq_true.1 h b hb)
theorem refInv_f {c : Int} (h : letC c) : remouldref01_inverse.f c = some (invI c) := by
  rcases h with rfl | rfl | rfl | rfl <;> kernel_rfl
theorem refReduce_l0 (s : ByteArray) (hs : s.size ≤ 1000000) (hlet : ∀ c ∈ strBytes s, letC c) : ∀ (m k i : Nat) (x3 : List Int), i + m = s.size → x3.length + m ≤ 100000000 →
    remouldref01_Reduce.l0 (k + m + 1) s x3 (i : Int) = some (strOfNums (redW x3 ((strBytes s).drop i)))
  | 0, k, i, x3, h, hl => by
    simp only [remouldref01_Reduce.l0]
    rw [if_neg (by omega), List.drop_eq_nil_of_le (by rw [strBytes_length]; omega)]
    rfl
  | m + 1, k, i, x3, h, hl => by
    have hi : i < s.size := by omega
    rw [show k + (m + 1) + 1 = (k + m + 1) + 1 from by omega]
    simp only [remouldref01_Reduce.l0]
    rw [if_pos (by omega)]
    have hw : wrap64 ((i : Int) + 1) = ((i + 1 : Nat) : Int) := by rw [wrap64_small _ (by omega) (by omega)]; omega
    have hd : (strBytes s).drop i = bt s i :: (strBytes s).drop (i + 1) := by
      rw [List.drop_eq_getElem_cons (by rw [strBytes_length]; exact hi), rd_strBytes s i hi]
    have hlc : letC (bt s i) := hlet _ (by rw [← rd_strBytes s i hi]; exact List.getElem_mem _)
    have hstep : ∀ y, redW y ((strBytes s).drop i) = redW (pushW y (bt s i)) ((strBytes s).drop (i + 1)) := fun y => by rw [hd]; rfl
    rw [hstep, hw, refInv_f hlc]
    by_cases h0 : 0 < x3.length
    · have hw1 : wrap64 ((x3.length : Int) - 1) = (x3.length : Int) - 1 := wrap64_small _ (by omega) (by omega)
      rw [if_pos (show (x3.length : Int) > 0 by omega), hw1, if_pos (by omega), if_pos (by omega), if_pos (by omega)]
      simp only [Option.bind_some]
      by_cases he : rd x3 ((x3.length : Int) - 1) = invI (bt s i)
      · rw [if_pos he, if_pos (by omega)]
        have hp : pushW x3 (bt s i) = x3.take (x3.length - 1) := by unfold pushW; rw [if_pos ⟨h0, he⟩]
        rw [hp, show ((x3.length : Int) - 1).toNat = x3.length - 1 from by omega]
        exact refReduce_l0 s hs hlet m k (i + 1) _ (by omega) (by simp; omega)
      · rw [if_neg he, if_pos (by omega)]
        have hp : pushW x3 (bt s i) = x3 ++ [bt s i] := by unfold pushW; rw [if_neg (fun h => he h.2)]
        rw [hp]
        exact refReduce_l0 s hs hlet m k (i + 1) _ (by omega) (by simp; omega)
    · rw [if_neg (by omega), if_pos (by omega), if_pos (by omega)]
      have hp : pushW x3 (bt s i) = x3 ++ [bt s i] := by unfold pushW; rw [if_neg (fun h => h0 h.1)]
      rw [hp]
      exact refReduce_l0 s hs hlet m k (i + 1) _ (by omega) (by simp; omega)
theorem refReduce_f (s : ByteArray) (hs : s.size ≤ 1000000) (hlet : ∀ c ∈ strBytes s, letC c) (k : Nat) (hk : s.size < k) :
    remouldref01_Reduce.f k s = some (strOfNums (redW [] (strBytes s))) := by
  obtain ⟨q, rfl⟩ : ∃ q, k = q + s.size + 1 := ⟨k - s.size - 1, by omega⟩
  have := refReduce_l0 s hs hlet s.size q 0 [] (by omega) (by simp; omega)
  simpa [remouldref01_Reduce.f] using this
end Go.Proofs.Ytmcihijobilcgaa.PAll
end
section
namespace Go.Proofs.Ytmcihijobilcgaa.PAll
open Go.RowKit Go.Proofs.YtmcihijobilcgaaW.PrintWords Go.Proofs.YtmcihijobilcgaaW.PrintLast Go.Proofs.YtmcihijobilcgaaW.PrintMore
theorem brief_f (s : ByteArray) : ∃ w, remouldlaw01_brief.f s = some w ∧ w.size ≤ 31 := by
  unfold remouldlaw01_brief.f
  have h1 : 0 ≤ mn (s.size : Int) 31 := by unfold mn; split <;> omega
  have h2 : mn (s.size : Int) 31 ≤ (s.size : Int) := by unfold mn; split <;> omega
  have h3 : mn (s.size : Int) 31 ≤ 31 := by unfold mn; split <;> omega
  rw [if_pos h1, if_pos h2]
  exact ⟨_, rfl, by rw [ByteArray.size_extract]; omega⟩
end Go.Proofs.Ytmcihijobilcgaa.PAll
end
section
namespace Go.Proofs.Ytmcihijobilcgaa.Pure
open Go.RowKit Go.Proofs.Ytmcihijobilcgaa.PAll Go.Proofs.YtmcihijobilcgaaW.PrintWords Go.Proofs.YtmcihijobilcgaaW.PrintLast
theorem CasingReduces : remouldlaw01_CasingReduces.Pure := by
  intro g s hg hs
  refine ⟨100, ?_⟩
  obtain ⟨w, hb, hw⟩ := brief_f s
  unfold remouldlaw01_CasingReduces.f
  rw [hb]
  simp only [Option.bind_some]
  rw [refWord_f g w (by omega) 100 (by omega)]
  simp only [Option.bind_some]
  unfold casing_Reduce.f
  by_cases hgg : g = 1 ∨ g = 2
  · rw [within_true (by omega) (by omega)]
    simp only [Option.bind_some, if_true]
    rw [isWord_f g hgg w]
    simp only [Option.bind_some]
    by_cases hok : (decide (w.size ≤ 30) && allLet g.toNat w) = true
    · have hok2 : (decide ((g = 1 ∨ g = 2) ∧ w.size ≤ 30) && allLet g.toNat w) = true := by
        simp only [Bool.and_eq_true, decide_eq_true_eq] at hok ⊢
        exact ⟨⟨hgg, hok.1⟩, hok.2⟩
      rw [if_pos hok]
      have hlet : ∀ c ∈ strBytes w, letC c := letI_bytes (g := g.toNat) (by simp only [Bool.and_eq_true] at hok; exact hok.2)
      rw [joined_f [w] (by simp) (by simp [joinLen]; omega) 100 (by simp [joinFuel]; omega), refReduce_f w (by omega) hlet 100 (by omega)]
      simp only [Option.bind_some]
      rw [if_pos hok2]
      simp [remouldlaw01_awake.f]
    · have hok2 : ¬ (decide ((g = 1 ∨ g = 2) ∧ w.size ≤ 30) && allLet g.toNat w) = true := by
        simp only [Bool.and_eq_true, decide_eq_true_eq] at hok ⊢
        exact fun h => hok ⟨h.1.2, h.2⟩
      rw [if_neg hok]
      simp only [Option.bind_some]
      rw [if_neg hok2]
      simp [remouldlaw01_awake.f]
  · rw [within_false (by omega)]
    have hok2 : ¬ (decide ((g = 1 ∨ g = 2) ∧ w.size ≤ 30) && allLet g.toNat w) = true := by
      simp only [Bool.and_eq_true, decide_eq_true_eq]
      exact fun h => hgg h.1.1
    simp only [Option.bind_some]
    rw [if_neg (by simp : ¬ (false = true))]
    simp only [Option.bind_some]
    rw [if_neg hok2]
    simp [remouldlaw01_awake.f]
end Go.Proofs.Ytmcihijobilcgaa.Pure
end
section
namespace Go.Proofs.Ytmcihijobilcgaa.casingReduces
open Go.ChangeShapes Go.WideShapes Go.ChangeAt Go.RowKit
open Go.ChangeMaps (open_string shut_string)
theorem own : ownKnob Try.prog.godebug = none := by kernel_rfl
set_option maxRecDepth 100000 in
theorem lifted (os : Os) (started : os.Started) (H : Type) (enc : TypeId × Value → H) :
    ReturnsInHanded {} Try.checked os 8 .any (Rows.casingReducesSpec.pre6 enc Try.prog Try.f8 Rows.casingReducesRow.domain false) (Rows.casingReducesSpec.post enc Try.prog Try.f8 false true false false) := by
  refine returnsInHanded_of_change_sized (C := Try.checked) own started (by kernel_rfl) Try.func8
    (ChangeSpec.witness6 (enc := enc) (C := Try.checked) false ⟨#[], #[.int .i64 0, .string ByteArray.empty], []⟩ 8 (by kernel_rfl) (by kernel_rfl) (by kernel_rfl) (by kernel_rfl)) ?_
  intro W base args ds gs before hval0 hW hcnd hsz0 _
  have hsz : (DataW.weightsEach Try.prog (Try.f8.params.toList ++ Rows.casingReducesSpec.plain.varTypes Try.prog) (ds ++ gs)).all (· ≤ reachBytes) = true := hsz0
  have hval : ∀ (j : Nat) t v, Try.f8.params[j]? = some t → args[j]? = some v → Value.okWide Try.prog W .any base t v := hval0
  have hW' := hW
  obtain ⟨p, q, hA0, hV, rfl, hfz, hnd⟩ := hW
  have hA : DataW.TrodAll enc Try.prog W 0 (fun _ => true) true Try.f8.params.toList args.toList ds p := hA0
  rw [Try.params8] at hA hval hsz
  obtain ⟨v0, vs0, d0, ds0, p0, q0, hargs, rfl, rfl, h0, r0⟩ := trodAll_cons hA
  obtain ⟨v1, vs1, d1, ds1, p1, q1, rfl, rfl, rfl, h1, r1⟩ := trodAll_cons r0
  obtain ⟨rfl, rfl, rfl⟩ := trodAll_nil r1
  obtain rfl : args = #[v0, v1] := by cases args; simp_all
  obtain ⟨rfl, rfl⟩ := trodVars_none hV
  obtain ⟨a0, rfl, rfl, rfl, w0⟩ := open_int Try.underlying3 (hval 0 3 v0 rfl rfl) h0
  obtain ⟨a1, rfl, rfl, rfl, y1⟩ := open_string Try.underlying9 (hval 1 9 v1 rfl rfl) h1
  have w1 : a1.size ≤ 140737488351232 := by
    have z := sized_string hsz (j := 1) (t := 9) rfl rfl
    rw [Array.length_toList] at z
    exact z
  clear hA0 hval0 hsz0 hsz
  refine (PAll.remouldlaw01_CasingReduces.walk Pure.CasingReduces a0 a1 W w0 w1).mono fun e W' ⟨he, bel⟩ => ?_
  subst he
  exact ⟨_, rfl, _, _, _, [], _, [], hW', trodAll_mk1 (shut_bool Try.underlying4 _), (trodAll_cons_mk (shut_int Try.underlying3 w0) (trodAll_cons_mk (shut_string Try.underlying9 y1) trodAll_mk0)), rfl, bel.frame _, fun h => by cases h⟩
theorem over : Rows.casingReducesRow.holds Try.pinned (OpenSpec.ofChange Rows.casingReducesSpec) :=
  OpenClaim.holds_of_wide 8 Try.f8 rfl rfl rfl rfl rfl rfl rfl ⟨rfl, rfl, rfl, rfl, rfl⟩ rfl rfl rfl rfl rfl (by kernel_rfl) Try.func8 (by kernel_rfl)
    (of_decide_eq_true (by kernel_rfl)) (by unfold Func.isWrapper; first | (rw [if_pos (by decide +kernel)]; kernel_rfl) | (rw [if_neg (by decide +kernel)]; exact ⟨rfl, rfl⟩))
    (fun os started H enc _ => lifted os started H enc)
theorem proved : Rows.CasingReducesSaid := over
end Go.Proofs.Ytmcihijobilcgaa.casingReduces
namespace Go.Proofs.Ytmcihijobilcgaa
theorem casingReduces_holds : Rows.CasingReducesSaid := casingReduces.proved
end Go.Proofs.Ytmcihijobilcgaa
end
