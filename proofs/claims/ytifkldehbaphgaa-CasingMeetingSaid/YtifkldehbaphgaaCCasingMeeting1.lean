/- The law CasingMeeting returns true for every input: what a Meet of two standard tables is. No condition. Part 2 of 4. -/
import Derived.Test.YtifkldehbaphgaaCCasingMeeting0
set_option linter.all false
set_option maxHeartbeats 8000000
set_option maxRecDepth 100000
section
namespace Go.Proofs.Ytifkldehbaphgaa.PAll
open Go.RowKit Go.PW.PrintWords Go.PW.PrintLast Go.PW.PrintMore
attribute [local go_sem] max2_int min2_int max_two min_two
theorem info100 : (Try.prog.info? 100).map (fun i => (i.zero, i.size, i.bytes)) = some (some (.agg #[(.int .i64 0), (.int .i64 0)]), 2, 16) := by kernel_rfl
mutual
def c_Meet.j0 : Nat → Bool → Int → Int → Int → Int → Int → Int → Int → Int → Int → Int → Int → Int → Int → Int → Int → Int → Int → Int → Int → Int → Int → Int → Int → Int → Option ((List (List Int)) × Int)
 | 0, _, _, _, _, _, _, _, _, _, _, _, _, _, _, _, _, _, _, _, _, _, _, _, _, _ => none
 | k + 1, x52, Xa0, Xa1, Xa2, Xa3, Xa4, Xa5, Xa6, Xa7, Xa8, Xa9, Xa10, Xa11, Xb0, Xb1, Xb2, Xb3, Xb4, Xb5, Xb6, Xb7, Xb8, Xb9, Xb10, Xb11 => if x52 = true then (some (([] : List (List Int)), 2)) else (c_Meet.l0 k (([(⟨0, 0⟩ : S100)] : List (S100))) 0 Xa0 Xa1 Xa2 Xa3 Xa4 Xa5 Xa6 Xa7 Xa8 Xa9 Xa10 Xa11 Xb0 Xb1 Xb2 Xb3 Xb4 Xb5 Xb6 Xb7 Xb8 Xb9 Xb10 Xb11)
def c_Meet.l0 : Nat → List (S100) → Int → Int → Int → Int → Int → Int → Int → Int → Int → Int → Int → Int → Int → Int → Int → Int → Int → Int → Int → Int → Int → Int → Int → Int → Int → Option ((List (List Int)) × Int)
 | 0, _, _, _, _, _, _, _, _, _, _, _, _, _, _, _, _, _, _, _, _, _, _, _, _, _, _ => none
 | k + 1, x10, x11, Xa0, Xa1, Xa2, Xa3, Xa4, Xa5, Xa6, Xa7, Xa8, Xa9, Xa10, Xa11, Xb0, Xb1, Xb2, Xb3, Xb4, Xb5, Xb6, Xb7, Xb8, Xb9, Xb10, Xb11 => if x11 < (x10.length : Int) then (if 0 ≤ (wrap64 (2 * Xb0)) then (if (wrap64 (2 * Xb0)) ≤ 4 then ((bytesF ((⟨#[97, 65, 98, 66]⟩ : ByteArray).extract 0 ((wrap64 (2 * Xb0)) : Int).toNat)).bind fun t300 => (c_Meet.l1 k x10 x11 t300 (t300.length : Int) 0 Xa0 Xa1 Xa2 Xa3 Xa4 Xa5 Xa6 Xa7 Xa8 Xa9 Xa10 Xa11 Xb0 Xb1 Xb2 Xb3 Xb4 Xb5 Xb6 Xb7 Xb8 Xb9 Xb10 Xb11)) else (none)) else (none)) else (c_Meet.l2 k x10 ([] : List (List Int)) Xb0 0 Xa0 Xa1 Xa2 Xa3 Xa4 Xa5 Xa6 Xa7 Xa8 Xa9 Xa10 Xa11 Xb0 Xb1 Xb2 Xb3 Xb4 Xb5 Xb6 Xb7 Xb8 Xb9 Xb10 Xb11)
def c_Meet.l1 : Nat → List (S100) → Int → List Int → Int → Int → Int → Int → Int → Int → Int → Int → Int → Int → Int → Int → Int → Int → Int → Int → Int → Int → Int → Int → Int → Int → Int → Int → Int → Int → Option ((List (List Int)) × Int)
 | 0, _, _, _, _, _, _, _, _, _, _, _, _, _, _, _, _, _, _, _, _, _, _, _, _, _, _, _, _, _ => none
 | k + 1, x10, x11, x65, x66, x67, Xa0, Xa1, Xa2, Xa3, Xa4, Xa5, Xa6, Xa7, Xa8, Xa9, Xa10, Xa11, Xb0, Xb1, Xb2, Xb3, Xb4, Xb5, Xb6, Xb7, Xb8, Xb9, Xb10, Xb11 => if x67 < x66 then (if 0 ≤ x67 then (if x67 < (x65.length : Int) then (if 0 ≤ x11 then (if x11 < (x10.length : Int) then ((c_table_sent.f Xa0 Xa1 Xa2 Xa3 Xa4 Xa5 Xa6 Xa7 Xa8 Xa9 Xa10 Xa11 ((rd_T100 x10 x11).f0) (rd x65 x67)).bind fun t305 => ((c_table_sent.f Xb0 Xb1 Xb2 Xb3 Xb4 Xb5 Xb6 Xb7 Xb8 Xb9 Xb10 Xb11 ((rd_T100 x10 x11).f1) (rd x65 x67)).bind fun t307 => ((c_pair_71.f k x10 t305 t307).bind fun t309 => (if t309 = true then (c_Meet.j3 k x10 x11 x65 x66 x67 Xa0 Xa1 Xa2 Xa3 Xa4 Xa5 Xa6 Xa7 Xa8 Xa9 Xa10 Xa11 Xb0 Xb1 Xb2 Xb3 Xb4 Xb5 Xb6 Xb7 Xb8 Xb9 Xb10 Xb11) else (if x10.length < 8796093022208 then (c_Meet.j3 k (x10 ++ [(⟨t305, t307⟩ : S100)]) x11 x65 x66 x67 Xa0 Xa1 Xa2 Xa3 Xa4 Xa5 Xa6 Xa7 Xa8 Xa9 Xa10 Xa11 Xb0 Xb1 Xb2 Xb3 Xb4 Xb5 Xb6 Xb7 Xb8 Xb9 Xb10 Xb11) else (none)))))) else (none)) else (none)) else (none)) else (none)) else (c_Meet.l0 k x10 (wrap64 (x11 + 1)) Xa0 Xa1 Xa2 Xa3 Xa4 Xa5 Xa6 Xa7 Xa8 Xa9 Xa10 Xa11 Xb0 Xb1 Xb2 Xb3 Xb4 Xb5 Xb6 Xb7 Xb8 Xb9 Xb10 Xb11)
def c_Meet.j3 : Nat → List (S100) → Int → List Int → Int → Int → Int → Int → Int → Int → Int → Int → Int → Int → Int → Int → Int → Int → Int → Int → Int → Int → Int → Int → Int → Int → Int → Int → Int → Int → Option ((List (List Int)) × Int)
 | 0, _, _, _, _, _, _, _, _, _, _, _, _, _, _, _, _, _, _, _, _, _, _, _, _, _, _, _, _, _ => none
 | k + 1, x10, x11, x65, x66, x67, Xa0, Xa1, Xa2, Xa3, Xa4, Xa5, Xa6, Xa7, Xa8, Xa9, Xa10, Xa11, Xb0, Xb1, Xb2, Xb3, Xb4, Xb5, Xb6, Xb7, Xb8, Xb9, Xb10, Xb11 => c_Meet.l1 k x10 x11 x65 x66 (wrap64 (x67 + 1)) Xa0 Xa1 Xa2 Xa3 Xa4 Xa5 Xa6 Xa7 Xa8 Xa9 Xa10 Xa11 Xb0 Xb1 Xb2 Xb3 Xb4 Xb5 Xb6 Xb7 Xb8 Xb9 Xb10 Xb11
def c_Meet.l2 : Nat → List (S100) → List (List Int) → Int → Int → Int → Int → Int → Int → Int → Int → Int → Int → Int → Int → Int → Int → Int → Int → Int → Int → Int → Int → Int → Int → Int → Int → Int → Int → Option ((List (List Int)) × Int)
 | 0, _, _, _, _, _, _, _, _, _, _, _, _, _, _, _, _, _, _, _, _, _, _, _, _, _, _, _, _ => none
 | k + 1, x10, x15, x98, x99, Xa0, Xa1, Xa2, Xa3, Xa4, Xa5, Xa6, Xa7, Xa8, Xa9, Xa10, Xa11, Xb0, Xb1, Xb2, Xb3, Xb4, Xb5, Xb6, Xb7, Xb8, Xb9, Xb10, Xb11 => if x99 < x98 then (c_Meet.l3 k x10 x15 x99 ([] : List Int) x98 x99 x10 (x10.length : Int) 0 Xa0 Xa1 Xa2 Xa3 Xa4 Xa5 Xa6 Xa7 Xa8 Xa9 Xa10 Xa11 Xb0 Xb1 Xb2 Xb3 Xb4 Xb5 Xb6 Xb7 Xb8 Xb9 Xb10 Xb11) else (some (x15, 0))
def c_Meet.l3 : Nat → List (S100) → List (List Int) → Int → List Int → Int → Int → List (S100) → Int → Int → Int → Int → Int → Int → Int → Int → Int → Int → Int → Int → Int → Int → Int → Int → Int → Int → Int → Int → Int → Int → Int → Int → Int → Int → Option ((List (List Int)) × Int)
 | 0, _, _, _, _, _, _, _, _, _, _, _, _, _, _, _, _, _, _, _, _, _, _, _, _, _, _, _, _, _, _, _, _, _ => none
 | k + 1, x10, x15, x16, x17, x98, x99, x102, x103, x104, Xa0, Xa1, Xa2, Xa3, Xa4, Xa5, Xa6, Xa7, Xa8, Xa9, Xa10, Xa11, Xb0, Xb1, Xb2, Xb3, Xb4, Xb5, Xb6, Xb7, Xb8, Xb9, Xb10, Xb11 => if x104 < x103 then (if 0 ≤ x104 then (if x104 < (x102.length : Int) then ((colAtF Xa0 Xa1 Xa2 Xa3 Xa4 Xa5 Xa6 Xa7 Xa8 Xa9 Xa10 Xa11 x16 ((rd_T100 x102 x104).f0)).bind fun t315 => ((colAtF Xb0 Xb1 Xb2 Xb3 Xb4 Xb5 Xb6 Xb7 Xb8 Xb9 Xb10 Xb11 x16 ((rd_T100 x102 x104).f1)).bind fun t316 => ((c_pair_72.f k x10 t315 t316).bind fun t317 => (if x17.length < 17592186044416 then (c_Meet.l3 k x10 x15 x16 (x17 ++ [t317]) x98 x99 x102 x103 (wrap64 (x104 + 1)) Xa0 Xa1 Xa2 Xa3 Xa4 Xa5 Xa6 Xa7 Xa8 Xa9 Xa10 Xa11 Xb0 Xb1 Xb2 Xb3 Xb4 Xb5 Xb6 Xb7 Xb8 Xb9 Xb10 Xb11) else (none))))) else (none)) else (none)) else (if x15.length < 5864062014805 then (c_Meet.l2 k x10 (x15 ++ [x17]) x98 (wrap64 (x99 + 1)) Xa0 Xa1 Xa2 Xa3 Xa4 Xa5 Xa6 Xa7 Xa8 Xa9 Xa10 Xa11 Xb0 Xb1 Xb2 Xb3 Xb4 Xb5 Xb6 Xb7 Xb8 Xb9 Xb10 Xb11) else (none))
end
def c_Meet.f (k : Nat) (l0 : List (List Int)) (l1 : List (List Int)) : Option ((List (List Int)) × Int) := (c_newTable.f k l0).bind fun bt267 => ((c_newTable.f k l1).bind fun bt281 => (if bt267.2.2.2.2.2.2.2.2.2.2.2.2 = true then (if bt281.2.2.2.2.2.2.2.2.2.2.2.2 = true then ((c_table_isStandard.f k bt267.1 bt267.2.1 bt267.2.2.1 bt267.2.2.2.1 bt267.2.2.2.2.1 bt267.2.2.2.2.2.1 bt267.2.2.2.2.2.2.1 bt267.2.2.2.2.2.2.2.1 bt267.2.2.2.2.2.2.2.2.1 bt267.2.2.2.2.2.2.2.2.2.1 bt267.2.2.2.2.2.2.2.2.2.2.1 bt267.2.2.2.2.2.2.2.2.2.2.2.1).bind fun t295 => (if t295 = true then ((c_table_isStandard.f k bt281.1 bt281.2.1 bt281.2.2.1 bt281.2.2.2.1 bt281.2.2.2.2.1 bt281.2.2.2.2.2.1 bt281.2.2.2.2.2.2.1 bt281.2.2.2.2.2.2.2.1 bt281.2.2.2.2.2.2.2.2.1 bt281.2.2.2.2.2.2.2.2.2.1 bt281.2.2.2.2.2.2.2.2.2.2.1 bt281.2.2.2.2.2.2.2.2.2.2.2.1).bind fun t296 => (if t296 = true then (c_Meet.j0 k (bt267.1 != bt281.1) bt267.1 bt267.2.1 bt267.2.2.1 bt267.2.2.2.1 bt267.2.2.2.2.1 bt267.2.2.2.2.2.1 bt267.2.2.2.2.2.2.1 bt267.2.2.2.2.2.2.2.1 bt267.2.2.2.2.2.2.2.2.1 bt267.2.2.2.2.2.2.2.2.2.1 bt267.2.2.2.2.2.2.2.2.2.2.1 bt267.2.2.2.2.2.2.2.2.2.2.2.1 bt281.1 bt281.2.1 bt281.2.2.1 bt281.2.2.2.1 bt281.2.2.2.2.1 bt281.2.2.2.2.2.1 bt281.2.2.2.2.2.2.1 bt281.2.2.2.2.2.2.2.1 bt281.2.2.2.2.2.2.2.2.1 bt281.2.2.2.2.2.2.2.2.2.1 bt281.2.2.2.2.2.2.2.2.2.2.1 bt281.2.2.2.2.2.2.2.2.2.2.2.1) else (c_Meet.j0 k true bt267.1 bt267.2.1 bt267.2.2.1 bt267.2.2.2.1 bt267.2.2.2.2.1 bt267.2.2.2.2.2.1 bt267.2.2.2.2.2.2.1 bt267.2.2.2.2.2.2.2.1 bt267.2.2.2.2.2.2.2.2.1 bt267.2.2.2.2.2.2.2.2.2.1 bt267.2.2.2.2.2.2.2.2.2.2.1 bt267.2.2.2.2.2.2.2.2.2.2.2.1 bt281.1 bt281.2.1 bt281.2.2.1 bt281.2.2.2.1 bt281.2.2.2.2.1 bt281.2.2.2.2.2.1 bt281.2.2.2.2.2.2.1 bt281.2.2.2.2.2.2.2.1 bt281.2.2.2.2.2.2.2.2.1 bt281.2.2.2.2.2.2.2.2.2.1 bt281.2.2.2.2.2.2.2.2.2.2.1 bt281.2.2.2.2.2.2.2.2.2.2.2.1))) else (c_Meet.j0 k true bt267.1 bt267.2.1 bt267.2.2.1 bt267.2.2.2.1 bt267.2.2.2.2.1 bt267.2.2.2.2.2.1 bt267.2.2.2.2.2.2.1 bt267.2.2.2.2.2.2.2.1 bt267.2.2.2.2.2.2.2.2.1 bt267.2.2.2.2.2.2.2.2.2.1 bt267.2.2.2.2.2.2.2.2.2.2.1 bt267.2.2.2.2.2.2.2.2.2.2.2.1 bt281.1 bt281.2.1 bt281.2.2.1 bt281.2.2.2.1 bt281.2.2.2.2.1 bt281.2.2.2.2.2.1 bt281.2.2.2.2.2.2.1 bt281.2.2.2.2.2.2.2.1 bt281.2.2.2.2.2.2.2.2.1 bt281.2.2.2.2.2.2.2.2.2.1 bt281.2.2.2.2.2.2.2.2.2.2.1 bt281.2.2.2.2.2.2.2.2.2.2.2.1))) else (c_Meet.j0 k true bt267.1 bt267.2.1 bt267.2.2.1 bt267.2.2.2.1 bt267.2.2.2.2.1 bt267.2.2.2.2.2.1 bt267.2.2.2.2.2.2.1 bt267.2.2.2.2.2.2.2.1 bt267.2.2.2.2.2.2.2.2.1 bt267.2.2.2.2.2.2.2.2.2.1 bt267.2.2.2.2.2.2.2.2.2.2.1 bt267.2.2.2.2.2.2.2.2.2.2.2.1 bt281.1 bt281.2.1 bt281.2.2.1 bt281.2.2.2.1 bt281.2.2.2.2.1 bt281.2.2.2.2.2.1 bt281.2.2.2.2.2.2.1 bt281.2.2.2.2.2.2.2.1 bt281.2.2.2.2.2.2.2.2.1 bt281.2.2.2.2.2.2.2.2.2.1 bt281.2.2.2.2.2.2.2.2.2.2.1 bt281.2.2.2.2.2.2.2.2.2.2.2.1)) else (c_Meet.j0 k true bt267.1 bt267.2.1 bt267.2.2.1 bt267.2.2.2.1 bt267.2.2.2.2.1 bt267.2.2.2.2.2.1 bt267.2.2.2.2.2.2.1 bt267.2.2.2.2.2.2.2.1 bt267.2.2.2.2.2.2.2.2.1 bt267.2.2.2.2.2.2.2.2.2.1 bt267.2.2.2.2.2.2.2.2.2.2.1 bt267.2.2.2.2.2.2.2.2.2.2.2.1 bt281.1 bt281.2.1 bt281.2.2.1 bt281.2.2.2.1 bt281.2.2.2.2.1 bt281.2.2.2.2.2.1 bt281.2.2.2.2.2.2.1 bt281.2.2.2.2.2.2.2.1 bt281.2.2.2.2.2.2.2.2.1 bt281.2.2.2.2.2.2.2.2.2.1 bt281.2.2.2.2.2.2.2.2.2.2.1 bt281.2.2.2.2.2.2.2.2.2.2.2.1)))
theorem BR_far2 {w : World} {v : Value} {xs : List Int} {g0 i j : Nat} {cs0 : Array Value} {e0 : TypeId} {f0 : Nat × Nat} {u u2 : Value} (h : BR w v xs) (hb : w.heap[g0]? = some (.cells cs0 e0 f0)) (he : e0 ≠ 5) : BR ((w.setCell ⟨g0, i, none⟩ u).setCell ⟨g0, j, none⟩ u2) v xs := by
 obtain ⟨g, c, cs, fz, rfl, hg, hl, hc⟩ := h
 have hne : g ≠ g0 := by
  rintro rfl
  rw [hg] at hb
  cases hb
  exact he rfl
 exact ⟨g, c, cs, fz, rfl, (Below.heap_setCell _ ⟨g0, j, none⟩ u2 g hne).trans ((Below.heap_setCell _ ⟨g0, i, none⟩ u g hne).trans hg), hl, hc⟩
def c_Meet.T12 : Bool × List (List Nat × List Nat) := (true, [([], []), ([], []), ([], []), ([1, 2], [1, 2]), ([3], [3]), ([4], [4]), ([], []), ([0, 5, 6], [0, 5, 6]), ([], []), ([], []), ([], []), ([9, 10], [9, 10]), ([11], [11]), ([12], [12]), ([], []), ([8, 13, 14, 7], [8, 13, 14]), ([7, 15], [7, 15]), ([], []), ([17, 16, 15, 0, 1, 2, 3, 4, 5, 6, 7, 8, 9, 10, 11, 12, 13, 14, 15, 16, 17], [16, 17])])
def c_Meet.B12 : List Nat := [0, 0, 0, 6, 14, 30, 0, 127, 0, 0, 0, 1536, 3584, 7680, 0, 32767, 65535, 0, 262143]
theorem c_Meet.tab12 : rtab .any (opsOf Try.f36 12) = c_Meet.T12 := by kernel_rfl
theorem c_Meet.bits12 : waitsOk c_Meet.T12.2 c_Meet.B12 = true := by kernel_rfl
theorem c_Meet.calls (k : Nat) (A0 : Option Addr) (c0 : Nat) (l0 : List (List Int)) (A1 : Option Addr) (c1 : Nat) (l1 : List (List Int)) (r1 : List (List Int)) (r2 : Int) (w : World) (hr0 : Kd.C (Kd.slice 3 (Kd.int .i64)) w A0 l0.length l0) (hc0 : l0.length ≤ c0) (hr1 : Kd.C (Kd.slice 3 (Kd.int .i64)) w A1 l1.length l1) (hc1 : l1.length ≤ c1) (h : c_Meet.f k l0 l1 = some (r1, r2)) :
  Calls Try.prog 36 #[.slice A0 l0.length c0, .slice A1 l1.length c1] w fun e w' => ∃ v0_ : Value, e = .returned (.tuple #[v0_, .int .i64 r2]) ∧ Kd.S (Kd.slice 3 (Kd.int .i64)) 22 w' w.heap.size (fun _ => True) v0_ r1 ∧ Below w.heap.size w w' := by
 have hu78 := Try.underlying78
 have hu100 := Try.underlying100
 have HR0 := a_ hr0
 have HC0 := a_ hc0
 clear hr0 hc0
 have HR1 := a_ hr1
 have HC1 := a_ hc1
 clear hr1 hc1
 have HB := a_ (Below.refl w.heap.size w)
 have H : ((c_newTable.f k l0).bind fun bt267 => ((c_newTable.f k l1).bind fun bt281 => (if bt267.2.2.2.2.2.2.2.2.2.2.2.2 = true then (if bt281.2.2.2.2.2.2.2.2.2.2.2.2 = true then ((c_table_isStandard.f k bt267.1 bt267.2.1 bt267.2.2.1 bt267.2.2.2.1 bt267.2.2.2.2.1 bt267.2.2.2.2.2.1 bt267.2.2.2.2.2.2.1 bt267.2.2.2.2.2.2.2.1 bt267.2.2.2.2.2.2.2.2.1 bt267.2.2.2.2.2.2.2.2.2.1 bt267.2.2.2.2.2.2.2.2.2.2.1 bt267.2.2.2.2.2.2.2.2.2.2.2.1).bind fun t295 => (if t295 = true then ((c_table_isStandard.f k bt281.1 bt281.2.1 bt281.2.2.1 bt281.2.2.2.1 bt281.2.2.2.2.1 bt281.2.2.2.2.2.1 bt281.2.2.2.2.2.2.1 bt281.2.2.2.2.2.2.2.1 bt281.2.2.2.2.2.2.2.2.1 bt281.2.2.2.2.2.2.2.2.2.1 bt281.2.2.2.2.2.2.2.2.2.2.1 bt281.2.2.2.2.2.2.2.2.2.2.2.1).bind fun t296 => (if t296 = true then (c_Meet.j0 k (bt267.1 != bt281.1) bt267.1 bt267.2.1 bt267.2.2.1 bt267.2.2.2.1 bt267.2.2.2.2.1 bt267.2.2.2.2.2.1 bt267.2.2.2.2.2.2.1 bt267.2.2.2.2.2.2.2.1 bt267.2.2.2.2.2.2.2.2.1 bt267.2.2.2.2.2.2.2.2.2.1 bt267.2.2.2.2.2.2.2.2.2.2.1 bt267.2.2.2.2.2.2.2.2.2.2.2.1 bt281.1 bt281.2.1 bt281.2.2.1 bt281.2.2.2.1 bt281.2.2.2.2.1 bt281.2.2.2.2.2.1 bt281.2.2.2.2.2.2.1 bt281.2.2.2.2.2.2.2.1 bt281.2.2.2.2.2.2.2.2.1 bt281.2.2.2.2.2.2.2.2.2.1 bt281.2.2.2.2.2.2.2.2.2.2.1 bt281.2.2.2.2.2.2.2.2.2.2.2.1) else (c_Meet.j0 k true bt267.1 bt267.2.1 bt267.2.2.1 bt267.2.2.2.1 bt267.2.2.2.2.1 bt267.2.2.2.2.2.1 bt267.2.2.2.2.2.2.1 bt267.2.2.2.2.2.2.2.1 bt267.2.2.2.2.2.2.2.2.1 bt267.2.2.2.2.2.2.2.2.2.1 bt267.2.2.2.2.2.2.2.2.2.2.1 bt267.2.2.2.2.2.2.2.2.2.2.2.1 bt281.1 bt281.2.1 bt281.2.2.1 bt281.2.2.2.1 bt281.2.2.2.2.1 bt281.2.2.2.2.2.1 bt281.2.2.2.2.2.2.1 bt281.2.2.2.2.2.2.2.1 bt281.2.2.2.2.2.2.2.2.1 bt281.2.2.2.2.2.2.2.2.2.1 bt281.2.2.2.2.2.2.2.2.2.2.1 bt281.2.2.2.2.2.2.2.2.2.2.2.1))) else (c_Meet.j0 k true bt267.1 bt267.2.1 bt267.2.2.1 bt267.2.2.2.1 bt267.2.2.2.2.1 bt267.2.2.2.2.2.1 bt267.2.2.2.2.2.2.1 bt267.2.2.2.2.2.2.2.1 bt267.2.2.2.2.2.2.2.2.1 bt267.2.2.2.2.2.2.2.2.2.1 bt267.2.2.2.2.2.2.2.2.2.2.1 bt267.2.2.2.2.2.2.2.2.2.2.2.1 bt281.1 bt281.2.1 bt281.2.2.1 bt281.2.2.2.1 bt281.2.2.2.2.1 bt281.2.2.2.2.2.1 bt281.2.2.2.2.2.2.1 bt281.2.2.2.2.2.2.2.1 bt281.2.2.2.2.2.2.2.2.1 bt281.2.2.2.2.2.2.2.2.2.1 bt281.2.2.2.2.2.2.2.2.2.2.1 bt281.2.2.2.2.2.2.2.2.2.2.2.1))) else (c_Meet.j0 k true bt267.1 bt267.2.1 bt267.2.2.1 bt267.2.2.2.1 bt267.2.2.2.2.1 bt267.2.2.2.2.2.1 bt267.2.2.2.2.2.2.1 bt267.2.2.2.2.2.2.2.1 bt267.2.2.2.2.2.2.2.2.1 bt267.2.2.2.2.2.2.2.2.2.1 bt267.2.2.2.2.2.2.2.2.2.2.1 bt267.2.2.2.2.2.2.2.2.2.2.2.1 bt281.1 bt281.2.1 bt281.2.2.1 bt281.2.2.2.1 bt281.2.2.2.2.1 bt281.2.2.2.2.2.1 bt281.2.2.2.2.2.2.1 bt281.2.2.2.2.2.2.2.1 bt281.2.2.2.2.2.2.2.2.1 bt281.2.2.2.2.2.2.2.2.2.1 bt281.2.2.2.2.2.2.2.2.2.2.1 bt281.2.2.2.2.2.2.2.2.2.2.2.1)) else (c_Meet.j0 k true bt267.1 bt267.2.1 bt267.2.2.1 bt267.2.2.2.1 bt267.2.2.2.2.1 bt267.2.2.2.2.2.1 bt267.2.2.2.2.2.2.1 bt267.2.2.2.2.2.2.2.1 bt267.2.2.2.2.2.2.2.2.1 bt267.2.2.2.2.2.2.2.2.2.1 bt267.2.2.2.2.2.2.2.2.2.2.1 bt267.2.2.2.2.2.2.2.2.2.2.2.1 bt281.1 bt281.2.1 bt281.2.2.1 bt281.2.2.2.1 bt281.2.2.2.2.1 bt281.2.2.2.2.2.1 bt281.2.2.2.2.2.2.1 bt281.2.2.2.2.2.2.2.1 bt281.2.2.2.2.2.2.2.2.1 bt281.2.2.2.2.2.2.2.2.2.1 bt281.2.2.2.2.2.2.2.2.2.2.1 bt281.2.2.2.2.2.2.2.2.2.2.2.1)))) = some (r1, r2) := h
 clear h
 replace H := Option.bind_eq_some_iff.mp H
 obtain ⟨⟨t267, t268, t269, t270, t271, t272, t273, t274, t275, t276, t277, t278, t279⟩, A30, H⟩ := H
 try dsimp only at H
 have A3 := a_ A30
 clear A30
 replace H := Option.bind_eq_some_iff.mp H
 obtain ⟨⟨t281, t282, t283, t284, t285, t286, t287, t288, t289, t290, t291, t292, t293⟩, A40, H⟩ := H
 try dsimp only at H
 have A4 := a_ A40
 clear A40
 have HC5 := a_ H
 clear H
 go_enter Try.func36, Try.ntmps36
 go_upto_region 3 with (first | ((with_reducible refine gate_callee (f := 51) rfl ?_); refine goesL_ (some 22) rfl rfl Try.func51 (by kernel_rfl) rfl #[.slice A0 l0.length c0] rfl (by (try simp only [List.map_toArray, List.map_cons, List.map_nil]); first | done | rfl | (simp only [List.length_drop, List.length_take]; rfl)) ?_; (with_reducible refine (c_newTable.calls k _ _ l0 t267 t268 t269 t270 t271 t272 t273 t274 t275 t276 t277 t278 t279 _ ?side1 ?side2 A3.out).mono ?_); (case side1 => repeat (first | exact HR0.out | (with_reducible refine Kd.C_alloc ?_ _) | (with_reducible refine Kd.C_drewN ?_ _) | (with_reducible refine Kd.C_drew ?_))); (case side2 => exact HC0.out); rintro e w6 ⟨rfl, hb⟩; refine ⟨_, rfl, ?_⟩; replace HB := a_ (bT_ HB.out (tr hb)); (try clear hb); (try clear hb2); (try clear hk); (try clear hi)) | ((with_reducible refine gate_dst (N := 6) rfl ?_); refine box_event ?hg (N := 6) ?hd (cs := #[.int .i64 0, .int .i64 0, .int .i64 0, .int .i64 0, .int .i64 0, .int .i64 0, .int .i64 0, .int .i64 0, .int .i64 0, .int .i64 0, .int .i64 0, .int .i64 0]) (t := 78) ?hr ?_; (case hd => rfl); (case hg => rfl); (case hr => first | (go_simp; done) | (go_simp; rfl)); intro gb280 hg w7 hbox hb; have BK280 := a_ (hbox); have GW280 := a_ ((by rw [hg]; exact (bZ_ (gr HB.out)) : w.heap.size ≤ gb280)); have GE280 := GEc.mk ((by rw [hg]; exact (bZ_ (gr HB.out)) : w.heap.size ≤ gb280)); replace HB := a_ (bT_ HB.out (tr hb)); clear hb hbox hg; obtain ⟨hcz8_0, hcz8_1, hcz8_2, hcz8_3, hcz8_4, hcz8_5, hcz8_6, hcz8_7, hcz8_8, hcz8_9, hcz8_10, hcz8_11⟩ := cs12 BK280.out; have hfz8_0 := kf_ BK280.out 0; have hfz8_1 := kf_ BK280.out 1; have hfz8_2 := kf_ BK280.out 2; have hfz8_3 := kf_ BK280.out 3; have hfz8_4 := kf_ BK280.out 4; have hfz8_5 := kf_ BK280.out 5; have hfz8_6 := kf_ BK280.out 6; have hfz8_7 := kf_ BK280.out 7; have hfz8_8 := kf_ BK280.out 8; have hfz8_9 := kf_ BK280.out 9; have hfz8_10 := kf_ BK280.out 10; have hfz8_11 := kf_ BK280.out 11) | ((with_reducible refine gate_callee (f := 51) rfl ?_); refine goesL_ (some 27) rfl rfl Try.func51 (by kernel_rfl) rfl #[.slice A1 l1.length c1] rfl (by (try simp only [List.map_toArray, List.map_cons, List.map_nil]); first | done | rfl | (simp only [List.length_drop, List.length_take]; rfl)) ?_; (with_reducible refine (c_newTable.calls k _ _ l1 t281 t282 t283 t284 t285 t286 t287 t288 t289 t290 t291 t292 t293 _ ?side1 ?side2 A4.out).mono ?_); (case side1 => exact Kd.C_below HR1.out (by exact gs HB.out)); (case side2 => exact HC1.out); rintro e w9 ⟨rfl, hb⟩; refine ⟨_, rfl, ?_⟩; replace BK280 := a_ (kB_ (g := gb280) (o := .cells #[.int .i64 t267, .int .i64 t268, .int .i64 t269, .int .i64 t270, .int .i64 t271, .int .i64 t272, .int .i64 t273, .int .i64 t274, .int .i64 t275, .int .i64 t276, .int .i64 t277, .int .i64 t278] 78 (0, 0)) (by exact pb BK280.out (by rfl)) hb); replace HB := a_ (bT_ (by exact gs HB.out) hb); (try clear hb); (try clear hb2); (try clear hk); (try clear hi)) | ((with_reducible refine gate_dst (N := 8) rfl ?_); refine box_event ?hg (N := 8) ?hd (cs := #[.int .i64 0, .int .i64 0, .int .i64 0, .int .i64 0, .int .i64 0, .int .i64 0, .int .i64 0, .int .i64 0, .int .i64 0, .int .i64 0, .int .i64 0, .int .i64 0]) (t := 78) ?hr ?_; (case hd => rfl); (case hg => rfl); (case hr => first | (go_simp; done) | (go_simp; rfl)); intro gb294 hg w10 hbox hb; have BK294 := a_ (hbox); have GW294 := a_ ((by rw [hg]; exact (bZ_ (by exact gs HB.out)) : w.heap.size ≤ gb294)); have GE294 := GEc.mk ((by rw [hg]; exact (bZ_ (by exact gs HB.out)) : w.heap.size ≤ gb294)); have NB280_294 := NEc.mk ((by rw [hg]; exact Nat.ne_of_lt (blk_lt (g := gb280) (o := .cells #[.int .i64 t267, .int .i64 t268, .int .i64 t269, .int .i64 t270, .int .i64 t271, .int .i64 t272, .int .i64 t273, .int .i64 t274, .int .i64 t275, .int .i64 t276, .int .i64 t277, .int .i64 t278] 78 (0, 0)) (by exact bk BK280.out)) : gb280 ≠ gb294)); have NB294_280 := NEc.mk ((by rw [hg]; exact Nat.ne_of_gt (blk_lt (g := gb280) (o := .cells #[.int .i64 t267, .int .i64 t268, .int .i64 t269, .int .i64 t270, .int .i64 t271, .int .i64 t272, .int .i64 t273, .int .i64 t274, .int .i64 t275, .int .i64 t276, .int .i64 t277, .int .i64 t278] 78 (0, 0)) (by exact bk BK280.out)) : gb294 ≠ gb280)); replace BK280 := a_ (kB_ BK280.out (tr hb)); replace HB := a_ (bT_ (by exact gs HB.out) hb); clear hb hbox hg; have hnb11 := NB294_280.out; have hnc11 := NB280_294.out; obtain ⟨hcz12_0, hcz12_1, hcz12_2, hcz12_3, hcz12_4, hcz12_5, hcz12_6, hcz12_7, hcz12_8, hcz12_9, hcz12_10, hcz12_11⟩ := cs12 BK294.out; have hfz12_0 := kf_ BK294.out 0; have hfz12_1 := kf_ BK294.out 1; have hfz12_2 := kf_ BK294.out 2; have hfz12_3 := kf_ BK294.out 3; have hfz12_4 := kf_ BK294.out 4; have hfz12_5 := kf_ BK294.out 5; have hfz12_6 := kf_ BK294.out 6; have hfz12_7 := kf_ BK294.out 7; have hfz12_8 := kf_ BK294.out 8; have hfz12_9 := kf_ BK294.out 9; have hfz12_10 := kf_ BK294.out 10; have hfz12_11 := kf_ BK294.out 11))
 (try simp only [Act.put, List.setIfInBounds_toArray, List.set_cons_zero, List.set_cons_succ])
 go_cut [52] (fun v52 wc => ∃ (kq : Nat) (x52_4 : Bool), v52 = .bool x52_4 ∧ Aside0 (c_Meet.j0 kq x52_4 t267 t268 t269 t270 t271 t272 t273 t274 t275 t276 t277 t278 t281 t282 t283 t284 t285 t286 t287 t288 t289 t290 t291 t292 = some (r1, r2)) ∧ Aside0 (kq ≤ k) ∧ Aside0 (wc.heap[gb280]? = some (.cells #[.int .i64 t267, .int .i64 t268, .int .i64 t269, .int .i64 t270, .int .i64 t271, .int .i64 t272, .int .i64 t273, .int .i64 t274, .int .i64 t275, .int .i64 t276, .int .i64 t277, .int .i64 t278] 78 (0, 0))) ∧ Aside0 (wc.heap[gb294]? = some (.cells #[.int .i64 t281, .int .i64 t282, .int .i64 t283, .int .i64 t284, .int .i64 t285, .int .i64 t286, .int .i64 t287, .int .i64 t288, .int .i64 t289, .int .i64 t290, .int .i64 t291, .int .i64 t292] 78 (0, 0))) ∧ Aside0 (Below w.heap.size w wc))
 case first =>
  have H := HC5.out
  clear HC5
  by_cases c13 : t279 = true
  rotate_left
  ·replace c13 := Bool.eq_false_iff.mpr c13
   subst c13
   have H1 := H; rw [if_neg (show ¬ (false = true) by decide)] at H1
   clear H
   have H := H1
   clear H1
   have H' := a_ H
   clear H
   go_wp2
   go_meet
   case rel => exact ⟨_, (true), (by first | rfl | (simp; done) | (simp [*]; done)), H', ⟨by first | omega | exact Nat.le_refl _⟩, ⟨by exact bk BK280.out⟩, ⟨by exact pb BK294.out (by rfl)⟩, ⟨by exact gs HB.out⟩⟩
  subst c13
  have H1 := H; rw [if_pos rfl] at H1
  clear H
  have H := H1
  clear H1
  by_cases c14 : t293 = true
  rotate_left
  ·replace c14 := Bool.eq_false_iff.mpr c14
   subst c14
   have H1 := H; rw [if_neg (show ¬ (false = true) by decide)] at H1
   clear H
   have H := H1
   clear H1
   have H' := a_ H
   clear H
   go_wp2
   go_meet
   case rel => exact ⟨_, (true), (by first | rfl | (simp; done) | (simp [*]; done)), H', ⟨by first | omega | exact Nat.le_refl _⟩, ⟨by exact bk BK280.out⟩, ⟨by exact pb BK294.out (by rfl)⟩, ⟨by exact gs HB.out⟩⟩
  subst c14
  have H1 := H; rw [if_pos rfl] at H1
  clear H
  have H := H1
  clear H1
  replace H := Option.bind_eq_some_iff.mp H
  obtain ⟨t295, A150, H⟩ := H
  try dsimp only at H
  have A15 := a_ A150
  clear A150
  by_cases c16 : t295 = true
  rotate_left
  ·replace c16 := Bool.eq_false_iff.mpr c16
   subst c16
   have H1 := H; rw [if_neg (show ¬ (false = true) by decide)] at H1
   clear H
   have H := H1
   clear H1
   have H' := a_ H
   clear H
   have hnb31 := NB280_294.out
   have hnc31 := NB294_280.out
   obtain ⟨hcz32_0, hcz32_1, hcz32_2, hcz32_3, hcz32_4, hcz32_5, hcz32_6, hcz32_7, hcz32_8, hcz32_9, hcz32_10, hcz32_11⟩ := cs12 BK280.out
   have hfz32_0 := kf_ BK280.out 0
   have hfz32_1 := kf_ BK280.out 1
   have hfz32_2 := kf_ BK280.out 2
   have hfz32_3 := kf_ BK280.out 3
   have hfz32_4 := kf_ BK280.out 4
   have hfz32_5 := kf_ BK280.out 5
   have hfz32_6 := kf_ BK280.out 6
   have hfz32_7 := kf_ BK280.out 7
   have hfz32_8 := kf_ BK280.out 8
   have hfz32_9 := kf_ BK280.out 9
   have hfz32_10 := kf_ BK280.out 10
   have hfz32_11 := kf_ BK280.out 11
   go_wp2_with (first | (go_at_call 52; (with_reducible refine (c_table_isStandard.calls k t267 t268 t269 t270 t271 t272 t273 t274 t275 t276 t277 t278 false _ A15.out).mono ?_); rintro e w33 ⟨rfl, hb⟩; replace BK280 := a_ (kB_ (g := gb280) (o := .cells #[.int .i64 t267, .int .i64 t268, .int .i64 t269, .int .i64 t270, .int .i64 t271, .int .i64 t272, .int .i64 t273, .int .i64 t274, .int .i64 t275, .int .i64 t276, .int .i64 t277, .int .i64 t278] 78 (0, 0)) (by exact bk BK280.out) hb); replace BK294 := a_ (kB_ (g := gb294) (o := .cells #[.int .i64 t281, .int .i64 t282, .int .i64 t283, .int .i64 t284, .int .i64 t285, .int .i64 t286, .int .i64 t287, .int .i64 t288, .int .i64 t289, .int .i64 t290, .int .i64 t291, .int .i64 t292] 78 (0, 0)) (by exact pb BK294.out (by rfl)) hb); replace HB := a_ (bT_ (by exact gs HB.out) hb); (try clear hb); (try clear hb2); (try clear hk); (try clear hi)))
   go_meet
   case rel => exact ⟨_, (true), (by first | rfl | (simp; done) | (simp [*]; done)), H', ⟨by first | omega | exact Nat.le_refl _⟩, ⟨by exact bk BK280.out⟩, ⟨by exact bk BK294.out⟩, ⟨by exact gs HB.out⟩⟩
  subst c16
  have H1 := H; rw [if_pos rfl] at H1
  clear H
  have H := H1
  clear H1
  replace H := Option.bind_eq_some_iff.mp H
  obtain ⟨t296, A170, H⟩ := H
  try dsimp only at H
  have A17 := a_ A170
  clear A170
  by_cases c18 : t296 = true
  rotate_left
  ·replace c18 := Bool.eq_false_iff.mpr c18
   subst c18
   have H1 := H; rw [if_neg (show ¬ (false = true) by decide)] at H1
   clear H
   have H := H1
   clear H1
   have H' := a_ H
   clear H
   have hnb26 := NB280_294.out
   have hnc26 := NB294_280.out
   obtain ⟨hcz27_0, hcz27_1, hcz27_2, hcz27_3, hcz27_4, hcz27_5, hcz27_6, hcz27_7, hcz27_8, hcz27_9, hcz27_10, hcz27_11⟩ := cs12 BK280.out
   have hfz27_0 := kf_ BK280.out 0
   have hfz27_1 := kf_ BK280.out 1
   have hfz27_2 := kf_ BK280.out 2
   have hfz27_3 := kf_ BK280.out 3
   have hfz27_4 := kf_ BK280.out 4
   have hfz27_5 := kf_ BK280.out 5
   have hfz27_6 := kf_ BK280.out 6
   have hfz27_7 := kf_ BK280.out 7
   have hfz27_8 := kf_ BK280.out 8
   have hfz27_9 := kf_ BK280.out 9
   have hfz27_10 := kf_ BK280.out 10
   have hfz27_11 := kf_ BK280.out 11
   go_wp2_with (first | (go_at_call 52; (with_reducible refine (c_table_isStandard.calls k t267 t268 t269 t270 t271 t272 t273 t274 t275 t276 t277 t278 true _ A15.out).mono ?_); rintro e w28 ⟨rfl, hb⟩; replace BK280 := a_ (kB_ (g := gb280) (o := .cells #[.int .i64 t267, .int .i64 t268, .int .i64 t269, .int .i64 t270, .int .i64 t271, .int .i64 t272, .int .i64 t273, .int .i64 t274, .int .i64 t275, .int .i64 t276, .int .i64 t277, .int .i64 t278] 78 (0, 0)) (by exact bk BK280.out) hb); replace BK294 := a_ (kB_ (g := gb294) (o := .cells #[.int .i64 t281, .int .i64 t282, .int .i64 t283, .int .i64 t284, .int .i64 t285, .int .i64 t286, .int .i64 t287, .int .i64 t288, .int .i64 t289, .int .i64 t290, .int .i64 t291, .int .i64 t292] 78 (0, 0)) (by exact pb BK294.out (by rfl)) hb); replace HB := a_ (bT_ (by exact gs HB.out) hb); (try clear hb); (try clear hb2); (try clear hk); (try clear hi); obtain ⟨hcz29_0, hcz29_1, hcz29_2, hcz29_3, hcz29_4, hcz29_5, hcz29_6, hcz29_7, hcz29_8, hcz29_9, hcz29_10, hcz29_11⟩ := cs12 BK294.out; have hfz29_0 := kf_ BK294.out 0; have hfz29_1 := kf_ BK294.out 1; have hfz29_2 := kf_ BK294.out 2; have hfz29_3 := kf_ BK294.out 3; have hfz29_4 := kf_ BK294.out 4; have hfz29_5 := kf_ BK294.out 5; have hfz29_6 := kf_ BK294.out 6; have hfz29_7 := kf_ BK294.out 7; have hfz29_8 := kf_ BK294.out 8; have hfz29_9 := kf_ BK294.out 9; have hfz29_10 := kf_ BK294.out 10; have hfz29_11 := kf_ BK294.out 11) | (go_at_call 52; (with_reducible refine (c_table_isStandard.calls k t281 t282 t283 t284 t285 t286 t287 t288 t289 t290 t291 t292 false _ A17.out).mono ?_); rintro e w30 ⟨rfl, hb⟩; replace BK280 := a_ (kB_ BK280.out (tr hb)); replace BK294 := a_ (kB_ BK294.out (tr hb)); replace HB := a_ (bT_ (by exact gs HB.out) hb); (try clear hb); (try clear hb2); (try clear hk); (try clear hi)))
   go_meet
   case rel => exact ⟨_, (true), (by first | rfl | (simp; done) | (simp [*]; done)), H', ⟨by first | omega | exact Nat.le_refl _⟩, ⟨by exact bk BK280.out⟩, ⟨by exact bk BK294.out⟩, ⟨by exact gs HB.out⟩⟩
  subst c18
  have H1 := H; rw [if_pos rfl] at H1
  clear H
  have H := H1
  clear H1
  have H' := a_ H
  clear H
  have hnb19 := NB280_294.out
  have hnc19 := NB294_280.out
  obtain ⟨hcz20_0, hcz20_1, hcz20_2, hcz20_3, hcz20_4, hcz20_5, hcz20_6, hcz20_7, hcz20_8, hcz20_9, hcz20_10, hcz20_11⟩ := cs12 BK280.out
  have hfz20_0 := kf_ BK280.out 0
  have hfz20_1 := kf_ BK280.out 1
  have hfz20_2 := kf_ BK280.out 2
  have hfz20_3 := kf_ BK280.out 3
  have hfz20_4 := kf_ BK280.out 4
  have hfz20_5 := kf_ BK280.out 5
  have hfz20_6 := kf_ BK280.out 6
  have hfz20_7 := kf_ BK280.out 7
  have hfz20_8 := kf_ BK280.out 8
  have hfz20_9 := kf_ BK280.out 9
  have hfz20_10 := kf_ BK280.out 10
  have hfz20_11 := kf_ BK280.out 11
  go_wp2_with (first | (go_at_call 52; (with_reducible refine (c_table_isStandard.calls k t267 t268 t269 t270 t271 t272 t273 t274 t275 t276 t277 t278 true _ A15.out).mono ?_); rintro e w21 ⟨rfl, hb⟩; replace BK280 := a_ (kB_ (g := gb280) (o := .cells #[.int .i64 t267, .int .i64 t268, .int .i64 t269, .int .i64 t270, .int .i64 t271, .int .i64 t272, .int .i64 t273, .int .i64 t274, .int .i64 t275, .int .i64 t276, .int .i64 t277, .int .i64 t278] 78 (0, 0)) (by exact bk BK280.out) hb); replace BK294 := a_ (kB_ (g := gb294) (o := .cells #[.int .i64 t281, .int .i64 t282, .int .i64 t283, .int .i64 t284, .int .i64 t285, .int .i64 t286, .int .i64 t287, .int .i64 t288, .int .i64 t289, .int .i64 t290, .int .i64 t291, .int .i64 t292] 78 (0, 0)) (by exact pb BK294.out (by rfl)) hb); replace HB := a_ (bT_ (by exact gs HB.out) hb); (try clear hb); (try clear hb2); (try clear hk); (try clear hi); obtain ⟨hcz22_0, hcz22_1, hcz22_2, hcz22_3, hcz22_4, hcz22_5, hcz22_6, hcz22_7, hcz22_8, hcz22_9, hcz22_10, hcz22_11⟩ := cs12 BK294.out; have hfz22_0 := kf_ BK294.out 0; have hfz22_1 := kf_ BK294.out 1; have hfz22_2 := kf_ BK294.out 2; have hfz22_3 := kf_ BK294.out 3; have hfz22_4 := kf_ BK294.out 4; have hfz22_5 := kf_ BK294.out 5; have hfz22_6 := kf_ BK294.out 6; have hfz22_7 := kf_ BK294.out 7; have hfz22_8 := kf_ BK294.out 8; have hfz22_9 := kf_ BK294.out 9; have hfz22_10 := kf_ BK294.out 10; have hfz22_11 := kf_ BK294.out 11) | (go_at_call 52; (with_reducible refine (c_table_isStandard.calls k t281 t282 t283 t284 t285 t286 t287 t288 t289 t290 t291 t292 true _ A17.out).mono ?_); rintro e w23 ⟨rfl, hb⟩; replace BK280 := a_ (kB_ BK280.out (tr hb)); replace BK294 := a_ (kB_ BK294.out (tr hb)); replace HB := a_ (bT_ (by exact gs HB.out) hb); (try clear hb); (try clear hb2); (try clear hk); (try clear hi); obtain ⟨hcz24_0, hcz24_1, hcz24_2, hcz24_3, hcz24_4, hcz24_5, hcz24_6, hcz24_7, hcz24_8, hcz24_9, hcz24_10, hcz24_11⟩ := cs12 BK280.out; have hfz24_0 := kf_ BK280.out 0; have hfz24_1 := kf_ BK280.out 1; have hfz24_2 := kf_ BK280.out 2; have hfz24_3 := kf_ BK280.out 3; have hfz24_4 := kf_ BK280.out 4; have hfz24_5 := kf_ BK280.out 5; have hfz24_6 := kf_ BK280.out 6; have hfz24_7 := kf_ BK280.out 7; have hfz24_8 := kf_ BK280.out 8; have hfz24_9 := kf_ BK280.out 9; have hfz24_10 := kf_ BK280.out 10; have hfz24_11 := kf_ BK280.out 11; obtain ⟨hcz25_0, hcz25_1, hcz25_2, hcz25_3, hcz25_4, hcz25_5, hcz25_6, hcz25_7, hcz25_8, hcz25_9, hcz25_10, hcz25_11⟩ := cs12 BK294.out; have hfz25_0 := kf_ BK294.out 0; have hfz25_1 := kf_ BK294.out 1; have hfz25_2 := kf_ BK294.out 2; have hfz25_3 := kf_ BK294.out 3; have hfz25_4 := kf_ BK294.out 4; have hfz25_5 := kf_ BK294.out 5; have hfz25_6 := kf_ BK294.out 6; have hfz25_7 := kf_ BK294.out 7; have hfz25_8 := kf_ BK294.out 8; have hfz25_9 := kf_ BK294.out 9; have hfz25_10 := kf_ BK294.out 10; have hfz25_11 := kf_ BK294.out 11))
  go_meet
  case rel => exact ⟨_, ((t267 != t281)), (by first | rfl | (simp; done) | (simp [*]; done)), H', ⟨by first | omega | exact Nat.le_refl _⟩, ⟨by exact bk BK280.out⟩, ⟨by exact bk BK294.out⟩, ⟨by exact gs HB.out⟩⟩
 case rest =>
  clear HC5
  try clear c1
  try clear c2
  try clear p2
  try clear c3
  try clear c5
  try clear c11
  try clear c13
  try clear c14
  try clear c16
  try clear c18
  try clear c19
  try clear c26
  try clear c31
  try clear hcz12_0 hcz12_1 hcz12_10 hcz12_11 hcz12_2 hcz12_3 hcz12_4 hcz12_5 hcz12_6 hcz12_7 hcz12_8 hcz12_9
  try clear hcz20_0 hcz20_1 hcz20_10 hcz20_11 hcz20_2 hcz20_3 hcz20_4 hcz20_5 hcz20_6 hcz20_7 hcz20_8 hcz20_9
  try clear hcz22_0 hcz22_1 hcz22_10 hcz22_11 hcz22_2 hcz22_3 hcz22_4 hcz22_5 hcz22_6 hcz22_7 hcz22_8 hcz22_9
  try clear hcz24_0 hcz24_1 hcz24_10 hcz24_11 hcz24_2 hcz24_3 hcz24_4 hcz24_5 hcz24_6 hcz24_7 hcz24_8 hcz24_9
  try clear hcz25_0 hcz25_1 hcz25_10 hcz25_11 hcz25_2 hcz25_3 hcz25_4 hcz25_5 hcz25_6 hcz25_7 hcz25_8 hcz25_9
  try clear hcz27_0 hcz27_1 hcz27_10 hcz27_11 hcz27_2 hcz27_3 hcz27_4 hcz27_5 hcz27_6 hcz27_7 hcz27_8 hcz27_9
  try clear hcz29_0 hcz29_1 hcz29_10 hcz29_11 hcz29_2 hcz29_3 hcz29_4 hcz29_5 hcz29_6 hcz29_7 hcz29_8 hcz29_9
  try clear hcz32_0 hcz32_1 hcz32_10 hcz32_11 hcz32_2 hcz32_3 hcz32_4 hcz32_5 hcz32_6 hcz32_7 hcz32_8 hcz32_9
  try clear hcz8_0 hcz8_1 hcz8_10 hcz8_11 hcz8_2 hcz8_3 hcz8_4 hcz8_5 hcz8_6 hcz8_7 hcz8_8 hcz8_9
  try clear hfz12_0 hfz12_1 hfz12_10 hfz12_11 hfz12_2 hfz12_3 hfz12_4 hfz12_5 hfz12_6 hfz12_7 hfz12_8 hfz12_9
  try clear hfz20_0 hfz20_1 hfz20_10 hfz20_11 hfz20_2 hfz20_3 hfz20_4 hfz20_5 hfz20_6 hfz20_7 hfz20_8 hfz20_9
  try clear hfz22_0 hfz22_1 hfz22_10 hfz22_11 hfz22_2 hfz22_3 hfz22_4 hfz22_5 hfz22_6 hfz22_7 hfz22_8 hfz22_9
  try clear hfz24_0 hfz24_1 hfz24_10 hfz24_11 hfz24_2 hfz24_3 hfz24_4 hfz24_5 hfz24_6 hfz24_7 hfz24_8 hfz24_9
  try clear hfz25_0 hfz25_1 hfz25_10 hfz25_11 hfz25_2 hfz25_3 hfz25_4 hfz25_5 hfz25_6 hfz25_7 hfz25_8 hfz25_9
  try clear hfz27_0 hfz27_1 hfz27_10 hfz27_11 hfz27_2 hfz27_3 hfz27_4 hfz27_5 hfz27_6 hfz27_7 hfz27_8 hfz27_9
  try clear hfz29_0 hfz29_1 hfz29_10 hfz29_11 hfz29_2 hfz29_3 hfz29_4 hfz29_5 hfz29_6 hfz29_7 hfz29_8 hfz29_9
  try clear hfz32_0 hfz32_1 hfz32_10 hfz32_11 hfz32_2 hfz32_3 hfz32_4 hfz32_5 hfz32_6 hfz32_7 hfz32_8 hfz32_9
  try clear hfz8_0 hfz8_1 hfz8_10 hfz8_11 hfz8_2 hfz8_3 hfz8_4 hfz8_5 hfz8_6 hfz8_7 hfz8_8 hfz8_9
  obtain ⟨kq, x52_4, rfl, HA, HJ4, BK280, BK294, HB⟩ := hcut
  cases kq with
  | zero => exact absurd HA.out (by simp [c_Meet.j0])
  | succ kj4 =>
   have H := HA.out
   clear HA
   simp only [c_Meet.j0] at H
   by_cases c34 : x52_4 = true
   ·subst c34
    have H1 := H; rw [if_pos rfl] at H1
    clear H
    have H := H1
    clear H1
    simp only [Option.some.injEq, Prod.mk.injEq] at H
    obtain ⟨rfl, rfl⟩ := H
    go_wp2
    go_ret2
    exact ⟨_, by first | rfl | (simp [errW_none, errW_some] <;> rfl) | (simp [*, errW_none, errW_some] <;> rfl), by first | exact Kd.S_nil _ _ _ _ _ | exact Kd.N_nil _ _ _ _ _ | exact Kd.V_nil _ _ _ _ _ | exact Kd.Q_nil _ _ _ _ _ | exact Kd.R_nil _ _ _ _ _, by exact gs HB.out⟩
   replace c34 := Bool.eq_false_iff.mpr c34
   subst c34
   have H1 := H; rw [if_neg (show ¬ (false = true) by decide)] at H1
   clear H
   have H := H1
   clear H1
   obtain ⟨y297, hy297⟩ : ∃ y_ : List (S100), y_ = (([(⟨0, 0⟩ : S100)] : List (S100))) := ⟨_, rfl⟩
   replace H : (c_Meet.l0 kj4 y297 0 t267 t268 t269 t270 t271 t272 t273 t274 t275 t276 t277 t278 t281 t282 t283 t284 t285 t286 t287 t288 t289 t290 t291 t292) = some (r1, r2) := by first | (rw [hy297]; with_reducible exact H) | (have H2_ := (Option.bind_some _ _).symm.trans H; rw [hy297]; with_reducible exact H2_) | (have H2_ := (Option.bind_some _ _).symm.trans H; with_reducible exact H2_) | with_reducible exact H | (rw [hy297]; exact H) | exact H
   have Ny297 := a_ hy297
   clear hy297
   have H' := a_ H
   clear H
   go_wp2_with (first | ((with_reducible refine gate_dst (N := 54) rfl ?_); refine Kd.R_lit k100 _ 100 ?hg (N := 54) ?hd (xs := ([(⟨0, 0⟩ : S100)] : List (S100))) (inner := [.int .i64 0, .int .i64 0]) (ok := fun _ => True) (okp := fun _ => True) ?hr ?hp (fun _ hk => hk) trivial (Below.refl _ _) (Nat.le_refl _) (by simp) ?_; (case hd => rfl); (case hg => rfl); (case hr => first | (go_simp; done) | (go_simp; rfl)); (case hp => exact (Reps.c2 (show Kd.M k100 _ _ _ (⟨0, 0⟩ : S100) [.int .i64 0, .int .i64 0] from (k100_mkM _ _ _ (⟨0, 0⟩ : S100) )) (Reps.none _ _))); intro v298 w35 ho36 hb hg_ hnew_; clear hg_ hnew_; (first | rw [← Ny297.out] at ho36 | (simp only [Int.reduceToNat] at ho36; rw [← Ny297.out] at ho36)); have HO299 := a_ (Kd.R_lower ho36 (bZ_ (by exact gs HB.out))); replace BK280 := a_ (kB_ BK280.out (tr hb)); replace BK294 := a_ (kB_ BK294.out (tr hb)); replace HB := a_ (bT_ (by exact gs HB.out) hb); clear hb ho36))
   go_loopg [10, 11] kj4 (fun kq v10 v11 w' => ∃ (x10_2 : List (S100)) (x11_2 : Int), v11 = .int .i64 x11_2 ∧ Aside0 (c_Meet.l0 kq x10_2 x11_2 t267 t268 t269 t270 t271 t272 t273 t274 t275 t276 t277 t278 t281 t282 t283 t284 t285 t286 t287 t288 t289 t290 t291 t292 = some (r1, r2)) ∧ Aside0 (kq ≤ kj4) ∧ Aside0 (Kd.R k100 100 w' w.heap.size (fun _ => True) v10 x10_2) ∧ Aside0 (w'.heap[gb280]? = some (.cells #[.int .i64 t267, .int .i64 t268, .int .i64 t269, .int .i64 t270, .int .i64 t271, .int .i64 t272, .int .i64 t273, .int .i64 t274, .int .i64 t275, .int .i64 t276, .int .i64 t277, .int .i64 t278] 78 (0, 0))) ∧ Aside0 (w'.heap[gb294]? = some (.cells #[.int .i64 t281, .int .i64 t282, .int .i64 t283, .int .i64 t284, .int .i64 t285, .int .i64 t286, .int .i64 t287, .int .i64 t288, .int .i64 t289, .int .i64 t290, .int .i64 t291, .int .i64 t292] 78 (0, 0))) ∧ Aside0 (Below w.heap.size w w'))
   case atStart => exact ⟨(y297), (0), (by first | rfl | (simp; done) | (simp [*]; done)), H', ⟨Nat.le_refl _⟩, ⟨by exact rk HO299.out⟩, ⟨by exact bk BK280.out⟩, ⟨by exact bk BK294.out⟩, ⟨by exact gs HB.out⟩⟩
   clear H'
   try clear c1
   try clear c2
   try clear p2
   try clear c3
   try clear c5
   try clear c11
   try clear c13
   try clear c14
   try clear c16
   try clear c18
   try clear c19
   try clear c26
   try clear c31
   try clear c34
   try clear c36
   try clear hcz12_0 hcz12_1 hcz12_10 hcz12_11 hcz12_2 hcz12_3 hcz12_4 hcz12_5 hcz12_6 hcz12_7 hcz12_8 hcz12_9
   try clear hcz20_0 hcz20_1 hcz20_10 hcz20_11 hcz20_2 hcz20_3 hcz20_4 hcz20_5 hcz20_6 hcz20_7 hcz20_8 hcz20_9
   try clear hcz22_0 hcz22_1 hcz22_10 hcz22_11 hcz22_2 hcz22_3 hcz22_4 hcz22_5 hcz22_6 hcz22_7 hcz22_8 hcz22_9
   try clear hcz24_0 hcz24_1 hcz24_10 hcz24_11 hcz24_2 hcz24_3 hcz24_4 hcz24_5 hcz24_6 hcz24_7 hcz24_8 hcz24_9
   try clear hcz25_0 hcz25_1 hcz25_10 hcz25_11 hcz25_2 hcz25_3 hcz25_4 hcz25_5 hcz25_6 hcz25_7 hcz25_8 hcz25_9
   try clear hcz27_0 hcz27_1 hcz27_10 hcz27_11 hcz27_2 hcz27_3 hcz27_4 hcz27_5 hcz27_6 hcz27_7 hcz27_8 hcz27_9
   try clear hcz29_0 hcz29_1 hcz29_10 hcz29_11 hcz29_2 hcz29_3 hcz29_4 hcz29_5 hcz29_6 hcz29_7 hcz29_8 hcz29_9
   try clear hcz32_0 hcz32_1 hcz32_10 hcz32_11 hcz32_2 hcz32_3 hcz32_4 hcz32_5 hcz32_6 hcz32_7 hcz32_8 hcz32_9
   try clear hcz8_0 hcz8_1 hcz8_10 hcz8_11 hcz8_2 hcz8_3 hcz8_4 hcz8_5 hcz8_6 hcz8_7 hcz8_8 hcz8_9
   try clear hfz12_0 hfz12_1 hfz12_10 hfz12_11 hfz12_2 hfz12_3 hfz12_4 hfz12_5 hfz12_6 hfz12_7 hfz12_8 hfz12_9
   try clear hfz20_0 hfz20_1 hfz20_10 hfz20_11 hfz20_2 hfz20_3 hfz20_4 hfz20_5 hfz20_6 hfz20_7 hfz20_8 hfz20_9
   try clear hfz22_0 hfz22_1 hfz22_10 hfz22_11 hfz22_2 hfz22_3 hfz22_4 hfz22_5 hfz22_6 hfz22_7 hfz22_8 hfz22_9
   try clear hfz24_0 hfz24_1 hfz24_10 hfz24_11 hfz24_2 hfz24_3 hfz24_4 hfz24_5 hfz24_6 hfz24_7 hfz24_8 hfz24_9
   try clear hfz25_0 hfz25_1 hfz25_10 hfz25_11 hfz25_2 hfz25_3 hfz25_4 hfz25_5 hfz25_6 hfz25_7 hfz25_8 hfz25_9
   try clear hfz27_0 hfz27_1 hfz27_10 hfz27_11 hfz27_2 hfz27_3 hfz27_4 hfz27_5 hfz27_6 hfz27_7 hfz27_8 hfz27_9
   try clear hfz29_0 hfz29_1 hfz29_10 hfz29_11 hfz29_2 hfz29_3 hfz29_4 hfz29_5 hfz29_6 hfz29_7 hfz29_8 hfz29_9
   try clear hfz32_0 hfz32_1 hfz32_10 hfz32_11 hfz32_2 hfz32_3 hfz32_4 hfz32_5 hfz32_6 hfz32_7 hfz32_8 hfz32_9
   try clear hfz8_0 hfz8_1 hfz8_10 hfz8_11 hfz8_2 hfz8_3 hfz8_4 hfz8_5 hfz8_6 hfz8_7 hfz8_8 hfz8_9
   try clear p2
   obtain ⟨x10_2, x11_2, rfl, HA, HK2, HO_10, BK280, BK294, HB⟩ := hrel
   cases gk with
   | zero => exact absurd HA.out (by simp [c_Meet.l0])
   | succ k2 =>
    have H := HA.out
    clear HA
    simp only [c_Meet.l0] at H
    by_cases c37 : x11_2 < (x10_2.length : Int)
    rotate_left
    ·rw [if_neg c37] at H
     have c37b0 : decide (x11_2 < (x10_2.length : Int)) = false := decide_eq_false c37
     clear c37
     have H' := a_ H
     clear H
     obtain ⟨Ao74, co74, eo74⟩ := Kd.R_slice HO_10.out
     subst eo74
     have hnb75 := NB294_280.out
     have hnc75 := NB280_294.out
     obtain ⟨hcz76_0, hcz76_1, hcz76_2, hcz76_3, hcz76_4, hcz76_5, hcz76_6, hcz76_7, hcz76_8, hcz76_9, hcz76_10, hcz76_11⟩ := cs12 BK294.out
     have hfz76_0 := kf_ BK294.out 0
     have hfz76_1 := kf_ BK294.out 1
     have hfz76_2 := kf_ BK294.out 2
     have hfz76_3 := kf_ BK294.out 3
     have hfz76_4 := kf_ BK294.out 4
     have hfz76_5 := kf_ BK294.out 5
     have hfz76_6 := kf_ BK294.out 6
     have hfz76_7 := kf_ BK294.out 7
     have hfz76_8 := kf_ BK294.out 8
     have hfz76_9 := kf_ BK294.out 9
     have hfz76_10 := kf_ BK294.out 10
     have hfz76_11 := kf_ BK294.out 11
     go_wp2
     go_loopg [15, 99] k2 (fun kq v15 v99 w' => ∃ (x15_3 : List (List Int)) (x99_3 : Int), v99 = .int .i64 x99_3 ∧ Aside0 (c_Meet.l2 kq x10_2 x15_3 t281 x99_3 t267 t268 t269 t270 t271 t272 t273 t274 t275 t276 t277 t278 t281 t282 t283 t284 t285 t286 t287 t288 t289 t290 t291 t292 = some (r1, r2)) ∧ Aside0 (kq ≤ k2) ∧ Aside0 (Kd.R k100 100 w' w.heap.size (fun _ => True) (.slice Ao74 x10_2.length co74) x10_2) ∧ Aside0 (Kd.S (Kd.slice 3 (Kd.int .i64)) 22 w' w.heap.size (fun _ => True) v15 x15_3) ∧ Aside0 (w'.heap[gb280]? = some (.cells #[.int .i64 t267, .int .i64 t268, .int .i64 t269, .int .i64 t270, .int .i64 t271, .int .i64 t272, .int .i64 t273, .int .i64 t274, .int .i64 t275, .int .i64 t276, .int .i64 t277, .int .i64 t278] 78 (0, 0))) ∧ Aside0 (w'.heap[gb294]? = some (.cells #[.int .i64 t281, .int .i64 t282, .int .i64 t283, .int .i64 t284, .int .i64 t285, .int .i64 t286, .int .i64 t287, .int .i64 t288, .int .i64 t289, .int .i64 t290, .int .i64 t291, .int .i64 t292] 78 (0, 0))) ∧ Aside0 (Below w.heap.size w w'))
     case atStart => exact ⟨(([] : List (List Int))), (0), (by first | rfl | (simp; done) | (simp [*]; done)), H', ⟨Nat.le_refl _⟩, ⟨by exact rk HO_10.out⟩, ⟨by first | exact Kd.S_nil _ _ _ _ _ | exact Kd.N_nil _ _ _ _ _ | exact Kd.V_nil _ _ _ _ _ | exact Kd.Q_nil _ _ _ _ _ | exact Kd.R_nil _ _ _ _ _⟩, ⟨by exact bk BK280.out⟩, ⟨by exact bk BK294.out⟩, ⟨by exact gs HB.out⟩⟩
     clear H'
     try clear p2
     try clear c3
     try clear p3
     try clear q3
     try clear hx3
     try clear c4
     try clear c5
     try clear c6
     try clear p6
     try clear c7
     try clear p30
     try clear q30
     try clear hx30
     try clear c37
     try clear c37b0
     try clear c39
     try clear c40
     try clear c47
     try clear c47b0
     try clear c48
     try clear c49
     try clear c50
     try clear c51
     try clear c64
     try clear p64
     try clear c65
     try clear c68
     try clear c69
     try clear c70
     try clear c71
     try clear c75
     try clear hcz66_0 hcz66_1
     try clear hcz72_0 hcz72_1
     try clear hcz76_0 hcz76_1 hcz76_10 hcz76_11 hcz76_2 hcz76_3 hcz76_4 hcz76_5 hcz76_6 hcz76_7 hcz76_8 hcz76_9
     try clear hfz66_0 hfz66_1
     try clear hfz72_0 hfz72_1
     try clear hfz76_0 hfz76_1 hfz76_10 hfz76_11 hfz76_2 hfz76_3 hfz76_4 hfz76_5 hfz76_6 hfz76_7 hfz76_8 hfz76_9
     try clear hx304_0
     try clear hx304_1
     try clear hx306_0
     try clear hx306_1
     try clear p2
     try clear p3
     try clear p30
     try clear p304
     try clear p306
     try clear q3
     try clear q30
     try clear q304
     try clear q306
     obtain ⟨x15_3, x99_3, rfl, HA, HK3, HO_10, HO_15, BK280, BK294, HB⟩ := hrel
     cases gk with
     | zero => exact absurd HA.out (by simp [c_Meet.l2])
     | succ k3 =>
      have H := HA.out
      clear HA
      simp only [c_Meet.l2] at H
      by_cases c77 : x99_3 < t281
      rotate_left
      ·rw [if_neg c77] at H
       have c77b0 : decide (x99_3 < t281) = false := decide_eq_false c77
       clear c77
       simp only [Option.some.injEq, Prod.mk.injEq] at H
       obtain ⟨rfl, rfl⟩ := H
       go_wp2
       go_ret2
       exact ⟨_, by first | rfl | (simp [errW_none, errW_some] <;> rfl) | (simp [*, errW_none, errW_some] <;> rfl), by (with_reducible repeat (first | apply Kd.S_alloc | apply Kd.S_drewN | apply Kd.S_drew)); exact HO_15.out, by exact gs HB.out⟩
      rw [if_pos c77] at H
      have c77b0 : decide (x99_3 < t281) = true := decide_eq_true c77
      clear c77
      have H' := a_ H
      clear H
      go_wp2
      go_loopg [17, 104] k3 (fun kq v17 v104 w' => ∃ (x17_4 : List Int) (x104_4 : Int), v104 = .int .i64 x104_4 ∧ Aside0 (c_Meet.l3 kq x10_2 x15_3 x99_3 x17_4 t281 x99_3 x10_2 (x10_2.length : Int) x104_4 t267 t268 t269 t270 t271 t272 t273 t274 t275 t276 t277 t278 t281 t282 t283 t284 t285 t286 t287 t288 t289 t290 t291 t292 = some (r1, r2)) ∧ Aside0 (kq ≤ k3) ∧ Aside0 (Kd.R k100 100 w' w.heap.size (fun _ => True) (.slice Ao74 x10_2.length co74) x10_2) ∧ Aside0 (Kd.S (Kd.slice 3 (Kd.int .i64)) 22 w' w.heap.size (fun k_ => some k_ ≠ (v17 : Value).ownBlock) u15 x15_3) ∧ Aside0 (Kd.R (Kd.int .i64) 3 w' w.heap.size (fun _ => True) v17 x17_4) ∧ Aside0 (Kd.R k100 100 w' w.heap.size (fun _ => True) (.slice Ao74 x10_2.length co74) x10_2) ∧ Aside0 (w'.heap[gb280]? = some (.cells #[.int .i64 t267, .int .i64 t268, .int .i64 t269, .int .i64 t270, .int .i64 t271, .int .i64 t272, .int .i64 t273, .int .i64 t274, .int .i64 t275, .int .i64 t276, .int .i64 t277, .int .i64 t278] 78 (0, 0))) ∧ Aside0 (w'.heap[gb294]? = some (.cells #[.int .i64 t281, .int .i64 t282, .int .i64 t283, .int .i64 t284, .int .i64 t285, .int .i64 t286, .int .i64 t287, .int .i64 t288, .int .i64 t289, .int .i64 t290, .int .i64 t291, .int .i64 t292] 78 (0, 0))) ∧ Aside0 (Below w.heap.size w w'))
      case atStart => exact ⟨(([] : List Int)), (0), (by first | rfl | (simp; done) | (simp [*]; done)), H', ⟨Nat.le_refl _⟩, ⟨by exact rk HO_10.out⟩, ⟨by (with_reducible repeat (first | apply Kd.S_alloc | apply Kd.S_drewN | apply Kd.S_drew)); exact Kd.S_mono HO_15.out (fun _ hk => (by simp [Value.ownBlock]))⟩, ⟨by first | exact Kd.R_nil _ _ _ _ _ | exact Kd.N_nil _ _ _ _ _ | exact Kd.V_nil _ _ _ _ _ | exact Kd.Q_nil _ _ _ _ _ | exact Kd.S_nil _ _ _ _ _⟩, ⟨by exact rk HO_10.out⟩, ⟨by exact bk BK280.out⟩, ⟨by exact bk BK294.out⟩, ⟨by exact gs HB.out⟩⟩
      clear H'
      try clear p2
      try clear c3
      try clear p3
      try clear q3
      try clear hx3
      try clear c4
      try clear c5
      try clear c6
      try clear p6
      try clear c7
      try clear p30
      try clear q30
      try clear hx30
      try clear c37
      try clear c37b0
      try clear c39
      try clear c40
      try clear c47
      try clear c47b0
      try clear c48
      try clear c49
      try clear c50
      try clear c51
      try clear c64
      try clear p64
      try clear c65
      try clear c68
      try clear c69
      try clear c70
      try clear c71
      try clear c75
      try clear c77
      try clear c77b0
      try clear hcz66_0 hcz66_1
      try clear hcz72_0 hcz72_1
      try clear hcz76_0 hcz76_1 hcz76_10 hcz76_11 hcz76_2 hcz76_3 hcz76_4 hcz76_5 hcz76_6 hcz76_7 hcz76_8 hcz76_9
      try clear hfz66_0 hfz66_1
      try clear hfz72_0 hfz72_1
      try clear hfz76_0 hfz76_1 hfz76_10 hfz76_11 hfz76_2 hfz76_3 hfz76_4 hfz76_5 hfz76_6 hfz76_7 hfz76_8 hfz76_9
      try clear hx304_0
      try clear hx304_1
      try clear hx306_0
      try clear hx306_1
      try clear p2
      try clear p3
      try clear p30
      try clear p304
      try clear p306
      try clear p6
      try clear p64
      try clear q3
      try clear q30
      try clear q304
      try clear q306
      obtain ⟨x17_4, x104_4, rfl, HA, HK4, HO_10, HO_15, HO_17, HO_102, BK280, BK294, HB⟩ := hrel
      cases gk with
      | zero => exact absurd HA.out (by simp [c_Meet.l3])
      | succ k4 =>
       have H := HA.out
       clear HA
       simp only [c_Meet.l3] at H
       by_cases c78 : x104_4 < (x10_2.length : Int)
       rotate_left
       ·rw [if_neg c78] at H
        have c78b0 : decide (x104_4 < (x10_2.length : Int)) = false := decide_eq_false c78
        clear c78
        by_cases c97 : x15_3.length < 5864062014805
        rotate_left
        ·rw [if_neg c97] at H
         exact absurd H (by simp)
        rw [if_pos c97] at H
        have LMc97 := a_ c97
        clear c97
        obtain ⟨y321, hy321⟩ : ∃ y_ : List (List Int), y_ = (x15_3 ++ [x17_4]) := ⟨_, rfl⟩
        replace H : (c_Meet.l2 k4 x10_2 y321 t281 (wrap64 (x99_3 + 1)) t267 t268 t269 t270 t271 t272 t273 t274 t275 t276 t277 t278 t281 t282 t283 t284 t285 t286 t287 t288 t289 t290 t291 t292) = some (r1, r2) := by first | (rw [hy321]; with_reducible exact H) | (have H2_ := (Option.bind_some _ _).symm.trans H; rw [hy321]; with_reducible exact H2_) | (have H2_ := (Option.bind_some _ _).symm.trans H; with_reducible exact H2_) | with_reducible exact H | (rw [hy321]; exact H) | exact H
        have Ny321 := a_ hy321
        clear hy321
        have H' := a_ H
        clear H
        obtain ⟨Ao99, co99, eo99⟩ := Kd.R_slice HO_17.out
        subst eo99
        go_wp2_with (first | ((with_reducible refine gate_builtin (b := .append) (xs := #[.tmp 129, .tmp 131]) rfl ?_); at_builtin; refine Kd.S_append (Kd.slice 3 (Kd.int .i64)) (w0 := w) w.heap.size rfl (.tmp 129) (.tmp 131) 23 22 (.slice none 0 0) 24 rfl Try.underlying23 info22 rfl (by decide) (by omega) u15 x15_3 x17_4 [.slice Ao99 x17_4.length co99] (fun _ => True) (fun k_ => some k_ = (.slice Ao99 x17_4.length co99 : Value).ownBlock) rfl rfl ?aP (fun k_ hk_ => ((Kd.R_mono (ok' := fun k_ => ((fun _ => True)) k_ ∧ some k_ ≠ (u15 : Value).ownBlock) (Kd.R_apart' (HO_17.out) (Kd.S_typed HO_15.out) (by decide)) (fun k_ hk => ⟨trivial, hk.2⟩))).1 k_ hk_.symm) ?aF ?aO ?aB ?aS ?aL ?_; (case aP => exact Kd.M_row (Kd.R_mono (Kd.R_tight rfl (Kd.R_mono (ok' := fun k_ => ((fun _ => True)) k_ ∧ some k_ ≠ (u15 : Value).ownBlock) (Kd.R_apart' (HO_17.out) (Kd.S_typed HO_15.out) (by decide)) (fun k_ hk => ⟨trivial, hk.2⟩))) (fun _ h_ => h_))); (case aB => exact (by exact gs HB.out)); (case aF => exact (fun _ _ => trivial)); (case aO => exact (by (with_reducible repeat (first | apply Kd.S_alloc | apply Kd.S_drewN | apply Kd.S_drew)); exact Kd.S_mono HO_15.out (fun k_ hk => ⟨trivial, fun e_ => hk e_⟩))); (case aS => exact (bZ_ (by exact gs HB.out))); (case aL => have := LMc97.out; omega); intro v322 w98 ho hb hg hat; rw [← Ny321.out] at ho; have HO323 := a_ (ho); replace HO_10 := a_ (Kd.R_over' (by exact rk HO_10.out) (Kd.S_typed (by (with_reducible repeat (first | apply Kd.S_alloc | apply Kd.S_drewN | apply Kd.S_drew)); exact HO_15.out)) (by decide) hg); replace HO_102 := a_ (Kd.R_over' (by exact rk HO_102.out) (Kd.S_typed (by (with_reducible repeat (first | apply Kd.S_alloc | apply Kd.S_drewN | apply Kd.S_drew)); exact HO_15.out)) (by decide) hg); replace BK280 := a_ (blk_grown (g := gb280) (o := .cells #[.int .i64 t267, .int .i64 t268, .int .i64 t269, .int .i64 t270, .int .i64 t271, .int .i64 t272, .int .i64 t273, .int .i64 t274, .int .i64 t275, .int .i64 t276, .int .i64 t277, .int .i64 t278] 78 (0, 0)) (by exact bk BK280.out) hg (Kd.S_ne HO_15.out BK280.out (by decide))); replace BK294 := a_ (blk_grown (g := gb294) (o := .cells #[.int .i64 t281, .int .i64 t282, .int .i64 t283, .int .i64 t284, .int .i64 t285, .int .i64 t286, .int .i64 t287, .int .i64 t288, .int .i64 t289, .int .i64 t290, .int .i64 t291, .int .i64 t292] 78 (0, 0)) (by exact bk BK294.out) hg (Kd.S_ne HO_15.out BK294.out (by decide))); replace HB := a_ (hb); clear HO_15 HO_17; clear ho hb hg hat))
        go_roundg k4
        case measure => have := HJ4.out; have := HK2.out; have := HK3.out; have := HK4.out; omega
        case rel => exact ⟨(y321), (wrap64 (x99_3 + 1)), (by first | rfl | (simp; done) | (simp [*]; done)), H', ⟨by have := HJ4.out; have := HK2.out; have := HK3.out; have := HK4.out; omega⟩, ⟨by exact rk HO_10.out⟩, ⟨by (with_reducible repeat (first | apply Kd.S_alloc | apply Kd.S_drewN | apply Kd.S_drew)); exact HO323.out⟩, ⟨by exact bk BK280.out⟩, ⟨by exact bk BK294.out⟩, ⟨by exact gs HB.out⟩⟩
       rw [if_pos c78] at H
       have c78b0 : decide (x104_4 < (x10_2.length : Int)) = true := decide_eq_true c78
       clear c78
       by_cases c79 : 0 ≤ x104_4
       rotate_left
       ·rw [if_neg c79] at H
        exact absurd H (by simp)
       rw [if_pos c79] at H
       have c79b0 : decide (0 ≤ x104_4) = true := decide_eq_true c79
       clear c79
       by_cases c80 : x104_4 < (x10_2.length : Int)
       rotate_left
       ·rw [if_neg c80] at H
        exact absurd H (by simp)
       rw [if_pos c80] at H
       have c80b0 : decide (x104_4 < (x10_2.length : Int)) = true := decide_eq_true c80
       clear c80
       replace H := Option.bind_eq_some_iff.mp H
       obtain ⟨t315, A810, H⟩ := H
       try dsimp only at H
       have A81 := a_ A810
       clear A810
       replace H := Option.bind_eq_some_iff.mp H
       obtain ⟨t316, A820, H⟩ := H
       try dsimp only at H
       have A82 := a_ A820
       clear A820
       replace H := Option.bind_eq_some_iff.mp H
       obtain ⟨t317, A830, H⟩ := H
       try dsimp only at H
       have A83 := a_ A830
       clear A830
       by_cases c84 : x17_4.length < 17592186044416
       rotate_left
       ·rw [if_neg c84] at H
        exact absurd H (by simp)
       rw [if_pos c84] at H
       have LMc84 := a_ c84
       clear c84
       obtain ⟨y318, hy318⟩ : ∃ y_ : List Int, y_ = (x17_4 ++ [t317]) := ⟨_, rfl⟩
       replace H : (c_Meet.l3 k4 x10_2 x15_3 x99_3 y318 t281 x99_3 x10_2 (x10_2.length : Int) (wrap64 (x104_4 + 1)) t267 t268 t269 t270 t271 t272 t273 t274 t275 t276 t277 t278 t281 t282 t283 t284 t285 t286 t287 t288 t289 t290 t291 t292) = some (r1, r2) := by first | (rw [hy318]; with_reducible exact H) | (have H2_ := (Option.bind_some _ _).symm.trans H; rw [hy318]; with_reducible exact H2_) | (have H2_ := (Option.bind_some _ _).symm.trans H; with_reducible exact H2_) | with_reducible exact H | (rw [hy318]; exact H) | exact H
       have Ny318 := a_ hy318
       clear hy318
       have H' := a_ H
       clear H
       have p313 : 0 ≤ (x104_4 : Int) := of_decide_eq_true (by first | (with_reducible assumption) | assumption)
       have q313 : x104_4 < (x10_2.length : Int) := of_decide_eq_true (by first | (with_reducible assumption) | assumption)
       obtain ⟨ad313, e313, hx313_0, hx313_1⟩ := at_T100 (Kd.R_reads' HO_102.out).2.2 x104_4 p313 q313
       cases e313
       replace p313 := eq_true p313
       replace q313 := eq_true q313
       try go_wp2_with (first | ((with_reducible refine gate_dst (N := 19) rfl ?_); refine box_event ?hg (N := 19) ?hd (cs := #[.int .i64 0, .int .i64 0]) (t := 100) ?hr ?_; (case hd => rfl); (case hg => rfl); (case hr => first | (go_simp; done) | (go_simp; rfl)); intro gb314 hg w85 hbox hb; have BK314 := a_ (hbox); have GW314 := a_ ((by rw [hg]; exact (bZ_ (by exact gs HB.out)) : w.heap.size ≤ gb314)); have GE314 := GEc.mk ((by rw [hg]; exact (bZ_ (by exact gs HB.out)) : w.heap.size ≤ gb314)); have NB280_314 := NEc.mk ((by rw [hg]; exact Nat.ne_of_lt (blk_lt (g := gb280) (o := .cells #[.int .i64 t267, .int .i64 t268, .int .i64 t269, .int .i64 t270, .int .i64 t271, .int .i64 t272, .int .i64 t273, .int .i64 t274, .int .i64 t275, .int .i64 t276, .int .i64 t277, .int .i64 t278] 78 (0, 0)) (by exact bk BK280.out)) : gb280 ≠ gb314)); have NB314_280 := NEc.mk ((by rw [hg]; exact Nat.ne_of_gt (blk_lt (g := gb280) (o := .cells #[.int .i64 t267, .int .i64 t268, .int .i64 t269, .int .i64 t270, .int .i64 t271, .int .i64 t272, .int .i64 t273, .int .i64 t274, .int .i64 t275, .int .i64 t276, .int .i64 t277, .int .i64 t278] 78 (0, 0)) (by exact bk BK280.out)) : gb314 ≠ gb280)); have NB294_314 := NEc.mk ((by rw [hg]; exact Nat.ne_of_lt (blk_lt (g := gb294) (o := .cells #[.int .i64 t281, .int .i64 t282, .int .i64 t283, .int .i64 t284, .int .i64 t285, .int .i64 t286, .int .i64 t287, .int .i64 t288, .int .i64 t289, .int .i64 t290, .int .i64 t291, .int .i64 t292] 78 (0, 0)) (by exact bk BK294.out)) : gb294 ≠ gb314)); have NB314_294 := NEc.mk ((by rw [hg]; exact Nat.ne_of_gt (blk_lt (g := gb294) (o := .cells #[.int .i64 t281, .int .i64 t282, .int .i64 t283, .int .i64 t284, .int .i64 t285, .int .i64 t286, .int .i64 t287, .int .i64 t288, .int .i64 t289, .int .i64 t290, .int .i64 t291, .int .i64 t292] 78 (0, 0)) (by exact bk BK294.out)) : gb314 ≠ gb294)); replace HO_10 := a_ (Kd.R_below (Kd.R_elderB (by exact rk HO_10.out) gb314 (Nat.le_of_eq hg.symm)) hb); replace HO_15 := a_ (Kd.S_below (by (with_reducible repeat (first | apply Kd.S_alloc | apply Kd.S_drewN | apply Kd.S_drew)); exact HO_15.out) hb); replace HO_17 := a_ (Kd.R_below HO_17.out (tr hb)); replace HO_102 := a_ (Kd.R_below (Kd.R_elderB (by exact rk HO_102.out) gb314 (Nat.le_of_eq hg.symm)) hb); replace BK280 := a_ (kB_ BK280.out (tr hb)); replace BK294 := a_ (kB_ BK294.out (tr hb)); replace HB := a_ (bT_ (by exact gs HB.out) hb); clear hb hbox hg; have hnb86 := NB314_280.out; have hnc86 := NB280_314.out; have hnb87 := NB314_294.out; have hnc87 := NB294_314.out; have hcz88_0 : w85.cell? ⟨gb314, 0, none⟩ = some (.int .i64 0) := (kc_ BK314.out 0).trans rfl; have hcz88_1 : w85.cell? ⟨gb314, 1, none⟩ = some (.int .i64 0) := (kc_ BK314.out 1).trans rfl; have hfz88_0 := kf_ BK314.out 0; have hfz88_1 := kf_ BK314.out 1; obtain ⟨Ao89, co89, eo89⟩ := Kd.R_slice HO_17.out; subst eo89))
       have n0_ : Aside0 (Kd.R k100 100 ((w85.setCell ⟨gb314, 0, none⟩ (.int .i64 ((rd_T100 x10_2 x104_4).f0))).setCell ⟨gb314, 1, none⟩ (.int .i64 ((rd_T100 x10_2 x104_4).f1))) w.heap.size (fun k_ => k_ ≠ gb314) (.slice (some ad313) x10_2.length co74) x10_2) := ⟨by exact rk (Kd.R_mono (Kd.R_far (p := ⟨gb314, 1, none⟩) (Kd.R_far (p := ⟨gb314, 0, none⟩) (Kd.R_mono HO_10.out (fun k_ hk => (⟨hk, hk.2⟩ : _ ∧ k_ ≠ gb314))) (fun _ hk => hk.2) (.int .i64 ((rd_T100 x10_2 x104_4).f0))) (fun _ hk => hk.2) (.int .i64 ((rd_T100 x10_2 x104_4).f1))) (fun _ hk => hk.1.2))⟩
       have n1_ : Aside0 (Kd.S (Kd.slice 3 (Kd.int .i64)) 22 ((w85.setCell ⟨gb314, 0, none⟩ (.int .i64 ((rd_T100 x10_2 x104_4).f0))).setCell ⟨gb314, 1, none⟩ (.int .i64 ((rd_T100 x10_2 x104_4).f1))) w.heap.size (fun k_ => some k_ ≠ (.slice Ao89 x17_4.length co89 : Value).ownBlock) u15 x15_3) := ⟨by (with_reducible repeat (first | apply Kd.S_alloc | apply Kd.S_drewN | apply Kd.S_drew)); exact Kd.S_mono (Kd.S_far (p := ⟨gb314, 1, none⟩) (Kd.S_far (p := ⟨gb314, 0, none⟩) (Kd.S_types HO_15.out BK314.out (by decide)) (fun _ hk => hk.2) (.int .i64 ((rd_T100 x10_2 x104_4).f0))) (fun _ hk => hk.2) (.int .i64 ((rd_T100 x10_2 x104_4).f1))) (fun _ hk => hk.1)⟩
       have n2_ : Aside0 (Kd.R (Kd.int .i64) 3 ((w85.setCell ⟨gb314, 0, none⟩ (.int .i64 ((rd_T100 x10_2 x104_4).f0))).setCell ⟨gb314, 1, none⟩ (.int .i64 ((rd_T100 x10_2 x104_4).f1))) w.heap.size (fun _ => True) (.slice Ao89 x17_4.length co89) x17_4) := ⟨by exact rk (Kd.R_mono (Kd.R_far (p := ⟨gb314, 1, none⟩) (Kd.R_far (p := ⟨gb314, 0, none⟩) (Kd.R_types HO_17.out BK314.out (by decide)) (fun _ hk => hk.2) (.int .i64 ((rd_T100 x10_2 x104_4).f0))) (fun _ hk => hk.2) (.int .i64 ((rd_T100 x10_2 x104_4).f1))) (fun _ hk => trivial))⟩
       have n3_ : Aside0 (Kd.R k100 100 ((w85.setCell ⟨gb314, 0, none⟩ (.int .i64 ((rd_T100 x10_2 x104_4).f0))).setCell ⟨gb314, 1, none⟩ (.int .i64 ((rd_T100 x10_2 x104_4).f1))) w.heap.size (fun k_ => k_ ≠ gb314) (.slice (some ad313) x10_2.length co74) x10_2) := ⟨by exact rk (Kd.R_mono (Kd.R_far (p := ⟨gb314, 1, none⟩) (Kd.R_far (p := ⟨gb314, 0, none⟩) (Kd.R_mono HO_102.out (fun k_ hk => (⟨hk, hk.2⟩ : _ ∧ k_ ≠ gb314))) (fun _ hk => hk.2) (.int .i64 ((rd_T100 x10_2 x104_4).f0))) (fun _ hk => hk.2) (.int .i64 ((rd_T100 x10_2 x104_4).f1))) (fun _ hk => hk.1.2))⟩
       have n4_ : Aside0 (((w85.setCell ⟨gb314, 0, none⟩ (.int .i64 ((rd_T100 x10_2 x104_4).f0))).setCell ⟨gb314, 1, none⟩ (.int .i64 ((rd_T100 x10_2 x104_4).f1))).heap[gb280]? = some (.cells #[.int .i64 t267, .int .i64 t268, .int .i64 t269, .int .i64 t270, .int .i64 t271, .int .i64 t272, .int .i64 t273, .int .i64 t274, .int .i64 t275, .int .i64 t276, .int .i64 t277, .int .i64 t278] 78 (0, 0))) := ⟨by exact bk BK280.out⟩
       have n5_ : Aside0 (((w85.setCell ⟨gb314, 0, none⟩ (.int .i64 ((rd_T100 x10_2 x104_4).f0))).setCell ⟨gb314, 1, none⟩ (.int .i64 ((rd_T100 x10_2 x104_4).f1))).heap[gb294]? = some (.cells #[.int .i64 t281, .int .i64 t282, .int .i64 t283, .int .i64 t284, .int .i64 t285, .int .i64 t286, .int .i64 t287, .int .i64 t288, .int .i64 t289, .int .i64 t290, .int .i64 t291, .int .i64 t292] 78 (0, 0))) := ⟨by exact bk BK294.out⟩
       have n6_ : Aside0 (((w85.setCell ⟨gb314, 0, none⟩ (.int .i64 ((rd_T100 x10_2 x104_4).f0))).setCell ⟨gb314, 1, none⟩ (.int .i64 ((rd_T100 x10_2 x104_4).f1))).heap[gb314]? = some (.cells #[.int .i64 ((rd_T100 x10_2 x104_4).f0), .int .i64 ((rd_T100 x10_2 x104_4).f1)] 100 (0, 0))) := ⟨by exact pb BK314.out (by rfl)⟩
       have n7_ : Aside0 (Below w.heap.size w ((w85.setCell ⟨gb314, 0, none⟩ (.int .i64 ((rd_T100 x10_2 x104_4).f0))).setCell ⟨gb314, 1, none⟩ (.int .i64 ((rd_T100 x10_2 x104_4).f1)))) := ⟨by exact gs HB.out⟩
       (try clear HO_10)
       (try clear HO_15)
       (try clear HO_17)
       (try clear HO_102)
       (try clear BK280)
       (try clear BK294)
       (try clear BK314)
       (try clear HB)
       generalize ((w85.setCell ⟨gb314, 0, none⟩ (.int .i64 ((rd_T100 x10_2 x104_4).f0))).setCell ⟨gb314, 1, none⟩ (.int .i64 ((rd_T100 x10_2 x104_4).f1))) = w90 at n0_ n1_ n2_ n3_ n4_ n5_ n6_ n7_ ⊢
       have HO_10 := n0_
       have HO_15 := n1_
       have HO_17 := n2_
       have HO_102 := n3_
       have BK280 := n4_
       have BK294 := n5_
       have BK314 := n6_
       have HB := n7_
       clear n0_ n1_ n2_ n3_ n4_ n5_ n6_ n7_
       replace HO_10 := a_ (Kd.R_drew HO_10.out)
       replace HO_15 := a_ (Kd.S_drew HO_15.out)
       replace HO_17 := a_ (Kd.R_drew HO_17.out)
       replace HO_102 := a_ (Kd.R_drew HO_102.out)
       replace BK280 := a_ (kD_ BK280.out)
       replace BK294 := a_ (kD_ BK294.out)
       replace BK314 := a_ (kD_ BK314.out)
       replace HB := a_ (b1_ HB.out)
       refine start_ (n := 21) (S := fun w' => w'.cell? ⟨gb314, 0, none⟩ = some (.int .i64 ((rd_T100 x10_2 x104_4).f0)) ∧ w'.cell? ⟨gb314, 1, none⟩ = some (.int .i64 ((rd_T100 x10_2 x104_4).f1)) ∧ w'.cell? ⟨gb280, 0, none⟩ = some (.int .i64 t267) ∧ w'.cell? ⟨gb280, 1, none⟩ = some (.int .i64 t268) ∧ w'.cell? ⟨gb280, 2, none⟩ = some (.int .i64 t269) ∧ w'.cell? ⟨gb280, 3, none⟩ = some (.int .i64 t270) ∧ w'.cell? ⟨gb280, 4, none⟩ = some (.int .i64 t271) ∧ w'.cell? ⟨gb280, 5, none⟩ = some (.int .i64 t272) ∧ w'.cell? ⟨gb280, 6, none⟩ = some (.int .i64 t273) ∧ w'.cell? ⟨gb280, 7, none⟩ = some (.int .i64 t274) ∧ w'.cell? ⟨gb280, 8, none⟩ = some (.int .i64 t275) ∧ w'.cell? ⟨gb280, 9, none⟩ = some (.int .i64 t276) ∧ w'.cell? ⟨gb280, 10, none⟩ = some (.int .i64 t277) ∧ w'.cell? ⟨gb280, 11, none⟩ = some (.int .i64 t278) ∧ w'.cell? ⟨gb294, 0, none⟩ = some (.int .i64 t281) ∧ w'.cell? ⟨gb294, 1, none⟩ = some (.int .i64 t282) ∧ w'.cell? ⟨gb294, 2, none⟩ = some (.int .i64 t283) ∧ w'.cell? ⟨gb294, 3, none⟩ = some (.int .i64 t284) ∧ w'.cell? ⟨gb294, 4, none⟩ = some (.int .i64 t285) ∧ w'.cell? ⟨gb294, 5, none⟩ = some (.int .i64 t286) ∧ w'.cell? ⟨gb294, 6, none⟩ = some (.int .i64 t287) ∧ w'.cell? ⟨gb294, 7, none⟩ = some (.int .i64 t288) ∧ w'.cell? ⟨gb294, 8, none⟩ = some (.int .i64 t289) ∧ w'.cell? ⟨gb294, 9, none⟩ = some (.int .i64 t290) ∧ w'.cell? ⟨gb294, 10, none⟩ = some (.int .i64 t291) ∧ w'.cell? ⟨gb294, 11, none⟩ = some (.int .i64 t292)) (ds := []) #[false, false, false, false, false, false, false, false, false, false, false, false, false, false, false, false, false, false, false, false, false] (by kernel_rfl) rfl rfl ⟨(kc_ BK314.out 0).trans rfl, (kc_ BK314.out 1).trans rfl, (kc_ BK280.out 0).trans rfl, (kc_ BK280.out 1).trans rfl, (kc_ BK280.out 2).trans rfl, (kc_ BK280.out 3).trans rfl, (kc_ BK280.out 4).trans rfl, (kc_ BK280.out 5).trans rfl, (kc_ BK280.out 6).trans rfl, (kc_ BK280.out 7).trans rfl, (kc_ BK280.out 8).trans rfl, (kc_ BK280.out 9).trans rfl, (kc_ BK280.out 10).trans rfl, (kc_ BK280.out 11).trans rfl, (kc_ BK294.out 0).trans rfl, (kc_ BK294.out 1).trans rfl, (kc_ BK294.out 2).trans rfl, (kc_ BK294.out 3).trans rfl, (kc_ BK294.out 4).trans rfl, (kc_ BK294.out 5).trans rfl, (kc_ BK294.out 6).trans rfl, (kc_ BK294.out 7).trans rfl, (kc_ BK294.out 8).trans rfl, (kc_ BK294.out 9).trans rfl, (kc_ BK294.out 10).trans rfl, (kc_ BK294.out 11).trans rfl⟩ (fun hHeld => ?_)
       generalize w90.drew = w94 at HO_10 HO_15 HO_17 HO_102 BK280 BK294 BK314 HB hHeld ⊢
       have hqb0 := (colAt_in A81.out).1.1
       have hqc0 := (colAt_in A81.out).1.2
       have hsb0 := (colAt_in A81.out).2.1
       have hsc0 := (colAt_in A81.out).2.2
       have hqb1 := (colAt_in A82.out).1.1
       have hqc1 := (colAt_in A82.out).1.2
       have hsb1 := (colAt_in A82.out).2.1
       have hsc1 := (colAt_in A82.out).2.2
       refine pure_ (i := 0) (N := (some 108)) (v := ?_) (a' := ?_) #[true, false, false, false, false, false, false, false, false, false, false, false, false, false, false, false, false, false, false, false, false] rfl rfl (by kernel_rfl) (fun _ _ _ h => h) (Or.inl ⟨by rfl, ?_⟩) ?_ ?_
       rotate_left
       ·intro w'
        first | (go_simp; with_reducible rfl) | rfl | (go_simp; done)
       rotate_left
       ·first | (simp only [Act.put, List.setIfInBounds_toArray, List.set_cons_zero, List.set_cons_succ, i64_w, i32_w]; rfl) | rfl
       refine pure_ (i := 1) (N := (some 109)) (v := ?_) (a' := ?_) #[true, true, false, false, false, false, false, false, false, false, false, false, false, false, false, false, false, false, false, false, false] rfl rfl (by kernel_rfl) (fun _ _ _ h => h) (Or.inl ⟨by rfl, ?_⟩) ?_ ?_
       rotate_left
       ·intro w'
        first | (go_simp; with_reducible rfl) | rfl | (go_simp; done)
       rotate_left
       ·first | (simp only [Act.put, List.setIfInBounds_toArray, List.set_cons_zero, List.set_cons_succ, i64_w, i32_w]; rfl) | rfl
       refine pure_ (i := 2) (N := (some 110)) (v := ?_) (a' := ?_) #[true, true, true, false, false, false, false, false, false, false, false, false, false, false, false, false, false, false, false, false, false] rfl rfl (by kernel_rfl) (fun _ _ _ h => h) (Or.inl ⟨by rfl, ?_⟩) ?_ ?_
       rotate_left
       ·intro w'
        first | (go_simp; with_reducible rfl) | rfl | (go_simp; done)
       rotate_left
       ·first | (simp only [Act.put, List.setIfInBounds_toArray, List.set_cons_zero, List.set_cons_succ, i64_w, i32_w]; rfl) | rfl
       refine pure_ (i := 3) (N := (some 111)) (v := ?_) (a' := ?_) #[true, true, true, true, false, false, false, false, false, false, false, false, false, false, false, false, false, false, false, false, false] rfl rfl (by kernel_rfl) (fun _ _ _ h => h) (Or.inl ⟨by rfl, ?_⟩) ?_ ?_
       rotate_left
       ·intro w'
        first | (go_simp; with_reducible rfl) | rfl | (go_simp; done)
       rotate_left
       ·first | (simp only [Act.put, List.setIfInBounds_toArray, List.set_cons_zero, List.set_cons_succ, i64_w, i32_w]; rfl) | rfl
       refine pure_ (i := 5) (N := (some 113)) (v := ?_) (a' := ?_) #[true, true, true, true, false, true, false, false, false, false, false, false, false, false, false, false, false, false, false, false, false] rfl rfl (by kernel_rfl) (fun _ _ _ h => h) (Or.inl ⟨by rfl, ?_⟩) ?_ ?_
       rotate_left
       ·intro w'
        first | (go_simp; with_reducible rfl) | rfl | (go_simp; done)
       rotate_left
       ·first | (simp only [Act.put, List.setIfInBounds_toArray, List.set_cons_zero, List.set_cons_succ, i64_w, i32_w]; rfl) | rfl
       refine pure_ (i := 6) (N := (some 114)) (v := ?_) (a' := ?_) #[true, true, true, true, false, true, true, false, false, false, false, false, false, false, false, false, false, false, false, false, false] rfl rfl (by kernel_rfl) (fun _ _ _ h => h) (Or.inl ⟨by rfl, ?_⟩) ?_ ?_
       rotate_left
       ·intro w'
        first | (go_simp; with_reducible rfl) | rfl | (go_simp; done)
       rotate_left
       ·first | (simp only [Act.put, List.setIfInBounds_toArray, List.set_cons_zero, List.set_cons_succ, i64_w, i32_w]; rfl) | rfl
       refine pure_ (i := 9) (N := (some 117)) (v := ?_) (a' := ?_) #[true, true, true, true, false, true, true, false, false, true, false, false, false, false, false, false, false, false, false, false, false] rfl rfl (by kernel_rfl) (fun _ _ _ h => h) (Or.inl ⟨by rfl, ?_⟩) ?_ ?_
       rotate_left
       ·intro w'
        first | (go_simp; with_reducible rfl) | rfl | (go_simp; done)
       rotate_left
       ·first | (simp only [Act.put, List.setIfInBounds_toArray, List.set_cons_zero, List.set_cons_succ, i64_w, i32_w]; rfl) | rfl
       refine pure_ (i := 10) (N := (some 118)) (v := ?_) (a' := ?_) #[true, true, true, true, false, true, true, false, false, true, true, false, false, false, false, false, false, false, false, false, false] rfl rfl (by kernel_rfl) (fun _ _ _ h => h) (Or.inl ⟨by rfl, ?_⟩) ?_ ?_
       rotate_left
       ·intro w'
        first | (go_simp; with_reducible rfl) | rfl | (go_simp; done)
       rotate_left
       ·first | (simp only [Act.put, List.setIfInBounds_toArray, List.set_cons_zero, List.set_cons_succ, i64_w, i32_w]; rfl) | rfl
       refine pure_ (i := 12) (N := (some 120)) (v := ?_) (a' := ?_) #[true, true, true, true, false, true, true, false, false, true, true, false, true, false, false, false, false, false, false, false, false] rfl rfl (by kernel_rfl) (fun _ _ _ h => h) (Or.inl ⟨by rfl, ?_⟩) ?_ ?_
       rotate_left
       ·intro w'
        first | (go_simp; with_reducible rfl) | rfl | (go_simp; done)
       rotate_left
       ·first | (simp only [Act.put, List.setIfInBounds_toArray, List.set_cons_zero, List.set_cons_succ, i64_w, i32_w]; rfl) | rfl
       refine pure_ (i := 13) (N := (some 121)) (v := ?_) (a' := ?_) #[true, true, true, true, false, true, true, false, false, true, true, false, true, true, false, false, false, false, false, false, false] rfl rfl (by kernel_rfl) (fun _ _ _ h => h) (Or.inl ⟨by rfl, ?_⟩) ?_ ?_
       rotate_left
       ·intro w'
        first | (go_simp; with_reducible rfl) | rfl | (go_simp; done)
       rotate_left
       ·first | (simp only [Act.put, List.setIfInBounds_toArray, List.set_cons_zero, List.set_cons_succ, i64_w, i32_w]; rfl) | rfl
       refine take_ (i := 4) (N := (some 112)) (v := ?_) (a' := ?_) #[true, true, true, true, true, true, true, false, false, true, true, false, true, true, false, false, false, false, false, false, false] rfl rfl (by kernel_rfl) (fun _ _ _ h => h) (Or.inl ⟨by rfl, ?_⟩) hHeld ?_ ?_
       rotate_left
       ·rintro w' ⟨s0, s1, s2, s3, s4, s5, s6, s7, s8, s9, s10, s11, s12, s13, s14, s15, s16, s17, s18, s19, s20, s21, s22, s23, s24, s25⟩
        first | (go_simp; with_reducible rfl) | rfl | (go_simp; done)
       rotate_left
       ·first | (simp only [Act.put, List.setIfInBounds_toArray, List.set_cons_zero, List.set_cons_succ, i64_w, i32_w]; rfl) | rfl
       refine pure_ (i := 7) (N := (some 115)) (v := ?_) (a' := ?_) #[true, true, true, true, true, true, true, true, false, true, true, false, true, true, false, false, false, false, false, false, false] rfl rfl (by kernel_rfl) (fun _ _ _ h => h) (Or.inl ⟨by rfl, ?_⟩) ?_ ?_
       rotate_left
       ·intro w'
        first | (go_simp; with_reducible rfl) | rfl | (go_simp; done)
       rotate_left
       ·first | (simp only [Act.put, List.setIfInBounds_toArray, List.set_cons_zero, List.set_cons_succ, i64_w, i32_w]; rfl) | rfl
       refine take_ (i := 8) (N := (some 116)) (v := ?_) (a' := ?_) #[true, true, true, true, true, true, true, true, true, true, true, false, true, true, false, false, false, false, false, false, false] rfl rfl (by kernel_rfl) (fun _ _ _ h => h) (Or.inl ⟨by rfl, ?_⟩) hHeld ?_ ?_
       rotate_left
       ·rintro w' ⟨s0, s1, s2, s3, s4, s5, s6, s7, s8, s9, s10, s11, s12, s13, s14, s15, s16, s17, s18, s19, s20, s21, s22, s23, s24, s25⟩
        have hcc := colAt_cell A81.out s4 s5 s6 s7 s8 s9 s10 s11 s12 s13
        first | (go_simp; with_reducible rfl) | rfl | (go_simp; done)
       rotate_left
       ·first | (simp only [Act.put, List.setIfInBounds_toArray, List.set_cons_zero, List.set_cons_succ, i64_w, i32_w]; rfl) | rfl
       refine take_ (i := 11) (N := (some 119)) (v := ?_) (a' := ?_) #[true, true, true, true, true, true, true, true, true, true, true, true, true, true, false, false, false, false, false, false, false] rfl rfl (by kernel_rfl) (fun _ _ _ h => h) (Or.inl ⟨by rfl, ?_⟩) hHeld ?_ ?_
       rotate_left
       ·rintro w' ⟨s0, s1, s2, s3, s4, s5, s6, s7, s8, s9, s10, s11, s12, s13, s14, s15, s16, s17, s18, s19, s20, s21, s22, s23, s24, s25⟩
        first | (go_simp; with_reducible rfl) | rfl | (go_simp; done)
       rotate_left
       ·first | (simp only [Act.put, List.setIfInBounds_toArray, List.set_cons_zero, List.set_cons_succ, i64_w, i32_w]; rfl) | rfl
       refine pure_ (i := 14) (N := (some 122)) (v := ?_) (a' := ?_) #[true, true, true, true, true, true, true, true, true, true, true, true, true, true, true, false, false, false, false, false, false] rfl rfl (by kernel_rfl) (fun _ _ _ h => h) (Or.inl ⟨by rfl, ?_⟩) ?_ ?_
       rotate_left
       ·intro w'
        first | (go_simp; with_reducible rfl) | rfl | (go_simp; done)
       rotate_left
       ·first | (simp only [Act.put, List.setIfInBounds_toArray, List.set_cons_zero, List.set_cons_succ, i64_w, i32_w]; rfl) | rfl
       refine take_ (i := 15) (N := (some 123)) (v := ?_) (a' := ?_) #[true, true, true, true, true, true, true, true, true, true, true, true, true, true, true, true, false, false, false, false, false] rfl rfl (by kernel_rfl) (fun _ _ _ h => h) (Or.inl ⟨by rfl, ?_⟩) hHeld ?_ ?_
       rotate_left
       ·rintro w' ⟨s0, s1, s2, s3, s4, s5, s6, s7, s8, s9, s10, s11, s12, s13, s14, s15, s16, s17, s18, s19, s20, s21, s22, s23, s24, s25⟩
        have hcc := colAt_cell A82.out s16 s17 s18 s19 s20 s21 s22 s23 s24 s25
        first | (go_simp; with_reducible rfl) | rfl | (go_simp; done)
       rotate_left
       ·first | (simp only [Act.put, List.setIfInBounds_toArray, List.set_cons_zero, List.set_cons_succ, i64_w, i32_w]; rfl) | rfl
       clear hqb0 hqc0 hsb0 hsc0 hqb1 hqc1 hsb1 hsc1
       refine pure_ (i := 16) (N := some 124) (v := ?_) (a' := ?_) #[true, true, true, true, true, true, true, true, true, true, true, true, true, true, true, true, true, false, false, false, false] rfl rfl (by kernel_rfl) (fun _ _ _ h => h) (Or.inl ⟨by rfl, ?_⟩) ?_ ?_
       rotate_left
       ·intro w'
        go_simp
        with_reducible rfl
       rotate_left
       ·simp only [Act.put, List.setIfInBounds_toArray, List.set_cons_zero, List.set_cons_succ, i64_w, i32_w]
        rfl
       refine one_ (i := 17) (N := some 125) #[true, true, true, true, true, true, true, true, true, true, true, true, true, true, true, true, true, true, false, false, false] rfl rfl (by kernel_rfl) (by decide) (fun K hK => ?_)
       refine goes_ Try.func72 (by kernel_rfl) rfl #[.slice (some ad313) x10_2.length co74, .agg #[.int .i64 t315, .int .i64 t316]] (by rfl) rfl rfl (by (try simp only [List.map_toArray, List.map_cons, List.map_nil]); first | done | rfl | (simp only [List.length_drop, List.length_take]; rfl)) ?_
       with_reducible refine (c_pair_72.calls k4 _ _ x10_2 t315 t316 t317 _ ?side1 ?side2 A83.out).mono ?_
       (case side1 => repeat (first | exact (Kd.R_reads' HO_10.out).2.2 | (with_reducible refine Kd.C_alloc ?_ _) | (with_reducible refine Kd.C_drewN ?_ _) | (with_reducible refine Kd.C_drew ?_)))
       (case side2 => exact (Kd.R_reads' HO_10.out).2.1)
       rintro e w95 ⟨rfl, hb⟩
       refine ⟨_, rfl, ?_⟩
       replace HO_10 := a_ (Kd.R_below HO_10.out (tr hb))
       replace HO_15 := a_ (Kd.S_below (by (with_reducible repeat (first | apply Kd.S_alloc | apply Kd.S_drewN | apply Kd.S_drew)); exact HO_15.out) hb)
       replace HO_17 := a_ (Kd.R_below HO_17.out (tr hb))
       replace HO_102 := a_ (Kd.R_below HO_102.out (tr hb))
       replace BK280 := a_ (kB_ BK280.out (tr hb))
       replace BK294 := a_ (kB_ BK294.out (tr hb))
       replace BK314 := a_ (kB_ BK314.out (tr hb))
       replace HB := a_ (bT_ (by exact gs HB.out) hb)
       (try clear hb)
       (try clear hb2)
       (try clear hk)
       (try clear hi)
       refine hK.out _ _ ⟨(kc_ BK314.out 0).trans rfl, (kc_ BK314.out 1).trans rfl, (kc_ BK280.out 0).trans rfl, (kc_ BK280.out 1).trans rfl, (kc_ BK280.out 2).trans rfl, (kc_ BK280.out 3).trans rfl, (kc_ BK280.out 4).trans rfl, (kc_ BK280.out 5).trans rfl, (kc_ BK280.out 6).trans rfl, (kc_ BK280.out 7).trans rfl, (kc_ BK280.out 8).trans rfl, (kc_ BK280.out 9).trans rfl, (kc_ BK280.out 10).trans rfl, (kc_ BK280.out 11).trans rfl, (kc_ BK294.out 0).trans rfl, (kc_ BK294.out 1).trans rfl, (kc_ BK294.out 2).trans rfl, (kc_ BK294.out 3).trans rfl, (kc_ BK294.out 4).trans rfl, (kc_ BK294.out 5).trans rfl, (kc_ BK294.out 6).trans rfl, (kc_ BK294.out 7).trans rfl, (kc_ BK294.out 8).trans rfl, (kc_ BK294.out 9).trans rfl, (kc_ BK294.out 10).trans rfl, (kc_ BK294.out 11).trans rfl⟩ (fun hHeld => ?_)
       clear hK K
       refine norm_ (a' := ?_) ?_ ?_
       rotate_left
       ·show Act.put _ (some 125) _ = _
        simp only [Act.put, List.setIfInBounds_toArray, List.set_cons_zero, List.set_cons_succ, i64_w, i32_w]
        rfl
       refine one_ (i := 18) (N := some 126) #[true, true, true, true, true, true, true, true, true, true, true, true, true, true, true, true, true, true, true, false, false] rfl rfl (by kernel_rfl) (by decide) (fun K hK => ?_)
       refine value_ (w1 := ?_) (v := ?_) (by rfl) rfl ?_ ?_
       rotate_left 2
       ·go_simp
        constructor
        ·rfl
        ·rfl
       refine hK.out _ _ ⟨(kc_ (kA_ BK314.out _) 0).trans rfl, (kc_ (kA_ BK314.out _) 1).trans rfl, (kc_ (kA_ BK280.out _) 0).trans rfl, (kc_ (kA_ BK280.out _) 1).trans rfl, (kc_ (kA_ BK280.out _) 2).trans rfl, (kc_ (kA_ BK280.out _) 3).trans rfl, (kc_ (kA_ BK280.out _) 4).trans rfl, (kc_ (kA_ BK280.out _) 5).trans rfl, (kc_ (kA_ BK280.out _) 6).trans rfl, (kc_ (kA_ BK280.out _) 7).trans rfl, (kc_ (kA_ BK280.out _) 8).trans rfl, (kc_ (kA_ BK280.out _) 9).trans rfl, (kc_ (kA_ BK280.out _) 10).trans rfl, (kc_ (kA_ BK280.out _) 11).trans rfl, (kc_ (kA_ BK294.out _) 0).trans rfl, (kc_ (kA_ BK294.out _) 1).trans rfl, (kc_ (kA_ BK294.out _) 2).trans rfl, (kc_ (kA_ BK294.out _) 3).trans rfl, (kc_ (kA_ BK294.out _) 4).trans rfl, (kc_ (kA_ BK294.out _) 5).trans rfl, (kc_ (kA_ BK294.out _) 6).trans rfl, (kc_ (kA_ BK294.out _) 7).trans rfl, (kc_ (kA_ BK294.out _) 8).trans rfl, (kc_ (kA_ BK294.out _) 9).trans rfl, (kc_ (kA_ BK294.out _) 10).trans rfl, (kc_ (kA_ BK294.out _) 11).trans rfl⟩ (fun hHeld => ?_)
       clear hK K
       refine norm_ (a' := ?_) ?_ ?_
       rotate_left
       ·show Act.put _ (some 126) _ = _
        simp only [Act.put, List.setIfInBounds_toArray, List.set_cons_zero, List.set_cons_succ, i64_w, i32_w]
        rfl
       refine one_ (i := 19) (N := some 127) #[true, true, true, true, true, true, true, true, true, true, true, true, true, true, true, true, true, true, true, true, false] rfl rfl (by kernel_rfl) (by decide) (fun K hK => ?_)
       refine Kd.R_append_step (Kd.int .i64) (w0 := w) w.heap.size (by rfl) (.tmp 108) (.tmp 126) 22 3 (.int .i64 0) 8 rfl Try.underlying22 info3 rfl (by decide) (by omega) (.slice Ao89 x17_4.length co89) x17_4 t317 [.int .i64 t317] (fun _ => True) (fun _ => False) rfl rfl ?aP (fun _ hk => hk.elim) ?aF ?aO ?aB ?aS ?aL ?_
       (case aP => exact rfl)
       (case aB => exact (by exact gs HB.out))
       (case aF => exact (fun _ _ => trivial))
       (case aO => exact (by exact rk HO_17.out))
       (case aS => exact (bZ_ (by exact gs HB.out)))
       (case aL => have := LMc84.out; omega)
       intro v319 w96 ho hb hg hat
       rw [← Ny318.out] at ho
       have HO320 := a_ (ho)
       replace HO_10 := a_ (Kd.R_over' (by exact rk HO_10.out) (Kd.R_typed (by exact rk HO_17.out)) (by decide) hg)
       replace HO_15 := a_ (Kd.S_after (ok := (fun _ => True)) (by (with_reducible repeat (first | apply Kd.S_alloc | apply Kd.S_drewN | apply Kd.S_drew)); exact Kd.S_mono HO_15.out (fun _ hk => ⟨trivial, hk⟩)) hg hat)
       replace HO_102 := a_ (Kd.R_over' (by exact rk HO_102.out) (Kd.R_typed (by exact rk HO_17.out)) (by decide) hg)
       replace BK280 := a_ (blk_grown (g := gb280) (o := .cells #[.int .i64 t267, .int .i64 t268, .int .i64 t269, .int .i64 t270, .int .i64 t271, .int .i64 t272, .int .i64 t273, .int .i64 t274, .int .i64 t275, .int .i64 t276, .int .i64 t277, .int .i64 t278] 78 (0, 0)) (by exact bk BK280.out) hg (Kd.R_ne HO_17.out BK280.out (by decide)))
       replace BK294 := a_ (blk_grown (g := gb294) (o := .cells #[.int .i64 t281, .int .i64 t282, .int .i64 t283, .int .i64 t284, .int .i64 t285, .int .i64 t286, .int .i64 t287, .int .i64 t288, .int .i64 t289, .int .i64 t290, .int .i64 t291, .int .i64 t292] 78 (0, 0)) (by exact bk BK294.out) hg (Kd.R_ne HO_17.out BK294.out (by decide)))
       replace BK314 := a_ (blk_grown (g := gb314) (o := .cells #[.int .i64 ((rd_T100 x10_2 x104_4).f0), .int .i64 ((rd_T100 x10_2 x104_4).f1)] 100 (0, 0)) (by exact bk BK314.out) hg (Kd.R_ne HO_17.out BK314.out (by decide)))
       replace HB := a_ (hb)
       clear HO_17
       clear ho hb hg hat
       refine hK.out _ _ ⟨(kc_ BK314.out 0).trans rfl, (kc_ BK314.out 1).trans rfl, (kc_ BK280.out 0).trans rfl, (kc_ BK280.out 1).trans rfl, (kc_ BK280.out 2).trans rfl, (kc_ BK280.out 3).trans rfl, (kc_ BK280.out 4).trans rfl, (kc_ BK280.out 5).trans rfl, (kc_ BK280.out 6).trans rfl, (kc_ BK280.out 7).trans rfl, (kc_ BK280.out 8).trans rfl, (kc_ BK280.out 9).trans rfl, (kc_ BK280.out 10).trans rfl, (kc_ BK280.out 11).trans rfl, (kc_ BK294.out 0).trans rfl, (kc_ BK294.out 1).trans rfl, (kc_ BK294.out 2).trans rfl, (kc_ BK294.out 3).trans rfl, (kc_ BK294.out 4).trans rfl, (kc_ BK294.out 5).trans rfl, (kc_ BK294.out 6).trans rfl, (kc_ BK294.out 7).trans rfl, (kc_ BK294.out 8).trans rfl, (kc_ BK294.out 9).trans rfl, (kc_ BK294.out 10).trans rfl, (kc_ BK294.out 11).trans rfl⟩ (fun hHeld => ?_)
       clear hK K
       refine norm_ (a' := ?_) ?_ ?_
       rotate_left
       ·show Act.put _ (some 127) _ = _
        simp only [Act.put, List.setIfInBounds_toArray, List.set_cons_zero, List.set_cons_succ, i64_w, i32_w]
        rfl
       refine pure_ (i := 20) (N := some 17) (v := ?_) (a' := ?_) #[true, true, true, true, true, true, true, true, true, true, true, true, true, true, true, true, true, true, true, true, true] rfl rfl (by kernel_rfl) (fun _ _ _ h => h) (Or.inl ⟨by rfl, ?_⟩) ?_ ?_
       rotate_left
       ·intro w'
        go_simp
        with_reducible rfl
       rotate_left
       ·simp only [Act.put, List.setIfInBounds_toArray, List.set_cons_zero, List.set_cons_succ, i64_w, i32_w]
        rfl
       refine done_ (by kernel_rfl) ?_
       try go_wp2
       go_roundg k4
       case measure => have := HJ4.out; have := HK2.out; have := HK3.out; have := HK4.out; omega
       case rel => exact ⟨(y318), (wrap64 (x104_4 + 1)), (by first | rfl | (simp; done) | (simp [*]; done)), H', ⟨by have := HJ4.out; have := HK2.out; have := HK3.out; have := HK4.out; omega⟩, ⟨by exact rk (Kd.R_mono HO_10.out (fun _ hk => trivial))⟩, ⟨by (with_reducible repeat (first | apply Kd.S_alloc | apply Kd.S_drewN | apply Kd.S_drew)); exact Kd.S_mono HO_15.out (fun _ hk => hk.2)⟩, ⟨by exact rk HO320.out⟩, ⟨by exact rk (Kd.R_mono HO_102.out (fun _ hk => trivial))⟩, ⟨by exact bk BK280.out⟩, ⟨by exact bk BK294.out⟩, ⟨by exact gs HB.out⟩⟩
    rw [if_pos c37] at H
    have c37b0 : decide (x11_2 < (x10_2.length : Int)) = true := decide_eq_true c37
    clear c37
    obtain ⟨ji38, hji38⟩ : ∃ j_ : Int, (wrap64 (2 * t281)) = j_ := ⟨_, rfl⟩
    replace H : (if 0 ≤ (ji38) then (if (ji38) ≤ 4 then ((bytesF ((⟨#[97, 65, 98, 66]⟩ : ByteArray).extract 0 ((ji38) : Int).toNat)).bind fun t300 => (c_Meet.l1 k2 x10_2 x11_2 t300 (t300.length : Int) 0 t267 t268 t269 t270 t271 t272 t273 t274 t275 t276 t277 t278 t281 t282 t283 t284 t285 t286 t287 t288 t289 t290 t291 t292)) else (none)) else (none)) = some (r1, r2) := by first | (rw [hji38] at H; exact H) | (simp only [hji38] at H ⊢; exact H)
    have hji38w : (IntKind.i64.wrap (2 * t281)) = ji38 := (i64_w _).trans hji38
    by_cases c39 : 0 ≤ (ji38)
    rotate_left
    ·rw [if_neg c39] at H
     exact absurd H (by simp)
    rw [if_pos c39] at H
    have c39b0 := eq_true c39
    have c39b1 : decide (0 ≤ (ji38)) = true := decide_eq_true c39
    clear c39
    by_cases c40 : (ji38) ≤ 4
    rotate_left
    ·rw [if_neg c40] at H
     exact absurd H (by simp)
    rw [if_pos c40] at H
    have c40b0 := eq_true c40
    have c40b1 : decide ((ji38) ≤ 4) = true := decide_eq_true c40
    clear c40
    replace H := Option.bind_eq_some_iff.mp H
    obtain ⟨t300, A410, H⟩ := H
    try dsimp only at H
    have A41 := a_ A410
    clear A410
    have H' := a_ H
    clear H
    obtain ⟨Ao42, co42, eo42⟩ := Kd.R_slice HO_10.out
    subst eo42
    have hnb43 := NB294_280.out
    have hnc43 := NB280_294.out
    obtain ⟨hcz44_0, hcz44_1, hcz44_2, hcz44_3, hcz44_4, hcz44_5, hcz44_6, hcz44_7, hcz44_8, hcz44_9, hcz44_10, hcz44_11⟩ := cs12 BK294.out
    have hfz44_0 := kf_ BK294.out 0
    have hfz44_1 := kf_ BK294.out 1
    have hfz44_2 := kf_ BK294.out 2
    have hfz44_3 := kf_ BK294.out 3
    have hfz44_4 := kf_ BK294.out 4
    have hfz44_5 := kf_ BK294.out 5
    have hfz44_6 := kf_ BK294.out 6
    have hfz44_7 := kf_ BK294.out 7
    have hfz44_8 := kf_ BK294.out 8
    have hfz44_9 := kf_ BK294.out 9
    have hfz44_10 := kf_ BK294.out 10
    have hfz44_11 := kf_ BK294.out 11
    have hsz_ : ((⟨#[97, 65, 98, 66]⟩ : ByteArray).extract 0 ((ji38) : Int).toNat).size ≤ 140737488355328 := by have h_ := A41.out; unfold bytesF at h_; by_cases hc_ : ((⟨#[97, 65, 98, 66]⟩ : ByteArray).extract 0 ((ji38) : Int).toNat).size ≤ 140737488355328; exact hc_; rw [if_neg hc_] at h_; cases h_
    have htb_ : t300 = strBytes ((⟨#[97, 65, 98, 66]⟩ : ByteArray).extract 0 ((ji38) : Int).toNat) := by have h_ := A41.out; unfold bytesF at h_; rw [if_pos hsz_] at h_; exact (Option.some.inj h_).symm
    have HTB_ := a_ htb_
    have HSZ_ := a_ hsz_
    clear htb_ hsz_
    go_wp2_with (first | ((with_reducible refine gate_dst (N := 65) rfl ?_); refine bytes_event ?hg (N := 65) ?hd rfl (s := (⟨#[97, 65, 98, 66]⟩ : ByteArray).extract 0 ((ji38) : Int).toNat) ?hx HSZ_.out Try.underlying9 Try.underlying86 Try.underlying5 ?_; (case hd => rfl); (case hg => rfl); (case hx => first | rfl | (simp only [hji38]; rfl) | (go_simp; done) | (go_simp; rfl)); intro v301 w45 ho0 hb; rw [← HTB_.out] at ho0; have HO302 := a_ (ho0); replace HO_10 := a_ (Kd.R_below HO_10.out (tr hb)); replace BK280 := a_ (kB_ BK280.out (tr hb)); replace BK294 := a_ (kB_ BK294.out (tr hb)); replace HB := a_ (bT_ (by exact gs HB.out) hb); (try clear hb); (try clear hb2); (try clear hk); (try clear hi); (try clear ho0); obtain ⟨Ao46, co46, eo46⟩ := BR_slice HO302.out; subst eo46))
    go_loopg [10, 67] k2 (fun kq v10 v67 w' => ∃ (x10_3 : List (S100)) (x67_3 : Int), v67 = .int .i64 x67_3 ∧ Aside0 (c_Meet.l1 kq x10_3 x11_2 t300 (t300.length : Int) x67_3 t267 t268 t269 t270 t271 t272 t273 t274 t275 t276 t277 t278 t281 t282 t283 t284 t285 t286 t287 t288 t289 t290 t291 t292 = some (r1, r2)) ∧ Aside0 (kq ≤ k2) ∧ Aside0 (Kd.R k100 100 w' w.heap.size (fun _ => True) v10 x10_3) ∧ Aside0 (BR w' (.slice Ao46 t300.length co46) t300) ∧ Aside0 (w'.heap[gb280]? = some (.cells #[.int .i64 t267, .int .i64 t268, .int .i64 t269, .int .i64 t270, .int .i64 t271, .int .i64 t272, .int .i64 t273, .int .i64 t274, .int .i64 t275, .int .i64 t276, .int .i64 t277, .int .i64 t278] 78 (0, 0))) ∧ Aside0 (w'.heap[gb294]? = some (.cells #[.int .i64 t281, .int .i64 t282, .int .i64 t283, .int .i64 t284, .int .i64 t285, .int .i64 t286, .int .i64 t287, .int .i64 t288, .int .i64 t289, .int .i64 t290, .int .i64 t291, .int .i64 t292] 78 (0, 0))) ∧ Aside0 (Below w.heap.size w w'))
    case atStart => exact ⟨(x10_2), (0), (by first | rfl | (simp; done) | (simp [*]; done)), H', ⟨Nat.le_refl _⟩, ⟨by exact rk HO_10.out⟩, ⟨by (with_reducible repeat (first | apply BR_alloc | apply BR_drewN | apply BR_drew)); exact HO302.out⟩, ⟨by exact bk BK280.out⟩, ⟨by exact bk BK294.out⟩, ⟨by exact gs HB.out⟩⟩
    clear H'
    try clear c1
    try clear c2
    try clear p2
    try clear c3
    try clear c4
    try clear c5
    try clear p6
    try clear c9
    try clear c11
    try clear c13
    try clear c14
    try clear c16
    try clear c18
    try clear c19
    try clear c26
    try clear c31
    try clear c34
    try clear c36
    try clear c37
    try clear c37b0
    try clear c39
    try clear c39b0
    try clear c39b1
    try clear c40
    try clear c40b0
    try clear c40b1
    try clear c43
    try clear hcz12_0 hcz12_1 hcz12_10 hcz12_11 hcz12_2 hcz12_3 hcz12_4 hcz12_5 hcz12_6 hcz12_7 hcz12_8 hcz12_9
    try clear hcz20_0 hcz20_1 hcz20_10 hcz20_11 hcz20_2 hcz20_3 hcz20_4 hcz20_5 hcz20_6 hcz20_7 hcz20_8 hcz20_9
    try clear hcz22_0 hcz22_1 hcz22_10 hcz22_11 hcz22_2 hcz22_3 hcz22_4 hcz22_5 hcz22_6 hcz22_7 hcz22_8 hcz22_9
    try clear hcz24_0 hcz24_1 hcz24_10 hcz24_11 hcz24_2 hcz24_3 hcz24_4 hcz24_5 hcz24_6 hcz24_7 hcz24_8 hcz24_9
    try clear hcz25_0 hcz25_1 hcz25_10 hcz25_11 hcz25_2 hcz25_3 hcz25_4 hcz25_5 hcz25_6 hcz25_7 hcz25_8 hcz25_9
    try clear hcz27_0 hcz27_1 hcz27_10 hcz27_11 hcz27_2 hcz27_3 hcz27_4 hcz27_5 hcz27_6 hcz27_7 hcz27_8 hcz27_9
    try clear hcz29_0 hcz29_1 hcz29_10 hcz29_11 hcz29_2 hcz29_3 hcz29_4 hcz29_5 hcz29_6 hcz29_7 hcz29_8 hcz29_9
    try clear hcz32_0 hcz32_1 hcz32_10 hcz32_11 hcz32_2 hcz32_3 hcz32_4 hcz32_5 hcz32_6 hcz32_7 hcz32_8 hcz32_9
    try clear hcz44_0 hcz44_1 hcz44_10 hcz44_11 hcz44_2 hcz44_3 hcz44_4 hcz44_5 hcz44_6 hcz44_7 hcz44_8 hcz44_9
    try clear hcz8_0 hcz8_1 hcz8_10 hcz8_11 hcz8_2 hcz8_3 hcz8_4 hcz8_5 hcz8_6 hcz8_7 hcz8_8 hcz8_9
    try clear hfz12_0 hfz12_1 hfz12_10 hfz12_11 hfz12_2 hfz12_3 hfz12_4 hfz12_5 hfz12_6 hfz12_7 hfz12_8 hfz12_9
    try clear hfz20_0 hfz20_1 hfz20_10 hfz20_11 hfz20_2 hfz20_3 hfz20_4 hfz20_5 hfz20_6 hfz20_7 hfz20_8 hfz20_9
    try clear hfz22_0 hfz22_1 hfz22_10 hfz22_11 hfz22_2 hfz22_3 hfz22_4 hfz22_5 hfz22_6 hfz22_7 hfz22_8 hfz22_9
    try clear hfz24_0 hfz24_1 hfz24_10 hfz24_11 hfz24_2 hfz24_3 hfz24_4 hfz24_5 hfz24_6 hfz24_7 hfz24_8 hfz24_9
    try clear hfz25_0 hfz25_1 hfz25_10 hfz25_11 hfz25_2 hfz25_3 hfz25_4 hfz25_5 hfz25_6 hfz25_7 hfz25_8 hfz25_9
    try clear hfz27_0 hfz27_1 hfz27_10 hfz27_11 hfz27_2 hfz27_3 hfz27_4 hfz27_5 hfz27_6 hfz27_7 hfz27_8 hfz27_9
    try clear hfz29_0 hfz29_1 hfz29_10 hfz29_11 hfz29_2 hfz29_3 hfz29_4 hfz29_5 hfz29_6 hfz29_7 hfz29_8 hfz29_9
    try clear hfz32_0 hfz32_1 hfz32_10 hfz32_11 hfz32_2 hfz32_3 hfz32_4 hfz32_5 hfz32_6 hfz32_7 hfz32_8 hfz32_9
    try clear hfz44_0 hfz44_1 hfz44_10 hfz44_11 hfz44_2 hfz44_3 hfz44_4 hfz44_5 hfz44_6 hfz44_7 hfz44_8 hfz44_9
    try clear hfz8_0 hfz8_1 hfz8_10 hfz8_11 hfz8_2 hfz8_3 hfz8_4 hfz8_5 hfz8_6 hfz8_7 hfz8_8 hfz8_9
    try clear p2
    obtain ⟨x10_3, x67_3, rfl, HA, HK3, HO_10, HO_65, BK280, BK294, HB⟩ := hrel
    cases gk with
    | zero => exact absurd HA.out (by simp [c_Meet.l1])
    | succ k3 =>
     have H := HA.out
     clear HA
     simp only [c_Meet.l1] at H
     by_cases c47 : x67_3 < (t300.length : Int)
     rotate_left
     ·rw [if_neg c47] at H
      have c47b0 : decide (x67_3 < (t300.length : Int)) = false := decide_eq_false c47
      clear c47
      have H' := a_ H
      clear H
      go_wp2
      go_roundg k3
      case measure => have := HJ4.out; have := HK2.out; have := HK3.out; omega
      case rel => exact ⟨(x10_3), (wrap64 (x11_2 + 1)), (by first | rfl | (simp; done) | (simp [*]; done)), H', ⟨by have := HJ4.out; have := HK2.out; have := HK3.out; omega⟩, ⟨by exact rk HO_10.out⟩, ⟨by exact bk BK280.out⟩, ⟨by exact bk BK294.out⟩, ⟨by exact gs HB.out⟩⟩
     rw [if_pos c47] at H
     have c47b0 : decide (x67_3 < (t300.length : Int)) = true := decide_eq_true c47
     clear c47
     by_cases c48 : 0 ≤ x67_3
     rotate_left
     ·rw [if_neg c48] at H
      exact absurd H (by simp)
     rw [if_pos c48] at H
     have c48b0 : decide (0 ≤ x67_3) = true := decide_eq_true c48
     clear c48
     by_cases c49 : x67_3 < (t300.length : Int)
     rotate_left
     ·rw [if_neg c49] at H
      exact absurd H (by simp)
     rw [if_pos c49] at H
     have c49b0 : decide (x67_3 < (t300.length : Int)) = true := decide_eq_true c49
     clear c49
     by_cases c50 : 0 ≤ x11_2
     rotate_left
     ·rw [if_neg c50] at H
      exact absurd H (by simp)
     rw [if_pos c50] at H
     have c50b0 : decide (0 ≤ x11_2) = true := decide_eq_true c50
     clear c50
     by_cases c51 : x11_2 < (x10_3.length : Int)
     rotate_left
     ·rw [if_neg c51] at H
      exact absurd H (by simp)
     rw [if_pos c51] at H
     have c51b0 : decide (x11_2 < (x10_3.length : Int)) = true := decide_eq_true c51
     clear c51
     replace H := Option.bind_eq_some_iff.mp H
     obtain ⟨t305, A520, H⟩ := H
     try dsimp only at H
     have A52 := a_ A520
     clear A520
     replace H := Option.bind_eq_some_iff.mp H
     obtain ⟨t307, A530, H⟩ := H
     try dsimp only at H
     have A53 := a_ A530
     clear A530
     replace H := Option.bind_eq_some_iff.mp H
     obtain ⟨t309, A540, H⟩ := H
     try dsimp only at H
     have A54 := a_ A540
     clear A540
     have HC55 := a_ H
     clear H
     have p303 : 0 ≤ (x67_3 : Int) := of_decide_eq_true (by first | (with_reducible assumption) | assumption)
     have q303 : x67_3 < (t300.length : Int) := of_decide_eq_true (by first | (with_reducible assumption) | assumption)
     obtain ⟨ad303, e303, hx303_0⟩ := Kd.at_int (BR_reads HO_65.out) x67_3 p303 q303
     cases e303
     replace p303 := eq_true p303
     replace q303 := eq_true q303
     try go_wp2
     replace HO_10 := a_ (Kd.R_drew HO_10.out)
     replace HO_65 := a_ (BR_drew HO_65.out)
     replace BK280 := a_ (kD_ BK280.out)
     replace BK294 := a_ (kD_ BK294.out)
     replace HB := a_ (b1_ HB.out)
     obtain ⟨Ao57, co57, eo57⟩ := Kd.R_slice HO_10.out
     (first | subst eo57 | (injection eo57 with f1_ f2_ f3_; have f4_ := f1_.symm; have f5_ := f3_.symm; clear f1_ f2_ f3_; subst f4_; subst f5_))
     have p304 : 0 ≤ (x11_2 : Int) := of_decide_eq_true (by first | (with_reducible assumption) | assumption)
     have q304 : x11_2 < (x10_3.length : Int) := of_decide_eq_true (by first | (with_reducible assumption) | assumption)
     obtain ⟨ad304, e304, hx304_0, hx304_1⟩ := at_T100 (Kd.R_reads' HO_10.out).2.2 x11_2 p304 q304
     cases e304
     replace p304 := eq_true p304
     replace q304 := eq_true q304
     have p306 : 0 ≤ (x11_2 : Int) := of_decide_eq_true (by first | (with_reducible assumption) | assumption)
     have q306 : x11_2 < (x10_3.length : Int) := of_decide_eq_true (by first | (with_reducible assumption) | assumption)
     obtain ⟨ad306, e306, hx306_0, hx306_1⟩ := at_T100 (Kd.R_reads' HO_10.out).2.2 x11_2 p306 q306
     obtain rfl : ad304 = ad306 := (by injection e306)
     replace p306 := eq_true p306
     replace q306 := eq_true q306
     refine start_ (n := 19) (S := fun w' => w'.cell? ⟨gb280, 0, none⟩ = some (.int .i64 t267) ∧ w'.cell? ⟨gb280, 1, none⟩ = some (.int .i64 t268) ∧ w'.cell? ⟨gb280, 2, none⟩ = some (.int .i64 t269) ∧ w'.cell? ⟨gb280, 3, none⟩ = some (.int .i64 t270) ∧ w'.cell? ⟨gb280, 4, none⟩ = some (.int .i64 t271) ∧ w'.cell? ⟨gb280, 5, none⟩ = some (.int .i64 t272) ∧ w'.cell? ⟨gb280, 6, none⟩ = some (.int .i64 t273) ∧ w'.cell? ⟨gb280, 7, none⟩ = some (.int .i64 t274) ∧ w'.cell? ⟨gb280, 8, none⟩ = some (.int .i64 t275) ∧ w'.cell? ⟨gb280, 9, none⟩ = some (.int .i64 t276) ∧ w'.cell? ⟨gb280, 10, none⟩ = some (.int .i64 t277) ∧ w'.cell? ⟨gb280, 11, none⟩ = some (.int .i64 t278) ∧ w'.cell? ⟨gb294, 0, none⟩ = some (.int .i64 t281) ∧ w'.cell? ⟨gb294, 1, none⟩ = some (.int .i64 t282) ∧ w'.cell? ⟨gb294, 2, none⟩ = some (.int .i64 t283) ∧ w'.cell? ⟨gb294, 3, none⟩ = some (.int .i64 t284) ∧ w'.cell? ⟨gb294, 4, none⟩ = some (.int .i64 t285) ∧ w'.cell? ⟨gb294, 5, none⟩ = some (.int .i64 t286) ∧ w'.cell? ⟨gb294, 6, none⟩ = some (.int .i64 t287) ∧ w'.cell? ⟨gb294, 7, none⟩ = some (.int .i64 t288) ∧ w'.cell? ⟨gb294, 8, none⟩ = some (.int .i64 t289) ∧ w'.cell? ⟨gb294, 9, none⟩ = some (.int .i64 t290) ∧ w'.cell? ⟨gb294, 10, none⟩ = some (.int .i64 t291) ∧ w'.cell? ⟨gb294, 11, none⟩ = some (.int .i64 t292) ∧ w'.cell? (ad304.add ((x11_2).toNat * 2)) = some (.int .i64 ((rd_T100 x10_3 x11_2).f0)) ∧ w'.cell? ⟨(ad304.add ((x11_2).toNat * 2)).block, (ad304.add ((x11_2).toNat * 2)).off + 1, none⟩ = some (.int .i64 ((rd_T100 x10_3 x11_2).f1)) ∧ w'.cell? (ad304.add ((x11_2).toNat * 2)) = some (.int .i64 ((rd_T100 x10_3 x11_2).f0)) ∧ w'.cell? ⟨(ad304.add ((x11_2).toNat * 2)).block, (ad304.add ((x11_2).toNat * 2)).off + 1, none⟩ = some (.int .i64 ((rd_T100 x10_3 x11_2).f1))) (ds := []) #[false, false, false, false, false, false, false, false, false, false, false, false, false, false, false, false, false, false, false] (by kernel_rfl) rfl rfl ⟨(kc_ BK280.out 0).trans rfl, (kc_ BK280.out 1).trans rfl, (kc_ BK280.out 2).trans rfl, (kc_ BK280.out 3).trans rfl, (kc_ BK280.out 4).trans rfl, (kc_ BK280.out 5).trans rfl, (kc_ BK280.out 6).trans rfl, (kc_ BK280.out 7).trans rfl, (kc_ BK280.out 8).trans rfl, (kc_ BK280.out 9).trans rfl, (kc_ BK280.out 10).trans rfl, (kc_ BK280.out 11).trans rfl, (kc_ BK294.out 0).trans rfl, (kc_ BK294.out 1).trans rfl, (kc_ BK294.out 2).trans rfl, (kc_ BK294.out 3).trans rfl, (kc_ BK294.out 4).trans rfl, (kc_ BK294.out 5).trans rfl, (kc_ BK294.out 6).trans rfl, (kc_ BK294.out 7).trans rfl, (kc_ BK294.out 8).trans rfl, (kc_ BK294.out 9).trans rfl, (kc_ BK294.out 10).trans rfl, (kc_ BK294.out 11).trans rfl, hx304_0, hx304_1, hx306_0, hx306_1⟩ (fun hHeld => ?_); refine with_tabW c_Meet.tab12 c_Meet.bits12 (fun HT_ HW_ => ?_)
     generalize wr.drew = w56 at HO_10 HO_65 BK280 BK294 HB hx304_0 hx304_1 hx306_0 hx306_1 hHeld ⊢
     refine pure_ (i := 1) (N := some 72) (v := ?_) (a' := ?_) #[false, true, false, false, false, false, false, false, false, false, false, false, false, false, false, false, false, false, false] rfl rfl (any_of HT_.out (by kernel_rfl)) (fun _ _ _ h => h) (Or.inl ⟨by rfl, ?_⟩) ?_ ?_
     rotate_left
     ·intro w'
      go_simp
      with_reducible rfl
     rotate_left
     ·simp only [Act.put, List.setIfInBounds_toArray, List.set_cons_zero, List.set_cons_succ, i64_w, i32_w]
      rfl
     refine pure_ (i := 2) (N := some 73) (v := ?_) (a' := ?_) #[false, true, true, false, false, false, false, false, false, false, false, false, false, false, false, false, false, false, false] rfl rfl (any_of HT_.out (by kernel_rfl)) (fun _ _ _ h => h) (Or.inl ⟨by rfl, ?_⟩) ?_ ?_
     rotate_left
     ·intro w'
      go_simp
      with_reducible rfl
     rotate_left
     ·simp only [Act.put, List.setIfInBounds_toArray, List.set_cons_zero, List.set_cons_succ, i64_w, i32_w]
      rfl
     refine pure_ (i := 3) (N := some 74) (v := ?_) (a' := ?_) #[false, true, true, true, false, false, false, false, false, false, false, false, false, false, false, false, false, false, false] rfl rfl (any_of HT_.out (by kernel_rfl)) (fun _ _ _ h => h) (Or.inl ⟨by rfl, ?_⟩) ?_ ?_
     rotate_left
     ·intro w'
      go_simp
      with_reducible rfl
     rotate_left
     ·simp only [Act.put, List.setIfInBounds_toArray, List.set_cons_zero, List.set_cons_succ, i64_w, i32_w]
      rfl
     refine pure_ (i := 4) (N := some 75) (v := ?_) (a' := ?_) #[false, true, true, true, true, false, false, false, false, false, false, false, false, false, false, false, false, false, false] rfl rfl (any_of HT_.out (by kernel_rfl)) (fun _ _ _ h => h) (Or.inl ⟨by rfl, ?_⟩) ?_ ?_
     rotate_left
     ·intro w'
      go_simp
      with_reducible rfl
     rotate_left
     ·simp only [Act.put, List.setIfInBounds_toArray, List.set_cons_zero, List.set_cons_succ, i64_w, i32_w]
      rfl
     refine pure_ (i := 6) (N := some 77) (v := ?_) (a' := ?_) #[false, true, true, true, true, false, true, false, false, false, false, false, false, false, false, false, false, false, false] rfl rfl (any_of HT_.out (by kernel_rfl)) (fun _ _ _ h => h) (Or.inl ⟨by rfl, ?_⟩) ?_ ?_
     rotate_left
     ·intro w'
      go_simp
      with_reducible rfl
     rotate_left
     ·simp only [Act.put, List.setIfInBounds_toArray, List.set_cons_zero, List.set_cons_succ, i64_w, i32_w]
      rfl
     refine pure_ (i := 9) (N := some 80) (v := ?_) (a' := ?_) #[false, true, true, true, true, false, true, false, false, true, false, false, false, false, false, false, false, false, false] rfl rfl (any_of HT_.out (by kernel_rfl)) (fun _ _ _ h => h) (Or.inl ⟨by rfl, ?_⟩) ?_ ?_
     rotate_left
     ·intro w'
      go_simp
      with_reducible rfl
     rotate_left
     ·simp only [Act.put, List.setIfInBounds_toArray, List.set_cons_zero, List.set_cons_succ, i64_w, i32_w]
      rfl
     refine pure_ (i := 10) (N := some 81) (v := ?_) (a' := ?_) #[false, true, true, true, true, false, true, false, false, true, true, false, false, false, false, false, false, false, false] rfl rfl (any_of HT_.out (by kernel_rfl)) (fun _ _ _ h => h) (Or.inl ⟨by rfl, ?_⟩) ?_ ?_
     rotate_left
     ·intro w'
      go_simp
      with_reducible rfl
     rotate_left
     ·simp only [Act.put, List.setIfInBounds_toArray, List.set_cons_zero, List.set_cons_succ, i64_w, i32_w]
      rfl
     refine pure_ (i := 11) (N := some 82) (v := ?_) (a' := ?_) #[false, true, true, true, true, false, true, false, false, true, true, true, false, false, false, false, false, false, false] rfl rfl (any_of HT_.out (by kernel_rfl)) (fun _ _ _ h => h) (Or.inl ⟨by rfl, ?_⟩) ?_ ?_
     rotate_left
     ·intro w'
      go_simp
      with_reducible rfl
     rotate_left
     ·simp only [Act.put, List.setIfInBounds_toArray, List.set_cons_zero, List.set_cons_succ, i64_w, i32_w]
      rfl
     refine pure_ (i := 12) (N := some 83) (v := ?_) (a' := ?_) #[false, true, true, true, true, false, true, false, false, true, true, true, true, false, false, false, false, false, false] rfl rfl (any_of HT_.out (by kernel_rfl)) (fun _ _ _ h => h) (Or.inl ⟨by rfl, ?_⟩) ?_ ?_
     rotate_left
     ·intro w'
      go_simp
      with_reducible rfl
     rotate_left
     ·simp only [Act.put, List.setIfInBounds_toArray, List.set_cons_zero, List.set_cons_succ, i64_w, i32_w]
      rfl
     refine pure_ (i := 14) (N := some 85) (v := ?_) (a' := ?_) #[false, true, true, true, true, false, true, false, false, true, true, true, true, false, true, false, false, false, false] rfl rfl (any_of HT_.out (by kernel_rfl)) (fun _ _ _ h => h) (Or.inl ⟨by rfl, ?_⟩) ?_ ?_
     rotate_left
     ·intro w'
      go_simp
      with_reducible rfl
     rotate_left
     ·simp only [Act.put, List.setIfInBounds_toArray, List.set_cons_zero, List.set_cons_succ, i64_w, i32_w]
      rfl
     refine take_ (i := 0) (N := some 71) (v := ?_) (a' := ?_) #[true, true, true, true, true, false, true, false, false, true, true, true, true, false, true, false, false, false, false] rfl rfl (take_ofW HT_.out HW_.out (by kernel_rfl)) (fun _ _ _ h => h) (Or.inl ⟨by rfl, ?_⟩) hHeld ?_ ?_
     rotate_left
     ·rintro w' ⟨s0, s1, s2, s3, s4, s5, s6, s7, s8, s9, s10, s11, s12, s13, s14, s15, s16, s17, s18, s19, s20, s21, s22, s23, s24, s25, s26, s27⟩
      go_simp
      with_reducible rfl
     rotate_left
     ·simp only [Act.put, List.setIfInBounds_toArray, List.set_cons_zero, List.set_cons_succ, i64_w, i32_w]
      rfl
     refine take_ (i := 5) (N := some 76) (v := ?_) (a' := ?_) #[true, true, true, true, true, true, true, false, false, true, true, true, true, false, true, false, false, false, false] rfl rfl (take_ofW HT_.out HW_.out (by kernel_rfl)) (fun _ _ _ h => h) (Or.inl ⟨by rfl, ?_⟩) hHeld ?_ ?_
     rotate_left
     ·rintro w' ⟨s0, s1, s2, s3, s4, s5, s6, s7, s8, s9, s10, s11, s12, s13, s14, s15, s16, s17, s18, s19, s20, s21, s22, s23, s24, s25, s26, s27⟩
      go_simp
      with_reducible rfl
     rotate_left
     ·simp only [Act.put, List.setIfInBounds_toArray, List.set_cons_zero, List.set_cons_succ, i64_w, i32_w]
      rfl
     refine take_ (i := 8) (N := some 79) (v := ?_) (a' := ?_) #[true, true, true, true, true, true, true, false, true, true, true, true, true, false, true, false, false, false, false] rfl rfl (take_ofW HT_.out HW_.out (by kernel_rfl)) (fun _ _ _ h => h) (Or.inl ⟨by rfl, ?_⟩) hHeld ?_ ?_
     rotate_left
     ·rintro w' ⟨s0, s1, s2, s3, s4, s5, s6, s7, s8, s9, s10, s11, s12, s13, s14, s15, s16, s17, s18, s19, s20, s21, s22, s23, s24, s25, s26, s27⟩
      go_simp
      with_reducible rfl
     rotate_left
     ·simp only [Act.put, List.setIfInBounds_toArray, List.set_cons_zero, List.set_cons_succ, i64_w, i32_w]
      rfl
     refine take_ (i := 13) (N := some 84) (v := ?_) (a' := ?_) #[true, true, true, true, true, true, true, false, true, true, true, true, true, true, true, false, false, false, false] rfl rfl (take_ofW HT_.out HW_.out (by kernel_rfl)) (fun _ _ _ h => h) (Or.inl ⟨by rfl, ?_⟩) hHeld ?_ ?_
     rotate_left
     ·rintro w' ⟨s0, s1, s2, s3, s4, s5, s6, s7, s8, s9, s10, s11, s12, s13, s14, s15, s16, s17, s18, s19, s20, s21, s22, s23, s24, s25, s26, s27⟩
      go_simp
      with_reducible rfl
     rotate_left
     ·simp only [Act.put, List.setIfInBounds_toArray, List.set_cons_zero, List.set_cons_succ, i64_w, i32_w]
      rfl
     refine join_ (σ := Nat) 1 #[true, true, true, true, true, true, true, true, true, true, true, true, true, true, true, true, true, true, false] (fun s_ => [(78, .int .i64 t305), (86, .int .i64 t307), (14, .pointer (some ⟨s_, 0, none⟩)), (87, .agg #[.int .i64 t305, .int .i64 t307])]) (fun s_ w' => (w'.cell? ⟨gb280, 0, none⟩ = some (.int .i64 t267) ∧ w'.cell? ⟨gb280, 1, none⟩ = some (.int .i64 t268) ∧ w'.cell? ⟨gb280, 2, none⟩ = some (.int .i64 t269) ∧ w'.cell? ⟨gb280, 3, none⟩ = some (.int .i64 t270) ∧ w'.cell? ⟨gb280, 4, none⟩ = some (.int .i64 t271) ∧ w'.cell? ⟨gb280, 5, none⟩ = some (.int .i64 t272) ∧ w'.cell? ⟨gb280, 6, none⟩ = some (.int .i64 t273) ∧ w'.cell? ⟨gb280, 7, none⟩ = some (.int .i64 t274) ∧ w'.cell? ⟨gb280, 8, none⟩ = some (.int .i64 t275) ∧ w'.cell? ⟨gb280, 9, none⟩ = some (.int .i64 t276) ∧ w'.cell? ⟨gb280, 10, none⟩ = some (.int .i64 t277) ∧ w'.cell? ⟨gb280, 11, none⟩ = some (.int .i64 t278) ∧ w'.cell? ⟨gb294, 0, none⟩ = some (.int .i64 t281) ∧ w'.cell? ⟨gb294, 1, none⟩ = some (.int .i64 t282) ∧ w'.cell? ⟨gb294, 2, none⟩ = some (.int .i64 t283) ∧ w'.cell? ⟨gb294, 3, none⟩ = some (.int .i64 t284) ∧ w'.cell? ⟨gb294, 4, none⟩ = some (.int .i64 t285) ∧ w'.cell? ⟨gb294, 5, none⟩ = some (.int .i64 t286) ∧ w'.cell? ⟨gb294, 6, none⟩ = some (.int .i64 t287) ∧ w'.cell? ⟨gb294, 7, none⟩ = some (.int .i64 t288) ∧ w'.cell? ⟨gb294, 8, none⟩ = some (.int .i64 t289) ∧ w'.cell? ⟨gb294, 9, none⟩ = some (.int .i64 t290) ∧ w'.cell? ⟨gb294, 10, none⟩ = some (.int .i64 t291) ∧ w'.cell? ⟨gb294, 11, none⟩ = some (.int .i64 t292) ∧ w'.cell? (ad304.add ((x11_2).toNat * 2)) = some (.int .i64 ((rd_T100 x10_3 x11_2).f0)) ∧ w'.cell? ⟨(ad304.add ((x11_2).toNat * 2)).block, (ad304.add ((x11_2).toNat * 2)).off + 1, none⟩ = some (.int .i64 ((rd_T100 x10_3 x11_2).f1)) ∧ w'.cell? (ad304.add ((x11_2).toNat * 2)) = some (.int .i64 ((rd_T100 x10_3 x11_2).f0)) ∧ w'.cell? ⟨(ad304.add ((x11_2).toNat * 2)).block, (ad304.add ((x11_2).toNat * 2)).off + 1, none⟩ = some (.int .i64 ((rd_T100 x10_3 x11_2).f1))) ∧ (Kd.R k100 100 w' w.heap.size (fun k_ => k_ ≠ s_) (.slice (some ad304) x10_3.length co57) x10_3) ∧ (BR w' (.slice (some ad303) t300.length co46) t300) ∧ (w'.heap[gb280]? = some (.cells #[.int .i64 t267, .int .i64 t268, .int .i64 t269, .int .i64 t270, .int .i64 t271, .int .i64 t272, .int .i64 t273, .int .i64 t274, .int .i64 t275, .int .i64 t276, .int .i64 t277, .int .i64 t278] 78 (0, 0))) ∧ (w'.heap[gb294]? = some (.cells #[.int .i64 t281, .int .i64 t282, .int .i64 t283, .int .i64 t284, .int .i64 t285, .int .i64 t286, .int .i64 t287, .int .i64 t288, .int .i64 t289, .int .i64 t290, .int .i64 t291, .int .i64 t292] 78 (0, 0))) ∧ (w'.heap[s_]? = some (.cells #[.int .i64 0, .int .i64 0] 100 (0, 0))) ∧ (w.heap.size ≤ s_) ∧ (w.heap.size ≤ s_) ∧ (gb280 ≠ s_) ∧ (s_ ≠ gb280) ∧ (gb294 ≠ s_) ∧ (s_ ≠ gb294) ∧ (Below w.heap.size w w')) ?_ ?_
     rotate_left
     ·intro hCont
      refine two_ (i := 7) (j := 17) (Ni := some 78) (Nj := some 14) #[true, true, true, true, true, true, true, true, true, true, true, true, true, true, true, false, false, false, false] #[true, true, true, true, true, true, true, false, true, true, true, true, true, true, true, false, false, true, false] rfl rfl rfl rfl (two_of HT_.out (by kernel_rfl)) (by decide) (by decide) (fun K hK => ?_) (fun K hK => ?_)
      ·skip
       refine goes_ Try.func70 (by kernel_rfl) rfl #[.agg #[.int .i64 t267, .int .i64 t268, .int .i64 t269, .int .i64 t270, .int .i64 t271, .int .i64 t272, .int .i64 t273, .int .i64 t274, .int .i64 t275, .int .i64 t276, .int .i64 t277, .int .i64 t278], .int .i64 ((rd_T100 x10_3 x11_2).f0), .int .u8 (rd t300 x67_3)] (by rfl) rfl rfl (by (try simp only [List.map_toArray, List.map_cons, List.map_nil]); first | done | rfl | (simp only [List.length_drop, List.length_take]; rfl)) ?_
       with_reducible refine (c_table_sent.calls t267 t268 t269 t270 t271 t272 t273 t274 t275 t276 t277 t278 ((rd_T100 x10_3 x11_2).f0) (rd t300 x67_3) t305 _ A52.out).mono ?_
       rintro e w58 ⟨rfl, hb⟩
       have HS24_ := (hb.cell (World.block_lt_of_cell? _ _ (hHeld.2.2.2.2.2.2.2.2.2.2.2.2.2.2.2.2.2.2.2.2.2.2.2.2.1))).trans (hHeld.2.2.2.2.2.2.2.2.2.2.2.2.2.2.2.2.2.2.2.2.2.2.2.2.1)
       have HS25_ := (hb.cell (World.block_lt_of_cell? _ _ (hHeld.2.2.2.2.2.2.2.2.2.2.2.2.2.2.2.2.2.2.2.2.2.2.2.2.2.1))).trans (hHeld.2.2.2.2.2.2.2.2.2.2.2.2.2.2.2.2.2.2.2.2.2.2.2.2.2.1)
       have HS26_ := (hb.cell (World.block_lt_of_cell? _ _ (hHeld.2.2.2.2.2.2.2.2.2.2.2.2.2.2.2.2.2.2.2.2.2.2.2.2.2.2.1))).trans (hHeld.2.2.2.2.2.2.2.2.2.2.2.2.2.2.2.2.2.2.2.2.2.2.2.2.2.2.1)
       have HS27_ := (hb.cell (World.block_lt_of_cell? _ _ (hHeld.2.2.2.2.2.2.2.2.2.2.2.2.2.2.2.2.2.2.2.2.2.2.2.2.2.2.2))).trans (hHeld.2.2.2.2.2.2.2.2.2.2.2.2.2.2.2.2.2.2.2.2.2.2.2.2.2.2.2)
       refine ⟨_, rfl, ?_⟩
       replace HO_10 := a_ (Kd.R_below HO_10.out (tr hb))
       replace HO_65 := a_ (BR_below (by (with_reducible repeat (first | apply BR_alloc | apply BR_drewN | apply BR_drew)); exact HO_65.out) hb)
       replace BK280 := a_ (kB_ BK280.out (tr hb))
       replace BK294 := a_ (kB_ BK294.out (tr hb))
       replace HB := a_ (bT_ (by exact gs HB.out) hb)
       (try clear hb)
       (try clear hb2)
       (try clear hk)
       (try clear hi)
       refine hK.out _ _ ⟨(kc_ BK280.out 0).trans rfl, (kc_ BK280.out 1).trans rfl, (kc_ BK280.out 2).trans rfl, (kc_ BK280.out 3).trans rfl, (kc_ BK280.out 4).trans rfl, (kc_ BK280.out 5).trans rfl, (kc_ BK280.out 6).trans rfl, (kc_ BK280.out 7).trans rfl, (kc_ BK280.out 8).trans rfl, (kc_ BK280.out 9).trans rfl, (kc_ BK280.out 10).trans rfl, (kc_ BK280.out 11).trans rfl, (kc_ BK294.out 0).trans rfl, (kc_ BK294.out 1).trans rfl, (kc_ BK294.out 2).trans rfl, (kc_ BK294.out 3).trans rfl, (kc_ BK294.out 4).trans rfl, (kc_ BK294.out 5).trans rfl, (kc_ BK294.out 6).trans rfl, (kc_ BK294.out 7).trans rfl, (kc_ BK294.out 8).trans rfl, (kc_ BK294.out 9).trans rfl, (kc_ BK294.out 10).trans rfl, (kc_ BK294.out 11).trans rfl, HS24_, HS25_, HS26_, HS27_⟩ (fun hHeld => ?_)
       clear hK K
       refine norm_ (a' := ?_) ?_ ?_
       rotate_left
       ·show Act.put _ (some 78) _ = _
        simp only [Act.put, List.setIfInBounds_toArray, List.set_cons_zero, List.set_cons_succ, i64_w, i32_w]
        rfl
       refine two_ (i := 15) (j := 17) (Ni := some 86) (Nj := some 14) #[true, true, true, true, true, true, true, true, true, true, true, true, true, true, true, true, false, false, false] #[true, true, true, true, true, true, true, true, true, true, true, true, true, true, true, false, false, true, false] rfl rfl rfl rfl (two_of HT_.out (by kernel_rfl)) (by decide) (by decide) (fun K hK => ?_) (fun K hK => ?_)
       ·skip
        refine goes_ Try.func70 (by kernel_rfl) rfl #[.agg #[.int .i64 t281, .int .i64 t282, .int .i64 t283, .int .i64 t284, .int .i64 t285, .int .i64 t286, .int .i64 t287, .int .i64 t288, .int .i64 t289, .int .i64 t290, .int .i64 t291, .int .i64 t292], .int .i64 ((rd_T100 x10_3 x11_2).f1), .int .u8 (rd t300 x67_3)] (by rfl) rfl rfl (by (try simp only [List.map_toArray, List.map_cons, List.map_nil]); first | done | rfl | (simp only [List.length_drop, List.length_take]; rfl)) ?_
        with_reducible refine (c_table_sent.calls t281 t282 t283 t284 t285 t286 t287 t288 t289 t290 t291 t292 ((rd_T100 x10_3 x11_2).f1) (rd t300 x67_3) t307 _ A53.out).mono ?_
        rintro e w59 ⟨rfl, hb⟩
        have HS24_ := (hb.cell (World.block_lt_of_cell? _ _ (hHeld.2.2.2.2.2.2.2.2.2.2.2.2.2.2.2.2.2.2.2.2.2.2.2.2.1))).trans (hHeld.2.2.2.2.2.2.2.2.2.2.2.2.2.2.2.2.2.2.2.2.2.2.2.2.1)
        have HS25_ := (hb.cell (World.block_lt_of_cell? _ _ (hHeld.2.2.2.2.2.2.2.2.2.2.2.2.2.2.2.2.2.2.2.2.2.2.2.2.2.1))).trans (hHeld.2.2.2.2.2.2.2.2.2.2.2.2.2.2.2.2.2.2.2.2.2.2.2.2.2.1)
        have HS26_ := (hb.cell (World.block_lt_of_cell? _ _ (hHeld.2.2.2.2.2.2.2.2.2.2.2.2.2.2.2.2.2.2.2.2.2.2.2.2.2.2.1))).trans (hHeld.2.2.2.2.2.2.2.2.2.2.2.2.2.2.2.2.2.2.2.2.2.2.2.2.2.2.1)
        have HS27_ := (hb.cell (World.block_lt_of_cell? _ _ (hHeld.2.2.2.2.2.2.2.2.2.2.2.2.2.2.2.2.2.2.2.2.2.2.2.2.2.2.2))).trans (hHeld.2.2.2.2.2.2.2.2.2.2.2.2.2.2.2.2.2.2.2.2.2.2.2.2.2.2.2)
        refine ⟨_, rfl, ?_⟩
        replace HO_10 := a_ (Kd.R_below HO_10.out (tr hb))
        replace HO_65 := a_ (BR_below (by (with_reducible repeat (first | apply BR_alloc | apply BR_drewN | apply BR_drew)); exact HO_65.out) hb)
        replace BK280 := a_ (kB_ BK280.out (tr hb))
        replace BK294 := a_ (kB_ BK294.out (tr hb))
        replace HB := a_ (bT_ (by exact gs HB.out) hb)
        (try clear hb)
        (try clear hb2)
        (try clear hk)
        (try clear hi)
        refine hK.out _ _ ⟨(kc_ BK280.out 0).trans rfl, (kc_ BK280.out 1).trans rfl, (kc_ BK280.out 2).trans rfl, (kc_ BK280.out 3).trans rfl, (kc_ BK280.out 4).trans rfl, (kc_ BK280.out 5).trans rfl, (kc_ BK280.out 6).trans rfl, (kc_ BK280.out 7).trans rfl, (kc_ BK280.out 8).trans rfl, (kc_ BK280.out 9).trans rfl, (kc_ BK280.out 10).trans rfl, (kc_ BK280.out 11).trans rfl, (kc_ BK294.out 0).trans rfl, (kc_ BK294.out 1).trans rfl, (kc_ BK294.out 2).trans rfl, (kc_ BK294.out 3).trans rfl, (kc_ BK294.out 4).trans rfl, (kc_ BK294.out 5).trans rfl, (kc_ BK294.out 6).trans rfl, (kc_ BK294.out 7).trans rfl, (kc_ BK294.out 8).trans rfl, (kc_ BK294.out 9).trans rfl, (kc_ BK294.out 10).trans rfl, (kc_ BK294.out 11).trans rfl, HS24_, HS25_, HS26_, HS27_⟩ (fun hHeld => ?_)
        clear hK K
        refine norm_ (a' := ?_) ?_ ?_
        rotate_left
        ·show Act.put _ (some 86) _ = _
         simp only [Act.put, List.setIfInBounds_toArray, List.set_cons_zero, List.set_cons_succ, i64_w, i32_w]
         rfl
        refine pure_ (i := 16) (N := some 87) (v := ?_) (a' := ?_) #[true, true, true, true, true, true, true, true, true, true, true, true, true, true, true, true, true, false, false] rfl rfl (any_of HT_.out (by kernel_rfl)) (fun _ _ _ h => h) (Or.inl ⟨by rfl, ?_⟩) ?_ ?_
        rotate_left
        ·intro w'
         go_simp
         with_reducible rfl
        rotate_left
        ·simp only [Act.put, List.setIfInBounds_toArray, List.set_cons_zero, List.set_cons_succ, i64_w, i32_w]
         rfl
        refine one_ (i := 17) (N := some 14) #[true, true, true, true, true, true, true, true, true, true, true, true, true, true, true, true, true, true, false] rfl rfl (one_of HT_.out (by kernel_rfl)) (by decide) (fun K hK => ?_)
        refine box_step ?hg (N := 14) ?hd (cs := #[.int .i64 0, .int .i64 0]) (t := 100) ?hr ?_; (case hd => rfl); (case hg => rfl); (case hr => first | (go_simp; done) | (go_simp; rfl))
        intro gb308 hg w60 hbox hb
        have HS24_ := (hb.cell (World.block_lt_of_cell? _ _ (hHeld.2.2.2.2.2.2.2.2.2.2.2.2.2.2.2.2.2.2.2.2.2.2.2.2.1))).trans (hHeld.2.2.2.2.2.2.2.2.2.2.2.2.2.2.2.2.2.2.2.2.2.2.2.2.1)
        have HS25_ := (hb.cell (World.block_lt_of_cell? _ _ (hHeld.2.2.2.2.2.2.2.2.2.2.2.2.2.2.2.2.2.2.2.2.2.2.2.2.2.1))).trans (hHeld.2.2.2.2.2.2.2.2.2.2.2.2.2.2.2.2.2.2.2.2.2.2.2.2.2.1)
        have HS26_ := (hb.cell (World.block_lt_of_cell? _ _ (hHeld.2.2.2.2.2.2.2.2.2.2.2.2.2.2.2.2.2.2.2.2.2.2.2.2.2.2.1))).trans (hHeld.2.2.2.2.2.2.2.2.2.2.2.2.2.2.2.2.2.2.2.2.2.2.2.2.2.2.1)
        have HS27_ := (hb.cell (World.block_lt_of_cell? _ _ (hHeld.2.2.2.2.2.2.2.2.2.2.2.2.2.2.2.2.2.2.2.2.2.2.2.2.2.2.2))).trans (hHeld.2.2.2.2.2.2.2.2.2.2.2.2.2.2.2.2.2.2.2.2.2.2.2.2.2.2.2)
        have BK308 := a_ (hbox)
        have GW308 := a_ ((by rw [hg]; exact (bZ_ (by exact gs HB.out)) : w.heap.size ≤ gb308))
        have GE308 := GEc.mk ((by rw [hg]; exact (bZ_ (by exact gs HB.out)) : w.heap.size ≤ gb308))
        have NB280_308 := NEc.mk ((by rw [hg]; exact Nat.ne_of_lt (blk_lt (g := gb280) (o := .cells #[.int .i64 t267, .int .i64 t268, .int .i64 t269, .int .i64 t270, .int .i64 t271, .int .i64 t272, .int .i64 t273, .int .i64 t274, .int .i64 t275, .int .i64 t276, .int .i64 t277, .int .i64 t278] 78 (0, 0)) (by exact bk BK280.out)) : gb280 ≠ gb308))
        have NB308_280 := NEc.mk ((by rw [hg]; exact Nat.ne_of_gt (blk_lt (g := gb280) (o := .cells #[.int .i64 t267, .int .i64 t268, .int .i64 t269, .int .i64 t270, .int .i64 t271, .int .i64 t272, .int .i64 t273, .int .i64 t274, .int .i64 t275, .int .i64 t276, .int .i64 t277, .int .i64 t278] 78 (0, 0)) (by exact bk BK280.out)) : gb308 ≠ gb280))
        have NB294_308 := NEc.mk ((by rw [hg]; exact Nat.ne_of_lt (blk_lt (g := gb294) (o := .cells #[.int .i64 t281, .int .i64 t282, .int .i64 t283, .int .i64 t284, .int .i64 t285, .int .i64 t286, .int .i64 t287, .int .i64 t288, .int .i64 t289, .int .i64 t290, .int .i64 t291, .int .i64 t292] 78 (0, 0)) (by exact bk BK294.out)) : gb294 ≠ gb308))
        have NB308_294 := NEc.mk ((by rw [hg]; exact Nat.ne_of_gt (blk_lt (g := gb294) (o := .cells #[.int .i64 t281, .int .i64 t282, .int .i64 t283, .int .i64 t284, .int .i64 t285, .int .i64 t286, .int .i64 t287, .int .i64 t288, .int .i64 t289, .int .i64 t290, .int .i64 t291, .int .i64 t292] 78 (0, 0)) (by exact bk BK294.out)) : gb308 ≠ gb294))
        replace HO_10 := a_ (Kd.R_below (Kd.R_elderB (by exact rk HO_10.out) gb308 (Nat.le_of_eq hg.symm)) hb)
        replace HO_65 := a_ (BR_below (by (with_reducible repeat (first | apply BR_alloc | apply BR_drewN | apply BR_drew)); exact HO_65.out) hb)
        replace BK280 := a_ (kB_ BK280.out (tr hb))
        replace BK294 := a_ (kB_ BK294.out (tr hb))
        replace HB := a_ (bT_ (by exact gs HB.out) hb)
        clear hb hbox hg
        refine hK.out _ _ ⟨(kc_ BK280.out 0).trans rfl, (kc_ BK280.out 1).trans rfl, (kc_ BK280.out 2).trans rfl, (kc_ BK280.out 3).trans rfl, (kc_ BK280.out 4).trans rfl, (kc_ BK280.out 5).trans rfl, (kc_ BK280.out 6).trans rfl, (kc_ BK280.out 7).trans rfl, (kc_ BK280.out 8).trans rfl, (kc_ BK280.out 9).trans rfl, (kc_ BK280.out 10).trans rfl, (kc_ BK280.out 11).trans rfl, (kc_ BK294.out 0).trans rfl, (kc_ BK294.out 1).trans rfl, (kc_ BK294.out 2).trans rfl, (kc_ BK294.out 3).trans rfl, (kc_ BK294.out 4).trans rfl, (kc_ BK294.out 5).trans rfl, (kc_ BK294.out 6).trans rfl, (kc_ BK294.out 7).trans rfl, (kc_ BK294.out 8).trans rfl, (kc_ BK294.out 9).trans rfl, (kc_ BK294.out 10).trans rfl, (kc_ BK294.out 11).trans rfl, HS24_, HS25_, HS26_, HS27_⟩ (fun hHeld => ?_)
        clear hK K
        refine norm_ (a' := ?_) ?_ ?_
        rotate_left
        ·show Act.put _ (some 14) _ = _
         simp only [Act.put, List.setIfInBounds_toArray, List.set_cons_zero, List.set_cons_succ, i64_w, i32_w]
         rfl
        exact norm_ (by simp only [putAll, Act.put, List.setIfInBounds_toArray, List.set_cons_zero, List.set_cons_succ]) (hCont (gb308) _ ⟨hHeld, (by exact rk (Kd.R_mono HO_10.out (fun _ hk => hk.2))), (by (with_reducible repeat (first | apply BR_alloc | apply BR_drewN | apply BR_drew)); exact HO_65.out), (by exact bk BK280.out), (by exact bk BK294.out), (by exact bk BK308.out), GW308.out, GE308.out, NB280_308.out, NB308_280.out, NB294_308.out, NB308_294.out, (by exact gs HB.out)⟩)
       ·skip
        refine box_step ?hg (N := 14) ?hd (cs := #[.int .i64 0, .int .i64 0]) (t := 100) ?hr ?_; (case hd => rfl); (case hg => rfl); (case hr => first | (go_simp; done) | (go_simp; rfl))
        intro gb308 hg w59 hbox hb
        have HS24_ := (hb.cell (World.block_lt_of_cell? _ _ (hHeld.2.2.2.2.2.2.2.2.2.2.2.2.2.2.2.2.2.2.2.2.2.2.2.2.1))).trans (hHeld.2.2.2.2.2.2.2.2.2.2.2.2.2.2.2.2.2.2.2.2.2.2.2.2.1)
        have HS25_ := (hb.cell (World.block_lt_of_cell? _ _ (hHeld.2.2.2.2.2.2.2.2.2.2.2.2.2.2.2.2.2.2.2.2.2.2.2.2.2.1))).trans (hHeld.2.2.2.2.2.2.2.2.2.2.2.2.2.2.2.2.2.2.2.2.2.2.2.2.2.1)
        have HS26_ := (hb.cell (World.block_lt_of_cell? _ _ (hHeld.2.2.2.2.2.2.2.2.2.2.2.2.2.2.2.2.2.2.2.2.2.2.2.2.2.2.1))).trans (hHeld.2.2.2.2.2.2.2.2.2.2.2.2.2.2.2.2.2.2.2.2.2.2.2.2.2.2.1)
        have HS27_ := (hb.cell (World.block_lt_of_cell? _ _ (hHeld.2.2.2.2.2.2.2.2.2.2.2.2.2.2.2.2.2.2.2.2.2.2.2.2.2.2.2))).trans (hHeld.2.2.2.2.2.2.2.2.2.2.2.2.2.2.2.2.2.2.2.2.2.2.2.2.2.2.2)
        have BK308 := a_ (hbox)
        have GW308 := a_ ((by rw [hg]; exact (bZ_ (by exact gs HB.out)) : w.heap.size ≤ gb308))
        have GE308 := GEc.mk ((by rw [hg]; exact (bZ_ (by exact gs HB.out)) : w.heap.size ≤ gb308))
        have NB280_308 := NEc.mk ((by rw [hg]; exact Nat.ne_of_lt (blk_lt (g := gb280) (o := .cells #[.int .i64 t267, .int .i64 t268, .int .i64 t269, .int .i64 t270, .int .i64 t271, .int .i64 t272, .int .i64 t273, .int .i64 t274, .int .i64 t275, .int .i64 t276, .int .i64 t277, .int .i64 t278] 78 (0, 0)) (by exact bk BK280.out)) : gb280 ≠ gb308))
        have NB308_280 := NEc.mk ((by rw [hg]; exact Nat.ne_of_gt (blk_lt (g := gb280) (o := .cells #[.int .i64 t267, .int .i64 t268, .int .i64 t269, .int .i64 t270, .int .i64 t271, .int .i64 t272, .int .i64 t273, .int .i64 t274, .int .i64 t275, .int .i64 t276, .int .i64 t277, .int .i64 t278] 78 (0, 0)) (by exact bk BK280.out)) : gb308 ≠ gb280))
        have NB294_308 := NEc.mk ((by rw [hg]; exact Nat.ne_of_lt (blk_lt (g := gb294) (o := .cells #[.int .i64 t281, .int .i64 t282, .int .i64 t283, .int .i64 t284, .int .i64 t285, .int .i64 t286, .int .i64 t287, .int .i64 t288, .int .i64 t289, .int .i64 t290, .int .i64 t291, .int .i64 t292] 78 (0, 0)) (by exact bk BK294.out)) : gb294 ≠ gb308))
        have NB308_294 := NEc.mk ((by rw [hg]; exact Nat.ne_of_gt (blk_lt (g := gb294) (o := .cells #[.int .i64 t281, .int .i64 t282, .int .i64 t283, .int .i64 t284, .int .i64 t285, .int .i64 t286, .int .i64 t287, .int .i64 t288, .int .i64 t289, .int .i64 t290, .int .i64 t291, .int .i64 t292] 78 (0, 0)) (by exact bk BK294.out)) : gb308 ≠ gb294))
        replace HO_10 := a_ (Kd.R_below (Kd.R_elderB (by exact rk HO_10.out) gb308 (Nat.le_of_eq hg.symm)) hb)
        replace HO_65 := a_ (BR_below (by (with_reducible repeat (first | apply BR_alloc | apply BR_drewN | apply BR_drew)); exact HO_65.out) hb)
        replace BK280 := a_ (kB_ BK280.out (tr hb))
        replace BK294 := a_ (kB_ BK294.out (tr hb))
        replace HB := a_ (bT_ (by exact gs HB.out) hb)
        clear hb hbox hg
        refine hK.out _ _ ⟨(kc_ BK280.out 0).trans rfl, (kc_ BK280.out 1).trans rfl, (kc_ BK280.out 2).trans rfl, (kc_ BK280.out 3).trans rfl, (kc_ BK280.out 4).trans rfl, (kc_ BK280.out 5).trans rfl, (kc_ BK280.out 6).trans rfl, (kc_ BK280.out 7).trans rfl, (kc_ BK280.out 8).trans rfl, (kc_ BK280.out 9).trans rfl, (kc_ BK280.out 10).trans rfl, (kc_ BK280.out 11).trans rfl, (kc_ BK294.out 0).trans rfl, (kc_ BK294.out 1).trans rfl, (kc_ BK294.out 2).trans rfl, (kc_ BK294.out 3).trans rfl, (kc_ BK294.out 4).trans rfl, (kc_ BK294.out 5).trans rfl, (kc_ BK294.out 6).trans rfl, (kc_ BK294.out 7).trans rfl, (kc_ BK294.out 8).trans rfl, (kc_ BK294.out 9).trans rfl, (kc_ BK294.out 10).trans rfl, (kc_ BK294.out 11).trans rfl, HS24_, HS25_, HS26_, HS27_⟩ (fun hHeld => ?_)
        clear hK K
        refine norm_ (a' := ?_) ?_ ?_
        rotate_left
        ·show Act.put _ (some 14) _ = _
         simp only [Act.put, List.setIfInBounds_toArray, List.set_cons_zero, List.set_cons_succ, i64_w, i32_w]
         rfl
        refine one_ (i := 15) (N := some 86) #[true, true, true, true, true, true, true, true, true, true, true, true, true, true, true, true, false, true, false] rfl rfl (one_of HT_.out (by kernel_rfl)) (by decide) (fun K hK => ?_)
        refine goes_ Try.func70 (by kernel_rfl) rfl #[.agg #[.int .i64 t281, .int .i64 t282, .int .i64 t283, .int .i64 t284, .int .i64 t285, .int .i64 t286, .int .i64 t287, .int .i64 t288, .int .i64 t289, .int .i64 t290, .int .i64 t291, .int .i64 t292], .int .i64 ((rd_T100 x10_3 x11_2).f1), .int .u8 (rd t300 x67_3)] (by rfl) rfl rfl (by (try simp only [List.map_toArray, List.map_cons, List.map_nil]); first | done | rfl | (simp only [List.length_drop, List.length_take]; rfl)) ?_
        with_reducible refine (c_table_sent.calls t281 t282 t283 t284 t285 t286 t287 t288 t289 t290 t291 t292 ((rd_T100 x10_3 x11_2).f1) (rd t300 x67_3) t307 _ A53.out).mono ?_
        rintro e w60 ⟨rfl, hb⟩
        have HS24_ := (hb.cell (World.block_lt_of_cell? _ _ (hHeld.2.2.2.2.2.2.2.2.2.2.2.2.2.2.2.2.2.2.2.2.2.2.2.2.1))).trans (hHeld.2.2.2.2.2.2.2.2.2.2.2.2.2.2.2.2.2.2.2.2.2.2.2.2.1)
        have HS25_ := (hb.cell (World.block_lt_of_cell? _ _ (hHeld.2.2.2.2.2.2.2.2.2.2.2.2.2.2.2.2.2.2.2.2.2.2.2.2.2.1))).trans (hHeld.2.2.2.2.2.2.2.2.2.2.2.2.2.2.2.2.2.2.2.2.2.2.2.2.2.1)
        have HS26_ := (hb.cell (World.block_lt_of_cell? _ _ (hHeld.2.2.2.2.2.2.2.2.2.2.2.2.2.2.2.2.2.2.2.2.2.2.2.2.2.2.1))).trans (hHeld.2.2.2.2.2.2.2.2.2.2.2.2.2.2.2.2.2.2.2.2.2.2.2.2.2.2.1)
        have HS27_ := (hb.cell (World.block_lt_of_cell? _ _ (hHeld.2.2.2.2.2.2.2.2.2.2.2.2.2.2.2.2.2.2.2.2.2.2.2.2.2.2.2))).trans (hHeld.2.2.2.2.2.2.2.2.2.2.2.2.2.2.2.2.2.2.2.2.2.2.2.2.2.2.2)
        refine ⟨_, rfl, ?_⟩
        replace HO_10 := a_ (Kd.R_below HO_10.out (tr hb))
        replace HO_65 := a_ (BR_below (by (with_reducible repeat (first | apply BR_alloc | apply BR_drewN | apply BR_drew)); exact HO_65.out) hb)
        replace BK280 := a_ (kB_ BK280.out (tr hb))
        replace BK294 := a_ (kB_ BK294.out (tr hb))
        replace BK308 := a_ (kB_ BK308.out (tr hb))
        replace HB := a_ (bT_ (by exact gs HB.out) hb)
        (try clear hb)
        (try clear hb2)
        (try clear hk)
        (try clear hi)
        refine hK.out _ _ ⟨(kc_ BK280.out 0).trans rfl, (kc_ BK280.out 1).trans rfl, (kc_ BK280.out 2).trans rfl, (kc_ BK280.out 3).trans rfl, (kc_ BK280.out 4).trans rfl, (kc_ BK280.out 5).trans rfl, (kc_ BK280.out 6).trans rfl, (kc_ BK280.out 7).trans rfl, (kc_ BK280.out 8).trans rfl, (kc_ BK280.out 9).trans rfl, (kc_ BK280.out 10).trans rfl, (kc_ BK280.out 11).trans rfl, (kc_ BK294.out 0).trans rfl, (kc_ BK294.out 1).trans rfl, (kc_ BK294.out 2).trans rfl, (kc_ BK294.out 3).trans rfl, (kc_ BK294.out 4).trans rfl, (kc_ BK294.out 5).trans rfl, (kc_ BK294.out 6).trans rfl, (kc_ BK294.out 7).trans rfl, (kc_ BK294.out 8).trans rfl, (kc_ BK294.out 9).trans rfl, (kc_ BK294.out 10).trans rfl, (kc_ BK294.out 11).trans rfl, HS24_, HS25_, HS26_, HS27_⟩ (fun hHeld => ?_)
        clear hK K
        refine norm_ (a' := ?_) ?_ ?_
        rotate_left
        ·show Act.put _ (some 86) _ = _
         simp only [Act.put, List.setIfInBounds_toArray, List.set_cons_zero, List.set_cons_succ, i64_w, i32_w]
         rfl
        refine pure_ (i := 16) (N := some 87) (v := ?_) (a' := ?_) #[true, true, true, true, true, true, true, true, true, true, true, true, true, true, true, true, true, true, false] rfl rfl (any_of HT_.out (by kernel_rfl)) (fun _ _ _ h => h) (Or.inl ⟨by rfl, ?_⟩) ?_ ?_
        rotate_left
        ·intro w'
         go_simp
         with_reducible rfl
        rotate_left
        ·simp only [Act.put, List.setIfInBounds_toArray, List.set_cons_zero, List.set_cons_succ, i64_w, i32_w]
         rfl
        exact norm_ (by simp only [putAll, Act.put, List.setIfInBounds_toArray, List.set_cons_zero, List.set_cons_succ]) (hCont (gb308) _ ⟨hHeld, (by exact rk (Kd.R_mono HO_10.out (fun _ hk => hk.2))), (by (with_reducible repeat (first | apply BR_alloc | apply BR_drewN | apply BR_drew)); exact HO_65.out), (by exact bk BK280.out), (by exact bk BK294.out), (by exact bk BK308.out), GW308.out, GE308.out, NB280_308.out, NB308_280.out, NB294_308.out, NB308_294.out, (by exact gs HB.out)⟩)
      ·skip
       refine box_step ?hg (N := 14) ?hd (cs := #[.int .i64 0, .int .i64 0]) (t := 100) ?hr ?_; (case hd => rfl); (case hg => rfl); (case hr => first | (go_simp; done) | (go_simp; rfl))
       intro gb308 hg w58 hbox hb
       have HS24_ := (hb.cell (World.block_lt_of_cell? _ _ (hHeld.2.2.2.2.2.2.2.2.2.2.2.2.2.2.2.2.2.2.2.2.2.2.2.2.1))).trans (hHeld.2.2.2.2.2.2.2.2.2.2.2.2.2.2.2.2.2.2.2.2.2.2.2.2.1)
       have HS25_ := (hb.cell (World.block_lt_of_cell? _ _ (hHeld.2.2.2.2.2.2.2.2.2.2.2.2.2.2.2.2.2.2.2.2.2.2.2.2.2.1))).trans (hHeld.2.2.2.2.2.2.2.2.2.2.2.2.2.2.2.2.2.2.2.2.2.2.2.2.2.1)
       have HS26_ := (hb.cell (World.block_lt_of_cell? _ _ (hHeld.2.2.2.2.2.2.2.2.2.2.2.2.2.2.2.2.2.2.2.2.2.2.2.2.2.2.1))).trans (hHeld.2.2.2.2.2.2.2.2.2.2.2.2.2.2.2.2.2.2.2.2.2.2.2.2.2.2.1)
       have HS27_ := (hb.cell (World.block_lt_of_cell? _ _ (hHeld.2.2.2.2.2.2.2.2.2.2.2.2.2.2.2.2.2.2.2.2.2.2.2.2.2.2.2))).trans (hHeld.2.2.2.2.2.2.2.2.2.2.2.2.2.2.2.2.2.2.2.2.2.2.2.2.2.2.2)
       have BK308 := a_ (hbox)
       have GW308 := a_ ((by rw [hg]; exact (bZ_ (by exact gs HB.out)) : w.heap.size ≤ gb308))
       have GE308 := GEc.mk ((by rw [hg]; exact (bZ_ (by exact gs HB.out)) : w.heap.size ≤ gb308))
       have NB280_308 := NEc.mk ((by rw [hg]; exact Nat.ne_of_lt (blk_lt (g := gb280) (o := .cells #[.int .i64 t267, .int .i64 t268, .int .i64 t269, .int .i64 t270, .int .i64 t271, .int .i64 t272, .int .i64 t273, .int .i64 t274, .int .i64 t275, .int .i64 t276, .int .i64 t277, .int .i64 t278] 78 (0, 0)) (by exact bk BK280.out)) : gb280 ≠ gb308))
       have NB308_280 := NEc.mk ((by rw [hg]; exact Nat.ne_of_gt (blk_lt (g := gb280) (o := .cells #[.int .i64 t267, .int .i64 t268, .int .i64 t269, .int .i64 t270, .int .i64 t271, .int .i64 t272, .int .i64 t273, .int .i64 t274, .int .i64 t275, .int .i64 t276, .int .i64 t277, .int .i64 t278] 78 (0, 0)) (by exact bk BK280.out)) : gb308 ≠ gb280))
       have NB294_308 := NEc.mk ((by rw [hg]; exact Nat.ne_of_lt (blk_lt (g := gb294) (o := .cells #[.int .i64 t281, .int .i64 t282, .int .i64 t283, .int .i64 t284, .int .i64 t285, .int .i64 t286, .int .i64 t287, .int .i64 t288, .int .i64 t289, .int .i64 t290, .int .i64 t291, .int .i64 t292] 78 (0, 0)) (by exact bk BK294.out)) : gb294 ≠ gb308))
       have NB308_294 := NEc.mk ((by rw [hg]; exact Nat.ne_of_gt (blk_lt (g := gb294) (o := .cells #[.int .i64 t281, .int .i64 t282, .int .i64 t283, .int .i64 t284, .int .i64 t285, .int .i64 t286, .int .i64 t287, .int .i64 t288, .int .i64 t289, .int .i64 t290, .int .i64 t291, .int .i64 t292] 78 (0, 0)) (by exact bk BK294.out)) : gb308 ≠ gb294))
       replace HO_10 := a_ (Kd.R_below (Kd.R_elderB (by exact rk HO_10.out) gb308 (Nat.le_of_eq hg.symm)) hb)
       replace HO_65 := a_ (BR_below (by (with_reducible repeat (first | apply BR_alloc | apply BR_drewN | apply BR_drew)); exact HO_65.out) hb)
       replace BK280 := a_ (kB_ BK280.out (tr hb))
       replace BK294 := a_ (kB_ BK294.out (tr hb))
       replace HB := a_ (bT_ (by exact gs HB.out) hb)
       clear hb hbox hg
       refine hK.out _ _ ⟨(kc_ BK280.out 0).trans rfl, (kc_ BK280.out 1).trans rfl, (kc_ BK280.out 2).trans rfl, (kc_ BK280.out 3).trans rfl, (kc_ BK280.out 4).trans rfl, (kc_ BK280.out 5).trans rfl, (kc_ BK280.out 6).trans rfl, (kc_ BK280.out 7).trans rfl, (kc_ BK280.out 8).trans rfl, (kc_ BK280.out 9).trans rfl, (kc_ BK280.out 10).trans rfl, (kc_ BK280.out 11).trans rfl, (kc_ BK294.out 0).trans rfl, (kc_ BK294.out 1).trans rfl, (kc_ BK294.out 2).trans rfl, (kc_ BK294.out 3).trans rfl, (kc_ BK294.out 4).trans rfl, (kc_ BK294.out 5).trans rfl, (kc_ BK294.out 6).trans rfl, (kc_ BK294.out 7).trans rfl, (kc_ BK294.out 8).trans rfl, (kc_ BK294.out 9).trans rfl, (kc_ BK294.out 10).trans rfl, (kc_ BK294.out 11).trans rfl, HS24_, HS25_, HS26_, HS27_⟩ (fun hHeld => ?_)
       clear hK K
       refine norm_ (a' := ?_) ?_ ?_
       rotate_left
       ·show Act.put _ (some 14) _ = _
        simp only [Act.put, List.setIfInBounds_toArray, List.set_cons_zero, List.set_cons_succ, i64_w, i32_w]
        rfl
       refine one_ (i := 7) (N := some 78) #[true, true, true, true, true, true, true, true, true, true, true, true, true, true, true, false, false, true, false] rfl rfl (one_of HT_.out (by kernel_rfl)) (by decide) (fun K hK => ?_)
       refine goes_ Try.func70 (by kernel_rfl) rfl #[.agg #[.int .i64 t267, .int .i64 t268, .int .i64 t269, .int .i64 t270, .int .i64 t271, .int .i64 t272, .int .i64 t273, .int .i64 t274, .int .i64 t275, .int .i64 t276, .int .i64 t277, .int .i64 t278], .int .i64 ((rd_T100 x10_3 x11_2).f0), .int .u8 (rd t300 x67_3)] (by rfl) rfl rfl (by (try simp only [List.map_toArray, List.map_cons, List.map_nil]); first | done | rfl | (simp only [List.length_drop, List.length_take]; rfl)) ?_
       with_reducible refine (c_table_sent.calls t267 t268 t269 t270 t271 t272 t273 t274 t275 t276 t277 t278 ((rd_T100 x10_3 x11_2).f0) (rd t300 x67_3) t305 _ A52.out).mono ?_
       rintro e w59 ⟨rfl, hb⟩
       have HS24_ := (hb.cell (World.block_lt_of_cell? _ _ (hHeld.2.2.2.2.2.2.2.2.2.2.2.2.2.2.2.2.2.2.2.2.2.2.2.2.1))).trans (hHeld.2.2.2.2.2.2.2.2.2.2.2.2.2.2.2.2.2.2.2.2.2.2.2.2.1)
       have HS25_ := (hb.cell (World.block_lt_of_cell? _ _ (hHeld.2.2.2.2.2.2.2.2.2.2.2.2.2.2.2.2.2.2.2.2.2.2.2.2.2.1))).trans (hHeld.2.2.2.2.2.2.2.2.2.2.2.2.2.2.2.2.2.2.2.2.2.2.2.2.2.1)
       have HS26_ := (hb.cell (World.block_lt_of_cell? _ _ (hHeld.2.2.2.2.2.2.2.2.2.2.2.2.2.2.2.2.2.2.2.2.2.2.2.2.2.2.1))).trans (hHeld.2.2.2.2.2.2.2.2.2.2.2.2.2.2.2.2.2.2.2.2.2.2.2.2.2.2.1)
       have HS27_ := (hb.cell (World.block_lt_of_cell? _ _ (hHeld.2.2.2.2.2.2.2.2.2.2.2.2.2.2.2.2.2.2.2.2.2.2.2.2.2.2.2))).trans (hHeld.2.2.2.2.2.2.2.2.2.2.2.2.2.2.2.2.2.2.2.2.2.2.2.2.2.2.2)
       refine ⟨_, rfl, ?_⟩
       replace HO_10 := a_ (Kd.R_below HO_10.out (tr hb))
       replace HO_65 := a_ (BR_below (by (with_reducible repeat (first | apply BR_alloc | apply BR_drewN | apply BR_drew)); exact HO_65.out) hb)
       replace BK280 := a_ (kB_ BK280.out (tr hb))
       replace BK294 := a_ (kB_ BK294.out (tr hb))
       replace BK308 := a_ (kB_ BK308.out (tr hb))
       replace HB := a_ (bT_ (by exact gs HB.out) hb)
       (try clear hb)
       (try clear hb2)
       (try clear hk)
       (try clear hi)
       refine hK.out _ _ ⟨(kc_ BK280.out 0).trans rfl, (kc_ BK280.out 1).trans rfl, (kc_ BK280.out 2).trans rfl, (kc_ BK280.out 3).trans rfl, (kc_ BK280.out 4).trans rfl, (kc_ BK280.out 5).trans rfl, (kc_ BK280.out 6).trans rfl, (kc_ BK280.out 7).trans rfl, (kc_ BK280.out 8).trans rfl, (kc_ BK280.out 9).trans rfl, (kc_ BK280.out 10).trans rfl, (kc_ BK280.out 11).trans rfl, (kc_ BK294.out 0).trans rfl, (kc_ BK294.out 1).trans rfl, (kc_ BK294.out 2).trans rfl, (kc_ BK294.out 3).trans rfl, (kc_ BK294.out 4).trans rfl, (kc_ BK294.out 5).trans rfl, (kc_ BK294.out 6).trans rfl, (kc_ BK294.out 7).trans rfl, (kc_ BK294.out 8).trans rfl, (kc_ BK294.out 9).trans rfl, (kc_ BK294.out 10).trans rfl, (kc_ BK294.out 11).trans rfl, HS24_, HS25_, HS26_, HS27_⟩ (fun hHeld => ?_)
       clear hK K
       refine norm_ (a' := ?_) ?_ ?_
       rotate_left
       ·show Act.put _ (some 78) _ = _
        simp only [Act.put, List.setIfInBounds_toArray, List.set_cons_zero, List.set_cons_succ, i64_w, i32_w]
        rfl
       refine one_ (i := 15) (N := some 86) #[true, true, true, true, true, true, true, true, true, true, true, true, true, true, true, true, false, true, false] rfl rfl (one_of HT_.out (by kernel_rfl)) (by decide) (fun K hK => ?_)
       refine goes_ Try.func70 (by kernel_rfl) rfl #[.agg #[.int .i64 t281, .int .i64 t282, .int .i64 t283, .int .i64 t284, .int .i64 t285, .int .i64 t286, .int .i64 t287, .int .i64 t288, .int .i64 t289, .int .i64 t290, .int .i64 t291, .int .i64 t292], .int .i64 ((rd_T100 x10_3 x11_2).f1), .int .u8 (rd t300 x67_3)] (by rfl) rfl rfl (by (try simp only [List.map_toArray, List.map_cons, List.map_nil]); first | done | rfl | (simp only [List.length_drop, List.length_take]; rfl)) ?_
       with_reducible refine (c_table_sent.calls t281 t282 t283 t284 t285 t286 t287 t288 t289 t290 t291 t292 ((rd_T100 x10_3 x11_2).f1) (rd t300 x67_3) t307 _ A53.out).mono ?_
       rintro e w60 ⟨rfl, hb⟩
       have HS24_ := (hb.cell (World.block_lt_of_cell? _ _ (hHeld.2.2.2.2.2.2.2.2.2.2.2.2.2.2.2.2.2.2.2.2.2.2.2.2.1))).trans (hHeld.2.2.2.2.2.2.2.2.2.2.2.2.2.2.2.2.2.2.2.2.2.2.2.2.1)
       have HS25_ := (hb.cell (World.block_lt_of_cell? _ _ (hHeld.2.2.2.2.2.2.2.2.2.2.2.2.2.2.2.2.2.2.2.2.2.2.2.2.2.1))).trans (hHeld.2.2.2.2.2.2.2.2.2.2.2.2.2.2.2.2.2.2.2.2.2.2.2.2.2.1)
       have HS26_ := (hb.cell (World.block_lt_of_cell? _ _ (hHeld.2.2.2.2.2.2.2.2.2.2.2.2.2.2.2.2.2.2.2.2.2.2.2.2.2.2.1))).trans (hHeld.2.2.2.2.2.2.2.2.2.2.2.2.2.2.2.2.2.2.2.2.2.2.2.2.2.2.1)
       have HS27_ := (hb.cell (World.block_lt_of_cell? _ _ (hHeld.2.2.2.2.2.2.2.2.2.2.2.2.2.2.2.2.2.2.2.2.2.2.2.2.2.2.2))).trans (hHeld.2.2.2.2.2.2.2.2.2.2.2.2.2.2.2.2.2.2.2.2.2.2.2.2.2.2.2)
       refine ⟨_, rfl, ?_⟩
       replace HO_10 := a_ (Kd.R_below HO_10.out (tr hb))
       replace HO_65 := a_ (BR_below (by (with_reducible repeat (first | apply BR_alloc | apply BR_drewN | apply BR_drew)); exact HO_65.out) hb)
       replace BK280 := a_ (kB_ BK280.out (tr hb))
       replace BK294 := a_ (kB_ BK294.out (tr hb))
       replace BK308 := a_ (kB_ BK308.out (tr hb))
       replace HB := a_ (bT_ (by exact gs HB.out) hb)
       (try clear hb)
       (try clear hb2)
       (try clear hk)
       (try clear hi)
       refine hK.out _ _ ⟨(kc_ BK280.out 0).trans rfl, (kc_ BK280.out 1).trans rfl, (kc_ BK280.out 2).trans rfl, (kc_ BK280.out 3).trans rfl, (kc_ BK280.out 4).trans rfl, (kc_ BK280.out 5).trans rfl, (kc_ BK280.out 6).trans rfl, (kc_ BK280.out 7).trans rfl, (kc_ BK280.out 8).trans rfl, (kc_ BK280.out 9).trans rfl, (kc_ BK280.out 10).trans rfl, (kc_ BK280.out 11).trans rfl, (kc_ BK294.out 0).trans rfl, (kc_ BK294.out 1).trans rfl, (kc_ BK294.out 2).trans rfl, (kc_ BK294.out 3).trans rfl, (kc_ BK294.out 4).trans rfl, (kc_ BK294.out 5).trans rfl, (kc_ BK294.out 6).trans rfl, (kc_ BK294.out 7).trans rfl, (kc_ BK294.out 8).trans rfl, (kc_ BK294.out 9).trans rfl, (kc_ BK294.out 10).trans rfl, (kc_ BK294.out 11).trans rfl, HS24_, HS25_, HS26_, HS27_⟩ (fun hHeld => ?_)
       clear hK K
       refine norm_ (a' := ?_) ?_ ?_
       rotate_left
       ·show Act.put _ (some 86) _ = _
        simp only [Act.put, List.setIfInBounds_toArray, List.set_cons_zero, List.set_cons_succ, i64_w, i32_w]
        rfl
       refine pure_ (i := 16) (N := some 87) (v := ?_) (a' := ?_) #[true, true, true, true, true, true, true, true, true, true, true, true, true, true, true, true, true, true, false] rfl rfl (any_of HT_.out (by kernel_rfl)) (fun _ _ _ h => h) (Or.inl ⟨by rfl, ?_⟩) ?_ ?_
       rotate_left
       ·intro w'
        go_simp
        with_reducible rfl
       rotate_left
       ·simp only [Act.put, List.setIfInBounds_toArray, List.set_cons_zero, List.set_cons_succ, i64_w, i32_w]
        rfl
       exact norm_ (by simp only [putAll, Act.put, List.setIfInBounds_toArray, List.set_cons_zero, List.set_cons_succ]) (hCont (gb308) _ ⟨hHeld, (by exact rk (Kd.R_mono HO_10.out (fun _ hk => hk.2))), (by (with_reducible repeat (first | apply BR_alloc | apply BR_drewN | apply BR_drew)); exact HO_65.out), (by exact bk BK280.out), (by exact bk BK294.out), (by exact bk BK308.out), GW308.out, GE308.out, NB280_308.out, NB308_280.out, NB294_308.out, NB308_294.out, (by exact gs HB.out)⟩)
     rintro gb308 w61 ⟨hS_, h0_, h1_, h2_, h3_, h4_, h5_, h6_, h7_, h8_, h9_, h10_, h11_⟩
     have n0_ : Aside0 (Kd.R k100 100 w61 w.heap.size (fun k_ => k_ ≠ gb308) (.slice (some ad304) x10_3.length co57) x10_3) := ⟨h0_⟩
     have n1_ : Aside0 (BR w61 (.slice (some ad303) t300.length co46) t300) := ⟨h1_⟩
     have n2_ : Aside0 (w61.heap[gb280]? = some (.cells #[.int .i64 t267, .int .i64 t268, .int .i64 t269, .int .i64 t270, .int .i64 t271, .int .i64 t272, .int .i64 t273, .int .i64 t274, .int .i64 t275, .int .i64 t276, .int .i64 t277, .int .i64 t278] 78 (0, 0))) := ⟨h2_⟩
     have n3_ : Aside0 (w61.heap[gb294]? = some (.cells #[.int .i64 t281, .int .i64 t282, .int .i64 t283, .int .i64 t284, .int .i64 t285, .int .i64 t286, .int .i64 t287, .int .i64 t288, .int .i64 t289, .int .i64 t290, .int .i64 t291, .int .i64 t292] 78 (0, 0))) := ⟨h3_⟩
     have n4_ : Aside0 (w61.heap[gb308]? = some (.cells #[.int .i64 0, .int .i64 0] 100 (0, 0))) := ⟨h4_⟩
     have n5_ : Aside0 (w.heap.size ≤ gb308) := ⟨h5_⟩
     have n6_ : Aside0 (w.heap.size ≤ gb308) := ⟨h6_⟩
     have n7_ : Aside0 (gb280 ≠ gb308) := ⟨h7_⟩
     have n8_ : Aside0 (gb308 ≠ gb280) := ⟨h8_⟩
     have n9_ : Aside0 (gb294 ≠ gb308) := ⟨h9_⟩
     have n10_ : Aside0 (gb308 ≠ gb294) := ⟨h10_⟩
     have n11_ : Aside0 (Below w.heap.size w w61) := ⟨h11_⟩
     clear HO_10
     clear HO_65
     clear BK280
     clear BK294
     clear HB
     clear h0_ h1_ h2_ h3_ h4_ h5_ h6_ h7_ h8_ h9_ h10_ h11_
     have HO_10 := n0_
     have HO_65 := n1_
     have BK280 := n2_
     have BK294 := n3_
     have BK308 := n4_
     have GW308 := n5_
     have GE308 := GEc.mk n6_.out
     have NB280_308 := NEc.mk n7_.out
     have NB308_280 := NEc.mk n8_.out
     have NB294_308 := NEc.mk n9_.out
     have NB308_294 := NEc.mk n10_.out
     have HB := n11_
     clear n0_ n1_ n2_ n3_ n4_ n5_ n6_ n7_ n8_ n9_ n10_ n11_
     have hHeld : w61.cell? ⟨gb280, 0, none⟩ = some (.int .i64 t267) ∧ w61.cell? ⟨gb280, 1, none⟩ = some (.int .i64 t268) ∧ w61.cell? ⟨gb280, 2, none⟩ = some (.int .i64 t269) ∧ w61.cell? ⟨gb280, 3, none⟩ = some (.int .i64 t270) ∧ w61.cell? ⟨gb280, 4, none⟩ = some (.int .i64 t271) ∧ w61.cell? ⟨gb280, 5, none⟩ = some (.int .i64 t272) ∧ w61.cell? ⟨gb280, 6, none⟩ = some (.int .i64 t273) ∧ w61.cell? ⟨gb280, 7, none⟩ = some (.int .i64 t274) ∧ w61.cell? ⟨gb280, 8, none⟩ = some (.int .i64 t275) ∧ w61.cell? ⟨gb280, 9, none⟩ = some (.int .i64 t276) ∧ w61.cell? ⟨gb280, 10, none⟩ = some (.int .i64 t277) ∧ w61.cell? ⟨gb280, 11, none⟩ = some (.int .i64 t278) ∧ w61.cell? ⟨gb294, 0, none⟩ = some (.int .i64 t281) ∧ w61.cell? ⟨gb294, 1, none⟩ = some (.int .i64 t282) ∧ w61.cell? ⟨gb294, 2, none⟩ = some (.int .i64 t283) ∧ w61.cell? ⟨gb294, 3, none⟩ = some (.int .i64 t284) ∧ w61.cell? ⟨gb294, 4, none⟩ = some (.int .i64 t285) ∧ w61.cell? ⟨gb294, 5, none⟩ = some (.int .i64 t286) ∧ w61.cell? ⟨gb294, 6, none⟩ = some (.int .i64 t287) ∧ w61.cell? ⟨gb294, 7, none⟩ = some (.int .i64 t288) ∧ w61.cell? ⟨gb294, 8, none⟩ = some (.int .i64 t289) ∧ w61.cell? ⟨gb294, 9, none⟩ = some (.int .i64 t290) ∧ w61.cell? ⟨gb294, 10, none⟩ = some (.int .i64 t291) ∧ w61.cell? ⟨gb294, 11, none⟩ = some (.int .i64 t292) ∧ w61.cell? (ad304.add ((x11_2).toNat * 2)) = some (.int .i64 ((rd_T100 x10_3 x11_2).f0)) ∧ w61.cell? ⟨(ad304.add ((x11_2).toNat * 2)).block, (ad304.add ((x11_2).toNat * 2)).off + 1, none⟩ = some (.int .i64 ((rd_T100 x10_3 x11_2).f1)) ∧ w61.cell? (ad304.add ((x11_2).toNat * 2)) = some (.int .i64 ((rd_T100 x10_3 x11_2).f0)) ∧ w61.cell? ⟨(ad304.add ((x11_2).toNat * 2)).block, (ad304.add ((x11_2).toNat * 2)).off + 1, none⟩ = some (.int .i64 ((rd_T100 x10_3 x11_2).f1)) := hS_
     refine norm_ (a' := ?_) ?_ ?_
     rotate_left
     ·simp only [putAll, Act.put, List.setIfInBounds_toArray, List.set_cons_zero, List.set_cons_succ]
      rfl
     refine one_ (i := 18) (N := none) #[true, true, true, true, true, true, true, true, true, true, true, true, true, true, true, true, true, true, true] rfl rfl (one_of HT_.out (by kernel_rfl)) (by decide) (fun K hK => ?_)
     have hs62 : w61.cell? ⟨gb308, 0, none⟩ = some (.int .i64 0) := (kc_ BK308.out 0).trans rfl
     have hfs62 := kf_ BK308.out 0
     have hns62_0 := NB280_308.out
     have hns62_1 := NB294_308.out
     have hms62_0 := NB308_280.out
     have hms62_1 := NB308_294.out
     have hs63 : w61.cell? ⟨gb308, 1, none⟩ = some (.int .i64 0) := (kc_ BK308.out 1).trans rfl
     have hfs63 := kf_ BK308.out 1
     have hns63_0 := NB280_308.out
     have hns63_1 := NB294_308.out
     have hms63_0 := NB308_280.out
     have hms63_1 := NB308_294.out
     refine skip_ (w1 := ?_) (by rfl) rfl ?_ ?_
     rotate_left
     ·go_simp
      rfl
     refine hK.out _ _ ⟨((cell_far (p := ⟨gb308, _, none⟩) NB280_308.out _).trans (((cell_far (p := ⟨gb308, _, none⟩) NB280_308.out _).trans (hHeld.1)))), ((cell_far (p := ⟨gb308, _, none⟩) NB280_308.out _).trans (((cell_far (p := ⟨gb308, _, none⟩) NB280_308.out _).trans (hHeld.2.1)))), ((cell_far (p := ⟨gb308, _, none⟩) NB280_308.out _).trans (((cell_far (p := ⟨gb308, _, none⟩) NB280_308.out _).trans (hHeld.2.2.1)))), ((cell_far (p := ⟨gb308, _, none⟩) NB280_308.out _).trans (((cell_far (p := ⟨gb308, _, none⟩) NB280_308.out _).trans (hHeld.2.2.2.1)))), ((cell_far (p := ⟨gb308, _, none⟩) NB280_308.out _).trans (((cell_far (p := ⟨gb308, _, none⟩) NB280_308.out _).trans (hHeld.2.2.2.2.1)))), ((cell_far (p := ⟨gb308, _, none⟩) NB280_308.out _).trans (((cell_far (p := ⟨gb308, _, none⟩) NB280_308.out _).trans (hHeld.2.2.2.2.2.1)))), ((cell_far (p := ⟨gb308, _, none⟩) NB280_308.out _).trans (((cell_far (p := ⟨gb308, _, none⟩) NB280_308.out _).trans (hHeld.2.2.2.2.2.2.1)))), ((cell_far (p := ⟨gb308, _, none⟩) NB280_308.out _).trans (((cell_far (p := ⟨gb308, _, none⟩) NB280_308.out _).trans (hHeld.2.2.2.2.2.2.2.1)))), ((cell_far (p := ⟨gb308, _, none⟩) NB280_308.out _).trans (((cell_far (p := ⟨gb308, _, none⟩) NB280_308.out _).trans (hHeld.2.2.2.2.2.2.2.2.1)))), ((cell_far (p := ⟨gb308, _, none⟩) NB280_308.out _).trans (((cell_far (p := ⟨gb308, _, none⟩) NB280_308.out _).trans (hHeld.2.2.2.2.2.2.2.2.2.1)))), ((cell_far (p := ⟨gb308, _, none⟩) NB280_308.out _).trans (((cell_far (p := ⟨gb308, _, none⟩) NB280_308.out _).trans (hHeld.2.2.2.2.2.2.2.2.2.2.1)))), ((cell_far (p := ⟨gb308, _, none⟩) NB280_308.out _).trans (((cell_far (p := ⟨gb308, _, none⟩) NB280_308.out _).trans (hHeld.2.2.2.2.2.2.2.2.2.2.2.1)))), ((cell_far (p := ⟨gb308, _, none⟩) NB294_308.out _).trans (((cell_far (p := ⟨gb308, _, none⟩) NB294_308.out _).trans (hHeld.2.2.2.2.2.2.2.2.2.2.2.2.1)))), ((cell_far (p := ⟨gb308, _, none⟩) NB294_308.out _).trans (((cell_far (p := ⟨gb308, _, none⟩) NB294_308.out _).trans (hHeld.2.2.2.2.2.2.2.2.2.2.2.2.2.1)))), ((cell_far (p := ⟨gb308, _, none⟩) NB294_308.out _).trans (((cell_far (p := ⟨gb308, _, none⟩) NB294_308.out _).trans (hHeld.2.2.2.2.2.2.2.2.2.2.2.2.2.2.1)))), ((cell_far (p := ⟨gb308, _, none⟩) NB294_308.out _).trans (((cell_far (p := ⟨gb308, _, none⟩) NB294_308.out _).trans (hHeld.2.2.2.2.2.2.2.2.2.2.2.2.2.2.2.1)))), ((cell_far (p := ⟨gb308, _, none⟩) NB294_308.out _).trans (((cell_far (p := ⟨gb308, _, none⟩) NB294_308.out _).trans (hHeld.2.2.2.2.2.2.2.2.2.2.2.2.2.2.2.2.1)))), ((cell_far (p := ⟨gb308, _, none⟩) NB294_308.out _).trans (((cell_far (p := ⟨gb308, _, none⟩) NB294_308.out _).trans (hHeld.2.2.2.2.2.2.2.2.2.2.2.2.2.2.2.2.2.1)))), ((cell_far (p := ⟨gb308, _, none⟩) NB294_308.out _).trans (((cell_far (p := ⟨gb308, _, none⟩) NB294_308.out _).trans (hHeld.2.2.2.2.2.2.2.2.2.2.2.2.2.2.2.2.2.2.1)))), ((cell_far (p := ⟨gb308, _, none⟩) NB294_308.out _).trans (((cell_far (p := ⟨gb308, _, none⟩) NB294_308.out _).trans (hHeld.2.2.2.2.2.2.2.2.2.2.2.2.2.2.2.2.2.2.2.1)))), ((cell_far (p := ⟨gb308, _, none⟩) NB294_308.out _).trans (((cell_far (p := ⟨gb308, _, none⟩) NB294_308.out _).trans (hHeld.2.2.2.2.2.2.2.2.2.2.2.2.2.2.2.2.2.2.2.2.1)))), ((cell_far (p := ⟨gb308, _, none⟩) NB294_308.out _).trans (((cell_far (p := ⟨gb308, _, none⟩) NB294_308.out _).trans (hHeld.2.2.2.2.2.2.2.2.2.2.2.2.2.2.2.2.2.2.2.2.2.1)))), ((cell_far (p := ⟨gb308, _, none⟩) NB294_308.out _).trans (((cell_far (p := ⟨gb308, _, none⟩) NB294_308.out _).trans (hHeld.2.2.2.2.2.2.2.2.2.2.2.2.2.2.2.2.2.2.2.2.2.2.1)))), ((cell_far (p := ⟨gb308, _, none⟩) NB294_308.out _).trans (((cell_far (p := ⟨gb308, _, none⟩) NB294_308.out _).trans (hHeld.2.2.2.2.2.2.2.2.2.2.2.2.2.2.2.2.2.2.2.2.2.2.2.1)))), ((cell_far (p := ⟨gb308, _, none⟩) (by first | exact Kd.own_blk (Kd.R_away HO_10.out (fun _ hk => hk)) | (rw [add_block]; exact Kd.own_blk (Kd.R_away HO_10.out (fun _ hk => hk))) | (show (Addr.add _ _).block ≠ _; rw [add_block]; exact Kd.own_blk (Kd.R_away HO_10.out (fun _ hk => hk))) | (dsimp only; exact Kd.own_blk (Kd.R_away HO_10.out (fun _ hk => hk)))) _).trans (((cell_far (p := ⟨gb308, _, none⟩) (by first | exact Kd.own_blk (Kd.R_away HO_10.out (fun _ hk => hk)) | (rw [add_block]; exact Kd.own_blk (Kd.R_away HO_10.out (fun _ hk => hk))) | (show (Addr.add _ _).block ≠ _; rw [add_block]; exact Kd.own_blk (Kd.R_away HO_10.out (fun _ hk => hk))) | (dsimp only; exact Kd.own_blk (Kd.R_away HO_10.out (fun _ hk => hk)))) _).trans (hHeld.2.2.2.2.2.2.2.2.2.2.2.2.2.2.2.2.2.2.2.2.2.2.2.2.1)))), ((cell_far (p := ⟨gb308, _, none⟩) (by first | exact Kd.own_blk (Kd.R_away HO_10.out (fun _ hk => hk)) | (rw [add_block]; exact Kd.own_blk (Kd.R_away HO_10.out (fun _ hk => hk))) | (show (Addr.add _ _).block ≠ _; rw [add_block]; exact Kd.own_blk (Kd.R_away HO_10.out (fun _ hk => hk))) | (dsimp only; exact Kd.own_blk (Kd.R_away HO_10.out (fun _ hk => hk)))) _).trans (((cell_far (p := ⟨gb308, _, none⟩) (by first | exact Kd.own_blk (Kd.R_away HO_10.out (fun _ hk => hk)) | (rw [add_block]; exact Kd.own_blk (Kd.R_away HO_10.out (fun _ hk => hk))) | (show (Addr.add _ _).block ≠ _; rw [add_block]; exact Kd.own_blk (Kd.R_away HO_10.out (fun _ hk => hk))) | (dsimp only; exact Kd.own_blk (Kd.R_away HO_10.out (fun _ hk => hk)))) _).trans (hHeld.2.2.2.2.2.2.2.2.2.2.2.2.2.2.2.2.2.2.2.2.2.2.2.2.2.1)))), ((cell_far (p := ⟨gb308, _, none⟩) (by first | exact Kd.own_blk (Kd.R_away HO_10.out (fun _ hk => hk)) | (rw [add_block]; exact Kd.own_blk (Kd.R_away HO_10.out (fun _ hk => hk))) | (show (Addr.add _ _).block ≠ _; rw [add_block]; exact Kd.own_blk (Kd.R_away HO_10.out (fun _ hk => hk))) | (dsimp only; exact Kd.own_blk (Kd.R_away HO_10.out (fun _ hk => hk)))) _).trans (((cell_far (p := ⟨gb308, _, none⟩) (by first | exact Kd.own_blk (Kd.R_away HO_10.out (fun _ hk => hk)) | (rw [add_block]; exact Kd.own_blk (Kd.R_away HO_10.out (fun _ hk => hk))) | (show (Addr.add _ _).block ≠ _; rw [add_block]; exact Kd.own_blk (Kd.R_away HO_10.out (fun _ hk => hk))) | (dsimp only; exact Kd.own_blk (Kd.R_away HO_10.out (fun _ hk => hk)))) _).trans (hHeld.2.2.2.2.2.2.2.2.2.2.2.2.2.2.2.2.2.2.2.2.2.2.2.2.2.2.1)))), ((cell_far (p := ⟨gb308, _, none⟩) (by first | exact Kd.own_blk (Kd.R_away HO_10.out (fun _ hk => hk)) | (rw [add_block]; exact Kd.own_blk (Kd.R_away HO_10.out (fun _ hk => hk))) | (show (Addr.add _ _).block ≠ _; rw [add_block]; exact Kd.own_blk (Kd.R_away HO_10.out (fun _ hk => hk))) | (dsimp only; exact Kd.own_blk (Kd.R_away HO_10.out (fun _ hk => hk)))) _).trans (((cell_far (p := ⟨gb308, _, none⟩) (by first | exact Kd.own_blk (Kd.R_away HO_10.out (fun _ hk => hk)) | (rw [add_block]; exact Kd.own_blk (Kd.R_away HO_10.out (fun _ hk => hk))) | (show (Addr.add _ _).block ≠ _; rw [add_block]; exact Kd.own_blk (Kd.R_away HO_10.out (fun _ hk => hk))) | (dsimp only; exact Kd.own_blk (Kd.R_away HO_10.out (fun _ hk => hk)))) _).trans (hHeld.2.2.2.2.2.2.2.2.2.2.2.2.2.2.2.2.2.2.2.2.2.2.2.2.2.2.2))))⟩ (fun hHeld => ?_)
     clear hK K
     refine done_ (done_of HT_.out (by kernel_rfl)) ?_
     have hnb64 := NB308_280.out
     have hnc64 := NB280_308.out
     have hnb65 := NB308_294.out
     have hnc65 := NB294_308.out
     have hcz66_0 : w61.cell? ⟨gb308, 0, none⟩ = some (.int .i64 0) := (kc_ BK308.out 0).trans rfl
     have hcz66_1 : w61.cell? ⟨gb308, 1, none⟩ = some (.int .i64 0) := (kc_ BK308.out 1).trans rfl
     have hfz66_0 := kf_ BK308.out 0
     have hfz66_1 := kf_ BK308.out 1
     go_upto_if 91 with (first | ((with_reducible refine gate_callee (f := 71) rfl ?_); refine goesL_ (some 90) rfl rfl Try.func71 (by kernel_rfl) rfl #[.slice (some ad304) x10_3.length co57, .agg #[.int .i64 t305, .int .i64 t307]] rfl (by (try simp only [List.map_toArray, List.map_cons, List.map_nil]); first | done | rfl | (simp only [List.length_drop, List.length_take]; rfl)) ?_; (with_reducible refine (c_pair_71.calls k3 _ _ x10_3 t305 t307 t309 _ ?side1 ?side2 A54.out).mono ?_); (case side1 => refine (Kd.R_reads' (e := 100) (base := w.heap.size) (ok := fun k_ => k_ ≠ gb308) (n := x10_3.length) (c := co57) ?_).2.2; exact (by exact rk ((Kd.R_mono (Kd.R_far (p := ⟨gb308, 1, none⟩) (Kd.R_far (p := ⟨gb308, 0, none⟩) (Kd.R_mono HO_10.out (fun k_ hk => (⟨hk, hk⟩ : _ ∧ k_ ≠ gb308))) (fun _ hk => hk.2) (.int .i64 t305)) (fun _ hk => hk.2) (.int .i64 t307)) (fun _ h_ => h_.1))))); (case side2 => exact (Kd.R_reads' HO_10.out).2.1); rintro e w67 ⟨rfl, hb⟩; refine ⟨_, rfl, ?_⟩; replace HO_10 := a_ (Kd.R_below (by exact rk ((Kd.R_mono (Kd.R_far (p := ⟨gb308, 1, none⟩) (Kd.R_far (p := ⟨gb308, 0, none⟩) (Kd.R_mono HO_10.out (fun k_ hk => (⟨hk, hk⟩ : _ ∧ k_ ≠ gb308))) (fun _ hk => hk.2) (.int .i64 t305)) (fun _ hk => hk.2) (.int .i64 t307)) (fun _ h_ => h_.1)))) hb); replace HO_65 := a_ (BR_below (BR_far2 HO_65.out BK308.out (by decide)) hb); replace BK280 := a_ (kB_ (g := gb280) (o := .cells #[.int .i64 t267, .int .i64 t268, .int .i64 t269, .int .i64 t270, .int .i64 t271, .int .i64 t272, .int .i64 t273, .int .i64 t274, .int .i64 t275, .int .i64 t276, .int .i64 t277, .int .i64 t278] 78 (0, 0)) (by exact bk BK280.out) hb); replace BK294 := a_ (kB_ (g := gb294) (o := .cells #[.int .i64 t281, .int .i64 t282, .int .i64 t283, .int .i64 t284, .int .i64 t285, .int .i64 t286, .int .i64 t287, .int .i64 t288, .int .i64 t289, .int .i64 t290, .int .i64 t291, .int .i64 t292] 78 (0, 0)) (by exact bk BK294.out) hb); replace BK308 := a_ (kB_ (g := gb308) (o := .cells #[.int .i64 t305, .int .i64 t307] 100 (0, 0)) (by exact pb BK308.out (by rfl)) hb); replace HB := a_ (bT_ (by exact gs HB.out) hb); (try clear hb); (try clear hb2); (try clear hk); (try clear hi)))
     (try simp only [Act.put, List.setIfInBounds_toArray, List.set_cons_zero, List.set_cons_succ])
     ·have H := HC55.out
      clear HC55
      by_cases c68 : t309 = true
      ·subst c68
       have H1 := H; rw [if_pos rfl] at H1
       clear H
       have H := H1
       clear H1
       obtain ⟨kj54, hkj_⟩ : ∃ r, k3 = r + 1 := by
        cases k3 with
        | zero => exact absurd H (by simp [c_Meet.j3])
        | succ r => exact ⟨r, rfl⟩
       rw [hkj_] at H
       simp only [c_Meet.j3] at H
       have HJ54 := a_ (show kj54 + 1 ≤ k3 from Nat.le_of_eq hkj_.symm)
       clear hkj_
       have H' := a_ H
       clear H
       go_wp2
       go_roundg kj54
       case measure => have := HJ4.out; have := HK2.out; have := HK3.out; have := HJ54.out; omega
       case rel => exact ⟨(x10_3), (wrap64 (x67_3 + 1)), (by first | rfl | (simp; done) | (simp [*]; done)), H', ⟨by have := HJ4.out; have := HK2.out; have := HK3.out; have := HJ54.out; omega⟩, ⟨by exact rk (Kd.R_mono HO_10.out (fun _ hk => trivial))⟩, ⟨by (with_reducible repeat (first | apply BR_alloc | apply BR_drewN | apply BR_drew)); exact HO_65.out⟩, ⟨by exact bk BK280.out⟩, ⟨by exact bk BK294.out⟩, ⟨by exact gs HB.out⟩⟩
      replace c68 := Bool.eq_false_iff.mpr c68
      subst c68
      have H1 := H; rw [if_neg (show ¬ (false = true) by decide)] at H1
      clear H
      have H := H1
      clear H1
      by_cases c69 : x10_3.length < 8796093022208
      rotate_left
      ·rw [if_neg c69] at H
       exact absurd H (by simp)
      rw [if_pos c69] at H
      have LMc69 := a_ c69
      clear c69
      obtain ⟨y310, hy310⟩ : ∃ y_ : List (S100), y_ = (x10_3 ++ [(⟨t305, t307⟩ : S100)]) := ⟨_, rfl⟩
      replace H : (c_Meet.j3 k3 y310 x11_2 t300 (t300.length : Int) x67_3 t267 t268 t269 t270 t271 t272 t273 t274 t275 t276 t277 t278 t281 t282 t283 t284 t285 t286 t287 t288 t289 t290 t291 t292) = some (r1, r2) := by first | (rw [hy310]; with_reducible exact H) | (have H2_ := (Option.bind_some _ _).symm.trans H; rw [hy310]; with_reducible exact H2_) | (have H2_ := (Option.bind_some _ _).symm.trans H; with_reducible exact H2_) | with_reducible exact H | (rw [hy310]; exact H) | exact H
      have Ny310 := a_ hy310
      clear hy310
      obtain ⟨kj54, hkj_⟩ : ∃ r, k3 = r + 1 := by
       cases k3 with
       | zero => exact absurd H (by simp [c_Meet.j3])
       | succ r => exact ⟨r, rfl⟩
      rw [hkj_] at H
      simp only [c_Meet.j3] at H
      have HJ54 := a_ (show kj54 + 1 ≤ k3 from Nat.le_of_eq hkj_.symm)
      clear hkj_
      have H' := a_ H
      clear H
      have hnb70 := NB308_280.out
      have hnc70 := NB280_308.out
      have hnb71 := NB308_294.out
      have hnc71 := NB294_308.out
      have hcz72_0 : w67.cell? ⟨gb308, 0, none⟩ = some (.int .i64 t305) := (kc_ BK308.out 0).trans rfl
      have hcz72_1 : w67.cell? ⟨gb308, 1, none⟩ = some (.int .i64 t307) := (kc_ BK308.out 1).trans rfl
      have hfz72_0 := kf_ BK308.out 0
      have hfz72_1 := kf_ BK308.out 1
      go_wp2_with (first | ((with_reducible refine gate_builtin (b := .append) (xs := #[.tmp 92, .tmp 94]) rfl ?_); at_builtin; refine Kd.R_append k100 (w0 := w) w.heap.size rfl (.tmp 92) (.tmp 94) 101 100 (.agg #[(.int .i64 0), (.int .i64 0)]) 16 rfl Try.underlying101 info100 rfl (by decide) (by omega) (.slice (some ad304) x10_3.length co57) x10_3 (⟨t305, t307⟩ : S100) [.int .i64 t305, .int .i64 t307] (fun k_ => k_ ≠ gb308) (fun _ => False) rfl rfl ?aP (fun _ hk => hk.elim) ?aF ?aO ?aB ?aS ?aL ?_; (case aP => exact k100_mkM _ _ _ (⟨t305, t307⟩ : S100)); (case aB => exact (by exact gs HB.out)); (case aF => exact (fun k_ hk => Kd.freshB (g := gb308) (o := .cells #[.int .i64 t305, .int .i64 t307] 100 (0, 0)) (by exact bk BK308.out) k_ hk)); (case aO => exact (by exact rk HO_10.out)); (case aS => exact (bZ_ (by exact gs HB.out))); (case aL => have := LMc69.out; omega); intro v311 w73 ho hb hg hat; rw [← Ny310.out] at ho; have HO312 := a_ (ho); replace HO_65 := a_ (BR_over (by (with_reducible repeat (first | apply BR_alloc | apply BR_drewN | apply BR_drew)); exact HO_65.out) (Kd.R_typed (by exact rk HO_10.out)) (by decide) hg); replace BK280 := a_ (blk_grown (g := gb280) (o := .cells #[.int .i64 t267, .int .i64 t268, .int .i64 t269, .int .i64 t270, .int .i64 t271, .int .i64 t272, .int .i64 t273, .int .i64 t274, .int .i64 t275, .int .i64 t276, .int .i64 t277, .int .i64 t278] 78 (0, 0)) (by exact bk BK280.out) hg (Kd.R_ne HO_10.out BK280.out (by decide))); replace BK294 := a_ (blk_grown (g := gb294) (o := .cells #[.int .i64 t281, .int .i64 t282, .int .i64 t283, .int .i64 t284, .int .i64 t285, .int .i64 t286, .int .i64 t287, .int .i64 t288, .int .i64 t289, .int .i64 t290, .int .i64 t291, .int .i64 t292] 78 (0, 0)) (by exact bk BK294.out) hg (Kd.R_ne HO_10.out BK294.out (by decide))); replace BK308 := a_ (blk_grown (g := gb308) (o := .cells #[.int .i64 t305, .int .i64 t307] 100 (0, 0)) (by exact bk BK308.out) hg (Kd.R_away HO_10.out (fun _ hk => hk))); replace HB := a_ (hb); clear HO_10; clear ho hb hg hat))
      go_roundg kj54
      case measure => have := HJ4.out; have := HK2.out; have := HK3.out; have := HJ54.out; omega
      case rel => exact ⟨(y310), (wrap64 (x67_3 + 1)), (by first | rfl | (simp; done) | (simp [*]; done)), H', ⟨by have := HJ4.out; have := HK2.out; have := HK3.out; have := HJ54.out; omega⟩, ⟨by exact rk (Kd.R_mono HO312.out (fun _ hk => trivial))⟩, ⟨by (with_reducible repeat (first | apply BR_alloc | apply BR_drewN | apply BR_drew)); exact HO_65.out⟩, ⟨by exact bk BK280.out⟩, ⟨by exact bk BK294.out⟩, ⟨by exact gs HB.out⟩⟩
def rr_letters.f (a0 : Int) : Option (ByteArray) := if 0 ≤ (wrap64 (2 * a0)) then (if (wrap64 (2 * a0)) ≤ 4 then (some ((⟨#[97, 65, 98, 66]⟩ : ByteArray).extract 0 ((wrap64 (2 * a0)) : Int).toNat)) else (none)) else (none)
theorem rr_letters.calls (a0 : Int) (r : ByteArray) (w : World) (h : rr_letters.f a0 = some r) :
  Calls Try.prog 73 #[.int .i64 a0] w fun e w' => e = .returned (.string r) ∧ Drawn0 w w' := by
 have H : (if 0 ≤ (wrap64 (2 * a0)) then (if (wrap64 (2 * a0)) ≤ 4 then (some ((⟨#[97, 65, 98, 66]⟩ : ByteArray).extract 0 ((wrap64 (2 * a0)) : Int).toNat)) else (none)) else (none)) = some r := h
 clear h
 obtain ⟨ji2, hji2⟩ : ∃ j_ : Int, (wrap64 (2 * a0)) = j_ := ⟨_, rfl⟩
 replace H : (if 0 ≤ (ji2) then (if (ji2) ≤ 4 then (some ((⟨#[97, 65, 98, 66]⟩ : ByteArray).extract 0 ((ji2) : Int).toNat)) else (none)) else (none)) = some r := by first | (rw [hji2] at H; exact H) | (simp only [hji2] at H ⊢; exact H)
 have hji2w : (IntKind.i64.wrap (2 * a0)) = ji2 := (i64_w _).trans hji2
 by_cases c3 : 0 ≤ (ji2)
 rotate_left
 ·rw [if_neg c3] at H
  exact absurd H (by simp)
 rw [if_pos c3] at H
 have c3b0 := eq_true c3
 have c3b1 : decide (0 ≤ (ji2)) = true := decide_eq_true c3
 clear c3
 by_cases c4 : (ji2) ≤ 4
 rotate_left
 ·rw [if_neg c4] at H
  exact absurd H (by simp)
 rw [if_pos c4] at H
 have c4b0 := eq_true c4
 have c4b1 : decide ((ji2) ≤ 4) = true := decide_eq_true c4
 clear c4
 obtain rfl := Option.some.inj H
 go_enter Try.func73, Try.ntmps73
 go_wp2
 go_ret
 exact ⟨by first | rfl | (simp; done) | (simp only [← hji2] <;> (first | rfl | simp)) | (simp [*]; done), by repeat (first | exact Drawn0.refl _ | apply Drawn0.step)⟩
mutual
def rr_numbering.l0 : Nat → List (List Int) → List Int → List ByteArray → ByteArray → Int → Option (List Int × List ByteArray)
 | 0, _, _, _, _, _ => none
 | k + 1, x0, x6, x7, x8, x9 => if x9 < (x6.length : Int) then (rr_numbering.l1 k x0 x6 x7 x8 x9 0) else (some (x6, x7))
def rr_numbering.l1 : Nat → List (List Int) → List Int → List ByteArray → ByteArray → Int → Int → Option (List Int × List ByteArray)
 | 0, _, _, _, _, _, _ => none
 | k + 1, x0, x6, x7, x8, x9, x10 => if x10 < (x8.size : Int) then (if 0 ≤ x9 then (if x9 < (x6.length : Int) then (if 0 ≤ x10 then ((rr_step.f k x0 (rd x6 x9) (bt x8 x10)).bind fun t116 => (rr_numbering.l2 k x0 x6 x7 x8 x9 x10 t116 false 0)) else (none)) else (none)) else (none)) else (rr_numbering.l0 k x0 x6 x7 x8 (wrap64 (x9 + 1)))
def rr_numbering.l2 : Nat → List (List Int) → List Int → List ByteArray → ByteArray → Int → Int → Int → Bool → Int → Option (List Int × List ByteArray)
 | 0, _, _, _, _, _, _, _, _, _ => none
 | k + 1, x0, x6, x7, x8, x9, x10, x11, x12, x13 => if x13 < (x6.length : Int) then (if x12 = true then (rr_numbering.l2 k x0 x6 x7 x8 x9 x10 x11 true (wrap64 (x13 + 1))) else (if 0 ≤ x13 then (rr_numbering.l2 k x0 x6 x7 x8 x9 x10 x11 ((rd x6 x13) == x11) (wrap64 (x13 + 1))) else (none))) else (if x12 = true then (rr_numbering.l1 k x0 x6 x7 x8 x9 (wrap64 (x10 + 1))) else (if x6.length < 17592186044416 then (if 0 ≤ x9 then (if x9 < (x7.length : Int) then (if 0 ≤ x10 then (if x10 ≤ (wrap64 (x10 + 1)) then (if (wrap64 (x10 + 1)) ≤ (x8.size : Int) then (if (rdOf ByteArray.empty x7 x9).size + (x8.extract (x10 : Int).toNat ((wrap64 (x10 + 1)) : Int).toNat).size ≤ 9223372036854775807 then (if x7.length < 8796093022208 then (rr_numbering.l1 k x0 (x6 ++ [x11]) (x7 ++ [(rdOf ByteArray.empty x7 x9) ++ (x8.extract (x10 : Int).toNat ((wrap64 (x10 + 1)) : Int).toNat)]) x8 x9 (wrap64 (x10 + 1))) else (none)) else (none)) else (none)) else (none)) else (none)) else (none)) else (none)) else (none)))
end
def rr_numbering.f (k : Nat) (l0 : List (List Int)) (a1 : Int) : Option (List Int × List ByteArray) := (rr_letters.f (l0.length : Int)).bind fun t114 => (rr_numbering.l0 k l0 (([a1] : List Int)) (([(⟨#[]⟩ : ByteArray)] : List ByteArray)) t114 0)
def rr_numbering.T10 : Bool × List (List Nat × List Nat) := (true, [([], []), ([], []), ([], []), ([1, 2], [1, 2]), ([3], [3]), ([], []), ([], []), ([5, 6], [5, 6]), ([0, 4, 7], [0, 4, 7]), ([8, 8, 0, 1, 2, 3, 4, 5, 6, 7, 8], [8])])
def rr_numbering.B10 : List Nat := [0, 0, 0, 6, 14, 0, 0, 96, 255, 511]
theorem rr_numbering.tab10 : rtab .any (opsOf Try.f67 10) = rr_numbering.T10 := by kernel_rfl
theorem rr_numbering.bits10 : waitsOk rr_numbering.T10.2 rr_numbering.B10 = true := by kernel_rfl
def rr_numbering.T18 : Bool × List (List Nat × List Nat) := (true, [([], []), ([], []), ([], []), ([1, 2], [1, 2]), ([3], [3]), ([], []), ([], []), ([], []), ([7], [7]), ([5, 6, 8], [5, 6, 8]), ([4, 9], [4, 9]), ([10], [10]), ([0, 11], [0, 11]), ([12, 12, 0, 1, 2, 3, 4, 5, 6, 7, 8, 9, 10, 11, 12], [0, 1, 12])])
def rr_numbering.B18 : List Nat := [0, 0, 0, 6, 14, 0, 0, 0, 128, 480, 1022, 2046, 4095, 8191]
theorem rr_numbering.tab18 : rtab .any (opsOf Try.f67 18) = rr_numbering.T18 := by kernel_rfl
theorem rr_numbering.bits18 : waitsOk rr_numbering.T18.2 rr_numbering.B18 = true := by kernel_rfl
theorem rr_numbering.calls (k : Nat) (A0 : Option Addr) (c0 : Nat) (l0 : List (List Int)) (a1 : Int) (r1 : List Int) (r2 : List ByteArray) (w : World) (hr0 : Kd.C (Kd.slice 3 (Kd.int .i64)) w A0 l0.length l0) (hc0 : l0.length ≤ c0) (h : rr_numbering.f k l0 a1 = some (r1, r2)) :
  Calls Try.prog 67 #[.slice A0 l0.length c0, .int .i64 a1] w fun e w' => ∃ v0_ v1_ : Value, e = .returned (.tuple #[v0_, v1_]) ∧ Kd.R (Kd.int .i64) 3 w' w.heap.size (fun _ => True) v0_ r1 ∧ Kd.R Kd.string 9 w' w.heap.size (fun _ => True) v1_ r2 ∧ Below w.heap.size w w' := by
 have HR0 := a_ hr0
 have HC0 := a_ hc0
 clear hr0 hc0
 have HB := a_ (Below.refl w.heap.size w)
 have H : ((rr_letters.f (l0.length : Int)).bind fun t114 => (rr_numbering.l0 k l0 (([a1] : List Int)) (([(⟨#[]⟩ : ByteArray)] : List ByteArray)) t114 0)) = some (r1, r2) := h
 clear h
 obtain ⟨y108, hy108⟩ : ∃ y_ : List Int, y_ = (([a1] : List Int)) := ⟨_, rfl⟩
 replace H : ((rr_letters.f (l0.length : Int)).bind fun t114 => (rr_numbering.l0 k l0 y108 (([(⟨#[]⟩ : ByteArray)] : List ByteArray)) t114 0)) = some (r1, r2) := by first | (rw [hy108]; with_reducible exact H) | (have H2_ := (Option.bind_some _ _).symm.trans H; rw [hy108]; with_reducible exact H2_) | (have H2_ := (Option.bind_some _ _).symm.trans H; with_reducible exact H2_) | with_reducible exact H | (rw [hy108]; exact H) | exact H
 have Ny108 := a_ hy108
 clear hy108
 obtain ⟨y111, hy111⟩ : ∃ y_ : List ByteArray, y_ = (([(⟨#[]⟩ : ByteArray)] : List ByteArray)) := ⟨_, rfl⟩
 replace H : ((rr_letters.f (l0.length : Int)).bind fun t114 => (rr_numbering.l0 k l0 y108 y111 t114 0)) = some (r1, r2) := by first | (rw [hy111]; with_reducible exact H) | (have H2_ := (Option.bind_some _ _).symm.trans H; rw [hy111]; with_reducible exact H2_) | (have H2_ := (Option.bind_some _ _).symm.trans H; with_reducible exact H2_) | with_reducible exact H | (rw [hy111]; exact H) | exact H
 have Ny111 := a_ hy111
 clear hy111
 replace H := Option.bind_eq_some_iff.mp H
 obtain ⟨t114, A30, H⟩ := H
 try dsimp only at H
 have A3 := a_ A30
 clear A30
 have H' := a_ H
 clear H
 go_enter Try.func67, Try.ntmps67
 go_wp2_with (first | ((with_reducible refine gate_dst (N := 15) rfl ?_); refine Kd.R_lit (Kd.int .i64) _ 3 ?hg (N := 15) ?hd (xs := ([a1] : List Int)) (inner := [.int .i64 a1]) (ok := fun _ => True) (okp := fun _ => True) ?hr ?hp (fun _ hk => hk) trivial (Below.refl _ _) (Nat.le_refl _) (by simp) ?_; (case hd => rfl); (case hg => rfl); (case hr => first | (go_simp; done) | (go_simp; rfl)); (case hp => exact (Reps.one (show Kd.M (Kd.int .i64) _ _ _ a1 [.int .i64 a1] from rfl) (Reps.none _ _))); intro v109 w4 ho5 hb hg_ hnew_; clear hg_ hnew_; (first | rw [← Ny108.out] at ho5 | (simp only [Int.reduceToNat] at ho5; rw [← Ny108.out] at ho5)); have HO110 := a_ (Kd.R_lower ho5 (bZ_ (gr HB.out))); replace HB := a_ (bT_ HB.out (tr hb)); clear hb ho5) | ((with_reducible refine gate_dst (N := 16) rfl ?_); refine Kd.R_lit Kd.string _ 9 ?hg (N := 16) ?hd (xs := ([(⟨#[]⟩ : ByteArray)] : List ByteArray)) (inner := [.string (⟨#[]⟩ : ByteArray)]) (ok := fun _ => True) (okp := fun _ => True) ?hr ?hp (fun _ hk => hk) trivial (Below.refl _ _) (Nat.le_refl _) (by simp) ?_; (case hd => rfl); (case hg => rfl); (case hr => first | (go_simp; done) | (go_simp; rfl)); (case hp => exact (Reps.one (show Kd.M Kd.string _ _ _ (⟨#[]⟩ : ByteArray) [.string (⟨#[]⟩ : ByteArray)] from rfl) (Reps.none _ _))); intro v112 w6 ho7 hb hg_ hnew_; clear hg_ hnew_; (first | rw [← Ny111.out] at ho7 | (simp only [Int.reduceToNat] at ho7; rw [← Ny111.out] at ho7)); have HO113 := a_ (Kd.R_lower ho7 (bZ_ (gr HB.out))); replace HO110 := a_ (Kd.R_below HO110.out (tr hb)); replace HB := a_ (bT_ HB.out (tr hb)); clear hb ho7) | ((with_reducible refine gate_callee (f := 73) rfl ?_); refine goesL_ (some 19) rfl rfl Try.func73 (by kernel_rfl) rfl #[.int .i64 (l0.length : Int)] rfl (by (try simp only [List.map_toArray, List.map_cons, List.map_nil]); first | done | rfl | (simp only [List.length_drop, List.length_take]; rfl)) ?_; (with_reducible refine (rr_letters.calls (l0.length : Int) t114 _ A3.out).mono ?_); rintro e w' ⟨rfl, ⟨nd, rfl⟩⟩; refine ⟨_, rfl, ?_⟩))
 go_loopg [6, 7, 9] k (fun kq v6 v7 v9 w' => ∃ (x6_1 : List Int) (x7_1 : List ByteArray) (x9_1 : Int), v9 = .int .i64 x9_1 ∧ Aside0 (rr_numbering.l0 kq l0 x6_1 x7_1 t114 x9_1 = some (r1, r2)) ∧ Aside0 (kq ≤ k) ∧ Aside0 (Kd.R (Kd.int .i64) 3 w' w.heap.size (fun _ => True) v6 x6_1) ∧ Aside0 (Kd.R Kd.string 9 w' w.heap.size (fun _ => True) v7 x7_1) ∧ Aside0 (Below w.heap.size w w'))
 case atStart => exact ⟨(y108), (y111), (0), (by first | rfl | (simp; done) | (simp [*]; done)), H', ⟨Nat.le_refl _⟩, ⟨by exact rk HO110.out⟩, ⟨by exact rk HO113.out⟩, ⟨by exact gs HB.out⟩⟩
 clear H'
 try clear p2
 try clear c6
 try clear c7
 obtain ⟨x6_1, x7_1, x9_1, rfl, HA, HK1, HO_6, HO_7, HB⟩ := hrel
 cases gk with
 | zero => exact absurd HA.out (by simp [rr_numbering.l0])
 | succ k1 =>
  have H := HA.out
  clear HA
  simp only [rr_numbering.l0] at H
  by_cases c8 : x9_1 < (x6_1.length : Int)
  rotate_left
  ·rw [if_neg c8] at H
   have c8b0 : decide (x9_1 < (x6_1.length : Int)) = false := decide_eq_false c8
   clear c8
   simp only [Option.some.injEq, Prod.mk.injEq] at H
   obtain ⟨rfl, rfl⟩ := H
   obtain ⟨Ao34, co34, eo34⟩ := Kd.R_slice HO_6.out
   subst eo34
   go_wp2
   go_ret2
   exact ⟨_, _, by first | rfl | (simp [errW_none, errW_some] <;> rfl) | (simp [*, errW_none, errW_some] <;> rfl), by exact rk HO_6.out, by exact rk HO_7.out, by exact gs HB.out⟩
  rw [if_pos c8] at H
  have c8b0 : decide (x9_1 < (x6_1.length : Int)) = true := decide_eq_true c8
  clear c8
  have H' := a_ H
  clear H
  obtain ⟨Ao9, co9, eo9⟩ := Kd.R_slice HO_6.out
  subst eo9
  go_wp2
  go_loopg [6, 7, 10] k1 (fun kq v6 v7 v10 w' => ∃ (x6_2 : List Int) (x7_2 : List ByteArray) (x10_2 : Int), v10 = .int .i64 x10_2 ∧ Aside0 (rr_numbering.l1 kq l0 x6_2 x7_2 t114 x9_1 x10_2 = some (r1, r2)) ∧ Aside0 (kq ≤ k1) ∧ Aside0 (Kd.R (Kd.int .i64) 3 w' w.heap.size (fun _ => True) v6 x6_2) ∧ Aside0 (Kd.R Kd.string 9 w' w.heap.size (fun _ => True) v7 x7_2) ∧ Aside0 (Below w.heap.size w w'))
  case atStart => exact ⟨(x6_1), (x7_1), (0), (by first | rfl | (simp; done) | (simp [*]; done)), H', ⟨Nat.le_refl _⟩, ⟨by exact rk HO_6.out⟩, ⟨by exact rk HO_7.out⟩, ⟨by exact gs HB.out⟩⟩
  clear H'
  try clear p2
  try clear c6
  try clear c7
  try clear c8
  try clear c8b0
  try clear p2
  obtain ⟨x6_2, x7_2, x10_2, rfl, HA, HK2, HO_6, HO_7, HB⟩ := hrel
  cases gk with
  | zero => exact absurd HA.out (by simp [rr_numbering.l1])
  | succ k2 =>
   have H := HA.out
   clear HA
   simp only [rr_numbering.l1] at H
   by_cases c10 : x10_2 < (t114.size : Int)
   rotate_left
   ·rw [if_neg c10] at H
    have c10b0 : decide (x10_2 < (t114.size : Int)) = false := decide_eq_false c10
    clear c10
    have H' := a_ H
    clear H
    go_wp2
    go_roundg k2
    case measure => have := HK1.out; have := HK2.out; omega
    case rel => exact ⟨(x6_2), (x7_2), (wrap64 (x9_1 + 1)), (by first | rfl | (simp; done) | (simp [*]; done)), H', ⟨by have := HK1.out; have := HK2.out; omega⟩, ⟨by exact rk HO_6.out⟩, ⟨by exact rk HO_7.out⟩, ⟨by exact gs HB.out⟩⟩
   rw [if_pos c10] at H
   have c10b0 : decide (x10_2 < (t114.size : Int)) = true := decide_eq_true c10
   clear c10
   by_cases c11 : 0 ≤ x9_1
   rotate_left
   ·rw [if_neg c11] at H
    exact absurd H (by simp)
   rw [if_pos c11] at H
   have c11b0 : decide (0 ≤ x9_1) = true := decide_eq_true c11
   clear c11
   by_cases c12 : x9_1 < (x6_2.length : Int)
   rotate_left
   ·rw [if_neg c12] at H
    exact absurd H (by simp)
   rw [if_pos c12] at H
   have c12b0 : decide (x9_1 < (x6_2.length : Int)) = true := decide_eq_true c12
   clear c12
   by_cases c13 : 0 ≤ x10_2
   rotate_left
   ·rw [if_neg c13] at H
    exact absurd H (by simp)
   rw [if_pos c13] at H
   have c13b0 : decide (0 ≤ x10_2) = true := decide_eq_true c13
   clear c13
   replace H := Option.bind_eq_some_iff.mp H
   obtain ⟨t116, A150, H⟩ := H
   try dsimp only at H
   have A15 := a_ A150
   clear A150
   have H' := a_ H
   clear H
   try go_wp2
   replace HO_6 := a_ (Kd.R_drew HO_6.out)
   replace HO_7 := a_ (Kd.R_drew HO_7.out)
   replace HB := a_ (b1_ HB.out)
   obtain ⟨Ao17, co17, eo17⟩ := Kd.R_slice HO_6.out
   (first | subst eo17 | (injection eo17 with f1_ f2_ f3_; have f4_ := f1_.symm; have f5_ := f3_.symm; clear f1_ f2_ f3_; subst f4_; subst f5_))
   have p115 : 0 ≤ (x9_1 : Int) := of_decide_eq_true (by first | (with_reducible assumption) | assumption)
   have q115 : x9_1 < (x6_2.length : Int) := of_decide_eq_true (by first | (with_reducible assumption) | assumption)
   obtain ⟨ad115, e115, hx115_0⟩ := Kd.at_int (Kd.R_reads' HO_6.out).2.2 x9_1 p115 q115
   cases e115
   replace p115 := eq_true p115
   replace q115 := eq_true q115
   have p14 : 0 ≤ (x10_2 : Int) := of_decide_eq_true (by first | (with_reducible assumption) | assumption)
   have q14 : x10_2 < (t114.size : Int) := of_decide_eq_true (by first | (with_reducible assumption) | assumption)
   have hx14 := bt_at t114 x10_2
   replace p14 := eq_true p14
   replace q14 := eq_true q14
   refine start_ (n := 10) (S := fun w' => w'.cell? (ad115.add (x9_1).toNat) = some (.int .i64 (rd x6_2 x9_1))) (ds := []) #[false, false, false, false, false, false, false, false, false, false] (by kernel_rfl) rfl rfl (hx115_0) (fun hHeld => ?_); refine with_tabW rr_numbering.tab10 rr_numbering.bits10 (fun HT_ HW_ => ?_)
   generalize wr.drew = w16 at HO_6 HO_7 HB hx115_0 hHeld ⊢
   refine pure_ (i := 0) (N := some 32) (v := ?_) (a' := ?_) #[true, false, false, false, false, false, false, false, false, false] rfl rfl (any_of HT_.out (by kernel_rfl)) (fun _ _ _ h => h) (Or.inl ⟨by rfl, ?_⟩) ?_ ?_
   rotate_left
   ·intro w'
    go_simp
    with_reducible rfl
   rotate_left
   ·simp only [Act.put, List.setIfInBounds_toArray, List.set_cons_zero, List.set_cons_succ, i64_w, i32_w]
    rfl
   refine pure_ (i := 1) (N := some 33) (v := ?_) (a' := ?_) #[true, true, false, false, false, false, false, false, false, false] rfl rfl (any_of HT_.out (by kernel_rfl)) (fun _ _ _ h => h) (Or.inl ⟨by rfl, ?_⟩) ?_ ?_
   rotate_left
   ·intro w'
    go_simp
    with_reducible rfl
   rotate_left
   ·simp only [Act.put, List.setIfInBounds_toArray, List.set_cons_zero, List.set_cons_succ, i64_w, i32_w]
    rfl
   refine pure_ (i := 2) (N := some 34) (v := ?_) (a' := ?_) #[true, true, true, false, false, false, false, false, false, false] rfl rfl (any_of HT_.out (by kernel_rfl)) (fun _ _ _ h => h) (Or.inl ⟨by rfl, ?_⟩) ?_ ?_
   rotate_left
   ·intro w'
    go_simp
    with_reducible rfl
   rotate_left
   ·simp only [Act.put, List.setIfInBounds_toArray, List.set_cons_zero, List.set_cons_succ, i64_w, i32_w]
    rfl
   refine pure_ (i := 3) (N := some 35) (v := ?_) (a' := ?_) #[true, true, true, true, false, false, false, false, false, false] rfl rfl (any_of HT_.out (by kernel_rfl)) (fun _ _ _ h => h) (Or.inl ⟨by rfl, ?_⟩) ?_ ?_
   rotate_left
   ·intro w'
    go_simp
    with_reducible rfl
   rotate_left
   ·simp only [Act.put, List.setIfInBounds_toArray, List.set_cons_zero, List.set_cons_succ, i64_w, i32_w]
    rfl
   refine pure_ (i := 5) (N := some 37) (v := ?_) (a' := ?_) #[true, true, true, true, false, true, false, false, false, false] rfl rfl (any_of HT_.out (by kernel_rfl)) (fun _ _ _ h => h) (Or.inl ⟨by rfl, ?_⟩) ?_ ?_
   rotate_left
   ·intro w'
    go_simp
    with_reducible rfl
   rotate_left
   ·simp only [Act.put, List.setIfInBounds_toArray, List.set_cons_zero, List.set_cons_succ, i64_w, i32_w]
    rfl
   refine pure_ (i := 6) (N := some 38) (v := ?_) (a' := ?_) #[true, true, true, true, false, true, true, false, false, false] rfl rfl (any_of HT_.out (by kernel_rfl)) (fun _ _ _ h => h) (Or.inl ⟨by rfl, ?_⟩) ?_ ?_
   rotate_left
   ·intro w'
    go_simp
    with_reducible rfl
   rotate_left
   ·simp only [Act.put, List.setIfInBounds_toArray, List.set_cons_zero, List.set_cons_succ, i64_w, i32_w]
    rfl
   refine take_ (i := 4) (N := some 36) (v := ?_) (a' := ?_) #[true, true, true, true, true, true, true, false, false, false] rfl rfl (take_ofW HT_.out HW_.out (by kernel_rfl)) (fun _ _ _ h => h) (Or.inl ⟨by rfl, ?_⟩) hHeld ?_ ?_
   rotate_left
   ·intro w' s0
    go_simp
    with_reducible rfl
   rotate_left
   ·simp only [Act.put, List.setIfInBounds_toArray, List.set_cons_zero, List.set_cons_succ, i64_w, i32_w]
    rfl
   refine take_ (i := 7) (N := some 39) (v := ?_) (a' := ?_) #[true, true, true, true, true, true, true, true, false, false] rfl rfl (take_ofW HT_.out HW_.out (by kernel_rfl)) (fun _ _ _ h => h) (Or.inl ⟨by rfl, ?_⟩) hHeld ?_ ?_
   rotate_left
   ·intro w' s0
    go_simp
    with_reducible rfl
   rotate_left
   ·simp only [Act.put, List.setIfInBounds_toArray, List.set_cons_zero, List.set_cons_succ, i64_w, i32_w]
    rfl
   refine one_ (i := 8) (N := some 40) #[true, true, true, true, true, true, true, true, true, false] rfl rfl (one_of HT_.out (by kernel_rfl)) (by decide) (fun K hK => ?_)
   refine goes_ Try.func58 (by kernel_rfl) rfl #[.slice A0 l0.length c0, .int .i64 (rd x6_2 x9_1), .int .u8 (bt t114 x10_2)] (by rfl) rfl rfl (by (try simp only [List.map_toArray, List.map_cons, List.map_nil]); first | done | rfl | (simp only [List.length_drop, List.length_take]; rfl)) ?_
   with_reducible refine (rr_step.calls k2 _ _ l0 (rd x6_2 x9_1) (bt t114 x10_2) t116 _ ?side1 ?side2 A15.out).mono ?_
   (case side1 => repeat (first | exact (Kd.C_below HR0.out HB.out) | (with_reducible refine Kd.C_alloc ?_ _) | (with_reducible refine Kd.C_drewN ?_ _) | (with_reducible refine Kd.C_drew ?_)))
   (case side2 => exact HC0.out)
   rintro e w' ⟨rfl, ⟨nd, rfl⟩⟩
   refine ⟨_, rfl, ?_⟩
   refine hK.out _ _ (hHeld) (fun hHeld => ?_)
   clear hK K
   refine norm_ (a' := ?_) ?_ ?_
   rotate_left
   ·show Act.put _ (some 40) _ = _
    simp only [Act.put, List.setIfInBounds_toArray, List.set_cons_zero, List.set_cons_succ, i64_w, i32_w]
    rfl
   refine pure_ (i := 9) (N := some 11) (v := ?_) (a' := ?_) #[true, true, true, true, true, true, true, true, true, true] rfl rfl (any_of HT_.out (by kernel_rfl)) (fun _ _ _ h => h) (Or.inl ⟨by rfl, ?_⟩) ?_ ?_
   rotate_left
   ·intro w'
    go_simp
    with_reducible rfl
   rotate_left
   ·simp only [Act.put, List.setIfInBounds_toArray, List.set_cons_zero, List.set_cons_succ, i64_w, i32_w]
    rfl
   refine done_ (done_of HT_.out (by kernel_rfl)) ?_
   try go_wp2
   go_loopg [12, 13] k2 (fun kq v12 v13 w' => ∃ (x12_3 : Bool) (x13_3 : Int), v12 = .bool x12_3 ∧ v13 = .int .i64 x13_3 ∧ Aside0 (rr_numbering.l2 kq l0 x6_2 x7_2 t114 x9_1 x10_2 t116 x12_3 x13_3 = some (r1, r2)) ∧ Aside0 (kq ≤ k2) ∧ Aside0 (Kd.R (Kd.int .i64) 3 w' w.heap.size (fun _ => True) (.slice (some ad115) x6_2.length co17) x6_2) ∧ Aside0 (Kd.R Kd.string 9 w' w.heap.size (fun _ => True) u7 x7_2) ∧ Aside0 (Below w.heap.size w w'))
   case atStart => exact ⟨(false), (0), (by first | rfl | (simp; done) | (simp [*]; done)), (by first | rfl | (simp; done) | (simp [*]; done)), H', ⟨Nat.le_refl _⟩, ⟨by exact rk HO_6.out⟩, ⟨by exact rk HO_7.out⟩, ⟨by exact gs HB.out⟩⟩
   clear H'
   try clear c1
   try clear p1
   try clear q1
   try clear hx1
   try clear p2
   try clear c5
   try clear c6
   try clear c7
   try clear c8
   try clear c8b0
   try clear c10
   try clear c10b0
   try clear c11
   try clear c11b0
   try clear p11
   try clear q11
   try clear hx11
   try clear c12
   try clear c12b0
   try clear c13
   try clear c13b0
   try clear p14
   try clear q14
   try clear hx14
   try clear hx115_0
   try clear p115
   try clear p14
   try clear p2
   try clear q115
   try clear q14
   obtain ⟨x12_3, x13_3, rfl, rfl, HA, HK3, HO_6, HO_7, HB⟩ := hrel
   cases gk with
   | zero => exact absurd HA.out (by simp [rr_numbering.l2])
   | succ k3 =>
    have H := HA.out
    clear HA
    simp only [rr_numbering.l2] at H
    by_cases c18 : x13_3 < (x6_2.length : Int)
    ·rw [if_pos c18] at H
     have c18b0 : decide (x13_3 < (x6_2.length : Int)) = true := decide_eq_true c18
     clear c18
     by_cases c19 : x12_3 = true
     ·subst c19
      have H1 := H; rw [if_pos rfl] at H1
      clear H
      have H := H1
      clear H1
      have H' := a_ H
      clear H
      go_wp2
      go_roundg k3
      case measure => have := HK1.out; have := HK2.out; have := HK3.out; omega
      case rel => exact ⟨(true), (wrap64 (x13_3 + 1)), (by first | rfl | (simp; done) | (simp [*]; done)), (by first | rfl | (simp; done) | (simp [*]; done)), H', ⟨by have := HK1.out; have := HK2.out; have := HK3.out; omega⟩, ⟨by exact rk HO_6.out⟩, ⟨by exact rk HO_7.out⟩, ⟨by exact gs HB.out⟩⟩
     replace c19 := Bool.eq_false_iff.mpr c19
     subst c19
     have H1 := H; rw [if_neg (show ¬ (false = true) by decide)] at H1
     clear H
     have H := H1
     clear H1
     by_cases c20 : 0 ≤ x13_3
     rotate_left
     ·rw [if_neg c20] at H
      exact absurd H (by simp)
     rw [if_pos c20] at H
     have c20b0 : decide (0 ≤ x13_3) = true := decide_eq_true c20
     clear c20
     have H' := a_ H
     clear H
     have p117 : 0 ≤ (x13_3 : Int) := of_decide_eq_true (by first | (with_reducible assumption) | assumption)
     have q117 : x13_3 < (x6_2.length : Int) := of_decide_eq_true (by first | (with_reducible assumption) | assumption)
     obtain ⟨ad117, e117, hx117_0⟩ := Kd.at_int (Kd.R_reads' HO_6.out).2.2 x13_3 p117 q117
     obtain rfl : ad115 = ad117 := (by injection e117)
     replace p117 := eq_true p117
     replace q117 := eq_true q117
     go_wp2
     go_roundg k3
     case measure => have := HK1.out; have := HK2.out; have := HK3.out; omega
     case rel => exact ⟨(((rd x6_2 x13_3) == t116)), (wrap64 (x13_3 + 1)), (by first | rfl | (simp; done) | (simp [*]; done)), (by first | rfl | (simp; done) | (simp [*]; done)), H', ⟨by have := HK1.out; have := HK2.out; have := HK3.out; omega⟩, ⟨by exact rk HO_6.out⟩, ⟨by exact rk HO_7.out⟩, ⟨by exact gs HB.out⟩⟩
    rw [if_neg c18] at H
    have c18b0 : decide (x13_3 < (x6_2.length : Int)) = false := decide_eq_false c18
    clear c18
    by_cases c21 : x12_3 = true
    ·subst c21
     have H1 := H; rw [if_pos rfl] at H1
     clear H
     have H := H1
     clear H1
     have H' := a_ H
     clear H
     go_wp2
     go_roundg k3
     case measure => have := HK1.out; have := HK2.out; have := HK3.out; omega
     case rel => exact ⟨(x6_2), (x7_2), (wrap64 (x10_2 + 1)), (by first | rfl | (simp; done) | (simp [*]; done)), H', ⟨by have := HK1.out; have := HK2.out; have := HK3.out; omega⟩, ⟨by exact rk HO_6.out⟩, ⟨by exact rk HO_7.out⟩, ⟨by exact gs HB.out⟩⟩
    replace c21 := Bool.eq_false_iff.mpr c21
    subst c21
    have H1 := H; rw [if_neg (show ¬ (false = true) by decide)] at H1
    clear H
    have H := H1
    clear H1
    by_cases c22 : x6_2.length < 17592186044416
    rotate_left
    ·rw [if_neg c22] at H
     exact absurd H (by simp)
    rw [if_pos c22] at H
    have LMc22 := a_ c22
    clear c22
    obtain ⟨y118, hy118⟩ : ∃ y_ : List Int, y_ = (x6_2 ++ [t116]) := ⟨_, rfl⟩
    replace H : (if 0 ≤ x9_1 then (if x9_1 < (x7_2.length : Int) then (if 0 ≤ x10_2 then (if x10_2 ≤ (wrap64 (x10_2 + 1)) then (if (wrap64 (x10_2 + 1)) ≤ (t114.size : Int) then (if (rdOf ByteArray.empty x7_2 x9_1).size + (t114.extract (x10_2 : Int).toNat ((wrap64 (x10_2 + 1)) : Int).toNat).size ≤ 9223372036854775807 then (if x7_2.length < 8796093022208 then (rr_numbering.l1 k3 l0 y118 (x7_2 ++ [(rdOf ByteArray.empty x7_2 x9_1) ++ (t114.extract (x10_2 : Int).toNat ((wrap64 (x10_2 + 1)) : Int).toNat)]) t114 x9_1 (wrap64 (x10_2 + 1))) else (none)) else (none)) else (none)) else (none)) else (none)) else (none)) else (none)) = some (r1, r2) := by first | (rw [hy118]; with_reducible exact H) | (have H2_ := (Option.bind_some _ _).symm.trans H; rw [hy118]; with_reducible exact H2_) | (have H2_ := (Option.bind_some _ _).symm.trans H; with_reducible exact H2_) | with_reducible exact H | (rw [hy118]; exact H) | exact H
    have Ny118 := a_ hy118
    clear hy118
    by_cases c23 : 0 ≤ x9_1
    rotate_left
    ·rw [if_neg c23] at H
     exact absurd H (by simp)
    rw [if_pos c23] at H
    have c23b0 : decide (0 ≤ x9_1) = true := decide_eq_true c23
    clear c23
    by_cases c24 : x9_1 < (x7_2.length : Int)
    rotate_left
    ·rw [if_neg c24] at H
     exact absurd H (by simp)
    rw [if_pos c24] at H
    have c24b0 : decide (x9_1 < (x7_2.length : Int)) = true := decide_eq_true c24
    clear c24
    by_cases c25 : 0 ≤ x10_2
    rotate_left
    ·rw [if_neg c25] at H
     exact absurd H (by simp)
    rw [if_pos c25] at H
    have c25b0 := eq_true c25
    have c25b1 : decide (0 ≤ x10_2) = true := decide_eq_true c25
    clear c25
    by_cases c26 : x10_2 ≤ (wrap64 (x10_2 + 1))
    rotate_left
    ·rw [if_neg c26] at H
     exact absurd H (by simp)
    rw [if_pos c26] at H
    have c26b0 := eq_true c26
    have c26b1 : decide (x10_2 ≤ (wrap64 (x10_2 + 1))) = true := decide_eq_true c26
    by_cases c27 : (wrap64 (x10_2 + 1)) ≤ (t114.size : Int)
    rotate_left
    ·rw [if_neg c27] at H
     exact absurd H (by simp)
    rw [if_pos c27] at H
    have c27b0 := eq_true c27
    have c27b1 : decide ((wrap64 (x10_2 + 1)) ≤ (t114.size : Int)) = true := decide_eq_true c27
    by_cases c28 : (rdOf ByteArray.empty x7_2 x9_1).size + (t114.extract (x10_2 : Int).toNat ((wrap64 (x10_2 + 1)) : Int).toNat).size ≤ 9223372036854775807
    rotate_left
    ·rw [if_neg c28] at H
     exact absurd H (by simp)
    rw [if_pos c28] at H
    have c28b0 := eq_true c28
    have c28b1 : decide ((rdOf ByteArray.empty x7_2 x9_1).size + (t114.extract (x10_2 : Int).toNat ((wrap64 (x10_2 + 1)) : Int).toNat).size ≤ 9223372036854775807) = true := decide_eq_true c28
    try have c28b2 : (9223372036854775807 < (rdOf ByteArray.empty x7_2 x9_1).size + (t114.extract (x10_2 : Int).toNat ((wrap64 (x10_2 + 1)) : Int).toNat).size) = False := eq_false (Nat.not_lt.2 c28)
    (try (have c28b3 : (9223372036854775807 < (rdOf ByteArray.empty x7_2 x9_1).size + (((wrap64 (x10_2 + 1))).toNat - (x10_2).toNat)) = False := eq_false (by have h1_ := c28; simp only [ByteArray.size_append, ByteArray.size_extract] at h1_; have h2_ : ((wrap64 (x10_2 + 1)) : Int) ≤ (t114.size : Int) := of_decide_eq_true (by first | (with_reducible assumption) | assumption | (apply decide_eq_true; exact of_eq_true (by assumption))); omega)))
    by_cases c29 : x7_2.length < 8796093022208
    rotate_left
    ·rw [if_neg c29] at H
     exact absurd H (by simp)
    rw [if_pos c29] at H
    have LMc29 := a_ c29
    clear c29
    obtain ⟨y122, hy122⟩ : ∃ y_ : List ByteArray, y_ = (x7_2 ++ [(rdOf ByteArray.empty x7_2 x9_1) ++ (t114.extract (x10_2 : Int).toNat ((wrap64 (x10_2 + 1)) : Int).toNat)]) := ⟨_, rfl⟩
    replace H : (rr_numbering.l1 k3 l0 y118 y122 t114 x9_1 (wrap64 (x10_2 + 1))) = some (r1, r2) := by first | (rw [hy122]; with_reducible exact H) | (have H2_ := (Option.bind_some _ _).symm.trans H; rw [hy122]; with_reducible exact H2_) | (have H2_ := (Option.bind_some _ _).symm.trans H; with_reducible exact H2_) | with_reducible exact H | (rw [hy122]; exact H) | exact H
    have Ny122 := a_ hy122
    clear hy122
    have H' := a_ H
    clear H
    try go_wp2_with (first | ((with_reducible refine gate_builtin (b := .append) (xs := #[.tmp 58, .tmp 60]) rfl ?_); at_builtin; refine Kd.R_append (Kd.int .i64) (w0 := w) w.heap.size rfl (.tmp 58) (.tmp 60) 22 3 (.int .i64 0) 8 rfl Try.underlying22 info3 rfl (by decide) (by omega) (.slice (some ad115) x6_2.length co17) x6_2 t116 [.int .i64 t116] (fun _ => True) (fun _ => False) rfl rfl ?aP (fun _ hk => hk.elim) ?aF ?aO ?aB ?aS ?aL ?_; (case aP => exact rfl); (case aB => exact (gr HB.out)); (case aF => exact (fun _ _ => trivial)); (case aO => exact (by exact rk HO_6.out)); (case aS => exact (bZ_ (gr HB.out))); (case aL => have := LMc22.out; omega); intro v119 w30 ho hb hg hat; rw [← Ny118.out] at ho; have HO120 := a_ (ho); replace HO_7 := a_ (Kd.R_over' (by exact rk HO_7.out) (Kd.R_typed (by exact rk HO_6.out)) (by decide) hg); replace HB := a_ (hb); clear HO_6; clear ho hb hg hat))
    replace HO_7 := a_ (Kd.R_drew HO_7.out)
    replace HO120 := a_ (Kd.R_drew HO120.out)
    replace HB := a_ (b1_ HB.out)
    obtain ⟨Ao32, co32, eo32⟩ := Kd.R_slice HO_7.out
    (first | subst eo32 | (injection eo32 with f1_ f2_ f3_; have f4_ := f1_.symm; have f5_ := f3_.symm; clear f1_ f2_ f3_; subst f4_; subst f5_))
    have p121 : 0 ≤ (x9_1 : Int) := of_decide_eq_true (by first | (with_reducible assumption) | assumption)
    have q121 : x9_1 < (x7_2.length : Int) := of_decide_eq_true (by first | (with_reducible assumption) | assumption)
    obtain ⟨ad121, e121, hx121_0⟩ := Kd.at_string (Kd.R_reads' HO_7.out).2.2 x9_1 p121 q121
    cases e121
    replace p121 := eq_true p121
    replace q121 := eq_true q121
    refine start_ (n := 14) (S := fun w' => w'.cell? (ad121.add (x9_1).toNat) = some (.string (rdOf ByteArray.empty x7_2 x9_1))) (ds := [11, 12]) #[false, false, false, false, false, false, false, false, false, false, false, false, false, false] (by kernel_rfl) rfl rfl (hx121_0) (fun hHeld => ?_); refine with_tabW rr_numbering.tab18 rr_numbering.bits18 (fun HT_ HW_ => ?_)
    generalize w30.drew = w31 at HO_7 HO120 HB hx121_0 hHeld ⊢
    refine pure_ (i := 0) (N := some 62) (v := ?_) (a' := ?_) #[true, false, false, false, false, false, false, false, false, false, false, false, false, false] rfl rfl (any_of HT_.out (by kernel_rfl)) (fun _ _ _ h => h) (Or.inl ⟨by rfl, ?_⟩) ?_ ?_
    rotate_left
    ·intro w'
     go_simp
     with_reducible rfl
    rotate_left
    ·simp only [Act.put, List.setIfInBounds_toArray, List.set_cons_zero, List.set_cons_succ, i64_w, i32_w]
     rfl
    refine pure_ (i := 1) (N := some 63) (v := ?_) (a' := ?_) #[true, true, false, false, false, false, false, false, false, false, false, false, false, false] rfl rfl (any_of HT_.out (by kernel_rfl)) (fun _ _ _ h => h) (Or.inl ⟨by rfl, ?_⟩) ?_ ?_
    rotate_left
    ·intro w'
     go_simp
     with_reducible rfl
    rotate_left
    ·simp only [Act.put, List.setIfInBounds_toArray, List.set_cons_zero, List.set_cons_succ, i64_w, i32_w]
     rfl
    refine pure_ (i := 2) (N := some 64) (v := ?_) (a' := ?_) #[true, true, true, false, false, false, false, false, false, false, false, false, false, false] rfl rfl (any_of HT_.out (by kernel_rfl)) (fun _ _ _ h => h) (Or.inl ⟨by rfl, ?_⟩) ?_ ?_
    rotate_left
    ·intro w'
     go_simp
     with_reducible rfl
    rotate_left
    ·simp only [Act.put, List.setIfInBounds_toArray, List.set_cons_zero, List.set_cons_succ, i64_w, i32_w]
     rfl
    refine pure_ (i := 3) (N := some 65) (v := ?_) (a' := ?_) #[true, true, true, true, false, false, false, false, false, false, false, false, false, false] rfl rfl (any_of HT_.out (by kernel_rfl)) (fun _ _ _ h => h) (Or.inl ⟨by rfl, ?_⟩) ?_ ?_
    rotate_left
    ·intro w'
     go_simp
     with_reducible rfl
    rotate_left
    ·simp only [Act.put, List.setIfInBounds_toArray, List.set_cons_zero, List.set_cons_succ, i64_w, i32_w]
     rfl
    refine pure_ (i := 5) (N := some 67) (v := ?_) (a' := ?_) #[true, true, true, true, false, true, false, false, false, false, false, false, false, false] rfl rfl (any_of HT_.out (by kernel_rfl)) (fun _ _ _ h => h) (Or.inl ⟨by rfl, ?_⟩) ?_ ?_
    rotate_left
    ·intro w'
     go_simp
     with_reducible rfl
    rotate_left
    ·simp only [Act.put, List.setIfInBounds_toArray, List.set_cons_zero, List.set_cons_succ, i64_w, i32_w]
     rfl
    refine pure_ (i := 6) (N := some 68) (v := ?_) (a' := ?_) #[true, true, true, true, false, true, true, false, false, false, false, false, false, false] rfl rfl (any_of HT_.out (by kernel_rfl)) (fun _ _ _ h => h) (Or.inl ⟨by rfl, ?_⟩) ?_ ?_
    rotate_left
    ·intro w'
     go_simp
     with_reducible rfl
    rotate_left
    ·simp only [Act.put, List.setIfInBounds_toArray, List.set_cons_zero, List.set_cons_succ, i64_w, i32_w]
     rfl
    refine pure_ (i := 7) (N := some 69) (v := ?_) (a' := ?_) #[true, true, true, true, false, true, true, true, false, false, false, false, false, false] rfl rfl (any_of HT_.out (by kernel_rfl)) (fun _ _ _ h => h) (Or.inl ⟨by rfl, ?_⟩) ?_ ?_
    rotate_left
    ·intro w'
     go_simp
     with_reducible rfl
    rotate_left
    ·simp only [Act.put, List.setIfInBounds_toArray, List.set_cons_zero, List.set_cons_succ, i64_w, i32_w]
     rfl
    refine pure_ (i := 8) (N := some 70) (v := ?_) (a' := ?_) #[true, true, true, true, false, true, true, true, true, false, false, false, false, false] rfl rfl (any_of HT_.out (by kernel_rfl)) (fun _ _ _ h => h) (Or.inl ⟨by rfl, ?_⟩) ?_ ?_
    rotate_left
    ·intro w'
     go_simp
     with_reducible rfl
    rotate_left
    ·simp only [Act.put, List.setIfInBounds_toArray, List.set_cons_zero, List.set_cons_succ, i64_w, i32_w]
     rfl
    refine pure_ (i := 9) (N := some 71) (v := ?_) (a' := ?_) #[true, true, true, true, false, true, true, true, true, true, false, false, false, false] rfl rfl (any_of HT_.out (by kernel_rfl)) (fun _ _ _ h => h) (Or.inl ⟨by rfl, ?_⟩) ?_ ?_
    rotate_left
    ·intro w'
     go_simp
     with_reducible rfl
    rotate_left
    ·simp only [Act.put, List.setIfInBounds_toArray, List.set_cons_zero, List.set_cons_succ, i64_w, i32_w]
     rfl
    refine take_ (i := 4) (N := some 66) (v := ?_) (a' := ?_) #[true, true, true, true, true, true, true, true, true, true, false, false, false, false] rfl rfl (take_ofW HT_.out HW_.out (by kernel_rfl)) (fun _ _ _ h => h) (Or.inl ⟨by rfl, ?_⟩) hHeld ?_ ?_
    rotate_left
    ·intro w' s0
     go_simp
     with_reducible rfl
    rotate_left
    ·simp only [Act.put, List.setIfInBounds_toArray, List.set_cons_zero, List.set_cons_succ, i64_w, i32_w]
     rfl
    refine pure_ (i := 10) (N := some 72) (v := ?_) (a' := ?_) #[true, true, true, true, true, true, true, true, true, true, true, false, false, false] rfl rfl (any_of HT_.out (by kernel_rfl)) (fun _ _ _ h => h) (Or.inl ⟨by rfl, ?_⟩) ?_ ?_
    rotate_left
    ·intro w'
     go_simp
     with_reducible rfl
    rotate_left
    ·simp only [Act.put, List.setIfInBounds_toArray, List.set_cons_zero, List.set_cons_succ, i64_w, i32_w]
     rfl
    refine last_ (i := 11) (N := some 73) #[true, true, true, true, true, true, true, true, true, true, true, true, false, false] rfl rfl (one_of HT_.out (by kernel_rfl)) (by decide) (fun K hK => ?_)
    refine value_ (w1 := ?_) (v := ?_) (by rfl) rfl ?_ ?_
    rotate_left 2
    ·go_simp
     constructor
     ·rfl
     ·rfl
    refine hK.out _ _ ?_
    clear hK K
    refine norm_ (a' := ?_) ?_ ?_
    rotate_left
    ·show Act.put _ (some 73) _ = _
     simp only [Act.put, List.setIfInBounds_toArray, List.set_cons_zero, List.set_cons_succ, i64_w, i32_w]
     rfl
    refine last_ (i := 12) (N := some 74) #[true, true, true, true, true, true, true, true, true, true, true, true, true, false] rfl rfl (one_of HT_.out (by kernel_rfl)) (by decide) (fun K hK => ?_)
    refine Kd.R_append_step Kd.string (w0 := w) w.heap.size (by rfl) (.tmp 62) (.tmp 73) 26 9 (.string ⟨#[]⟩) 16 rfl Try.underlying26 info9 rfl (by decide) (by omega) (.slice (some ad121) x7_2.length co32) x7_2 ((rdOf ByteArray.empty x7_2 x9_1) ++ (t114.extract (x10_2 : Int).toNat ((wrap64 (x10_2 + 1)) : Int).toNat)) [.string ((rdOf ByteArray.empty x7_2 x9_1) ++ (t114.extract (x10_2 : Int).toNat ((wrap64 (x10_2 + 1)) : Int).toNat))] (fun _ => True) (fun _ => False) rfl rfl ?aP (fun _ hk => hk.elim) ?aF ?aO ?aB ?aS ?aL ?_
    (case aP => exact rfl)
    (case aB => exact (gr HB.out))
    (case aF => exact (fun _ _ => trivial))
    (case aO => exact (by exact rk HO_7.out))
    (case aS => exact (bZ_ (gr HB.out)))
    (case aL => have := LMc29.out; omega)
    intro v123 w33 ho hb hg hat
    rw [← Ny122.out] at ho
    have HO124 := a_ (ho)
    replace HO120 := a_ (Kd.R_over' (by exact rk HO120.out) (Kd.R_typed (by exact rk HO_7.out)) (by decide) hg)
    replace HB := a_ (hb)
    clear HO_7
    clear ho hb hg hat
    refine hK.out _ _ ?_
    clear hK K
    refine norm_ (a' := ?_) ?_ ?_
    rotate_left
    ·show Act.put _ (some 74) _ = _
     simp only [Act.put, List.setIfInBounds_toArray, List.set_cons_zero, List.set_cons_succ, i64_w, i32_w]
     rfl
    refine pure_ (i := 13) (N := some 7) (v := ?_) (a' := ?_) #[true, true, true, true, true, true, true, true, true, true, true, true, true, true] rfl rfl (any_of HT_.out (by kernel_rfl)) (fun _ _ _ h => h) (Or.inl ⟨by rfl, ?_⟩) ?_ ?_
    rotate_left
    ·intro w'
     go_simp
     with_reducible rfl
    rotate_left
    ·simp only [Act.put, List.setIfInBounds_toArray, List.set_cons_zero, List.set_cons_succ, i64_w, i32_w]
     rfl
    refine done_ (done_of HT_.out (by kernel_rfl)) ?_
    try go_wp2
    go_roundg k3
    case measure => have := HK1.out; have := HK2.out; have := HK3.out; omega
    case rel => exact ⟨(y118), (y122), (wrap64 (x10_2 + 1)), (by first | rfl | (simp; done) | (simp [*]; done)), H', ⟨by have := HK1.out; have := HK2.out; have := HK3.out; omega⟩, ⟨by exact rk HO120.out⟩, ⟨by exact rk HO124.out⟩, ⟨by exact gs HB.out⟩⟩
def rr_Connected.f (k : Nat) (l0 : List (List Int)) : Option (Bool) := (rr_numbering.f k l0 0).bind fun bt125 => (if 0 < (l0.length : Int) then (some ((bt125.1.length : Int) == ((rd_L1 l0 0).length : Int))) else (none))
theorem rr_Connected.calls (k : Nat) (A0 : Option Addr) (c0 : Nat) (l0 : List (List Int)) (r : Bool) (w : World) (hr0 : Kd.C (Kd.slice 3 (Kd.int .i64)) w A0 l0.length l0) (hc0 : l0.length ≤ c0) (h : rr_Connected.f k l0 = some r) :
  Calls Try.prog 30 #[.slice A0 l0.length c0] w fun e w' => e = .returned (.bool r) ∧ Below w.heap.size w w' := by
 have HR0 := a_ hr0
 have HC0 := a_ hc0
 clear hr0 hc0
 have HB := a_ (Below.refl w.heap.size w)
 have H : ((rr_numbering.f k l0 0).bind fun bt125 => (if 0 < (l0.length : Int) then (some ((bt125.1.length : Int) == ((rd_L1 l0 0).length : Int))) else (none))) = some r := h
 clear h
 replace H := Option.bind_eq_some_iff.mp H
 obtain ⟨⟨t125, t126⟩, A20, H⟩ := H
 try dsimp only at H
 have A2 := a_ A20
 clear A20
 by_cases c3 : 0 < (l0.length : Int)
 rotate_left
 ·rw [if_neg c3] at H
  exact absurd H (by simp)
 rw [if_pos c3] at H
 have c3b0 : decide (0 < (l0.length : Int)) = true := decide_eq_true c3
 have c3b1 : decide (0 < l0.length) = true := decide_eq_true (by omega)
 clear c3
 obtain rfl := Option.some.inj H
 go_enter Try.func30, Try.ntmps30
 go_wp2_with (first | ((with_reducible refine gate_callee (f := 67) rfl ?_); refine goesL_ (some 7) rfl rfl Try.func67 (by kernel_rfl) rfl #[.slice A0 l0.length c0, .int .i64 0] rfl (by (try simp only [List.map_toArray, List.map_cons, List.map_nil]); first | done | rfl | (simp only [List.length_drop, List.length_take]; rfl)) ?_; (with_reducible refine (rr_numbering.calls k _ _ l0 0 t125 t126 _ ?side1 ?side2 A2.out).mono ?_); (case side1 => repeat (first | exact HR0.out | (with_reducible refine Kd.C_alloc ?_ _) | (with_reducible refine Kd.C_drewN ?_ _) | (with_reducible refine Kd.C_drew ?_))); (case side2 => exact HC0.out); rintro e w4 ⟨v127, v129, rfl, ho0, ho1, hb⟩; refine ⟨_, rfl, ?_⟩; have HO128 := a_ (Kd.R_lower ho0 (bZ_ (gr HB.out))); have HO130 := a_ (Kd.R_lower ho1 (bZ_ (gr HB.out))); replace HB := a_ (bT_ HB.out (tr hb)); (try clear hb); (try clear hb2); (try clear hk); (try clear hi); (try clear ho0); (try clear ho1); obtain ⟨Ao5, co5, eo5⟩ := Kd.R_slice HO128.out; subst eo5; have p131 : 0 ≤ (0 : Int) := (by omega); have q131 : 0 < (l0.length : Int) := of_decide_eq_true (by first | (with_reducible assumption) | assumption); obtain ⟨ad131, A131_0, c131_0, e131, hx131_0, hl131_0, hi131_0⟩ := at_L1 HR0.out 0 p131 q131; cases e131; have qi131 : (0 < l0.length) = True := eq_true (by omega); (try rw [show ((0 : Int)).toNat = 0 from rfl] at hx131_0); (try rw [Addr.add_zero'] at hx131_0); replace hx131_0 := (HB.out.cell (World.block_lt_of_cell? w _ hx131_0)).trans hx131_0; have HR131_0 := a_ hi131_0; have HC131_0 := a_ hl131_0; clear hi131_0 hl131_0; replace p131 := eq_true p131; replace q131 := eq_true q131))
 go_ret
 exact ⟨by first | rfl | (simp [errW_none, errW_some] <;> rfl) | (simp [*, errW_none, errW_some] <;> rfl), by exact gs HB.out⟩
end Go.Proofs.Ytifkldehbaphgaa.PAll
end
