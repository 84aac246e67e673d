/- What the proofs of all laws of this seat lean on: what Go's functions that remouldlaw01.awake calls answer, and that awake returns true. No condition. Part 2 of 4. -/
import Derived.Test.YtifkldehbaphgaaProg
import Derived.Below
import Derived.Deep.Draws
import Derived.Deep.AppendLies
import Derived.Maps.AppendAt
import Derived.OwnWalk
import Derived.Laws.BytesArg
import Derived.Laws.MakeOwn
import Derived.Laws.OwnMore
import Derived.Deep.OwnRows
import Derived.Tactics
import Derived.Lib.ConvBytes
import Derived.Laws.Slices
import Derived.WalkKit
import Derived.KernelRfl
import Derived.RowKit3
import Derived.Deep.LoopGhost
import Derived.Deep.QuietTactic
import Derived.BigQuiet
import Derived.WideLaws
import Derived.Deep.DeepCutAuto
import Derived.Deep.CutBlock
import Derived.Deep.RegionHeld3
import Derived.Laws.Rows
import Derived.Lib.AppendStr
import Derived.ArgAppend
import Derived.Laws.IdiomCopy
import Derived.OrdersHeld
import Derived.Laws.BitsLemmas
import Derived.RowKit
import Derived.Shelf.GgClosure.StringsIndexFunc
import Derived.Lib.Walk
import Derived.Lib.SliceRun
import Derived.Shelf.RegionOpenPlain
import Derived.Lib.Strings
import Derived.Lib.Slices
import Derived.Lib.Bytealg
import Derived.RangeFuncNested
import Derived.RangeFuncBound
import Derived.RangeFuncCalls
import Derived.RangeFuncLeaves
import Derived.Shelf.RegionOpen
import Derived.OwnWalkIn
import Derived.TacticsInMore
import Derived.LoopNIn
import Derived.LoopIn
import Derived.Laws.CopyOwn
import Derived.Laws.EntriesVeiled
import Derived.Test.YtifkldehbaphgaaB0
set_option linter.all false
set_option maxHeartbeats 8000000
set_option maxRecDepth 100000
section
namespace Go.Proofs.Ytifkldehbaphgaa.PAll
open Go.RowKit
/-- W' is W with new blocks, some orders having been drawn. -/
class Grow (W W' : World) : Prop where
 out : Below W.heap.size W W'
instance (W : World) : Grow W W := ⟨Below.refl _ _⟩
instance (W W' : World) (o : Obj) [h : Grow W W'] : Grow W (W'.alloc o) := ⟨Go.PW.PrintWords.bA_ h.out o⟩
instance (W W' : World) [h : Grow W W'] : Grow W W'.drew := ⟨Go.PW.PrintWords.below_drew h.out⟩
instance (W W' : World) (n : Nat) [h : Grow W W'] : Grow W (W'.drewN n) := ⟨Go.PW.PrintWords.bN_ h.out n⟩
theorem tr {W W' W1 : World} (hb : Below W'.heap.size W' W1) [h : Grow W W'] : Below W.heap.size W W1 := h.out.trans (hb.mono h.out.size)
theorem cs12 {w : World} {g t : Nat} {a0 a1 a2 a3 a4 a5 a6 a7 a8 a9 a10 a11 : Value} (h : w.heap[g]? = some (.cells #[a0, a1, a2, a3, a4, a5, a6, a7, a8, a9, a10, a11] t (0, 0))) : w.cell? ⟨g, 0, none⟩ = some a0 ∧ w.cell? ⟨g, 1, none⟩ = some a1 ∧ w.cell? ⟨g, 2, none⟩ = some a2 ∧ w.cell? ⟨g, 3, none⟩ = some a3 ∧ w.cell? ⟨g, 4, none⟩ = some a4 ∧ w.cell? ⟨g, 5, none⟩ = some a5 ∧ w.cell? ⟨g, 6, none⟩ = some a6 ∧ w.cell? ⟨g, 7, none⟩ = some a7 ∧ w.cell? ⟨g, 8, none⟩ = some a8 ∧ w.cell? ⟨g, 9, none⟩ = some a9 ∧ w.cell? ⟨g, 10, none⟩ = some a10 ∧ w.cell? ⟨g, 11, none⟩ = some a11 := by
 have e := fun i => Go.PW.PrintWords.kc_ h i
 exact ⟨(e 0).trans rfl, (e 1).trans rfl, (e 2).trans rfl, (e 3).trans rfl, (e 4).trans rfl, (e 5).trans rfl, (e 6).trans rfl, (e 7).trans rfl, (e 8).trans rfl, (e 9).trans rfl, (e 10).trans rfl, (e 11).trans rfl⟩
theorem gr {w W W' : World} (h : Below w.heap.size w W) [g : Grow W W'] : Below w.heap.size w W' := h.trans (g.out.mono h.size)
end Go.Proofs.Ytifkldehbaphgaa.PAll
end
section
namespace Go.Proofs.Ytifkldehbaphgaa.PAll
open Go.RowKit Go.PW.PrintWords
class GEc (b g : Nat) : Prop where
 out : b ≤ g
class NEc (g h : Nat) : Prop where
 out : g ≠ h
class Grw (b : Nat) (W W' : World) : Prop where
 out : ∀ w : World, w.heap.size = b → Below b w W → Below b w W'
instance (b : Nat) (W : World) : Grw b W W := ⟨fun _ _ h => h⟩
instance (b : Nat) (W W' : World) (o : Obj) [k : Grw b W W'] : Grw b W (W'.alloc o) := ⟨fun w e h => by subst e; exact bA_ (k.out w rfl h) o⟩
instance (b : Nat) (W W' : World) [k : Grw b W W'] : Grw b W W'.drew := ⟨fun w e h => below_drew (k.out w e h)⟩
instance (b : Nat) (W W' : World) (n : Nat) [k : Grw b W W'] : Grw b W (W'.drewN n) := ⟨fun w e h => bN_ (k.out w e h) n⟩
instance (b : Nat) (W W' : World) (g i : Nat) (v : Value) [k : Grw b W W'] [q : GEc b g] : Grw b W (W'.setCell ⟨g, i, none⟩ v) := ⟨fun w e h => by subst e; exact bS_ (k.out w rfl h) q.out⟩
theorem gs {w W W' : World} (h : Below w.heap.size w W) [k : Grw w.heap.size W W'] : Below w.heap.size w W' := k.out w rfl h
theorem rk {α : Type} {d : Kd α} {e : TypeId} {w w1 : World} {base : Nat} {ok : Nat → Prop} {v : Value} {xs : List α} (h : d.R e w base ok v xs) [g : Grow w w1] : d.R e w1 base ok v xs := Kd.R_below h g.out
class Keb (g : Nat) (W W' : World) : Prop where
 out : ∀ o : Obj, W.heap[g]? = some o → W'.heap[g]? = some o
instance (g : Nat) (W : World) : Keb g W W := ⟨fun _ h => h⟩
instance (g : Nat) (W W' : World) (o : Obj) [k : Keb g W W'] : Keb g W (W'.alloc o) := ⟨fun _ h => kA_ (k.out _ h) o⟩
instance (g : Nat) (W W' : World) [k : Keb g W W'] : Keb g W W'.drew := ⟨fun _ h => kD_ (k.out _ h)⟩
instance (g : Nat) (W W' : World) (n : Nat) [k : Keb g W W'] : Keb g W (W'.drewN n) := ⟨fun _ h => kN_ (k.out _ h) n⟩
instance (g j i : Nat) (W W' : World) (v : Value) [k : Keb g W W'] [q : NEc g j] : Keb g W (W'.setCell ⟨j, i, none⟩ v) := ⟨fun _ h => (Below.heap_setCell W' ⟨j, i, none⟩ v g q.out).trans (k.out _ h)⟩
theorem a_ {p : Prop} (h : p) : Aside0 p := ⟨h⟩
theorem bk {W W' : World} {g : Nat} {o : Obj} (h : W.heap[g]? = some o) [k : Keb g W W'] : W'.heap[g]? = some o := k.out o h
class Ptb (g : Nat) (W W' : World) (f : outParam (List Value → List Value)) : Prop where
 out : ∀ (cs : List Value) (t : TypeId), W.heap[g]? = some (.cells cs.toArray t (0, 0)) → W'.heap[g]? = some (.cells (f cs).toArray t (0, 0))
instance (g : Nat) (W : World) : Ptb g W W (fun cs => cs) := ⟨fun _ _ h => h⟩
instance (g : Nat) (W W' : World) (o : Obj) (f : List Value → List Value) [k : Ptb g W W' f] : Ptb g W (W'.alloc o) f := ⟨fun _ _ h => kA_ (k.out _ _ h) o⟩
instance (g : Nat) (W W' : World) (f : List Value → List Value) [k : Ptb g W W' f] : Ptb g W W'.drew f := ⟨fun _ _ h => kD_ (k.out _ _ h)⟩
instance (g : Nat) (W W' : World) (n : Nat) (f : List Value → List Value) [k : Ptb g W W' f] : Ptb g W (W'.drewN n) f := ⟨fun _ _ h => kN_ (k.out _ _ h) n⟩
instance (g i : Nat) (W W' : World) (v : Value) (f : List Value → List Value) [k : Ptb g W W' f] : Ptb g W (W'.setCell ⟨g, i, none⟩ v) (fun cs => (f cs).set i v) := ⟨fun _ _ h => kP_ (k.out _ _ h) i v (List.setIfInBounds_toArray _ _ _)⟩
theorem pb {W W' : World} {g : Nat} {cs cs' : List Value} {t : TypeId} {f : List Value → List Value} (h : W.heap[g]? = some (.cells cs.toArray t (0, 0))) [k : Ptb g W W' f] (e : f cs = cs') : W'.heap[g]? = some (.cells cs'.toArray t (0, 0)) := e ▸ k.out cs t h
end Go.Proofs.Ytifkldehbaphgaa.PAll
end
section
namespace Go.Proofs.Ytifkldehbaphgaa.PAll
open Go.RowKit Go.PW.PrintWords Go.PW.PrintLast Go.PW.PrintMore
attribute [local go_sem] max2_int max_two
def errW : Option Int → Value
 | none => .nilIface
 | some c => .iface 0 (.int .i64 c)
theorem errW_none : errW none = .nilIface := rfl
theorem errW_some (c : Int) : errW (some c) = .iface 0 (.int .i64 c) := rfl
theorem info3 : (Try.prog.info? 3).map (fun i => (i.zero, i.size, i.bytes)) = some (some (.int .i64 0), 1, 8) := by kernel_rfl
theorem info5 : (Try.prog.info? 5).map (fun i => (i.zero, i.size, i.bytes)) = some (some (.int .u8 0), 1, 1) := by kernel_rfl
theorem info9 : (Try.prog.info? 9).map (fun i => (i.zero, i.size, i.bytes)) = some (some (.string ⟨#[]⟩), 1, 16) := by kernel_rfl
theorem info22 : (Try.prog.info? 22).map (fun i => (i.zero, i.size, i.bytes)) = some (some (.slice none 0 0), 1, 24) := by kernel_rfl
theorem info23 : (Try.prog.info? 23).map (fun i => (i.zero, i.size, i.bytes)) = some (some (.slice none 0 0), 1, 24) := by kernel_rfl
def rd_L1 (xs : List (List Int)) (i : Int) : (List Int) := xs.getD i.toNat ([] : List Int)
theorem at_L1 {w : World} {A : Option Addr} {n : Nat} {xs : List (List Int)} (h : Kd.C (Kd.slice 3 (Kd.int .i64)) w A n xs) (i : Int) (h0 : 0 ≤ i) (h1 : i < n) : ∃ ad A0 c0, A = some ad ∧ w.cell? (ad.add i.toNat) = some (.slice A0 (rd_L1 xs i).length c0) ∧ (rd_L1 xs i).length ≤ c0 ∧ (Kd.int .i64).C w A0 (rd_L1 xs i).length (rd_L1 xs i) := by
 obtain ⟨ad, c, e, _, hK, hc0⟩ := Kd.C_get h ([] : List Int) i h0 h1
 have hc : ∀ j u, c[j]? = some u → w.cell? (ad.add (i.toNat * 1 + j)) = some u := hc0
 obtain ⟨A0, c0, rfl, l0, g0⟩ := hK
 exact ⟨ad, A0, c0, e, by have hq := hc 0 _ rfl; rwa [Nat.mul_one, Nat.add_zero] at hq, l0, g0⟩
structure S75 where
 f0 : Int
 f1 : Int
 f2 : Int
 f3 : Int
 f4 : Int
def z75 : S75 := ⟨(0 : Int), (0 : Int), (0 : Int), (0 : Int), (0 : Int)⟩
def k75 : Kd S75 := Kd.iso (Kd.pair (Kd.int .i64) (Kd.pair (Kd.int .i64) (Kd.pair (Kd.int .i64) (Kd.pair (Kd.int .i64) (Kd.int .i64))))) (fun x : S75 => (x.f0, x.f1, x.f2, x.f3, x.f4))
theorem k75_open {w : World} {x : S75} {cs : List Value} (h : k75.K w x cs) : cs = [.int .i64 x.f0, .int .i64 x.f1, .int .i64 x.f2, .int .i64 x.f3, .int .i64 x.f4] := by
 obtain ⟨_, _, rfl, rfl, ⟨_, _, rfl, rfl, ⟨_, _, rfl, rfl, ⟨_, _, rfl, rfl, rfl⟩⟩⟩⟩ := h
 exact rfl
theorem k75_mkM (w : World) (base : Nat) (ok : Nat → Prop) (x : S75)  : k75.M w base ok x [.int .i64 x.f0, .int .i64 x.f1, .int .i64 x.f2, .int .i64 x.f3, .int .i64 x.f4] := ⟨[.int .i64 x.f0], [.int .i64 x.f1, .int .i64 x.f2, .int .i64 x.f3, .int .i64 x.f4], rfl, rfl, ⟨[.int .i64 x.f1], [.int .i64 x.f2, .int .i64 x.f3, .int .i64 x.f4], rfl, rfl, ⟨[.int .i64 x.f2], [.int .i64 x.f3, .int .i64 x.f4], rfl, rfl, ⟨[.int .i64 x.f3], [.int .i64 x.f4], rfl, rfl, rfl⟩⟩⟩⟩
def rd_T75 (xs : List S75) (i : Int) : S75 := xs.getD i.toNat z75
theorem at_T75 {w : World} {A : Option Addr} {n : Nat} {xs : List S75} (h : Kd.C k75 w A n xs) (i : Int) (h0 : 0 ≤ i) (h1 : i < n) : ∃ ad , A = some ad ∧ w.cell? (ad.add (i.toNat * 5)) = some (.int .i64 (rd_T75 xs i).f0) ∧ w.cell? ⟨(ad.add (i.toNat * 5)).block, (ad.add (i.toNat * 5)).off + 1, none⟩ = some (.int .i64 (rd_T75 xs i).f1) ∧ w.cell? ⟨(ad.add (i.toNat * 5)).block, (ad.add (i.toNat * 5)).off + 2, none⟩ = some (.int .i64 (rd_T75 xs i).f2) ∧ w.cell? ⟨(ad.add (i.toNat * 5)).block, (ad.add (i.toNat * 5)).off + 3, none⟩ = some (.int .i64 (rd_T75 xs i).f3) ∧ w.cell? ⟨(ad.add (i.toNat * 5)).block, (ad.add (i.toNat * 5)).off + 4, none⟩ = some (.int .i64 (rd_T75 xs i).f4) := by
 obtain ⟨ad, c, e, _, hK, hc0⟩ := Kd.C_get h z75 i h0 h1
 have hc : ∀ j u, c[j]? = some u → w.cell? (ad.add (i.toNat * 5 + j)) = some u := hc0
 obtain rfl := k75_open hK
 exact ⟨ad, e, hc 0 _ rfl, by rw [← add_field _ _ 1 (by omega)]; exact hc 1 _ rfl, by rw [← add_field _ _ 2 (by omega)]; exact hc 2 _ rfl, by rw [← add_field _ _ 3 (by omega)]; exact hc 3 _ rfl, by rw [← add_field _ _ 4 (by omega)]; exact hc 4 _ rfl⟩
structure S76 where
 f0 : S75
 f1 : S75
def z76 : S76 := ⟨z75, z75⟩
def k76 : Kd S76 := Kd.iso (Kd.pair k75 k75) (fun x : S76 => (x.f0, x.f1))
theorem k76_open {w : World} {x : S76} {cs : List Value} (h : k76.K w x cs) : cs = [.int .i64 x.f0.f0, .int .i64 x.f0.f1, .int .i64 x.f0.f2, .int .i64 x.f0.f3, .int .i64 x.f0.f4, .int .i64 x.f1.f0, .int .i64 x.f1.f1, .int .i64 x.f1.f2, .int .i64 x.f1.f3, .int .i64 x.f1.f4] := by
 obtain ⟨_, _, rfl, s0, s5⟩ := h
 obtain rfl := k75_open s0
 obtain rfl := k75_open s5
 exact rfl
theorem k76_mkM (w : World) (base : Nat) (ok : Nat → Prop) (x : S76)  : k76.M w base ok x [.int .i64 x.f0.f0, .int .i64 x.f0.f1, .int .i64 x.f0.f2, .int .i64 x.f0.f3, .int .i64 x.f0.f4, .int .i64 x.f1.f0, .int .i64 x.f1.f1, .int .i64 x.f1.f2, .int .i64 x.f1.f3, .int .i64 x.f1.f4] := ⟨[.int .i64 x.f0.f0, .int .i64 x.f0.f1, .int .i64 x.f0.f2, .int .i64 x.f0.f3, .int .i64 x.f0.f4], [.int .i64 x.f1.f0, .int .i64 x.f1.f1, .int .i64 x.f1.f2, .int .i64 x.f1.f3, .int .i64 x.f1.f4], rfl, (k75_mkM w base ok x.f0 ), (k75_mkM w base ok x.f1 )⟩
structure S78 where
 f0 : Int
 f1 : Int
 f2 : S76
def z78 : S78 := ⟨(0 : Int), (0 : Int), z76⟩
def k78 : Kd S78 := Kd.iso (Kd.pair (Kd.int .i64) (Kd.pair (Kd.int .i64) k76)) (fun x : S78 => (x.f0, x.f1, x.f2))
theorem k78_open {w : World} {x : S78} {cs : List Value} (h : k78.K w x cs) : cs = [.int .i64 x.f0, .int .i64 x.f1, .int .i64 x.f2.f0.f0, .int .i64 x.f2.f0.f1, .int .i64 x.f2.f0.f2, .int .i64 x.f2.f0.f3, .int .i64 x.f2.f0.f4, .int .i64 x.f2.f1.f0, .int .i64 x.f2.f1.f1, .int .i64 x.f2.f1.f2, .int .i64 x.f2.f1.f3, .int .i64 x.f2.f1.f4] := by
 obtain ⟨_, _, rfl, rfl, ⟨_, _, rfl, rfl, s2⟩⟩ := h
 obtain rfl := k76_open s2
 exact rfl
theorem k78_mkM (w : World) (base : Nat) (ok : Nat → Prop) (x : S78)  : k78.M w base ok x [.int .i64 x.f0, .int .i64 x.f1, .int .i64 x.f2.f0.f0, .int .i64 x.f2.f0.f1, .int .i64 x.f2.f0.f2, .int .i64 x.f2.f0.f3, .int .i64 x.f2.f0.f4, .int .i64 x.f2.f1.f0, .int .i64 x.f2.f1.f1, .int .i64 x.f2.f1.f2, .int .i64 x.f2.f1.f3, .int .i64 x.f2.f1.f4] := ⟨[.int .i64 x.f0], [.int .i64 x.f1, .int .i64 x.f2.f0.f0, .int .i64 x.f2.f0.f1, .int .i64 x.f2.f0.f2, .int .i64 x.f2.f0.f3, .int .i64 x.f2.f0.f4, .int .i64 x.f2.f1.f0, .int .i64 x.f2.f1.f1, .int .i64 x.f2.f1.f2, .int .i64 x.f2.f1.f3, .int .i64 x.f2.f1.f4], rfl, rfl, ⟨[.int .i64 x.f1], [.int .i64 x.f2.f0.f0, .int .i64 x.f2.f0.f1, .int .i64 x.f2.f0.f2, .int .i64 x.f2.f0.f3, .int .i64 x.f2.f0.f4, .int .i64 x.f2.f1.f0, .int .i64 x.f2.f1.f1, .int .i64 x.f2.f1.f2, .int .i64 x.f2.f1.f3, .int .i64 x.f2.f1.f4], rfl, rfl, (k76_mkM w base ok x.f2 )⟩⟩
def rd_T78 (xs : List S78) (i : Int) : S78 := xs.getD i.toNat z78
theorem at_T78 {w : World} {A : Option Addr} {n : Nat} {xs : List S78} (h : Kd.C k78 w A n xs) (i : Int) (h0 : 0 ≤ i) (h1 : i < n) : ∃ ad , A = some ad ∧ w.cell? (ad.add (i.toNat * 12)) = some (.int .i64 (rd_T78 xs i).f0) ∧ w.cell? ⟨(ad.add (i.toNat * 12)).block, (ad.add (i.toNat * 12)).off + 1, none⟩ = some (.int .i64 (rd_T78 xs i).f1) ∧ w.cell? ⟨(ad.add (i.toNat * 12)).block, (ad.add (i.toNat * 12)).off + 2, none⟩ = some (.int .i64 (rd_T78 xs i).f2.f0.f0) ∧ w.cell? ⟨(ad.add (i.toNat * 12)).block, (ad.add (i.toNat * 12)).off + 3, none⟩ = some (.int .i64 (rd_T78 xs i).f2.f0.f1) ∧ w.cell? ⟨(ad.add (i.toNat * 12)).block, (ad.add (i.toNat * 12)).off + 4, none⟩ = some (.int .i64 (rd_T78 xs i).f2.f0.f2) ∧ w.cell? ⟨(ad.add (i.toNat * 12)).block, (ad.add (i.toNat * 12)).off + 5, none⟩ = some (.int .i64 (rd_T78 xs i).f2.f0.f3) ∧ w.cell? ⟨(ad.add (i.toNat * 12)).block, (ad.add (i.toNat * 12)).off + 6, none⟩ = some (.int .i64 (rd_T78 xs i).f2.f0.f4) ∧ w.cell? ⟨(ad.add (i.toNat * 12)).block, (ad.add (i.toNat * 12)).off + 7, none⟩ = some (.int .i64 (rd_T78 xs i).f2.f1.f0) ∧ w.cell? ⟨(ad.add (i.toNat * 12)).block, (ad.add (i.toNat * 12)).off + 8, none⟩ = some (.int .i64 (rd_T78 xs i).f2.f1.f1) ∧ w.cell? ⟨(ad.add (i.toNat * 12)).block, (ad.add (i.toNat * 12)).off + 9, none⟩ = some (.int .i64 (rd_T78 xs i).f2.f1.f2) ∧ w.cell? ⟨(ad.add (i.toNat * 12)).block, (ad.add (i.toNat * 12)).off + 10, none⟩ = some (.int .i64 (rd_T78 xs i).f2.f1.f3) ∧ w.cell? ⟨(ad.add (i.toNat * 12)).block, (ad.add (i.toNat * 12)).off + 11, none⟩ = some (.int .i64 (rd_T78 xs i).f2.f1.f4) := by
 obtain ⟨ad, c, e, _, hK, hc0⟩ := Kd.C_get h z78 i h0 h1
 have hc : ∀ j u, c[j]? = some u → w.cell? (ad.add (i.toNat * 12 + j)) = some u := hc0
 obtain rfl := k78_open hK
 exact ⟨ad, e, hc 0 _ rfl, by rw [← add_field _ _ 1 (by omega)]; exact hc 1 _ rfl, by rw [← add_field _ _ 2 (by omega)]; exact hc 2 _ rfl, by rw [← add_field _ _ 3 (by omega)]; exact hc 3 _ rfl, by rw [← add_field _ _ 4 (by omega)]; exact hc 4 _ rfl, by rw [← add_field _ _ 5 (by omega)]; exact hc 5 _ rfl, by rw [← add_field _ _ 6 (by omega)]; exact hc 6 _ rfl, by rw [← add_field _ _ 7 (by omega)]; exact hc 7 _ rfl, by rw [← add_field _ _ 8 (by omega)]; exact hc 8 _ rfl, by rw [← add_field _ _ 9 (by omega)]; exact hc 9 _ rfl, by rw [← add_field _ _ 10 (by omega)]; exact hc 10 _ rfl, by rw [← add_field _ _ 11 (by omega)]; exact hc 11 _ rfl⟩
def rd_L7 (xs : List (List (List Int))) (i : Int) : (List (List Int)) := xs.getD i.toNat ([] : List (List Int))
theorem at_L7 {w : World} {A : Option Addr} {n : Nat} {xs : List (List (List Int))} (h : Kd.C (Kd.slice 22 (Kd.slice 3 (Kd.int .i64))) w A n xs) (i : Int) (h0 : 0 ≤ i) (h1 : i < n) : ∃ ad A0 c0, A = some ad ∧ w.cell? (ad.add i.toNat) = some (.slice A0 (rd_L7 xs i).length c0) ∧ (rd_L7 xs i).length ≤ c0 ∧ (Kd.slice 3 (Kd.int .i64)).C w A0 (rd_L7 xs i).length (rd_L7 xs i) := by
 obtain ⟨ad, c, e, _, hK, hc0⟩ := Kd.C_get h ([] : List (List Int)) i h0 h1
 have hc : ∀ j u, c[j]? = some u → w.cell? (ad.add (i.toNat * 1 + j)) = some u := hc0
 obtain ⟨A0, c0, rfl, l0, g0⟩ := hK
 exact ⟨ad, A0, c0, e, by have hq := hc 0 _ rfl; rwa [Nat.mul_one, Nat.add_zero] at hq, l0, g0⟩
end Go.Proofs.Ytifkldehbaphgaa.PAll
end
section
namespace Go.Proofs.Ytifkldehbaphgaa.PAll
open Go.RowKit Go.PW.PrintWords Go.PW.PrintLast Go.PW.PrintMore
attribute [local go_sem] max2_int max_two
def c_within.f (a0 : Int) (a1 : Int) (a2 : Int) : Option (Bool) := if a0 ≥ a1 then (some (decide (a0 ≤ a2))) else (some false)
theorem c_within.calls (a0 : Int) (a1 : Int) (a2 : Int) (r : Bool) (w : World) (h : c_within.f a0 a1 a2 = some r) :
  Calls Try.prog 59 #[.int .i64 a0, .int .i64 a1, .int .i64 a2] w fun e w' => e = .returned (.bool r) ∧ Drawn0 w w' := by
 have H : (if a0 ≥ a1 then (some (decide (a0 ≤ a2))) else (some false)) = some r := h
 clear h
 by_cases c4 : a0 ≥ a1
 ·rw [if_pos c4] at H
  have c4b0 : decide (a1 ≤ a0) = true := decide_eq_true c4
  clear c4
  obtain rfl := Option.some.inj H
  go_enter Try.func59, Try.ntmps59
  go_wp2
  go_ret
  exact ⟨by first | rfl | (simp; done) | (simp [*]; done), by repeat (first | exact Drawn0.refl _ | apply Drawn0.step)⟩
 rw [if_neg c4] at H
 have c4b0 : decide (a1 ≤ a0) = false := decide_eq_false c4
 clear c4
 obtain rfl := Option.some.inj H
 go_enter Try.func59, Try.ntmps59
 go_wp2
 go_ret
 exact ⟨by first | rfl | (simp; done) | (simp [*]; done), by repeat (first | exact Drawn0.refl _ | apply Drawn0.step)⟩
def sl_Index_int_int.l0 : Nat → List Int → Int → Int → Int → Option (Int)
 | 0, _, _, _, _ => none
 | k + 1, x0, x1, x7, x8 => if x8 < x7 then (if 0 ≤ x8 then (if x8 < (x0.length : Int) then (if x1 = (rd x0 x8) then (some x8) else (sl_Index_int_int.l0 k x0 x1 x7 (wrap64 (x8 + 1)))) else (none)) else (none)) else (some (-1))
def sl_Index_int_int.f (k : Nat) (l0 : List Int) (a1 : Int) : Option (Int) := sl_Index_int_int.l0 k l0 a1 (l0.length : Int) 0
theorem sl_Index_int_int.calls (k : Nat) (A0 : Option Addr) (c0 : Nat) (l0 : List Int) (a1 : Int) (r : Int) (w : World) (hr0 : Kd.C (Kd.int .i64) w A0 l0.length l0) (hc0 : l0.length ≤ c0) (h : sl_Index_int_int.f k l0 a1 = some r) :
  Calls Try.prog 88 #[.slice A0 l0.length c0, .int .i64 a1] w fun e w' => e = .returned (.int .i64 r) ∧ Drawn0 w w' := by
 have HR0 := a_ hr0
 have HC0 := a_ hc0
 clear hr0 hc0
 have H : (sl_Index_int_int.l0 k l0 a1 (l0.length : Int) 0) = some r := h
 clear h
 have H' := a_ H
 clear H
 go_enter Try.func88, Try.ntmps88
 go_wp2
 go_loopg [8] k (fun kq v8 w' => ∃ (x8_1 : Int), v8 = .int .i64 x8_1 ∧ Aside0 (sl_Index_int_int.l0 kq l0 a1 (l0.length : Int) x8_1 = some r) ∧ Aside0 (kq ≤ k) ∧ Drawn0 w w')
 case atStart => exact ⟨(0), (by first | rfl | (simp; done) | (simp [*]; done)), H', ⟨Nat.le_refl _⟩, by repeat (first | exact Drawn0.refl _ | apply Drawn0.step)⟩
 clear H'
 try clear p2
 obtain ⟨x8_1, rfl, HA, HK1, ⟨m1, rfl⟩⟩ := hrel
 cases gk with
 | zero => exact absurd HA.out (by simp [sl_Index_int_int.l0])
 | succ k1 =>
  have H := HA.out
  clear HA
  simp only [sl_Index_int_int.l0] at H
  by_cases c3 : x8_1 < (l0.length : Int)
  rotate_left
  ·rw [if_neg c3] at H
   have c3b0 : decide (x8_1 < (l0.length : Int)) = false := decide_eq_false c3
   clear c3
   obtain rfl := Option.some.inj H
   go_wp2
   go_ret
   exact ⟨by first | rfl | (simp; done) | (simp [*]; done), by repeat (first | exact Drawn0.refl _ | apply Drawn0.step)⟩
  rw [if_pos c3] at H
  have c3b0 : decide (x8_1 < (l0.length : Int)) = true := decide_eq_true c3
  clear c3
  by_cases c4 : 0 ≤ x8_1
  rotate_left
  ·rw [if_neg c4] at H
   exact absurd H (by simp)
  rw [if_pos c4] at H
  have c4b0 : decide (0 ≤ x8_1) = true := decide_eq_true c4
  clear c4
  by_cases c5 : x8_1 < (l0.length : Int)
  rotate_left
  ·rw [if_neg c5] at H
   exact absurd H (by simp)
  rw [if_pos c5] at H
  have c5b0 : decide (x8_1 < (l0.length : Int)) = true := decide_eq_true c5
  clear c5
  by_cases c6 : a1 = (rd l0 x8_1)
  ·rw [if_pos c6] at H
   have c6b0 : (a1 == (rd l0 x8_1)) = true := beq_iff_eq.mpr c6
   have c6b1 : (a1 != (rd l0 x8_1)) = false := bne_eq_false_iff_eq.mpr c6
   clear c6
   obtain rfl := Option.some.inj H
   have p192 : 0 ≤ (x8_1 : Int) := of_decide_eq_true (by first | (with_reducible assumption) | assumption)
   have q192 : x8_1 < (l0.length : Int) := of_decide_eq_true (by first | (with_reducible assumption) | assumption)
   obtain ⟨ad192, e192, hx192_0⟩ := Kd.at_int HR0.out x8_1 p192 q192
   cases e192
   replace p192 := eq_true p192
   replace q192 := eq_true q192
   go_wp2
   go_ret
   exact ⟨by first | rfl | (simp; done) | (simp [*]; done), by repeat (first | exact Drawn0.refl _ | apply Drawn0.step)⟩
  rw [if_neg c6] at H
  have c6b0 : (a1 == (rd l0 x8_1)) = false := beq_eq_false_iff_ne.mpr c6
  have c6b1 : (a1 != (rd l0 x8_1)) = true := bne_iff_ne.mpr c6
  have H' := a_ H
  clear H
  have p192 : 0 ≤ (x8_1 : Int) := of_decide_eq_true (by first | (with_reducible assumption) | assumption)
  have q192 : x8_1 < (l0.length : Int) := of_decide_eq_true (by first | (with_reducible assumption) | assumption)
  obtain ⟨ad192, e192, hx192_0⟩ := Kd.at_int HR0.out x8_1 p192 q192
  cases e192
  replace p192 := eq_true p192
  replace q192 := eq_true q192
  go_wp2
  go_roundg k1
  case measure => have := HK1.out; omega
  case rel => exact ⟨(wrap64 (x8_1 + 1)), (by first | rfl | (simp; done) | (simp [*]; done)), H', ⟨by have := HK1.out; omega⟩, by repeat (first | exact Drawn0.refl _ | apply Drawn0.step)⟩
def sl_Contains_int_int.f (k : Nat) (l0 : List Int) (a1 : Int) : Option (Bool) := (sl_Index_int_int.f k l0 a1).bind fun t193 => (some (decide (t193 ≥ 0)))
theorem sl_Contains_int_int.calls (k : Nat) (A0 : Option Addr) (c0 : Nat) (l0 : List Int) (a1 : Int) (r : Bool) (w : World) (hr0 : Kd.C (Kd.int .i64) w A0 l0.length l0) (hc0 : l0.length ≤ c0) (h : sl_Contains_int_int.f k l0 a1 = some r) :
  Calls Try.prog 79 #[.slice A0 l0.length c0, .int .i64 a1] w fun e w' => e = .returned (.bool r) ∧ Drawn0 w w' := by
 have HR0 := a_ hr0
 have HC0 := a_ hc0
 clear hr0 hc0
 have H : ((sl_Index_int_int.f k l0 a1).bind fun t193 => (some (decide (t193 ≥ 0)))) = some r := h
 clear h
 replace H := Option.bind_eq_some_iff.mp H
 obtain ⟨t193, A30, H⟩ := H
 try dsimp only at H
 have A3 := a_ A30
 clear A30
 obtain rfl := Option.some.inj H
 go_enter Try.func79, Try.ntmps79
 go_wp2_with (first | ((with_reducible refine gate_callee (f := 88) rfl ?_); refine goesL_ (some 7) rfl rfl Try.func88 (by kernel_rfl) rfl #[.slice A0 l0.length c0, .int .i64 a1] rfl (by (try simp only [List.map_toArray, List.map_cons, List.map_nil]); first | done | rfl | (simp only [List.length_drop, List.length_take]; rfl)) ?_; (with_reducible refine (sl_Index_int_int.calls k _ _ l0 a1 t193 _ ?side1 ?side2 A3.out).mono ?_); (case side1 => repeat (first | exact HR0.out | (with_reducible refine Kd.C_alloc ?_ _) | (with_reducible refine Kd.C_drewN ?_ _) | (with_reducible refine Kd.C_drew ?_))); (case side2 => exact HC0.out); rintro e w' ⟨rfl, ⟨nd, rfl⟩⟩; refine ⟨_, rfl, ?_⟩))
 go_ret
 exact ⟨by first | rfl | (simp; done) | (simp [*]; done), by repeat (first | exact Drawn0.refl _ | apply Drawn0.step)⟩
end Go.Proofs.Ytifkldehbaphgaa.PAll
end
section
namespace Go.Proofs.Ytifkldehbaphgaa.PAll
open Go.RowKit Go.PW.PrintWords Go.PW.PrintLast Go.PW.PrintMore
def idxL (x : Int) : List Int → Int → Int
 | [], _ => -1
 | y :: l, i => if x = y then i else idxL x l (i + 1)
theorem idxL_le (x : Int) : ∀ (l : List Int) (i : Int), 0 ≤ i → (x ∉ l ∧ idxL x l i = -1) ∨ (x ∈ l ∧ i ≤ idxL x l i ∧ idxL x l i < i + l.length)
 | [], i, _ => .inl ⟨by simp, rfl⟩
 | y :: l, i, h => by
  unfold idxL
  by_cases e : x = y
  ·rw [if_pos e]; exact .inr ⟨by simp [e], Int.le_refl _, by simp; omega⟩
  rw [if_neg e]
  rcases idxL_le x l (i + 1) (by omega) with ⟨h1, h2⟩ | ⟨h1, h2, h3⟩
  ·exact .inl ⟨by simp [e, h1], h2⟩
  ·exact .inr ⟨by simp [h1], by omega, by simp; omega⟩
theorem wrap64_small (n : Int) (h1 : -9223372036854775808 ≤ n) (h2 : n ≤ 9223372036854775807) : wrap64 n = n := by unfold wrap64; omega
theorem Index_l0 (x : Int) (l0 : List Int) (hl : l0.length ≤ 1000000) : ∀ (m k : Nat) (i : Nat), i + m = l0.length → m < k → sl_Index_int_int.l0 k l0 x (l0.length : Int) i = some (idxL x (l0.drop i) i)
 | 0, k, i, h, hk => by
  obtain ⟨k, rfl⟩ : ∃ q, k = q + 1 := ⟨k - 1, by omega⟩
  simp only [sl_Index_int_int.l0]
  rw [if_neg (by omega), List.drop_eq_nil_of_le (by omega)]
  rfl
 | m + 1, k, i, h, hk => by
  obtain ⟨k, rfl⟩ : ∃ q, k = q + 1 := ⟨k - 1, by omega⟩
  have hi : i < l0.length := by omega
  simp only [sl_Index_int_int.l0]
  rw [if_pos (by omega), if_pos (by omega), if_pos (by omega), wrap64_small _ (by omega) (by omega)]
  have := Index_l0 x l0 hl m k (i + 1) (by omega) (by omega)
  rw [show ((i : Int) + 1) = ((i + 1 : Nat) : Int) from by omega, this, List.drop_eq_getElem_cons hi]
  simp only [idxL]
  have hr : rd l0 (i : Int) = l0[i] := by simp [rd, hi]
  rw [hr]
  by_cases e : x = l0[i]
  ·rw [if_pos e, if_pos e]
  ·rw [if_neg e, if_neg e]; rfl
theorem Index_f (x : Int) (l0 : List Int) (hl : l0.length ≤ 1000000) (k : Nat) (hk : l0.length < k) : sl_Index_int_int.f k l0 x = some (idxL x l0 0) := by
 have := Index_l0 x l0 hl l0.length k 0 (by omega) hk
 simpa [sl_Index_int_int.f] using this
theorem Contains_f (x : Int) (l0 : List Int) (hl : l0.length ≤ 1000000) (k : Nat) (hk : l0.length < k) : sl_Contains_int_int.f k l0 x = some (decide (x ∈ l0)) := by
 unfold sl_Contains_int_int.f
 rw [Index_f x l0 hl k hk]
 simp only [Option.bind_some]
 rcases idxL_le x l0 0 (by omega) with ⟨h1, h2⟩ | ⟨h1, h2, h3⟩
 ·simp [h1, h2]
 ·simp [h1]; omega
def hasFrom (r : Int) (s : ByteArray) : Nat → Nat → Bool
 | 0, _ => false
 | f + 1, pos => if pos < s.size then (if ((Utf8.decode s pos).1 : Int) = r then true else hasFrom r s f (pos + (Utf8.decode s pos).2)) else false
def hasR (r : Int) (s : ByteArray) : Bool := hasFrom r s s.size 0
set_option maxHeartbeats 4000000 in
theorem hasRune_any (s : ByteArray) (r : Int) (w : World) :
  Calls Try.prog 85 #[.string s, .int .i32 r] w fun e w' => e = .returned (.bool (hasR r s)) ∧ Below w.heap.size w w' := by
 go_enter Try.func85, Try.ntmps85
 go_wp2
 go_loopg [] s.size (fun gf wx => ∃ pos : Nat, wx.heap[w.heap.size]? = some (.stringIter s pos) ∧ Below w.heap.size w wx ∧ hasFrom r s gf pos = hasR r s ∧ s.size ≤ pos + gf)
 case atStart => exact ⟨0, World.iter_heap w s 0, (Below.refl _ w).alloc (Nat.le_refl _) _, rfl, by omega⟩
 obtain ⟨pos, hit, hbw, hleft, hfu⟩ := hrel
 by_cases hps : pos < s.size
 rotate_left
 ·have hnx : ∀ ty, (Instr.next (.pointer (some ⟨w.heap.size, 0, none⟩)) true ty).run Try.prog wr = _ := fun ty => Lib.run_next_end_at wr w.heap.size s pos ty hit hps
  have hl : hasFrom r s gk pos = false := by cases gk <;> simp [hasFrom, hps]
  rw [hl] at hleft
  have HL := a_ hleft
  clear hleft hl
  go_wp2
  go_ret
  exact ⟨congrArg (fun b => Ending.returned (Value.bool b)) HL.out, hbw⟩
 obtain ⟨g', rfl⟩ : ∃ g', gk = g' + 1 := ⟨gk - 1, by omega⟩
 have hnx : ∀ ty, (Instr.next (.pointer (some ⟨w.heap.size, 0, none⟩)) true ty).run Try.prog wr = _ := fun ty => Lib.run_next_any_at wr w.heap.size s pos ty hit hps
 have hwd := Lib.width_pos s pos
 obtain ⟨R, hR⟩ : ∃ R, (Utf8.decode s pos).1 = R := ⟨_, rfl⟩
 obtain ⟨K, hK⟩ : ∃ K, (Utf8.decode s pos).2 = K := ⟨_, rfl⟩
 simp only [hasFrom, hps, if_true, hR, hK] at hleft
 rw [hR, hK] at hnx
 rw [hK] at hwd
 have hit2 := Lib.iterAt_heap wr w.heap.size s pos (pos + K) hit
 have hbw2 := Lib.below_iterAt hbw (k := w.heap.size) (Nat.le_refl _) s (pos + K)
 obtain ⟨W, hWd⟩ : ∃ W, wr.iterAt w.heap.size s (pos + K) = W := ⟨_, rfl⟩
 rw [hWd] at hnx hit2 hbw2
 by_cases hc : (R : Int) = r
 rotate_left
 ·rw [if_neg hc] at hleft
  have hb : ((R : Int) == r) = false := beq_eq_false_iff_ne.mpr hc
  go_wp2
  go_roundg g'
  case measure => omega
  case rel => exact ⟨pos + K, hit2, hbw2, hleft, by omega⟩
 rw [if_pos hc] at hleft
 have hb : ((R : Int) == r) = true := beq_iff_eq.mpr hc
 have HL := a_ hleft
 clear hleft
 go_wp2
 go_ret
 exact ⟨congrArg (fun b => Ending.returned (Value.bool b)) HL.out, hbw2⟩
def PredB (g : Nat) (lb : Array Value) (p : Nat → Bool) (w : World) : Prop := ∀ (W : World) (x : Nat), Below w.heap.size w W → Calls Try.prog g (#[.int .i32 (x : Int)] ++ lb) W fun e W' => e = .returned (.bool (p x)) ∧ Below W.heap.size W W'
set_option maxHeartbeats 4000000 in
theorem indexFunc_any (g : Nat) (lb : Array Value) (eg : ∀ args w, (callFunc g args).run Try.prog w = .ok (.enter g args) w) (p : Nat → Bool) (s : ByteArray) (w : World) (hp : PredB g lb p w) :
  Calls Try.prog 103 #[.string s, .func (.func g) #[] lb, .bool true] w fun e w' => e = .returned (.int .i64 (Lib.idxFunc p true s)) ∧ Below w.heap.size w w' := by
 go_enter Try.func103, Try.ntmps103
 go_wp2
 go_loopg [] s.size (fun gf wx => ∃ pos : Nat, wx.heap[w.heap.size]? = some (.stringIter s pos) ∧ Below w.heap.size w wx ∧ Lib.idxFuncFrom p true s gf pos = Lib.idxFunc p true s ∧ s.size ≤ pos + gf)
 case atStart => exact ⟨0, World.iter_heap w s 0, (Below.refl _ w).alloc (Nat.le_refl _) _, rfl, by omega⟩
 obtain ⟨pos, hit, hbw, hleft, hfu⟩ := hrel
 by_cases hps : pos < s.size
 rotate_left
 ·have hnx : ∀ ty, (Instr.next (.pointer (some ⟨w.heap.size, 0, none⟩)) true ty).run Try.prog wr = _ := fun ty => Lib.run_next_end_at wr w.heap.size s pos ty hit hps
  rw [Lib.idxFuncFrom_end p true s gk pos hps] at hleft
  go_wp2
  go_ret
  exact ⟨by rw [← hleft] <;> rfl, hbw⟩
 obtain ⟨g', rfl⟩ : ∃ g', gk = g' + 1 := ⟨gk - 1, by omega⟩
 have hnx : ∀ ty, (Instr.next (.pointer (some ⟨w.heap.size, 0, none⟩)) true ty).run Try.prog wr = _ := fun ty => Lib.run_next_any_at wr w.heap.size s pos ty hit hps
 have hwd := Lib.width_pos s pos
 obtain ⟨R, hR⟩ : ∃ R, (Utf8.decode s pos).1 = R := ⟨_, rfl⟩
 obtain ⟨K, hK⟩ : ∃ K, (Utf8.decode s pos).2 = K := ⟨_, rfl⟩
 simp only [Lib.idxFuncFrom, hps, if_true, hR, hK] at hleft
 rw [hR, hK] at hnx
 rw [hK] at hwd
 have hit2 := Lib.iterAt_heap wr w.heap.size s pos (pos + K) hit
 have hbw2 := Lib.below_iterAt hbw (k := w.heap.size) (Nat.le_refl _) s (pos + K)
 obtain ⟨W, hWd⟩ : ∃ W, wr.iterAt w.heap.size s (pos + K) = W := ⟨_, rfl⟩
 rw [hWd] at hnx hit2 hbw2
 have cS : Calls Try.prog g (#[.int .i32 (R : Int)] ++ lb) W _ := hp W R hbw2
 clear hp
 cases hsp : p R <;> rw [hsp] at cS <;> simp only [hsp, if_true, Bool.false_eq_true, if_false] at hleft
 ·go_wp2_with (go_at_fn g; refine cS.mono ?_; rintro e W' ⟨rfl, hb⟩)
  go_roundg g'
  case measure => omega
  case rel => exact ⟨pos + K, kB_ hit2 hb, hbw2.trans (hb.mono hbw2.size), hleft, by omega⟩
 ·go_wp2_with (go_at_fn g; refine cS.mono ?_; rintro e W' ⟨rfl, hb⟩)
  go_ret
  exact ⟨by rw [← hleft] <;> rfl, hbw2.trans (hb.mono hbw2.size)⟩
set_option maxHeartbeats 4000000 in
theorem ContainsFunc_any (g : Nat) (lb : Array Value) (eg : ∀ args w, (callFunc g args).run Try.prog w = .ok (.enter g args) w) (p : Nat → Bool) (s : ByteArray) (w : World) (hp : PredB g lb p w) :
  Calls Try.prog 83 #[.string s, .func (.func g) #[] lb] w fun e w' => e = .returned (.bool (decide (0 ≤ Lib.idxFunc p true s))) ∧ Below w.heap.size w w' := by
 have cI := indexFunc_any g lb eg p s w hp
 obtain ⟨I, hI⟩ : ∃ I, Lib.idxFunc p true s = I := ⟨_, rfl⟩
 rw [hI] at cI ⊢
 have cJ : Calls Try.prog 97 #[.string s, .func (.func g) #[] lb] w fun e w' => e = .returned (.int .i64 I) ∧ Below w.heap.size w w' := by
  go_enter Try.func97, Try.ntmps97
  go_wp2_with (go_at_call 103; refine cI.mono ?_; rintro e w' ⟨rfl, hb⟩)
  go_ret
  exact ⟨rfl, hb⟩
 go_enter Try.func83, Try.ntmps83
 go_wp2_with (go_at_call 97; refine cJ.mono ?_; rintro e w' ⟨rfl, hb⟩)
 go_ret
 exact ⟨rfl, hb⟩
def sgn (g : Nat) : ByteArray := if g = 1 then ⟨#[97, 65]⟩ else ⟨#[97, 65, 98, 66]⟩
def noLetter (g : Nat) (r : Nat) : Bool := !(hasR (r : Int) (sgn g))
def wordB (g : Nat) (s : ByteArray) : Bool := decide (s.size ≤ 30) && !(decide (0 ≤ Lib.idxFunc (noLetter g) true s))
set_option maxHeartbeats 4000000 in
theorem isWord1_any (g : Nat) (hg : g = 1 ∨ g = 2) (Bg : Nat) (w : World) (hb : w.heap[Bg]? = some (.cells #[.int .i64 (g : Int)] 3 (0, 0))) : PredB 84 #[.pointer (some ⟨Bg, 0, none⟩)] (noLetter g) w := by
 intro W x hW
 have hc : W.cell? ⟨Bg, 0, none⟩ = some (.int .i64 (g : Int)) := (kc_ (kB_ hb hW) 0).trans rfl
 clear hb hW
 obtain rfl | rfl := hg
 ·have h := hasRune_any (sgn 1) (x : Int) W
  show Calls Try.prog 84 #[.int .i32 (x : Int), .pointer (some ⟨Bg, 0, none⟩)] W _
  unfold noLetter
  obtain ⟨B, hB⟩ : ∃ B, hasR (x : Int) (sgn 1) = B := ⟨_, rfl⟩
  rw [hB] at h ⊢
  clear hB
  go_enter Try.func84, Try.ntmps84
  go_wp2_with (first | (go_at_call 85; refine Calls.mono h ?_; rintro e w' ⟨rfl, hb⟩))
  go_ret
  exact ⟨rfl, hb⟩
 ·have h := hasRune_any (sgn 2) (x : Int) W
  show Calls Try.prog 84 #[.int .i32 (x : Int), .pointer (some ⟨Bg, 0, none⟩)] W _
  unfold noLetter
  obtain ⟨B, hB⟩ : ∃ B, hasR (x : Int) (sgn 2) = B := ⟨_, rfl⟩
  rw [hB] at h ⊢
  clear hB
  go_enter Try.func84, Try.ntmps84
  go_wp2_with (first | (go_at_call 85; refine Calls.mono h ?_; rintro e w' ⟨rfl, hb⟩))
  go_ret
  exact ⟨rfl, hb⟩
set_option maxHeartbeats 4000000 in
theorem isWord_any (g : Nat) (hg : g = 1 ∨ g = 2) (s : ByteArray) (w : World) :
  Calls Try.prog 60 #[.int .i64 (g : Int), .string s] w fun e w' => e = .returned (.bool (wordB g s)) ∧ Below w.heap.size w w' := by
 have hcf := ContainsFunc_any 84 #[.pointer (some ⟨w.heap.size, 0, none⟩)] (enters_of Try.func84 (by kernel_rfl) rfl) (noLetter g) s (w.alloc (.cells #[.int .i64 (g : Int)] 3)) (isWord1_any g hg w.heap.size _ (blk_new _ _))
 obtain ⟨B, hB⟩ : ∃ B, decide (0 ≤ Lib.idxFunc (noLetter g) true s) = B := ⟨_, rfl⟩
 unfold wordB
 rw [hB] at hcf ⊢
 clear hB
 by_cases hs : s.size ≤ 30
 rotate_left
 ·have hd : decide ((s.size : Int) ≤ 30) = false := decide_eq_false (by omega)
  rw [decide_eq_false hs]
  go_enter Try.func60, Try.ntmps60
  go_wp2
  go_ret
  exact ⟨by simp, bA_ (Below.refl _ _) _⟩
 have hd : decide ((s.size : Int) ≤ 30) = true := decide_eq_true (by omega)
 rw [decide_eq_true hs]
 go_enter Try.func60, Try.ntmps60
 go_wp2_with (first | (go_at_call 83; refine Calls.mono hcf ?_; rintro e w' ⟨rfl, hb⟩))
 go_ret
 exact ⟨by simp, (bA_ (Below.refl _ _) _).trans (hb.mono (by simp))⟩
theorem isGroup1_any (g : Nat) (hg : g = 1 ∨ g = 2) (Bp : Nat) (A : Value) (s : ByteArray) (w : World) (hb : w.heap[Bp]? = some (.cells #[.int .i64 (g : Int), A] 55 (0, 0))) :
  Calls Try.prog 92 #[.string s, .pointer (some ⟨Bp, 0, none⟩)] w fun e w' => e = .returned (.bool (!(wordB g s))) ∧ Below w.heap.size w w' := by
 have hc : w.cell? ⟨Bp, 0, none⟩ = some (.int .i64 (g : Int)) := (kc_ hb 0).trans rfl
 have h := isWord_any g hg s w
 have hu55 := Try.underlying55
 clear hb
 obtain ⟨B, hB⟩ : ∃ B, wordB g s = B := ⟨_, rfl⟩
 rw [hB] at h ⊢
 clear hB
 go_enter Try.func92, Try.ntmps92
 go_wp2_with (first | (go_at_call 60; refine Calls.mono h ?_; rintro e w' ⟨rfl, hb⟩))
 go_ret
 exact ⟨rfl, hb⟩
def badFrom (g : Nat) : List ByteArray → Int → Int
 | [], _ => -1
 | s :: l, i => if wordB g s = true then badFrom g l (i + 1) else i
theorem badFrom_all (g : Nat) : ∀ (l : List ByteArray) (i : Int), 0 ≤ i → decide (0 ≤ badFrom g l i) = !(l.all (wordB g))
 | [], i, h => by simp [badFrom]
 | s :: l, i, h => by
  unfold badFrom
  cases hs : wordB g s
  ·simp [hs, h]
  ·rw [if_pos rfl, badFrom_all g l (i + 1) (by omega)]
   simp [hs]
set_option maxHeartbeats 4000000 in
theorem IndexFuncS_any (g : Nat) (hg : g = 1 ∨ g = 2) (Bp : Nat) (V : Value) (A : Option Addr) (c : Nat) (l : List ByteArray) (w : World) (hb : w.heap[Bp]? = some (.cells #[.int .i64 (g : Int), V] 55 (0, 0))) (hC : Kd.C Kd.string w A l.length l) (hc : l.length ≤ c) (hl : l.length ≤ 1000000) :
  Calls Try.prog 99 #[.slice A l.length c, .func (.func 92) #[] #[.pointer (some ⟨Bp, 0, none⟩)]] w fun e w' => e = .returned (.int .i64 (badFrom g l 0)) ∧ Below w.heap.size w w' := by
 have HBK := a_ hb
 have HC := a_ hC
 have HL := a_ hl
 clear hb hC hl
 go_enter Try.func99, Try.ntmps99
 go_wp2
 go_loopw [8] (fun v8 wr => ∃ k : Nat, k ≤ l.length ∧ v8 = .int .i64 k ∧ Aside0 (badFrom g (l.drop k) k = badFrom g l 0) ∧ Aside0 (Below w.heap.size w wr)) (fun v8 _ => l.length - (intOf v8).toNat)
 case atStart => exact ⟨0, Nat.zero_le _, rfl, ⟨rfl⟩, ⟨Below.refl _ _⟩⟩
 obtain ⟨k, hk, rfl, HBF, HB⟩ := hrel
 by_cases hkd : k < l.length
 rotate_left
 ·obtain rfl : k = l.length := by omega
  have HBF2 := a_ (show (-1 : Int) = badFrom g l 0 by rw [← HBF.out, List.drop_length]; rfl)
  have hlt : decide ((l.length : Int) < (l.length : Int)) = false := decide_eq_false (by omega)
  clear HBF
  go_wp2
  go_ret
  exact ⟨congrArg (fun b => Ending.returned (Value.int .i64 b)) HBF2.out, HB.out⟩
 obtain ⟨ad, e, hx⟩ := Kd.at_string (Kd.C_below HC.out HB.out) (k : Int) (by omega) (by omega)
 cases e
 simp only [Int.toNat_natCast] at hx
 obtain ⟨s, hs⟩ : ∃ s, rdOf ByteArray.empty l (k : Int) = s := ⟨_, rfl⟩
 rw [hs] at hx
 have hls : l.drop k = s :: l.drop (k + 1) := by
  rw [List.drop_eq_getElem_cons hkd, ← hs]
  simp [rdOf, hkd]
 have hcall := isGroup1_any g hg Bp V s wr (kB_ HBK.out HB.out)
 have hw1 : wrap64 ((k : Int) + 1) = ((k + 1 : Nat) : Int) := by have := HL.out; rw [wrap64_small _ (by omega) (by omega)]; omega
 have hlt : decide ((k : Int) < (l.length : Int)) = true := decide_eq_true (by omega)
 have hbf := HBF.out
 rw [hls] at hbf
 have hcons : badFrom g (s :: l.drop (k + 1)) (k : Int) = if wordB g s = true then badFrom g (l.drop (k + 1)) ((k : Int) + 1) else (k : Int) := rfl
 rw [hcons] at hbf
 clear hcons
 cases hwb : wordB g s <;> rw [hwb] at hcall hbf
 ·have HBF2 := a_ (show (k : Int) = badFrom g l 0 by simpa using hbf)
  clear hbf hls hs hwb HBF
  go_wp2_with (first | (go_at_call 92; refine Calls.mono hcall ?_; rintro e w' ⟨rfl, hb⟩))
  go_ret
  exact ⟨congrArg (fun b => Ending.returned (Value.int .i64 b)) HBF2.out, HB.out.trans (hb.mono HB.out.size)⟩
 ·have HBF2 := a_ (show badFrom g (l.drop (k + 1)) ((k : Int) + 1) = badFrom g l 0 by simpa using hbf)
  clear hbf hls hs hwb HBF
  go_wp2_with (first | (go_at_call 92; refine Calls.mono hcall ?_; rintro e w' ⟨rfl, hb⟩))
  go_roundw
  case rel => exact ⟨k + 1, by omega, by rw [hw1], HBF2, ⟨HB.out.trans (hb.mono HB.out.size)⟩⟩
  case measure => rw [hw1]; simp [intOf]; omega
set_option maxHeartbeats 4000000 in
theorem ContainsFuncS_any (g : Nat) (hg : g = 1 ∨ g = 2) (Bp : Nat) (V : Value) (A : Option Addr) (c : Nat) (l : List ByteArray) (w : World) (hb : w.heap[Bp]? = some (.cells #[.int .i64 (g : Int), V] 55 (0, 0))) (hC : Kd.C Kd.string w A l.length l) (hc : l.length ≤ c) (hl : l.length ≤ 1000000) :
  Calls Try.prog 91 #[.slice A l.length c, .func (.func 92) #[] #[.pointer (some ⟨Bp, 0, none⟩)]] w fun e w' => e = .returned (.bool (!(l.all (wordB g)))) ∧ Below w.heap.size w w' := by
 have h := IndexFuncS_any g hg Bp V A c l w hb hC hc hl
 rw [← badFrom_all g l 0 (by omega)]
 obtain ⟨I, hI⟩ : ∃ I, badFrom g l 0 = I := ⟨_, rfl⟩
 rw [hI] at h ⊢
 clear hI hb hC
 go_enter Try.func91, Try.ntmps91
 go_wp2_with (first | (go_at_call 99; refine Calls.mono h ?_; rintro e w' ⟨rfl, hb⟩))
 go_ret
 exact ⟨rfl, hb⟩
def c_isGroup.f (a0_0 : Int) (l0_1 : List ByteArray) : Option (Bool) :=
 if (1 ≤ a0_0 ∧ a0_0 ≤ 2) ∧ l0_1.length ≤ 6 then some (l0_1.all (wordB a0_0.toNat)) else some false
theorem within_t {a lo hi : Int} (h1 : lo ≤ a) (h2 : a ≤ hi) : c_within.f a lo hi = some true := by unfold c_within.f; rw [if_pos h1, decide_eq_true h2]
theorem within_f {a lo hi : Int} (h : ¬ (lo ≤ a ∧ a ≤ hi)) : c_within.f a lo hi = some false := by
 unfold c_within.f
 by_cases h1 : lo ≤ a
 ·rw [if_pos h1, decide_eq_false (fun h2 => h ⟨h1, h2⟩)]
 ·rw [if_neg h1]
theorem c_isGroup.calls (a0_0 : Int) (A0_1 : Option Addr) (c0_1 : Nat) (l0_1 : List ByteArray) (r : Bool) (w : World) (hr0_1 : Kd.C Kd.string w A0_1 l0_1.length l0_1) (hc0_1 : l0_1.length ≤ c0_1) (h : c_isGroup.f a0_0 l0_1 = some r) :
  Calls Try.prog 74 #[.agg #[.int .i64 a0_0, .slice A0_1 l0_1.length c0_1]] w fun e w' => e = .returned (.bool r) ∧ Below w.heap.size w w' := by
 have hu55 := Try.underlying55
 have HC := a_ hr0_1
 have Hc := a_ hc0_1
 clear hr0_1 hc0_1
 unfold c_isGroup.f at h
 by_cases h1 : 1 ≤ a0_0 ∧ a0_0 ≤ 2
 rotate_left
 ·rw [if_neg (fun h => h1 h.1)] at h
  obtain rfl := Option.some.inj h
  have HW := a_ (within_f h1)
  clear h h1
  go_enter Try.func74, Try.ntmps74
  go_wp2_with (first | ((with_reducible refine gate_dst (N := 1) rfl ?_); refine box_event ?hg (N := 1) ?hd (cs := #[.int .i64 a0_0, .slice A0_1 l0_1.length c0_1]) (t := 55) ?hr ?_; (case hd => rfl); (case hg => rfl); (case hr => first | (go_simp; done) | (go_simp; rfl)); intro gt hg w1 hbox hb; have n0_ := a_ hb; have n1_ := a_ hbox; clear hg hb hbox; have HB := n0_; have BK := n1_; clear n0_ n1_; have hz0 : w1.cell? ⟨gt, 0, none⟩ = some (.int .i64 a0_0) := (kc_ BK.out 0).trans rfl) | ((with_reducible refine gate_callee (f := 59) rfl ?_); refine goesL_ (some 5) rfl rfl Try.func59 (by kernel_rfl) rfl #[.int .i64 a0_0, .int .i64 1, .int .i64 2] rfl (by (try simp only [List.map_toArray, List.map_cons, List.map_nil]); first | done | rfl) ?_; (with_reducible refine (c_within.calls a0_0 1 2 false _ HW.out).mono ?_); rintro e wq ⟨rfl, hdr⟩; refine ⟨_, rfl, ?_⟩; replace HB := a_ (show Below w.heap.size w wq by obtain ⟨nd, rfl⟩ := hdr; exact bN_ HB.out nd); replace BK := a_ (show wq.heap[gt]? = _ by obtain ⟨nd, rfl⟩ := hdr; exact BK.out); clear hdr hz0; have hy0 : wq.cell? ⟨gt, 0, none⟩ = some (.int .i64 a0_0) := (kc_ BK.out 0).trans rfl; have hy1 : wq.cell? ⟨gt, 1, none⟩ = some (.slice A0_1 l0_1.length c0_1) := (kc_ BK.out 1).trans rfl))
  go_ret
  exact ⟨rfl, HB.out⟩
 have HW := a_ (within_t h1.1 h1.2)
 by_cases h2 : l0_1.length ≤ 6
 rotate_left
 ·rw [if_neg (fun h => h2 h.2)] at h
  obtain rfl := Option.some.inj h
  have hd : decide ((l0_1.length : Int) ≤ 6) = false := decide_eq_false (by omega)
  clear h h1 h2
  go_enter Try.func74, Try.ntmps74
  go_wp2_with (first | ((with_reducible refine gate_dst (N := 1) rfl ?_); refine box_event ?hg (N := 1) ?hd (cs := #[.int .i64 a0_0, .slice A0_1 l0_1.length c0_1]) (t := 55) ?hr ?_; (case hd => rfl); (case hg => rfl); (case hr => first | (go_simp; done) | (go_simp; rfl)); intro gt hg w1 hbox hb; have n0_ := a_ hb; have n1_ := a_ hbox; clear hg hb hbox; have HB := n0_; have BK := n1_; clear n0_ n1_; have hz0 : w1.cell? ⟨gt, 0, none⟩ = some (.int .i64 a0_0) := (kc_ BK.out 0).trans rfl) | ((with_reducible refine gate_callee (f := 59) rfl ?_); refine goesL_ (some 5) rfl rfl Try.func59 (by kernel_rfl) rfl #[.int .i64 a0_0, .int .i64 1, .int .i64 2] rfl (by (try simp only [List.map_toArray, List.map_cons, List.map_nil]); first | done | rfl) ?_; (with_reducible refine (c_within.calls a0_0 1 2 true _ HW.out).mono ?_); rintro e wq ⟨rfl, hdr⟩; refine ⟨_, rfl, ?_⟩; replace HB := a_ (show Below w.heap.size w wq by obtain ⟨nd, rfl⟩ := hdr; exact bN_ HB.out nd); replace BK := a_ (show wq.heap[gt]? = _ by obtain ⟨nd, rfl⟩ := hdr; exact BK.out); clear hdr hz0; have hy0 : wq.cell? ⟨gt, 0, none⟩ = some (.int .i64 a0_0) := (kc_ BK.out 0).trans rfl; have hy1 : wq.cell? ⟨gt, 1, none⟩ = some (.slice A0_1 l0_1.length c0_1) := (kc_ BK.out 1).trans rfl))
  go_ret
  exact ⟨rfl, HB.out⟩
 rw [if_pos ⟨h1, h2⟩] at h
 obtain rfl := Option.some.inj h
 obtain ⟨g, rfl⟩ := Int.eq_ofNat_of_zero_le (show 0 ≤ a0_0 by omega)
 simp only [Int.toNat_natCast]
 have hd : decide ((l0_1.length : Int) ≤ 6) = true := decide_eq_true (by omega)
 have HG := a_ (show g = 1 ∨ g = 2 by omega)
 have H6 := a_ h2
 clear h h1 h2
 obtain ⟨B, hB⟩ : ∃ B, l0_1.all (wordB g) = B := ⟨_, rfl⟩
 rw [hB]
 have HBB := a_ hB
 clear hB
 go_enter Try.func74, Try.ntmps74
 go_wp2_with (first | ((with_reducible refine gate_dst (N := 1) rfl ?_); refine box_event ?hg (N := 1) ?hd (cs := #[.int .i64 (g : Int), .slice A0_1 l0_1.length c0_1]) (t := 55) ?hr ?_; (case hd => rfl); (case hg => rfl); (case hr => first | (go_simp; done) | (go_simp; rfl)); intro gt hg w1 hbox hb; have n0_ := a_ hb; have n1_ := a_ hbox; clear hg hb hbox; have HB := n0_; have BK := n1_; clear n0_ n1_; have hz0 : w1.cell? ⟨gt, 0, none⟩ = some (.int .i64 (g : Int)) := (kc_ BK.out 0).trans rfl) | ((with_reducible refine gate_callee (f := 59) rfl ?_); refine goesL_ (some 5) rfl rfl Try.func59 (by kernel_rfl) rfl #[.int .i64 (g : Int), .int .i64 1, .int .i64 2] rfl (by (try simp only [List.map_toArray, List.map_cons, List.map_nil]); first | done | rfl) ?_; (with_reducible refine (c_within.calls (g : Int) 1 2 true _ HW.out).mono ?_); rintro e wq ⟨rfl, hdr⟩; refine ⟨_, rfl, ?_⟩; replace HB := a_ (show Below w.heap.size w wq by obtain ⟨nd, rfl⟩ := hdr; exact bN_ HB.out nd); replace BK := a_ (show wq.heap[gt]? = _ by obtain ⟨nd, rfl⟩ := hdr; exact BK.out); clear hdr hz0; have hy0 : wq.cell? ⟨gt, 0, none⟩ = some (.int .i64 (g : Int)) := (kc_ BK.out 0).trans rfl; have hy1 : wq.cell? ⟨gt, 1, none⟩ = some (.slice A0_1 l0_1.length c0_1) := (kc_ BK.out 1).trans rfl) | (go_at_call 91; have hcs := ContainsFuncS_any g HG.out gt (.slice A0_1 l0_1.length c0_1) A0_1 c0_1 l0_1 wq BK.out (Kd.C_below HC.out HB.out) Hc.out (by have := H6.out; omega); rw [HBB.out] at hcs; refine Calls.mono hcs ?_; rintro e wr ⟨rfl, hb⟩; have HB2 := a_ (HB.out.trans (hb.mono HB.out.size))))
 go_ret
 exact ⟨by simp, HB2.out⟩
def sl_Clone_int_int.f (l0 : List Int) : Option (List Int) := if 0 < l0.length ∧ l0.length ≤ 1000000 then some l0 else none
set_option maxHeartbeats 2000000 in
theorem sl_Clone_int_int.calls (A0 : Option Addr) (c0 : Nat) (l0 : List Int) (r : List Int) (w : World) (hr0 : Kd.C (Kd.int .i64) w A0 l0.length l0) (hc0 : l0.length ≤ c0) (h : sl_Clone_int_int.f l0 = some r) :
  Calls Try.prog 89 #[.slice A0 l0.length c0] w fun e w' => ∃ v0_ : Value, e = .returned (v0_) ∧ Kd.R (Kd.int .i64) 3 w' w.heap.size (fun _ => True) v0_ r ∧ Below w.heap.size w w' := by
 unfold sl_Clone_int_int.f at h
 by_cases hc : 0 < l0.length ∧ l0.length ≤ 1000000
 rotate_left
 ·rw [if_neg hc] at h; cases h
 rw [if_pos hc] at h
 obtain rfl := Option.some.inj h
 obtain ⟨h0, h1⟩ := hc
 obtain ⟨⟨b, off, se⟩, rfl, hcs⟩ := (Kd.reads_of_C (enc := Value.int .i64) (d := (0 : Int)) (h1 := fun _ => rfl) hr0).2.2 h0
 obtain ⟨i0, hi, hz0, hz1, hz2⟩ := info_parts info3
 have q22 : ∀ (w : World) (a : Option Addr) (n c n' c' : Nat), (binOp .eql 22 (.slice a n c) (.slice none n' c')).run Try.prog w = .ok (.bool a.isNone) w := fun w a n c n' c' => Lib.run_eql_slice_nil w _ _ a n c n' c' Try.underlying22
 have u22 : ∀ w, Sem.run Try.prog (underlying 22) w = .ok (TypeDesc.slice 3) w := run_underlying Try.underlying22
 have A := a_ hcs
 have H0 := a_ h0
 have H1 := a_ h1
 clear hcs hr0 h h0 h1
 go_enter Try.func89, Try.ntmps89
 go_wp2_with (at_builtin; refine wpList_append_own _ rfl _ _ 22 rfl w.heap.size 3 i0 (.int .i64 0) 1 8 Try.underlying22 hi hz0 hz1 hz2 rfl (by decide) _ _ _ rfl (World.ownsRow_made w #[] 0 (Nat.le_refl _) (Nat.zero_le _) rfl) ⟨b, off, se⟩ l0.length c0 (encs (Value.int .i64) l0) rfl ?qc1 ?qc2 ?qc3 ?qc4 ?qc5 ?qc6 ?_)
 case qc1 => simp [encs]
 case qc2 =>
  intro j u hj
  have hjn : j < l0.length := by
   have := (List.getElem?_eq_some_iff.1 hj).1
   simpa [encs] using this
  refine Lib.cell?_alloc_some _ ?_
  rw [A.out j hjn]
  simp [encs, hjn] at hj
  simp [hjn, hj]
 case qc3 => intro u hu; obtain ⟨x, _, rfl⟩ := List.mem_map.1 hu; rfl
 case qc4 => have := H1.out; unfold maxLen; omega
 case qc5 => have := H1.out; omega
 case qc6 => simp
 intro v' w1 hown hgrow hnil
 go_wp2
 go_ret
 refine ⟨v', rfl, ?_, ?_⟩
 ·refine Kd.R_of_own (h1 := fun _ => rfl) (enc := Value.int .i64) ?_ (fun _ _ => trivial)
  simpa using hown
 ·exact ((Below.refl _ w).alloc (Nat.le_refl _) _).grown hgrow (by simp) (by intro k hk; simp [Value.ownBlock] at hk; omega)
set_option maxHeartbeats 1000000 in
theorem stringslite_IndexByte_any (s : ByteArray) (c : Int) (w : World) :
  Calls Try.prog 98 #[.string s, .int .u8 c] w fun e w' => e = .returned (.int .i64 (Lib.indexByte s.data.toList c.toNat.toUInt8)) ∧ w' = w := by
 go_enter Try.func98, Try.ntmps98
 go_wp2
 rw [run_callFunc_extern Try.func104 (by kernel_rfl) (by kernel_rfl) (by kernel_rfl) (e := Extern.BytealgIndexByte.indexByte) (by kernel_rfl), Lib.run_indexByteString]
 simp only [Result.andThen]
 rw [Oper.upon_value]
 go_wp2
 go_ret
 exact ⟨rfl, rfl⟩
def strings_IndexByte.f (a0 : ByteArray) (a1 : Int) : Option (Int) := some (Lib.indexByte a0.data.toList a1.toNat.toUInt8)
set_option maxHeartbeats 1000000 in
theorem strings_IndexByte.calls (a0 : ByteArray) (a1 : Int) (r : Int) (w : World) (h : strings_IndexByte.f a0 a1 = some r) :
  Calls Try.prog 90 #[.string a0, .int .u8 a1] w fun e w' => e = .returned (.int .i64 r) ∧ Drawn0 w w' := by
 obtain rfl := Option.some.inj h
 go_enter Try.func90, Try.ntmps90
 go_wp2_with (go_at_call 98; refine (stringslite_IndexByte_any _ _ _).mono ?_; rintro e w' ⟨rfl, rfl⟩)
 go_ret
 exact ⟨rfl, ⟨0, rfl⟩⟩
def rdA (l : List Int) (i : Int) : Option Int := if 0 ≤ i ∧ i ≤ 4 then some (l.getD i.toNat 0) else none
def c_table_sent.f (a0_0 : Int) (a0_1 : Int) (a0_2 : Int) (a0_3 : Int) (a0_4 : Int) (a0_5 : Int) (a0_6 : Int) (a0_7 : Int) (a0_8 : Int) (a0_9 : Int) (a0_10 : Int) (a0_11 : Int) (a1 : Int) (a2 : Int) : Option (Int) :=
 if a2 = 97 then rdA [a0_2, a0_3, a0_4, a0_5, a0_6] a1 else if a2 = 98 then rdA [a0_7, a0_8, a0_9, a0_10, a0_11] a1
 else if a2 = 65 then (if 1 ≤ a0_1 ∧ a0_1 ≤ 5 then some (idxL a1 ([a0_2, a0_3, a0_4, a0_5, a0_6].take a0_1.toNat) 0) else none)
 else if a2 = 66 then (if 1 ≤ a0_1 ∧ a0_1 ≤ 5 then some (idxL a1 ([a0_7, a0_8, a0_9, a0_10, a0_11].take a0_1.toNat) 0) else none) else none
theorem C_block {W : World} {g t : Nat} {cs : Array Value} (hb : W.heap[g]? = some (.cells cs t (0, 0))) (l : List Int) (hl : l.length ≤ 1000000) (hc : ∀ j, j < l.length → cs[j]? = some (.int .i64 (l.getD j 0))) : Kd.C (Kd.int .i64) W (some ⟨g, 0, none⟩) l.length l := by
 refine Kd.C_of_reads (enc := Value.int .i64) (d := (0 : Int)) (h1 := fun _ => rfl) ⟨rfl, by omega, fun _ => ⟨_, rfl, fun j hj => ?_⟩⟩
 have h := kc_ hb j
 rw [hc j hj] at h
 rw [Addr.add_lit]
 simpa using h
theorem fiveUp {a : Int} (h0 : 1 ≤ a) (h1 : a ≤ 5) : a = 1 ∨ a = 2 ∨ a = 3 ∨ a = 4 ∨ a = 5 := by omega
theorem five {a : Int} (h0 : 0 ≤ a) (h1 : a ≤ 4) : a = 0 ∨ a = 1 ∨ a = 2 ∨ a = 3 ∨ a = 4 := by omega
theorem sent_97 (a0_0 : Int) (a0_1 : Int) (a0_2 : Int) (a0_3 : Int) (a0_4 : Int) (a0_5 : Int) (a0_6 : Int) (a0_7 : Int) (a0_8 : Int) (a0_9 : Int) (a0_10 : Int) (a0_11 : Int) (a1 : Int) (r : Int) (w : World) (h : rdA [a0_2, a0_3, a0_4, a0_5, a0_6] a1 = some r) :
  Calls Try.prog 70 #[.agg #[.int .i64 a0_0, .int .i64 a0_1, .int .i64 a0_2, .int .i64 a0_3, .int .i64 a0_4, .int .i64 a0_5, .int .i64 a0_6, .int .i64 a0_7, .int .i64 a0_8, .int .i64 a0_9, .int .i64 a0_10, .int .i64 a0_11], .int .i64 a1, .int .u8 97] w fun e w' => e = .returned (.int .i64 r) ∧ Below w.heap.size w w' := by
 have hu78 := Try.underlying78
 unfold rdA at h
 by_cases hc : 0 ≤ a1 ∧ a1 ≤ 4
 rotate_left
 ·rw [if_neg hc] at h; cases h
 rw [if_pos hc] at h
 obtain rfl := Option.some.inj h
 rcases five hc.1 hc.2 with rfl | rfl | rfl | rfl | rfl
 all_goals
  clear hc h
  go_enter Try.func70, Try.ntmps70
  go_wp2_with (first | ((with_reducible refine gate_dst (N := 3) rfl ?_); refine box_event ?hg (N := 3) ?hd (cs := #[.int .i64 a0_0, .int .i64 a0_1, .int .i64 a0_2, .int .i64 a0_3, .int .i64 a0_4, .int .i64 a0_5, .int .i64 a0_6, .int .i64 a0_7, .int .i64 a0_8, .int .i64 a0_9, .int .i64 a0_10, .int .i64 a0_11]) (t := 78) ?hr ?_; (case hd => rfl); (case hg => rfl); (case hr => first | (go_simp; done) | (go_simp; rfl)); intro gt hg w1 hbox hb; have HB := a_ hb; have BK := a_ hbox; clear hg hb hbox; obtain ⟨hz0, hz1, hz2, hz3, hz4, hz5, hz6, hz7, hz8, hz9, hz10, hz11⟩ := cs12 BK.out) | ((with_reducible refine gate_callee (f := 90) rfl ?_); refine goesL_ (some 10) rfl rfl Try.func90 (by kernel_rfl) rfl #[.string ⟨#[97, 65, 98, 66]⟩, .int .u8 97] rfl (by (try simp only [List.map_toArray, List.map_cons, List.map_nil]); first | done | rfl) ?_; (with_reducible refine (strings_IndexByte.calls ⟨#[97, 65, 98, 66]⟩ 97 0 _ (by decide +kernel)).mono ?_); rintro e w2 ⟨rfl, hdr⟩; refine ⟨_, rfl, ?_⟩; replace HB := a_ (show Below w.heap.size w w2 by obtain ⟨nd, rfl⟩ := hdr; exact bN_ HB.out nd); replace BK := a_ (show w2.heap[gt]? = _ by obtain ⟨nd, rfl⟩ := hdr; exact BK.out); clear hdr; obtain ⟨hy0, hy1, hy2, hy3, hy4, hy5, hy6, hy7, hy8, hy9, hy10, hy11⟩ := cs12 BK.out))
  repeat (go_quiet (first | ((with_reducible refine gate_dst (N := 3) rfl ?_); refine box_event ?hg (N := 3) ?hd (cs := #[.int .i64 a0_0, .int .i64 a0_1, .int .i64 a0_2, .int .i64 a0_3, .int .i64 a0_4, .int .i64 a0_5, .int .i64 a0_6, .int .i64 a0_7, .int .i64 a0_8, .int .i64 a0_9, .int .i64 a0_10, .int .i64 a0_11]) (t := 78) ?hr ?_; (case hd => rfl); (case hg => rfl); (case hr => first | (go_simp; done) | (go_simp; rfl)); intro gt hg w1 hbox hb; have HB := a_ hb; have BK := a_ hbox; clear hg hb hbox; obtain ⟨hz0, hz1, hz2, hz3, hz4, hz5, hz6, hz7, hz8, hz9, hz10, hz11⟩ := cs12 BK.out) | ((with_reducible refine gate_callee (f := 90) rfl ?_); refine goesL_ (some 10) rfl rfl Try.func90 (by kernel_rfl) rfl #[.string ⟨#[97, 65, 98, 66]⟩, .int .u8 97] rfl (by (try simp only [List.map_toArray, List.map_cons, List.map_nil]); first | done | rfl) ?_; (with_reducible refine (strings_IndexByte.calls ⟨#[97, 65, 98, 66]⟩ 97 0 _ (by decide +kernel)).mono ?_); rintro e w2 ⟨rfl, hdr⟩; refine ⟨_, rfl, ?_⟩; replace HB := a_ (show Below w.heap.size w w2 by obtain ⟨nd, rfl⟩ := hdr; exact bN_ HB.out nd); replace BK := a_ (show w2.heap[gt]? = _ by obtain ⟨nd, rfl⟩ := hdr; exact BK.out); clear hdr; obtain ⟨hy0, hy1, hy2, hy3, hy4, hy5, hy6, hy7, hy8, hy9, hy10, hy11⟩ := cs12 BK.out)))
  go_ret
  exact ⟨rfl, by first | exact HB.out | exact bA_ HB.out _⟩
theorem sent_98 (a0_0 : Int) (a0_1 : Int) (a0_2 : Int) (a0_3 : Int) (a0_4 : Int) (a0_5 : Int) (a0_6 : Int) (a0_7 : Int) (a0_8 : Int) (a0_9 : Int) (a0_10 : Int) (a0_11 : Int) (a1 : Int) (r : Int) (w : World) (h : rdA [a0_7, a0_8, a0_9, a0_10, a0_11] a1 = some r) :
  Calls Try.prog 70 #[.agg #[.int .i64 a0_0, .int .i64 a0_1, .int .i64 a0_2, .int .i64 a0_3, .int .i64 a0_4, .int .i64 a0_5, .int .i64 a0_6, .int .i64 a0_7, .int .i64 a0_8, .int .i64 a0_9, .int .i64 a0_10, .int .i64 a0_11], .int .i64 a1, .int .u8 98] w fun e w' => e = .returned (.int .i64 r) ∧ Below w.heap.size w w' := by
 have hu78 := Try.underlying78
 unfold rdA at h
 by_cases hc : 0 ≤ a1 ∧ a1 ≤ 4
 rotate_left
 ·rw [if_neg hc] at h; cases h
 rw [if_pos hc] at h
 obtain rfl := Option.some.inj h
 rcases five hc.1 hc.2 with rfl | rfl | rfl | rfl | rfl
 all_goals
  clear hc h
  go_enter Try.func70, Try.ntmps70
  go_wp2_with (first | ((with_reducible refine gate_dst (N := 3) rfl ?_); refine box_event ?hg (N := 3) ?hd (cs := #[.int .i64 a0_0, .int .i64 a0_1, .int .i64 a0_2, .int .i64 a0_3, .int .i64 a0_4, .int .i64 a0_5, .int .i64 a0_6, .int .i64 a0_7, .int .i64 a0_8, .int .i64 a0_9, .int .i64 a0_10, .int .i64 a0_11]) (t := 78) ?hr ?_; (case hd => rfl); (case hg => rfl); (case hr => first | (go_simp; done) | (go_simp; rfl)); intro gt hg w1 hbox hb; have HB := a_ hb; have BK := a_ hbox; clear hg hb hbox; obtain ⟨hz0, hz1, hz2, hz3, hz4, hz5, hz6, hz7, hz8, hz9, hz10, hz11⟩ := cs12 BK.out) | ((with_reducible refine gate_callee (f := 90) rfl ?_); refine goesL_ (some 10) rfl rfl Try.func90 (by kernel_rfl) rfl #[.string ⟨#[97, 65, 98, 66]⟩, .int .u8 98] rfl (by (try simp only [List.map_toArray, List.map_cons, List.map_nil]); first | done | rfl) ?_; (with_reducible refine (strings_IndexByte.calls ⟨#[97, 65, 98, 66]⟩ 98 2 _ (by decide +kernel)).mono ?_); rintro e w2 ⟨rfl, hdr⟩; refine ⟨_, rfl, ?_⟩; replace HB := a_ (show Below w.heap.size w w2 by obtain ⟨nd, rfl⟩ := hdr; exact bN_ HB.out nd); replace BK := a_ (show w2.heap[gt]? = _ by obtain ⟨nd, rfl⟩ := hdr; exact BK.out); clear hdr; obtain ⟨hy0, hy1, hy2, hy3, hy4, hy5, hy6, hy7, hy8, hy9, hy10, hy11⟩ := cs12 BK.out))
  repeat (go_quiet (first | ((with_reducible refine gate_dst (N := 3) rfl ?_); refine box_event ?hg (N := 3) ?hd (cs := #[.int .i64 a0_0, .int .i64 a0_1, .int .i64 a0_2, .int .i64 a0_3, .int .i64 a0_4, .int .i64 a0_5, .int .i64 a0_6, .int .i64 a0_7, .int .i64 a0_8, .int .i64 a0_9, .int .i64 a0_10, .int .i64 a0_11]) (t := 78) ?hr ?_; (case hd => rfl); (case hg => rfl); (case hr => first | (go_simp; done) | (go_simp; rfl)); intro gt hg w1 hbox hb; have HB := a_ hb; have BK := a_ hbox; clear hg hb hbox; obtain ⟨hz0, hz1, hz2, hz3, hz4, hz5, hz6, hz7, hz8, hz9, hz10, hz11⟩ := cs12 BK.out) | ((with_reducible refine gate_callee (f := 90) rfl ?_); refine goesL_ (some 10) rfl rfl Try.func90 (by kernel_rfl) rfl #[.string ⟨#[97, 65, 98, 66]⟩, .int .u8 98] rfl (by (try simp only [List.map_toArray, List.map_cons, List.map_nil]); first | done | rfl) ?_; (with_reducible refine (strings_IndexByte.calls ⟨#[97, 65, 98, 66]⟩ 98 2 _ (by decide +kernel)).mono ?_); rintro e w2 ⟨rfl, hdr⟩; refine ⟨_, rfl, ?_⟩; replace HB := a_ (show Below w.heap.size w w2 by obtain ⟨nd, rfl⟩ := hdr; exact bN_ HB.out nd); replace BK := a_ (show w2.heap[gt]? = _ by obtain ⟨nd, rfl⟩ := hdr; exact BK.out); clear hdr; obtain ⟨hy0, hy1, hy2, hy3, hy4, hy5, hy6, hy7, hy8, hy9, hy10, hy11⟩ := cs12 BK.out)))
  go_ret
  exact ⟨rfl, by first | exact HB.out | exact bA_ HB.out _⟩
theorem sent_65 (a0_0 : Int) (a0_1 : Int) (a0_2 : Int) (a0_3 : Int) (a0_4 : Int) (a0_5 : Int) (a0_6 : Int) (a0_7 : Int) (a0_8 : Int) (a0_9 : Int) (a0_10 : Int) (a0_11 : Int) (a1 : Int) (r : Int) (w : World) (h : (if 1 ≤ a0_1 ∧ a0_1 ≤ 5 then some (idxL a1 ([a0_2, a0_3, a0_4, a0_5, a0_6].take a0_1.toNat) 0) else none) = some r) :
  Calls Try.prog 70 #[.agg #[.int .i64 a0_0, .int .i64 a0_1, .int .i64 a0_2, .int .i64 a0_3, .int .i64 a0_4, .int .i64 a0_5, .int .i64 a0_6, .int .i64 a0_7, .int .i64 a0_8, .int .i64 a0_9, .int .i64 a0_10, .int .i64 a0_11], .int .i64 a1, .int .u8 65] w fun e w' => e = .returned (.int .i64 r) ∧ Below w.heap.size w w' := by
 have hu78 := Try.underlying78
 by_cases hc : 1 ≤ a0_1 ∧ a0_1 ≤ 5
 rotate_left
 ·rw [if_neg hc] at h; cases h
 rw [if_pos hc] at h
 obtain rfl := Option.some.inj h
 rcases fiveUp hc.1 hc.2 with rfl | rfl | rfl | rfl | rfl
 ·clear hc h
  go_enter Try.func70, Try.ntmps70
  go_upto_region 5 with (first | ((with_reducible refine gate_dst (N := 3) rfl ?_); refine box_event ?hg (N := 3) ?hd (cs := #[.int .i64 a0_0, .int .i64 1, .int .i64 a0_2, .int .i64 a0_3, .int .i64 a0_4, .int .i64 a0_5, .int .i64 a0_6, .int .i64 a0_7, .int .i64 a0_8, .int .i64 a0_9, .int .i64 a0_10, .int .i64 a0_11]) (t := 78) ?hr ?_; (case hd => rfl); (case hg => rfl); (case hr => first | (go_simp; done) | (go_simp; rfl)); intro gt hg w1 hbox hb; have HB := a_ hb; have BK := a_ hbox; clear hg hb hbox; obtain ⟨hz0, hz1, hz2, hz3, hz4, hz5, hz6, hz7, hz8, hz9, hz10, hz11⟩ := cs12 BK.out) | ((with_reducible refine gate_callee (f := 90) rfl ?_); refine goesL_ (some 10) rfl rfl Try.func90 (by kernel_rfl) rfl #[.string ⟨#[97, 65, 98, 66]⟩, .int .u8 65] rfl (by (try simp only [List.map_toArray, List.map_cons, List.map_nil]); first | done | rfl) ?_; (with_reducible refine (strings_IndexByte.calls ⟨#[97, 65, 98, 66]⟩ 65 1 _ (by decide +kernel)).mono ?_); rintro e w2 ⟨rfl, hdr⟩; refine ⟨_, rfl, ?_⟩; replace HB := a_ (show Below w.heap.size w w2 by obtain ⟨nd, rfl⟩ := hdr; exact bN_ HB.out nd); replace BK := a_ (show w2.heap[gt]? = _ by obtain ⟨nd, rfl⟩ := hdr; exact BK.out); clear hdr; obtain ⟨hy0, hy1, hy2, hy3, hy4, hy5, hy6, hy7, hy8, hy9, hy10, hy11⟩ := cs12 BK.out))
  obtain ⟨w3, hw3⟩ : ∃ w3, w2.alloc (.cells #[.int .i64 a0_2, .int .i64 a0_3, .int .i64 a0_4, .int .i64 a0_5, .int .i64 a0_6] 75) = w3 := ⟨_, rfl⟩
  have hbk : w3.heap[w2.heap.size]? = some (.cells #[.int .i64 a0_2, .int .i64 a0_3, .int .i64 a0_4, .int .i64 a0_5, .int .i64 a0_6] 75 (0, 0)) := by rw [← hw3]; exact blk_new _ _
  have hb3 : Below w.heap.size w w3 := by rw [← hw3]; exact bA_ HB.out _
  have hz1 : w3.cell? ⟨gt, 1, none⟩ = some (.int .i64 1) := by rw [← hw3]; exact (kc_ (kA_ BK.out _) 1).trans rfl
  rw [hw3]
  have hidx := sl_Index_int_int.calls 2 (some ⟨w2.heap.size, 0, none⟩) 5 [a0_2] a1 _ w3 (C_block hbk _ (by simp) (fun j hj => by rcases j with _ | _ | _ | _ | _ | j <;> first | rfl | (simp at hj <;> omega))) (by simp) (Index_f a1 [a0_2] (by simp) 2 (by simp))
  have HIDX := a_ hidx
  have HB3 := a_ hb3
  clear hidx hb3 hbk hw3 HB BK
  go_wp2_with (first | (go_at_call 88; refine HIDX.out.mono ?_; rintro e w4 ⟨rfl, ⟨nd2, rfl⟩⟩))
  go_ret
  exact ⟨rfl, bN_ HB3.out nd2⟩
 ·clear hc h
  go_enter Try.func70, Try.ntmps70
  go_upto_region 5 with (first | ((with_reducible refine gate_dst (N := 3) rfl ?_); refine box_event ?hg (N := 3) ?hd (cs := #[.int .i64 a0_0, .int .i64 2, .int .i64 a0_2, .int .i64 a0_3, .int .i64 a0_4, .int .i64 a0_5, .int .i64 a0_6, .int .i64 a0_7, .int .i64 a0_8, .int .i64 a0_9, .int .i64 a0_10, .int .i64 a0_11]) (t := 78) ?hr ?_; (case hd => rfl); (case hg => rfl); (case hr => first | (go_simp; done) | (go_simp; rfl)); intro gt hg w1 hbox hb; have HB := a_ hb; have BK := a_ hbox; clear hg hb hbox; obtain ⟨hz0, hz1, hz2, hz3, hz4, hz5, hz6, hz7, hz8, hz9, hz10, hz11⟩ := cs12 BK.out) | ((with_reducible refine gate_callee (f := 90) rfl ?_); refine goesL_ (some 10) rfl rfl Try.func90 (by kernel_rfl) rfl #[.string ⟨#[97, 65, 98, 66]⟩, .int .u8 65] rfl (by (try simp only [List.map_toArray, List.map_cons, List.map_nil]); first | done | rfl) ?_; (with_reducible refine (strings_IndexByte.calls ⟨#[97, 65, 98, 66]⟩ 65 1 _ (by decide +kernel)).mono ?_); rintro e w2 ⟨rfl, hdr⟩; refine ⟨_, rfl, ?_⟩; replace HB := a_ (show Below w.heap.size w w2 by obtain ⟨nd, rfl⟩ := hdr; exact bN_ HB.out nd); replace BK := a_ (show w2.heap[gt]? = _ by obtain ⟨nd, rfl⟩ := hdr; exact BK.out); clear hdr; obtain ⟨hy0, hy1, hy2, hy3, hy4, hy5, hy6, hy7, hy8, hy9, hy10, hy11⟩ := cs12 BK.out))
  obtain ⟨w3, hw3⟩ : ∃ w3, w2.alloc (.cells #[.int .i64 a0_2, .int .i64 a0_3, .int .i64 a0_4, .int .i64 a0_5, .int .i64 a0_6] 75) = w3 := ⟨_, rfl⟩
  have hbk : w3.heap[w2.heap.size]? = some (.cells #[.int .i64 a0_2, .int .i64 a0_3, .int .i64 a0_4, .int .i64 a0_5, .int .i64 a0_6] 75 (0, 0)) := by rw [← hw3]; exact blk_new _ _
  have hb3 : Below w.heap.size w w3 := by rw [← hw3]; exact bA_ HB.out _
  have hz1 : w3.cell? ⟨gt, 1, none⟩ = some (.int .i64 2) := by rw [← hw3]; exact (kc_ (kA_ BK.out _) 1).trans rfl
  rw [hw3]
  have hidx := sl_Index_int_int.calls 3 (some ⟨w2.heap.size, 0, none⟩) 5 [a0_2, a0_3] a1 _ w3 (C_block hbk _ (by simp) (fun j hj => by rcases j with _ | _ | _ | _ | _ | j <;> first | rfl | (simp at hj <;> omega))) (by simp) (Index_f a1 [a0_2, a0_3] (by simp) 3 (by simp))
  have HIDX := a_ hidx
  have HB3 := a_ hb3
  clear hidx hb3 hbk hw3 HB BK
  go_wp2_with (first | (go_at_call 88; refine HIDX.out.mono ?_; rintro e w4 ⟨rfl, ⟨nd2, rfl⟩⟩))
  go_ret
  exact ⟨rfl, bN_ HB3.out nd2⟩
 ·clear hc h
  go_enter Try.func70, Try.ntmps70
  go_upto_region 5 with (first | ((with_reducible refine gate_dst (N := 3) rfl ?_); refine box_event ?hg (N := 3) ?hd (cs := #[.int .i64 a0_0, .int .i64 3, .int .i64 a0_2, .int .i64 a0_3, .int .i64 a0_4, .int .i64 a0_5, .int .i64 a0_6, .int .i64 a0_7, .int .i64 a0_8, .int .i64 a0_9, .int .i64 a0_10, .int .i64 a0_11]) (t := 78) ?hr ?_; (case hd => rfl); (case hg => rfl); (case hr => first | (go_simp; done) | (go_simp; rfl)); intro gt hg w1 hbox hb; have HB := a_ hb; have BK := a_ hbox; clear hg hb hbox; obtain ⟨hz0, hz1, hz2, hz3, hz4, hz5, hz6, hz7, hz8, hz9, hz10, hz11⟩ := cs12 BK.out) | ((with_reducible refine gate_callee (f := 90) rfl ?_); refine goesL_ (some 10) rfl rfl Try.func90 (by kernel_rfl) rfl #[.string ⟨#[97, 65, 98, 66]⟩, .int .u8 65] rfl (by (try simp only [List.map_toArray, List.map_cons, List.map_nil]); first | done | rfl) ?_; (with_reducible refine (strings_IndexByte.calls ⟨#[97, 65, 98, 66]⟩ 65 1 _ (by decide +kernel)).mono ?_); rintro e w2 ⟨rfl, hdr⟩; refine ⟨_, rfl, ?_⟩; replace HB := a_ (show Below w.heap.size w w2 by obtain ⟨nd, rfl⟩ := hdr; exact bN_ HB.out nd); replace BK := a_ (show w2.heap[gt]? = _ by obtain ⟨nd, rfl⟩ := hdr; exact BK.out); clear hdr; obtain ⟨hy0, hy1, hy2, hy3, hy4, hy5, hy6, hy7, hy8, hy9, hy10, hy11⟩ := cs12 BK.out))
  obtain ⟨w3, hw3⟩ : ∃ w3, w2.alloc (.cells #[.int .i64 a0_2, .int .i64 a0_3, .int .i64 a0_4, .int .i64 a0_5, .int .i64 a0_6] 75) = w3 := ⟨_, rfl⟩
  have hbk : w3.heap[w2.heap.size]? = some (.cells #[.int .i64 a0_2, .int .i64 a0_3, .int .i64 a0_4, .int .i64 a0_5, .int .i64 a0_6] 75 (0, 0)) := by rw [← hw3]; exact blk_new _ _
  have hb3 : Below w.heap.size w w3 := by rw [← hw3]; exact bA_ HB.out _
  have hz1 : w3.cell? ⟨gt, 1, none⟩ = some (.int .i64 3) := by rw [← hw3]; exact (kc_ (kA_ BK.out _) 1).trans rfl
  rw [hw3]
  have hidx := sl_Index_int_int.calls 4 (some ⟨w2.heap.size, 0, none⟩) 5 [a0_2, a0_3, a0_4] a1 _ w3 (C_block hbk _ (by simp) (fun j hj => by rcases j with _ | _ | _ | _ | _ | j <;> first | rfl | (simp at hj <;> omega))) (by simp) (Index_f a1 [a0_2, a0_3, a0_4] (by simp) 4 (by simp))
  have HIDX := a_ hidx
  have HB3 := a_ hb3
  clear hidx hb3 hbk hw3 HB BK
  go_wp2_with (first | (go_at_call 88; refine HIDX.out.mono ?_; rintro e w4 ⟨rfl, ⟨nd2, rfl⟩⟩))
  go_ret
  exact ⟨rfl, bN_ HB3.out nd2⟩
 ·clear hc h
  go_enter Try.func70, Try.ntmps70
  go_upto_region 5 with (first | ((with_reducible refine gate_dst (N := 3) rfl ?_); refine box_event ?hg (N := 3) ?hd (cs := #[.int .i64 a0_0, .int .i64 4, .int .i64 a0_2, .int .i64 a0_3, .int .i64 a0_4, .int .i64 a0_5, .int .i64 a0_6, .int .i64 a0_7, .int .i64 a0_8, .int .i64 a0_9, .int .i64 a0_10, .int .i64 a0_11]) (t := 78) ?hr ?_; (case hd => rfl); (case hg => rfl); (case hr => first | (go_simp; done) | (go_simp; rfl)); intro gt hg w1 hbox hb; have HB := a_ hb; have BK := a_ hbox; clear hg hb hbox; obtain ⟨hz0, hz1, hz2, hz3, hz4, hz5, hz6, hz7, hz8, hz9, hz10, hz11⟩ := cs12 BK.out) | ((with_reducible refine gate_callee (f := 90) rfl ?_); refine goesL_ (some 10) rfl rfl Try.func90 (by kernel_rfl) rfl #[.string ⟨#[97, 65, 98, 66]⟩, .int .u8 65] rfl (by (try simp only [List.map_toArray, List.map_cons, List.map_nil]); first | done | rfl) ?_; (with_reducible refine (strings_IndexByte.calls ⟨#[97, 65, 98, 66]⟩ 65 1 _ (by decide +kernel)).mono ?_); rintro e w2 ⟨rfl, hdr⟩; refine ⟨_, rfl, ?_⟩; replace HB := a_ (show Below w.heap.size w w2 by obtain ⟨nd, rfl⟩ := hdr; exact bN_ HB.out nd); replace BK := a_ (show w2.heap[gt]? = _ by obtain ⟨nd, rfl⟩ := hdr; exact BK.out); clear hdr; obtain ⟨hy0, hy1, hy2, hy3, hy4, hy5, hy6, hy7, hy8, hy9, hy10, hy11⟩ := cs12 BK.out))
  obtain ⟨w3, hw3⟩ : ∃ w3, w2.alloc (.cells #[.int .i64 a0_2, .int .i64 a0_3, .int .i64 a0_4, .int .i64 a0_5, .int .i64 a0_6] 75) = w3 := ⟨_, rfl⟩
  have hbk : w3.heap[w2.heap.size]? = some (.cells #[.int .i64 a0_2, .int .i64 a0_3, .int .i64 a0_4, .int .i64 a0_5, .int .i64 a0_6] 75 (0, 0)) := by rw [← hw3]; exact blk_new _ _
  have hb3 : Below w.heap.size w w3 := by rw [← hw3]; exact bA_ HB.out _
  have hz1 : w3.cell? ⟨gt, 1, none⟩ = some (.int .i64 4) := by rw [← hw3]; exact (kc_ (kA_ BK.out _) 1).trans rfl
  rw [hw3]
  have hidx := sl_Index_int_int.calls 5 (some ⟨w2.heap.size, 0, none⟩) 5 [a0_2, a0_3, a0_4, a0_5] a1 _ w3 (C_block hbk _ (by simp) (fun j hj => by rcases j with _ | _ | _ | _ | _ | j <;> first | rfl | (simp at hj <;> omega))) (by simp) (Index_f a1 [a0_2, a0_3, a0_4, a0_5] (by simp) 5 (by simp))
  have HIDX := a_ hidx
  have HB3 := a_ hb3
  clear hidx hb3 hbk hw3 HB BK
  go_wp2_with (first | (go_at_call 88; refine HIDX.out.mono ?_; rintro e w4 ⟨rfl, ⟨nd2, rfl⟩⟩))
  go_ret
  exact ⟨rfl, bN_ HB3.out nd2⟩
 ·clear hc h
  go_enter Try.func70, Try.ntmps70
  go_upto_region 5 with (first | ((with_reducible refine gate_dst (N := 3) rfl ?_); refine box_event ?hg (N := 3) ?hd (cs := #[.int .i64 a0_0, .int .i64 5, .int .i64 a0_2, .int .i64 a0_3, .int .i64 a0_4, .int .i64 a0_5, .int .i64 a0_6, .int .i64 a0_7, .int .i64 a0_8, .int .i64 a0_9, .int .i64 a0_10, .int .i64 a0_11]) (t := 78) ?hr ?_; (case hd => rfl); (case hg => rfl); (case hr => first | (go_simp; done) | (go_simp; rfl)); intro gt hg w1 hbox hb; have HB := a_ hb; have BK := a_ hbox; clear hg hb hbox; obtain ⟨hz0, hz1, hz2, hz3, hz4, hz5, hz6, hz7, hz8, hz9, hz10, hz11⟩ := cs12 BK.out) | ((with_reducible refine gate_callee (f := 90) rfl ?_); refine goesL_ (some 10) rfl rfl Try.func90 (by kernel_rfl) rfl #[.string ⟨#[97, 65, 98, 66]⟩, .int .u8 65] rfl (by (try simp only [List.map_toArray, List.map_cons, List.map_nil]); first | done | rfl) ?_; (with_reducible refine (strings_IndexByte.calls ⟨#[97, 65, 98, 66]⟩ 65 1 _ (by decide +kernel)).mono ?_); rintro e w2 ⟨rfl, hdr⟩; refine ⟨_, rfl, ?_⟩; replace HB := a_ (show Below w.heap.size w w2 by obtain ⟨nd, rfl⟩ := hdr; exact bN_ HB.out nd); replace BK := a_ (show w2.heap[gt]? = _ by obtain ⟨nd, rfl⟩ := hdr; exact BK.out); clear hdr; obtain ⟨hy0, hy1, hy2, hy3, hy4, hy5, hy6, hy7, hy8, hy9, hy10, hy11⟩ := cs12 BK.out))
  obtain ⟨w3, hw3⟩ : ∃ w3, w2.alloc (.cells #[.int .i64 a0_2, .int .i64 a0_3, .int .i64 a0_4, .int .i64 a0_5, .int .i64 a0_6] 75) = w3 := ⟨_, rfl⟩
  have hbk : w3.heap[w2.heap.size]? = some (.cells #[.int .i64 a0_2, .int .i64 a0_3, .int .i64 a0_4, .int .i64 a0_5, .int .i64 a0_6] 75 (0, 0)) := by rw [← hw3]; exact blk_new _ _
  have hb3 : Below w.heap.size w w3 := by rw [← hw3]; exact bA_ HB.out _
  have hz1 : w3.cell? ⟨gt, 1, none⟩ = some (.int .i64 5) := by rw [← hw3]; exact (kc_ (kA_ BK.out _) 1).trans rfl
  rw [hw3]
  have hidx := sl_Index_int_int.calls 6 (some ⟨w2.heap.size, 0, none⟩) 5 [a0_2, a0_3, a0_4, a0_5, a0_6] a1 _ w3 (C_block hbk _ (by simp) (fun j hj => by rcases j with _ | _ | _ | _ | _ | j <;> first | rfl | (simp at hj <;> omega))) (by simp) (Index_f a1 [a0_2, a0_3, a0_4, a0_5, a0_6] (by simp) 6 (by simp))
  have HIDX := a_ hidx
  have HB3 := a_ hb3
  clear hidx hb3 hbk hw3 HB BK
  go_wp2_with (first | (go_at_call 88; refine HIDX.out.mono ?_; rintro e w4 ⟨rfl, ⟨nd2, rfl⟩⟩))
  go_ret
  exact ⟨rfl, bN_ HB3.out nd2⟩
theorem sent_66 (a0_0 : Int) (a0_1 : Int) (a0_2 : Int) (a0_3 : Int) (a0_4 : Int) (a0_5 : Int) (a0_6 : Int) (a0_7 : Int) (a0_8 : Int) (a0_9 : Int) (a0_10 : Int) (a0_11 : Int) (a1 : Int) (r : Int) (w : World) (h : (if 1 ≤ a0_1 ∧ a0_1 ≤ 5 then some (idxL a1 ([a0_7, a0_8, a0_9, a0_10, a0_11].take a0_1.toNat) 0) else none) = some r) :
  Calls Try.prog 70 #[.agg #[.int .i64 a0_0, .int .i64 a0_1, .int .i64 a0_2, .int .i64 a0_3, .int .i64 a0_4, .int .i64 a0_5, .int .i64 a0_6, .int .i64 a0_7, .int .i64 a0_8, .int .i64 a0_9, .int .i64 a0_10, .int .i64 a0_11], .int .i64 a1, .int .u8 66] w fun e w' => e = .returned (.int .i64 r) ∧ Below w.heap.size w w' := by
 have hu78 := Try.underlying78
 by_cases hc : 1 ≤ a0_1 ∧ a0_1 ≤ 5
 rotate_left
 ·rw [if_neg hc] at h; cases h
 rw [if_pos hc] at h
 obtain rfl := Option.some.inj h
 rcases fiveUp hc.1 hc.2 with rfl | rfl | rfl | rfl | rfl
 ·clear hc h
  go_enter Try.func70, Try.ntmps70
  go_upto_region 5 with (first | ((with_reducible refine gate_dst (N := 3) rfl ?_); refine box_event ?hg (N := 3) ?hd (cs := #[.int .i64 a0_0, .int .i64 1, .int .i64 a0_2, .int .i64 a0_3, .int .i64 a0_4, .int .i64 a0_5, .int .i64 a0_6, .int .i64 a0_7, .int .i64 a0_8, .int .i64 a0_9, .int .i64 a0_10, .int .i64 a0_11]) (t := 78) ?hr ?_; (case hd => rfl); (case hg => rfl); (case hr => first | (go_simp; done) | (go_simp; rfl)); intro gt hg w1 hbox hb; have HB := a_ hb; have BK := a_ hbox; clear hg hb hbox; obtain ⟨hz0, hz1, hz2, hz3, hz4, hz5, hz6, hz7, hz8, hz9, hz10, hz11⟩ := cs12 BK.out) | ((with_reducible refine gate_callee (f := 90) rfl ?_); refine goesL_ (some 10) rfl rfl Try.func90 (by kernel_rfl) rfl #[.string ⟨#[97, 65, 98, 66]⟩, .int .u8 66] rfl (by (try simp only [List.map_toArray, List.map_cons, List.map_nil]); first | done | rfl) ?_; (with_reducible refine (strings_IndexByte.calls ⟨#[97, 65, 98, 66]⟩ 66 3 _ (by decide +kernel)).mono ?_); rintro e w2 ⟨rfl, hdr⟩; refine ⟨_, rfl, ?_⟩; replace HB := a_ (show Below w.heap.size w w2 by obtain ⟨nd, rfl⟩ := hdr; exact bN_ HB.out nd); replace BK := a_ (show w2.heap[gt]? = _ by obtain ⟨nd, rfl⟩ := hdr; exact BK.out); clear hdr; obtain ⟨hy0, hy1, hy2, hy3, hy4, hy5, hy6, hy7, hy8, hy9, hy10, hy11⟩ := cs12 BK.out))
  obtain ⟨w3, hw3⟩ : ∃ w3, w2.alloc (.cells #[.int .i64 a0_7, .int .i64 a0_8, .int .i64 a0_9, .int .i64 a0_10, .int .i64 a0_11] 75) = w3 := ⟨_, rfl⟩
  have hbk : w3.heap[w2.heap.size]? = some (.cells #[.int .i64 a0_7, .int .i64 a0_8, .int .i64 a0_9, .int .i64 a0_10, .int .i64 a0_11] 75 (0, 0)) := by rw [← hw3]; exact blk_new _ _
  have hb3 : Below w.heap.size w w3 := by rw [← hw3]; exact bA_ HB.out _
  have hz1 : w3.cell? ⟨gt, 1, none⟩ = some (.int .i64 1) := by rw [← hw3]; exact (kc_ (kA_ BK.out _) 1).trans rfl
  rw [hw3]
  have hidx := sl_Index_int_int.calls 2 (some ⟨w2.heap.size, 0, none⟩) 5 [a0_7] a1 _ w3 (C_block hbk _ (by simp) (fun j hj => by rcases j with _ | _ | _ | _ | _ | j <;> first | rfl | (simp at hj <;> omega))) (by simp) (Index_f a1 [a0_7] (by simp) 2 (by simp))
  have HIDX := a_ hidx
  have HB3 := a_ hb3
  clear hidx hb3 hbk hw3 HB BK
  go_wp2_with (first | (go_at_call 88; refine HIDX.out.mono ?_; rintro e w4 ⟨rfl, ⟨nd2, rfl⟩⟩))
  go_ret
  exact ⟨rfl, bN_ HB3.out nd2⟩
 ·clear hc h
  go_enter Try.func70, Try.ntmps70
  go_upto_region 5 with (first | ((with_reducible refine gate_dst (N := 3) rfl ?_); refine box_event ?hg (N := 3) ?hd (cs := #[.int .i64 a0_0, .int .i64 2, .int .i64 a0_2, .int .i64 a0_3, .int .i64 a0_4, .int .i64 a0_5, .int .i64 a0_6, .int .i64 a0_7, .int .i64 a0_8, .int .i64 a0_9, .int .i64 a0_10, .int .i64 a0_11]) (t := 78) ?hr ?_; (case hd => rfl); (case hg => rfl); (case hr => first | (go_simp; done) | (go_simp; rfl)); intro gt hg w1 hbox hb; have HB := a_ hb; have BK := a_ hbox; clear hg hb hbox; obtain ⟨hz0, hz1, hz2, hz3, hz4, hz5, hz6, hz7, hz8, hz9, hz10, hz11⟩ := cs12 BK.out) | ((with_reducible refine gate_callee (f := 90) rfl ?_); refine goesL_ (some 10) rfl rfl Try.func90 (by kernel_rfl) rfl #[.string ⟨#[97, 65, 98, 66]⟩, .int .u8 66] rfl (by (try simp only [List.map_toArray, List.map_cons, List.map_nil]); first | done | rfl) ?_; (with_reducible refine (strings_IndexByte.calls ⟨#[97, 65, 98, 66]⟩ 66 3 _ (by decide +kernel)).mono ?_); rintro e w2 ⟨rfl, hdr⟩; refine ⟨_, rfl, ?_⟩; replace HB := a_ (show Below w.heap.size w w2 by obtain ⟨nd, rfl⟩ := hdr; exact bN_ HB.out nd); replace BK := a_ (show w2.heap[gt]? = _ by obtain ⟨nd, rfl⟩ := hdr; exact BK.out); clear hdr; obtain ⟨hy0, hy1, hy2, hy3, hy4, hy5, hy6, hy7, hy8, hy9, hy10, hy11⟩ := cs12 BK.out))
  obtain ⟨w3, hw3⟩ : ∃ w3, w2.alloc (.cells #[.int .i64 a0_7, .int .i64 a0_8, .int .i64 a0_9, .int .i64 a0_10, .int .i64 a0_11] 75) = w3 := ⟨_, rfl⟩
  have hbk : w3.heap[w2.heap.size]? = some (.cells #[.int .i64 a0_7, .int .i64 a0_8, .int .i64 a0_9, .int .i64 a0_10, .int .i64 a0_11] 75 (0, 0)) := by rw [← hw3]; exact blk_new _ _
  have hb3 : Below w.heap.size w w3 := by rw [← hw3]; exact bA_ HB.out _
  have hz1 : w3.cell? ⟨gt, 1, none⟩ = some (.int .i64 2) := by rw [← hw3]; exact (kc_ (kA_ BK.out _) 1).trans rfl
  rw [hw3]
  have hidx := sl_Index_int_int.calls 3 (some ⟨w2.heap.size, 0, none⟩) 5 [a0_7, a0_8] a1 _ w3 (C_block hbk _ (by simp) (fun j hj => by rcases j with _ | _ | _ | _ | _ | j <;> first | rfl | (simp at hj <;> omega))) (by simp) (Index_f a1 [a0_7, a0_8] (by simp) 3 (by simp))
  have HIDX := a_ hidx
  have HB3 := a_ hb3
  clear hidx hb3 hbk hw3 HB BK
  go_wp2_with (first | (go_at_call 88; refine HIDX.out.mono ?_; rintro e w4 ⟨rfl, ⟨nd2, rfl⟩⟩))
  go_ret
  exact ⟨rfl, bN_ HB3.out nd2⟩
 ·clear hc h
  go_enter Try.func70, Try.ntmps70
  go_upto_region 5 with (first | ((with_reducible refine gate_dst (N := 3) rfl ?_); refine box_event ?hg (N := 3) ?hd (cs := #[.int .i64 a0_0, .int .i64 3, .int .i64 a0_2, .int .i64 a0_3, .int .i64 a0_4, .int .i64 a0_5, .int .i64 a0_6, .int .i64 a0_7, .int .i64 a0_8, .int .i64 a0_9, .int .i64 a0_10, .int .i64 a0_11]) (t := 78) ?hr ?_; (case hd => rfl); (case hg => rfl); (case hr => first | (go_simp; done) | (go_simp; rfl)); intro gt hg w1 hbox hb; have HB := a_ hb; have BK := a_ hbox; clear hg hb hbox; obtain ⟨hz0, hz1, hz2, hz3, hz4, hz5, hz6, hz7, hz8, hz9, hz10, hz11⟩ := cs12 BK.out) | ((with_reducible refine gate_callee (f := 90) rfl ?_); refine goesL_ (some 10) rfl rfl Try.func90 (by kernel_rfl) rfl #[.string ⟨#[97, 65, 98, 66]⟩, .int .u8 66] rfl (by (try simp only [List.map_toArray, List.map_cons, List.map_nil]); first | done | rfl) ?_; (with_reducible refine (strings_IndexByte.calls ⟨#[97, 65, 98, 66]⟩ 66 3 _ (by decide +kernel)).mono ?_); rintro e w2 ⟨rfl, hdr⟩; refine ⟨_, rfl, ?_⟩; replace HB := a_ (show Below w.heap.size w w2 by obtain ⟨nd, rfl⟩ := hdr; exact bN_ HB.out nd); replace BK := a_ (show w2.heap[gt]? = _ by obtain ⟨nd, rfl⟩ := hdr; exact BK.out); clear hdr; obtain ⟨hy0, hy1, hy2, hy3, hy4, hy5, hy6, hy7, hy8, hy9, hy10, hy11⟩ := cs12 BK.out))
  obtain ⟨w3, hw3⟩ : ∃ w3, w2.alloc (.cells #[.int .i64 a0_7, .int .i64 a0_8, .int .i64 a0_9, .int .i64 a0_10, .int .i64 a0_11] 75) = w3 := ⟨_, rfl⟩
  have hbk : w3.heap[w2.heap.size]? = some (.cells #[.int .i64 a0_7, .int .i64 a0_8, .int .i64 a0_9, .int .i64 a0_10, .int .i64 a0_11] 75 (0, 0)) := by rw [← hw3]; exact blk_new _ _
  have hb3 : Below w.heap.size w w3 := by rw [← hw3]; exact bA_ HB.out _
  have hz1 : w3.cell? ⟨gt, 1, none⟩ = some (.int .i64 3) := by rw [← hw3]; exact (kc_ (kA_ BK.out _) 1).trans rfl
  rw [hw3]
  have hidx := sl_Index_int_int.calls 4 (some ⟨w2.heap.size, 0, none⟩) 5 [a0_7, a0_8, a0_9] a1 _ w3 (C_block hbk _ (by simp) (fun j hj => by rcases j with _ | _ | _ | _ | _ | j <;> first | rfl | (simp at hj <;> omega))) (by simp) (Index_f a1 [a0_7, a0_8, a0_9] (by simp) 4 (by simp))
  have HIDX := a_ hidx
  have HB3 := a_ hb3
  clear hidx hb3 hbk hw3 HB BK
  go_wp2_with (first | (go_at_call 88; refine HIDX.out.mono ?_; rintro e w4 ⟨rfl, ⟨nd2, rfl⟩⟩))
  go_ret
  exact ⟨rfl, bN_ HB3.out nd2⟩
 ·clear hc h
  go_enter Try.func70, Try.ntmps70
  go_upto_region 5 with (first | ((with_reducible refine gate_dst (N := 3) rfl ?_); refine box_event ?hg (N := 3) ?hd (cs := #[.int .i64 a0_0, .int .i64 4, .int .i64 a0_2, .int .i64 a0_3, .int .i64 a0_4, .int .i64 a0_5, .int .i64 a0_6, .int .i64 a0_7, .int .i64 a0_8, .int .i64 a0_9, .int .i64 a0_10, .int .i64 a0_11]) (t := 78) ?hr ?_; (case hd => rfl); (case hg => rfl); (case hr => first | (go_simp; done) | (go_simp; rfl)); intro gt hg w1 hbox hb; have HB := a_ hb; have BK := a_ hbox; clear hg hb hbox; obtain ⟨hz0, hz1, hz2, hz3, hz4, hz5, hz6, hz7, hz8, hz9, hz10, hz11⟩ := cs12 BK.out) | ((with_reducible refine gate_callee (f := 90) rfl ?_); refine goesL_ (some 10) rfl rfl Try.func90 (by kernel_rfl) rfl #[.string ⟨#[97, 65, 98, 66]⟩, .int .u8 66] rfl (by (try simp only [List.map_toArray, List.map_cons, List.map_nil]); first | done | rfl) ?_; (with_reducible refine (strings_IndexByte.calls ⟨#[97, 65, 98, 66]⟩ 66 3 _ (by decide +kernel)).mono ?_); rintro e w2 ⟨rfl, hdr⟩; refine ⟨_, rfl, ?_⟩; replace HB := a_ (show Below w.heap.size w w2 by obtain ⟨nd, rfl⟩ := hdr; exact bN_ HB.out nd); replace BK := a_ (show w2.heap[gt]? = _ by obtain ⟨nd, rfl⟩ := hdr; exact BK.out); clear hdr; obtain ⟨hy0, hy1, hy2, hy3, hy4, hy5, hy6, hy7, hy8, hy9, hy10, hy11⟩ := cs12 BK.out))
  obtain ⟨w3, hw3⟩ : ∃ w3, w2.alloc (.cells #[.int .i64 a0_7, .int .i64 a0_8, .int .i64 a0_9, .int .i64 a0_10, .int .i64 a0_11] 75) = w3 := ⟨_, rfl⟩
  have hbk : w3.heap[w2.heap.size]? = some (.cells #[.int .i64 a0_7, .int .i64 a0_8, .int .i64 a0_9, .int .i64 a0_10, .int .i64 a0_11] 75 (0, 0)) := by rw [← hw3]; exact blk_new _ _
  have hb3 : Below w.heap.size w w3 := by rw [← hw3]; exact bA_ HB.out _
  have hz1 : w3.cell? ⟨gt, 1, none⟩ = some (.int .i64 4) := by rw [← hw3]; exact (kc_ (kA_ BK.out _) 1).trans rfl
  rw [hw3]
  have hidx := sl_Index_int_int.calls 5 (some ⟨w2.heap.size, 0, none⟩) 5 [a0_7, a0_8, a0_9, a0_10] a1 _ w3 (C_block hbk _ (by simp) (fun j hj => by rcases j with _ | _ | _ | _ | _ | j <;> first | rfl | (simp at hj <;> omega))) (by simp) (Index_f a1 [a0_7, a0_8, a0_9, a0_10] (by simp) 5 (by simp))
  have HIDX := a_ hidx
  have HB3 := a_ hb3
  clear hidx hb3 hbk hw3 HB BK
  go_wp2_with (first | (go_at_call 88; refine HIDX.out.mono ?_; rintro e w4 ⟨rfl, ⟨nd2, rfl⟩⟩))
  go_ret
  exact ⟨rfl, bN_ HB3.out nd2⟩
 ·clear hc h
  go_enter Try.func70, Try.ntmps70
  go_upto_region 5 with (first | ((with_reducible refine gate_dst (N := 3) rfl ?_); refine box_event ?hg (N := 3) ?hd (cs := #[.int .i64 a0_0, .int .i64 5, .int .i64 a0_2, .int .i64 a0_3, .int .i64 a0_4, .int .i64 a0_5, .int .i64 a0_6, .int .i64 a0_7, .int .i64 a0_8, .int .i64 a0_9, .int .i64 a0_10, .int .i64 a0_11]) (t := 78) ?hr ?_; (case hd => rfl); (case hg => rfl); (case hr => first | (go_simp; done) | (go_simp; rfl)); intro gt hg w1 hbox hb; have HB := a_ hb; have BK := a_ hbox; clear hg hb hbox; obtain ⟨hz0, hz1, hz2, hz3, hz4, hz5, hz6, hz7, hz8, hz9, hz10, hz11⟩ := cs12 BK.out) | ((with_reducible refine gate_callee (f := 90) rfl ?_); refine goesL_ (some 10) rfl rfl Try.func90 (by kernel_rfl) rfl #[.string ⟨#[97, 65, 98, 66]⟩, .int .u8 66] rfl (by (try simp only [List.map_toArray, List.map_cons, List.map_nil]); first | done | rfl) ?_; (with_reducible refine (strings_IndexByte.calls ⟨#[97, 65, 98, 66]⟩ 66 3 _ (by decide +kernel)).mono ?_); rintro e w2 ⟨rfl, hdr⟩; refine ⟨_, rfl, ?_⟩; replace HB := a_ (show Below w.heap.size w w2 by obtain ⟨nd, rfl⟩ := hdr; exact bN_ HB.out nd); replace BK := a_ (show w2.heap[gt]? = _ by obtain ⟨nd, rfl⟩ := hdr; exact BK.out); clear hdr; obtain ⟨hy0, hy1, hy2, hy3, hy4, hy5, hy6, hy7, hy8, hy9, hy10, hy11⟩ := cs12 BK.out))
  obtain ⟨w3, hw3⟩ : ∃ w3, w2.alloc (.cells #[.int .i64 a0_7, .int .i64 a0_8, .int .i64 a0_9, .int .i64 a0_10, .int .i64 a0_11] 75) = w3 := ⟨_, rfl⟩
  have hbk : w3.heap[w2.heap.size]? = some (.cells #[.int .i64 a0_7, .int .i64 a0_8, .int .i64 a0_9, .int .i64 a0_10, .int .i64 a0_11] 75 (0, 0)) := by rw [← hw3]; exact blk_new _ _
  have hb3 : Below w.heap.size w w3 := by rw [← hw3]; exact bA_ HB.out _
  have hz1 : w3.cell? ⟨gt, 1, none⟩ = some (.int .i64 5) := by rw [← hw3]; exact (kc_ (kA_ BK.out _) 1).trans rfl
  rw [hw3]
  have hidx := sl_Index_int_int.calls 6 (some ⟨w2.heap.size, 0, none⟩) 5 [a0_7, a0_8, a0_9, a0_10, a0_11] a1 _ w3 (C_block hbk _ (by simp) (fun j hj => by rcases j with _ | _ | _ | _ | _ | j <;> first | rfl | (simp at hj <;> omega))) (by simp) (Index_f a1 [a0_7, a0_8, a0_9, a0_10, a0_11] (by simp) 6 (by simp))
  have HIDX := a_ hidx
  have HB3 := a_ hb3
  clear hidx hb3 hbk hw3 HB BK
  go_wp2_with (first | (go_at_call 88; refine HIDX.out.mono ?_; rintro e w4 ⟨rfl, ⟨nd2, rfl⟩⟩))
  go_ret
  exact ⟨rfl, bN_ HB3.out nd2⟩
theorem c_table_sent.calls (a0_0 : Int) (a0_1 : Int) (a0_2 : Int) (a0_3 : Int) (a0_4 : Int) (a0_5 : Int) (a0_6 : Int) (a0_7 : Int) (a0_8 : Int) (a0_9 : Int) (a0_10 : Int) (a0_11 : Int) (a1 : Int) (a2 : Int) (r : Int) (w : World) (h : c_table_sent.f a0_0 a0_1 a0_2 a0_3 a0_4 a0_5 a0_6 a0_7 a0_8 a0_9 a0_10 a0_11 a1 a2 = some r) :
  Calls Try.prog 70 #[.agg #[.int .i64 a0_0, .int .i64 a0_1, .int .i64 a0_2, .int .i64 a0_3, .int .i64 a0_4, .int .i64 a0_5, .int .i64 a0_6, .int .i64 a0_7, .int .i64 a0_8, .int .i64 a0_9, .int .i64 a0_10, .int .i64 a0_11], .int .i64 a1, .int .u8 a2] w fun e w' => e = .returned (.int .i64 r) ∧ Below w.heap.size w w' := by
 unfold c_table_sent.f at h
 by_cases c0 : a2 = 97
 ·subst c0; rw [if_pos rfl] at h; exact sent_97 a0_0 a0_1 a0_2 a0_3 a0_4 a0_5 a0_6 a0_7 a0_8 a0_9 a0_10 a0_11 a1 r w h
 rw [if_neg c0] at h
 by_cases c1 : a2 = 98
 ·subst c1; rw [if_pos rfl] at h; exact sent_98 a0_0 a0_1 a0_2 a0_3 a0_4 a0_5 a0_6 a0_7 a0_8 a0_9 a0_10 a0_11 a1 r w h
 rw [if_neg c1] at h
 by_cases c2 : a2 = 65
 ·subst c2; rw [if_pos rfl] at h; exact sent_65 a0_0 a0_1 a0_2 a0_3 a0_4 a0_5 a0_6 a0_7 a0_8 a0_9 a0_10 a0_11 a1 r w h
 rw [if_neg c2] at h
 by_cases c3 : a2 = 66
 ·subst c3; rw [if_pos rfl] at h; exact sent_66 a0_0 a0_1 a0_2 a0_3 a0_4 a0_5 a0_6 a0_7 a0_8 a0_9 a0_10 a0_11 a1 r w h
 rw [if_neg c3] at h
 cases h
def c_table_lists.f (a0_0 : Int) (a0_1 : Int) (a0_2 : Int) (a0_3 : Int) (a0_4 : Int) (a0_5 : Int) (a0_6 : Int) (a0_7 : Int) (a0_8 : Int) (a0_9 : Int) (a0_10 : Int) (a0_11 : Int) : Option (List (List Int)) :=
 if 1 ≤ a0_1 ∧ a0_1 ≤ 5 then (if a0_0 = 1 then some [[a0_2, a0_3, a0_4, a0_5, a0_6].take a0_1.toNat] else if a0_0 = 2 then some [[a0_2, a0_3, a0_4, a0_5, a0_6].take a0_1.toNat, [a0_7, a0_8, a0_9, a0_10, a0_11].take a0_1.toNat] else none) else none
theorem lists_1 (d : Nat) (a0_2 : Int) (a0_3 : Int) (a0_4 : Int) (a0_5 : Int) (a0_6 : Int) (a0_7 : Int) (a0_8 : Int) (a0_9 : Int) (a0_10 : Int) (a0_11 : Int) (w : World) (h1 : 1 ≤ d) (h5 : d ≤ 5) :
  Calls Try.prog 66 #[.agg #[.int .i64 1, .int .i64 (d : Int), .int .i64 a0_2, .int .i64 a0_3, .int .i64 a0_4, .int .i64 a0_5, .int .i64 a0_6, .int .i64 a0_7, .int .i64 a0_8, .int .i64 a0_9, .int .i64 a0_10, .int .i64 a0_11]] w fun e w' => ∃ v0_ : Value, e = .returned (v0_) ∧ Kd.S (Kd.slice 3 (Kd.int .i64)) 22 w' w.heap.size (fun _ => True) v0_ [[a0_2, a0_3, a0_4, a0_5, a0_6].take d] ∧ Below w.heap.size w w' := by
 have hu78 := Try.underlying78
 have D1 := a_ h1
 have D5 := a_ h5
 clear h1 h5
 go_enter Try.func66, Try.ntmps66
 go_wp2_with (first | ((with_reducible refine gate_dst (N := 1) rfl ?_); refine box_event ?hg (N := 1) ?hd (cs := #[.int .i64 1, .int .i64 (d : Int), .int .i64 a0_2, .int .i64 a0_3, .int .i64 a0_4, .int .i64 a0_5, .int .i64 a0_6, .int .i64 a0_7, .int .i64 a0_8, .int .i64 a0_9, .int .i64 a0_10, .int .i64 a0_11]) (t := 78) ?hr ?_; (case hd => rfl); (case hg => rfl); (case hr => first | (go_simp; done) | (go_simp; rfl)); intro gt hg w1 hbox hb; have n0_ := a_ hb; have n1_ := a_ hbox; clear hg hb hbox; have HB := n0_; have BK := n1_; clear n0_ n1_; obtain ⟨hz0, hz1, hz2, hz3, hz4, hz5, hz6, hz7, hz8, hz9, hz10, hz11⟩ := cs12 BK.out))
 clear hz0 hz1 hz2 hz3 hz4 hz5 hz6 hz7 hz8 hz9 hz10 hz11
 go_loopw [3, 11] (fun v3 v11 wr => ∃ k : Nat, k ≤ 1 ∧ v11 = .int .i64 k ∧ Aside0 (Kd.S (Kd.slice 3 (Kd.int .i64)) 22 wr w.heap.size (fun _ => True) v3 ([[a0_2, a0_3, a0_4, a0_5, a0_6].take d].take k)) ∧ Aside0 (wr.heap[gt]? = some (.cells #[.int .i64 1, .int .i64 (d : Int), .int .i64 a0_2, .int .i64 a0_3, .int .i64 a0_4, .int .i64 a0_5, .int .i64 a0_6, .int .i64 a0_7, .int .i64 a0_8, .int .i64 a0_9, .int .i64 a0_10, .int .i64 a0_11] 78 (0, 0))) ∧ Aside0 (Below w.heap.size w wr)) (fun _ v11 _ => 1 - (intOf v11).toNat)
 case atStart => exact ⟨0, Nat.zero_le _, rfl, ⟨Kd.S_nil _ _ _ _ _⟩, BK, HB⟩
 clear BK HB
 obtain ⟨k, hk, rfl, HS, BK, HB⟩ := hrel
 by_cases hkd : k < 1
 rotate_left
 ·obtain rfl : k = 1 := by omega
  go_wp2
  go_ret
  exact ⟨_, rfl, HS.out, HB.out⟩
 obtain rfl : k = 0 := by omega
 have HSx := a_ (show Kd.S (Kd.slice 3 (Kd.int .i64)) 22 wr w.heap.size (fun _ => True) u3 [] from HS.out)
 clear HS
 have HS := HSx
 clear HSx
 obtain ⟨lk, hlk⟩ : ∃ l_ : List Int, [a0_2, a0_3, a0_4, a0_5, a0_6].take d = l_ := ⟨_, rfl⟩
 obtain ⟨hz0, hz1, hz2, hz3, hz4, hz5, hz6, hz7, hz8, hz9, hz10, hz11⟩ := cs12 BK.out
 go_upto_region 5 with (fail)
 have n0_ := a_ (blk_new wr (.cells #[.int .i64 a0_2, .int .i64 a0_3, .int .i64 a0_4, .int .i64 a0_5, .int .i64 a0_6] 75))
 have n1_ := a_ (kA_ BK.out (.cells #[.int .i64 a0_2, .int .i64 a0_3, .int .i64 a0_4, .int .i64 a0_5, .int .i64 a0_6] 75))
 have n2_ := a_ (bA_ HB.out (.cells #[.int .i64 a0_2, .int .i64 a0_3, .int .i64 a0_4, .int .i64 a0_5, .int .i64 a0_6] 75))
 have n3_ := a_ (Kd.S_alloc HS.out (.cells #[.int .i64 a0_2, .int .i64 a0_3, .int .i64 a0_4, .int .i64 a0_5, .int .i64 a0_6] 75))
 clear BK HB HS hz0 hz1 hz2 hz3 hz4 hz5 hz6 hz7 hz8 hz9 hz10 hz11
 generalize wr.alloc (.cells #[.int .i64 a0_2, .int .i64 a0_3, .int .i64 a0_4, .int .i64 a0_5, .int .i64 a0_6] 75) = W5 at n0_ n1_ n2_ n3_ ⊢
 generalize wr.heap.size = g5 at n0_ ⊢
 have BC := n0_
 have BK := n1_
 have HB := n2_
 have HS := n3_
 clear n0_ n1_ n2_ n3_
 have hz1 : W5.cell? ⟨gt, 1, none⟩ = some (.int .i64 (d : Int)) := (kc_ BK.out 1).trans rfl
 have hlt : ([a0_2, a0_3, a0_4, a0_5, a0_6].take d).length = d := by simp; have := D5.out; omega
 have hcl := sl_Clone_int_int.calls (some ⟨g5, 0, none⟩) 5 ([a0_2, a0_3, a0_4, a0_5, a0_6].take d) ([a0_2, a0_3, a0_4, a0_5, a0_6].take d) W5 (C_block BC.out _ (by rw [hlt]; have := D5.out; omega) (fun j hj => ?cj)) (by rw [hlt]; have := D5.out; omega) (by unfold sl_Clone_int_int.f; rw [if_pos (by rw [hlt]; have := D5.out; have := D1.out; omega)])
 case cj =>
  rw [hlt] at hj
  have h5 := D5.out
  have hj5 : j < 5 := by omega
  rw [List.getD, List.getElem?_take, if_pos hj]
  rcases j with _ | _ | _ | _ | _ | j <;> first | rfl | omega
 rw [hlt, hlk] at hcl
 have hll : lk.length = d := by rw [← hlk]; exact hlt
 have HLK := a_ hlk
 have HLL := a_ hll
 clear hlk hll
 have HCL := a_ hcl
 have hd5 : (d : Int) ≤ 5 := by have := D5.out; omega
 have hd0 : (0 : Int) ≤ (d : Int) := by omega
 clear hcl hlt
 go_wp2_with (first | (go_at_call 89; refine Calls.mono HCL.out ?_; rintro e W6 ⟨v6, rfl, hR, hb⟩; have HRV := a_ (Kd.R_lower hR HB.out.size); replace HB := a_ (bT_ HB.out hb); replace BK := a_ (kB_ BK.out hb); replace HS := a_ (Kd.S_elder' HS.out (Kd.R_base hR) hb); clear hR hb hz1; obtain ⟨A6, c6, e6⟩ := Kd.R_slice HRV.out; subst e6) | ((with_reducible refine gate_builtin (b := .append) (xs := #[.tmp 15, .tmp 20]) rfl ?_); at_builtin; refine Kd.S_append (Kd.slice 3 (Kd.int .i64)) (w0 := w) w.heap.size rfl (.tmp 15) (.tmp 20) 23 22 (.slice none 0 0) 24 rfl Try.underlying23 info22 rfl (by decide) (by omega) u3 [] lk [.slice A6 lk.length c6] (fun _ => True) (fun k_ => some k_ = (.slice A6 lk.length c6 : Value).ownBlock) rfl rfl (Kd.M_row (Kd.R_mono (Kd.R_tight rfl HRV.out) (fun _ h_ => h_))) (fun k_ hk_ => ⟨trivial, ((Kd.R_apart' HRV.out (Kd.S_typed HS.out) (by decide)).1 k_ hk_.symm).2⟩) (fun _ _ => trivial) (Kd.S_mono HS.out (fun k_ hk => ⟨trivial, fun e_ => hk.2 e_⟩)) HB.out HB.out.size (by simp) ?_; intro v7 W7 hS7 hb7 hg7 hat7; have BK7 := a_ (blk_grown BK.out hg7 (Kd.S_ne HS.out BK.out (by decide)))))
 exact ⟨⟨1, by omega, rfl, ⟨by have h_ := hS7; rw [← HLK.out] at h_; exact h_⟩, BK7, ⟨hb7⟩⟩, by simp [intOf]⟩
theorem lists_2 (d : Nat) (a0_2 : Int) (a0_3 : Int) (a0_4 : Int) (a0_5 : Int) (a0_6 : Int) (a0_7 : Int) (a0_8 : Int) (a0_9 : Int) (a0_10 : Int) (a0_11 : Int) (w : World) (h1 : 1 ≤ d) (h5 : d ≤ 5) :
  Calls Try.prog 66 #[.agg #[.int .i64 2, .int .i64 (d : Int), .int .i64 a0_2, .int .i64 a0_3, .int .i64 a0_4, .int .i64 a0_5, .int .i64 a0_6, .int .i64 a0_7, .int .i64 a0_8, .int .i64 a0_9, .int .i64 a0_10, .int .i64 a0_11]] w fun e w' => ∃ v0_ : Value, e = .returned (v0_) ∧ Kd.S (Kd.slice 3 (Kd.int .i64)) 22 w' w.heap.size (fun _ => True) v0_ [[a0_2, a0_3, a0_4, a0_5, a0_6].take d, [a0_7, a0_8, a0_9, a0_10, a0_11].take d] ∧ Below w.heap.size w w' := by
 have hu78 := Try.underlying78
 have D1 := a_ h1
 have D5 := a_ h5
 clear h1 h5
 go_enter Try.func66, Try.ntmps66
 go_wp2_with (first | ((with_reducible refine gate_dst (N := 1) rfl ?_); refine box_event ?hg (N := 1) ?hd (cs := #[.int .i64 2, .int .i64 (d : Int), .int .i64 a0_2, .int .i64 a0_3, .int .i64 a0_4, .int .i64 a0_5, .int .i64 a0_6, .int .i64 a0_7, .int .i64 a0_8, .int .i64 a0_9, .int .i64 a0_10, .int .i64 a0_11]) (t := 78) ?hr ?_; (case hd => rfl); (case hg => rfl); (case hr => first | (go_simp; done) | (go_simp; rfl)); intro gt hg w1 hbox hb; have n0_ := a_ hb; have n1_ := a_ hbox; clear hg hb hbox; have HB := n0_; have BK := n1_; clear n0_ n1_; obtain ⟨hz0, hz1, hz2, hz3, hz4, hz5, hz6, hz7, hz8, hz9, hz10, hz11⟩ := cs12 BK.out))
 clear hz0 hz1 hz2 hz3 hz4 hz5 hz6 hz7 hz8 hz9 hz10 hz11
 go_loopw [3, 11] (fun v3 v11 wr => ∃ k : Nat, k ≤ 2 ∧ v11 = .int .i64 k ∧ Aside0 (Kd.S (Kd.slice 3 (Kd.int .i64)) 22 wr w.heap.size (fun _ => True) v3 ([[a0_2, a0_3, a0_4, a0_5, a0_6].take d, [a0_7, a0_8, a0_9, a0_10, a0_11].take d].take k)) ∧ Aside0 (wr.heap[gt]? = some (.cells #[.int .i64 2, .int .i64 (d : Int), .int .i64 a0_2, .int .i64 a0_3, .int .i64 a0_4, .int .i64 a0_5, .int .i64 a0_6, .int .i64 a0_7, .int .i64 a0_8, .int .i64 a0_9, .int .i64 a0_10, .int .i64 a0_11] 78 (0, 0))) ∧ Aside0 (Below w.heap.size w wr)) (fun _ v11 _ => 2 - (intOf v11).toNat)
 case atStart => exact ⟨0, Nat.zero_le _, rfl, ⟨Kd.S_nil _ _ _ _ _⟩, BK, HB⟩
 clear BK HB
 obtain ⟨k, hk, rfl, HS, BK, HB⟩ := hrel
 by_cases hkd : k < 2
 rotate_left
 ·obtain rfl : k = 2 := by omega
  go_wp2
  go_ret
  exact ⟨_, rfl, HS.out, HB.out⟩
 obtain rfl | rfl : k = 0 ∨ k = 1 := by omega
 ·have HSx := a_ (show Kd.S (Kd.slice 3 (Kd.int .i64)) 22 wr w.heap.size (fun _ => True) u3 [] from HS.out)
  clear HS
  have HS := HSx
  clear HSx
  obtain ⟨lk, hlk⟩ : ∃ l_ : List Int, [a0_2, a0_3, a0_4, a0_5, a0_6].take d = l_ := ⟨_, rfl⟩
  obtain ⟨hz0, hz1, hz2, hz3, hz4, hz5, hz6, hz7, hz8, hz9, hz10, hz11⟩ := cs12 BK.out
  go_upto_region 5 with (fail)
  have n0_ := a_ (blk_new wr (.cells #[.int .i64 a0_2, .int .i64 a0_3, .int .i64 a0_4, .int .i64 a0_5, .int .i64 a0_6] 75))
  have n1_ := a_ (kA_ BK.out (.cells #[.int .i64 a0_2, .int .i64 a0_3, .int .i64 a0_4, .int .i64 a0_5, .int .i64 a0_6] 75))
  have n2_ := a_ (bA_ HB.out (.cells #[.int .i64 a0_2, .int .i64 a0_3, .int .i64 a0_4, .int .i64 a0_5, .int .i64 a0_6] 75))
  have n3_ := a_ (Kd.S_alloc HS.out (.cells #[.int .i64 a0_2, .int .i64 a0_3, .int .i64 a0_4, .int .i64 a0_5, .int .i64 a0_6] 75))
  clear BK HB HS hz0 hz1 hz2 hz3 hz4 hz5 hz6 hz7 hz8 hz9 hz10 hz11
  generalize wr.alloc (.cells #[.int .i64 a0_2, .int .i64 a0_3, .int .i64 a0_4, .int .i64 a0_5, .int .i64 a0_6] 75) = W5 at n0_ n1_ n2_ n3_ ⊢
  generalize wr.heap.size = g5 at n0_ ⊢
  have BC := n0_
  have BK := n1_
  have HB := n2_
  have HS := n3_
  clear n0_ n1_ n2_ n3_
  have hz1 : W5.cell? ⟨gt, 1, none⟩ = some (.int .i64 (d : Int)) := (kc_ BK.out 1).trans rfl
  have hlt : ([a0_2, a0_3, a0_4, a0_5, a0_6].take d).length = d := by simp; have := D5.out; omega
  have hcl := sl_Clone_int_int.calls (some ⟨g5, 0, none⟩) 5 ([a0_2, a0_3, a0_4, a0_5, a0_6].take d) ([a0_2, a0_3, a0_4, a0_5, a0_6].take d) W5 (C_block BC.out _ (by rw [hlt]; have := D5.out; omega) (fun j hj => ?cj)) (by rw [hlt]; have := D5.out; omega) (by unfold sl_Clone_int_int.f; rw [if_pos (by rw [hlt]; have := D5.out; have := D1.out; omega)])
  case cj =>
   rw [hlt] at hj
   have h5 := D5.out
   have hj5 : j < 5 := by omega
   rw [List.getD, List.getElem?_take, if_pos hj]
   rcases j with _ | _ | _ | _ | _ | j <;> first | rfl | omega
  rw [hlt, hlk] at hcl
  have hll : lk.length = d := by rw [← hlk]; exact hlt
  have HLK := a_ hlk
  have HLL := a_ hll
  clear hlk hll
  have HCL := a_ hcl
  have hd5 : (d : Int) ≤ 5 := by have := D5.out; omega
  have hd0 : (0 : Int) ≤ (d : Int) := by omega
  clear hcl hlt
  go_wp2_with (first | (go_at_call 89; refine Calls.mono HCL.out ?_; rintro e W6 ⟨v6, rfl, hR, hb⟩; have HRV := a_ (Kd.R_lower hR HB.out.size); replace HB := a_ (bT_ HB.out hb); replace BK := a_ (kB_ BK.out hb); replace HS := a_ (Kd.S_elder' HS.out (Kd.R_base hR) hb); clear hR hb hz1; obtain ⟨A6, c6, e6⟩ := Kd.R_slice HRV.out; subst e6) | ((with_reducible refine gate_builtin (b := .append) (xs := #[.tmp 15, .tmp 20]) rfl ?_); at_builtin; refine Kd.S_append (Kd.slice 3 (Kd.int .i64)) (w0 := w) w.heap.size rfl (.tmp 15) (.tmp 20) 23 22 (.slice none 0 0) 24 rfl Try.underlying23 info22 rfl (by decide) (by omega) u3 [] lk [.slice A6 lk.length c6] (fun _ => True) (fun k_ => some k_ = (.slice A6 lk.length c6 : Value).ownBlock) rfl rfl (Kd.M_row (Kd.R_mono (Kd.R_tight rfl HRV.out) (fun _ h_ => h_))) (fun k_ hk_ => ⟨trivial, ((Kd.R_apart' HRV.out (Kd.S_typed HS.out) (by decide)).1 k_ hk_.symm).2⟩) (fun _ _ => trivial) (Kd.S_mono HS.out (fun k_ hk => ⟨trivial, fun e_ => hk.2 e_⟩)) HB.out HB.out.size (by simp) ?_; intro v7 W7 hS7 hb7 hg7 hat7; have BK7 := a_ (blk_grown BK.out hg7 (Kd.S_ne HS.out BK.out (by decide)))))
  exact ⟨⟨1, by omega, rfl, ⟨by have h_ := hS7; rw [← HLK.out] at h_; exact h_⟩, BK7, ⟨hb7⟩⟩, by simp [intOf]⟩
 ·have HSx := a_ (show Kd.S (Kd.slice 3 (Kd.int .i64)) 22 wr w.heap.size (fun _ => True) u3 [[a0_2, a0_3, a0_4, a0_5, a0_6].take d] from HS.out)
  clear HS
  have HS := HSx
  clear HSx
  obtain ⟨lk, hlk⟩ : ∃ l_ : List Int, [a0_7, a0_8, a0_9, a0_10, a0_11].take d = l_ := ⟨_, rfl⟩
  obtain ⟨hz0, hz1, hz2, hz3, hz4, hz5, hz6, hz7, hz8, hz9, hz10, hz11⟩ := cs12 BK.out
  go_upto_region 5 with (fail)
  have n0_ := a_ (blk_new wr (.cells #[.int .i64 a0_7, .int .i64 a0_8, .int .i64 a0_9, .int .i64 a0_10, .int .i64 a0_11] 75))
  have n1_ := a_ (kA_ BK.out (.cells #[.int .i64 a0_7, .int .i64 a0_8, .int .i64 a0_9, .int .i64 a0_10, .int .i64 a0_11] 75))
  have n2_ := a_ (bA_ HB.out (.cells #[.int .i64 a0_7, .int .i64 a0_8, .int .i64 a0_9, .int .i64 a0_10, .int .i64 a0_11] 75))
  have n3_ := a_ (Kd.S_alloc HS.out (.cells #[.int .i64 a0_7, .int .i64 a0_8, .int .i64 a0_9, .int .i64 a0_10, .int .i64 a0_11] 75))
  clear BK HB HS hz0 hz1 hz2 hz3 hz4 hz5 hz6 hz7 hz8 hz9 hz10 hz11
  generalize wr.alloc (.cells #[.int .i64 a0_7, .int .i64 a0_8, .int .i64 a0_9, .int .i64 a0_10, .int .i64 a0_11] 75) = W5 at n0_ n1_ n2_ n3_ ⊢
  generalize wr.heap.size = g5 at n0_ ⊢
  have BC := n0_
  have BK := n1_
  have HB := n2_
  have HS := n3_
  clear n0_ n1_ n2_ n3_
  have hz1 : W5.cell? ⟨gt, 1, none⟩ = some (.int .i64 (d : Int)) := (kc_ BK.out 1).trans rfl
  have hlt : ([a0_7, a0_8, a0_9, a0_10, a0_11].take d).length = d := by simp; have := D5.out; omega
  have hcl := sl_Clone_int_int.calls (some ⟨g5, 0, none⟩) 5 ([a0_7, a0_8, a0_9, a0_10, a0_11].take d) ([a0_7, a0_8, a0_9, a0_10, a0_11].take d) W5 (C_block BC.out _ (by rw [hlt]; have := D5.out; omega) (fun j hj => ?cj)) (by rw [hlt]; have := D5.out; omega) (by unfold sl_Clone_int_int.f; rw [if_pos (by rw [hlt]; have := D5.out; have := D1.out; omega)])
  case cj =>
   rw [hlt] at hj
   have h5 := D5.out
   have hj5 : j < 5 := by omega
   rw [List.getD, List.getElem?_take, if_pos hj]
   rcases j with _ | _ | _ | _ | _ | j <;> first | rfl | omega
  rw [hlt, hlk] at hcl
  have hll : lk.length = d := by rw [← hlk]; exact hlt
  have HLK := a_ hlk
  have HLL := a_ hll
  clear hlk hll
  have HCL := a_ hcl
  have hd5 : (d : Int) ≤ 5 := by have := D5.out; omega
  have hd0 : (0 : Int) ≤ (d : Int) := by omega
  clear hcl hlt
  go_wp2_with (first | (go_at_call 89; refine Calls.mono HCL.out ?_; rintro e W6 ⟨v6, rfl, hR, hb⟩; have HRV := a_ (Kd.R_lower hR HB.out.size); replace HB := a_ (bT_ HB.out hb); replace BK := a_ (kB_ BK.out hb); replace HS := a_ (Kd.S_elder' HS.out (Kd.R_base hR) hb); clear hR hb hz1; obtain ⟨A6, c6, e6⟩ := Kd.R_slice HRV.out; subst e6) | ((with_reducible refine gate_builtin (b := .append) (xs := #[.tmp 15, .tmp 20]) rfl ?_); at_builtin; refine Kd.S_append (Kd.slice 3 (Kd.int .i64)) (w0 := w) w.heap.size rfl (.tmp 15) (.tmp 20) 23 22 (.slice none 0 0) 24 rfl Try.underlying23 info22 rfl (by decide) (by omega) u3 [[a0_2, a0_3, a0_4, a0_5, a0_6].take d] lk [.slice A6 lk.length c6] (fun _ => True) (fun k_ => some k_ = (.slice A6 lk.length c6 : Value).ownBlock) rfl rfl (Kd.M_row (Kd.R_mono (Kd.R_tight rfl HRV.out) (fun _ h_ => h_))) (fun k_ hk_ => ⟨trivial, ((Kd.R_apart' HRV.out (Kd.S_typed HS.out) (by decide)).1 k_ hk_.symm).2⟩) (fun _ _ => trivial) (Kd.S_mono HS.out (fun k_ hk => ⟨trivial, fun e_ => hk.2 e_⟩)) HB.out HB.out.size (by simp) ?_; intro v7 W7 hS7 hb7 hg7 hat7; have BK7 := a_ (blk_grown BK.out hg7 (Kd.S_ne HS.out BK.out (by decide)))))
  exact ⟨⟨2, by omega, rfl, ⟨by have h_ := hS7; rw [← HLK.out] at h_; exact h_⟩, BK7, ⟨hb7⟩⟩, by simp [intOf]⟩
theorem c_table_lists.calls (a0_0 : Int) (a0_1 : Int) (a0_2 : Int) (a0_3 : Int) (a0_4 : Int) (a0_5 : Int) (a0_6 : Int) (a0_7 : Int) (a0_8 : Int) (a0_9 : Int) (a0_10 : Int) (a0_11 : Int) (r : List (List Int)) (w : World) (h : c_table_lists.f a0_0 a0_1 a0_2 a0_3 a0_4 a0_5 a0_6 a0_7 a0_8 a0_9 a0_10 a0_11 = some r) :
  Calls Try.prog 66 #[.agg #[.int .i64 a0_0, .int .i64 a0_1, .int .i64 a0_2, .int .i64 a0_3, .int .i64 a0_4, .int .i64 a0_5, .int .i64 a0_6, .int .i64 a0_7, .int .i64 a0_8, .int .i64 a0_9, .int .i64 a0_10, .int .i64 a0_11]] w fun e w' => ∃ v0_ : Value, e = .returned (v0_) ∧ Kd.S (Kd.slice 3 (Kd.int .i64)) 22 w' w.heap.size (fun _ => True) v0_ r ∧ Below w.heap.size w w' := by
 unfold c_table_lists.f at h
 by_cases hd : 1 ≤ a0_1 ∧ a0_1 ≤ 5
 rotate_left
 ·rw [if_neg hd] at h; cases h
 rw [if_pos hd] at h
 obtain ⟨d, rfl⟩ := Int.eq_ofNat_of_zero_le (show 0 ≤ a0_1 by omega)
 simp only [Int.toNat_natCast] at h
 by_cases h1 : a0_0 = 1
 ·subst h1
  rw [if_pos rfl] at h
  obtain rfl := Option.some.inj h
  exact lists_1 d a0_2 a0_3 a0_4 a0_5 a0_6 a0_7 a0_8 a0_9 a0_10 a0_11 w (by omega) (by omega)
 rw [if_neg h1] at h
 by_cases h2 : a0_0 = 2
 rotate_left
 ·rw [if_neg h2] at h; cases h
 subst h2
 rw [if_pos rfl] at h
 obtain rfl := Option.some.inj h
 exact lists_2 d a0_2 a0_3 a0_4 a0_5 a0_6 a0_7 a0_8 a0_9 a0_10 a0_11 w (by omega) (by omega)
end Go.Proofs.Ytifkldehbaphgaa.PAll
end
section
namespace Go.Proofs.Ytifkldehbaphgaa.PAll
open Go.RowKit Go.PW.PrintWords Go.PW.PrintLast Go.PW.PrintMore
attribute [local go_sem] Oper.semAt_some
structure KT (W W' : World) : Prop where
 os : W'.os = W.os
 tape : W'.tape = W.tape
 output : W'.output = W.output
 size : W.heap.size ≤ W'.heap.size
 same : ∀ (k : Nat) (c : Array Value) (e : TypeId) (fz : Nat × Nat), W.heap[k]? = some (Obj.cells c e fz) → e ≠ 78 → e ≠ 108 → W'.heap[k]? = some (Obj.cells c e fz)
theorem KT.refl (W : World) : KT W W := ⟨rfl, rfl, rfl, Nat.le_refl _, fun _ _ _ _ h _ _ => h⟩
theorem KT.trans {A B C : World} (h : KT A B) (k : KT B C) : KT A C :=
 ⟨k.os.trans h.os, k.tape.trans h.tape, k.output.trans h.output, Nat.le_trans h.size k.size, fun i c e fz hi h1 h2 => k.same i c e fz (h.same i c e fz hi h1 h2) h1 h2⟩
theorem KT.of_below {A B : World} (h : Below A.heap.size A B) : KT A B :=
 ⟨h.os, h.tape, h.output, h.size, fun i c e fz hi _ _ => (h.block i (by rcases Nat.lt_or_ge i A.heap.size with h' | h'; exact h'; simp [Array.getElem?_eq_none h'] at hi)).trans hi⟩
def toCol (l : List Int) : S75 := ⟨l.getD 0 0, l.getD 1 0, l.getD 2 0, l.getD 3 0, l.getD 4 0⟩
def cellsCol (c : S75) : List Value := [.int .i64 c.f0, .int .i64 c.f1, .int .i64 c.f2, .int .i64 c.f3, .int .i64 c.f4]
def extC (d : Nat) : Nat → List Int → List (List Int)
 | 0, l => [l]
 | n + 1, l => (List.range d).flatMap fun (j : Nat) => if (j : Int) ∈ l then [] else extC d n (l ++ [(j : Int)])
theorem splice_col (l : List Int) (h : l.length ≤ 5) : splice [Value.int .i64 0, .int .i64 0, .int .i64 0, .int .i64 0, .int .i64 0] 0 (l.map fun x => Value.int .i64 x) = cellsCol (toCol l) := by
 match l, h with
 | [], _ => rfl
 | [_], _ => rfl
 | [_, _], _ => rfl
 | [_, _, _], _ => rfl
 | [_, _, _, _], _ => rfl
 | [_, _, _, _, _], _ => rfl
 | _ :: _ :: _ :: _ :: _ :: _ :: _, h => simp at h
theorem C_addr {l : List Int} {W : World} {A : Option Addr} (h : Kd.C (Kd.int .i64) W A l.length l) (hp : 0 < l.length) : ∃ ad, A = some ad ∧ ∀ j v, (l.map fun x => Value.int .i64 x)[j]? = some v → W.cell? (ad.add j) = some v := by
 obtain ⟨ad, e, hc⟩ := (Kd.reads_of_C (enc := Value.int .i64) (d := (0 : Int)) (h1 := fun _ => rfl) h).2.2 hp
 refine ⟨ad, e, fun j v hv => ?_⟩
 have hj : j < l.length := by
  rcases Nat.lt_or_ge j l.length with h' | h'
  ·exact h'
  ·simp [List.getElem?_eq_none h'] at hv
 rw [hc j hj]
 simp [hj] at hv
 simp [hj, hv]
def Says (R : Bool → World → Prop) (e : Ending) (W' : World) : Prop := ∃ b, e = .returned (.bool b) ∧ R b W'
def ExtR {α : Type} (J Jx : List α → World → Prop) (xs : List α) (W : World) : Bool → World → Prop
 | true, W' => J xs W' ∧ KT W W'
 | false, W' => ∃ q, Jx q W'
set_option maxHeartbeats 4000000 in
theorem ext_base (d : Nat) (hd1 : 1 ≤ d) (hd : d ≤ 5) (l0 Bd By Be : Nat) (l : List Int) (A : Option Addr) (c : Nat) (W : World) (R : Bool → World → Prop)
  (hl : l.length = d) (hC : Kd.C (Kd.int .i64) W A l.length l) (hc : l.length ≤ c)
  (hBd : W.heap[Bd]? = some (.cells #[.int .i64 d] 3 (0, 0))) (hBy : W.heap[By]? = some (.cells #[.func (.yield l0) #[] #[]] 134 (0, 0)))
  (hY : ∀ W1, Below W.heap.size W W1 → YieldAt Fence.wide 0 Try.prog l0 #[.agg (cellsCol (toCol l)).toArray] W1 (Says R)) :
  Calls Try.prog 101 #[.slice A l.length c, .pointer (some ⟨Bd, 0, none⟩), .pointer (some ⟨By, 0, none⟩), .pointer (some ⟨Be, 0, none⟩)] W (Says R) := by
 have hlt : ((l.length : Int) == (d : Int)) = true := by rw [hl]; simp
 have hc0 : W.cell? ⟨Bd, 0, none⟩ = some (.int .i64 d) := (kc_ hBd 0).trans rfl
 have hc1 : W.cell? ⟨By, 0, none⟩ = some (.func (.yield l0) #[] #[]) := (kc_ hBy 0).trans rfl
 have HC := a_ hC
 have Hl := a_ hl
 have Hc := a_ hc
 have HY := a_ hY
 clear hC hl hc hY hBd hBy
 go_enter Try.func101, Try.ntmps101
 go_upto_region 3 with (fail)
 have hb1 : Below W.heap.size W (W.alloc (Obj.cells #[.int .i64 0, .int .i64 0, .int .i64 0, .int .i64 0, .int .i64 0] 75)) := (Below.refl _ _).alloc (Nat.le_refl _) _
 have hg1 : (W.alloc (Obj.cells #[.int .i64 0, .int .i64 0, .int .i64 0, .int .i64 0, .int .i64 0] 75)).heap[W.heap.size]? = some (Obj.cells ([Value.int .i64 0, .int .i64 0, .int .i64 0, .int .i64 0, .int .i64 0] : List Value).toArray 75 (0, 0)) := World.alloc_heap_new W _
 have hrun : ∃ W2 : World, (Builtin.copy_ #[22, 22] 3 #[.slice (some ⟨W.heap.size, 0, none⟩) 5 5, .slice A l.length c]).run Try.prog (W.alloc (Obj.cells #[.int .i64 0, .int .i64 0, .int .i64 0, .int .i64 0, .int .i64 0] 75)) = .ok (goInt l.length) W2 ∧
   W2.heap[W.heap.size]? = some (Obj.cells (cellsCol (toCol l)).toArray 75 (0, 0)) ∧ Below W.heap.size W W2 := by
  have hlen := Hl.out
  obtain ⟨ad, rfl, hcs⟩ := C_addr (Kd.C_below HC.out hb1) (by omega)
  have h1 := run_copy_row (P := Try.prog) _ 22 22 3 3 W.heap.size 0 5 5 ad l.length c _ 75 (l.map fun x => Value.int .i64 x) Try.underlying22 (by kernel_rfl) hg1 (by simp [Nat.min_def]; omega) hcs (by simp; omega) (by simp [Value.oneCell'])
  simp only [List.length_map] at h1
  refine ⟨_, h1, ?_, below_setRow hb1 (Nat.le_refl _) _⟩
  rw [setRow_heap _ _ _ _ 75 _ hg1]
  have := splice_col l (by omega)
  simp only [splice, List.length_map, List.take_zero, List.nil_append] at this
  simp only [List.take_zero, List.nil_append, List.length_map]
  rw [this]
 obtain ⟨W2, hrun, hg2, hb2⟩ := hrun
 have hy2 := pw_cell_below hb2 hc1
 have HB2 := a_ hb2
 clear hb1 hg1 hb2
 have hz0 : W2.cell? ⟨W.heap.size, 0, none⟩ = some (.int .i64 (toCol l).f0) := (kc_ hg2 0).trans rfl
 have hz1 : W2.cell? ⟨W.heap.size, 1, none⟩ = some (.int .i64 (toCol l).f1) := (kc_ hg2 1).trans rfl
 have hz2 : W2.cell? ⟨W.heap.size, 2, none⟩ = some (.int .i64 (toCol l).f2) := (kc_ hg2 2).trans rfl
 have hz3 : W2.cell? ⟨W.heap.size, 3, none⟩ = some (.int .i64 (toCol l).f3) := (kc_ hg2 3).trans rfl
 have hz4 : W2.cell? ⟨W.heap.size, 4, none⟩ = some (.int .i64 (toCol l).f4) := (kc_ hg2 4).trans rfl
 clear hg2
 obtain ⟨fn, tmps, assign, body, hy, hR⟩ := HY.out W2 HB2.out
 have hy' : (Instr.yield l0 #[.agg #[.int .i64 (toCol l).f0, .int .i64 (toCol l).f1, .int .i64 (toCol l).f2, .int .i64 (toCol l).f3, .int .i64 (toCol l).f4]]).run Try.prog W2 = .ok (.round l0 fn tmps assign body) W2 := hy
 clear hy HY
 go_upto_region 4 with (fail)
 refine (wpIn_wide (n := 0)).1 ?_
 gi_wp2_with (refine ⟨rfl, hR.mono ?_⟩; rintro e W' ⟨bb, rfl, hR'⟩)
 go_wp2
 go_ret
 exact ⟨bb, rfl, hR'⟩
theorem step_grows_w {P : Program} {ops : Array Oper} {o : Oper} {a : Act} {w : World} {K : Act → World → Prop} {Q : Exit → Act → World → Prop} {E : Prop}
  (hw : Region.wanted o (yielded ops a.tmps) = true) (s x : Operand) (t : TypeId) (hop : o.op = Op.call { callee := Callee.builtin Builtin.append, args := #[s, x], argTypes := #[t, t] })
  (e : TypeId) (i : TypeInfo) (z : Value) (size bytes : Nat) (h1 : P.underlying t = some (.slice e)) (h2 : P.info? e = some i) (h3 : i.zero = some z) (h4 : i.size = size) (h5 : i.bytes = bytes) (h6 : z.cells.size = size) (h7 : 0 < size)
  (ao : Option Addr) (n cap : Nat) (olds : List Value) (hs : a.eval s = .slice ao n cap) (hnone : ao = none → n = 0 ∧ cap = 0) (hlo : olds.length = n * size) (holds : ∀ b, ao = some b → ∀ j u, olds[j]? = some u → w.cell? (b.add j) = some u)
  (ad : Addr) (m c : Nat) (news : List Value) (hx : a.eval x = .slice (some ad) m c) (hn : news.length = m * size) (hc : ∀ j u, news[j]? = some u → w.cell? (ad.add j) = some u) (h1c : ∀ u ∈ news, u.oneCell' = true)
  (hfull : cap < n + m) (b1 : n + m ≤ maxLen) (b2 : (n + m) * bytes ≤ 140737488355328)
  (hK : ∀ v' w', w'.ownsRow w.heap.size e size v' (n + m) (olds ++ news) → w.grownBy w' none → K (a.put o.dst v') w') :
  if Region.wanted o (yielded ops a.tmps) = true then Oper.wp P o a w K Q else E := by
 rw [if_pos hw]
 cases ao with
 | some b =>
  obtain ⟨v', w', hrun, r1, r2⟩ := run_append_arg_grows (P := P) w t o.type e i z size bytes h1 h2 h3 h4 h5 h6 h7 b n cap olds hlo (holds b rfl) ad m c news hn hc hfull b1 b2
  unfold Oper.wp
  simp [execOp, hop, resolve, invoke, builtin, hs, hx, hrun, Result.andThen]
  exact hK v' w' r1 r2
 | none =>
  obtain ⟨rfl, rfl⟩ := hnone rfl
  obtain rfl : olds = [] := List.eq_nil_of_length_eq_zero (by simpa using hlo)
  obtain ⟨v', w', hrun, r1, r2, _⟩ := run_append_own (P := P) w w.heap.size t o.type e i z size bytes h1 h2 h3 h4 h5 h6 h7 (.slice none 0 0) 0 [] (World.ownsRow_nil w _ e size) ad m c news hn hc h1c b1 b2 (Nat.le_refl _)
  unfold Oper.wp
  simp [execOp, hop, resolve, invoke, builtin, hs, hx, hrun, Result.andThen]
  exact hK v' w' r1 r2
theorem cell_new_at (W : World) (v : Value) (t : TypeId) : (W.alloc (.cells #[v] t)).cell? ((⟨W.heap.size, 0, none⟩ : Addr).add 0) = some v := by
 exact (kc_ (World.alloc_heap_new W (Obj.cells #[v] t)) 0).trans rfl
def partC (d n : Nat) (l : List Int) (k : Nat) : List (List Int) := (List.range k).flatMap fun (j : Nat) => if (j : Int) ∈ l then [] else extC d n (l ++ [(j : Int)])
theorem partC_succ (d n : Nat) (l : List Int) (k : Nat) : partC d n l (k + 1) = partC d n l k ++ (if (k : Int) ∈ l then [] else extC d n (l ++ [(k : Int)])) := by
 simp [partC, List.range_succ]
theorem partC_le (d n : Nat) (l : List Int) : ∀ (m k : Nat), (partC d n l k).length ≤ (partC d n l (k + m)).length
 | 0, k => Nat.le_refl _
 | m + 1, k => Nat.le_trans (partC_le d n l m k) (by rw [← Nat.add_assoc, partC_succ]; simp)
theorem ext_any (d : Nat) (hd1 : 1 ≤ d) (hd : d ≤ 5) (l0 Bd By Be N : Nat) (X : S75 → Prop) (J Jx : List S75 → World → Prop)
  (hJ : ∀ s W W', J s W → W.grownBy W' none → J s W')
  (hY : ∀ pre x W1, X x → J pre W1 → pre.length < N → YieldAt Fence.wide 0 Try.prog l0 #[.agg (cellsCol x).toArray] W1 (Says (ExtR J Jx (pre ++ [x]) W1))) :
  ∀ (n : Nat) (l : List Int) (A : Option Addr) (c : Nat) (pre : List S75) (W : World), l.length + n = d → (∀ W', KT W W' → Kd.C (Kd.int .i64) W' A l.length l) → l.length ≤ c → (A = none → c = 0) →
   W.heap[Bd]? = some (.cells #[.int .i64 d] 3 (0, 0)) → W.heap[By]? = some (.cells #[.func (.yield l0) #[] #[]] 134 (0, 0)) →
   W.heap[Be]? = some (.cells #[.func (.func 101) #[] #[.pointer (some ⟨Bd, 0, none⟩), .pointer (some ⟨By, 0, none⟩), .pointer (some ⟨Be, 0, none⟩)]] 116 (0, 0)) →
   J pre W → pre.length + (extC d n l).length ≤ N → (∀ y ∈ extC d n l, X (toCol y)) →
   Calls Try.prog 101 #[.slice A l.length c, .pointer (some ⟨Bd, 0, none⟩), .pointer (some ⟨By, 0, none⟩), .pointer (some ⟨Be, 0, none⟩)] W (Says (ExtR J Jx (pre ++ (extC d n l).map toCol) W)) := by
 intro n
 induction n with
 | zero =>
  intro l A c pre W hl hC hc hA0 hBd hBy hBe hj hN hX
  refine ext_base d hd1 hd l0 Bd By Be l A c W _ (by omega) (hC W (KT.refl W)) hc hBd hBy (fun W1 hb => ?_)
  have hj1 := hJ pre W W1 hj (grown_of_below hb none)
  refine YieldAt.mono (hY pre (toCol l) W1 (hX l (by simp [extC])) hj1 (by simp [extC] at hN; omega)) fun e W' ⟨b, he, h1⟩ => ⟨b, he, ?_⟩
  cases b with
  | true => exact ⟨by simpa [extC] using h1.1, (KT.of_below hb).trans h1.2⟩
  | false => exact h1
 | succ n ih =>
  intro l A c pre W hl hC hc hA0 hBd hBy hBe hj hN hX
  have hlt : ((l.length : Int) == (d : Int)) = false := by simp; omega
  have hc0 : W.cell? ⟨Bd, 0, none⟩ = some (.int .i64 d) := (kc_ hBd 0).trans rfl
  have HC := a_ hC
  have Hl := a_ hl
  have Hc := a_ hc
  have HJ := a_ hJ
  have HY := a_ hY
  have HBd := a_ hBd
  have HBy := a_ hBy
  have HBe := a_ hBe
  have Hj := a_ hj
  have HN := a_ hN
  have HX := a_ hX
  have IH := a_ ih
  have HA0 := a_ hA0
  have HE : extC d (n + 1) l = partC d n l d := rfl
  clear hl hC hc hJ hY hBd hBy hBe hj hN ih hA0 hX
  go_enter Try.func101, Try.ntmps101
  go_wp2
  go_loopw [19] (fun v19 wr => ∃ k : Nat, k ≤ d ∧ v19 = .int .i64 k ∧ Aside0 (J (pre ++ (partC d n l k).map toCol) wr) ∧ Aside0 (KT W wr)) (fun v19 _ => d - (intOf v19).toNat)
  case atStart => exact ⟨0, Nat.zero_le _, rfl, ⟨by simpa [partC] using Hj.out⟩, ⟨KT.refl W⟩⟩
  obtain ⟨k, hk, rfl, Hjk, HKT⟩ := hrel
  by_cases hkd : k < d
  rotate_left
  ·obtain rfl : k = d := by omega
   go_wp2
   go_ret
   exact ⟨true, rfl, by rw [HE]; exact Hjk.out, HKT.out⟩
  have hs0 : wr.cell? ⟨Be, 0, none⟩ = some (.func (.func 101) #[] #[.pointer (some ⟨Bd, 0, none⟩), .pointer (some ⟨By, 0, none⟩), .pointer (some ⟨Be, 0, none⟩)]) := (kc_ (HKT.out.same _ _ _ _ HBe.out (by decide) (by decide)) 0).trans rfl
  by_cases hin : (k : Int) ∈ l
  ·have HCon := a_ ((Contains_f (k : Int) l (by have := Hl.out; omega) (l.length + 1) (by omega)).trans (by rw [decide_eq_true hin]))
   have HS := a_ hs0
   clear hs0
   go_upto_region 8 with (fail)
   have hS0 : wr.drew.cell? ⟨Be, 0, none⟩ = _ := HS.out
   have hCd := Kd.C_drew (HC.out wr HKT.out)
   refine start_ (n := 18) (S := fun w' => w'.cell? ⟨Be, 0, none⟩ = some (.func (.func 101) #[] #[.pointer (some ⟨Bd, 0, none⟩), .pointer (some ⟨By, 0, none⟩), .pointer (some ⟨Be, 0, none⟩)])) (ds := [15]) #[false, false, false, false, false, false, false, false, false, false, false, false, false, false, false, false, false, false] (by kernel_rfl) rfl rfl (hS0) (fun hHeld => ?_)
   clear hHeld
   refine pure_ (i := 0) (N := (some 22)) (v := ?_) (a' := ?_) #[true, false, false, false, false, false, false, false, false, false, false, false, false, false, false, false, false, false] rfl rfl (by kernel_rfl) (fun _ _ _ h => h) (Or.inl ⟨by rfl, ?_⟩) ?_ ?_
   rotate_left
   ·intro w'
    first | (go_simp; with_reducible rfl) | rfl | (go_simp; done)
   rotate_left
   ·first | (simp only [Act.put, List.setIfInBounds_toArray, List.set_cons_zero, List.set_cons_succ, i64_w, i32_w]; rfl) | rfl
   refine pure_ (i := 1) (N := (some 23)) (v := ?_) (a' := ?_) #[true, true, false, false, false, false, false, false, false, false, false, false, false, false, false, false, false, false] rfl rfl (by kernel_rfl) (fun _ _ _ h => h) (Or.inl ⟨by rfl, ?_⟩) ?_ ?_
   rotate_left
   ·intro w'
    first | (go_simp; with_reducible rfl) | rfl | (go_simp; done)
   rotate_left
   ·first | (simp only [Act.put, List.setIfInBounds_toArray, List.set_cons_zero, List.set_cons_succ, i64_w, i32_w]; rfl) | rfl
   refine one_ (i := 2) (N := (some 24)) #[true, true, true, false, false, false, false, false, false, false, false, false, false, false, false, false, false, false] rfl rfl (by kernel_rfl) (by decide) (fun K hK => ?_)
   refine goes_ Try.func79 (by kernel_rfl) rfl #[.slice A l.length c, .int .i64 (k : Int)] (by rfl) rfl rfl (by (try simp only [List.map_toArray, List.map_cons, List.map_nil]); first | done | rfl) ?_
   refine (sl_Contains_int_int.calls (l.length + 1) A c l (k : Int) true _ hCd Hc.out HCon.out).mono ?_
   rintro e w3 ⟨rfl, hdr⟩
   refine ⟨_, rfl, ?_⟩
   refine hK.out _ _ (by obtain ⟨nd, rfl⟩ := hdr.out; exact hS0) ?_
   clear hK K
   intro hHeld
   have hb3 : Below wr.heap.size wr w3 := by obtain ⟨nd, rfl⟩ := hdr.out; exact (bN_ (b1_ (Below.refl _ _)) nd)
   have HB3 := a_ hb3
   clear hb3 hdr hCd hS0
   refine norm_ (a' := ?_) ?_ ?_
   rotate_left
   ·show Act.put _ (some 24) _ = _
    simp only [Act.put, List.setIfInBounds_toArray, List.set_cons_zero, List.set_cons_succ, i64_w, i32_w]
    rfl
   refine pure_ (i := 3) (N := (some 25)) (v := ?_) (a' := ?_) #[true, true, true, true, false, false, false, false, false, false, false, false, false, false, false, false, false, false] rfl rfl (by kernel_rfl) (fun _ _ _ h => h) (Or.inl ⟨by rfl, ?_⟩) ?_ ?_
   rotate_left
   ·intro w'
    first | (go_simp; with_reducible rfl) | rfl | (go_simp; done)
   rotate_left
   ·first | (simp only [Act.put, List.setIfInBounds_toArray, List.set_cons_zero, List.set_cons_succ, i64_w, i32_w]; rfl) | rfl
   refine pure_ (i := 4) (N := (some 26)) (v := ?_) (a' := ?_) #[true, true, true, true, true, false, false, false, false, false, false, false, false, false, false, false, false, false] rfl rfl (by kernel_rfl) (fun _ _ _ h => h) (Or.inl ⟨by rfl, ?_⟩) ?_ ?_
   rotate_left
   ·intro w'
    first | (go_simp; with_reducible rfl) | rfl | (go_simp; done)
   rotate_left
   ·first | (simp only [Act.put, List.setIfInBounds_toArray, List.set_cons_zero, List.set_cons_succ, i64_w, i32_w]; rfl) | rfl
   refine pure_ (i := 5) (N := (some 27)) (v := undef) (a' := ?_) #[true, true, true, true, true, true, false, false, false, false, false, false, false, false, false, false, false, false] rfl rfl (by kernel_rfl) (fun _ _ _ h => h) (Or.inr ⟨by rfl, rfl⟩) ?_ ?_
   rotate_left
   ·first | (simp only [Act.put, List.setIfInBounds_toArray, List.set_cons_zero, List.set_cons_succ, i64_w, i32_w]; rfl) | rfl
   refine pure_ (i := 6) (N := (some 28)) (v := undef) (a' := ?_) #[true, true, true, true, true, true, true, false, false, false, false, false, false, false, false, false, false, false] rfl rfl (by kernel_rfl) (fun _ _ _ h => h) (Or.inr ⟨by rfl, rfl⟩) ?_ ?_
   rotate_left
   ·first | (simp only [Act.put, List.setIfInBounds_toArray, List.set_cons_zero, List.set_cons_succ, i64_w, i32_w]; rfl) | rfl
   refine pure_ (i := 7) (N := (some 29)) (v := undef) (a' := ?_) #[true, true, true, true, true, true, true, true, false, false, false, false, false, false, false, false, false, false] rfl rfl (by kernel_rfl) (fun _ _ _ h => h) (Or.inr ⟨by rfl, rfl⟩) ?_ ?_
   rotate_left
   ·first | (simp only [Act.put, List.setIfInBounds_toArray, List.set_cons_zero, List.set_cons_succ, i64_w, i32_w]; rfl) | rfl
   refine pure_ (i := 8) (N := (some 30)) (v := undef) (a' := ?_) #[true, true, true, true, true, true, true, true, true, false, false, false, false, false, false, false, false, false] rfl rfl (by kernel_rfl) (fun _ _ _ h => h) (Or.inr ⟨by rfl, rfl⟩) ?_ ?_
   rotate_left
   ·first | (simp only [Act.put, List.setIfInBounds_toArray, List.set_cons_zero, List.set_cons_succ, i64_w, i32_w]; rfl) | rfl
   refine pure_ (i := 9) (N := (some 31)) (v := undef) (a' := ?_) #[true, true, true, true, true, true, true, true, true, true, false, false, false, false, false, false, false, false] rfl rfl (by kernel_rfl) (fun _ _ _ h => h) (Or.inr ⟨by rfl, rfl⟩) ?_ ?_
   rotate_left
   ·first | (simp only [Act.put, List.setIfInBounds_toArray, List.set_cons_zero, List.set_cons_succ, i64_w, i32_w]; rfl) | rfl
   refine pure_ (i := 10) (N := (some 32)) (v := undef) (a' := ?_) #[true, true, true, true, true, true, true, true, true, true, true, false, false, false, false, false, false, false] rfl rfl (by kernel_rfl) (fun _ _ _ h => h) (Or.inr ⟨by rfl, rfl⟩) ?_ ?_
   rotate_left
   ·first | (simp only [Act.put, List.setIfInBounds_toArray, List.set_cons_zero, List.set_cons_succ, i64_w, i32_w]; rfl) | rfl
   refine pure_ (i := 11) (N := (some 33)) (v := undef) (a' := ?_) #[true, true, true, true, true, true, true, true, true, true, true, true, false, false, false, false, false, false] rfl rfl (by kernel_rfl) (fun _ _ _ h => h) (Or.inr ⟨by rfl, rfl⟩) ?_ ?_
   rotate_left
   ·first | (simp only [Act.put, List.setIfInBounds_toArray, List.set_cons_zero, List.set_cons_succ, i64_w, i32_w]; rfl) | rfl
   refine pure_ (i := 12) (N := (some 34)) (v := undef) (a' := ?_) #[true, true, true, true, true, true, true, true, true, true, true, true, true, false, false, false, false, false] rfl rfl (by kernel_rfl) (fun _ _ _ h => h) (Or.inr ⟨by rfl, rfl⟩) ?_ ?_
   rotate_left
   ·first | (simp only [Act.put, List.setIfInBounds_toArray, List.set_cons_zero, List.set_cons_succ, i64_w, i32_w]; rfl) | rfl
   refine pure_ (i := 13) (N := (some 35)) (v := undef) (a' := ?_) #[true, true, true, true, true, true, true, true, true, true, true, true, true, true, false, false, false, false] rfl rfl (by kernel_rfl) (fun _ _ _ h => h) (Or.inr ⟨by rfl, rfl⟩) ?_ ?_
   rotate_left
   ·first | (simp only [Act.put, List.setIfInBounds_toArray, List.set_cons_zero, List.set_cons_succ, i64_w, i32_w]; rfl) | rfl
   refine pure_ (i := 14) (N := (some 36)) (v := undef) (a' := ?_) #[true, true, true, true, true, true, true, true, true, true, true, true, true, true, true, false, false, false] rfl rfl (by kernel_rfl) (fun _ _ _ h => h) (Or.inr ⟨by rfl, rfl⟩) ?_ ?_
   rotate_left
   ·first | (simp only [Act.put, List.setIfInBounds_toArray, List.set_cons_zero, List.set_cons_succ, i64_w, i32_w]; rfl) | rfl
   refine pure_ (i := 15) (N := (some 37)) (v := undef) (a' := ?_) #[true, true, true, true, true, true, true, true, true, true, true, true, true, true, true, true, false, false] rfl rfl (by kernel_rfl) (fun _ _ _ h => h) (Or.inr ⟨by rfl, rfl⟩) ?_ ?_
   rotate_left
   ·first | (simp only [Act.put, List.setIfInBounds_toArray, List.set_cons_zero, List.set_cons_succ, i64_w, i32_w]; rfl) | rfl
   refine pure_ (i := 16) (N := (some 38)) (v := undef) (a' := ?_) #[true, true, true, true, true, true, true, true, true, true, true, true, true, true, true, true, true, false] rfl rfl (by kernel_rfl) (fun _ _ _ h => h) (Or.inr ⟨by rfl, rfl⟩) ?_ ?_
   rotate_left
   ·first | (simp only [Act.put, List.setIfInBounds_toArray, List.set_cons_zero, List.set_cons_succ, i64_w, i32_w]; rfl) | rfl
   refine pure_ (i := 17) (N := (some 39)) (v := ?_) (a' := ?_) #[true, true, true, true, true, true, true, true, true, true, true, true, true, true, true, true, true, true] rfl rfl (by kernel_rfl) (fun _ _ _ h => h) (Or.inl ⟨by rfl, ?_⟩) ?_ ?_
   rotate_left
   ·intro w'
    first | (go_simp; with_reducible rfl) | rfl | (go_simp; done)
   rotate_left
   ·first | (simp only [Act.put, List.setIfInBounds_toArray, List.set_cons_zero, List.set_cons_succ, i64_w, i32_w]; rfl) | rfl
   refine done_ (by kernel_rfl) ?_
   go_wp2
   go_roundw
   case rel => exact ⟨k + 1, by omega, by go_num, ⟨by rw [partC_succ, if_pos hin, List.append_nil]; exact HJ.out _ _ _ Hjk.out (grown_of_below HB3.out none)⟩, ⟨HKT.out.trans (KT.of_below HB3.out)⟩⟩
   case measure => simp [intOf]; omega
  have HCon := a_ ((Contains_f (k : Int) l (by have := Hl.out; omega) (l.length + 1) (by omega)).trans (by rw [decide_eq_false hin]))
  have HS := a_ hs0
  clear hs0
  go_upto_region 8 with (fail)
  have hS0 : wr.drew.cell? ⟨Be, 0, none⟩ = _ := HS.out
  have hCd := Kd.C_drew (HC.out wr HKT.out)
  refine start_ (n := 18) (S := fun w' => w'.cell? ⟨Be, 0, none⟩ = some (.func (.func 101) #[] #[.pointer (some ⟨Bd, 0, none⟩), .pointer (some ⟨By, 0, none⟩), .pointer (some ⟨Be, 0, none⟩)])) (ds := [15]) #[false, false, false, false, false, false, false, false, false, false, false, false, false, false, false, false, false, false] (by kernel_rfl) rfl rfl (hS0) (fun hHeld => ?_)
  clear hHeld
  refine pure_ (i := 0) (N := (some 22)) (v := ?_) (a' := ?_) #[true, false, false, false, false, false, false, false, false, false, false, false, false, false, false, false, false, false] rfl rfl (by kernel_rfl) (fun _ _ _ h => h) (Or.inl ⟨by rfl, ?_⟩) ?_ ?_
  rotate_left
  ·intro w'
   first | (go_simp; with_reducible rfl) | rfl | (go_simp; done)
  rotate_left
  ·first | (simp only [Act.put, List.setIfInBounds_toArray, List.set_cons_zero, List.set_cons_succ, i64_w, i32_w]; rfl) | rfl
  refine pure_ (i := 1) (N := (some 23)) (v := ?_) (a' := ?_) #[true, true, false, false, false, false, false, false, false, false, false, false, false, false, false, false, false, false] rfl rfl (by kernel_rfl) (fun _ _ _ h => h) (Or.inl ⟨by rfl, ?_⟩) ?_ ?_
  rotate_left
  ·intro w'
   first | (go_simp; with_reducible rfl) | rfl | (go_simp; done)
  rotate_left
  ·first | (simp only [Act.put, List.setIfInBounds_toArray, List.set_cons_zero, List.set_cons_succ, i64_w, i32_w]; rfl) | rfl
  refine one_ (i := 2) (N := (some 24)) #[true, true, true, false, false, false, false, false, false, false, false, false, false, false, false, false, false, false] rfl rfl (by kernel_rfl) (by decide) (fun K hK => ?_)
  refine goes_ Try.func79 (by kernel_rfl) rfl #[.slice A l.length c, .int .i64 (k : Int)] (by rfl) rfl rfl (by (try simp only [List.map_toArray, List.map_cons, List.map_nil]); first | done | rfl) ?_
  refine (sl_Contains_int_int.calls (l.length + 1) A c l (k : Int) false _ hCd Hc.out HCon.out).mono ?_
  rintro e w3 ⟨rfl, hdr⟩
  refine ⟨_, rfl, ?_⟩
  refine hK.out _ _ (by obtain ⟨nd, rfl⟩ := hdr.out; exact hS0) ?_
  clear hK K
  intro hHeld
  have hb3 : Below wr.heap.size wr w3 := by obtain ⟨nd, rfl⟩ := hdr.out; exact (bN_ (b1_ (Below.refl _ _)) nd)
  have HB3 := a_ hb3
  clear hb3 hdr hCd hS0
  refine norm_ (a' := ?_) ?_ ?_
  rotate_left
  ·show Act.put _ (some 24) _ = _
   simp only [Act.put, List.setIfInBounds_toArray, List.set_cons_zero, List.set_cons_succ, i64_w, i32_w]
   rfl
  refine pure_ (i := 3) (N := (some 25)) (v := ?_) (a' := ?_) #[true, true, true, true, false, false, false, false, false, false, false, false, false, false, false, false, false, false] rfl rfl (by kernel_rfl) (fun _ _ _ h => h) (Or.inl ⟨by rfl, ?_⟩) ?_ ?_
  rotate_left
  ·intro w'
   first | (go_simp; with_reducible rfl) | rfl | (go_simp; done)
  rotate_left
  ·first | (simp only [Act.put, List.setIfInBounds_toArray, List.set_cons_zero, List.set_cons_succ, i64_w, i32_w]; rfl) | rfl
  refine pure_ (i := 4) (N := (some 26)) (v := ?_) (a' := ?_) #[true, true, true, true, true, false, false, false, false, false, false, false, false, false, false, false, false, false] rfl rfl (by kernel_rfl) (fun _ _ _ h => h) (Or.inl ⟨by rfl, ?_⟩) ?_ ?_
  rotate_left
  ·intro w'
   first | (go_simp; with_reducible rfl) | rfl | (go_simp; done)
  rotate_left
  ·first | (simp only [Act.put, List.setIfInBounds_toArray, List.set_cons_zero, List.set_cons_succ, i64_w, i32_w]; rfl) | rfl
  refine take_ (i := 5) (N := (some 27)) (v := ?_) (a' := ?_) #[true, true, true, true, true, true, false, false, false, false, false, false, false, false, false, false, false, false] rfl rfl (by kernel_rfl) (fun _ _ _ h => h) (Or.inl ⟨by rfl, ?_⟩) hHeld ?_ ?_
  rotate_left
  ·intro w' s0
   first | (go_simp; with_reducible rfl) | rfl | (go_simp; done)
  rotate_left
  ·first | (simp only [Act.put, List.setIfInBounds_toArray, List.set_cons_zero, List.set_cons_succ, i64_w, i32_w]; rfl) | rfl
  refine pure_ (i := 6) (N := (some 28)) (v := ?_) (a' := ?_) #[true, true, true, true, true, true, true, false, false, false, false, false, false, false, false, false, false, false] rfl rfl (by kernel_rfl) (fun _ _ _ h => h) (Or.inl ⟨by rfl, ?_⟩) ?_ ?_
  rotate_left
  ·intro w'
   first | (go_simp; with_reducible rfl) | rfl | (go_simp; done)
  rotate_left
  ·first | (simp only [Act.put, List.setIfInBounds_toArray, List.set_cons_zero, List.set_cons_succ, i64_w, i32_w]; rfl) | rfl
  refine pure_ (i := 7) (N := (some 29)) (v := ?_) (a' := ?_) #[true, true, true, true, true, true, true, true, false, false, false, false, false, false, false, false, false, false] rfl rfl (by kernel_rfl) (fun _ _ _ h => h) (Or.inl ⟨by rfl, ?_⟩) ?_ ?_
  rotate_left
  ·intro w'
   first | (go_simp; with_reducible rfl) | rfl | (go_simp; done)
  rotate_left
  ·first | (simp only [Act.put, List.setIfInBounds_toArray, List.set_cons_zero, List.set_cons_succ, i64_w, i32_w]; rfl) | rfl
  refine pure_ (i := 8) (N := (some 30)) (v := ?_) (a' := ?_) #[true, true, true, true, true, true, true, true, true, false, false, false, false, false, false, false, false, false] rfl rfl (by kernel_rfl) (fun _ _ _ h => h) (Or.inl ⟨by rfl, ?_⟩) ?_ ?_
  rotate_left
  ·intro w'
   first | (go_simp; with_reducible rfl) | rfl | (go_simp; done)
  rotate_left
  ·first | (simp only [Act.put, List.setIfInBounds_toArray, List.set_cons_zero, List.set_cons_succ, i64_w, i32_w]; rfl) | rfl
  refine pure_ (i := 9) (N := (some 31)) (v := ?_) (a' := ?_) #[true, true, true, true, true, true, true, true, true, true, false, false, false, false, false, false, false, false] rfl rfl (by kernel_rfl) (fun _ _ _ h => h) (Or.inl ⟨by rfl, ?_⟩) ?_ ?_
  rotate_left
  ·intro w'
   first | (go_simp; with_reducible rfl) | rfl | (go_simp; done)
  rotate_left
  ·first | (simp only [Act.put, List.setIfInBounds_toArray, List.set_cons_zero, List.set_cons_succ, i64_w, i32_w]; rfl) | rfl
  refine pure_ (i := 10) (N := (some 32)) (v := ?_) (a' := ?_) #[true, true, true, true, true, true, true, true, true, true, true, false, false, false, false, false, false, false] rfl rfl (by kernel_rfl) (fun _ _ _ h => h) (Or.inl ⟨by rfl, ?_⟩) ?_ ?_
  rotate_left
  ·intro w'
   first | (go_simp; with_reducible rfl) | rfl | (go_simp; done)
  rotate_left
  ·first | (simp only [Act.put, List.setIfInBounds_toArray, List.set_cons_zero, List.set_cons_succ, i64_w, i32_w]; rfl) | rfl
  have hle := Hc.out
  refine pure_ (i := 11) (N := (some 33)) (v := ?_) (a' := ?_) #[true, true, true, true, true, true, true, true, true, true, true, true, false, false, false, false, false, false] rfl rfl (by kernel_rfl) (fun _ _ _ h => h) (Or.inl ⟨by rfl, ?_⟩) ?_ ?_
  rotate_left
  ·intro w'
   first | (go_simp; with_reducible rfl) | rfl | (go_simp; done)
  rotate_left
  ·first | (simp only [Act.put, List.setIfInBounds_toArray, List.set_cons_zero, List.set_cons_succ, i64_w, i32_w]; rfl) | rfl
  clear hle
  refine pure_ (i := 12) (N := (some 34)) (v := ?_) (a' := ?_) #[true, true, true, true, true, true, true, true, true, true, true, true, true, false, false, false, false, false] rfl rfl (by kernel_rfl) (fun _ _ _ h => h) (Or.inl ⟨by rfl, ?_⟩) ?_ ?_
  rotate_left
  ·intro w'
   first | (go_simp; with_reducible rfl) | rfl | (go_simp; done)
  rotate_left
  ·first | (simp only [Act.put, List.setIfInBounds_toArray, List.set_cons_zero, List.set_cons_succ, i64_w, i32_w]; rfl) | rfl
  refine one_ (i := 13) (N := (some 35)) #[true, true, true, true, true, true, true, true, true, true, true, true, true, true, false, false, false, false] rfl rfl (by kernel_rfl) (by decide) (fun K hK => ?_)
  refine value_ (w1 := ?_) (v := ?_) (by rfl) rfl ?_ ?_
  rotate_left 2
  ·go_simp
   constructor
   ·rfl
   ·rfl
  refine hK.out _ _ (pw_cell_below (bA_ (Below.refl _ _) _) hHeld) ?_
  clear hK K
  intro hHeld2
  refine norm_ (a' := ?_) ?_ ?_
  rotate_left
  ·show Act.put _ (some 35) _ = _
   simp only [Act.put, List.setIfInBounds_toArray, List.set_cons_zero, List.set_cons_succ, i64_w, i32_w]
   rfl
  obtain ⟨i0, hi0, hz0, hz1, hz2⟩ := info_parts info3
  refine one_ (i := 14) (N := (some 36)) #[true, true, true, true, true, true, true, true, true, true, true, true, true, true, true, false, false, false] rfl rfl (by kernel_rfl) (by decide) (fun K hK => ?_)
  refine step_grows_w (by rfl) (.tmp 33) (.tmp 35) 22 rfl 3 i0 (.int .i64 0) 1 8 Try.underlying22 hi0 hz0 hz1 hz2 rfl (by decide) A l.length l.length (encs (Value.int .i64) l) rfl ?hnone (by simp [encs]) ?holds ⟨w3.heap.size, 0, none⟩ 1 1 [.int .i64 (k : Int)] rfl rfl ?hc (by simp [Value.oneCell']) (by omega) (by have := Hl.out; unfold maxLen; omega) (by have := Hl.out; omega) ?_
  case hnone => intro h0; have h1 := HA0.out h0; have h2 := Hc.out; omega
  case holds =>
   intro b hb j u hu
   subst hb
   have hb3 : Below wr.heap.size wr (w3.alloc (.cells #[.int .i64 (k : Int)] 3)) := (HB3.out).alloc HB3.out.size _
   obtain ⟨ad, e, hcs⟩ := (Kd.reads_of_C (enc := Value.int .i64) (d := (0 : Int)) (h1 := fun _ => rfl) (Kd.C_below (HC.out wr HKT.out) hb3)).2.2 (by rcases Nat.eq_zero_or_pos l.length with h0 | h0; rw [List.eq_nil_of_length_eq_zero h0] at hu; simp [encs] at hu; exact h0)
   cases e
   have hj : j < l.length := by
    rcases Nat.lt_or_ge j l.length with h' | h'
    ·exact h'
    ·simp [encs, List.getElem?_eq_none h'] at hu
   rw [hcs j hj]
   simp [encs, hj] at hu
   simp [hj, hu]
  case hc =>
   intro j u hu
   match j, hu with
   | 0, hu => simp at hu; subst hu; exact cell_new_at w3 _ _
  intro v4 w4 hown hgr
  obtain ⟨g4, cap4, rfl⟩ := ownsRow_succ hown
  have hR4 : Kd.R (Kd.int .i64) 3 w4 (w3.heap.size + 1) (fun _ => True) (.slice (some ⟨g4, 0, none⟩) (l.length + 1) cap4) (l ++ [(k : Int)]) := by
   refine Kd.R_of_own (h1 := fun _ => rfl) (enc := Value.int .i64) ?_ (fun _ _ => trivial)
   simpa [encs] using hown
  have hb4 : Below (w3.heap.size + 1) (w3.alloc (.cells #[.int .i64 (k : Int)] 3)) w4 := ⟨hgr.os, hgr.tape, hgr.output, hgr.size, fun i hi => hgr.block i (by simp; omega) (by simp)⟩
  have HB4 := a_ ((HB3.out.alloc HB3.out.size (.cells #[.int .i64 (k : Int)] 3)).trans (hb4.mono (by have := HB3.out.size; omega)))
  have HR4 := a_ hR4
  clear hown hgr hR4 hb4
  refine hK.out _ _ (pw_cell_below HB4.out HS.out) ?_
  clear hK K hHeld hHeld2
  intro hHeld3
  refine norm_ (a' := ?_) ?_ ?_
  rotate_left
  ·show Act.put _ (some 36) _ = _
   simp only [Act.put, List.setIfInBounds_toArray, List.set_cons_zero, List.set_cons_succ, i64_w, i32_w]
   rfl
  refine last_ (i := 15) (N := (some 37)) #[true, true, true, true, true, true, true, true, true, true, true, true, true, true, true, true, false, false] rfl rfl (by kernel_rfl) (by decide) (fun K hK => ?_)
  refine call_ 101 #[.slice (some ⟨g4, 0, none⟩) (l.length + 1) cap4, .pointer (some ⟨Bd, 0, none⟩), .pointer (some ⟨By, 0, none⟩), .pointer (some ⟨Be, 0, none⟩)] (by rfl) rfl ?hrun ?_
  case hrun =>
   have he := enters_ (P := Try.prog) Try.func101 (by kernel_rfl) rfl #[.slice (some ⟨g4, 0, none⟩) (l.length + 1) cap4, .pointer (some ⟨Bd, 0, none⟩), .pointer (some ⟨By, 0, none⟩), .pointer (some ⟨Be, 0, none⟩)] w4
   unfold execOp
   simp [resolve, Deferred.ofValue, invoke, Act.eval, he]
  have hKT4 : KT W w4 := HKT.out.trans (KT.of_below HB4.out)
  have hlen1 : (l ++ [(k : Int)]).length = l.length + 1 := by simp
  rw [← hlen1]
  refine (IH.out (l ++ [(k : Int)]) (some ⟨g4, 0, none⟩) cap4 (pre ++ (partC d n l k).map toCol) w4 (by have := Hl.out; simp; omega) ?ihC ?ihc (fun h => by cases h) (hKT4.same _ _ _ _ HBd.out (by decide) (by decide)) (hKT4.same _ _ _ _ HBy.out (by decide) (by decide)) (hKT4.same _ _ _ _ HBe.out (by decide) (by decide)) ?ihj ?ihN ?ihX).mono ?_
  case ihC =>
   intro W' hk'
   have h2 : Kd.R (Kd.int .i64) 3 W' (w3.heap.size + 1) (fun _ => True) (.slice (some ⟨g4, 0, none⟩) (l.length + 1) cap4) (l ++ [(k : Int)]) := by
    obtain ⟨cells, hcell⟩ := Kd.R_typed HR4.out g4 rfl
    refine Kd.R_of_own (h1 := fun _ => rfl) (enc := Value.int .i64) (own_move (Kd.own_of_R HR4.out) fun k' e' => ?_) (fun _ _ => trivial)
    obtain rfl : g4 = k' := by simpa [Value.ownBlock] using e'
    rw [hk'.same _ _ _ _ hcell (by decide) (by decide), hcell]
   exact (Kd.R_reads' h2).2.2
  case ihc => have := (Kd.R_reads' HR4.out).2.1; simpa using this
  case ihj => exact HJ.out _ _ _ Hjk.out (grown_of_below HB4.out none)
  case ihX =>
   intro y hy
   refine HX.out y ?_
   simp only [extC, List.mem_flatMap, List.mem_range]
   exact ⟨k, hkd, by rw [if_neg hin]; exact hy⟩
  case ihN =>
   have h1 := HN.out
   rw [HE] at h1
   have h2 := partC_le d n l (d - (k + 1)) (k + 1)
   rw [show k + 1 + (d - (k + 1)) = d from by omega, partC_succ, if_neg hin] at h2
   simp at h2 ⊢
   omega
  rintro e w5 ⟨b5, rfl, hr5⟩
  refine ⟨_, rfl, ?_⟩
  refine hK.out _ _ ?_
  clear hK K
  have Hr5 := a_ hr5
  clear hr5
  have HK4 := a_ hKT4
  clear hKT4
  cases b5
  rotate_left
  ·have Hj5 := a_ (show J (pre ++ (partC d n l (k + 1)).map toCol) w5 by have hj5 := Hr5.out.1; rw [partC_succ, if_neg hin]; simpa using hj5)
   have HK5 := a_ (HK4.out.trans Hr5.out.2)
   refine norm_ (a' := ?_) ?_ ?_
   rotate_left
   ·show Act.put _ (some 37) _ = _
    simp only [Act.put, List.setIfInBounds_toArray, List.set_cons_zero, List.set_cons_succ, i64_w, i32_w]
    rfl
   refine pure_ (i := 16) (N := (some 38)) (v := ?_) (a' := ?_) #[true, true, true, true, true, true, true, true, true, true, true, true, true, true, true, true, true, false] rfl rfl (by kernel_rfl) (fun _ _ _ h => h) (Or.inl ⟨by rfl, ?_⟩) ?_ ?_
   rotate_left
   ·intro w'
    first | (go_simp; with_reducible rfl) | rfl | (go_simp; done)
   rotate_left
   ·first | (simp only [Act.put, List.setIfInBounds_toArray, List.set_cons_zero, List.set_cons_succ, i64_w, i32_w]; rfl) | rfl
   refine pure_ (i := 17) (N := (some 39)) (v := ?_) (a' := ?_) #[true, true, true, true, true, true, true, true, true, true, true, true, true, true, true, true, true, true] rfl rfl (by kernel_rfl) (fun _ _ _ h => h) (Or.inl ⟨by rfl, ?_⟩) ?_ ?_
   rotate_left
   ·intro w'
    first | (go_simp; with_reducible rfl) | rfl | (go_simp; done)
   rotate_left
   ·first | (simp only [Act.put, List.setIfInBounds_toArray, List.set_cons_zero, List.set_cons_succ, i64_w, i32_w]; rfl) | rfl
   refine done_ (by kernel_rfl) ?_
   go_wp2
   go_roundw
   case rel => exact ⟨k + 1, by omega, by go_num, Hj5, HK5⟩
   case measure => simp [intOf]; omega
  ·refine norm_ (a' := ?_) ?_ ?_
   rotate_left
   ·show Act.put _ (some 37) _ = _
    simp only [Act.put, List.setIfInBounds_toArray, List.set_cons_zero, List.set_cons_succ, i64_w, i32_w]
    rfl
   refine pure_ (i := 16) (N := (some 38)) (v := ?_) (a' := ?_) #[true, true, true, true, true, true, true, true, true, true, true, true, true, true, true, true, true, false] rfl rfl (by kernel_rfl) (fun _ _ _ h => h) (Or.inl ⟨by rfl, ?_⟩) ?_ ?_
   rotate_left
   ·intro w'
    first | (go_simp; with_reducible rfl) | rfl | (go_simp; done)
   rotate_left
   ·first | (simp only [Act.put, List.setIfInBounds_toArray, List.set_cons_zero, List.set_cons_succ, i64_w, i32_w]; rfl) | rfl
   refine pure_ (i := 17) (N := (some 39)) (v := ?_) (a' := ?_) #[true, true, true, true, true, true, true, true, true, true, true, true, true, true, true, true, true, true] rfl rfl (by kernel_rfl) (fun _ _ _ h => h) (Or.inl ⟨by rfl, ?_⟩) ?_ ?_
   rotate_left
   ·intro w'
    first | (go_simp; with_reducible rfl) | rfl | (go_simp; done)
   rotate_left
   ·first | (simp only [Act.put, List.setIfInBounds_toArray, List.set_cons_zero, List.set_cons_succ, i64_w, i32_w]; rfl) | rfl
   refine done_ (by kernel_rfl) ?_
   go_wp2
   go_ret
   exact ⟨false, rfl, Hr5.out⟩
end Go.Proofs.Ytifkldehbaphgaa.PAll
end
section
namespace Go.Proofs.Ytifkldehbaphgaa.PAll
open Go.RowKit Go.PW.PrintWords Go.PW.PrintLast Go.PW.PrintMore
def colsS (d : Nat) : List S75 := (extC d d []).map toCol
set_option maxHeartbeats 4000000 in
theorem cols1_any (d : Nat) (hd1 : 1 ≤ d) (hd : d ≤ 5) (l0 Bd N : Nat) (X : S75 → Prop) (hX0 : ∀ y ∈ colsS d, X y) (J Jx : List S75 → World → Prop)
  (hJ : ∀ s W W', J s W → W.grownBy W' none → J s W')
  (hY : ∀ pre x W1, X x → J pre W1 → pre.length < N → YieldAt Fence.wide 0 Try.prog l0 #[.agg (cellsCol x).toArray] W1 (Says (ExtR J Jx (pre ++ [x]) W1)))
  (W : World) (hBd : W.heap[Bd]? = some (.cells #[.int .i64 d] 3 (0, 0))) (hj : J [] W) (hN : (colsS d).length ≤ N) :
  Calls Try.prog 100 #[.func (.yield l0) #[] #[], .pointer (some ⟨Bd, 0, none⟩)] W fun e W' => e = .returned (.tuple #[]) ∧ ∃ b, ExtR J Jx (colsS d) W b W' := by
 have HBd := a_ hBd
 have HJ := a_ hJ
 have HY := a_ hY
 have Hj := a_ hj
 have HN := a_ hN
 clear hBd hJ hY hj hN
 go_enter Try.func100, Try.ntmps100
 have hb1 : Below W.heap.size W (W.alloc (.cells #[.func (.yield l0) #[] #[]] 134)) := (Below.refl _ _).alloc (Nat.le_refl _) _
 have hb2 : Below W.heap.size W ((W.alloc (.cells #[.func (.yield l0) #[] #[]] 134)).alloc (.cells #[.func (.func 101) #[] #[.pointer (some ⟨Bd, 0, none⟩), .pointer (some ⟨W.heap.size, 0, none⟩), .pointer (some ⟨W.heap.size + 1, 0, none⟩)]] 116)) := hb1.alloc (by simp) _
 have h1 := HBd.out
 have hBy : ((W.alloc (.cells #[.func (.yield l0) #[] #[]] 134)).alloc (.cells #[.func (.func 101) #[] #[.pointer (some ⟨Bd, 0, none⟩), .pointer (some ⟨W.heap.size, 0, none⟩), .pointer (some ⟨W.heap.size + 1, 0, none⟩)]] 116)).heap[W.heap.size]? = some (.cells #[.func (.yield l0) #[] #[]] 134 (0, 0)) :=
  (Below.heap_alloc _ _ _ (by simp)).trans (World.alloc_heap_new W _)
 have hBe : ((W.alloc (.cells #[.func (.yield l0) #[] #[]] 134)).alloc (.cells #[.func (.func 101) #[] #[.pointer (some ⟨Bd, 0, none⟩), .pointer (some ⟨W.heap.size, 0, none⟩), .pointer (some ⟨W.heap.size + 1, 0, none⟩)]] 116)).heap[W.heap.size + 1]? = some (.cells #[.func (.func 101) #[] #[.pointer (some ⟨Bd, 0, none⟩), .pointer (some ⟨W.heap.size, 0, none⟩), .pointer (some ⟨W.heap.size + 1, 0, none⟩)]] 116 (0, 0)) := by
  have := World.alloc_heap_new (W.alloc (.cells #[.func (.yield l0) #[] #[]] 134)) (.cells #[.func (.func 101) #[] #[.pointer (some ⟨Bd, 0, none⟩), .pointer (some ⟨W.heap.size, 0, none⟩), .pointer (some ⟨W.heap.size + 1, 0, none⟩)]] 116)
  rwa [World.size_alloc] at this
 have hX := a_ (ext_any d hd1 hd l0 Bd W.heap.size (W.heap.size + 1) N X J Jx HJ.out HY.out d [] none 0 [] _ (by simp) (fun W' _ => Kd.C_nil _ _) (Nat.le_refl _) (fun _ => rfl)
  ((KT.of_below hb2).same _ _ _ _ h1 (by decide) (by decide)) hBy hBe (HJ.out _ _ _ Hj.out (grown_of_below hb2 none)) (by simpa [colsS] using HN.out) (fun y hy => hX0 _ (List.mem_map_of_mem hy)))
 have HB2 := a_ hb2
 clear h1 hBy hBe hb1 hb2 HBd HJ HY Hj HN
 go_wp2_with (refine hX.out.mono ?_; rintro e W' ⟨b, rfl, hr⟩)
 go_end0
 refine ⟨rfl, b, ?_⟩
 cases b with
 | true => exact ⟨hr.1, (KT.of_below HB2.out).trans hr.2⟩
 | false => exact hr
set_option maxHeartbeats 4000000 in
theorem columns_any (d : Int) (w : World) :
  Calls Try.prog 95 #[.int .i64 d] w fun e w' => e = .returned (.func (.func 100) #[] #[.pointer (some ⟨w.heap.size, 0, none⟩)]) ∧ w' = w.alloc (.cells #[.int .i64 d] 3) := by
 go_enter Try.func95, Try.ntmps95
 go_wp2
 go_ret
 exact ⟨rfl, rfl⟩
theorem RoundIn.any_ {m m' : Nat} {P : Program} {l : Nat} {f : FuncId} {tmps : Array Value} {assign body : Code} {w : World} {R : Ending → World → Prop} (h : RoundIn Fence.wide m P l f tmps assign body w R) : RoundIn Fence.wide m' P l f tmps assign body w R := ⟨h.1, fun c cs _ => h.2 c cs (room_wide _)⟩
theorem YieldAt.any_ {m : Nat} (m' : Nat) {P : Program} {l : Nat} {args : Array Value} {W : World} {R : Ending → World → Prop} (h : YieldAt Fence.wide m P l args W R) : YieldAt Fence.wide m' P l args W R := by
 obtain ⟨fn, tmps, assign, body, hy, hR⟩ := h
 exact ⟨fn, tmps, assign, body, hy, RoundIn.any_ hR⟩
theorem sub_map {α : Type} {p : α → Prop} : ∀ {a b : List {x : α // p x}}, a.map Subtype.val = b.map Subtype.val → a = b
 | [], [], _ => rfl
 | [], _ :: _, h => by simp at h
 | _ :: _, [], h => by simp at h
 | x :: a, y :: b, h => by
  simp only [List.map_cons, List.cons.injEq] at h
  rw [Subtype.ext h.1, sub_map h.2]
theorem cols_stops (d : Nat) (hd1 : 1 ≤ d) (hd : d ≤ 5) (Bd n N : Nat) (w : World) (hBd : w.heap[Bd]? = some (.cells #[.int .i64 d] 3 (0, 0))) (hN : (colsS d).length ≤ N) :
  SeqStopsK Fence.wide n Try.prog 100 #[.pointer (some ⟨Bd, 0, none⟩)] (fun x : {c : S75 // c ∈ colsS d} => #[.agg (cellsCol x.1).toArray]) KT (fun xs => xs = (colsS d).attach) (fun _ => True) N w := by
 intro l J Jx W hW hJ hJx hY h0
 have hlt : Bd < w.heap.size := by
  rcases Nat.lt_or_ge Bd w.heap.size with h' | h'
  ·exact h'
  ·simp [Array.getElem?_eq_none h'] at hBd
 refine callsIn_wide.2 ((cols1_any d hd1 hd l Bd N (fun x => x ∈ colsS d) (fun y hy => hy) (fun s W => ∃ q : List {c : S75 // c ∈ colsS d}, q.map Subtype.val = s ∧ J q W) (fun s W => ∃ q : List {c : S75 // c ∈ colsS d}, q.map Subtype.val = s ∧ Jx q W)
  (fun s A B ⟨q, hq, hs⟩ hg => ⟨q, hq, hJ q A B none hs hg (fun r e => by cases e)⟩) (fun pre x W1 hx ⟨q, hq, hj⟩ hl => ?_) W ((hW.block Bd hlt).trans hBd) ⟨[], rfl, h0⟩ hN).mono ?_)
 ·refine YieldAt.any_ 0 (YieldAt.mono (hY q ⟨x, hx⟩ W1 hj (by rw [← hq] at hl; simpa using hl)) ?_)
  rintro e W' (⟨rfl, h1, h2⟩ | ⟨rfl, h1⟩)
  ·exact ⟨true, rfl, ⟨q ++ [⟨x, hx⟩], by rw [List.map_append, hq]; rfl, h1⟩, h2⟩
  ·exact ⟨false, rfl, _, q ++ [⟨x, hx⟩], by rw [List.map_append, hq], h1⟩
 ·rintro e W' ⟨rfl, b, hb⟩
  refine ⟨⟨_, rfl⟩, ?_⟩
  cases b with
  | true =>
   obtain ⟨⟨q, hq, h1⟩, _⟩ := hb
   refine .inl ⟨q, ?_, h1⟩
   have hq' : q.map Subtype.val = ((colsS d).attach).map Subtype.val := by rw [hq]; exact (List.attach_map_subtype_val _).symm
   exact sub_map hq'
  | false => obtain ⟨_, q, _, hq⟩ := hb; exact .inr ⟨q, trivial, hq⟩
end Go.Proofs.Ytifkldehbaphgaa.PAll
end
section
namespace Go.Proofs.Ytifkldehbaphgaa.PAll
open Go.RowKit Go.PW.PrintWords Go.PW.PrintLast Go.PW.PrintMore
attribute [local go_sem] max2_int max_two
def cmp_isNaN_int.f (a0 : Int) : Option (Bool) := some (a0 != a0)
theorem cmp_isNaN_int.calls (a0 : Int) (r : Bool) (w : World) (h : cmp_isNaN_int.f a0 = some r) :
  Calls Try.prog 102 #[.int .i64 a0] w fun e w' => e = .returned (.bool r) ∧ Drawn0 w w' := by
 have H : (some (a0 != a0)) = some r := h
 clear h
 obtain rfl := Option.some.inj H
 go_enter Try.func102, Try.ntmps102
 go_wp2
 go_ret
 exact ⟨by first | rfl | (simp; done) | (simp [*]; done), by repeat (first | exact Drawn0.refl _ | apply Drawn0.step)⟩
def cmp_Less_int.f (a0 : Int) (a1 : Int) : Option (Bool) := (cmp_isNaN_int.f a0).bind fun t206 => (if t206 = true then ((cmp_isNaN_int.f a1).bind fun t207 => (if t207 = true then (some (decide (a0 < a1))) else (some true))) else (some (decide (a0 < a1))))
theorem cmp_Less_int.calls (a0 : Int) (a1 : Int) (r : Bool) (w : World) (h : cmp_Less_int.f a0 a1 = some r) :
  Calls Try.prog 96 #[.int .i64 a0, .int .i64 a1] w fun e w' => e = .returned (.bool r) ∧ Drawn0 w w' := by
 have H : ((cmp_isNaN_int.f a0).bind fun t206 => (if t206 = true then ((cmp_isNaN_int.f a1).bind fun t207 => (if t207 = true then (some (decide (a0 < a1))) else (some true))) else (some (decide (a0 < a1))))) = some r := h
 clear h
 replace H := Option.bind_eq_some_iff.mp H
 obtain ⟨t206, A30, H⟩ := H
 try dsimp only at H
 have A3 := a_ A30
 clear A30
 by_cases c4 : t206 = true
 rotate_left
 ·replace c4 := Bool.eq_false_iff.mpr c4
  subst c4
  have H1 := H; rw [if_neg (show ¬ (false = true) by decide)] at H1
  clear H
  have H := H1
  clear H1
  obtain rfl := Option.some.inj H
  go_enter Try.func96, Try.ntmps96
  go_wp2_with (first | ((with_reducible refine gate_callee (f := 102) rfl ?_); refine goesL_ (some 6) rfl rfl Try.func102 (by kernel_rfl) rfl #[.int .i64 a0] rfl (by (try simp only [List.map_toArray, List.map_cons, List.map_nil]); first | done | rfl | (simp only [List.length_drop, List.length_take]; rfl)) ?_; (with_reducible refine (cmp_isNaN_int.calls a0 false _ A3.out).mono ?_); rintro e w' ⟨rfl, ⟨nd, rfl⟩⟩; refine ⟨_, rfl, ?_⟩))
  go_ret
  exact ⟨by first | rfl | (simp; done) | (simp [*]; done), by repeat (first | exact Drawn0.refl _ | apply Drawn0.step)⟩
 subst c4
 have H1 := H; rw [if_pos rfl] at H1
 clear H
 have H := H1
 clear H1
 replace H := Option.bind_eq_some_iff.mp H
 obtain ⟨t207, A50, H⟩ := H
 try dsimp only at H
 have A5 := a_ A50
 clear A50
 by_cases c6 : t207 = true
 ·subst c6
  have H1 := H; rw [if_pos rfl] at H1
  clear H
  have H := H1
  clear H1
  obtain rfl := Option.some.inj H
  go_enter Try.func96, Try.ntmps96
  go_wp2_with (first | ((with_reducible refine gate_callee (f := 102) rfl ?_); refine goesL_ (some 6) rfl rfl Try.func102 (by kernel_rfl) rfl #[.int .i64 a0] rfl (by (try simp only [List.map_toArray, List.map_cons, List.map_nil]); first | done | rfl | (simp only [List.length_drop, List.length_take]; rfl)) ?_; (with_reducible refine (cmp_isNaN_int.calls a0 true _ A3.out).mono ?_); rintro e w' ⟨rfl, ⟨nd, rfl⟩⟩; refine ⟨_, rfl, ?_⟩) | (go_at_call 102; (with_reducible refine (cmp_isNaN_int.calls a1 true _ A5.out).mono ?_); rintro e w' ⟨rfl, ⟨nd, rfl⟩⟩))
  go_ret
  exact ⟨by first | rfl | (simp; done) | (simp [*]; done), by repeat (first | exact Drawn0.refl _ | apply Drawn0.step)⟩
 replace c6 := Bool.eq_false_iff.mpr c6
 subst c6
 have H1 := H; rw [if_neg (show ¬ (false = true) by decide)] at H1
 clear H
 have H := H1
 clear H1
 obtain rfl := Option.some.inj H
 go_enter Try.func96, Try.ntmps96
 go_wp2_with (first | ((with_reducible refine gate_callee (f := 102) rfl ?_); refine goesL_ (some 6) rfl rfl Try.func102 (by kernel_rfl) rfl #[.int .i64 a0] rfl (by (try simp only [List.map_toArray, List.map_cons, List.map_nil]); first | done | rfl | (simp only [List.length_drop, List.length_take]; rfl)) ?_; (with_reducible refine (cmp_isNaN_int.calls a0 true _ A3.out).mono ?_); rintro e w' ⟨rfl, ⟨nd, rfl⟩⟩; refine ⟨_, rfl, ?_⟩) | (go_at_call 102; (with_reducible refine (cmp_isNaN_int.calls a1 false _ A5.out).mono ?_); rintro e w' ⟨rfl, ⟨nd, rfl⟩⟩))
 go_ret
 exact ⟨by first | rfl | (simp; done) | (simp [*]; done), by repeat (first | exact Drawn0.refl _ | apply Drawn0.step)⟩
def sl_IsSorted_int_int.l0 : Nat → List Int → Int → Option (Bool)
 | 0, _, _ => none
 | k + 1, x0, x3 => if x3 > 0 then (if 0 ≤ x3 then (if x3 < (x0.length : Int) then (if 0 ≤ (wrap64 (x3 - 1)) then (if (wrap64 (x3 - 1)) < (x0.length : Int) then ((cmp_Less_int.f (rd x0 x3) (rd x0 (wrap64 (x3 - 1)))).bind fun t210 => (if t210 = true then (some false) else (sl_IsSorted_int_int.l0 k x0 (wrap64 (x3 - 1))))) else (none)) else (none)) else (none)) else (none)) else (some true)
def sl_IsSorted_int_int.f (k : Nat) (l0 : List Int) : Option (Bool) := sl_IsSorted_int_int.l0 k l0 (wrap64 ((l0.length : Int) - 1))
theorem sl_IsSorted_int_int.calls (k : Nat) (A0 : Option Addr) (c0 : Nat) (l0 : List Int) (r : Bool) (w : World) (hr0 : Kd.C (Kd.int .i64) w A0 l0.length l0) (hc0 : l0.length ≤ c0) (h : sl_IsSorted_int_int.f k l0 = some r) :
  Calls Try.prog 80 #[.slice A0 l0.length c0] w fun e w' => e = .returned (.bool r) ∧ Drawn0 w w' := by
 have HR0 := a_ hr0
 have HC0 := a_ hc0
 clear hr0 hc0
 have H : (sl_IsSorted_int_int.l0 k l0 (wrap64 ((l0.length : Int) - 1))) = some r := h
 clear h
 have H' := a_ H
 clear H
 go_enter Try.func80, Try.ntmps80
 go_wp2
 repeat (go_quiet (fail); try go_wp2)
 go_loopg [3] k (fun kq v3 w' => ∃ (x3_1 : Int), v3 = .int .i64 x3_1 ∧ Aside0 (sl_IsSorted_int_int.l0 kq l0 x3_1 = some r) ∧ Aside0 (kq ≤ k) ∧ Drawn0 w w')
 case atStart => exact ⟨(wrap64 ((l0.length : Int) - 1)), (by first | rfl | (simp; done) | (simp [*]; done)), H', ⟨Nat.le_refl _⟩, by repeat (first | exact Drawn0.refl _ | apply Drawn0.step)⟩
 clear H'
 obtain ⟨x3_1, rfl, HA, HK1, ⟨m1, rfl⟩⟩ := hrel
 cases gk with
 | zero => exact absurd HA.out (by simp [sl_IsSorted_int_int.l0])
 | succ k1 =>
  have H := HA.out
  clear HA
  simp only [sl_IsSorted_int_int.l0] at H
  by_cases c2 : x3_1 > 0
  rotate_left
  ·rw [if_neg c2] at H
   have c2b0 : decide (0 < x3_1) = false := decide_eq_false c2
   clear c2
   obtain rfl := Option.some.inj H
   go_wp2
   repeat (go_quiet (fail); try go_wp2)
   go_ret
   exact ⟨by first | rfl | (simp; done) | (simp [*]; done), by repeat (first | exact Drawn0.refl _ | apply Drawn0.step)⟩
  rw [if_pos c2] at H
  have c2b0 : decide (0 < x3_1) = true := decide_eq_true c2
  clear c2
  by_cases c3 : 0 ≤ x3_1
  rotate_left
  ·rw [if_neg c3] at H
   exact absurd H (by simp)
  rw [if_pos c3] at H
  have c3b0 : decide (0 ≤ x3_1) = true := decide_eq_true c3
  clear c3
  by_cases c4 : x3_1 < (l0.length : Int)
  rotate_left
  ·rw [if_neg c4] at H
   exact absurd H (by simp)
  rw [if_pos c4] at H
  have c4b0 : decide (x3_1 < (l0.length : Int)) = true := decide_eq_true c4
  clear c4
  obtain ⟨ji5, hji5⟩ : ∃ j_ : Int, (wrap64 (x3_1 - 1)) = j_ := ⟨_, rfl⟩
  replace H : (if 0 ≤ (ji5) then (if (ji5) < (l0.length : Int) then ((cmp_Less_int.f (rd l0 x3_1) (rd l0 (ji5))).bind fun t210 => (if t210 = true then (some false) else (sl_IsSorted_int_int.l0 k1 l0 ji5))) else (none)) else (none)) = some r := by first | (rw [hji5] at H; exact H) | (simp only [hji5] at H ⊢; exact H)
  have hji5w : (IntKind.i64.wrap (x3_1 - 1)) = ji5 := (i64_w _).trans hji5
  by_cases c6 : 0 ≤ (ji5)
  rotate_left
  ·rw [if_neg c6] at H
   exact absurd H (by simp)
  rw [if_pos c6] at H
  have c6b0 : decide (0 ≤ (ji5)) = true := decide_eq_true c6
  clear c6
  by_cases c7 : (ji5) < (l0.length : Int)
  rotate_left
  ·rw [if_neg c7] at H
   exact absurd H (by simp)
  rw [if_pos c7] at H
  have c7b0 : decide ((ji5) < (l0.length : Int)) = true := decide_eq_true c7
  clear c7
  replace H := Option.bind_eq_some_iff.mp H
  obtain ⟨t210, A80, H⟩ := H
  try dsimp only at H
  have A8 := a_ A80
  clear A80
  by_cases c9 : t210 = true
  ·subst c9
   have H1 := H; rw [if_pos rfl] at H1
   clear H
   have H := H1
   clear H1
   obtain rfl := Option.some.inj H
   have p208 : 0 ≤ (x3_1 : Int) := of_decide_eq_true (by first | (with_reducible assumption) | assumption)
   have q208 : x3_1 < (l0.length : Int) := of_decide_eq_true (by first | (with_reducible assumption) | assumption)
   obtain ⟨ad208, e208, hx208_0⟩ := Kd.at_int HR0.out x3_1 p208 q208
   cases e208
   replace p208 := eq_true p208
   replace q208 := eq_true q208
   have p209 : 0 ≤ ((ji5) : Int) := of_decide_eq_true (by first | (with_reducible assumption) | assumption)
   have q209 : (ji5) < (l0.length : Int) := of_decide_eq_true (by first | (with_reducible assumption) | assumption)
   obtain ⟨ad209, e209, hx209_0⟩ := Kd.at_int HR0.out (ji5) p209 q209
   obtain rfl : ad208 = ad209 := (by injection e209)
   replace p209 := eq_true p209
   replace q209 := eq_true q209
   go_wp2_with (first | (go_at_call 96; (with_reducible refine (cmp_Less_int.calls (rd l0 x3_1) (rd l0 (ji5)) true _ A8.out).mono ?_); rintro e w' ⟨rfl, ⟨nd, rfl⟩⟩; (try first | exact ⟨rfl, _, World.drewN_drewN _ _ _⟩ | exact ⟨rfl, _, Eq.trans (World.drewN_drewN _ _ _) (congrArg (World.drewN _) (Nat.add_assoc _ _ _))⟩)))
   repeat (go_quiet (first | (go_at_call 96; (with_reducible refine (cmp_Less_int.calls (rd l0 x3_1) (rd l0 (ji5)) true _ A8.out).mono ?_); rintro e w' ⟨rfl, ⟨nd, rfl⟩⟩; (try first | exact ⟨rfl, _, World.drewN_drewN _ _ _⟩ | exact ⟨rfl, _, Eq.trans (World.drewN_drewN _ _ _) (congrArg (World.drewN _) (Nat.add_assoc _ _ _))⟩))); try go_wp2_with (first | (go_at_call 96; (with_reducible refine (cmp_Less_int.calls (rd l0 x3_1) (rd l0 (ji5)) true _ A8.out).mono ?_); rintro e w' ⟨rfl, ⟨nd, rfl⟩⟩; (try first | exact ⟨rfl, _, World.drewN_drewN _ _ _⟩ | exact ⟨rfl, _, Eq.trans (World.drewN_drewN _ _ _) (congrArg (World.drewN _) (Nat.add_assoc _ _ _))⟩))))
   go_ret
   exact ⟨by first | rfl | (simp; done) | (simp only [← hji5] <;> (first | rfl | simp)) | (simp [*]; done), by repeat (first | exact Drawn0.refl _ | apply Drawn0.step)⟩
  replace c9 := Bool.eq_false_iff.mpr c9
  subst c9
  have H1 := H; rw [if_neg (show ¬ (false = true) by decide)] at H1
  clear H
  have H := H1
  clear H1
  have H' := a_ H
  clear H
  have p208 : 0 ≤ (x3_1 : Int) := of_decide_eq_true (by first | (with_reducible assumption) | assumption)
  have q208 : x3_1 < (l0.length : Int) := of_decide_eq_true (by first | (with_reducible assumption) | assumption)
  obtain ⟨ad208, e208, hx208_0⟩ := Kd.at_int HR0.out x3_1 p208 q208
  cases e208
  replace p208 := eq_true p208
  replace q208 := eq_true q208
  have p209 : 0 ≤ ((ji5) : Int) := of_decide_eq_true (by first | (with_reducible assumption) | assumption)
  have q209 : (ji5) < (l0.length : Int) := of_decide_eq_true (by first | (with_reducible assumption) | assumption)
  obtain ⟨ad209, e209, hx209_0⟩ := Kd.at_int HR0.out (ji5) p209 q209
  obtain rfl : ad208 = ad209 := (by injection e209)
  replace p209 := eq_true p209
  replace q209 := eq_true q209
  go_wp2_with (first | (go_at_call 96; (with_reducible refine (cmp_Less_int.calls (rd l0 x3_1) (rd l0 (ji5)) false _ A8.out).mono ?_); rintro e w' ⟨rfl, ⟨nd, rfl⟩⟩; (try first | exact ⟨rfl, _, World.drewN_drewN _ _ _⟩ | exact ⟨rfl, _, Eq.trans (World.drewN_drewN _ _ _) (congrArg (World.drewN _) (Nat.add_assoc _ _ _))⟩)))
  repeat (go_quiet (first | (go_at_call 96; (with_reducible refine (cmp_Less_int.calls (rd l0 x3_1) (rd l0 (ji5)) false _ A8.out).mono ?_); rintro e w' ⟨rfl, ⟨nd, rfl⟩⟩; (try first | exact ⟨rfl, _, World.drewN_drewN _ _ _⟩ | exact ⟨rfl, _, Eq.trans (World.drewN_drewN _ _ _) (congrArg (World.drewN _) (Nat.add_assoc _ _ _))⟩))); try go_wp2_with (first | (go_at_call 96; (with_reducible refine (cmp_Less_int.calls (rd l0 x3_1) (rd l0 (ji5)) false _ A8.out).mono ?_); rintro e w' ⟨rfl, ⟨nd, rfl⟩⟩; (try first | exact ⟨rfl, _, World.drewN_drewN _ _ _⟩ | exact ⟨rfl, _, Eq.trans (World.drewN_drewN _ _ _) (congrArg (World.drewN _) (Nat.add_assoc _ _ _))⟩))))
  go_roundg k1
  case measure => have := HK1.out; omega
  case rel => exact ⟨(ji5), (by first | rfl | (simp; done) | (simp only [← hji5] <;> (first | rfl | simp)) | (simp [*]; done)), H', ⟨by have := HK1.out; omega⟩, by repeat (first | exact Drawn0.refl _ | apply Drawn0.step)⟩
def c_inverse.f (a0 : Int) : Option (Int) := some (Go.bits .xor .u8 a0 32)
theorem c_inverse.calls (a0 : Int) (r : Int) (w : World) (h : c_inverse.f a0 = some r) :
  Calls Try.prog 81 #[.int .u8 a0] w fun e w' => e = .returned (.int .u8 r) ∧ Drawn0 w w' := by
 have H : (some (Go.bits .xor .u8 a0 32)) = some r := h
 clear h
 obtain rfl := Option.some.inj H
 go_enter Try.func81, Try.ntmps81
 go_wp2
 go_ret
 exact ⟨by first | rfl | (simp; done) | (simp [*]; done), by repeat (first | exact Drawn0.refl _ | apply Drawn0.step)⟩
mutual
def c_joined.l0 : Nat → List Int → List ByteArray → Int → Int → Option (ByteArray)
 | 0, _, _, _, _ => none
 | k + 1, x3, x8, x9, x10 => if x10 < x9 then (if 0 ≤ x10 then (if x10 < (x8.length : Int) then (c_joined.l1 k x3 (rdOf ByteArray.empty x8 x10) x8 x9 x10 ((rdOf ByteArray.empty x8 x10).size : Int) 0) else (none)) else (none)) else (some (strOfNums x3))
def c_joined.l1 : Nat → List Int → ByteArray → List ByteArray → Int → Int → Int → Int → Option (ByteArray)
 | 0, _, _, _, _, _, _, _ => none
 | k + 1, x3, x5, x8, x9, x10, x15, x16 => if x16 < x15 then (if (x3.length : Int) > 0 then (if 0 ≤ (wrap64 ((x3.length : Int) - 1)) then (if (wrap64 ((x3.length : Int) - 1)) < (x3.length : Int) then (if 0 ≤ x16 then (if x16 < (x5.size : Int) then ((c_inverse.f (bt x5 x16)).bind fun t196 => (if (rd x3 (wrap64 ((x3.length : Int) - 1))) = t196 then (if (wrap64 ((x3.length : Int) - 1)) ≤ (x3.length : Int) then (c_joined.l1 k (x3.take ((wrap64 ((x3.length : Int) - 1)) : Int).toNat) x5 x8 x9 x10 x15 (wrap64 (x16 + 1))) else (none)) else (if x3.length < 140737488355328 then (c_joined.l1 k (x3 ++ [bt x5 x16]) x5 x8 x9 x10 x15 (wrap64 (x16 + 1))) else (none)))) else (none)) else (none)) else (none)) else (none)) else (if 0 ≤ x16 then (if x16 < (x5.size : Int) then (if x3.length < 140737488355328 then (c_joined.l1 k (x3 ++ [bt x5 x16]) x5 x8 x9 x10 x15 (wrap64 (x16 + 1))) else (none)) else (none)) else (none))) else (c_joined.l0 k x3 x8 x9 (wrap64 (x10 + 1)))
end
def c_joined.f (k : Nat) (l0 : List ByteArray) : Option (ByteArray) := c_joined.l0 k ([] : List Int) l0 (l0.length : Int) 0
theorem c_joined.calls (k : Nat) (A0 : Option Addr) (c0 : Nat) (l0 : List ByteArray) (r : ByteArray) (w : World) (hr0 : Kd.C Kd.string w A0 l0.length l0) (hc0 : l0.length ≤ c0) (h : c_joined.f k l0 = some r) :
  Calls Try.prog 54 #[.slice A0 l0.length c0] w fun e w' => e = .returned (.string r) ∧ Below w.heap.size w w' := by
 have HR0 := a_ hr0
 have HC0 := a_ hc0
 clear hr0 hc0
 have HB := a_ (Below.refl w.heap.size w)
 have H : (c_joined.l0 k ([] : List Int) l0 (l0.length : Int) 0) = some r := h
 clear h
 have H' := a_ H
 clear H
 go_enter Try.func54, Try.ntmps54
 go_wp2
 repeat (go_quiet (fail); try go_wp2)
 go_loopg [3, 10] k (fun kq v3 v10 w' => ∃ (x3_1 : List Int) (x10_1 : Int), v10 = .int .i64 x10_1 ∧ Aside0 (c_joined.l0 kq x3_1 l0 (l0.length : Int) x10_1 = some r) ∧ Aside0 (kq ≤ k) ∧ Aside0 (Kd.R (Kd.int .u8) 5 w' w.heap.size (fun _ => True) v3 x3_1) ∧ Aside0 (Below w.heap.size w w'))
 case atStart => exact ⟨(([] : List Int)), (0), (by first | rfl | (simp; done) | (simp [*]; done)), H', ⟨Nat.le_refl _⟩, ⟨by first | exact Kd.R_nil _ _ _ _ _ | exact Kd.N_nil _ _ _ _ _ | exact Kd.V_nil _ _ _ _ _ | exact Kd.Q_nil _ _ _ _ _ | exact Kd.S_nil _ _ _ _ _⟩, ⟨by exact gs HB.out⟩⟩
 clear H'
 obtain ⟨x3_1, x10_1, rfl, HA, HK1, HO_3, HB⟩ := hrel
 cases gk with
 | zero => exact absurd HA.out (by simp [c_joined.l0])
 | succ k1 =>
  have H := HA.out
  clear HA
  simp only [c_joined.l0] at H
  by_cases c2 : x10_1 < (l0.length : Int)
  rotate_left
  ·rw [if_neg c2] at H
   have c2b0 : decide (x10_1 < (l0.length : Int)) = false := decide_eq_false c2
   clear c2
   obtain rfl := Option.some.inj H
   have hcv28 := own_string (P := Try.prog) Try.underlying86 Try.underlying5 Try.underlying9 (Kd.own_of_R HO_3.out)
   go_wp2
   repeat (go_quiet (fail); try go_wp2)
   go_ret
   exact ⟨by first | rfl | (simp [errW_none, errW_some] <;> rfl) | (simp [*, errW_none, errW_some] <;> rfl), by exact gs HB.out⟩
  rw [if_pos c2] at H
  have c2b0 : decide (x10_1 < (l0.length : Int)) = true := decide_eq_true c2
  clear c2
  by_cases c3 : 0 ≤ x10_1
  rotate_left
  ·rw [if_neg c3] at H
   exact absurd H (by simp)
  rw [if_pos c3] at H
  have c3b0 : decide (0 ≤ x10_1) = true := decide_eq_true c3
  clear c3
  by_cases c4 : x10_1 < (l0.length : Int)
  rotate_left
  ·rw [if_neg c4] at H
   exact absurd H (by simp)
  rw [if_pos c4] at H
  have c4b0 : decide (x10_1 < (l0.length : Int)) = true := decide_eq_true c4
  clear c4
  have H' := a_ H
  clear H
  have p194 : 0 ≤ (x10_1 : Int) := of_decide_eq_true (by first | (with_reducible assumption) | assumption)
  have q194 : x10_1 < (l0.length : Int) := of_decide_eq_true (by first | (with_reducible assumption) | assumption)
  obtain ⟨ad194, e194, hx194_0⟩ := Kd.at_string HR0.out x10_1 p194 q194
  cases e194
  replace hx194_0 := (HB.out.cell (World.block_lt_of_cell? w _ hx194_0)).trans hx194_0
  replace p194 := eq_true p194
  replace q194 := eq_true q194
  go_wp2
  repeat (go_quiet (fail); try go_wp2)
  go_loopg [3, 16] k1 (fun kq v3 v16 w' => ∃ (x3_2 : List Int) (x16_2 : Int), v16 = .int .i64 x16_2 ∧ Aside0 (c_joined.l1 kq x3_2 (rdOf ByteArray.empty l0 x10_1) l0 (l0.length : Int) x10_1 ((rdOf ByteArray.empty l0 x10_1).size : Int) x16_2 = some r) ∧ Aside0 (kq ≤ k1) ∧ Aside0 (Kd.R (Kd.int .u8) 5 w' w.heap.size (fun _ => True) v3 x3_2) ∧ Aside0 (Below w.heap.size w w'))
  case atStart => exact ⟨(x3_1), (0), (by first | rfl | (simp; done) | (simp [*]; done)), H', ⟨Nat.le_refl _⟩, ⟨by exact rk HO_3.out⟩, ⟨by exact gs HB.out⟩⟩
  clear H'
  try clear p1
  try clear q1
  try clear hx1
  try clear c2
  try clear c2b0
  try clear p2
  try clear c3
  try clear c3b0
  try clear c4
  try clear c4b0
  try clear hx194_0
  try clear p194
  try clear q194
  obtain ⟨x3_2, x16_2, rfl, HA, HK2, HO_3, HB⟩ := hrel
  cases gk with
  | zero => exact absurd HA.out (by simp [c_joined.l1])
  | succ k2 =>
   have H := HA.out
   clear HA
   simp only [c_joined.l1] at H
   by_cases c5 : x16_2 < ((rdOf ByteArray.empty l0 x10_1).size : Int)
   rotate_left
   ·rw [if_neg c5] at H
    have c5b0 : decide (x16_2 < ((rdOf ByteArray.empty l0 x10_1).size : Int)) = false := decide_eq_false c5
    clear c5
    have H' := a_ H
    clear H
    go_wp2
    repeat (go_quiet (fail); try go_wp2)
    go_roundg k2
    case measure => have := HK1.out; have := HK2.out; omega
    case rel => exact ⟨(x3_2), (wrap64 (x10_1 + 1)), (by first | rfl | (simp; done) | (simp [*]; done)), H', ⟨by have := HK1.out; have := HK2.out; omega⟩, ⟨by exact rk HO_3.out⟩, ⟨by exact gs HB.out⟩⟩
   rw [if_pos c5] at H
   have c5b0 : decide (x16_2 < ((rdOf ByteArray.empty l0 x10_1).size : Int)) = true := decide_eq_true c5
   clear c5
   by_cases c6 : (x3_2.length : Int) > 0
   rotate_left
   ·rw [if_neg c6] at H
    have c6b0 : decide (0 < (x3_2.length : Int)) = false := decide_eq_false c6
    have c6b1 : decide (0 < x3_2.length) = false := decide_eq_false (by omega)
    clear c6
    by_cases c22 : 0 ≤ x16_2
    rotate_left
    ·rw [if_neg c22] at H
     exact absurd H (by simp)
    rw [if_pos c22] at H
    have c22b0 : decide (0 ≤ x16_2) = true := decide_eq_true c22
    clear c22
    by_cases c23 : x16_2 < ((rdOf ByteArray.empty l0 x10_1).size : Int)
    rotate_left
    ·rw [if_neg c23] at H
     exact absurd H (by simp)
    rw [if_pos c23] at H
    have c23b0 : decide (x16_2 < ((rdOf ByteArray.empty l0 x10_1).size : Int)) = true := decide_eq_true c23
    clear c23
    by_cases c25 : x3_2.length < 140737488355328
    rotate_left
    ·rw [if_neg c25] at H
     exact absurd H (by simp)
    rw [if_pos c25] at H
    have LMc25 := a_ c25
    clear c25
    obtain ⟨y203, hy203⟩ : ∃ y_ : List Int, y_ = (x3_2 ++ [bt (rdOf ByteArray.empty l0 x10_1) x16_2]) := ⟨_, rfl⟩
    replace H : (c_joined.l1 k2 y203 (rdOf ByteArray.empty l0 x10_1) l0 (l0.length : Int) x10_1 ((rdOf ByteArray.empty l0 x10_1).size : Int) (wrap64 (x16_2 + 1))) = some r := by first | (rw [hy203]; with_reducible exact H) | (have H2_ := (Option.bind_some _ _).symm.trans H; rw [hy203]; with_reducible exact H2_) | (have H2_ := (Option.bind_some _ _).symm.trans H; with_reducible exact H2_) | with_reducible exact H | (rw [hy203]; exact H) | exact H
    have Ny203 := a_ hy203
    clear hy203
    have H' := a_ H
    clear H
    obtain ⟨Ao26, co26, eo26⟩ := Kd.R_slice HO_3.out
    subst eo26
    have p24 : 0 ≤ (x16_2 : Int) := of_decide_eq_true (by first | (with_reducible assumption) | assumption)
    have q24 : x16_2 < ((rdOf ByteArray.empty l0 x10_1).size : Int) := of_decide_eq_true (by first | (with_reducible assumption) | assumption)
    have hx24 := bt_at (rdOf ByteArray.empty l0 x10_1) x16_2
    replace p24 := eq_true p24
    replace q24 := eq_true q24
    go_wp2_with (first | ((with_reducible refine gate_builtin (b := .append) (xs := #[.tmp 39, .tmp 43]) rfl ?_); at_builtin; refine Kd.R_append (Kd.int .u8) (w0 := w) w.heap.size rfl (.tmp 39) (.tmp 43) 86 5 (.int .u8 0) 1 rfl Try.underlying86 info5 rfl (by decide) (by omega) (.slice Ao26 x3_2.length co26) x3_2 (bt (rdOf ByteArray.empty l0 x10_1) x16_2) [.int .u8 (bt (rdOf ByteArray.empty l0 x10_1) x16_2)] (fun _ => True) (fun _ => False) rfl rfl ?aP (fun _ hk => hk.elim) ?aF ?aO ?aB ?aS ?aL ?_; (case aP => exact rfl); (case aB => exact (gr HB.out)); (case aF => exact (fun _ _ => trivial)); (case aO => exact (by exact rk HO_3.out)); (case aS => exact (bZ_ (gr HB.out))); (case aL => have := LMc25.out; omega); intro v204 w27 ho hb hg hat; rw [← Ny203.out] at ho; have HO205 := a_ (ho); replace HB := a_ (hb); clear HO_3; clear ho hb hg hat))
    repeat (go_quiet (first | ((with_reducible refine gate_builtin (b := .append) (xs := #[.tmp 39, .tmp 43]) rfl ?_); at_builtin; refine Kd.R_append (Kd.int .u8) (w0 := w) w.heap.size rfl (.tmp 39) (.tmp 43) 86 5 (.int .u8 0) 1 rfl Try.underlying86 info5 rfl (by decide) (by omega) (.slice Ao26 x3_2.length co26) x3_2 (bt (rdOf ByteArray.empty l0 x10_1) x16_2) [.int .u8 (bt (rdOf ByteArray.empty l0 x10_1) x16_2)] (fun _ => True) (fun _ => False) rfl rfl ?aP (fun _ hk => hk.elim) ?aF ?aO ?aB ?aS ?aL ?_; (case aP => exact rfl); (case aB => exact (gr HB.out)); (case aF => exact (fun _ _ => trivial)); (case aO => exact (by exact rk HO_3.out)); (case aS => exact (bZ_ (gr HB.out))); (case aL => have := LMc25.out; omega); intro v204 w27 ho hb hg hat; rw [← Ny203.out] at ho; have HO205 := a_ (ho); replace HB := a_ (hb); clear HO_3; clear ho hb hg hat)); try go_wp2_with (first | ((with_reducible refine gate_builtin (b := .append) (xs := #[.tmp 39, .tmp 43]) rfl ?_); at_builtin; refine Kd.R_append (Kd.int .u8) (w0 := w) w.heap.size rfl (.tmp 39) (.tmp 43) 86 5 (.int .u8 0) 1 rfl Try.underlying86 info5 rfl (by decide) (by omega) (.slice Ao26 x3_2.length co26) x3_2 (bt (rdOf ByteArray.empty l0 x10_1) x16_2) [.int .u8 (bt (rdOf ByteArray.empty l0 x10_1) x16_2)] (fun _ => True) (fun _ => False) rfl rfl ?aP (fun _ hk => hk.elim) ?aF ?aO ?aB ?aS ?aL ?_; (case aP => exact rfl); (case aB => exact (gr HB.out)); (case aF => exact (fun _ _ => trivial)); (case aO => exact (by exact rk HO_3.out)); (case aS => exact (bZ_ (gr HB.out))); (case aL => have := LMc25.out; omega); intro v204 w27 ho hb hg hat; rw [← Ny203.out] at ho; have HO205 := a_ (ho); replace HB := a_ (hb); clear HO_3; clear ho hb hg hat)))
    go_roundg k2
    case measure => have := HK1.out; have := HK2.out; omega
    case rel => exact ⟨(y203), (wrap64 (x16_2 + 1)), (by first | rfl | (simp; done) | (simp [*]; done)), H', ⟨by have := HK1.out; have := HK2.out; omega⟩, ⟨by exact rk HO205.out⟩, ⟨by exact gs HB.out⟩⟩
   rw [if_pos c6] at H
   have c6b0 : decide (0 < (x3_2.length : Int)) = true := decide_eq_true c6
   have c6b1 : decide (0 < x3_2.length) = true := decide_eq_true (by omega)
   clear c6
   obtain ⟨ji7, hji7⟩ : ∃ j_ : Int, (wrap64 ((x3_2.length : Int) - 1)) = j_ := ⟨_, rfl⟩
   replace H : (if 0 ≤ (ji7) then (if (ji7) < (x3_2.length : Int) then (if 0 ≤ x16_2 then (if x16_2 < ((rdOf ByteArray.empty l0 x10_1).size : Int) then ((c_inverse.f (bt (rdOf ByteArray.empty l0 x10_1) x16_2)).bind fun t196 => (if (rd x3_2 (ji7)) = t196 then (if (ji7) ≤ (x3_2.length : Int) then (c_joined.l1 k2 (x3_2.take ((ji7) : Int).toNat) (rdOf ByteArray.empty l0 x10_1) l0 (l0.length : Int) x10_1 ((rdOf ByteArray.empty l0 x10_1).size : Int) (wrap64 (x16_2 + 1))) else (none)) else (if x3_2.length < 140737488355328 then (c_joined.l1 k2 (x3_2 ++ [bt (rdOf ByteArray.empty l0 x10_1) x16_2]) (rdOf ByteArray.empty l0 x10_1) l0 (l0.length : Int) x10_1 ((rdOf ByteArray.empty l0 x10_1).size : Int) (wrap64 (x16_2 + 1))) else (none)))) else (none)) else (none)) else (none)) else (none)) = some r := by first | (rw [hji7] at H; exact H) | (simp only [hji7] at H ⊢; exact H)
   have hji7w : (IntKind.i64.wrap ((x3_2.length : Int) - 1)) = ji7 := (i64_w _).trans hji7
   by_cases c8 : 0 ≤ (ji7)
   rotate_left
   ·rw [if_neg c8] at H
    exact absurd H (by simp)
   rw [if_pos c8] at H
   have c8b0 : decide (0 ≤ (ji7)) = true := decide_eq_true c8
   clear c8
   by_cases c9 : (ji7) < (x3_2.length : Int)
   rotate_left
   ·rw [if_neg c9] at H
    exact absurd H (by simp)
   rw [if_pos c9] at H
   have c9b0 : decide ((ji7) < (x3_2.length : Int)) = true := decide_eq_true c9
   clear c9
   by_cases c10 : 0 ≤ x16_2
   rotate_left
   ·rw [if_neg c10] at H
    exact absurd H (by simp)
   rw [if_pos c10] at H
   have c10b0 : decide (0 ≤ x16_2) = true := decide_eq_true c10
   clear c10
   by_cases c11 : x16_2 < ((rdOf ByteArray.empty l0 x10_1).size : Int)
   rotate_left
   ·rw [if_neg c11] at H
    exact absurd H (by simp)
   rw [if_pos c11] at H
   have c11b0 : decide (x16_2 < ((rdOf ByteArray.empty l0 x10_1).size : Int)) = true := decide_eq_true c11
   clear c11
   replace H := Option.bind_eq_some_iff.mp H
   obtain ⟨t196, A130, H⟩ := H
   try dsimp only at H
   have A13 := a_ A130
   clear A130
   by_cases c14 : (rd x3_2 (ji7)) = t196
   ·rw [if_pos c14] at H
    have c14b0 : ((rd x3_2 (ji7)) == t196) = true := beq_iff_eq.mpr c14
    have c14b1 : ((rd x3_2 (ji7)) != t196) = false := bne_eq_false_iff_eq.mpr c14
    clear c14
    by_cases c15 : (ji7) ≤ (x3_2.length : Int)
    rotate_left
    ·rw [if_neg c15] at H
     exact absurd H (by simp)
    rw [if_pos c15] at H
    have c15b0 := eq_true c15
    have c15b1 : decide ((ji7) ≤ (x3_2.length : Int)) = true := decide_eq_true c15
    have KFc15 := a_ c15
    clear c15
    obtain ⟨y197, hy197⟩ : ∃ y_ : List Int, y_ = (x3_2.take ((ji7) : Int).toNat) := ⟨_, rfl⟩
    replace H : (c_joined.l1 k2 y197 (rdOf ByteArray.empty l0 x10_1) l0 (l0.length : Int) x10_1 ((rdOf ByteArray.empty l0 x10_1).size : Int) (wrap64 (x16_2 + 1))) = some r := by first | (rw [hy197]; with_reducible exact H) | (have H2_ := (Option.bind_some _ _).symm.trans H; rw [hy197]; with_reducible exact H2_) | (have H2_ := (Option.bind_some _ _).symm.trans H; with_reducible exact H2_) | with_reducible exact H | (rw [hy197]; exact H) | exact H
    have Ny197 := a_ hy197
    clear hy197
    have H' := a_ H
    clear H
    obtain ⟨Ao16, co16, eo16⟩ := Kd.R_slice HO_3.out
    subst eo16
    have p195 : 0 ≤ ((ji7) : Int) := of_decide_eq_true (by first | (with_reducible assumption) | assumption)
    have q195 : (ji7) < (x3_2.length : Int) := of_decide_eq_true (by first | (with_reducible assumption) | assumption)
    obtain ⟨ad195, e195, hx195_0⟩ := Kd.at_int (Kd.R_reads' HO_3.out).2.2 (ji7) p195 q195
    cases e195
    replace p195 := eq_true p195
    replace q195 := eq_true q195
    have p12 : 0 ≤ (x16_2 : Int) := of_decide_eq_true (by first | (with_reducible assumption) | assumption)
    have q12 : x16_2 < ((rdOf ByteArray.empty l0 x10_1).size : Int) := of_decide_eq_true (by first | (with_reducible assumption) | assumption)
    have hx12 := bt_at (rdOf ByteArray.empty l0 x10_1) x16_2
    replace p12 := eq_true p12
    replace q12 := eq_true q12
    go_wp2_with (first | (go_at_call 81; (with_reducible refine (c_inverse.calls (bt (rdOf ByteArray.empty l0 x10_1) x16_2) t196 _ A13.out).mono ?_); rintro e w' ⟨rfl, ⟨nd, rfl⟩⟩; (try first | exact ⟨rfl, _, World.drewN_drewN _ _ _⟩ | exact ⟨rfl, _, Eq.trans (World.drewN_drewN _ _ _) (congrArg (World.drewN _) (Nat.add_assoc _ _ _))⟩); have q17 : ((ji7) : Int) ≤ ((x3_2.length : Int) : Int) := of_decide_eq_true (by first | (with_reducible assumption) | assumption); obtain ⟨i017, hi017, _, hsz17, _⟩ := info_parts info5; have hcut17 := cut_to (P := Try.prog) 86 5 .i64 Try.underlying86 hi017 (some ad195) x3_2.length co16 (ji7) (of_decide_eq_true (by first | (with_reducible assumption) | assumption)) q17 (Kd.R_reads' HO_3.out).2.1; have hr17 := Kd.R_take (m := ((ji7) : Int).toNat) HO_3.out (by omega); have hy17 : y197.length = ((ji7) : Int).toNat := (by rw [Ny197.out, List.length_take]; omega); rw [← Ny197.out] at hr17; rw [← hy17] at hr17 hcut17; clear hy17 hi017 hsz17 HO_3; have HO199 := a_ hr17; clear hr17; replace q17 := eq_true q17))
    repeat (go_quiet (first | (go_at_call 81; (with_reducible refine (c_inverse.calls (bt (rdOf ByteArray.empty l0 x10_1) x16_2) t196 _ A13.out).mono ?_); rintro e w' ⟨rfl, ⟨nd, rfl⟩⟩; (try first | exact ⟨rfl, _, World.drewN_drewN _ _ _⟩ | exact ⟨rfl, _, Eq.trans (World.drewN_drewN _ _ _) (congrArg (World.drewN _) (Nat.add_assoc _ _ _))⟩); have q17 : ((ji7) : Int) ≤ ((x3_2.length : Int) : Int) := of_decide_eq_true (by first | (with_reducible assumption) | assumption); obtain ⟨i017, hi017, _, hsz17, _⟩ := info_parts info5; have hcut17 := cut_to (P := Try.prog) 86 5 .i64 Try.underlying86 hi017 (some ad195) x3_2.length co16 (ji7) (of_decide_eq_true (by first | (with_reducible assumption) | assumption)) q17 (Kd.R_reads' HO_3.out).2.1; have hr17 := Kd.R_take (m := ((ji7) : Int).toNat) HO_3.out (by omega); have hy17 : y197.length = ((ji7) : Int).toNat := (by rw [Ny197.out, List.length_take]; omega); rw [← Ny197.out] at hr17; rw [← hy17] at hr17 hcut17; clear hy17 hi017 hsz17 HO_3; have HO199 := a_ hr17; clear hr17; replace q17 := eq_true q17)); try go_wp2_with (first | (go_at_call 81; (with_reducible refine (c_inverse.calls (bt (rdOf ByteArray.empty l0 x10_1) x16_2) t196 _ A13.out).mono ?_); rintro e w' ⟨rfl, ⟨nd, rfl⟩⟩; (try first | exact ⟨rfl, _, World.drewN_drewN _ _ _⟩ | exact ⟨rfl, _, Eq.trans (World.drewN_drewN _ _ _) (congrArg (World.drewN _) (Nat.add_assoc _ _ _))⟩); have q17 : ((ji7) : Int) ≤ ((x3_2.length : Int) : Int) := of_decide_eq_true (by first | (with_reducible assumption) | assumption); obtain ⟨i017, hi017, _, hsz17, _⟩ := info_parts info5; have hcut17 := cut_to (P := Try.prog) 86 5 .i64 Try.underlying86 hi017 (some ad195) x3_2.length co16 (ji7) (of_decide_eq_true (by first | (with_reducible assumption) | assumption)) q17 (Kd.R_reads' HO_3.out).2.1; have hr17 := Kd.R_take (m := ((ji7) : Int).toNat) HO_3.out (by omega); have hy17 : y197.length = ((ji7) : Int).toNat := (by rw [Ny197.out, List.length_take]; omega); rw [← Ny197.out] at hr17; rw [← hy17] at hr17 hcut17; clear hy17 hi017 hsz17 HO_3; have HO199 := a_ hr17; clear hr17; replace q17 := eq_true q17)))
    go_roundg k2
    case measure => have := HK1.out; have := HK2.out; omega
    case rel => exact ⟨(y197), (wrap64 (x16_2 + 1)), (by first | rfl | (simp; done) | (simp [*]; done)), H', ⟨by have := HK1.out; have := HK2.out; omega⟩, ⟨by exact rk HO199.out⟩, ⟨by exact gs HB.out⟩⟩
   rw [if_neg c14] at H
   have c14b0 : ((rd x3_2 (ji7)) == t196) = false := beq_eq_false_iff_ne.mpr c14
   have c14b1 : ((rd x3_2 (ji7)) != t196) = true := bne_iff_ne.mpr c14
   by_cases c19 : x3_2.length < 140737488355328
   rotate_left
   ·rw [if_neg c19] at H
    exact absurd H (by simp)
   rw [if_pos c19] at H
   have LMc19 := a_ c19
   clear c19
   obtain ⟨y200, hy200⟩ : ∃ y_ : List Int, y_ = (x3_2 ++ [bt (rdOf ByteArray.empty l0 x10_1) x16_2]) := ⟨_, rfl⟩
   replace H : (c_joined.l1 k2 y200 (rdOf ByteArray.empty l0 x10_1) l0 (l0.length : Int) x10_1 ((rdOf ByteArray.empty l0 x10_1).size : Int) (wrap64 (x16_2 + 1))) = some r := by first | (rw [hy200]; with_reducible exact H) | (have H2_ := (Option.bind_some _ _).symm.trans H; rw [hy200]; with_reducible exact H2_) | (have H2_ := (Option.bind_some _ _).symm.trans H; with_reducible exact H2_) | with_reducible exact H | (rw [hy200]; exact H) | exact H
   have Ny200 := a_ hy200
   clear hy200
   have H' := a_ H
   clear H
   obtain ⟨Ao20, co20, eo20⟩ := Kd.R_slice HO_3.out
   subst eo20
   have p195 : 0 ≤ ((ji7) : Int) := of_decide_eq_true (by first | (with_reducible assumption) | assumption)
   have q195 : (ji7) < (x3_2.length : Int) := of_decide_eq_true (by first | (with_reducible assumption) | assumption)
   obtain ⟨ad195, e195, hx195_0⟩ := Kd.at_int (Kd.R_reads' HO_3.out).2.2 (ji7) p195 q195
   cases e195
   replace p195 := eq_true p195
   replace q195 := eq_true q195
   have p12 : 0 ≤ (x16_2 : Int) := of_decide_eq_true (by first | (with_reducible assumption) | assumption)
   have q12 : x16_2 < ((rdOf ByteArray.empty l0 x10_1).size : Int) := of_decide_eq_true (by first | (with_reducible assumption) | assumption)
   have hx12 := bt_at (rdOf ByteArray.empty l0 x10_1) x16_2
   replace p12 := eq_true p12
   replace q12 := eq_true q12
   go_wp2_with (first | (go_at_call 81; (with_reducible refine (c_inverse.calls (bt (rdOf ByteArray.empty l0 x10_1) x16_2) t196 _ A13.out).mono ?_); rintro e w' ⟨rfl, ⟨nd, rfl⟩⟩; (try first | exact ⟨rfl, _, World.drewN_drewN _ _ _⟩ | exact ⟨rfl, _, Eq.trans (World.drewN_drewN _ _ _) (congrArg (World.drewN _) (Nat.add_assoc _ _ _))⟩); have p18 : 0 ≤ (x16_2 : Int) := of_decide_eq_true (by first | (with_reducible assumption) | assumption); have q18 : x16_2 < ((rdOf ByteArray.empty l0 x10_1).size : Int) := of_decide_eq_true (by first | (with_reducible assumption) | assumption); have hx18 := bt_at (rdOf ByteArray.empty l0 x10_1) x16_2; replace p18 := eq_true p18; replace q18 := eq_true q18) | ((with_reducible refine gate_builtin (b := .append) (xs := #[.tmp 39, .tmp 43]) rfl ?_); at_builtin; refine Kd.R_append (Kd.int .u8) (w0 := w) w.heap.size rfl (.tmp 39) (.tmp 43) 86 5 (.int .u8 0) 1 rfl Try.underlying86 info5 rfl (by decide) (by omega) (.slice (some ad195) x3_2.length co20) x3_2 (bt (rdOf ByteArray.empty l0 x10_1) x16_2) [.int .u8 (bt (rdOf ByteArray.empty l0 x10_1) x16_2)] (fun _ => True) (fun _ => False) rfl rfl ?aP (fun _ hk => hk.elim) ?aF ?aO ?aB ?aS ?aL ?_; (case aP => exact rfl); (case aB => exact (gr HB.out)); (case aF => exact (fun _ _ => trivial)); (case aO => exact (by exact rk HO_3.out)); (case aS => exact (bZ_ (gr HB.out))); (case aL => have := LMc19.out; omega); intro v201 w21 ho hb hg hat; rw [← Ny200.out] at ho; have HO202 := a_ (ho); replace HB := a_ (hb); clear HO_3; clear ho hb hg hat))
   repeat (go_quiet (first | (go_at_call 81; (with_reducible refine (c_inverse.calls (bt (rdOf ByteArray.empty l0 x10_1) x16_2) t196 _ A13.out).mono ?_); rintro e w' ⟨rfl, ⟨nd, rfl⟩⟩; (try first | exact ⟨rfl, _, World.drewN_drewN _ _ _⟩ | exact ⟨rfl, _, Eq.trans (World.drewN_drewN _ _ _) (congrArg (World.drewN _) (Nat.add_assoc _ _ _))⟩); have p18 : 0 ≤ (x16_2 : Int) := of_decide_eq_true (by first | (with_reducible assumption) | assumption); have q18 : x16_2 < ((rdOf ByteArray.empty l0 x10_1).size : Int) := of_decide_eq_true (by first | (with_reducible assumption) | assumption); have hx18 := bt_at (rdOf ByteArray.empty l0 x10_1) x16_2; replace p18 := eq_true p18; replace q18 := eq_true q18) | ((with_reducible refine gate_builtin (b := .append) (xs := #[.tmp 39, .tmp 43]) rfl ?_); at_builtin; refine Kd.R_append (Kd.int .u8) (w0 := w) w.heap.size rfl (.tmp 39) (.tmp 43) 86 5 (.int .u8 0) 1 rfl Try.underlying86 info5 rfl (by decide) (by omega) (.slice (some ad195) x3_2.length co20) x3_2 (bt (rdOf ByteArray.empty l0 x10_1) x16_2) [.int .u8 (bt (rdOf ByteArray.empty l0 x10_1) x16_2)] (fun _ => True) (fun _ => False) rfl rfl ?aP (fun _ hk => hk.elim) ?aF ?aO ?aB ?aS ?aL ?_; (case aP => exact rfl); (case aB => exact (gr HB.out)); (case aF => exact (fun _ _ => trivial)); (case aO => exact (by exact rk HO_3.out)); (case aS => exact (bZ_ (gr HB.out))); (case aL => have := LMc19.out; omega); intro v201 w21 ho hb hg hat; rw [← Ny200.out] at ho; have HO202 := a_ (ho); replace HB := a_ (hb); clear HO_3; clear ho hb hg hat)); try go_wp2_with (first | (go_at_call 81; (with_reducible refine (c_inverse.calls (bt (rdOf ByteArray.empty l0 x10_1) x16_2) t196 _ A13.out).mono ?_); rintro e w' ⟨rfl, ⟨nd, rfl⟩⟩; (try first | exact ⟨rfl, _, World.drewN_drewN _ _ _⟩ | exact ⟨rfl, _, Eq.trans (World.drewN_drewN _ _ _) (congrArg (World.drewN _) (Nat.add_assoc _ _ _))⟩); have p18 : 0 ≤ (x16_2 : Int) := of_decide_eq_true (by first | (with_reducible assumption) | assumption); have q18 : x16_2 < ((rdOf ByteArray.empty l0 x10_1).size : Int) := of_decide_eq_true (by first | (with_reducible assumption) | assumption); have hx18 := bt_at (rdOf ByteArray.empty l0 x10_1) x16_2; replace p18 := eq_true p18; replace q18 := eq_true q18) | ((with_reducible refine gate_builtin (b := .append) (xs := #[.tmp 39, .tmp 43]) rfl ?_); at_builtin; refine Kd.R_append (Kd.int .u8) (w0 := w) w.heap.size rfl (.tmp 39) (.tmp 43) 86 5 (.int .u8 0) 1 rfl Try.underlying86 info5 rfl (by decide) (by omega) (.slice (some ad195) x3_2.length co20) x3_2 (bt (rdOf ByteArray.empty l0 x10_1) x16_2) [.int .u8 (bt (rdOf ByteArray.empty l0 x10_1) x16_2)] (fun _ => True) (fun _ => False) rfl rfl ?aP (fun _ hk => hk.elim) ?aF ?aO ?aB ?aS ?aL ?_; (case aP => exact rfl); (case aB => exact (gr HB.out)); (case aF => exact (fun _ _ => trivial)); (case aO => exact (by exact rk HO_3.out)); (case aS => exact (bZ_ (gr HB.out))); (case aL => have := LMc19.out; omega); intro v201 w21 ho hb hg hat; rw [← Ny200.out] at ho; have HO202 := a_ (ho); replace HB := a_ (hb); clear HO_3; clear ho hb hg hat)))
   go_roundg k2
   case measure => have := HK1.out; have := HK2.out; omega
   case rel => exact ⟨(y200), (wrap64 (x16_2 + 1)), (by first | rfl | (simp; done) | (simp [*]; done)), H', ⟨by have := HK1.out; have := HK2.out; omega⟩, ⟨by exact rk HO202.out⟩, ⟨by exact gs HB.out⟩⟩
end Go.Proofs.Ytifkldehbaphgaa.PAll
end
section
namespace Go.Proofs.Ytifkldehbaphgaa.PAll
open Go.RowKit Go.PW.PrintWords Go.PW.PrintLast Go.PW.PrintMore
def strBytes (s : ByteArray) : List Int := s.data.toList.map fun b => (b.toNat : Int)
theorem strBytes_length (s : ByteArray) : (strBytes s).length = s.size := by simp [strBytes]
def BR (w : World) (v : Value) (xs : List Int) : Prop :=
 ∃ g c cs fz, v = .slice (some ⟨g, 0, none⟩) xs.length c ∧ w.heap[g]? = some (.cells cs 5 fz) ∧ xs.length ≤ 140737488355328 ∧ ∀ j, j < xs.length → cs[j]? = some (.int .u8 (xs.getD j 0))
theorem BR_drew {w : World} {v : Value} {xs : List Int} (h : BR w v xs) : BR w.drew v xs := h
theorem BR_drewN {w : World} {v : Value} {xs : List Int} (h : BR w v xs) (n : Nat) : BR (w.drewN n) v xs := h
theorem BR_below {w w1 : World} {v : Value} {xs : List Int} (h : BR w v xs) (hb : Below w.heap.size w w1) : BR w1 v xs := by
 obtain ⟨g, c, cs, fz, rfl, hg, hl, hc⟩ := h
 exact ⟨g, c, cs, fz, rfl, (hb.block g (blk_lt hg)).trans hg, hl, hc⟩
theorem BR_alloc {w : World} {v : Value} {xs : List Int} (h : BR w v xs) (o : Obj) : BR (w.alloc o) v xs := BR_below h (bA_ (Below.refl _ _) _)
theorem BR_over {w w1 : World} {v u : Value} {xs : List Int} {e : TypeId} (h : BR w v xs) (hty : ∀ k, u.ownBlock = some k → ∃ cells, w.heap[k]? = some (.cells cells e (0, 0))) (hne : e ≠ 5) (hg : w.grownBy w1 u.ownBlock) : BR w1 v xs := by
 obtain ⟨g, c, cs, fz, rfl, hgg, hl, hc⟩ := h
 refine ⟨g, c, cs, fz, rfl, (hg.block g (blk_lt hgg) (fun he => ?_)).trans hgg, hl, hc⟩
 obtain ⟨cells, hcell⟩ := hty g he.symm
 rw [hgg] at hcell
 cases hcell
 exact hne rfl
theorem BR_reads {w : World} {A : Option Addr} {n c : Nat} {xs : List Int} (h : BR w (.slice A n c) xs) : Kd.C (Kd.int .u8) w A xs.length xs := by
 obtain ⟨g, c', cs, fz, e, hg, hl, hc⟩ := h
 cases e
 refine Kd.C_of_reads (enc := Value.int .u8) (d := (0 : Int)) (h1 := fun _ => rfl) ⟨rfl, by omega, fun _ => ⟨_, rfl, fun j hj => ?_⟩⟩
 rw [Addr.add_lit]
 simp [World.cell?, hg, hc j hj]
theorem BR_slice {w : World} {v : Value} {xs : List Int} (h : BR w v xs) : ∃ A c, v = .slice A xs.length c := by
 obtain ⟨g, c, cs, fz, e, _⟩ := h
 exact ⟨_, _, e⟩
theorem C_blk {α : Type} {enc : α → Value} {d : α} {h1 : ∀ x, (enc x).oneCell' = true} {W : World} {g t : Nat} {cs : Array Value} (hb : W.heap[g]? = some (.cells cs t (0, 0))) (l : List α) (hl : l.length ≤ 1000000) (hc : ∀ j, j < l.length → cs[j]? = some (enc (l.getD j d))) : (Kd.scalar enc h1).C W (some ⟨g, 0, none⟩) l.length l := by
 refine Kd.C_of_reads (enc := enc) (d := d) (h1 := h1) ⟨rfl, by omega, fun _ => ⟨_, rfl, fun j hj => ?_⟩⟩
 have h := kc_ hb j
 rw [hc j hj] at h
 rw [Addr.add_lit]
 simpa using h
section
variable {P : Program} {ops : Array Oper} {rest : List Oper} {o : Oper} {a : Act} {Q : Exit → Act → World → Prop}
theorem bytes_event {W : World} (hgd : o.guard = none) {N : Tmp} (_hd : o.dst = some N) {src dst : TypeId} {x : Operand} (ho : o.op = .convert src dst x) {s : ByteArray} (hx : a.eval x = .string s) (hl : s.size ≤ 140737488355328)
  {u : TypeDesc} (hs : P.underlying src = some u) (hdt : P.underlying dst = some (.slice 5)) (he : P.underlying 5 = some (.int .u8))
  (h : ∀ v w1, BR w1 v (strBytes s) → Below W.heap.size W w1 → wpList P ops Q rest (a.put o.dst v) w1) : wpList P ops Q (o :: rest) a W := by
 have hr := Lib.run_convert_string_bytes (P := P) W src dst 5 s hs hdt he
 refine Kd.event_run hgd (v := .slice (some ⟨W.heap.size, 0, none⟩) s.size (grownCap W s.size 0 5)) (w1 := Lib.bytesWorld W 5 s) ?_ (h _ _ ⟨W.heap.size, grownCap W s.size 0 5, _, _, by rw [strBytes_length], Lib.bytesWorld_at_new W 5 s, by rw [strBytes_length]; exact hl, fun j hj => ?_⟩ ⟨rfl, rfl, rfl, by rw [Lib.bytesWorld_size]; omega, fun i hi => Lib.bytesWorld_at_old W 5 s i hi⟩)
 ·simp [execOp, ho, hx, hr, Result.andThen]
 ·rw [strBytes_length] at hj
  have hc := Lib.bytesWorld_cell W 5 s j hj
  simp only [World.cell?, Lib.bytesWorld_at_new] at hc
  simpa [strBytes, List.getD, hj] using hc
end
def bytesF (s : ByteArray) : Option (List Int) := if s.size ≤ 140737488355328 then some (strBytes s) else none
attribute [local go_sem] max2_int max_two
mutual
def c_table_order.l0 : Nat → List Int → List ByteArray → Int → Int → Int → Int → Int → Int → Int → Int → Int → Int → Int → Int → Int → Option (List Int × List ByteArray)
 | 0, _, _, _, _, _, _, _, _, _, _, _, _, _, _, _ => none
 | k + 1, x6, x7, x8, Xa0, Xa1, Xa2, Xa3, Xa4, Xa5, Xa6, Xa7, Xa8, Xa9, Xa10, Xa11 => if x8 < (x6.length : Int) then (if 0 ≤ (wrap64 (2 * Xa0)) then (if (wrap64 (2 * Xa0)) ≤ 4 then ((bytesF ((⟨#[97, 65, 98, 66]⟩ : ByteArray).extract 0 ((wrap64 (2 * Xa0)) : Int).toNat)).bind fun t178 => (c_table_order.l1 k x6 x7 x8 t178 (t178.length : Int) 0 Xa0 Xa1 Xa2 Xa3 Xa4 Xa5 Xa6 Xa7 Xa8 Xa9 Xa10 Xa11)) else (none)) else (none)) else (some (x6, x7))
def c_table_order.l1 : Nat → List Int → List ByteArray → Int → List Int → Int → Int → Int → Int → Int → Int → Int → Int → Int → Int → Int → Int → Int → Int → Option (List Int × List ByteArray)
 | 0, _, _, _, _, _, _, _, _, _, _, _, _, _, _, _, _, _, _ => none
 | k + 1, x6, x7, x8, x25, x26, x27, Xa0, Xa1, Xa2, Xa3, Xa4, Xa5, Xa6, Xa7, Xa8, Xa9, Xa10, Xa11 => if x27 < x26 then (if 0 ≤ x27 then (if x27 < (x25.length : Int) then (if 0 ≤ x8 then (if x8 < (x6.length : Int) then ((c_table_sent.f Xa0 Xa1 Xa2 Xa3 Xa4 Xa5 Xa6 Xa7 Xa8 Xa9 Xa10 Xa11 (rd x6 x8) (rd x25 x27)).bind fun t183 => ((sl_Contains_int_int.f k x6 t183).bind fun t184 => (if t184 = true then (c_table_order.l1 k x6 x7 x8 x25 x26 (wrap64 (x27 + 1)) Xa0 Xa1 Xa2 Xa3 Xa4 Xa5 Xa6 Xa7 Xa8 Xa9 Xa10 Xa11) else (if x6.length < 17592186044416 then (if x8 < (x7.length : Int) then ((c_joined.f k (([rdOf ByteArray.empty x7 x8, Utf8.encode (wrap32 (rd x25 x27))] : List ByteArray))).bind fun t192 => (if x7.length < 8796093022208 then (c_table_order.l1 k (x6 ++ [t183]) (x7 ++ [t192]) x8 x25 x26 (wrap64 (x27 + 1)) Xa0 Xa1 Xa2 Xa3 Xa4 Xa5 Xa6 Xa7 Xa8 Xa9 Xa10 Xa11) else (none))) else (none)) else (none))))) else (none)) else (none)) else (none)) else (none)) else (c_table_order.l0 k x6 x7 (wrap64 (x8 + 1)) Xa0 Xa1 Xa2 Xa3 Xa4 Xa5 Xa6 Xa7 Xa8 Xa9 Xa10 Xa11)
end
def c_table_order.f (k : Nat) (a0_0 : Int) (a0_1 : Int) (a0_2 : Int) (a0_3 : Int) (a0_4 : Int) (a0_5 : Int) (a0_6 : Int) (a0_7 : Int) (a0_8 : Int) (a0_9 : Int) (a0_10 : Int) (a0_11 : Int) (a1 : Int) : Option (List Int × List ByteArray) := c_table_order.l0 k (([a1] : List Int)) (([(⟨#[]⟩ : ByteArray)] : List ByteArray)) 0 a0_0 a0_1 a0_2 a0_3 a0_4 a0_5 a0_6 a0_7 a0_8 a0_9 a0_10 a0_11
def c_table_order.T8 : Bool × List (List Nat × List Nat) := (true, [([], []), ([], []), ([], []), ([1, 2], [1, 2]), ([3], [3]), ([], []), ([0, 4, 5], [0, 4, 5]), ([6, 6, 0, 1, 2, 3, 4, 5, 6], [6])])
def c_table_order.B8 : List Nat := [0, 0, 0, 6, 14, 0, 63, 127]
theorem c_table_order.tab8 : rtab .any (opsOf Try.f53 8) = c_table_order.T8 := by kernel_rfl
theorem c_table_order.bits8 : waitsOk c_table_order.T8.2 c_table_order.B8 = true := by kernel_rfl
theorem c_table_order.calls (k : Nat) (a0_0 : Int) (a0_1 : Int) (a0_2 : Int) (a0_3 : Int) (a0_4 : Int) (a0_5 : Int) (a0_6 : Int) (a0_7 : Int) (a0_8 : Int) (a0_9 : Int) (a0_10 : Int) (a0_11 : Int) (a1 : Int) (r1 : List Int) (r2 : List ByteArray) (w : World) (h : c_table_order.f k a0_0 a0_1 a0_2 a0_3 a0_4 a0_5 a0_6 a0_7 a0_8 a0_9 a0_10 a0_11 a1 = some (r1, r2)) :
  Calls Try.prog 53 #[.agg #[.int .i64 a0_0, .int .i64 a0_1, .int .i64 a0_2, .int .i64 a0_3, .int .i64 a0_4, .int .i64 a0_5, .int .i64 a0_6, .int .i64 a0_7, .int .i64 a0_8, .int .i64 a0_9, .int .i64 a0_10, .int .i64 a0_11], .int .i64 a1] w fun e w' => ∃ v0_ v1_ : Value, e = .returned (.tuple #[v0_, v1_]) ∧ Kd.R (Kd.int .i64) 3 w' w.heap.size (fun _ => True) v0_ r1 ∧ Kd.R Kd.string 9 w' w.heap.size (fun _ => True) v1_ r2 ∧ Below w.heap.size w w' := by
 have hu78 := Try.underlying78
 have hcs47 : ∀ (w : World) (n : Int), (convert 21 9 (.int .i32 n)).run Try.prog w = .ok (.string (Utf8.encode n)) w := fun w n => run_convert_int_string w 21 9 _ n (by kernel_rfl) Try.underlying9
 have HB := a_ (Below.refl w.heap.size w)
 have H : (c_table_order.l0 k (([a1] : List Int)) (([(⟨#[]⟩ : ByteArray)] : List ByteArray)) 0 a0_0 a0_1 a0_2 a0_3 a0_4 a0_5 a0_6 a0_7 a0_8 a0_9 a0_10 a0_11) = some (r1, r2) := h
 clear h
 obtain ⟨y172, hy172⟩ : ∃ y_ : List Int, y_ = (([a1] : List Int)) := ⟨_, rfl⟩
 replace H : (c_table_order.l0 k y172 (([(⟨#[]⟩ : ByteArray)] : List ByteArray)) 0 a0_0 a0_1 a0_2 a0_3 a0_4 a0_5 a0_6 a0_7 a0_8 a0_9 a0_10 a0_11) = some (r1, r2) := by first | (rw [hy172]; with_reducible exact H) | (have H2_ := (Option.bind_some _ _).symm.trans H; rw [hy172]; with_reducible exact H2_) | (have H2_ := (Option.bind_some _ _).symm.trans H; with_reducible exact H2_) | with_reducible exact H | (rw [hy172]; exact H) | exact H
 have Ny172 := a_ hy172
 clear hy172
 obtain ⟨y175, hy175⟩ : ∃ y_ : List ByteArray, y_ = (([(⟨#[]⟩ : ByteArray)] : List ByteArray)) := ⟨_, rfl⟩
 replace H : (c_table_order.l0 k y172 y175 0 a0_0 a0_1 a0_2 a0_3 a0_4 a0_5 a0_6 a0_7 a0_8 a0_9 a0_10 a0_11) = some (r1, r2) := by first | (rw [hy175]; with_reducible exact H) | (have H2_ := (Option.bind_some _ _).symm.trans H; rw [hy175]; with_reducible exact H2_) | (have H2_ := (Option.bind_some _ _).symm.trans H; with_reducible exact H2_) | with_reducible exact H | (rw [hy175]; exact H) | exact H
 have Ny175 := a_ hy175
 clear hy175
 have H' := a_ H
 clear H
 go_enter Try.func53, Try.ntmps53
 go_wp2_with (first | ((with_reducible refine gate_dst (N := 2) rfl ?_); refine box_event ?hg (N := 2) ?hd (cs := #[.int .i64 a0_0, .int .i64 a0_1, .int .i64 a0_2, .int .i64 a0_3, .int .i64 a0_4, .int .i64 a0_5, .int .i64 a0_6, .int .i64 a0_7, .int .i64 a0_8, .int .i64 a0_9, .int .i64 a0_10, .int .i64 a0_11]) (t := 78) ?hr ?_; (case hd => rfl); (case hg => rfl); (case hr => first | (go_simp; done) | (go_simp; rfl)); intro gb171 hg w3 hbox hb; have BK171 := a_ (hbox); have GW171 := a_ ((by rw [hg]; exact (bZ_ (gr HB.out)) : w.heap.size ≤ gb171)); have GE171 := GEc.mk ((by rw [hg]; exact (bZ_ (gr HB.out)) : w.heap.size ≤ gb171)); replace HB := a_ (bT_ HB.out (tr hb)); clear hb hbox hg) | ((with_reducible refine gate_dst (N := 13) rfl ?_); refine Kd.R_lit (Kd.int .i64) _ 3 ?hg (N := 13) ?hd (xs := ([a1] : List Int)) (inner := [.int .i64 a1]) (ok := fun _ => True) (okp := fun _ => True) ?hr ?hp (fun _ hk => hk) trivial (Below.refl _ _) (Nat.le_refl _) (by simp) ?_; (case hd => rfl); (case hg => rfl); (case hr => first | (go_simp; done) | (go_simp; rfl)); (case hp => exact (Reps.one (show Kd.M (Kd.int .i64) _ _ _ a1 [.int .i64 a1] from rfl) (Reps.none _ _))); intro v173 w4 ho5 hb hg_ hnew_; clear hg_ hnew_; (first | rw [← Ny172.out] at ho5 | (simp only [Int.reduceToNat] at ho5; rw [← Ny172.out] at ho5)); have HO174 := a_ (Kd.R_lower ho5 (bZ_ (by exact gs HB.out))); replace BK171 := a_ (kB_ BK171.out (tr hb)); replace HB := a_ (bT_ (by exact gs HB.out) hb); clear hb ho5) | ((with_reducible refine gate_dst (N := 14) rfl ?_); refine Kd.R_lit Kd.string _ 9 ?hg (N := 14) ?hd (xs := ([(⟨#[]⟩ : ByteArray)] : List ByteArray)) (inner := [.string (⟨#[]⟩ : ByteArray)]) (ok := fun _ => True) (okp := fun _ => True) ?hr ?hp (fun _ hk => hk) trivial (Below.refl _ _) (Nat.le_refl _) (by simp) ?_; (case hd => rfl); (case hg => rfl); (case hr => first | (go_simp; done) | (go_simp; rfl)); (case hp => exact (Reps.one (show Kd.M Kd.string _ _ _ (⟨#[]⟩ : ByteArray) [.string (⟨#[]⟩ : ByteArray)] from rfl) (Reps.none _ _))); intro v176 w6 ho7 hb hg_ hnew_; clear hg_ hnew_; (first | rw [← Ny175.out] at ho7 | (simp only [Int.reduceToNat] at ho7; rw [← Ny175.out] at ho7)); have HO177 := a_ (Kd.R_lower ho7 (bZ_ (by exact gs HB.out))); replace HO174 := a_ (Kd.R_below HO174.out (tr hb)); replace BK171 := a_ (kB_ BK171.out (tr hb)); replace HB := a_ (bT_ (by exact gs HB.out) hb); clear hb ho7))
 go_loopg [6, 7, 8] k (fun kq v6 v7 v8 w' => ∃ (x6_1 : List Int) (x7_1 : List ByteArray) (x8_1 : Int), v8 = .int .i64 x8_1 ∧ Aside0 (c_table_order.l0 kq x6_1 x7_1 x8_1 a0_0 a0_1 a0_2 a0_3 a0_4 a0_5 a0_6 a0_7 a0_8 a0_9 a0_10 a0_11 = some (r1, r2)) ∧ Aside0 (kq ≤ k) ∧ Aside0 (Kd.R (Kd.int .i64) 3 w' w.heap.size (fun _ => True) v6 x6_1) ∧ Aside0 (Kd.R Kd.string 9 w' w.heap.size (fun _ => True) v7 x7_1) ∧ Aside0 (w'.heap[gb171]? = some (.cells #[.int .i64 a0_0, .int .i64 a0_1, .int .i64 a0_2, .int .i64 a0_3, .int .i64 a0_4, .int .i64 a0_5, .int .i64 a0_6, .int .i64 a0_7, .int .i64 a0_8, .int .i64 a0_9, .int .i64 a0_10, .int .i64 a0_11] 78 (0, 0))) ∧ Aside0 (Below w.heap.size w w'))
 case atStart => exact ⟨(y172), (y175), (0), (by first | rfl | (simp; done) | (simp [*]; done)), H', ⟨Nat.le_refl _⟩, ⟨by exact rk HO174.out⟩, ⟨by exact rk HO177.out⟩, ⟨by exact bk BK171.out⟩, ⟨by exact gs HB.out⟩⟩
 clear H'
 try clear p2
 obtain ⟨x6_1, x7_1, x8_1, rfl, HA, HK1, HO_6, HO_7, BK171, HB⟩ := hrel
 cases gk with
 | zero => exact absurd HA.out (by simp [c_table_order.l0])
 | succ k1 =>
  have H := HA.out
  clear HA
  simp only [c_table_order.l0] at H
  by_cases c8 : x8_1 < (x6_1.length : Int)
  rotate_left
  ·rw [if_neg c8] at H
   have c8b0 : decide (x8_1 < (x6_1.length : Int)) = false := decide_eq_false c8
   clear c8
   simp only [Option.some.injEq, Prod.mk.injEq] at H
   obtain ⟨rfl, rfl⟩ := H
   obtain ⟨Ao42, co42, eo42⟩ := Kd.R_slice HO_6.out
   subst eo42
   go_wp2
   go_ret2
   exact ⟨_, _, by first | rfl | (simp [errW_none, errW_some] <;> rfl) | (simp [*, errW_none, errW_some] <;> rfl), by exact rk HO_6.out, by exact rk HO_7.out, by exact gs HB.out⟩
  rw [if_pos c8] at H
  have c8b0 : decide (x8_1 < (x6_1.length : Int)) = true := decide_eq_true c8
  clear c8
  obtain ⟨ji9, hji9⟩ : ∃ j_ : Int, (wrap64 (2 * a0_0)) = j_ := ⟨_, rfl⟩
  replace H : (if 0 ≤ (ji9) then (if (ji9) ≤ 4 then ((bytesF ((⟨#[97, 65, 98, 66]⟩ : ByteArray).extract 0 ((ji9) : Int).toNat)).bind fun t178 => (c_table_order.l1 k1 x6_1 x7_1 x8_1 t178 (t178.length : Int) 0 a0_0 a0_1 a0_2 a0_3 a0_4 a0_5 a0_6 a0_7 a0_8 a0_9 a0_10 a0_11)) else (none)) else (none)) = some (r1, r2) := by first | (rw [hji9] at H; exact H) | (simp only [hji9] at H ⊢; exact H)
  have hji9w : (IntKind.i64.wrap (2 * a0_0)) = ji9 := (i64_w _).trans hji9
  by_cases c10 : 0 ≤ (ji9)
  rotate_left
  ·rw [if_neg c10] at H
   exact absurd H (by simp)
  rw [if_pos c10] at H
  have c10b0 := eq_true c10
  have c10b1 : decide (0 ≤ (ji9)) = true := decide_eq_true c10
  clear c10
  by_cases c11 : (ji9) ≤ 4
  rotate_left
  ·rw [if_neg c11] at H
   exact absurd H (by simp)
  rw [if_pos c11] at H
  have c11b0 := eq_true c11
  have c11b1 : decide ((ji9) ≤ 4) = true := decide_eq_true c11
  clear c11
  replace H := Option.bind_eq_some_iff.mp H
  obtain ⟨t178, A120, H⟩ := H
  try dsimp only at H
  have A12 := a_ A120
  clear A120
  have H' := a_ H
  clear H
  obtain ⟨Ao13, co13, eo13⟩ := Kd.R_slice HO_6.out
  subst eo13
  obtain ⟨hcz14_0, hcz14_1, hcz14_2, hcz14_3, hcz14_4, hcz14_5, hcz14_6, hcz14_7, hcz14_8, hcz14_9, hcz14_10, hcz14_11⟩ := cs12 BK171.out
  have hfz14_0 := kf_ BK171.out 0
  have hfz14_1 := kf_ BK171.out 1
  have hfz14_2 := kf_ BK171.out 2
  have hfz14_3 := kf_ BK171.out 3
  have hfz14_4 := kf_ BK171.out 4
  have hfz14_5 := kf_ BK171.out 5
  have hfz14_6 := kf_ BK171.out 6
  have hfz14_7 := kf_ BK171.out 7
  have hfz14_8 := kf_ BK171.out 8
  have hfz14_9 := kf_ BK171.out 9
  have hfz14_10 := kf_ BK171.out 10
  have hfz14_11 := kf_ BK171.out 11
  have hsz_ : ((⟨#[97, 65, 98, 66]⟩ : ByteArray).extract 0 ((ji9) : Int).toNat).size ≤ 140737488355328 := by have h_ := A12.out; unfold bytesF at h_; by_cases hc_ : ((⟨#[97, 65, 98, 66]⟩ : ByteArray).extract 0 ((ji9) : Int).toNat).size ≤ 140737488355328; exact hc_; rw [if_neg hc_] at h_; cases h_
  have htb_ : t178 = strBytes ((⟨#[97, 65, 98, 66]⟩ : ByteArray).extract 0 ((ji9) : Int).toNat) := by have h_ := A12.out; unfold bytesF at h_; rw [if_pos hsz_] at h_; exact (Option.some.inj h_).symm
  have HTB_ := a_ htb_
  have HSZ_ := a_ hsz_
  clear htb_ hsz_
  go_wp2_with (first | ((with_reducible refine gate_dst (N := 25) rfl ?_); refine bytes_event ?hg (N := 25) ?hd rfl (s := (⟨#[97, 65, 98, 66]⟩ : ByteArray).extract 0 ((ji9) : Int).toNat) ?hx HSZ_.out Try.underlying9 Try.underlying86 Try.underlying5 ?_; (case hd => rfl); (case hg => rfl); (case hx => first | rfl | (simp only [hji9]; rfl) | (go_simp; done) | (go_simp; rfl)); intro v179 w15 ho0 hb; rw [← HTB_.out] at ho0; have HO180 := a_ (ho0); replace HO_6 := a_ (Kd.R_below HO_6.out (tr hb)); replace HO_7 := a_ (Kd.R_below HO_7.out (tr hb)); replace BK171 := a_ (kB_ BK171.out (tr hb)); replace HB := a_ (bT_ (by exact gs HB.out) hb); (try clear hb); (try clear hb2); (try clear hk); (try clear hi); (try clear ho0); obtain ⟨Ao16, co16, eo16⟩ := BR_slice HO180.out; subst eo16))
  go_loopg [6, 7, 27] k1 (fun kq v6 v7 v27 w' => ∃ (x6_2 : List Int) (x7_2 : List ByteArray) (x27_2 : Int), v27 = .int .i64 x27_2 ∧ Aside0 (c_table_order.l1 kq x6_2 x7_2 x8_1 t178 (t178.length : Int) x27_2 a0_0 a0_1 a0_2 a0_3 a0_4 a0_5 a0_6 a0_7 a0_8 a0_9 a0_10 a0_11 = some (r1, r2)) ∧ Aside0 (kq ≤ k1) ∧ Aside0 (Kd.R (Kd.int .i64) 3 w' w.heap.size (fun _ => True) v6 x6_2) ∧ Aside0 (Kd.R Kd.string 9 w' w.heap.size (fun _ => True) v7 x7_2) ∧ Aside0 (BR w' (.slice Ao16 t178.length co16) t178) ∧ Aside0 (w'.heap[gb171]? = some (.cells #[.int .i64 a0_0, .int .i64 a0_1, .int .i64 a0_2, .int .i64 a0_3, .int .i64 a0_4, .int .i64 a0_5, .int .i64 a0_6, .int .i64 a0_7, .int .i64 a0_8, .int .i64 a0_9, .int .i64 a0_10, .int .i64 a0_11] 78 (0, 0))) ∧ Aside0 (Below w.heap.size w w'))
  case atStart => exact ⟨(x6_1), (x7_1), (0), (by first | rfl | (simp; done) | (simp [*]; done)), H', ⟨Nat.le_refl _⟩, ⟨by exact rk HO_6.out⟩, ⟨by exact rk HO_7.out⟩, ⟨by (with_reducible repeat (first | apply BR_alloc | apply BR_drewN | apply BR_drew)); exact HO180.out⟩, ⟨by exact bk BK171.out⟩, ⟨by exact gs HB.out⟩⟩
  clear H'
  try clear c1
  try clear p2
  try clear p6
  try clear c8
  try clear c8b0
  try clear c9
  try clear c10
  try clear c10b0
  try clear c10b1
  try clear c11
  try clear c11b0
  try clear c11b1
  try clear c12
  try clear hcz14_0 hcz14_1 hcz14_10 hcz14_11 hcz14_2 hcz14_3 hcz14_4 hcz14_5 hcz14_6 hcz14_7 hcz14_8 hcz14_9
  try clear hfz14_0 hfz14_1 hfz14_10 hfz14_11 hfz14_2 hfz14_3 hfz14_4 hfz14_5 hfz14_6 hfz14_7 hfz14_8 hfz14_9
  try clear p2
  obtain ⟨x6_2, x7_2, x27_2, rfl, HA, HK2, HO_6, HO_7, HO_25, BK171, HB⟩ := hrel
  cases gk with
  | zero => exact absurd HA.out (by simp [c_table_order.l1])
  | succ k2 =>
   have H := HA.out
   clear HA
   simp only [c_table_order.l1] at H
   by_cases c17 : x27_2 < (t178.length : Int)
   rotate_left
   ·rw [if_neg c17] at H
    have c17b0 : decide (x27_2 < (t178.length : Int)) = false := decide_eq_false c17
    clear c17
    have H' := a_ H
    clear H
    go_wp2
    go_roundg k2
    case measure => have := HK1.out; have := HK2.out; omega
    case rel => exact ⟨(x6_2), (x7_2), (wrap64 (x8_1 + 1)), (by first | rfl | (simp; done) | (simp [*]; done)), H', ⟨by have := HK1.out; have := HK2.out; omega⟩, ⟨by exact rk HO_6.out⟩, ⟨by exact rk HO_7.out⟩, ⟨by exact bk BK171.out⟩, ⟨by exact gs HB.out⟩⟩
   rw [if_pos c17] at H
   have c17b0 : decide (x27_2 < (t178.length : Int)) = true := decide_eq_true c17
   clear c17
   by_cases c18 : 0 ≤ x27_2
   rotate_left
   ·rw [if_neg c18] at H
    exact absurd H (by simp)
   rw [if_pos c18] at H
   have c18b0 : decide (0 ≤ x27_2) = true := decide_eq_true c18
   clear c18
   by_cases c19 : x27_2 < (t178.length : Int)
   rotate_left
   ·rw [if_neg c19] at H
    exact absurd H (by simp)
   rw [if_pos c19] at H
   have c19b0 : decide (x27_2 < (t178.length : Int)) = true := decide_eq_true c19
   clear c19
   by_cases c20 : 0 ≤ x8_1
   rotate_left
   ·rw [if_neg c20] at H
    exact absurd H (by simp)
   rw [if_pos c20] at H
   have c20b0 : decide (0 ≤ x8_1) = true := decide_eq_true c20
   clear c20
   by_cases c21 : x8_1 < (x6_2.length : Int)
   rotate_left
   ·rw [if_neg c21] at H
    exact absurd H (by simp)
   rw [if_pos c21] at H
   have c21b0 : decide (x8_1 < (x6_2.length : Int)) = true := decide_eq_true c21
   clear c21
   replace H := Option.bind_eq_some_iff.mp H
   obtain ⟨t183, A220, H⟩ := H
   try dsimp only at H
   have A22 := a_ A220
   clear A220
   replace H := Option.bind_eq_some_iff.mp H
   obtain ⟨t184, A230, H⟩ := H
   try dsimp only at H
   have A23 := a_ A230
   clear A230
   by_cases c24 : t184 = true
   ·subst c24
    have H1 := H; rw [if_pos rfl] at H1
    clear H
    have H := H1
    clear H1
    have H' := a_ H
    clear H
    have p181 : 0 ≤ (x27_2 : Int) := of_decide_eq_true (by first | (with_reducible assumption) | assumption)
    have q181 : x27_2 < (t178.length : Int) := of_decide_eq_true (by first | (with_reducible assumption) | assumption)
    obtain ⟨ad181, e181, hx181_0⟩ := Kd.at_int (BR_reads HO_25.out) x27_2 p181 q181
    cases e181
    replace p181 := eq_true p181
    replace q181 := eq_true q181
    try go_wp2
    replace HO_6 := a_ (Kd.R_drew HO_6.out)
    replace HO_7 := a_ (Kd.R_drew HO_7.out)
    replace HO_25 := a_ (BR_drew HO_25.out)
    replace BK171 := a_ (kD_ BK171.out)
    replace HB := a_ (b1_ HB.out)
    obtain ⟨Ao26, co26, eo26⟩ := Kd.R_slice HO_6.out
    (first | subst eo26 | (injection eo26 with f1_ f2_ f3_; have f4_ := f1_.symm; have f5_ := f3_.symm; clear f1_ f2_ f3_; subst f4_; subst f5_))
    have p182 : 0 ≤ (x8_1 : Int) := of_decide_eq_true (by first | (with_reducible assumption) | assumption)
    have q182 : x8_1 < (x6_2.length : Int) := of_decide_eq_true (by first | (with_reducible assumption) | assumption)
    obtain ⟨ad182, e182, hx182_0⟩ := Kd.at_int (Kd.R_reads' HO_6.out).2.2 x8_1 p182 q182
    cases e182
    replace p182 := eq_true p182
    replace q182 := eq_true q182
    refine start_ (n := 8) (S := fun w' => w'.cell? ⟨gb171, 0, none⟩ = some (.int .i64 a0_0) ∧ w'.cell? ⟨gb171, 1, none⟩ = some (.int .i64 a0_1) ∧ w'.cell? ⟨gb171, 2, none⟩ = some (.int .i64 a0_2) ∧ w'.cell? ⟨gb171, 3, none⟩ = some (.int .i64 a0_3) ∧ w'.cell? ⟨gb171, 4, none⟩ = some (.int .i64 a0_4) ∧ w'.cell? ⟨gb171, 5, none⟩ = some (.int .i64 a0_5) ∧ w'.cell? ⟨gb171, 6, none⟩ = some (.int .i64 a0_6) ∧ w'.cell? ⟨gb171, 7, none⟩ = some (.int .i64 a0_7) ∧ w'.cell? ⟨gb171, 8, none⟩ = some (.int .i64 a0_8) ∧ w'.cell? ⟨gb171, 9, none⟩ = some (.int .i64 a0_9) ∧ w'.cell? ⟨gb171, 10, none⟩ = some (.int .i64 a0_10) ∧ w'.cell? ⟨gb171, 11, none⟩ = some (.int .i64 a0_11) ∧ w'.cell? (ad182.add (x8_1).toNat) = some (.int .i64 (rd x6_2 x8_1))) (ds := []) #[false, false, false, false, false, false, false, false] (by kernel_rfl) rfl rfl ⟨(kc_ BK171.out 0).trans rfl, (kc_ BK171.out 1).trans rfl, (kc_ BK171.out 2).trans rfl, (kc_ BK171.out 3).trans rfl, (kc_ BK171.out 4).trans rfl, (kc_ BK171.out 5).trans rfl, (kc_ BK171.out 6).trans rfl, (kc_ BK171.out 7).trans rfl, (kc_ BK171.out 8).trans rfl, (kc_ BK171.out 9).trans rfl, (kc_ BK171.out 10).trans rfl, (kc_ BK171.out 11).trans rfl, hx182_0⟩ (fun hHeld => ?_); refine with_tabW c_table_order.tab8 c_table_order.bits8 (fun HT_ HW_ => ?_)
    generalize wr.drew = w25 at HO_6 HO_7 HO_25 BK171 HB hx182_0 hHeld ⊢
    refine pure_ (i := 1) (N := some 32) (v := ?_) (a' := ?_) #[false, true, false, false, false, false, false, false] rfl rfl (any_of HT_.out (by kernel_rfl)) (fun _ _ _ h => h) (Or.inl ⟨by rfl, ?_⟩) ?_ ?_
    rotate_left
    ·intro w'
     go_simp
     with_reducible rfl
    rotate_left
    ·simp only [Act.put, List.setIfInBounds_toArray, List.set_cons_zero, List.set_cons_succ, i64_w, i32_w]
     rfl
    refine pure_ (i := 2) (N := some 33) (v := ?_) (a' := ?_) #[false, true, true, false, false, false, false, false] rfl rfl (any_of HT_.out (by kernel_rfl)) (fun _ _ _ h => h) (Or.inl ⟨by rfl, ?_⟩) ?_ ?_
    rotate_left
    ·intro w'
     go_simp
     with_reducible rfl
    rotate_left
    ·simp only [Act.put, List.setIfInBounds_toArray, List.set_cons_zero, List.set_cons_succ, i64_w, i32_w]
     rfl
    refine pure_ (i := 3) (N := some 34) (v := ?_) (a' := ?_) #[false, true, true, true, false, false, false, false] rfl rfl (any_of HT_.out (by kernel_rfl)) (fun _ _ _ h => h) (Or.inl ⟨by rfl, ?_⟩) ?_ ?_
    rotate_left
    ·intro w'
     go_simp
     with_reducible rfl
    rotate_left
    ·simp only [Act.put, List.setIfInBounds_toArray, List.set_cons_zero, List.set_cons_succ, i64_w, i32_w]
     rfl
    refine pure_ (i := 5) (N := some 36) (v := ?_) (a' := ?_) #[false, true, true, true, false, true, false, false] rfl rfl (any_of HT_.out (by kernel_rfl)) (fun _ _ _ h => h) (Or.inl ⟨by rfl, ?_⟩) ?_ ?_
    rotate_left
    ·intro w'
     go_simp
     with_reducible rfl
    rotate_left
    ·simp only [Act.put, List.setIfInBounds_toArray, List.set_cons_zero, List.set_cons_succ, i64_w, i32_w]
     rfl
    refine take_ (i := 0) (N := some 31) (v := ?_) (a' := ?_) #[true, true, true, true, false, true, false, false] rfl rfl (take_ofW HT_.out HW_.out (by kernel_rfl)) (fun _ _ _ h => h) (Or.inl ⟨by rfl, ?_⟩) hHeld ?_ ?_
    rotate_left
    ·rintro w' ⟨s0, s1, s2, s3, s4, s5, s6, s7, s8, s9, s10, s11, s12⟩
     go_simp
     with_reducible rfl
    rotate_left
    ·simp only [Act.put, List.setIfInBounds_toArray, List.set_cons_zero, List.set_cons_succ, i64_w, i32_w]
     rfl
    refine take_ (i := 4) (N := some 35) (v := ?_) (a' := ?_) #[true, true, true, true, true, true, false, false] rfl rfl (take_ofW HT_.out HW_.out (by kernel_rfl)) (fun _ _ _ h => h) (Or.inl ⟨by rfl, ?_⟩) hHeld ?_ ?_
    rotate_left
    ·rintro w' ⟨s0, s1, s2, s3, s4, s5, s6, s7, s8, s9, s10, s11, s12⟩
     go_simp
     with_reducible rfl
    rotate_left
    ·simp only [Act.put, List.setIfInBounds_toArray, List.set_cons_zero, List.set_cons_succ, i64_w, i32_w]
     rfl
    refine one_ (i := 6) (N := some 37) #[true, true, true, true, true, true, true, false] rfl rfl (one_of HT_.out (by kernel_rfl)) (by decide) (fun K hK => ?_)
    refine goes_ Try.func70 (by kernel_rfl) rfl #[.agg #[.int .i64 a0_0, .int .i64 a0_1, .int .i64 a0_2, .int .i64 a0_3, .int .i64 a0_4, .int .i64 a0_5, .int .i64 a0_6, .int .i64 a0_7, .int .i64 a0_8, .int .i64 a0_9, .int .i64 a0_10, .int .i64 a0_11], .int .i64 (rd x6_2 x8_1), .int .u8 (rd t178 x27_2)] (by rfl) rfl rfl (by (try simp only [List.map_toArray, List.map_cons, List.map_nil]); first | done | rfl | (simp only [List.length_drop, List.length_take]; rfl)) ?_
    with_reducible refine (c_table_sent.calls a0_0 a0_1 a0_2 a0_3 a0_4 a0_5 a0_6 a0_7 a0_8 a0_9 a0_10 a0_11 (rd x6_2 x8_1) (rd t178 x27_2) t183 _ A22.out).mono ?_
    rintro e w27 ⟨rfl, hb⟩
    have HS12_ := (hb.cell (World.block_lt_of_cell? _ _ (hHeld.2.2.2.2.2.2.2.2.2.2.2.2))).trans (hHeld.2.2.2.2.2.2.2.2.2.2.2.2)
    refine ⟨_, rfl, ?_⟩
    replace HO_6 := a_ (Kd.R_below HO_6.out (tr hb))
    replace HO_7 := a_ (Kd.R_below HO_7.out (tr hb))
    replace HO_25 := a_ (BR_below (by (with_reducible repeat (first | apply BR_alloc | apply BR_drewN | apply BR_drew)); exact HO_25.out) hb)
    replace BK171 := a_ (kB_ BK171.out (tr hb))
    replace HB := a_ (bT_ (by exact gs HB.out) hb)
    (try clear hb)
    (try clear hb2)
    (try clear hk)
    (try clear hi)
    refine hK.out _ _ ⟨(kc_ BK171.out 0).trans rfl, (kc_ BK171.out 1).trans rfl, (kc_ BK171.out 2).trans rfl, (kc_ BK171.out 3).trans rfl, (kc_ BK171.out 4).trans rfl, (kc_ BK171.out 5).trans rfl, (kc_ BK171.out 6).trans rfl, (kc_ BK171.out 7).trans rfl, (kc_ BK171.out 8).trans rfl, (kc_ BK171.out 9).trans rfl, (kc_ BK171.out 10).trans rfl, (kc_ BK171.out 11).trans rfl, HS12_⟩ (fun hHeld => ?_)
    clear hK K
    refine norm_ (a' := ?_) ?_ ?_
    rotate_left
    ·show Act.put _ (some 37) _ = _
     simp only [Act.put, List.setIfInBounds_toArray, List.set_cons_zero, List.set_cons_succ, i64_w, i32_w]
     rfl
    refine pure_ (i := 7) (N := some 11) (v := ?_) (a' := ?_) #[true, true, true, true, true, true, true, true] rfl rfl (any_of HT_.out (by kernel_rfl)) (fun _ _ _ h => h) (Or.inl ⟨by rfl, ?_⟩) ?_ ?_
    rotate_left
    ·intro w'
     go_simp
     with_reducible rfl
    rotate_left
    ·simp only [Act.put, List.setIfInBounds_toArray, List.set_cons_zero, List.set_cons_succ, i64_w, i32_w]
     rfl
    refine done_ (done_of HT_.out (by kernel_rfl)) ?_
    try go_wp2_with (first | ((with_reducible refine gate_callee (f := 79) rfl ?_); refine goesL_ (some 40) rfl rfl Try.func79 (by kernel_rfl) rfl #[.slice (some ad182) x6_2.length co26, .int .i64 t183] rfl (by (try simp only [List.map_toArray, List.map_cons, List.map_nil]); first | done | rfl | (simp only [List.length_drop, List.length_take]; rfl)) ?_; (with_reducible refine (sl_Contains_int_int.calls k2 _ _ x6_2 t183 true _ ?side1 ?side2 A23.out).mono ?_); (case side1 => repeat (first | exact (Kd.R_reads' HO_6.out).2.2 | (with_reducible refine Kd.C_alloc ?_ _) | (with_reducible refine Kd.C_drewN ?_ _) | (with_reducible refine Kd.C_drew ?_))); (case side2 => exact (Kd.R_reads' HO_6.out).2.1); rintro e w' ⟨rfl, ⟨nd, rfl⟩⟩; refine ⟨_, rfl, ?_⟩))
    go_roundg k2
    case measure => have := HK1.out; have := HK2.out; omega
    case rel => exact ⟨(x6_2), (x7_2), (wrap64 (x27_2 + 1)), (by first | rfl | (simp; done) | (simp [*]; done)), H', ⟨by have := HK1.out; have := HK2.out; omega⟩, ⟨by exact rk HO_6.out⟩, ⟨by exact rk HO_7.out⟩, ⟨by (with_reducible repeat (first | apply BR_alloc | apply BR_drewN | apply BR_drew)); exact HO_25.out⟩, ⟨by exact bk BK171.out⟩, ⟨by exact gs HB.out⟩⟩
   replace c24 := Bool.eq_false_iff.mpr c24
   subst c24
   have H1 := H; rw [if_neg (show ¬ (false = true) by decide)] at H1
   clear H
   have H := H1
   clear H1
   by_cases c28 : x6_2.length < 17592186044416
   rotate_left
   ·rw [if_neg c28] at H
    exact absurd H (by simp)
   rw [if_pos c28] at H
   have LMc28 := a_ c28
   clear c28
   obtain ⟨y185, hy185⟩ : ∃ y_ : List Int, y_ = (x6_2 ++ [t183]) := ⟨_, rfl⟩
   replace H : (if x8_1 < (x7_2.length : Int) then ((c_joined.f k2 (([rdOf ByteArray.empty x7_2 x8_1, Utf8.encode (wrap32 (rd t178 x27_2))] : List ByteArray))).bind fun t192 => (if x7_2.length < 8796093022208 then (c_table_order.l1 k2 y185 (x7_2 ++ [t192]) x8_1 t178 (t178.length : Int) (wrap64 (x27_2 + 1)) a0_0 a0_1 a0_2 a0_3 a0_4 a0_5 a0_6 a0_7 a0_8 a0_9 a0_10 a0_11) else (none))) else (none)) = some (r1, r2) := by first | (rw [hy185]; with_reducible exact H) | (have H2_ := (Option.bind_some _ _).symm.trans H; rw [hy185]; with_reducible exact H2_) | (have H2_ := (Option.bind_some _ _).symm.trans H; with_reducible exact H2_) | with_reducible exact H | (rw [hy185]; exact H) | exact H
   have Ny185 := a_ hy185
   clear hy185
   by_cases c29 : x8_1 < (x7_2.length : Int)
   rotate_left
   ·rw [if_neg c29] at H
    exact absurd H (by simp)
   rw [if_pos c29] at H
   have c29b0 : decide (x8_1 < (x7_2.length : Int)) = true := decide_eq_true c29
   clear c29
   obtain ⟨y189, hy189⟩ : ∃ y_ : List ByteArray, y_ = (([rdOf ByteArray.empty x7_2 x8_1, Utf8.encode (wrap32 (rd t178 x27_2))] : List ByteArray)) := ⟨_, rfl⟩
   replace H : ((c_joined.f k2 y189).bind fun t192 => (if x7_2.length < 8796093022208 then (c_table_order.l1 k2 y185 (x7_2 ++ [t192]) x8_1 t178 (t178.length : Int) (wrap64 (x27_2 + 1)) a0_0 a0_1 a0_2 a0_3 a0_4 a0_5 a0_6 a0_7 a0_8 a0_9 a0_10 a0_11) else (none))) = some (r1, r2) := by first | (rw [hy189]; with_reducible exact H) | (have H2_ := (Option.bind_some _ _).symm.trans H; rw [hy189]; with_reducible exact H2_) | (have H2_ := (Option.bind_some _ _).symm.trans H; with_reducible exact H2_) | with_reducible exact H | (rw [hy189]; exact H) | exact H
   have Ny189 := a_ hy189
   clear hy189
   replace H := Option.bind_eq_some_iff.mp H
   obtain ⟨t192, A300, H⟩ := H
   try dsimp only at H
   have A30 := a_ A300
   clear A300
   by_cases c31 : x7_2.length < 8796093022208
   rotate_left
   ·rw [if_neg c31] at H
    exact absurd H (by simp)
   rw [if_pos c31] at H
   have LMc31 := a_ c31
   clear c31
   obtain ⟨y193, hy193⟩ : ∃ y_ : List ByteArray, y_ = (x7_2 ++ [t192]) := ⟨_, rfl⟩
   replace H : (c_table_order.l1 k2 y185 y193 x8_1 t178 (t178.length : Int) (wrap64 (x27_2 + 1)) a0_0 a0_1 a0_2 a0_3 a0_4 a0_5 a0_6 a0_7 a0_8 a0_9 a0_10 a0_11) = some (r1, r2) := by first | (rw [hy193]; with_reducible exact H) | (have H2_ := (Option.bind_some _ _).symm.trans H; rw [hy193]; with_reducible exact H2_) | (have H2_ := (Option.bind_some _ _).symm.trans H; with_reducible exact H2_) | with_reducible exact H | (rw [hy193]; exact H) | exact H
   have Ny193 := a_ hy193
   clear hy193
   have H' := a_ H
   clear H
   have p181 : 0 ≤ (x27_2 : Int) := of_decide_eq_true (by first | (with_reducible assumption) | assumption)
   have q181 : x27_2 < (t178.length : Int) := of_decide_eq_true (by first | (with_reducible assumption) | assumption)
   obtain ⟨ad181, e181, hx181_0⟩ := Kd.at_int (BR_reads HO_25.out) x27_2 p181 q181
   cases e181
   replace p181 := eq_true p181
   replace q181 := eq_true q181
   try go_wp2
   replace HO_6 := a_ (Kd.R_drew HO_6.out)
   replace HO_7 := a_ (Kd.R_drew HO_7.out)
   replace HO_25 := a_ (BR_drew HO_25.out)
   replace BK171 := a_ (kD_ BK171.out)
   replace HB := a_ (b1_ HB.out)
   obtain ⟨Ao33, co33, eo33⟩ := Kd.R_slice HO_6.out
   (first | subst eo33 | (injection eo33 with f1_ f2_ f3_; have f4_ := f1_.symm; have f5_ := f3_.symm; clear f1_ f2_ f3_; subst f4_; subst f5_))
   have p182 : 0 ≤ (x8_1 : Int) := of_decide_eq_true (by first | (with_reducible assumption) | assumption)
   have q182 : x8_1 < (x6_2.length : Int) := of_decide_eq_true (by first | (with_reducible assumption) | assumption)
   obtain ⟨ad182, e182, hx182_0⟩ := Kd.at_int (Kd.R_reads' HO_6.out).2.2 x8_1 p182 q182
   cases e182
   replace p182 := eq_true p182
   replace q182 := eq_true q182
   refine start_ (n := 8) (S := fun w' => w'.cell? ⟨gb171, 0, none⟩ = some (.int .i64 a0_0) ∧ w'.cell? ⟨gb171, 1, none⟩ = some (.int .i64 a0_1) ∧ w'.cell? ⟨gb171, 2, none⟩ = some (.int .i64 a0_2) ∧ w'.cell? ⟨gb171, 3, none⟩ = some (.int .i64 a0_3) ∧ w'.cell? ⟨gb171, 4, none⟩ = some (.int .i64 a0_4) ∧ w'.cell? ⟨gb171, 5, none⟩ = some (.int .i64 a0_5) ∧ w'.cell? ⟨gb171, 6, none⟩ = some (.int .i64 a0_6) ∧ w'.cell? ⟨gb171, 7, none⟩ = some (.int .i64 a0_7) ∧ w'.cell? ⟨gb171, 8, none⟩ = some (.int .i64 a0_8) ∧ w'.cell? ⟨gb171, 9, none⟩ = some (.int .i64 a0_9) ∧ w'.cell? ⟨gb171, 10, none⟩ = some (.int .i64 a0_10) ∧ w'.cell? ⟨gb171, 11, none⟩ = some (.int .i64 a0_11) ∧ w'.cell? (ad182.add (x8_1).toNat) = some (.int .i64 (rd x6_2 x8_1))) (ds := []) #[false, false, false, false, false, false, false, false] (by kernel_rfl) rfl rfl ⟨(kc_ BK171.out 0).trans rfl, (kc_ BK171.out 1).trans rfl, (kc_ BK171.out 2).trans rfl, (kc_ BK171.out 3).trans rfl, (kc_ BK171.out 4).trans rfl, (kc_ BK171.out 5).trans rfl, (kc_ BK171.out 6).trans rfl, (kc_ BK171.out 7).trans rfl, (kc_ BK171.out 8).trans rfl, (kc_ BK171.out 9).trans rfl, (kc_ BK171.out 10).trans rfl, (kc_ BK171.out 11).trans rfl, hx182_0⟩ (fun hHeld => ?_); refine with_tabW c_table_order.tab8 c_table_order.bits8 (fun HT_ HW_ => ?_)
   generalize wr.drew = w32 at HO_6 HO_7 HO_25 BK171 HB hx182_0 hHeld ⊢
   refine pure_ (i := 1) (N := some 32) (v := ?_) (a' := ?_) #[false, true, false, false, false, false, false, false] rfl rfl (any_of HT_.out (by kernel_rfl)) (fun _ _ _ h => h) (Or.inl ⟨by rfl, ?_⟩) ?_ ?_
   rotate_left
   ·intro w'
    go_simp
    with_reducible rfl
   rotate_left
   ·simp only [Act.put, List.setIfInBounds_toArray, List.set_cons_zero, List.set_cons_succ, i64_w, i32_w]
    rfl
   refine pure_ (i := 2) (N := some 33) (v := ?_) (a' := ?_) #[false, true, true, false, false, false, false, false] rfl rfl (any_of HT_.out (by kernel_rfl)) (fun _ _ _ h => h) (Or.inl ⟨by rfl, ?_⟩) ?_ ?_
   rotate_left
   ·intro w'
    go_simp
    with_reducible rfl
   rotate_left
   ·simp only [Act.put, List.setIfInBounds_toArray, List.set_cons_zero, List.set_cons_succ, i64_w, i32_w]
    rfl
   refine pure_ (i := 3) (N := some 34) (v := ?_) (a' := ?_) #[false, true, true, true, false, false, false, false] rfl rfl (any_of HT_.out (by kernel_rfl)) (fun _ _ _ h => h) (Or.inl ⟨by rfl, ?_⟩) ?_ ?_
   rotate_left
   ·intro w'
    go_simp
    with_reducible rfl
   rotate_left
   ·simp only [Act.put, List.setIfInBounds_toArray, List.set_cons_zero, List.set_cons_succ, i64_w, i32_w]
    rfl
   refine pure_ (i := 5) (N := some 36) (v := ?_) (a' := ?_) #[false, true, true, true, false, true, false, false] rfl rfl (any_of HT_.out (by kernel_rfl)) (fun _ _ _ h => h) (Or.inl ⟨by rfl, ?_⟩) ?_ ?_
   rotate_left
   ·intro w'
    go_simp
    with_reducible rfl
   rotate_left
   ·simp only [Act.put, List.setIfInBounds_toArray, List.set_cons_zero, List.set_cons_succ, i64_w, i32_w]
    rfl
   refine take_ (i := 0) (N := some 31) (v := ?_) (a' := ?_) #[true, true, true, true, false, true, false, false] rfl rfl (take_ofW HT_.out HW_.out (by kernel_rfl)) (fun _ _ _ h => h) (Or.inl ⟨by rfl, ?_⟩) hHeld ?_ ?_
   rotate_left
   ·rintro w' ⟨s0, s1, s2, s3, s4, s5, s6, s7, s8, s9, s10, s11, s12⟩
    go_simp
    with_reducible rfl
   rotate_left
   ·simp only [Act.put, List.setIfInBounds_toArray, List.set_cons_zero, List.set_cons_succ, i64_w, i32_w]
    rfl
   refine take_ (i := 4) (N := some 35) (v := ?_) (a' := ?_) #[true, true, true, true, true, true, false, false] rfl rfl (take_ofW HT_.out HW_.out (by kernel_rfl)) (fun _ _ _ h => h) (Or.inl ⟨by rfl, ?_⟩) hHeld ?_ ?_
   rotate_left
   ·rintro w' ⟨s0, s1, s2, s3, s4, s5, s6, s7, s8, s9, s10, s11, s12⟩
    go_simp
    with_reducible rfl
   rotate_left
   ·simp only [Act.put, List.setIfInBounds_toArray, List.set_cons_zero, List.set_cons_succ, i64_w, i32_w]
    rfl
   refine one_ (i := 6) (N := some 37) #[true, true, true, true, true, true, true, false] rfl rfl (one_of HT_.out (by kernel_rfl)) (by decide) (fun K hK => ?_)
   refine goes_ Try.func70 (by kernel_rfl) rfl #[.agg #[.int .i64 a0_0, .int .i64 a0_1, .int .i64 a0_2, .int .i64 a0_3, .int .i64 a0_4, .int .i64 a0_5, .int .i64 a0_6, .int .i64 a0_7, .int .i64 a0_8, .int .i64 a0_9, .int .i64 a0_10, .int .i64 a0_11], .int .i64 (rd x6_2 x8_1), .int .u8 (rd t178 x27_2)] (by rfl) rfl rfl (by (try simp only [List.map_toArray, List.map_cons, List.map_nil]); first | done | rfl | (simp only [List.length_drop, List.length_take]; rfl)) ?_
   with_reducible refine (c_table_sent.calls a0_0 a0_1 a0_2 a0_3 a0_4 a0_5 a0_6 a0_7 a0_8 a0_9 a0_10 a0_11 (rd x6_2 x8_1) (rd t178 x27_2) t183 _ A22.out).mono ?_
   rintro e w34 ⟨rfl, hb⟩
   have HS12_ := (hb.cell (World.block_lt_of_cell? _ _ (hHeld.2.2.2.2.2.2.2.2.2.2.2.2))).trans (hHeld.2.2.2.2.2.2.2.2.2.2.2.2)
   refine ⟨_, rfl, ?_⟩
   replace HO_6 := a_ (Kd.R_below HO_6.out (tr hb))
   replace HO_7 := a_ (Kd.R_below HO_7.out (tr hb))
   replace HO_25 := a_ (BR_below (by (with_reducible repeat (first | apply BR_alloc | apply BR_drewN | apply BR_drew)); exact HO_25.out) hb)
   replace BK171 := a_ (kB_ BK171.out (tr hb))
   replace HB := a_ (bT_ (by exact gs HB.out) hb)
   (try clear hb)
   (try clear hb2)
   (try clear hk)
   (try clear hi)
   refine hK.out _ _ ⟨(kc_ BK171.out 0).trans rfl, (kc_ BK171.out 1).trans rfl, (kc_ BK171.out 2).trans rfl, (kc_ BK171.out 3).trans rfl, (kc_ BK171.out 4).trans rfl, (kc_ BK171.out 5).trans rfl, (kc_ BK171.out 6).trans rfl, (kc_ BK171.out 7).trans rfl, (kc_ BK171.out 8).trans rfl, (kc_ BK171.out 9).trans rfl, (kc_ BK171.out 10).trans rfl, (kc_ BK171.out 11).trans rfl, HS12_⟩ (fun hHeld => ?_)
   clear hK K
   refine norm_ (a' := ?_) ?_ ?_
   rotate_left
   ·show Act.put _ (some 37) _ = _
    simp only [Act.put, List.setIfInBounds_toArray, List.set_cons_zero, List.set_cons_succ, i64_w, i32_w]
    rfl
   refine pure_ (i := 7) (N := some 11) (v := ?_) (a' := ?_) #[true, true, true, true, true, true, true, true] rfl rfl (any_of HT_.out (by kernel_rfl)) (fun _ _ _ h => h) (Or.inl ⟨by rfl, ?_⟩) ?_ ?_
   rotate_left
   ·intro w'
    go_simp
    with_reducible rfl
   rotate_left
   ·simp only [Act.put, List.setIfInBounds_toArray, List.set_cons_zero, List.set_cons_succ, i64_w, i32_w]
    rfl
   refine done_ (done_of HT_.out (by kernel_rfl)) ?_
   go_upto_region 10 with (first | ((with_reducible refine gate_callee (f := 79) rfl ?_); refine goesL_ (some 40) rfl rfl Try.func79 (by kernel_rfl) rfl #[.slice (some ad182) x6_2.length co33, .int .i64 t183] rfl (by (try simp only [List.map_toArray, List.map_cons, List.map_nil]); first | done | rfl | (simp only [List.length_drop, List.length_take]; rfl)) ?_; (with_reducible refine (sl_Contains_int_int.calls k2 _ _ x6_2 t183 false _ ?side1 ?side2 A23.out).mono ?_); (case side1 => repeat (first | exact (Kd.R_reads' HO_6.out).2.2 | (with_reducible refine Kd.C_alloc ?_ _) | (with_reducible refine Kd.C_drewN ?_ _) | (with_reducible refine Kd.C_drew ?_))); (case side2 => exact (Kd.R_reads' HO_6.out).2.1); rintro e wq ⟨rfl, hdr_⟩; refine ⟨_, rfl, ?_⟩; have hb_ : Below w34.heap.size w34 wq := (by obtain ⟨nd, rfl⟩ := hdr_; exact bN_ (Below.refl _ _) nd); clear hdr_; replace HO_6 := a_ (Kd.R_below HO_6.out hb_); replace HO_7 := a_ (Kd.R_below HO_7.out hb_); replace HO_25 := a_ (BR_below HO_25.out hb_); replace BK171 := a_ (kB_ BK171.out hb_); replace HB := a_ (bT_ HB.out hb_); clear hb_))
   obtain ⟨AoW, coW, eoW⟩ := Kd.R_slice HO_7.out
   subst eoW
   have p188 : 0 ≤ (x8_1 : Int) := of_decide_eq_true (by first | (with_reducible assumption) | assumption)
   have q188 : x8_1 < (x7_2.length : Int) := of_decide_eq_true (by first | (with_reducible assumption) | assumption)
   have HW0 := a_ (Kd.R_drew HO_6.out)
   have HW1 := a_ (Kd.R_drew HO_7.out)
   have HW2 := a_ (BR_drew HO_25.out)
   have HW3 := a_ (kD_ BK171.out)
   have HW4 := a_ (b1_ HB.out)
   clear HO_6 HO_7 HO_25 BK171 HB
   have HO_6 := HW0
   have HO_7 := HW1
   have HO_25 := HW2
   have BK171 := HW3
   have HB := HW4
   clear HW0 HW1 HW2 HW3 HW4
   obtain ⟨adW, eW, hxW⟩ := Kd.at_string (Kd.R_reads' HO_7.out).2.2 x8_1 p188 q188
   cases eW
   replace p188 := eq_true p188
   replace q188 := eq_true q188
   refine start_ (n := 18) (S := fun w' => w'.cell? (adW.add (x8_1 : Int).toNat) = some (.string (rdOf ByteArray.empty x7_2 x8_1))) (ds := [15]) #[false, false, false, false, false, false, false, false, false, false, false, false, false, false, false, false, false, false] (by kernel_rfl) rfl rfl (hxW) (fun hHeld => ?_)
   clear hxW
   generalize wq.drew = wd at HO_6 HO_7 HO_25 BK171 HB hHeld ⊢
   refine pure_ (i := 0) (N := (some 42)) (v := ?_) (a' := ?_) #[true, false, false, false, false, false, false, false, false, false, false, false, false, false, false, false, false, false] rfl rfl (by kernel_rfl) (fun _ _ _ h => h) (Or.inl ⟨by rfl, ?_⟩) ?_ ?_
   rotate_left
   ·intro w'
    first | (go_simp; with_reducible rfl) | rfl | (go_simp; done)
   rotate_left
   ·first | (simp only [Act.put, List.setIfInBounds_toArray, List.set_cons_zero, List.set_cons_succ, i64_w, i32_w]; rfl) | rfl
   refine pure_ (i := 1) (N := (some 43)) (v := ?_) (a' := ?_) #[true, true, false, false, false, false, false, false, false, false, false, false, false, false, false, false, false, false] rfl rfl (by kernel_rfl) (fun _ _ _ h => h) (Or.inl ⟨by rfl, ?_⟩) ?_ ?_
   rotate_left
   ·intro w'
    first | (go_simp; with_reducible rfl) | rfl | (go_simp; done)
   rotate_left
   ·first | (simp only [Act.put, List.setIfInBounds_toArray, List.set_cons_zero, List.set_cons_succ, i64_w, i32_w]; rfl) | rfl
   refine pure_ (i := 4) (N := (some 46)) (v := ?_) (a' := ?_) #[true, true, false, false, true, false, false, false, false, false, false, false, false, false, false, false, false, false] rfl rfl (by kernel_rfl) (fun _ _ _ h => h) (Or.inl ⟨by rfl, ?_⟩) ?_ ?_
   rotate_left
   ·intro w'
    first | (go_simp; with_reducible rfl) | rfl | (go_simp; done)
   rotate_left
   ·first | (simp only [Act.put, List.setIfInBounds_toArray, List.set_cons_zero, List.set_cons_succ, i64_w, i32_w]; rfl) | rfl
   refine pure_ (i := 5) (N := (some 47)) (v := ?_) (a' := ?_) #[true, true, false, false, true, true, false, false, false, false, false, false, false, false, false, false, false, false] rfl rfl (by kernel_rfl) (fun _ _ _ h => h) (Or.inl ⟨by rfl, ?_⟩) ?_ ?_
   rotate_left
   ·intro w'
    first | (go_simp; with_reducible rfl) | rfl | (go_simp; done)
   rotate_left
   ·first | (simp only [Act.put, List.setIfInBounds_toArray, List.set_cons_zero, List.set_cons_succ, i64_w, i32_w]; rfl) | rfl
   refine pure_ (i := 6) (N := (some 48)) (v := ?_) (a' := ?_) #[true, true, false, false, true, true, true, false, false, false, false, false, false, false, false, false, false, false] rfl rfl (by kernel_rfl) (fun _ _ _ h => h) (Or.inl ⟨by rfl, ?_⟩) ?_ ?_
   rotate_left
   ·intro w'
    first | (go_simp; with_reducible rfl) | rfl | (go_simp; done)
   rotate_left
   ·first | (simp only [Act.put, List.setIfInBounds_toArray, List.set_cons_zero, List.set_cons_succ, i64_w, i32_w]; rfl) | rfl
   refine pure_ (i := 9) (N := (some 51)) (v := ?_) (a' := ?_) #[true, true, false, false, true, true, true, false, false, true, false, false, false, false, false, false, false, false] rfl rfl (by kernel_rfl) (fun _ _ _ h => h) (Or.inl ⟨by rfl, ?_⟩) ?_ ?_
   rotate_left
   ·intro w'
    first | (go_simp; with_reducible rfl) | rfl | (go_simp; done)
   rotate_left
   ·first | (simp only [Act.put, List.setIfInBounds_toArray, List.set_cons_zero, List.set_cons_succ, i64_w, i32_w]; rfl) | rfl
   refine pure_ (i := 10) (N := (some 52)) (v := ?_) (a' := ?_) #[true, true, false, false, true, true, true, false, false, true, true, false, false, false, false, false, false, false] rfl rfl (by kernel_rfl) (fun _ _ _ h => h) (Or.inl ⟨by rfl, ?_⟩) ?_ ?_
   rotate_left
   ·intro w'
    first | (go_simp; with_reducible rfl) | rfl | (go_simp; done)
   rotate_left
   ·first | (simp only [Act.put, List.setIfInBounds_toArray, List.set_cons_zero, List.set_cons_succ, i64_w, i32_w]; rfl) | rfl
   refine pure_ (i := 11) (N := (some 53)) (v := ?_) (a' := ?_) #[true, true, false, false, true, true, true, false, false, true, true, true, false, false, false, false, false, false] rfl rfl (by kernel_rfl) (fun _ _ _ h => h) (Or.inl ⟨by rfl, ?_⟩) ?_ ?_
   rotate_left
   ·intro w'
    first | (go_simp; with_reducible rfl) | rfl | (go_simp; done)
   rotate_left
   ·first | (simp only [Act.put, List.setIfInBounds_toArray, List.set_cons_zero, List.set_cons_succ, i64_w, i32_w]; rfl) | rfl
   refine pure_ (i := 7) (N := (some 49)) (v := ?_) (a' := ?_) #[true, true, false, false, true, true, true, true, false, true, true, true, false, false, false, false, false, false] rfl rfl (by kernel_rfl) (fun _ _ _ h => h) (Or.inl ⟨by rfl, ?_⟩) ?_ ?_
   rotate_left
   ·intro w'
    first | (go_simp; with_reducible rfl) | rfl | (go_simp; done)
   rotate_left
   ·first | (simp only [Act.put, List.setIfInBounds_toArray, List.set_cons_zero, List.set_cons_succ, i64_w, i32_w]; rfl) | rfl
   refine take_ (i := 8) (N := (some 50)) (v := ?_) (a' := ?_) #[true, true, false, false, true, true, true, true, true, true, true, true, false, false, false, false, false, false] rfl rfl (by kernel_rfl) (fun _ _ _ h => h) (Or.inl ⟨by rfl, ?_⟩) hHeld ?_ ?_
   rotate_left
   ·intro w' s0
    first | (go_simp; with_reducible rfl) | rfl | (go_simp; done)
   rotate_left
   ·first | (simp only [Act.put, List.setIfInBounds_toArray, List.set_cons_zero, List.set_cons_succ, i64_w, i32_w]; rfl) | rfl
   refine two_ (i := 2) (j := 12) (Ni := some 44) (Nj := some 54) #[true, true, true, false, true, true, true, true, true, true, true, true, false, false, false, false, false, false] #[true, true, false, false, true, true, true, true, true, true, true, true, true, false, false, false, false, false] rfl rfl rfl rfl (by kernel_rfl) (by decide) (by decide) (fun K hK => ?_) (fun K hK => ?_)
   ·refine value_ (w1 := ?_) (v := ?_) (by rfl) rfl ?_ ?_
    rotate_left 2
    ·go_simp
     constructor
     ·rfl
     ·rfl
    have hb_ : Below wd.heap.size wd (wd.alloc (.cells #[.int .i64 t183] 3)) := bA_ (Below.refl _ _) _
    replace HO_6 := a_ (Kd.R_below HO_6.out hb_)
    replace HO_7 := a_ (Kd.R_below HO_7.out hb_)
    replace HO_25 := a_ (BR_below HO_25.out hb_)
    replace BK171 := a_ (kB_ BK171.out hb_)
    replace HB := a_ (bT_ HB.out hb_)
    have BX2 := a_ (blk_new wd (.cells #[.int .i64 t183] 3))
    clear hb_
    refine hK.out _ _ (by obtain ⟨adz, ez, hz⟩ := Kd.at_string (Kd.R_reads' HO_7.out).2.2 x8_1 (of_eq_true p188) (of_eq_true q188); cases ez; exact hz) (fun hHeld => ?_)
    clear hK K
    refine norm_ (a' := ?_) ?_ ?_
    rotate_left
    ·show Act.put _ (some 44) _ = _
     simp only [Act.put, List.setIfInBounds_toArray, List.set_cons_zero, List.set_cons_succ, i64_w, i32_w]
     rfl
    generalize wd.alloc (.cells #[.int .i64 t183] 3) = we at HO_6 HO_7 HO_25 BK171 BX2 HB hHeld ⊢
    refine two_ (i := 3) (j := 12) (Ni := some 45) (Nj := some 54) #[true, true, true, true, true, true, true, true, true, true, true, true, false, false, false, false, false, false] #[true, true, true, false, true, true, true, true, true, true, true, true, true, false, false, false, false, false] rfl rfl rfl rfl (by kernel_rfl) (by decide) (by decide) (fun K hK => ?_) (fun K hK => ?_)
    ·refine Kd.R_append_rows_step (Kd.int .i64) (w0 := w) w.heap.size (by rfl) (.tmp 42) (.tmp 44) 22 3 (.int .i64 0) 8 rfl Try.underlying22 info3 rfl (by decide) (by omega) (.slice (some ad182) x6_2.length co33) x6_2 [t183] _ _ _ (fun _ => True) (fun _ => False) rfl rfl HO_6.out (C_blk (d := (0 : Int)) (h1 := fun _ => rfl) BX2.out [t183] (by simp) (fun j hj => by rcases j with _ | j <;> first | rfl | (simp at hj <;> omega))) (fun _ _ h => h) (fun _ h => h.elim) (fun _ _ => trivial) HB.out HB.out.size (by have := LMc28.out; omega) ?_
     intro vA wf ho hb hg hat
     rw [← Ny185.out] at ho
     have n0_ := a_ (Kd.R_over' HO_7.out (Kd.R_typed HO_6.out) (by decide) hg)
     have n1_ := a_ (BR_over HO_25.out (Kd.R_typed HO_6.out) (by decide) hg)
     have n2_ := a_ (blk_grown BK171.out hg (Kd.R_ne HO_6.out BK171.out (by decide)))
     have n3_ := a_ hb
     have n4_ := a_ ho
     clear HO_7 HO_25 BK171 HB HO_6 BX2
     have HO_7 := n0_
     have HO_25 := n1_
     have BK171 := n2_
     have HB := n3_
     have HO187 := n4_
     clear n0_ n1_ n2_ n3_ n4_
     clear ho hb hg hat
     refine hK.out _ _ (by obtain ⟨adz, ez, hz⟩ := Kd.at_string (Kd.R_reads' HO_7.out).2.2 x8_1 (of_eq_true p188) (of_eq_true q188); cases ez; exact hz) (fun hHeld => ?_)
     clear hK K
     refine norm_ (a' := ?_) ?_ ?_
     rotate_left
     ·show Act.put _ (some 45) _ = _
      simp only [Act.put, List.setIfInBounds_toArray, List.set_cons_zero, List.set_cons_succ, i64_w, i32_w]
      rfl
     refine one_ (i := 12) (N := some 54) #[true, true, true, true, true, true, true, true, true, true, true, true, true, false, false, false, false, false] rfl rfl (by kernel_rfl) (by decide) (fun K hK => ?_)
     refine value_ (w1 := ?_) (v := ?_) (by rfl) rfl ?_ ?_
     rotate_left 2
     ·go_simp
      constructor
      ·rfl
      ·rfl
     have hb_ : Below wf.heap.size wf (wf.alloc (.cells #[.string (rdOf ByteArray.empty x7_2 x8_1), .string (Utf8.encode (wrap32 (rd t178 x27_2)))] 9)) := bA_ (Below.refl _ _) _
     replace HO187 := a_ (Kd.R_below HO187.out hb_)
     replace HO_7 := a_ (Kd.R_below HO_7.out hb_)
     replace HO_25 := a_ (BR_below HO_25.out hb_)
     replace BK171 := a_ (kB_ BK171.out hb_)
     replace HB := a_ (bT_ HB.out hb_)
     have BX12 := a_ (blk_new wf (.cells #[.string (rdOf ByteArray.empty x7_2 x8_1), .string (Utf8.encode (wrap32 (rd t178 x27_2)))] 9))
     clear hb_
     refine hK.out _ _ (by obtain ⟨adz, ez, hz⟩ := Kd.at_string (Kd.R_reads' HO_7.out).2.2 x8_1 (of_eq_true p188) (of_eq_true q188); cases ez; exact hz) (fun hHeld => ?_)
     clear hK K
     refine norm_ (a' := ?_) ?_ ?_
     rotate_left
     ·show Act.put _ (some 54) _ = _
      simp only [Act.put, List.setIfInBounds_toArray, List.set_cons_zero, List.set_cons_succ, i64_w, i32_w]
      rfl
     generalize wf.alloc (.cells #[.string (rdOf ByteArray.empty x7_2 x8_1), .string (Utf8.encode (wrap32 (rd t178 x27_2)))] 9) = wg at HO187 HO_7 HO_25 BK171 BX12 HB hHeld ⊢
     refine one_ (i := 13) (N := some 55) #[true, true, true, true, true, true, true, true, true, true, true, true, true, true, false, false, false, false] rfl rfl (by kernel_rfl) (by decide) (fun K hK => ?_)
     refine goes_ Try.func54 (by kernel_rfl) rfl #[.slice (some ⟨wf.heap.size, 0, none⟩) 2 2] (by rfl) rfl rfl (by (try simp only [List.map_toArray, List.map_cons, List.map_nil]); first | done | rfl) ?_
     have hj_ := c_joined.calls k2 (some ⟨wf.heap.size, 0, none⟩) 2 [rdOf ByteArray.empty x7_2 x8_1, Utf8.encode (wrap32 (rd t178 x27_2))] t192 wg (C_blk (d := ByteArray.empty) (h1 := fun _ => rfl) BX12.out _ (by simp) (fun j hj => by rcases j with _ | _ | j <;> first | rfl | (simp at hj <;> omega))) (by simp) (by rw [← Ny189.out]; exact A30.out)
     refine Calls.mono hj_ ?_
     clear hj_
     rintro e wJ ⟨rfl, hb⟩
     refine ⟨_, rfl, ?_⟩
     replace HO187 := a_ (Kd.R_below HO187.out hb)
     replace HO_7 := a_ (Kd.R_below HO_7.out hb)
     replace HO_25 := a_ (BR_below HO_25.out hb)
     replace BK171 := a_ (kB_ BK171.out hb)
     replace HB := a_ (bT_ HB.out hb)
     clear hb BX12
     refine hK.out _ _ (by obtain ⟨adz, ez, hz⟩ := Kd.at_string (Kd.R_reads' HO_7.out).2.2 x8_1 (of_eq_true p188) (of_eq_true q188); cases ez; exact hz) (fun hHeld => ?_)
     clear hK K
     refine norm_ (a' := ?_) ?_ ?_
     rotate_left
     ·show Act.put _ (some 55) _ = _
      simp only [Act.put, List.setIfInBounds_toArray, List.set_cons_zero, List.set_cons_succ, i64_w, i32_w]
      rfl
     refine one_ (i := 14) (N := some 56) #[true, true, true, true, true, true, true, true, true, true, true, true, true, true, true, false, false, false] rfl rfl (by kernel_rfl) (by decide) (fun K hK => ?_)
     refine value_ (w1 := ?_) (v := ?_) (by rfl) rfl ?_ ?_
     rotate_left 2
     ·go_simp
      constructor
      ·rfl
      ·rfl
     have hb_ : Below wJ.heap.size wJ (wJ.alloc (.cells #[.string t192] 9)) := bA_ (Below.refl _ _) _
     replace HO187 := a_ (Kd.R_below HO187.out hb_)
     replace HO_7 := a_ (Kd.R_below HO_7.out hb_)
     replace HO_25 := a_ (BR_below HO_25.out hb_)
     replace BK171 := a_ (kB_ BK171.out hb_)
     replace HB := a_ (bT_ HB.out hb_)
     have BX14 := a_ (blk_new wJ (.cells #[.string t192] 9))
     clear hb_
     refine hK.out _ _ (by obtain ⟨adz, ez, hz⟩ := Kd.at_string (Kd.R_reads' HO_7.out).2.2 x8_1 (of_eq_true p188) (of_eq_true q188); cases ez; exact hz) (fun hHeld => ?_)
     clear hK K
     refine norm_ (a' := ?_) ?_ ?_
     rotate_left
     ·show Act.put _ (some 56) _ = _
      simp only [Act.put, List.setIfInBounds_toArray, List.set_cons_zero, List.set_cons_succ, i64_w, i32_w]
      rfl
     generalize wJ.alloc (.cells #[.string t192] 9) = wK at HO187 HO_7 HO_25 BK171 BX14 HB hHeld ⊢
     refine last_ (i := 15) (N := some 57) #[true, true, true, true, true, true, true, true, true, true, true, true, true, true, true, true, false, false] rfl rfl (by kernel_rfl) (by decide) (fun K hK => ?_)
     refine Kd.R_append_rows_step Kd.string (w0 := w) w.heap.size (by rfl) (.tmp 46) (.tmp 56) 26 9 (.string ⟨#[]⟩) 16 rfl Try.underlying26 info9 rfl (by decide) (by omega) (.slice (some adW) x7_2.length coW) x7_2 [t192] _ _ _ (fun _ => True) (fun _ => False) rfl rfl HO_7.out (C_blk (d := ByteArray.empty) (h1 := fun _ => rfl) BX14.out [t192] (by simp) (fun j hj => by rcases j with _ | j <;> first | rfl | (simp at hj <;> omega))) (fun _ _ h => h) (fun _ h => h.elim) (fun _ _ => trivial) HB.out HB.out.size (by have := LMc31.out; omega) ?_
     intro vB wL ho hb hg hat
     rw [← Ny193.out] at ho
     have n0_ := a_ (Kd.R_over' HO187.out (Kd.R_typed HO_7.out) (by decide) hg)
     have n1_ := a_ (BR_over HO_25.out (Kd.R_typed HO_7.out) (by decide) hg)
     have n2_ := a_ (blk_grown BK171.out hg (Kd.R_ne HO_7.out BK171.out (by decide)))
     have n3_ := a_ hb
     have n4_ := a_ ho
     clear HO187 HO_25 BK171 HB HO_7 BX14
     have HO187 := n0_
     have HO_25 := n1_
     have BK171 := n2_
     have HB := n3_
     have HO195 := n4_
     clear n0_ n1_ n2_ n3_ n4_ ho hb hg hat
     refine hK.out _ _ ?_
     clear hK K hHeld
     refine norm_ (a' := ?_) ?_ ?_
     rotate_left
     ·show Act.put _ (some 57) _ = _
      simp only [Act.put, List.setIfInBounds_toArray, List.set_cons_zero, List.set_cons_succ, i64_w, i32_w]
      rfl
     refine pure_ (i := 16) (N := (some 6)) (v := ?_) (a' := ?_) #[true, true, true, true, true, true, true, true, true, true, true, true, true, true, true, true, true, false] rfl rfl (by kernel_rfl) (fun _ _ _ h => h) (Or.inl ⟨by rfl, ?_⟩) ?_ ?_
     rotate_left
     ·intro w'
      first | (go_simp; with_reducible rfl) | rfl | (go_simp; done)
     rotate_left
     ·first | (simp only [Act.put, List.setIfInBounds_toArray, List.set_cons_zero, List.set_cons_succ, i64_w, i32_w]; rfl) | rfl
     refine pure_ (i := 17) (N := (some 7)) (v := ?_) (a' := ?_) #[true, true, true, true, true, true, true, true, true, true, true, true, true, true, true, true, true, true] rfl rfl (by kernel_rfl) (fun _ _ _ h => h) (Or.inl ⟨by rfl, ?_⟩) ?_ ?_
     rotate_left
     ·intro w'
      first | (go_simp; with_reducible rfl) | rfl | (go_simp; done)
     rotate_left
     ·first | (simp only [Act.put, List.setIfInBounds_toArray, List.set_cons_zero, List.set_cons_succ, i64_w, i32_w]; rfl) | rfl
     refine done_ (by kernel_rfl) ?_
     try go_wp2
     go_roundg k2
     case measure => have := HK1.out; have := HK2.out; omega
     case rel => exact ⟨(y185), (y193), (wrap64 (x27_2 + 1)), (by first | rfl | (simp; done) | (simp [*]; done)), H', ⟨by have := HK1.out; have := HK2.out; omega⟩, ⟨by exact rk HO187.out⟩, ⟨by exact rk (Kd.R_mono HO195.out (fun _ hk => trivial))⟩, ⟨by (with_reducible repeat (first | apply BR_alloc | apply BR_drewN | apply BR_drew)); exact HO_25.out⟩, ⟨by exact bk BK171.out⟩, ⟨by exact gs HB.out⟩⟩
    ·refine value_ (w1 := ?_) (v := ?_) (by rfl) rfl ?_ ?_
     rotate_left 2
     ·go_simp
      constructor
      ·rfl
      ·rfl
     have hb_ : Below we.heap.size we (we.alloc (.cells #[.string (rdOf ByteArray.empty x7_2 x8_1), .string (Utf8.encode (wrap32 (rd t178 x27_2)))] 9)) := bA_ (Below.refl _ _) _
     replace HO_6 := a_ (Kd.R_below HO_6.out hb_)
     replace HO_7 := a_ (Kd.R_below HO_7.out hb_)
     replace HO_25 := a_ (BR_below HO_25.out hb_)
     replace BK171 := a_ (kB_ BK171.out hb_)
     replace BX2 := a_ (kB_ BX2.out hb_)
     replace HB := a_ (bT_ HB.out hb_)
     have BX12 := a_ (blk_new we (.cells #[.string (rdOf ByteArray.empty x7_2 x8_1), .string (Utf8.encode (wrap32 (rd t178 x27_2)))] 9))
     clear hb_
     refine hK.out _ _ (by obtain ⟨adz, ez, hz⟩ := Kd.at_string (Kd.R_reads' HO_7.out).2.2 x8_1 (of_eq_true p188) (of_eq_true q188); cases ez; exact hz) (fun hHeld => ?_)
     clear hK K
     refine norm_ (a' := ?_) ?_ ?_
     rotate_left
     ·show Act.put _ (some 54) _ = _
      simp only [Act.put, List.setIfInBounds_toArray, List.set_cons_zero, List.set_cons_succ, i64_w, i32_w]
      rfl
     generalize we.alloc (.cells #[.string (rdOf ByteArray.empty x7_2 x8_1), .string (Utf8.encode (wrap32 (rd t178 x27_2)))] 9) = wf at HO_6 HO_7 HO_25 BK171 BX2 BX12 HB hHeld ⊢
     refine one_ (i := 3) (N := some 45) #[true, true, true, true, true, true, true, true, true, true, true, true, true, false, false, false, false, false] rfl rfl (by kernel_rfl) (by decide) (fun K hK => ?_)
     refine Kd.R_append_rows_step (Kd.int .i64) (w0 := w) w.heap.size (by rfl) (.tmp 42) (.tmp 44) 22 3 (.int .i64 0) 8 rfl Try.underlying22 info3 rfl (by decide) (by omega) (.slice (some ad182) x6_2.length co33) x6_2 [t183] _ _ _ (fun _ => True) (fun _ => False) rfl rfl HO_6.out (C_blk (d := (0 : Int)) (h1 := fun _ => rfl) BX2.out [t183] (by simp) (fun j hj => by rcases j with _ | j <;> first | rfl | (simp at hj <;> omega))) (fun _ _ h => h) (fun _ h => h.elim) (fun _ _ => trivial) HB.out HB.out.size (by have := LMc28.out; omega) ?_
     intro vA wg ho hb hg hat
     rw [← Ny185.out] at ho
     have n0_ := a_ (Kd.R_over' HO_7.out (Kd.R_typed HO_6.out) (by decide) hg)
     have n1_ := a_ (BR_over HO_25.out (Kd.R_typed HO_6.out) (by decide) hg)
     have n2_ := a_ (blk_grown BK171.out hg (Kd.R_ne HO_6.out BK171.out (by decide)))
     have n3_ := a_ (blk_grown BX12.out hg (Kd.R_ne HO_6.out BX12.out (by decide)))
     have n4_ := a_ hb
     have n5_ := a_ ho
     clear HO_7 HO_25 BK171 BX12 HB HO_6 BX2
     have HO_7 := n0_
     have HO_25 := n1_
     have BK171 := n2_
     have BX12 := n3_
     have HB := n4_
     have HO187 := n5_
     clear n0_ n1_ n2_ n3_ n4_ n5_
     clear ho hb hg hat
     refine hK.out _ _ (by obtain ⟨adz, ez, hz⟩ := Kd.at_string (Kd.R_reads' HO_7.out).2.2 x8_1 (of_eq_true p188) (of_eq_true q188); cases ez; exact hz) (fun hHeld => ?_)
     clear hK K
     refine norm_ (a' := ?_) ?_ ?_
     rotate_left
     ·show Act.put _ (some 45) _ = _
      simp only [Act.put, List.setIfInBounds_toArray, List.set_cons_zero, List.set_cons_succ, i64_w, i32_w]
      rfl
     refine one_ (i := 13) (N := some 55) #[true, true, true, true, true, true, true, true, true, true, true, true, true, true, false, false, false, false] rfl rfl (by kernel_rfl) (by decide) (fun K hK => ?_)
     refine goes_ Try.func54 (by kernel_rfl) rfl #[.slice (some ⟨we.heap.size, 0, none⟩) 2 2] (by rfl) rfl rfl (by (try simp only [List.map_toArray, List.map_cons, List.map_nil]); first | done | rfl) ?_
     have hj_ := c_joined.calls k2 (some ⟨we.heap.size, 0, none⟩) 2 [rdOf ByteArray.empty x7_2 x8_1, Utf8.encode (wrap32 (rd t178 x27_2))] t192 wg (C_blk (d := ByteArray.empty) (h1 := fun _ => rfl) BX12.out _ (by simp) (fun j hj => by rcases j with _ | _ | j <;> first | rfl | (simp at hj <;> omega))) (by simp) (by rw [← Ny189.out]; exact A30.out)
     refine Calls.mono hj_ ?_
     clear hj_
     rintro e wJ ⟨rfl, hb⟩
     refine ⟨_, rfl, ?_⟩
     replace HO187 := a_ (Kd.R_below HO187.out hb)
     replace HO_7 := a_ (Kd.R_below HO_7.out hb)
     replace HO_25 := a_ (BR_below HO_25.out hb)
     replace BK171 := a_ (kB_ BK171.out hb)
     replace HB := a_ (bT_ HB.out hb)
     clear hb BX12
     refine hK.out _ _ (by obtain ⟨adz, ez, hz⟩ := Kd.at_string (Kd.R_reads' HO_7.out).2.2 x8_1 (of_eq_true p188) (of_eq_true q188); cases ez; exact hz) (fun hHeld => ?_)
     clear hK K
     refine norm_ (a' := ?_) ?_ ?_
     rotate_left
     ·show Act.put _ (some 55) _ = _
      simp only [Act.put, List.setIfInBounds_toArray, List.set_cons_zero, List.set_cons_succ, i64_w, i32_w]
      rfl
     refine one_ (i := 14) (N := some 56) #[true, true, true, true, true, true, true, true, true, true, true, true, true, true, true, false, false, false] rfl rfl (by kernel_rfl) (by decide) (fun K hK => ?_)
     refine value_ (w1 := ?_) (v := ?_) (by rfl) rfl ?_ ?_
     rotate_left 2
     ·go_simp
      constructor
      ·rfl
      ·rfl
     have hb_ : Below wJ.heap.size wJ (wJ.alloc (.cells #[.string t192] 9)) := bA_ (Below.refl _ _) _
     replace HO187 := a_ (Kd.R_below HO187.out hb_)
     replace HO_7 := a_ (Kd.R_below HO_7.out hb_)
     replace HO_25 := a_ (BR_below HO_25.out hb_)
     replace BK171 := a_ (kB_ BK171.out hb_)
     replace HB := a_ (bT_ HB.out hb_)
     have BX14 := a_ (blk_new wJ (.cells #[.string t192] 9))
     clear hb_
     refine hK.out _ _ (by obtain ⟨adz, ez, hz⟩ := Kd.at_string (Kd.R_reads' HO_7.out).2.2 x8_1 (of_eq_true p188) (of_eq_true q188); cases ez; exact hz) (fun hHeld => ?_)
     clear hK K
     refine norm_ (a' := ?_) ?_ ?_
     rotate_left
     ·show Act.put _ (some 56) _ = _
      simp only [Act.put, List.setIfInBounds_toArray, List.set_cons_zero, List.set_cons_succ, i64_w, i32_w]
      rfl
     generalize wJ.alloc (.cells #[.string t192] 9) = wK at HO187 HO_7 HO_25 BK171 BX14 HB hHeld ⊢
     refine last_ (i := 15) (N := some 57) #[true, true, true, true, true, true, true, true, true, true, true, true, true, true, true, true, false, false] rfl rfl (by kernel_rfl) (by decide) (fun K hK => ?_)
     refine Kd.R_append_rows_step Kd.string (w0 := w) w.heap.size (by rfl) (.tmp 46) (.tmp 56) 26 9 (.string ⟨#[]⟩) 16 rfl Try.underlying26 info9 rfl (by decide) (by omega) (.slice (some adW) x7_2.length coW) x7_2 [t192] _ _ _ (fun _ => True) (fun _ => False) rfl rfl HO_7.out (C_blk (d := ByteArray.empty) (h1 := fun _ => rfl) BX14.out [t192] (by simp) (fun j hj => by rcases j with _ | j <;> first | rfl | (simp at hj <;> omega))) (fun _ _ h => h) (fun _ h => h.elim) (fun _ _ => trivial) HB.out HB.out.size (by have := LMc31.out; omega) ?_
     intro vB wL ho hb hg hat
     rw [← Ny193.out] at ho
     have n0_ := a_ (Kd.R_over' HO187.out (Kd.R_typed HO_7.out) (by decide) hg)
     have n1_ := a_ (BR_over HO_25.out (Kd.R_typed HO_7.out) (by decide) hg)
     have n2_ := a_ (blk_grown BK171.out hg (Kd.R_ne HO_7.out BK171.out (by decide)))
     have n3_ := a_ hb
     have n4_ := a_ ho
     clear HO187 HO_25 BK171 HB HO_7 BX14
     have HO187 := n0_
     have HO_25 := n1_
     have BK171 := n2_
     have HB := n3_
     have HO195 := n4_
     clear n0_ n1_ n2_ n3_ n4_ ho hb hg hat
     refine hK.out _ _ ?_
     clear hK K hHeld
     refine norm_ (a' := ?_) ?_ ?_
     rotate_left
     ·show Act.put _ (some 57) _ = _
      simp only [Act.put, List.setIfInBounds_toArray, List.set_cons_zero, List.set_cons_succ, i64_w, i32_w]
      rfl
     refine pure_ (i := 16) (N := (some 6)) (v := ?_) (a' := ?_) #[true, true, true, true, true, true, true, true, true, true, true, true, true, true, true, true, true, false] rfl rfl (by kernel_rfl) (fun _ _ _ h => h) (Or.inl ⟨by rfl, ?_⟩) ?_ ?_
     rotate_left
     ·intro w'
      first | (go_simp; with_reducible rfl) | rfl | (go_simp; done)
     rotate_left
     ·first | (simp only [Act.put, List.setIfInBounds_toArray, List.set_cons_zero, List.set_cons_succ, i64_w, i32_w]; rfl) | rfl
     refine pure_ (i := 17) (N := (some 7)) (v := ?_) (a' := ?_) #[true, true, true, true, true, true, true, true, true, true, true, true, true, true, true, true, true, true] rfl rfl (by kernel_rfl) (fun _ _ _ h => h) (Or.inl ⟨by rfl, ?_⟩) ?_ ?_
     rotate_left
     ·intro w'
      first | (go_simp; with_reducible rfl) | rfl | (go_simp; done)
     rotate_left
     ·first | (simp only [Act.put, List.setIfInBounds_toArray, List.set_cons_zero, List.set_cons_succ, i64_w, i32_w]; rfl) | rfl
     refine done_ (by kernel_rfl) ?_
     try go_wp2
     go_roundg k2
     case measure => have := HK1.out; have := HK2.out; omega
     case rel => exact ⟨(y185), (y193), (wrap64 (x27_2 + 1)), (by first | rfl | (simp; done) | (simp [*]; done)), H', ⟨by have := HK1.out; have := HK2.out; omega⟩, ⟨by exact rk HO187.out⟩, ⟨by exact rk (Kd.R_mono HO195.out (fun _ hk => trivial))⟩, ⟨by (with_reducible repeat (first | apply BR_alloc | apply BR_drewN | apply BR_drew)); exact HO_25.out⟩, ⟨by exact bk BK171.out⟩, ⟨by exact gs HB.out⟩⟩
   ·refine value_ (w1 := ?_) (v := ?_) (by rfl) rfl ?_ ?_
    rotate_left 2
    ·go_simp
     constructor
     ·rfl
     ·rfl
    have hb_ : Below wd.heap.size wd (wd.alloc (.cells #[.string (rdOf ByteArray.empty x7_2 x8_1), .string (Utf8.encode (wrap32 (rd t178 x27_2)))] 9)) := bA_ (Below.refl _ _) _
    replace HO_6 := a_ (Kd.R_below HO_6.out hb_)
    replace HO_7 := a_ (Kd.R_below HO_7.out hb_)
    replace HO_25 := a_ (BR_below HO_25.out hb_)
    replace BK171 := a_ (kB_ BK171.out hb_)
    replace HB := a_ (bT_ HB.out hb_)
    have BX12 := a_ (blk_new wd (.cells #[.string (rdOf ByteArray.empty x7_2 x8_1), .string (Utf8.encode (wrap32 (rd t178 x27_2)))] 9))
    clear hb_
    refine hK.out _ _ (by obtain ⟨adz, ez, hz⟩ := Kd.at_string (Kd.R_reads' HO_7.out).2.2 x8_1 (of_eq_true p188) (of_eq_true q188); cases ez; exact hz) (fun hHeld => ?_)
    clear hK K
    refine norm_ (a' := ?_) ?_ ?_
    rotate_left
    ·show Act.put _ (some 54) _ = _
     simp only [Act.put, List.setIfInBounds_toArray, List.set_cons_zero, List.set_cons_succ, i64_w, i32_w]
     rfl
    generalize wd.alloc (.cells #[.string (rdOf ByteArray.empty x7_2 x8_1), .string (Utf8.encode (wrap32 (rd t178 x27_2)))] 9) = we at HO_6 HO_7 HO_25 BK171 BX12 HB hHeld ⊢
    refine one_ (i := 2) (N := some 44) #[true, true, true, false, true, true, true, true, true, true, true, true, true, false, false, false, false, false] rfl rfl (by kernel_rfl) (by decide) (fun K hK => ?_)
    refine value_ (w1 := ?_) (v := ?_) (by rfl) rfl ?_ ?_
    rotate_left 2
    ·go_simp
     constructor
     ·rfl
     ·rfl
    have hb_ : Below we.heap.size we (we.alloc (.cells #[.int .i64 t183] 3)) := bA_ (Below.refl _ _) _
    replace HO_6 := a_ (Kd.R_below HO_6.out hb_)
    replace HO_7 := a_ (Kd.R_below HO_7.out hb_)
    replace HO_25 := a_ (BR_below HO_25.out hb_)
    replace BK171 := a_ (kB_ BK171.out hb_)
    replace BX12 := a_ (kB_ BX12.out hb_)
    replace HB := a_ (bT_ HB.out hb_)
    have BX2 := a_ (blk_new we (.cells #[.int .i64 t183] 3))
    clear hb_
    refine hK.out _ _ (by obtain ⟨adz, ez, hz⟩ := Kd.at_string (Kd.R_reads' HO_7.out).2.2 x8_1 (of_eq_true p188) (of_eq_true q188); cases ez; exact hz) (fun hHeld => ?_)
    clear hK K
    refine norm_ (a' := ?_) ?_ ?_
    rotate_left
    ·show Act.put _ (some 44) _ = _
     simp only [Act.put, List.setIfInBounds_toArray, List.set_cons_zero, List.set_cons_succ, i64_w, i32_w]
     rfl
    generalize we.alloc (.cells #[.int .i64 t183] 3) = wf at HO_6 HO_7 HO_25 BK171 BX12 BX2 HB hHeld ⊢
    refine one_ (i := 3) (N := some 45) #[true, true, true, true, true, true, true, true, true, true, true, true, true, false, false, false, false, false] rfl rfl (by kernel_rfl) (by decide) (fun K hK => ?_)
    refine Kd.R_append_rows_step (Kd.int .i64) (w0 := w) w.heap.size (by rfl) (.tmp 42) (.tmp 44) 22 3 (.int .i64 0) 8 rfl Try.underlying22 info3 rfl (by decide) (by omega) (.slice (some ad182) x6_2.length co33) x6_2 [t183] _ _ _ (fun _ => True) (fun _ => False) rfl rfl HO_6.out (C_blk (d := (0 : Int)) (h1 := fun _ => rfl) BX2.out [t183] (by simp) (fun j hj => by rcases j with _ | j <;> first | rfl | (simp at hj <;> omega))) (fun _ _ h => h) (fun _ h => h.elim) (fun _ _ => trivial) HB.out HB.out.size (by have := LMc28.out; omega) ?_
    intro vA wg ho hb hg hat
    rw [← Ny185.out] at ho
    have n0_ := a_ (Kd.R_over' HO_7.out (Kd.R_typed HO_6.out) (by decide) hg)
    have n1_ := a_ (BR_over HO_25.out (Kd.R_typed HO_6.out) (by decide) hg)
    have n2_ := a_ (blk_grown BK171.out hg (Kd.R_ne HO_6.out BK171.out (by decide)))
    have n3_ := a_ (blk_grown BX12.out hg (Kd.R_ne HO_6.out BX12.out (by decide)))
    have n4_ := a_ hb
    have n5_ := a_ ho
    clear HO_7 HO_25 BK171 BX12 HB HO_6 BX2
    have HO_7 := n0_
    have HO_25 := n1_
    have BK171 := n2_
    have BX12 := n3_
    have HB := n4_
    have HO187 := n5_
    clear n0_ n1_ n2_ n3_ n4_ n5_
    clear ho hb hg hat
    refine hK.out _ _ (by obtain ⟨adz, ez, hz⟩ := Kd.at_string (Kd.R_reads' HO_7.out).2.2 x8_1 (of_eq_true p188) (of_eq_true q188); cases ez; exact hz) (fun hHeld => ?_)
    clear hK K
    refine norm_ (a' := ?_) ?_ ?_
    rotate_left
    ·show Act.put _ (some 45) _ = _
     simp only [Act.put, List.setIfInBounds_toArray, List.set_cons_zero, List.set_cons_succ, i64_w, i32_w]
     rfl
    refine one_ (i := 13) (N := some 55) #[true, true, true, true, true, true, true, true, true, true, true, true, true, true, false, false, false, false] rfl rfl (by kernel_rfl) (by decide) (fun K hK => ?_)
    refine goes_ Try.func54 (by kernel_rfl) rfl #[.slice (some ⟨wd.heap.size, 0, none⟩) 2 2] (by rfl) rfl rfl (by (try simp only [List.map_toArray, List.map_cons, List.map_nil]); first | done | rfl) ?_
    have hj_ := c_joined.calls k2 (some ⟨wd.heap.size, 0, none⟩) 2 [rdOf ByteArray.empty x7_2 x8_1, Utf8.encode (wrap32 (rd t178 x27_2))] t192 wg (C_blk (d := ByteArray.empty) (h1 := fun _ => rfl) BX12.out _ (by simp) (fun j hj => by rcases j with _ | _ | j <;> first | rfl | (simp at hj <;> omega))) (by simp) (by rw [← Ny189.out]; exact A30.out)
    refine Calls.mono hj_ ?_
    clear hj_
    rintro e wJ ⟨rfl, hb⟩
    refine ⟨_, rfl, ?_⟩
    replace HO187 := a_ (Kd.R_below HO187.out hb)
    replace HO_7 := a_ (Kd.R_below HO_7.out hb)
    replace HO_25 := a_ (BR_below HO_25.out hb)
    replace BK171 := a_ (kB_ BK171.out hb)
    replace HB := a_ (bT_ HB.out hb)
    clear hb BX12
    refine hK.out _ _ (by obtain ⟨adz, ez, hz⟩ := Kd.at_string (Kd.R_reads' HO_7.out).2.2 x8_1 (of_eq_true p188) (of_eq_true q188); cases ez; exact hz) (fun hHeld => ?_)
    clear hK K
    refine norm_ (a' := ?_) ?_ ?_
    rotate_left
    ·show Act.put _ (some 55) _ = _
     simp only [Act.put, List.setIfInBounds_toArray, List.set_cons_zero, List.set_cons_succ, i64_w, i32_w]
     rfl
    refine one_ (i := 14) (N := some 56) #[true, true, true, true, true, true, true, true, true, true, true, true, true, true, true, false, false, false] rfl rfl (by kernel_rfl) (by decide) (fun K hK => ?_)
    refine value_ (w1 := ?_) (v := ?_) (by rfl) rfl ?_ ?_
    rotate_left 2
    ·go_simp
     constructor
     ·rfl
     ·rfl
    have hb_ : Below wJ.heap.size wJ (wJ.alloc (.cells #[.string t192] 9)) := bA_ (Below.refl _ _) _
    replace HO187 := a_ (Kd.R_below HO187.out hb_)
    replace HO_7 := a_ (Kd.R_below HO_7.out hb_)
    replace HO_25 := a_ (BR_below HO_25.out hb_)
    replace BK171 := a_ (kB_ BK171.out hb_)
    replace HB := a_ (bT_ HB.out hb_)
    have BX14 := a_ (blk_new wJ (.cells #[.string t192] 9))
    clear hb_
    refine hK.out _ _ (by obtain ⟨adz, ez, hz⟩ := Kd.at_string (Kd.R_reads' HO_7.out).2.2 x8_1 (of_eq_true p188) (of_eq_true q188); cases ez; exact hz) (fun hHeld => ?_)
    clear hK K
    refine norm_ (a' := ?_) ?_ ?_
    rotate_left
    ·show Act.put _ (some 56) _ = _
     simp only [Act.put, List.setIfInBounds_toArray, List.set_cons_zero, List.set_cons_succ, i64_w, i32_w]
     rfl
    generalize wJ.alloc (.cells #[.string t192] 9) = wK at HO187 HO_7 HO_25 BK171 BX14 HB hHeld ⊢
    refine last_ (i := 15) (N := some 57) #[true, true, true, true, true, true, true, true, true, true, true, true, true, true, true, true, false, false] rfl rfl (by kernel_rfl) (by decide) (fun K hK => ?_)
    refine Kd.R_append_rows_step Kd.string (w0 := w) w.heap.size (by rfl) (.tmp 46) (.tmp 56) 26 9 (.string ⟨#[]⟩) 16 rfl Try.underlying26 info9 rfl (by decide) (by omega) (.slice (some adW) x7_2.length coW) x7_2 [t192] _ _ _ (fun _ => True) (fun _ => False) rfl rfl HO_7.out (C_blk (d := ByteArray.empty) (h1 := fun _ => rfl) BX14.out [t192] (by simp) (fun j hj => by rcases j with _ | j <;> first | rfl | (simp at hj <;> omega))) (fun _ _ h => h) (fun _ h => h.elim) (fun _ _ => trivial) HB.out HB.out.size (by have := LMc31.out; omega) ?_
    intro vB wL ho hb hg hat
    rw [← Ny193.out] at ho
    have n0_ := a_ (Kd.R_over' HO187.out (Kd.R_typed HO_7.out) (by decide) hg)
    have n1_ := a_ (BR_over HO_25.out (Kd.R_typed HO_7.out) (by decide) hg)
    have n2_ := a_ (blk_grown BK171.out hg (Kd.R_ne HO_7.out BK171.out (by decide)))
    have n3_ := a_ hb
    have n4_ := a_ ho
    clear HO187 HO_25 BK171 HB HO_7 BX14
    have HO187 := n0_
    have HO_25 := n1_
    have BK171 := n2_
    have HB := n3_
    have HO195 := n4_
    clear n0_ n1_ n2_ n3_ n4_ ho hb hg hat
    refine hK.out _ _ ?_
    clear hK K hHeld
    refine norm_ (a' := ?_) ?_ ?_
    rotate_left
    ·show Act.put _ (some 57) _ = _
     simp only [Act.put, List.setIfInBounds_toArray, List.set_cons_zero, List.set_cons_succ, i64_w, i32_w]
     rfl
    refine pure_ (i := 16) (N := (some 6)) (v := ?_) (a' := ?_) #[true, true, true, true, true, true, true, true, true, true, true, true, true, true, true, true, true, false] rfl rfl (by kernel_rfl) (fun _ _ _ h => h) (Or.inl ⟨by rfl, ?_⟩) ?_ ?_
    rotate_left
    ·intro w'
     first | (go_simp; with_reducible rfl) | rfl | (go_simp; done)
    rotate_left
    ·first | (simp only [Act.put, List.setIfInBounds_toArray, List.set_cons_zero, List.set_cons_succ, i64_w, i32_w]; rfl) | rfl
    refine pure_ (i := 17) (N := (some 7)) (v := ?_) (a' := ?_) #[true, true, true, true, true, true, true, true, true, true, true, true, true, true, true, true, true, true] rfl rfl (by kernel_rfl) (fun _ _ _ h => h) (Or.inl ⟨by rfl, ?_⟩) ?_ ?_
    rotate_left
    ·intro w'
     first | (go_simp; with_reducible rfl) | rfl | (go_simp; done)
    rotate_left
    ·first | (simp only [Act.put, List.setIfInBounds_toArray, List.set_cons_zero, List.set_cons_succ, i64_w, i32_w]; rfl) | rfl
    refine done_ (by kernel_rfl) ?_
    try go_wp2
    go_roundg k2
    case measure => have := HK1.out; have := HK2.out; omega
    case rel => exact ⟨(y185), (y193), (wrap64 (x27_2 + 1)), (by first | rfl | (simp; done) | (simp [*]; done)), H', ⟨by have := HK1.out; have := HK2.out; omega⟩, ⟨by exact rk HO187.out⟩, ⟨by exact rk (Kd.R_mono HO195.out (fun _ hk => trivial))⟩, ⟨by (with_reducible repeat (first | apply BR_alloc | apply BR_drewN | apply BR_drew)); exact HO_25.out⟩, ⟨by exact bk BK171.out⟩, ⟨by exact gs HB.out⟩⟩
end Go.Proofs.Ytifkldehbaphgaa.PAll
end
