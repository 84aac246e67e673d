/- The law CasingBack returns true for every input: a table that is numbered anew from a sheet, and again from the place of the sheet 0, is the table; and both are alike. No condition. Part 2 of 3. -/
import Derived.Test.YtifkldehbaphgaaCCasingBack0
set_option linter.all false
set_option maxHeartbeats 8000000
set_option maxRecDepth 100000
section
namespace Go.Proofs.Ytifkldehbaphgaa.PAll
open Go.RowKit Go.PW.PrintWords Go.PW.PrintLast Go.PW.PrintMore
attribute [local go_sem] max2_int max_two
theorem info75 : (Try.prog.info? 75).map (fun i => (i.zero, i.size, i.bytes)) = some (some (.agg #[(.int .i64 0), (.int .i64 0), (.int .i64 0), (.int .i64 0), (.int .i64 0)]), 5, 40) := by kernel_rfl
def colU (c : S75) : List Int := [c.f0, c.f1, c.f2, c.f3, c.f4]
def encS (c : S75) : Value := encU (colU c)
theorem encS_mem {c : S75} {xs : List S75} : encS c ∈ xs.map encS ↔ colU c ∈ xs.map colU := by
 have e : xs.map encS = (xs.map colU).map encU := by rw [List.map_map]; rfl
 rw [e]
 exact encU_mem
def hasC (xs : List S75) (a b c d e : Int) : Option Bool := if goodU 5 [a, b, c, d, e] then some (decide ([a, b, c, d, e] ∈ xs.map colU)) else none
theorem hasC_good {xs : List S75} {a b c d e : Int} {r : Bool} (h : hasC xs a b c d e = some r) : goodU 5 [a, b, c, d, e] ∧ (r = true ↔ [a, b, c, d, e] ∈ xs.map colU) := by
 unfold hasC at h
 by_cases hg : goodU 5 [a, b, c, d, e]
 ·rw [if_pos hg] at h
  have := Option.some.inj h
  exact ⟨hg, by rw [← this, decide_eq_true_eq]⟩
 ·rw [if_neg hg] at h; cases h
theorem identity_up {k : Nat} {v : Int × Int × Int × Int × Int} (h : c_identity.f k = some v) : ∀ n : Nat, c_identity.f (k + n) = some v
 | 0 => h
 | n + 1 => c_identity.mono (k + n) _ (identity_up h n)
theorem identity_val {k : Nat} {v : Int × Int × Int × Int × Int} (h : c_identity.f k = some v) : v = (0, 1, 2, 3, 4) := by
 have h1 := identity_up h 20
 have h2 := identity_up (show c_identity.f 20 = some (0, 1, 2, 3, 4) from by kernel_rfl) k
 rw [Nat.add_comm] at h2
 exact Option.some.inj (h1.symm.trans h2)
theorem identity_good {k : Nat} {a b c d e : Int} (h : c_identity.f k = some (a, b, c, d, e)) : goodU 5 [a, b, c, d, e] := by
 have := identity_val h
 simp only [Prod.mk.injEq] at this
 obtain ⟨rfl, rfl, rfl, rfl, rfl⟩ := this
 exact ⟨rfl, by decide⟩
namespace Km
def R (d : Kd S75) (e : Nat) (W : World) (base : Nat) (ok : Nat → Prop) (v : Value) (xs : List S75) : Prop := ∃ gm, v = .map (some gm) ∧ base ≤ gm ∧ ok gm ∧ Go.KeySet.is W gm (xs.map encS) ∧ ∀ x ∈ xs, goodU 5 (colU x)
variable {d : Kd S75} {e base : Nat} {w w1 : World} {ok ok' : Nat → Prop} {u v v1 : Value} {xs : List S75}
theorem R_step (h : R d e w base ok v xs) (hm : ∀ k, ok k → k < w.heap.size → w1.heap[k]? = w.heap[k]?) : R d e w1 base ok v xs := by
 obtain ⟨gm, rfl, hb, ho, hi, hg⟩ := h
 exact ⟨gm, rfl, hb, ho, Go.KeySet.of_block hi (hm gm ho (Go.KeySet.lt hi)), hg⟩
theorem R_mono (h : R d e w base ok v xs) (hok : ∀ k, ok k → ok' k) : R d e w base ok' v xs := by
 obtain ⟨gm, rfl, hb, ho, hi, hg⟩ := h
 exact ⟨gm, rfl, hb, hok _ ho, hi, hg⟩
theorem R_below (h : R d e w base ok v xs) (hb : Below w.heap.size w w1) : R d e w1 base ok v xs := R_step h (fun k _ hk => hb.block k hk)
theorem R_drew (h : R d e w base ok v xs) : R d e w.drew base ok v xs := R_step h (fun _ _ _ => rfl)
theorem R_drewN (h : R d e w base ok v xs) (n : Nat) : R d e (w.drewN n) base ok v xs := R_step h (fun _ _ _ => rfl)
theorem R_alloc (h : R d e w base ok v xs) (o : Obj) : R d e (w.alloc o) base ok v xs := R_step h (fun k _ hk => Below.heap_alloc w o k hk)
theorem R_far (h : R d e w base ok v xs) {p : Addr} (hok : ∀ k, ok k → k ≠ p.block) (u : Value) : R d e (w.setCell p u) base ok v xs := R_step h (fun k ho _ => Below.heap_setCell w p u k (hok k ho))
theorem R_elder' (h : R d e w base ok u xs) (hbase : ∀ k, v.ownBlock = some k → w.heap.size ≤ k) (hb : Below w.heap.size w w1) : R d e w1 base (fun k => ok k ∧ some k ≠ v.ownBlock) u xs := by
 obtain ⟨gm, rfl, h1, ho, hi, hg⟩ := R_below h hb
 obtain ⟨gm', e', _, _, hi', _⟩ := h
 injection e' with e'
 injection e' with e'
 subst e'
 exact ⟨gm, rfl, h1, ⟨ho, fun he => by have := hbase gm he.symm; have := Go.KeySet.lt hi'; omega⟩, hi, hg⟩
theorem R_elderB (h : R d e w base ok v xs) (a : Nat) (ha : w.heap.size ≤ a) : R d e w base (fun k => ok k ∧ k ≠ a) v xs := by
 obtain ⟨gm, rfl, hb, ho, hi, hg⟩ := h
 exact ⟨gm, rfl, hb, ⟨ho, by have := Go.KeySet.lt hi; omega⟩, hi, hg⟩
theorem R_lt (h : R d e w base ok v xs) : ∀ k, v.ownBlock = some k → k < w.heap.size := by
 obtain ⟨gm, rfl, _⟩ := h
 intro k hk
 cases hk
theorem R_after (h : R d e w base (fun k => ok k ∧ some k ≠ v.ownBlock) u xs) (hg : w.grownBy w1 v.ownBlock) (hat : v1.ownBlock = v.ownBlock ∨ ∃ b, v1.ownBlock = some b ∧ w.heap.size ≤ b) : R d e w1 base (fun k => ok k ∧ some k ≠ v1.ownBlock) u xs := by
 obtain ⟨gm, rfl, hb, ho, hi, hgd⟩ := h
 refine ⟨gm, rfl, hb, ⟨ho.1, ?_⟩, Go.KeySet.kept hi hg ho.2, hgd⟩
 rcases hat with e1 | ⟨b, e1, hb2⟩
 ·rw [e1]; exact ho.2
 ·rw [e1]
  intro he
  have := Go.KeySet.lt hi
  injection he with he
  omega
theorem R_xs {c : S75} {y : List S75} (h : R d e w base ok v ([] ++ [c])) (e' : y = [c]) : R d e w base ok v y := by subst e'; exact h
theorem made {X w9 w : World} (n : Nat) (hb : Below (X.alloc (.map #[] 0)).heap.size (X.alloc (.map #[] 0)) w9) (hB : Below w.heap.size w X) (hn : n = X.heap.size) : R d e w9 w.heap.size (fun _ => True) (.map (some n)) [] := by
 subst hn
 exact ⟨_, rfl, hB.size, trivial, Go.KeySet.is_below (Go.KeySet.made X) hb, by simp⟩
theorem keep_cells {gm g : Nat} {L : List Value} {cs : Array Value} {t : TypeId} {z : Nat × Nat} (hi : Go.KeySet.is w gm L) (hg : w.grownBy w1 (some gm)) (hb : w.heap[g]? = some (.cells cs t z)) : w1.heap[g]? = some (.cells cs t z) := by
 refine (hg.block g (blk_lt hb) ?_).trans hb
 intro he
 injection he with he
 subst he
 obtain ⟨es, ck, hm, _⟩ := hi
 rw [hm] at hb
 cases hb
theorem keep_R {gm e2 b2 : Nat} {d2 : Kd S75} {L : List Value} (hi : Go.KeySet.is w gm L) (hg : w.grownBy w1 (some gm)) (h : Kd.R d2 e2 w b2 ok v xs) : Kd.R d2 e2 w1 b2 ok v xs := by
 refine Kd.R_mono (Kd.R_move (Kd.R_bound h) (fun k hk => ?_)) (fun _ hk => hk.1)
 obtain ⟨_, _, _, q, _, cells, hc⟩ := hk
 exact (keep_cells hi hg hc).trans hc.symm
section
variable {ops : Array Oper} {rest : List Oper} {o : Oper} {a : Act} {Q : Exit → Act → World → Prop}
theorem put (h : R d e w base ok v xs) (c : S75) (hgood : goodU 5 (colU c)) (hnew : colU c ∉ xs.map colU) {gm : Nat} (hv : v = .map (some gm)) {w' : World} (h2 : encS c ∉ xs.map encS → Go.KeySet.is w' gm (xs.map encS ++ [encS c])) : R d e w' base ok v (xs ++ [c]) := by
 obtain ⟨gm', rfl, hb, ho, _, hg⟩ := h
 injection hv with hv
 injection hv with hv
 subst hv
 refine ⟨gm', rfl, hb, ho, by rw [List.map_append]; exact h2 (fun hm => hnew (encS_mem.1 hm)), ?_⟩
 intro x hx
 rcases List.mem_append.1 hx with hx | hx
 ·exact hg x hx
 ·rw [List.mem_singleton.1 hx]; exact hgood
theorem keysok (h : R d e w base ok v xs) : ∀ y ∈ xs.map encS, ∃ l, keyOf Try.prog 75 y = some l := by
 obtain ⟨gm, rfl, _, _, _, hg⟩ := h
 intro y hy
 obtain ⟨x, hx, rfl⟩ := List.mem_map.1 hy
 exact key95 (hg x hx)
theorem wp_store (h : R d e w base ok v xs) (hgd : o.guard = none) (m x y : Operand) (hop : o.op = .mapUpdate 113 m x y) (hm : a.eval m = v) (c : S75) (hx : a.eval x = encS c) (hy : a.eval y = .bool true) (hgood : goodU 5 (colU c)) (hnew : colU c ∉ xs.map colU)
  (hK : ∀ w' gm, Go.KeySet.is w gm (xs.map encS) → w.grownBy w' (some gm) → base ≤ gm → R d e w' base ok v (xs ++ [c]) → wpList Try.prog ops Q rest (a.put o.dst undef) w') : wpList Try.prog ops Q (o :: rest) a w := by
 have h' := h
 obtain ⟨gm, rfl, hb, ho, hi, hg⟩ := h
 refine Go.KeySet.wp_store hgd m x y 113 hop 75 4 keyed95 Try.underlying113 gm (xs.map encS) hm hi (keysok h') (encS c) hx hy (key95 hgood) ?_
 intro w' hgr _ h2
 exact hK w' gm hi hgr hb (put h' c hgood hnew rfl h2)
theorem wp_insert (h : R d e w base ok v xs) (hgd : o.guard = none) (m x y : Operand) (hop : o.op = .insert 113 m x y) (hm : a.eval m = v) (c : S75) (hx : a.eval x = encS c) (hy : a.eval y = .bool true) (hgood : goodU 5 (colU c)) (hnew : colU c ∉ xs.map colU)
  (hK : ∀ w' gm, Go.KeySet.is w gm (xs.map encS) → w.grownBy w' (some gm) → base ≤ gm → R d e w' base ok v (xs ++ [c]) → wpList Try.prog ops Q rest (a.put o.dst undef) w') : wpList Try.prog ops Q (o :: rest) a w := by
 have h' := h
 obtain ⟨gm, rfl, hb, ho, hi, hg⟩ := h
 refine Go.KeySet.wp_insert hgd m x y 113 hop 75 4 keyed95 Try.underlying113 gm (xs.map encS) hm hi (keysok h') (encS c) hx hy (key95 hgood) ?_
 intro w' hgr _ h2
 exact hK w' gm hi hgr hb (put h' c hgood hnew rfl h2)
theorem wp_look (h : R d e w base ok v xs) (hgd : o.guard = none) (m x : Operand) (hop : o.op = .lookup 113 m x false) (hm : a.eval m = v) (c : S75) (hx : a.eval x = encS c) (hgood : goodU 5 (colU c)) (b : Bool) (hb : b = true ↔ colU c ∈ xs.map colU)
  (hK : ∀ w', Below w.heap.size w w' → wpList Try.prog ops Q rest (a.put o.dst (.bool b)) w') : wpList Try.prog ops Q (o :: rest) a w := by
 have h' := h
 obtain ⟨gm, rfl, _, ho, hi, hg⟩ := h
 exact Go.KeySet.wp_look hgd m x 113 hop 75 4 keyed95 Try.underlying113 (by kernel_rfl) gm (xs.map encS) hm hi (keysok h') (encS c) hx (key95 hgood) b (hb.trans encS_mem.symm) (hK w (Below.refl _ _))
end
end Km
mutual
def c_Order.l0 : Nat → List (S75) → List (S75) → Int → Int → Int → Int → Int → Int → Int → Int → Int → Int → Int → Int → Int → Option (Int × Int)
 | 0, _, _, _, _, _, _, _, _, _, _, _, _, _, _, _ => none
 | k + 1, x6, x7, x8, Xa0, Xa1, Xa2, Xa3, Xa4, Xa5, Xa6, Xa7, Xa8, Xa9, Xa10, Xa11 => if x8 < (x7.length : Int) then (c_Order.l1 k x6 x7 x8 Xa0 0 Xa0 Xa1 Xa2 Xa3 Xa4 Xa5 Xa6 Xa7 Xa8 Xa9 Xa10 Xa11) else (some ((x7.length : Int), 0))
def c_Order.l1 : Nat → List (S75) → List (S75) → Int → Int → Int → Int → Int → Int → Int → Int → Int → Int → Int → Int → Int → Int → Int → Option (Int × Int)
 | 0, _, _, _, _, _, _, _, _, _, _, _, _, _, _, _, _, _ => none
 | k + 1, x6, x7, x8, x30, x31, Xa0, Xa1, Xa2, Xa3, Xa4, Xa5, Xa6, Xa7, Xa8, Xa9, Xa10, Xa11 => if x31 < x30 then ((c_table_full.f k Xa0 Xa1 Xa2 Xa3 Xa4 Xa5 Xa6 Xa7 Xa8 Xa9 Xa10 Xa11 x31).bind fun bt242 => (if 0 ≤ x8 then (if x8 < (x7.length : Int) then ((c_column_after.f k bt242.1 bt242.2.1 bt242.2.2.1 bt242.2.2.2.1 bt242.2.2.2.2 ((rd_T75 x7 x8).f0) ((rd_T75 x7 x8).f1) ((rd_T75 x7 x8).f2) ((rd_T75 x7 x8).f3) ((rd_T75 x7 x8).f4)).bind fun bt248 => ((hasC x6 bt248.1 bt248.2.1 bt248.2.2.1 bt248.2.2.2.1 bt248.2.2.2.2).bind fun t254 => (if t254 = true then (c_Order.j2 k x6 x7 x8 x30 x31 Xa0 Xa1 Xa2 Xa3 Xa4 Xa5 Xa6 Xa7 Xa8 Xa9 Xa10 Xa11) else (if x6.length < 3518437208883 then (if x7.length < 3518437208883 then (c_Order.j2 k (x6 ++ [(⟨bt248.1, bt248.2.1, bt248.2.2.1, bt248.2.2.2.1, bt248.2.2.2.2⟩ : S75)]) (x7 ++ [(⟨bt248.1, bt248.2.1, bt248.2.2.1, bt248.2.2.2.1, bt248.2.2.2.2⟩ : S75)]) x8 x30 x31 Xa0 Xa1 Xa2 Xa3 Xa4 Xa5 Xa6 Xa7 Xa8 Xa9 Xa10 Xa11) else (none)) else (none))))) else (none)) else (none))) else (c_Order.l0 k x6 x7 (wrap64 (x8 + 1)) Xa0 Xa1 Xa2 Xa3 Xa4 Xa5 Xa6 Xa7 Xa8 Xa9 Xa10 Xa11)
def c_Order.j2 : Nat → List (S75) → List (S75) → Int → Int → Int → Int → Int → Int → Int → Int → Int → Int → Int → Int → Int → Int → Int → Option (Int × Int)
 | 0, _, _, _, _, _, _, _, _, _, _, _, _, _, _, _, _, _ => none
 | k + 1, x6, x7, x8, x30, x31, Xa0, Xa1, Xa2, Xa3, Xa4, Xa5, Xa6, Xa7, Xa8, Xa9, Xa10, Xa11 => c_Order.l1 k x6 x7 x8 x30 (wrap64 (x31 + 1)) Xa0 Xa1 Xa2 Xa3 Xa4 Xa5 Xa6 Xa7 Xa8 Xa9 Xa10 Xa11
end
def c_Order.f (k : Nat) (l0 : List (List Int)) : Option (Int × Int) := (c_newTable.f k l0).bind fun bt212 => (if bt212.2.2.2.2.2.2.2.2.2.2.2.2 = true then ((c_identity.f k).bind fun bt226 => ((c_identity.f k).bind fun bt234 => (c_Order.l0 k (([(⟨bt226.1, bt226.2.1, bt226.2.2.1, bt226.2.2.2.1, bt226.2.2.2.2⟩ : S75)] : List (S75))) (([(⟨bt234.1, bt234.2.1, bt234.2.2.1, bt234.2.2.2.1, bt234.2.2.2.2⟩ : S75)] : List (S75))) 0 bt212.1 bt212.2.1 bt212.2.2.1 bt212.2.2.2.1 bt212.2.2.2.2.1 bt212.2.2.2.2.2.1 bt212.2.2.2.2.2.2.1 bt212.2.2.2.2.2.2.2.1 bt212.2.2.2.2.2.2.2.2.1 bt212.2.2.2.2.2.2.2.2.2.1 bt212.2.2.2.2.2.2.2.2.2.2.1 bt212.2.2.2.2.2.2.2.2.2.2.2.1))) else (some (0, 2)))
def c_Order.T12 : Bool × List (List Nat × List Nat) := (true, [([], []), ([], []), ([0, 1], [0, 1]), ([], []), ([], []), ([3, 4], [3, 4]), ([5], [5]), ([2, 6, 2], [2, 6]), ([], []), ([8, 7, 7, 0, 1, 2, 3, 4, 5, 6, 7, 8], [7, 8])])
def c_Order.B12 : List Nat := [0, 0, 3, 0, 0, 24, 56, 127, 0, 511]
theorem c_Order.tab12 : rtab .any (opsOf Try.f46 12) = c_Order.T12 := by kernel_rfl
theorem c_Order.bits12 : waitsOk c_Order.T12.2 c_Order.B12 = true := by kernel_rfl
theorem c_Order.calls (k : Nat) (A0 : Option Addr) (c0 : Nat) (l0 : List (List Int)) (r1 : Int) (r2 : Int) (w : World) (hr0 : Kd.C (Kd.slice 3 (Kd.int .i64)) w A0 l0.length l0) (hc0 : l0.length ≤ c0) (h : c_Order.f k l0 = some (r1, r2)) :
  Calls Try.prog 46 #[.slice A0 l0.length c0] w fun e w' => e = .returned (.tuple #[.int .i64 r1, .int .i64 r2]) ∧ Below w.heap.size w w' := by
 have hmm := @run_makeMap Try.prog
 have hu78 := Try.underlying78
 have hu75 := Try.underlying75
 have HR0 := a_ hr0
 have HC0 := a_ hc0
 clear hr0 hc0
 have HB := a_ (Below.refl w.heap.size w)
 have H : ((c_newTable.f k l0).bind fun bt212 => (if bt212.2.2.2.2.2.2.2.2.2.2.2.2 = true then ((c_identity.f k).bind fun bt226 => ((c_identity.f k).bind fun bt234 => (c_Order.l0 k (([(⟨bt226.1, bt226.2.1, bt226.2.2.1, bt226.2.2.2.1, bt226.2.2.2.2⟩ : S75)] : List (S75))) (([(⟨bt234.1, bt234.2.1, bt234.2.2.1, bt234.2.2.2.1, bt234.2.2.2.2⟩ : S75)] : List (S75))) 0 bt212.1 bt212.2.1 bt212.2.2.1 bt212.2.2.2.1 bt212.2.2.2.2.1 bt212.2.2.2.2.2.1 bt212.2.2.2.2.2.2.1 bt212.2.2.2.2.2.2.2.1 bt212.2.2.2.2.2.2.2.2.1 bt212.2.2.2.2.2.2.2.2.2.1 bt212.2.2.2.2.2.2.2.2.2.2.1 bt212.2.2.2.2.2.2.2.2.2.2.2.1))) else (some (0, 2)))) = some (r1, r2) := h
 clear h
 replace H := Option.bind_eq_some_iff.mp H
 obtain ⟨⟨t212, t213, t214, t215, t216, t217, t218, t219, t220, t221, t222, t223, t224⟩, A20, H⟩ := H
 try dsimp only at H
 have A2 := a_ A20
 clear A20
 by_cases c3 : t224 = true
 rotate_left
 ·replace c3 := Bool.eq_false_iff.mpr c3
  subst c3
  have H1 := H; rw [if_neg (show ¬ (false = true) by decide)] at H1
  clear H
  have H := H1
  clear H1
  simp only [Option.some.injEq, Prod.mk.injEq] at H
  obtain ⟨rfl, rfl⟩ := H
  go_enter Try.func46, Try.ntmps46
  go_wp2_with (first | ((with_reducible refine gate_callee (f := 51) rfl ?_); refine goesL_ (some 13) rfl rfl Try.func51 (by kernel_rfl) rfl #[.slice A0 l0.length c0] rfl (by (try simp only [List.map_toArray, List.map_cons, List.map_nil]); first | done | rfl | (simp only [List.length_drop, List.length_take]; rfl)) ?_; (with_reducible refine (c_newTable.calls k _ _ l0 t212 t213 t214 t215 t216 t217 t218 t219 t220 t221 t222 t223 false _ ?side1 ?side2 A2.out).mono ?_); (case side1 => repeat (first | exact HR0.out | (with_reducible refine Kd.C_alloc ?_ _) | (with_reducible refine Kd.C_drewN ?_ _) | (with_reducible refine Kd.C_drew ?_))); (case side2 => exact HC0.out); rintro e w49 ⟨rfl, hb⟩; refine ⟨_, rfl, ?_⟩; replace HB := a_ (bT_ HB.out (tr hb)); (try clear hi)) | ((with_reducible refine gate_dst (N := 4) rfl ?_); refine box_event ?hg (N := 4) ?hd (cs := #[.int .i64 0, .int .i64 0, .int .i64 0, .int .i64 0, .int .i64 0, .int .i64 0, .int .i64 0, .int .i64 0, .int .i64 0, .int .i64 0, .int .i64 0, .int .i64 0]) (t := 78) ?hr ?_; (case hd => rfl); (case hg => rfl); (case hr => first | (go_simp; done) | (go_simp; rfl)); intro gb225 hg w50 hbox hb; have BK225 := a_ (hbox); have GW225 := a_ ((by rw [hg]; exact (bZ_ (gr HB.out)) : w.heap.size ≤ gb225)); have GE225 := GEc.mk ((by rw [hg]; exact (bZ_ (gr HB.out)) : w.heap.size ≤ gb225)); replace HB := a_ (bT_ HB.out (tr hb)); clear hb hbox hg; obtain ⟨hcz51_0, hcz51_1, hcz51_2, hcz51_3, hcz51_4, hcz51_5, hcz51_6, hcz51_7, hcz51_8, hcz51_9, hcz51_10, hcz51_11⟩ := cs12 BK225.out; have hfz51_0 := kf_ BK225.out 0; have hfz51_1 := kf_ BK225.out 1; have hfz51_2 := kf_ BK225.out 2; have hfz51_3 := kf_ BK225.out 3; have hfz51_4 := kf_ BK225.out 4; have hfz51_5 := kf_ BK225.out 5; have hfz51_6 := kf_ BK225.out 6; have hfz51_7 := kf_ BK225.out 7; have hfz51_8 := kf_ BK225.out 8; have hfz51_9 := kf_ BK225.out 9; have hfz51_10 := kf_ BK225.out 10; have hfz51_11 := kf_ BK225.out 11))
  go_ret2
  exact ⟨by first | rfl | (simp [errW_none, errW_some] <;> rfl) | (simp [*, errW_none, errW_some] <;> rfl), by exact gs HB.out⟩
 subst c3
 have H1 := H; rw [if_pos rfl] at H1
 clear H
 have H := H1
 clear H1
 replace H := Option.bind_eq_some_iff.mp H
 obtain ⟨⟨t226, t227, t228, t229, t230⟩, A40, H⟩ := H
 try dsimp only at H
 have A4 := a_ A40
 clear A40
 obtain ⟨y231, hy231⟩ : ∃ y_ : List (S75), y_ = (([(⟨t226, t227, t228, t229, t230⟩ : S75)] : List (S75))) := ⟨_, rfl⟩
 replace H : ((c_identity.f k).bind fun bt234 => (c_Order.l0 k y231 (([(⟨bt234.1, bt234.2.1, bt234.2.2.1, bt234.2.2.2.1, bt234.2.2.2.2⟩ : S75)] : List (S75))) 0 t212 t213 t214 t215 t216 t217 t218 t219 t220 t221 t222 t223)) = some (r1, r2) := by first | (rw [hy231]; with_reducible exact H) | (have H2_ := (Option.bind_some _ _).symm.trans H; rw [hy231]; with_reducible exact H2_) | (have H2_ := (Option.bind_some _ _).symm.trans H; with_reducible exact H2_) | with_reducible exact H | (rw [hy231]; exact H) | exact H
 have Ny231 := a_ hy231
 clear hy231
 replace H := Option.bind_eq_some_iff.mp H
 obtain ⟨⟨t234, t235, t236, t237, t238⟩, A50, H⟩ := H
 try dsimp only at H
 have A5 := a_ A50
 clear A50
 obtain ⟨y239, hy239⟩ : ∃ y_ : List (S75), y_ = (([(⟨t234, t235, t236, t237, t238⟩ : S75)] : List (S75))) := ⟨_, rfl⟩
 replace H : (c_Order.l0 k y231 y239 0 t212 t213 t214 t215 t216 t217 t218 t219 t220 t221 t222 t223) = some (r1, r2) := by first | (rw [hy239]; with_reducible exact H) | (have H2_ := (Option.bind_some _ _).symm.trans H; rw [hy239]; with_reducible exact H2_) | (have H2_ := (Option.bind_some _ _).symm.trans H; with_reducible exact H2_) | with_reducible exact H | (rw [hy239]; exact H) | exact H
 have Ny239 := a_ hy239
 clear hy239
 have H' := a_ H
 clear H
 go_enter Try.func46, Try.ntmps46
 go_wp2_with (first | ((with_reducible refine gate_callee (f := 51) rfl ?_); refine goesL_ (some 13) rfl rfl Try.func51 (by kernel_rfl) rfl #[.slice A0 l0.length c0] rfl (by (try simp only [List.map_toArray, List.map_cons, List.map_nil]); first | done | rfl | (simp only [List.length_drop, List.length_take]; rfl)) ?_; (with_reducible refine (c_newTable.calls k _ _ l0 t212 t213 t214 t215 t216 t217 t218 t219 t220 t221 t222 t223 true _ ?side1 ?side2 A2.out).mono ?_); (case side1 => repeat (first | exact HR0.out | (with_reducible refine Kd.C_alloc ?_ _) | (with_reducible refine Kd.C_drewN ?_ _) | (with_reducible refine Kd.C_drew ?_))); (case side2 => exact HC0.out); rintro e w6 ⟨rfl, hb⟩; refine ⟨_, rfl, ?_⟩; replace HB := a_ (bT_ HB.out (tr hb)); (try clear hi)) | ((with_reducible refine gate_dst (N := 4) rfl ?_); refine box_event ?hg (N := 4) ?hd (cs := #[.int .i64 0, .int .i64 0, .int .i64 0, .int .i64 0, .int .i64 0, .int .i64 0, .int .i64 0, .int .i64 0, .int .i64 0, .int .i64 0, .int .i64 0, .int .i64 0]) (t := 78) ?hr ?_; (case hd => rfl); (case hg => rfl); (case hr => first | (go_simp; done) | (go_simp; rfl)); intro gb225 hg w7 hbox hb; have BK225 := a_ (hbox); have GW225 := a_ ((by rw [hg]; exact (bZ_ (gr HB.out)) : w.heap.size ≤ gb225)); have GE225 := GEc.mk ((by rw [hg]; exact (bZ_ (gr HB.out)) : w.heap.size ≤ gb225)); replace HB := a_ (bT_ HB.out (tr hb)); clear hb hbox hg; obtain ⟨hcz8_0, hcz8_1, hcz8_2, hcz8_3, hcz8_4, hcz8_5, hcz8_6, hcz8_7, hcz8_8, hcz8_9, hcz8_10, hcz8_11⟩ := cs12 BK225.out; have hfz8_0 := kf_ BK225.out 0; have hfz8_1 := kf_ BK225.out 1; have hfz8_2 := kf_ BK225.out 2; have hfz8_3 := kf_ BK225.out 3; have hfz8_4 := kf_ BK225.out 4; have hfz8_5 := kf_ BK225.out 5; have hfz8_6 := kf_ BK225.out 6; have hfz8_7 := kf_ BK225.out 7; have hfz8_8 := kf_ BK225.out 8; have hfz8_9 := kf_ BK225.out 9; have hfz8_10 := kf_ BK225.out 10; have hfz8_11 := kf_ BK225.out 11) | ((with_reducible refine gate_callee (f := 77) rfl ?_); refine goesL_ (some 19) rfl rfl Try.func77 (by kernel_rfl) rfl #[] rfl (by (try simp only [List.map_toArray, List.map_cons, List.map_nil]); first | done | rfl | (simp only [List.length_drop, List.length_take]; rfl)) ?_; (with_reducible refine (c_identity.calls k  t226 t227 t228 t229 t230 _ A4.out).mono ?_); rintro e w9 ⟨rfl, hb⟩; refine ⟨_, rfl, ?_⟩; have HM := a_ (Km.made (d := k75) (e := 75) w7.heap.size hb (by exact gs HB.out) (by simp [World.setCell])); replace BK225 := a_ (kB_ (g := gb225) (o := .cells #[.int .i64 t212, .int .i64 t213, .int .i64 t214, .int .i64 t215, .int .i64 t216, .int .i64 t217, .int .i64 t218, .int .i64 t219, .int .i64 t220, .int .i64 t221, .int .i64 t222, .int .i64 t223] 78 (0, 0)) (by exact pb BK225.out (by rfl)) hb); replace HB := a_ (bT_ (by exact gs HB.out) hb); (try clear hi)) | ((with_reducible refine gate_ (Op.insert 113 (.tmp 18) (.tmp 19) (.const (.bool true))) rfl ?_); (refine Km.wp_insert HM.out rfl (.tmp 18) (.tmp 19) (.const (.bool true)) rfl rfl (⟨t226, t227, t228, t229, t230⟩ : S75) rfl rfl (identity_good A4.out) (by simp) ?_); intro w10 gm_ his_ hgr_ hbg_ ho11; have ho11' := a_ (Km.R_xs ho11 Ny231.out); clear ho11; have n0_ := ho11'; have n1_ := a_ (Km.keep_cells his_ hgr_ (by exact bk BK225.out)); have n2_ := a_ (Below.grown (by exact gs HB.out) hgr_ (bZ_ (by exact gs HB.out)) (fun k_ hk_ => by cases hk_; exact hbg_)); clear HM; clear BK225; clear HB; have HO233 := n0_; have BK225 := n1_; have HB := n2_; clear n0_ n1_ n2_; clear his_ hgr_ hbg_ ho11') | ((with_reducible refine gate_callee (f := 77) rfl ?_); refine goesL_ (some 21) rfl rfl Try.func77 (by kernel_rfl) rfl #[] rfl (by (try simp only [List.map_toArray, List.map_cons, List.map_nil]); first | done | rfl | (simp only [List.length_drop, List.length_take]; rfl)) ?_; (with_reducible refine (c_identity.calls k  t234 t235 t236 t237 t238 _ A5.out).mono ?_); rintro e w12 ⟨rfl, hb⟩; refine ⟨_, rfl, ?_⟩; replace HO233 := a_ (Km.R_below (by (with_reducible repeat (first | apply Km.R_alloc | apply Km.R_drewN | apply Km.R_drew)); exact HO233.out) hb); replace BK225 := a_ (kB_ BK225.out (tr hb)); replace HB := a_ (bT_ (by exact gs HB.out) hb); (try clear hi)) | ((with_reducible refine gate_dst (N := 22) rfl ?_); refine Kd.R_lit k75 _ 75 ?hg (N := 22) ?hd (xs := ([(⟨t234, t235, t236, t237, t238⟩ : S75)] : List (S75))) (inner := [.int .i64 t234, .int .i64 t235, .int .i64 t236, .int .i64 t237, .int .i64 t238]) (ok := fun _ => True) (okp := fun _ => True) ?hr ?hp (fun _ hk => hk) trivial (Below.refl _ _) (Nat.le_refl _) (by simp) ?_; (case hd => rfl); (case hg => rfl); (case hr => first | (go_simp; done) | (go_simp; rfl)); (case hp => exact (Reps.c5 (show Kd.M k75 _ _ _ (⟨t234, t235, t236, t237, t238⟩ : S75) [.int .i64 t234, .int .i64 t235, .int .i64 t236, .int .i64 t237, .int .i64 t238] from (k75_mkM _ _ _ (⟨t234, t235, t236, t237, t238⟩ : S75) )) (Reps.none _ _))); intro v240 w13 ho14 hb hg_ hnew_; clear hg_ hnew_; (first | rw [← Ny239.out] at ho14 | (simp only [Int.reduceToNat] at ho14; rw [← Ny239.out] at ho14)); have HO241 := a_ (Kd.R_lower (Kd.R_new' ho14 (Km.R_lt (by (with_reducible repeat (first | apply Km.R_alloc | apply Km.R_drewN | apply Km.R_drew)); exact HO233.out))) (bZ_ (by exact gs HB.out))); replace HO233 := a_ (Km.R_elder' (by (with_reducible repeat (first | apply Km.R_alloc | apply Km.R_drewN | apply Km.R_drew)); exact HO233.out) (Kd.R_base ho14) hb); replace BK225 := a_ (kB_ BK225.out (tr hb)); replace HB := a_ (bT_ (by exact gs HB.out) hb); clear hb ho14))
 go_loopg [7, 8] k (fun kq v7 v8 w' => ∃ (x6_1 : List (S75)) (x7_1 : List (S75)) (x8_1 : Int), v8 = .int .i64 x8_1 ∧ Aside0 (c_Order.l0 kq x6_1 x7_1 x8_1 t212 t213 t214 t215 t216 t217 t218 t219 t220 t221 t222 t223 = some (r1, r2)) ∧ Aside0 (kq ≤ k) ∧ Aside0 (Km.R k75 75 w' w.heap.size (fun k_ => some k_ ≠ (v7 : Value).ownBlock) (.map (some w7.heap.size) : Value) x6_1) ∧ Aside0 (Kd.R k75 75 w' w.heap.size (fun k_ => some k_ ≠ (.map (some w7.heap.size) : Value).ownBlock) v7 x7_1) ∧ Aside0 (w'.heap[gb225]? = some (.cells #[.int .i64 t212, .int .i64 t213, .int .i64 t214, .int .i64 t215, .int .i64 t216, .int .i64 t217, .int .i64 t218, .int .i64 t219, .int .i64 t220, .int .i64 t221, .int .i64 t222, .int .i64 t223] 78 (0, 0))) ∧ Aside0 (Below w.heap.size w w'))
 case atStart => exact ⟨(y231), (y239), (0), (by first | rfl | (simp; done) | (simp [*]; done)), H', ⟨Nat.le_refl _⟩, ⟨by (with_reducible repeat (first | apply Km.R_alloc | apply Km.R_drewN | apply Km.R_drew)); exact Km.R_mono HO233.out (fun _ hk => hk.2)⟩, ⟨by exact rk (Kd.R_mono HO241.out (fun _ hk => hk.2))⟩, ⟨by exact bk BK225.out⟩, ⟨by exact gs HB.out⟩⟩
 clear H'
 obtain ⟨x6_1, x7_1, x8_1, rfl, HA, HK1, HO_6, HO_7, BK225, HB⟩ := hrel
 cases gk with
 | zero => exact absurd HA.out (by simp [c_Order.l0])
 | succ k1 =>
  have H := HA.out
  clear HA
  simp only [c_Order.l0] at H
  by_cases c15 : x8_1 < (x7_1.length : Int)
  rotate_left
  ·rw [if_neg c15] at H
   have c15b0 : decide (x8_1 < (x7_1.length : Int)) = false := decide_eq_false c15
   clear c15
   simp only [Option.some.injEq, Prod.mk.injEq] at H
   obtain ⟨rfl, rfl⟩ := H
   obtain ⟨Ao48, co48, eo48⟩ := Kd.R_slice HO_7.out
   subst eo48
   go_wp2
   go_ret2
   exact ⟨by first | rfl | (simp [errW_none, errW_some] <;> rfl) | (simp [*, errW_none, errW_some] <;> rfl), by exact gs HB.out⟩
  rw [if_pos c15] at H
  have c15b0 : decide (x8_1 < (x7_1.length : Int)) = true := decide_eq_true c15
  clear c15
  have H' := a_ H
  clear H
  obtain ⟨Ao16, co16, eo16⟩ := Kd.R_slice HO_7.out
  subst eo16
  obtain ⟨hcz17_0, hcz17_1, hcz17_2, hcz17_3, hcz17_4, hcz17_5, hcz17_6, hcz17_7, hcz17_8, hcz17_9, hcz17_10, hcz17_11⟩ := cs12 BK225.out
  have hfz17_0 := kf_ BK225.out 0
  have hfz17_1 := kf_ BK225.out 1
  have hfz17_2 := kf_ BK225.out 2
  have hfz17_3 := kf_ BK225.out 3
  have hfz17_4 := kf_ BK225.out 4
  have hfz17_5 := kf_ BK225.out 5
  have hfz17_6 := kf_ BK225.out 6
  have hfz17_7 := kf_ BK225.out 7
  have hfz17_8 := kf_ BK225.out 8
  have hfz17_9 := kf_ BK225.out 9
  have hfz17_10 := kf_ BK225.out 10
  have hfz17_11 := kf_ BK225.out 11
  go_wp2
  go_loopg [7, 31] k1 (fun kq v7 v31 w' => ∃ (x6_2 : List (S75)) (x7_2 : List (S75)) (x31_2 : Int), v31 = .int .i64 x31_2 ∧ Aside0 (c_Order.l1 kq x6_2 x7_2 x8_1 t212 x31_2 t212 t213 t214 t215 t216 t217 t218 t219 t220 t221 t222 t223 = some (r1, r2)) ∧ Aside0 (kq ≤ k1) ∧ Aside0 (Km.R k75 75 w' w.heap.size (fun k_ => some k_ ≠ (v7 : Value).ownBlock) (.map (some w7.heap.size) : Value) x6_2) ∧ Aside0 (Kd.R k75 75 w' w.heap.size (fun k_ => some k_ ≠ (.map (some w7.heap.size) : Value).ownBlock) v7 x7_2) ∧ Aside0 (w'.heap[gb225]? = some (.cells #[.int .i64 t212, .int .i64 t213, .int .i64 t214, .int .i64 t215, .int .i64 t216, .int .i64 t217, .int .i64 t218, .int .i64 t219, .int .i64 t220, .int .i64 t221, .int .i64 t222, .int .i64 t223] 78 (0, 0))) ∧ Aside0 (Below w.heap.size w w'))
  case atStart => exact ⟨(x6_1), (x7_1), (0), (by first | rfl | (simp; done) | (simp [*]; done)), H', ⟨Nat.le_refl _⟩, ⟨by (with_reducible repeat (first | apply Km.R_alloc | apply Km.R_drewN | apply Km.R_drew)); exact HO_6.out⟩, ⟨by exact rk HO_7.out⟩, ⟨by exact bk BK225.out⟩, ⟨by exact gs HB.out⟩⟩
  clear H'
  obtain ⟨x6_2, x7_2, x31_2, rfl, HA, HK2, HO_6, HO_7, BK225, HB⟩ := hrel
  cases gk with
  | zero => exact absurd HA.out (by simp [c_Order.l1])
  | succ k2 =>
   have H := HA.out
   clear HA
   simp only [c_Order.l1] at H
   by_cases c18 : x31_2 < t212
   rotate_left
   ·rw [if_neg c18] at H
    have c18b0 : decide (x31_2 < t212) = false := decide_eq_false c18
    clear c18
    have H' := a_ H
    clear H
    go_wp2
    go_roundg k2
    case measure => have := HK1.out; have := HK2.out; omega
    case rel => exact ⟨(x6_2), (x7_2), (wrap64 (x8_1 + 1)), (by first | rfl | (simp; done) | (simp [*]; done)), H', ⟨by have := HK1.out; have := HK2.out; omega⟩, ⟨by (with_reducible repeat (first | apply Km.R_alloc | apply Km.R_drewN | apply Km.R_drew)); exact HO_6.out⟩, ⟨by exact rk HO_7.out⟩, ⟨by exact bk BK225.out⟩, ⟨by exact gs HB.out⟩⟩
   rw [if_pos c18] at H
   have c18b0 : decide (x31_2 < t212) = true := decide_eq_true c18
   clear c18
   replace H := Option.bind_eq_some_iff.mp H
   obtain ⟨⟨t242, t243, t244, t245, t246⟩, A190, H⟩ := H
   try dsimp only at H
   have A19 := a_ A190
   clear A190
   by_cases c20 : 0 ≤ x8_1
   rotate_left
   ·rw [if_neg c20] at H
    exact absurd H (by simp)
   rw [if_pos c20] at H
   have c20b0 : decide (0 ≤ x8_1) = true := decide_eq_true c20
   clear c20
   by_cases c21 : x8_1 < (x7_2.length : Int)
   rotate_left
   ·rw [if_neg c21] at H
    exact absurd H (by simp)
   rw [if_pos c21] at H
   have c21b0 : decide (x8_1 < (x7_2.length : Int)) = true := decide_eq_true c21
   clear c21
   replace H := Option.bind_eq_some_iff.mp H
   obtain ⟨⟨t248, t249, t250, t251, t252⟩, A220, H⟩ := H
   try dsimp only at H
   have A22 := a_ A220
   clear A220
   replace H := Option.bind_eq_some_iff.mp H
   obtain ⟨t254, A230, H⟩ := H
   try dsimp only at H
   have A23 := a_ A230
   clear A230
   have HC24 := a_ H
   clear H
   try go_wp2
   replace HO_6 := a_ (Km.R_drew HO_6.out)
   replace HO_7 := a_ (Kd.R_drew HO_7.out)
   replace BK225 := a_ (kD_ BK225.out)
   replace HB := a_ (b1_ HB.out)
   obtain ⟨Ao26, co26, eo26⟩ := Kd.R_slice HO_7.out
   (first | subst eo26 | (injection eo26 with f1_ f2_ f3_; have f4_ := f1_.symm; have f5_ := f3_.symm; clear f1_ f2_ f3_; subst f4_; subst f5_))
   have p247 : 0 ≤ (x8_1 : Int) := of_decide_eq_true (by first | (with_reducible assumption) | assumption)
   have q247 : x8_1 < (x7_2.length : Int) := of_decide_eq_true (by first | (with_reducible assumption) | assumption)
   obtain ⟨ad247, e247, hx247_0, hx247_1, hx247_2, hx247_3, hx247_4⟩ := at_T75 (Kd.R_reads' HO_7.out).2.2 x8_1 p247 q247
   cases e247
   replace p247 := eq_true p247
   replace q247 := eq_true q247
   refine start_ (n := 10) (S := fun w' => w'.cell? ⟨gb225, 0, none⟩ = some (.int .i64 t212) ∧ w'.cell? ⟨gb225, 1, none⟩ = some (.int .i64 t213) ∧ w'.cell? ⟨gb225, 2, none⟩ = some (.int .i64 t214) ∧ w'.cell? ⟨gb225, 3, none⟩ = some (.int .i64 t215) ∧ w'.cell? ⟨gb225, 4, none⟩ = some (.int .i64 t216) ∧ w'.cell? ⟨gb225, 5, none⟩ = some (.int .i64 t217) ∧ w'.cell? ⟨gb225, 6, none⟩ = some (.int .i64 t218) ∧ w'.cell? ⟨gb225, 7, none⟩ = some (.int .i64 t219) ∧ w'.cell? ⟨gb225, 8, none⟩ = some (.int .i64 t220) ∧ w'.cell? ⟨gb225, 9, none⟩ = some (.int .i64 t221) ∧ w'.cell? ⟨gb225, 10, none⟩ = some (.int .i64 t222) ∧ w'.cell? ⟨gb225, 11, none⟩ = some (.int .i64 t223) ∧ w'.cell? (ad247.add ((x8_1).toNat * 5)) = some (.int .i64 ((rd_T75 x7_2 x8_1).f0)) ∧ w'.cell? ⟨(ad247.add ((x8_1).toNat * 5)).block, (ad247.add ((x8_1).toNat * 5)).off + 1, none⟩ = some (.int .i64 ((rd_T75 x7_2 x8_1).f1)) ∧ w'.cell? ⟨(ad247.add ((x8_1).toNat * 5)).block, (ad247.add ((x8_1).toNat * 5)).off + 2, none⟩ = some (.int .i64 ((rd_T75 x7_2 x8_1).f2)) ∧ w'.cell? ⟨(ad247.add ((x8_1).toNat * 5)).block, (ad247.add ((x8_1).toNat * 5)).off + 3, none⟩ = some (.int .i64 ((rd_T75 x7_2 x8_1).f3)) ∧ w'.cell? ⟨(ad247.add ((x8_1).toNat * 5)).block, (ad247.add ((x8_1).toNat * 5)).off + 4, none⟩ = some (.int .i64 ((rd_T75 x7_2 x8_1).f4))) (ds := []) #[false, false, false, false, false, false, false, false, false, false] (by kernel_rfl) rfl rfl ⟨(kc_ BK225.out 0).trans rfl, (kc_ BK225.out 1).trans rfl, (kc_ BK225.out 2).trans rfl, (kc_ BK225.out 3).trans rfl, (kc_ BK225.out 4).trans rfl, (kc_ BK225.out 5).trans rfl, (kc_ BK225.out 6).trans rfl, (kc_ BK225.out 7).trans rfl, (kc_ BK225.out 8).trans rfl, (kc_ BK225.out 9).trans rfl, (kc_ BK225.out 10).trans rfl, (kc_ BK225.out 11).trans rfl, hx247_0, hx247_1, hx247_2, hx247_3, hx247_4⟩ (fun hHeld => ?_); refine with_tabW c_Order.tab12 c_Order.bits12 (fun HT_ HW_ => ?_)
   generalize wr.drew = w25 at HO_6 HO_7 BK225 HB hx247_0 hx247_1 hx247_2 hx247_3 hx247_4 hHeld ⊢
   refine pure_ (i := 1) (N := some 35) (v := ?_) (a' := ?_) #[false, true, false, false, false, false, false, false, false, false] rfl rfl (any_of HT_.out (by kernel_rfl)) (fun _ _ _ h => h) (Or.inl ⟨by rfl, ?_⟩) ?_ ?_
   rotate_left
   ·intro w'
    go_simp
    with_reducible rfl
   rotate_left
   ·simp only [Act.put, List.setIfInBounds_toArray, List.set_cons_zero, List.set_cons_succ, i64_w, i32_w]
    rfl
   refine pure_ (i := 3) (N := some 37) (v := ?_) (a' := ?_) #[false, true, false, true, false, false, false, false, false, false] rfl rfl (any_of HT_.out (by kernel_rfl)) (fun _ _ _ h => h) (Or.inl ⟨by rfl, ?_⟩) ?_ ?_
   rotate_left
   ·intro w'
    go_simp
    with_reducible rfl
   rotate_left
   ·simp only [Act.put, List.setIfInBounds_toArray, List.set_cons_zero, List.set_cons_succ, i64_w, i32_w]
    rfl
   refine pure_ (i := 4) (N := some 38) (v := ?_) (a' := ?_) #[false, true, false, true, true, false, false, false, false, false] rfl rfl (any_of HT_.out (by kernel_rfl)) (fun _ _ _ h => h) (Or.inl ⟨by rfl, ?_⟩) ?_ ?_
   rotate_left
   ·intro w'
    go_simp
    with_reducible rfl
   rotate_left
   ·simp only [Act.put, List.setIfInBounds_toArray, List.set_cons_zero, List.set_cons_succ, i64_w, i32_w]
    rfl
   refine pure_ (i := 5) (N := some 39) (v := ?_) (a' := ?_) #[false, true, false, true, true, true, false, false, false, false] rfl rfl (any_of HT_.out (by kernel_rfl)) (fun _ _ _ h => h) (Or.inl ⟨by rfl, ?_⟩) ?_ ?_
   rotate_left
   ·intro w'
    go_simp
    with_reducible rfl
   rotate_left
   ·simp only [Act.put, List.setIfInBounds_toArray, List.set_cons_zero, List.set_cons_succ, i64_w, i32_w]
    rfl
   refine take_ (i := 0) (N := some 34) (v := ?_) (a' := ?_) #[true, true, false, true, true, true, false, false, false, false] rfl rfl (take_ofW HT_.out HW_.out (by kernel_rfl)) (fun _ _ _ h => h) (Or.inl ⟨by rfl, ?_⟩) hHeld ?_ ?_
   rotate_left
   ·rintro w' ⟨s0, s1, s2, s3, s4, s5, s6, s7, s8, s9, s10, s11, s12, s13, s14, s15, s16⟩
    go_simp
    with_reducible rfl
   rotate_left
   ·simp only [Act.put, List.setIfInBounds_toArray, List.set_cons_zero, List.set_cons_succ, i64_w, i32_w]
    rfl
   refine take_ (i := 6) (N := some 40) (v := ?_) (a' := ?_) #[true, true, false, true, true, true, true, false, false, false] rfl rfl (take_ofW HT_.out HW_.out (by kernel_rfl)) (fun _ _ _ h => h) (Or.inl ⟨by rfl, ?_⟩) hHeld ?_ ?_
   rotate_left
   ·rintro w' ⟨s0, s1, s2, s3, s4, s5, s6, s7, s8, s9, s10, s11, s12, s13, s14, s15, s16⟩
    go_simp
    with_reducible rfl
   rotate_left
   ·simp only [Act.put, List.setIfInBounds_toArray, List.set_cons_zero, List.set_cons_succ, i64_w, i32_w]
    rfl
   refine join_ (σ := Nat) 1 #[true, true, true, true, true, true, true, true, true, false] (fun s_ => [(36, .agg #[.int .i64 t242, .int .i64 t243, .int .i64 t244, .int .i64 t245, .int .i64 t246]), (41, .agg #[.int .i64 t248, .int .i64 t249, .int .i64 t250, .int .i64 t251, .int .i64 t252]), (10, .pointer (some ⟨s_, 0, none⟩))]) (fun s_ w' => (w'.cell? ⟨gb225, 0, none⟩ = some (.int .i64 t212) ∧ w'.cell? ⟨gb225, 1, none⟩ = some (.int .i64 t213) ∧ w'.cell? ⟨gb225, 2, none⟩ = some (.int .i64 t214) ∧ w'.cell? ⟨gb225, 3, none⟩ = some (.int .i64 t215) ∧ w'.cell? ⟨gb225, 4, none⟩ = some (.int .i64 t216) ∧ w'.cell? ⟨gb225, 5, none⟩ = some (.int .i64 t217) ∧ w'.cell? ⟨gb225, 6, none⟩ = some (.int .i64 t218) ∧ w'.cell? ⟨gb225, 7, none⟩ = some (.int .i64 t219) ∧ w'.cell? ⟨gb225, 8, none⟩ = some (.int .i64 t220) ∧ w'.cell? ⟨gb225, 9, none⟩ = some (.int .i64 t221) ∧ w'.cell? ⟨gb225, 10, none⟩ = some (.int .i64 t222) ∧ w'.cell? ⟨gb225, 11, none⟩ = some (.int .i64 t223) ∧ w'.cell? (ad247.add ((x8_1).toNat * 5)) = some (.int .i64 ((rd_T75 x7_2 x8_1).f0)) ∧ w'.cell? ⟨(ad247.add ((x8_1).toNat * 5)).block, (ad247.add ((x8_1).toNat * 5)).off + 1, none⟩ = some (.int .i64 ((rd_T75 x7_2 x8_1).f1)) ∧ w'.cell? ⟨(ad247.add ((x8_1).toNat * 5)).block, (ad247.add ((x8_1).toNat * 5)).off + 2, none⟩ = some (.int .i64 ((rd_T75 x7_2 x8_1).f2)) ∧ w'.cell? ⟨(ad247.add ((x8_1).toNat * 5)).block, (ad247.add ((x8_1).toNat * 5)).off + 3, none⟩ = some (.int .i64 ((rd_T75 x7_2 x8_1).f3)) ∧ w'.cell? ⟨(ad247.add ((x8_1).toNat * 5)).block, (ad247.add ((x8_1).toNat * 5)).off + 4, none⟩ = some (.int .i64 ((rd_T75 x7_2 x8_1).f4))) ∧ (Km.R k75 75 w' w.heap.size (fun k_ => some k_ ≠ (.slice (some ad247) x7_2.length co26 : Value).ownBlock ∧ k_ ≠ s_) (.map (some w7.heap.size) : Value) x6_2) ∧ (Kd.R k75 75 w' w.heap.size (fun k_ => some k_ ≠ (.map (some w7.heap.size) : Value).ownBlock ∧ k_ ≠ s_) (.slice (some ad247) x7_2.length co26) x7_2) ∧ (w'.heap[gb225]? = some (.cells #[.int .i64 t212, .int .i64 t213, .int .i64 t214, .int .i64 t215, .int .i64 t216, .int .i64 t217, .int .i64 t218, .int .i64 t219, .int .i64 t220, .int .i64 t221, .int .i64 t222, .int .i64 t223] 78 (0, 0))) ∧ (w'.heap[s_]? = some (.cells #[.int .i64 0, .int .i64 0, .int .i64 0, .int .i64 0, .int .i64 0] 75 (0, 0))) ∧ (w.heap.size ≤ s_) ∧ (w.heap.size ≤ s_) ∧ (gb225 ≠ s_) ∧ (s_ ≠ gb225) ∧ (Below w.heap.size w w')) ?_ ?_
   rotate_left
   ·intro hCont
    refine two_ (i := 2) (j := 8) (Ni := some 36) (Nj := some 10) #[true, true, true, true, true, true, true, false, false, false] #[true, true, false, true, true, true, true, false, true, false] rfl rfl rfl rfl (two_of HT_.out (by kernel_rfl)) (by decide) (by decide) (fun K hK => ?_) (fun K hK => ?_)
    ·skip
     refine goes_ Try.func76 (by kernel_rfl) rfl #[.agg #[.int .i64 t212, .int .i64 t213, .int .i64 t214, .int .i64 t215, .int .i64 t216, .int .i64 t217, .int .i64 t218, .int .i64 t219, .int .i64 t220, .int .i64 t221, .int .i64 t222, .int .i64 t223], .int .i64 x31_2] (by rfl) rfl rfl (by (try simp only [List.map_toArray, List.map_cons, List.map_nil]); first | done | rfl | (simp only [List.length_drop, List.length_take]; rfl)) ?_
     with_reducible refine (c_table_full.calls k2 t212 t213 t214 t215 t216 t217 t218 t219 t220 t221 t222 t223 x31_2 t242 t243 t244 t245 t246 _ A19.out).mono ?_
     rintro e w27 ⟨rfl, hb⟩
     have HS12_ := (hb.cell (World.block_lt_of_cell? _ _ (hHeld.2.2.2.2.2.2.2.2.2.2.2.2.1))).trans (hHeld.2.2.2.2.2.2.2.2.2.2.2.2.1)
     have HS13_ := (hb.cell (World.block_lt_of_cell? _ _ (hHeld.2.2.2.2.2.2.2.2.2.2.2.2.2.1))).trans (hHeld.2.2.2.2.2.2.2.2.2.2.2.2.2.1)
     have HS14_ := (hb.cell (World.block_lt_of_cell? _ _ (hHeld.2.2.2.2.2.2.2.2.2.2.2.2.2.2.1))).trans (hHeld.2.2.2.2.2.2.2.2.2.2.2.2.2.2.1)
     have HS15_ := (hb.cell (World.block_lt_of_cell? _ _ (hHeld.2.2.2.2.2.2.2.2.2.2.2.2.2.2.2.1))).trans (hHeld.2.2.2.2.2.2.2.2.2.2.2.2.2.2.2.1)
     have HS16_ := (hb.cell (World.block_lt_of_cell? _ _ (hHeld.2.2.2.2.2.2.2.2.2.2.2.2.2.2.2.2))).trans (hHeld.2.2.2.2.2.2.2.2.2.2.2.2.2.2.2.2)
     refine ⟨_, rfl, ?_⟩
     replace HO_6 := a_ (Km.R_below (by (with_reducible repeat (first | apply Km.R_alloc | apply Km.R_drewN | apply Km.R_drew)); exact HO_6.out) hb)
     replace HO_7 := a_ (Kd.R_below HO_7.out (tr hb))
     replace BK225 := a_ (kB_ BK225.out (tr hb))
     replace HB := a_ (bT_ (by exact gs HB.out) hb)
     (try clear hb)
     (try clear hb2)
     (try clear hk)
     (try clear hi)
     refine hK.out _ _ ⟨(kc_ BK225.out 0).trans rfl, (kc_ BK225.out 1).trans rfl, (kc_ BK225.out 2).trans rfl, (kc_ BK225.out 3).trans rfl, (kc_ BK225.out 4).trans rfl, (kc_ BK225.out 5).trans rfl, (kc_ BK225.out 6).trans rfl, (kc_ BK225.out 7).trans rfl, (kc_ BK225.out 8).trans rfl, (kc_ BK225.out 9).trans rfl, (kc_ BK225.out 10).trans rfl, (kc_ BK225.out 11).trans rfl, HS12_, HS13_, HS14_, HS15_, HS16_⟩ (fun hHeld => ?_)
     clear hK K
     refine norm_ (a' := ?_) ?_ ?_
     rotate_left
     ·show Act.put _ (some 36) _ = _
      simp only [Act.put, List.setIfInBounds_toArray, List.set_cons_zero, List.set_cons_succ, i64_w, i32_w]
      rfl
     refine two_ (i := 7) (j := 8) (Ni := some 41) (Nj := some 10) #[true, true, true, true, true, true, true, true, false, false] #[true, true, true, true, true, true, true, false, true, false] rfl rfl rfl rfl (two_of HT_.out (by kernel_rfl)) (by decide) (by decide) (fun K hK => ?_) (fun K hK => ?_)
     ·skip
      refine goes_ Try.func78 (by kernel_rfl) rfl #[.agg #[.int .i64 t242, .int .i64 t243, .int .i64 t244, .int .i64 t245, .int .i64 t246], .agg #[.int .i64 ((rd_T75 x7_2 x8_1).f0), .int .i64 ((rd_T75 x7_2 x8_1).f1), .int .i64 ((rd_T75 x7_2 x8_1).f2), .int .i64 ((rd_T75 x7_2 x8_1).f3), .int .i64 ((rd_T75 x7_2 x8_1).f4)]] (by rfl) rfl rfl (by (try simp only [List.map_toArray, List.map_cons, List.map_nil]); first | done | rfl | (simp only [List.length_drop, List.length_take]; rfl)) ?_
      with_reducible refine (c_column_after.calls k2 t242 t243 t244 t245 t246 ((rd_T75 x7_2 x8_1).f0) ((rd_T75 x7_2 x8_1).f1) ((rd_T75 x7_2 x8_1).f2) ((rd_T75 x7_2 x8_1).f3) ((rd_T75 x7_2 x8_1).f4) t248 t249 t250 t251 t252 _ A22.out).mono ?_
      rintro e w28 ⟨rfl, hb⟩
      have HS12_ := (hb.cell (World.block_lt_of_cell? _ _ (hHeld.2.2.2.2.2.2.2.2.2.2.2.2.1))).trans (hHeld.2.2.2.2.2.2.2.2.2.2.2.2.1)
      have HS13_ := (hb.cell (World.block_lt_of_cell? _ _ (hHeld.2.2.2.2.2.2.2.2.2.2.2.2.2.1))).trans (hHeld.2.2.2.2.2.2.2.2.2.2.2.2.2.1)
      have HS14_ := (hb.cell (World.block_lt_of_cell? _ _ (hHeld.2.2.2.2.2.2.2.2.2.2.2.2.2.2.1))).trans (hHeld.2.2.2.2.2.2.2.2.2.2.2.2.2.2.1)
      have HS15_ := (hb.cell (World.block_lt_of_cell? _ _ (hHeld.2.2.2.2.2.2.2.2.2.2.2.2.2.2.2.1))).trans (hHeld.2.2.2.2.2.2.2.2.2.2.2.2.2.2.2.1)
      have HS16_ := (hb.cell (World.block_lt_of_cell? _ _ (hHeld.2.2.2.2.2.2.2.2.2.2.2.2.2.2.2.2))).trans (hHeld.2.2.2.2.2.2.2.2.2.2.2.2.2.2.2.2)
      refine ⟨_, rfl, ?_⟩
      replace HO_6 := a_ (Km.R_below (by (with_reducible repeat (first | apply Km.R_alloc | apply Km.R_drewN | apply Km.R_drew)); exact HO_6.out) hb)
      replace HO_7 := a_ (Kd.R_below HO_7.out (tr hb))
      replace BK225 := a_ (kB_ BK225.out (tr hb))
      replace HB := a_ (bT_ (by exact gs HB.out) hb)
      (try clear hb)
      (try clear hb2)
      (try clear hk)
      (try clear hi)
      refine hK.out _ _ ⟨(kc_ BK225.out 0).trans rfl, (kc_ BK225.out 1).trans rfl, (kc_ BK225.out 2).trans rfl, (kc_ BK225.out 3).trans rfl, (kc_ BK225.out 4).trans rfl, (kc_ BK225.out 5).trans rfl, (kc_ BK225.out 6).trans rfl, (kc_ BK225.out 7).trans rfl, (kc_ BK225.out 8).trans rfl, (kc_ BK225.out 9).trans rfl, (kc_ BK225.out 10).trans rfl, (kc_ BK225.out 11).trans rfl, HS12_, HS13_, HS14_, HS15_, HS16_⟩ (fun hHeld => ?_)
      clear hK K
      refine norm_ (a' := ?_) ?_ ?_
      rotate_left
      ·show Act.put _ (some 41) _ = _
       simp only [Act.put, List.setIfInBounds_toArray, List.set_cons_zero, List.set_cons_succ, i64_w, i32_w]
       rfl
      refine one_ (i := 8) (N := some 10) #[true, true, true, true, true, true, true, true, true, false] rfl rfl (one_of HT_.out (by kernel_rfl)) (by decide) (fun K hK => ?_)
      refine box_step ?hg (N := 10) ?hd (cs := #[.int .i64 0, .int .i64 0, .int .i64 0, .int .i64 0, .int .i64 0]) (t := 75) ?hr ?_; (case hd => rfl); (case hg => rfl); (case hr => first | (go_simp; done) | (go_simp; rfl))
      intro gb253 hg w29 hbox hb
      have HS12_ := (hb.cell (World.block_lt_of_cell? _ _ (hHeld.2.2.2.2.2.2.2.2.2.2.2.2.1))).trans (hHeld.2.2.2.2.2.2.2.2.2.2.2.2.1)
      have HS13_ := (hb.cell (World.block_lt_of_cell? _ _ (hHeld.2.2.2.2.2.2.2.2.2.2.2.2.2.1))).trans (hHeld.2.2.2.2.2.2.2.2.2.2.2.2.2.1)
      have HS14_ := (hb.cell (World.block_lt_of_cell? _ _ (hHeld.2.2.2.2.2.2.2.2.2.2.2.2.2.2.1))).trans (hHeld.2.2.2.2.2.2.2.2.2.2.2.2.2.2.1)
      have HS15_ := (hb.cell (World.block_lt_of_cell? _ _ (hHeld.2.2.2.2.2.2.2.2.2.2.2.2.2.2.2.1))).trans (hHeld.2.2.2.2.2.2.2.2.2.2.2.2.2.2.2.1)
      have HS16_ := (hb.cell (World.block_lt_of_cell? _ _ (hHeld.2.2.2.2.2.2.2.2.2.2.2.2.2.2.2.2))).trans (hHeld.2.2.2.2.2.2.2.2.2.2.2.2.2.2.2.2)
      have BK253 := a_ (hbox)
      have GW253 := a_ ((by rw [hg]; exact (bZ_ (by exact gs HB.out)) : w.heap.size ≤ gb253))
      have GE253 := GEc.mk ((by rw [hg]; exact (bZ_ (by exact gs HB.out)) : w.heap.size ≤ gb253))
      have NB225_253 := NEc.mk ((by rw [hg]; exact Nat.ne_of_lt (blk_lt (g := gb225) (o := .cells #[.int .i64 t212, .int .i64 t213, .int .i64 t214, .int .i64 t215, .int .i64 t216, .int .i64 t217, .int .i64 t218, .int .i64 t219, .int .i64 t220, .int .i64 t221, .int .i64 t222, .int .i64 t223] 78 (0, 0)) (by exact bk BK225.out)) : gb225 ≠ gb253))
      have NB253_225 := NEc.mk ((by rw [hg]; exact Nat.ne_of_gt (blk_lt (g := gb225) (o := .cells #[.int .i64 t212, .int .i64 t213, .int .i64 t214, .int .i64 t215, .int .i64 t216, .int .i64 t217, .int .i64 t218, .int .i64 t219, .int .i64 t220, .int .i64 t221, .int .i64 t222, .int .i64 t223] 78 (0, 0)) (by exact bk BK225.out)) : gb253 ≠ gb225))
      replace HO_6 := a_ (Km.R_below (Km.R_elderB (by (with_reducible repeat (first | apply Km.R_alloc | apply Km.R_drewN | apply Km.R_drew)); exact HO_6.out) gb253 (Nat.le_of_eq hg.symm)) hb)
      replace HO_7 := a_ (Kd.R_below (Kd.R_elderB (by exact rk HO_7.out) gb253 (Nat.le_of_eq hg.symm)) hb)
      replace BK225 := a_ (kB_ BK225.out (tr hb))
      replace HB := a_ (bT_ (by exact gs HB.out) hb)
      clear hb hbox hg
      refine hK.out _ _ ⟨(kc_ BK225.out 0).trans rfl, (kc_ BK225.out 1).trans rfl, (kc_ BK225.out 2).trans rfl, (kc_ BK225.out 3).trans rfl, (kc_ BK225.out 4).trans rfl, (kc_ BK225.out 5).trans rfl, (kc_ BK225.out 6).trans rfl, (kc_ BK225.out 7).trans rfl, (kc_ BK225.out 8).trans rfl, (kc_ BK225.out 9).trans rfl, (kc_ BK225.out 10).trans rfl, (kc_ BK225.out 11).trans rfl, HS12_, HS13_, HS14_, HS15_, HS16_⟩ (fun hHeld => ?_)
      clear hK K
      refine norm_ (a' := ?_) ?_ ?_
      rotate_left
      ·show Act.put _ (some 10) _ = _
       simp only [Act.put, List.setIfInBounds_toArray, List.set_cons_zero, List.set_cons_succ, i64_w, i32_w]
       rfl
      exact norm_ (by simp only [putAll, Act.put, List.setIfInBounds_toArray, List.set_cons_zero, List.set_cons_succ]) (hCont (gb253) _ ⟨hHeld, (by (with_reducible repeat (first | apply Km.R_alloc | apply Km.R_drewN | apply Km.R_drew)); exact HO_6.out), (by exact rk HO_7.out), (by exact bk BK225.out), (by exact bk BK253.out), GW253.out, GE253.out, NB225_253.out, NB253_225.out, (by exact gs HB.out)⟩)
     ·skip
      refine box_step ?hg (N := 10) ?hd (cs := #[.int .i64 0, .int .i64 0, .int .i64 0, .int .i64 0, .int .i64 0]) (t := 75) ?hr ?_; (case hd => rfl); (case hg => rfl); (case hr => first | (go_simp; done) | (go_simp; rfl))
      intro gb253 hg w28 hbox hb
      have HS12_ := (hb.cell (World.block_lt_of_cell? _ _ (hHeld.2.2.2.2.2.2.2.2.2.2.2.2.1))).trans (hHeld.2.2.2.2.2.2.2.2.2.2.2.2.1)
      have HS13_ := (hb.cell (World.block_lt_of_cell? _ _ (hHeld.2.2.2.2.2.2.2.2.2.2.2.2.2.1))).trans (hHeld.2.2.2.2.2.2.2.2.2.2.2.2.2.1)
      have HS14_ := (hb.cell (World.block_lt_of_cell? _ _ (hHeld.2.2.2.2.2.2.2.2.2.2.2.2.2.2.1))).trans (hHeld.2.2.2.2.2.2.2.2.2.2.2.2.2.2.1)
      have HS15_ := (hb.cell (World.block_lt_of_cell? _ _ (hHeld.2.2.2.2.2.2.2.2.2.2.2.2.2.2.2.1))).trans (hHeld.2.2.2.2.2.2.2.2.2.2.2.2.2.2.2.1)
      have HS16_ := (hb.cell (World.block_lt_of_cell? _ _ (hHeld.2.2.2.2.2.2.2.2.2.2.2.2.2.2.2.2))).trans (hHeld.2.2.2.2.2.2.2.2.2.2.2.2.2.2.2.2)
      have BK253 := a_ (hbox)
      have GW253 := a_ ((by rw [hg]; exact (bZ_ (by exact gs HB.out)) : w.heap.size ≤ gb253))
      have GE253 := GEc.mk ((by rw [hg]; exact (bZ_ (by exact gs HB.out)) : w.heap.size ≤ gb253))
      have NB225_253 := NEc.mk ((by rw [hg]; exact Nat.ne_of_lt (blk_lt (g := gb225) (o := .cells #[.int .i64 t212, .int .i64 t213, .int .i64 t214, .int .i64 t215, .int .i64 t216, .int .i64 t217, .int .i64 t218, .int .i64 t219, .int .i64 t220, .int .i64 t221, .int .i64 t222, .int .i64 t223] 78 (0, 0)) (by exact bk BK225.out)) : gb225 ≠ gb253))
      have NB253_225 := NEc.mk ((by rw [hg]; exact Nat.ne_of_gt (blk_lt (g := gb225) (o := .cells #[.int .i64 t212, .int .i64 t213, .int .i64 t214, .int .i64 t215, .int .i64 t216, .int .i64 t217, .int .i64 t218, .int .i64 t219, .int .i64 t220, .int .i64 t221, .int .i64 t222, .int .i64 t223] 78 (0, 0)) (by exact bk BK225.out)) : gb253 ≠ gb225))
      replace HO_6 := a_ (Km.R_below (Km.R_elderB (by (with_reducible repeat (first | apply Km.R_alloc | apply Km.R_drewN | apply Km.R_drew)); exact HO_6.out) gb253 (Nat.le_of_eq hg.symm)) hb)
      replace HO_7 := a_ (Kd.R_below (Kd.R_elderB (by exact rk HO_7.out) gb253 (Nat.le_of_eq hg.symm)) hb)
      replace BK225 := a_ (kB_ BK225.out (tr hb))
      replace HB := a_ (bT_ (by exact gs HB.out) hb)
      clear hb hbox hg
      refine hK.out _ _ ⟨(kc_ BK225.out 0).trans rfl, (kc_ BK225.out 1).trans rfl, (kc_ BK225.out 2).trans rfl, (kc_ BK225.out 3).trans rfl, (kc_ BK225.out 4).trans rfl, (kc_ BK225.out 5).trans rfl, (kc_ BK225.out 6).trans rfl, (kc_ BK225.out 7).trans rfl, (kc_ BK225.out 8).trans rfl, (kc_ BK225.out 9).trans rfl, (kc_ BK225.out 10).trans rfl, (kc_ BK225.out 11).trans rfl, HS12_, HS13_, HS14_, HS15_, HS16_⟩ (fun hHeld => ?_)
      clear hK K
      refine norm_ (a' := ?_) ?_ ?_
      rotate_left
      ·show Act.put _ (some 10) _ = _
       simp only [Act.put, List.setIfInBounds_toArray, List.set_cons_zero, List.set_cons_succ, i64_w, i32_w]
       rfl
      refine one_ (i := 7) (N := some 41) #[true, true, true, true, true, true, true, true, true, false] rfl rfl (one_of HT_.out (by kernel_rfl)) (by decide) (fun K hK => ?_)
      refine goes_ Try.func78 (by kernel_rfl) rfl #[.agg #[.int .i64 t242, .int .i64 t243, .int .i64 t244, .int .i64 t245, .int .i64 t246], .agg #[.int .i64 ((rd_T75 x7_2 x8_1).f0), .int .i64 ((rd_T75 x7_2 x8_1).f1), .int .i64 ((rd_T75 x7_2 x8_1).f2), .int .i64 ((rd_T75 x7_2 x8_1).f3), .int .i64 ((rd_T75 x7_2 x8_1).f4)]] (by rfl) rfl rfl (by (try simp only [List.map_toArray, List.map_cons, List.map_nil]); first | done | rfl | (simp only [List.length_drop, List.length_take]; rfl)) ?_
      with_reducible refine (c_column_after.calls k2 t242 t243 t244 t245 t246 ((rd_T75 x7_2 x8_1).f0) ((rd_T75 x7_2 x8_1).f1) ((rd_T75 x7_2 x8_1).f2) ((rd_T75 x7_2 x8_1).f3) ((rd_T75 x7_2 x8_1).f4) t248 t249 t250 t251 t252 _ A22.out).mono ?_
      rintro e w29 ⟨rfl, hb⟩
      have HS12_ := (hb.cell (World.block_lt_of_cell? _ _ (hHeld.2.2.2.2.2.2.2.2.2.2.2.2.1))).trans (hHeld.2.2.2.2.2.2.2.2.2.2.2.2.1)
      have HS13_ := (hb.cell (World.block_lt_of_cell? _ _ (hHeld.2.2.2.2.2.2.2.2.2.2.2.2.2.1))).trans (hHeld.2.2.2.2.2.2.2.2.2.2.2.2.2.1)
      have HS14_ := (hb.cell (World.block_lt_of_cell? _ _ (hHeld.2.2.2.2.2.2.2.2.2.2.2.2.2.2.1))).trans (hHeld.2.2.2.2.2.2.2.2.2.2.2.2.2.2.1)
      have HS15_ := (hb.cell (World.block_lt_of_cell? _ _ (hHeld.2.2.2.2.2.2.2.2.2.2.2.2.2.2.2.1))).trans (hHeld.2.2.2.2.2.2.2.2.2.2.2.2.2.2.2.1)
      have HS16_ := (hb.cell (World.block_lt_of_cell? _ _ (hHeld.2.2.2.2.2.2.2.2.2.2.2.2.2.2.2.2))).trans (hHeld.2.2.2.2.2.2.2.2.2.2.2.2.2.2.2.2)
      refine ⟨_, rfl, ?_⟩
      replace HO_6 := a_ (Km.R_below (by (with_reducible repeat (first | apply Km.R_alloc | apply Km.R_drewN | apply Km.R_drew)); exact HO_6.out) hb)
      replace HO_7 := a_ (Kd.R_below HO_7.out (tr hb))
      replace BK225 := a_ (kB_ BK225.out (tr hb))
      replace BK253 := a_ (kB_ BK253.out (tr hb))
      replace HB := a_ (bT_ (by exact gs HB.out) hb)
      (try clear hb)
      (try clear hb2)
      (try clear hk)
      (try clear hi)
      refine hK.out _ _ ⟨(kc_ BK225.out 0).trans rfl, (kc_ BK225.out 1).trans rfl, (kc_ BK225.out 2).trans rfl, (kc_ BK225.out 3).trans rfl, (kc_ BK225.out 4).trans rfl, (kc_ BK225.out 5).trans rfl, (kc_ BK225.out 6).trans rfl, (kc_ BK225.out 7).trans rfl, (kc_ BK225.out 8).trans rfl, (kc_ BK225.out 9).trans rfl, (kc_ BK225.out 10).trans rfl, (kc_ BK225.out 11).trans rfl, HS12_, HS13_, HS14_, HS15_, HS16_⟩ (fun hHeld => ?_)
      clear hK K
      refine norm_ (a' := ?_) ?_ ?_
      rotate_left
      ·show Act.put _ (some 41) _ = _
       simp only [Act.put, List.setIfInBounds_toArray, List.set_cons_zero, List.set_cons_succ, i64_w, i32_w]
       rfl
      exact norm_ (by simp only [putAll, Act.put, List.setIfInBounds_toArray, List.set_cons_zero, List.set_cons_succ]) (hCont (gb253) _ ⟨hHeld, (by (with_reducible repeat (first | apply Km.R_alloc | apply Km.R_drewN | apply Km.R_drew)); exact HO_6.out), (by exact rk HO_7.out), (by exact bk BK225.out), (by exact bk BK253.out), GW253.out, GE253.out, NB225_253.out, NB253_225.out, (by exact gs HB.out)⟩)
    ·skip
     refine box_step ?hg (N := 10) ?hd (cs := #[.int .i64 0, .int .i64 0, .int .i64 0, .int .i64 0, .int .i64 0]) (t := 75) ?hr ?_; (case hd => rfl); (case hg => rfl); (case hr => first | (go_simp; done) | (go_simp; rfl))
     intro gb253 hg w27 hbox hb
     have HS12_ := (hb.cell (World.block_lt_of_cell? _ _ (hHeld.2.2.2.2.2.2.2.2.2.2.2.2.1))).trans (hHeld.2.2.2.2.2.2.2.2.2.2.2.2.1)
     have HS13_ := (hb.cell (World.block_lt_of_cell? _ _ (hHeld.2.2.2.2.2.2.2.2.2.2.2.2.2.1))).trans (hHeld.2.2.2.2.2.2.2.2.2.2.2.2.2.1)
     have HS14_ := (hb.cell (World.block_lt_of_cell? _ _ (hHeld.2.2.2.2.2.2.2.2.2.2.2.2.2.2.1))).trans (hHeld.2.2.2.2.2.2.2.2.2.2.2.2.2.2.1)
     have HS15_ := (hb.cell (World.block_lt_of_cell? _ _ (hHeld.2.2.2.2.2.2.2.2.2.2.2.2.2.2.2.1))).trans (hHeld.2.2.2.2.2.2.2.2.2.2.2.2.2.2.2.1)
     have HS16_ := (hb.cell (World.block_lt_of_cell? _ _ (hHeld.2.2.2.2.2.2.2.2.2.2.2.2.2.2.2.2))).trans (hHeld.2.2.2.2.2.2.2.2.2.2.2.2.2.2.2.2)
     have BK253 := a_ (hbox)
     have GW253 := a_ ((by rw [hg]; exact (bZ_ (by exact gs HB.out)) : w.heap.size ≤ gb253))
     have GE253 := GEc.mk ((by rw [hg]; exact (bZ_ (by exact gs HB.out)) : w.heap.size ≤ gb253))
     have NB225_253 := NEc.mk ((by rw [hg]; exact Nat.ne_of_lt (blk_lt (g := gb225) (o := .cells #[.int .i64 t212, .int .i64 t213, .int .i64 t214, .int .i64 t215, .int .i64 t216, .int .i64 t217, .int .i64 t218, .int .i64 t219, .int .i64 t220, .int .i64 t221, .int .i64 t222, .int .i64 t223] 78 (0, 0)) (by exact bk BK225.out)) : gb225 ≠ gb253))
     have NB253_225 := NEc.mk ((by rw [hg]; exact Nat.ne_of_gt (blk_lt (g := gb225) (o := .cells #[.int .i64 t212, .int .i64 t213, .int .i64 t214, .int .i64 t215, .int .i64 t216, .int .i64 t217, .int .i64 t218, .int .i64 t219, .int .i64 t220, .int .i64 t221, .int .i64 t222, .int .i64 t223] 78 (0, 0)) (by exact bk BK225.out)) : gb253 ≠ gb225))
     replace HO_6 := a_ (Km.R_below (Km.R_elderB (by (with_reducible repeat (first | apply Km.R_alloc | apply Km.R_drewN | apply Km.R_drew)); exact HO_6.out) gb253 (Nat.le_of_eq hg.symm)) hb)
     replace HO_7 := a_ (Kd.R_below (Kd.R_elderB (by exact rk HO_7.out) gb253 (Nat.le_of_eq hg.symm)) hb)
     replace BK225 := a_ (kB_ BK225.out (tr hb))
     replace HB := a_ (bT_ (by exact gs HB.out) hb)
     clear hb hbox hg
     refine hK.out _ _ ⟨(kc_ BK225.out 0).trans rfl, (kc_ BK225.out 1).trans rfl, (kc_ BK225.out 2).trans rfl, (kc_ BK225.out 3).trans rfl, (kc_ BK225.out 4).trans rfl, (kc_ BK225.out 5).trans rfl, (kc_ BK225.out 6).trans rfl, (kc_ BK225.out 7).trans rfl, (kc_ BK225.out 8).trans rfl, (kc_ BK225.out 9).trans rfl, (kc_ BK225.out 10).trans rfl, (kc_ BK225.out 11).trans rfl, HS12_, HS13_, HS14_, HS15_, HS16_⟩ (fun hHeld => ?_)
     clear hK K
     refine norm_ (a' := ?_) ?_ ?_
     rotate_left
     ·show Act.put _ (some 10) _ = _
      simp only [Act.put, List.setIfInBounds_toArray, List.set_cons_zero, List.set_cons_succ, i64_w, i32_w]
      rfl
     refine one_ (i := 2) (N := some 36) #[true, true, true, true, true, true, true, false, true, false] rfl rfl (one_of HT_.out (by kernel_rfl)) (by decide) (fun K hK => ?_)
     refine goes_ Try.func76 (by kernel_rfl) rfl #[.agg #[.int .i64 t212, .int .i64 t213, .int .i64 t214, .int .i64 t215, .int .i64 t216, .int .i64 t217, .int .i64 t218, .int .i64 t219, .int .i64 t220, .int .i64 t221, .int .i64 t222, .int .i64 t223], .int .i64 x31_2] (by rfl) rfl rfl (by (try simp only [List.map_toArray, List.map_cons, List.map_nil]); first | done | rfl | (simp only [List.length_drop, List.length_take]; rfl)) ?_
     with_reducible refine (c_table_full.calls k2 t212 t213 t214 t215 t216 t217 t218 t219 t220 t221 t222 t223 x31_2 t242 t243 t244 t245 t246 _ A19.out).mono ?_
     rintro e w28 ⟨rfl, hb⟩
     have HS12_ := (hb.cell (World.block_lt_of_cell? _ _ (hHeld.2.2.2.2.2.2.2.2.2.2.2.2.1))).trans (hHeld.2.2.2.2.2.2.2.2.2.2.2.2.1)
     have HS13_ := (hb.cell (World.block_lt_of_cell? _ _ (hHeld.2.2.2.2.2.2.2.2.2.2.2.2.2.1))).trans (hHeld.2.2.2.2.2.2.2.2.2.2.2.2.2.1)
     have HS14_ := (hb.cell (World.block_lt_of_cell? _ _ (hHeld.2.2.2.2.2.2.2.2.2.2.2.2.2.2.1))).trans (hHeld.2.2.2.2.2.2.2.2.2.2.2.2.2.2.1)
     have HS15_ := (hb.cell (World.block_lt_of_cell? _ _ (hHeld.2.2.2.2.2.2.2.2.2.2.2.2.2.2.2.1))).trans (hHeld.2.2.2.2.2.2.2.2.2.2.2.2.2.2.2.1)
     have HS16_ := (hb.cell (World.block_lt_of_cell? _ _ (hHeld.2.2.2.2.2.2.2.2.2.2.2.2.2.2.2.2))).trans (hHeld.2.2.2.2.2.2.2.2.2.2.2.2.2.2.2.2)
     refine ⟨_, rfl, ?_⟩
     replace HO_6 := a_ (Km.R_below (by (with_reducible repeat (first | apply Km.R_alloc | apply Km.R_drewN | apply Km.R_drew)); exact HO_6.out) hb)
     replace HO_7 := a_ (Kd.R_below HO_7.out (tr hb))
     replace BK225 := a_ (kB_ BK225.out (tr hb))
     replace BK253 := a_ (kB_ BK253.out (tr hb))
     replace HB := a_ (bT_ (by exact gs HB.out) hb)
     (try clear hb)
     (try clear hb2)
     (try clear hk)
     (try clear hi)
     refine hK.out _ _ ⟨(kc_ BK225.out 0).trans rfl, (kc_ BK225.out 1).trans rfl, (kc_ BK225.out 2).trans rfl, (kc_ BK225.out 3).trans rfl, (kc_ BK225.out 4).trans rfl, (kc_ BK225.out 5).trans rfl, (kc_ BK225.out 6).trans rfl, (kc_ BK225.out 7).trans rfl, (kc_ BK225.out 8).trans rfl, (kc_ BK225.out 9).trans rfl, (kc_ BK225.out 10).trans rfl, (kc_ BK225.out 11).trans rfl, HS12_, HS13_, HS14_, HS15_, HS16_⟩ (fun hHeld => ?_)
     clear hK K
     refine norm_ (a' := ?_) ?_ ?_
     rotate_left
     ·show Act.put _ (some 36) _ = _
      simp only [Act.put, List.setIfInBounds_toArray, List.set_cons_zero, List.set_cons_succ, i64_w, i32_w]
      rfl
     refine one_ (i := 7) (N := some 41) #[true, true, true, true, true, true, true, true, true, false] rfl rfl (one_of HT_.out (by kernel_rfl)) (by decide) (fun K hK => ?_)
     refine goes_ Try.func78 (by kernel_rfl) rfl #[.agg #[.int .i64 t242, .int .i64 t243, .int .i64 t244, .int .i64 t245, .int .i64 t246], .agg #[.int .i64 ((rd_T75 x7_2 x8_1).f0), .int .i64 ((rd_T75 x7_2 x8_1).f1), .int .i64 ((rd_T75 x7_2 x8_1).f2), .int .i64 ((rd_T75 x7_2 x8_1).f3), .int .i64 ((rd_T75 x7_2 x8_1).f4)]] (by rfl) rfl rfl (by (try simp only [List.map_toArray, List.map_cons, List.map_nil]); first | done | rfl | (simp only [List.length_drop, List.length_take]; rfl)) ?_
     with_reducible refine (c_column_after.calls k2 t242 t243 t244 t245 t246 ((rd_T75 x7_2 x8_1).f0) ((rd_T75 x7_2 x8_1).f1) ((rd_T75 x7_2 x8_1).f2) ((rd_T75 x7_2 x8_1).f3) ((rd_T75 x7_2 x8_1).f4) t248 t249 t250 t251 t252 _ A22.out).mono ?_
     rintro e w29 ⟨rfl, hb⟩
     have HS12_ := (hb.cell (World.block_lt_of_cell? _ _ (hHeld.2.2.2.2.2.2.2.2.2.2.2.2.1))).trans (hHeld.2.2.2.2.2.2.2.2.2.2.2.2.1)
     have HS13_ := (hb.cell (World.block_lt_of_cell? _ _ (hHeld.2.2.2.2.2.2.2.2.2.2.2.2.2.1))).trans (hHeld.2.2.2.2.2.2.2.2.2.2.2.2.2.1)
     have HS14_ := (hb.cell (World.block_lt_of_cell? _ _ (hHeld.2.2.2.2.2.2.2.2.2.2.2.2.2.2.1))).trans (hHeld.2.2.2.2.2.2.2.2.2.2.2.2.2.2.1)
     have HS15_ := (hb.cell (World.block_lt_of_cell? _ _ (hHeld.2.2.2.2.2.2.2.2.2.2.2.2.2.2.2.1))).trans (hHeld.2.2.2.2.2.2.2.2.2.2.2.2.2.2.2.1)
     have HS16_ := (hb.cell (World.block_lt_of_cell? _ _ (hHeld.2.2.2.2.2.2.2.2.2.2.2.2.2.2.2.2))).trans (hHeld.2.2.2.2.2.2.2.2.2.2.2.2.2.2.2.2)
     refine ⟨_, rfl, ?_⟩
     replace HO_6 := a_ (Km.R_below (by (with_reducible repeat (first | apply Km.R_alloc | apply Km.R_drewN | apply Km.R_drew)); exact HO_6.out) hb)
     replace HO_7 := a_ (Kd.R_below HO_7.out (tr hb))
     replace BK225 := a_ (kB_ BK225.out (tr hb))
     replace BK253 := a_ (kB_ BK253.out (tr hb))
     replace HB := a_ (bT_ (by exact gs HB.out) hb)
     (try clear hb)
     (try clear hb2)
     (try clear hk)
     (try clear hi)
     refine hK.out _ _ ⟨(kc_ BK225.out 0).trans rfl, (kc_ BK225.out 1).trans rfl, (kc_ BK225.out 2).trans rfl, (kc_ BK225.out 3).trans rfl, (kc_ BK225.out 4).trans rfl, (kc_ BK225.out 5).trans rfl, (kc_ BK225.out 6).trans rfl, (kc_ BK225.out 7).trans rfl, (kc_ BK225.out 8).trans rfl, (kc_ BK225.out 9).trans rfl, (kc_ BK225.out 10).trans rfl, (kc_ BK225.out 11).trans rfl, HS12_, HS13_, HS14_, HS15_, HS16_⟩ (fun hHeld => ?_)
     clear hK K
     refine norm_ (a' := ?_) ?_ ?_
     rotate_left
     ·show Act.put _ (some 41) _ = _
      simp only [Act.put, List.setIfInBounds_toArray, List.set_cons_zero, List.set_cons_succ, i64_w, i32_w]
      rfl
     exact norm_ (by simp only [putAll, Act.put, List.setIfInBounds_toArray, List.set_cons_zero, List.set_cons_succ]) (hCont (gb253) _ ⟨hHeld, (by (with_reducible repeat (first | apply Km.R_alloc | apply Km.R_drewN | apply Km.R_drew)); exact HO_6.out), (by exact rk HO_7.out), (by exact bk BK225.out), (by exact bk BK253.out), GW253.out, GE253.out, NB225_253.out, NB253_225.out, (by exact gs HB.out)⟩)
   rintro gb253 w30 ⟨hS_, h0_, h1_, h2_, h3_, h4_, h5_, h6_, h7_, h8_⟩
   have n0_ : Aside0 (Km.R k75 75 w30 w.heap.size (fun k_ => some k_ ≠ (.slice (some ad247) x7_2.length co26 : Value).ownBlock ∧ k_ ≠ gb253) (.map (some w7.heap.size) : Value) x6_2) := ⟨h0_⟩
   have n1_ : Aside0 (Kd.R k75 75 w30 w.heap.size (fun k_ => some k_ ≠ (.map (some w7.heap.size) : Value).ownBlock ∧ k_ ≠ gb253) (.slice (some ad247) x7_2.length co26) x7_2) := ⟨h1_⟩
   have n2_ : Aside0 (w30.heap[gb225]? = some (.cells #[.int .i64 t212, .int .i64 t213, .int .i64 t214, .int .i64 t215, .int .i64 t216, .int .i64 t217, .int .i64 t218, .int .i64 t219, .int .i64 t220, .int .i64 t221, .int .i64 t222, .int .i64 t223] 78 (0, 0))) := ⟨h2_⟩
   have n3_ : Aside0 (w30.heap[gb253]? = some (.cells #[.int .i64 0, .int .i64 0, .int .i64 0, .int .i64 0, .int .i64 0] 75 (0, 0))) := ⟨h3_⟩
   have n4_ : Aside0 (w.heap.size ≤ gb253) := ⟨h4_⟩
   have n5_ : Aside0 (w.heap.size ≤ gb253) := ⟨h5_⟩
   have n6_ : Aside0 (gb225 ≠ gb253) := ⟨h6_⟩
   have n7_ : Aside0 (gb253 ≠ gb225) := ⟨h7_⟩
   have n8_ : Aside0 (Below w.heap.size w w30) := ⟨h8_⟩
   clear HO_6
   clear HO_7
   clear BK225
   clear HB
   clear h0_ h1_ h2_ h3_ h4_ h5_ h6_ h7_ h8_
   have HO_6 := n0_
   have HO_7 := n1_
   have BK225 := n2_
   have BK253 := n3_
   have GW253 := n4_
   have GE253 := GEc.mk n5_.out
   have NB225_253 := NEc.mk n6_.out
   have NB253_225 := NEc.mk n7_.out
   have HB := n8_
   clear n0_ n1_ n2_ n3_ n4_ n5_ n6_ n7_ n8_
   have hHeld : w30.cell? ⟨gb225, 0, none⟩ = some (.int .i64 t212) ∧ w30.cell? ⟨gb225, 1, none⟩ = some (.int .i64 t213) ∧ w30.cell? ⟨gb225, 2, none⟩ = some (.int .i64 t214) ∧ w30.cell? ⟨gb225, 3, none⟩ = some (.int .i64 t215) ∧ w30.cell? ⟨gb225, 4, none⟩ = some (.int .i64 t216) ∧ w30.cell? ⟨gb225, 5, none⟩ = some (.int .i64 t217) ∧ w30.cell? ⟨gb225, 6, none⟩ = some (.int .i64 t218) ∧ w30.cell? ⟨gb225, 7, none⟩ = some (.int .i64 t219) ∧ w30.cell? ⟨gb225, 8, none⟩ = some (.int .i64 t220) ∧ w30.cell? ⟨gb225, 9, none⟩ = some (.int .i64 t221) ∧ w30.cell? ⟨gb225, 10, none⟩ = some (.int .i64 t222) ∧ w30.cell? ⟨gb225, 11, none⟩ = some (.int .i64 t223) ∧ w30.cell? (ad247.add ((x8_1).toNat * 5)) = some (.int .i64 ((rd_T75 x7_2 x8_1).f0)) ∧ w30.cell? ⟨(ad247.add ((x8_1).toNat * 5)).block, (ad247.add ((x8_1).toNat * 5)).off + 1, none⟩ = some (.int .i64 ((rd_T75 x7_2 x8_1).f1)) ∧ w30.cell? ⟨(ad247.add ((x8_1).toNat * 5)).block, (ad247.add ((x8_1).toNat * 5)).off + 2, none⟩ = some (.int .i64 ((rd_T75 x7_2 x8_1).f2)) ∧ w30.cell? ⟨(ad247.add ((x8_1).toNat * 5)).block, (ad247.add ((x8_1).toNat * 5)).off + 3, none⟩ = some (.int .i64 ((rd_T75 x7_2 x8_1).f3)) ∧ w30.cell? ⟨(ad247.add ((x8_1).toNat * 5)).block, (ad247.add ((x8_1).toNat * 5)).off + 4, none⟩ = some (.int .i64 ((rd_T75 x7_2 x8_1).f4)) := hS_
   refine norm_ (a' := ?_) ?_ ?_
   rotate_left
   ·simp only [putAll, Act.put, List.setIfInBounds_toArray, List.set_cons_zero, List.set_cons_succ]
    rfl
   refine one_ (i := 9) (N := none) #[true, true, true, true, true, true, true, true, true, true] rfl rfl (one_of HT_.out (by kernel_rfl)) (by decide) (fun K hK => ?_)
   have hs31 : w30.cell? ⟨gb253, 0, none⟩ = some (.int .i64 0) := (kc_ BK253.out 0).trans rfl
   have hfs31 := kf_ BK253.out 0
   have hns31_0 := NB225_253.out
   have hms31_0 := NB253_225.out
   have hs32 : w30.cell? ⟨gb253, 1, none⟩ = some (.int .i64 0) := (kc_ BK253.out 1).trans rfl
   have hfs32 := kf_ BK253.out 1
   have hns32_0 := NB225_253.out
   have hms32_0 := NB253_225.out
   have hs33 : w30.cell? ⟨gb253, 2, none⟩ = some (.int .i64 0) := (kc_ BK253.out 2).trans rfl
   have hfs33 := kf_ BK253.out 2
   have hns33_0 := NB225_253.out
   have hms33_0 := NB253_225.out
   have hs34 : w30.cell? ⟨gb253, 3, none⟩ = some (.int .i64 0) := (kc_ BK253.out 3).trans rfl
   have hfs34 := kf_ BK253.out 3
   have hns34_0 := NB225_253.out
   have hms34_0 := NB253_225.out
   have hs35 : w30.cell? ⟨gb253, 4, none⟩ = some (.int .i64 0) := (kc_ BK253.out 4).trans rfl
   have hfs35 := kf_ BK253.out 4
   have hns35_0 := NB225_253.out
   have hms35_0 := NB253_225.out
   refine skip_ (w1 := ?_) (by rfl) rfl ?_ ?_
   rotate_left
   ·go_simp
    rfl
   refine hK.out _ _ ⟨((cell_far (p := ⟨gb253, _, none⟩) NB225_253.out _).trans (((cell_far (p := ⟨gb253, _, none⟩) NB225_253.out _).trans (((cell_far (p := ⟨gb253, _, none⟩) NB225_253.out _).trans (((cell_far (p := ⟨gb253, _, none⟩) NB225_253.out _).trans (((cell_far (p := ⟨gb253, _, none⟩) NB225_253.out _).trans (hHeld.1)))))))))), ((cell_far (p := ⟨gb253, _, none⟩) NB225_253.out _).trans (((cell_far (p := ⟨gb253, _, none⟩) NB225_253.out _).trans (((cell_far (p := ⟨gb253, _, none⟩) NB225_253.out _).trans (((cell_far (p := ⟨gb253, _, none⟩) NB225_253.out _).trans (((cell_far (p := ⟨gb253, _, none⟩) NB225_253.out _).trans (hHeld.2.1)))))))))), ((cell_far (p := ⟨gb253, _, none⟩) NB225_253.out _).trans (((cell_far (p := ⟨gb253, _, none⟩) NB225_253.out _).trans (((cell_far (p := ⟨gb253, _, none⟩) NB225_253.out _).trans (((cell_far (p := ⟨gb253, _, none⟩) NB225_253.out _).trans (((cell_far (p := ⟨gb253, _, none⟩) NB225_253.out _).trans (hHeld.2.2.1)))))))))), ((cell_far (p := ⟨gb253, _, none⟩) NB225_253.out _).trans (((cell_far (p := ⟨gb253, _, none⟩) NB225_253.out _).trans (((cell_far (p := ⟨gb253, _, none⟩) NB225_253.out _).trans (((cell_far (p := ⟨gb253, _, none⟩) NB225_253.out _).trans (((cell_far (p := ⟨gb253, _, none⟩) NB225_253.out _).trans (hHeld.2.2.2.1)))))))))), ((cell_far (p := ⟨gb253, _, none⟩) NB225_253.out _).trans (((cell_far (p := ⟨gb253, _, none⟩) NB225_253.out _).trans (((cell_far (p := ⟨gb253, _, none⟩) NB225_253.out _).trans (((cell_far (p := ⟨gb253, _, none⟩) NB225_253.out _).trans (((cell_far (p := ⟨gb253, _, none⟩) NB225_253.out _).trans (hHeld.2.2.2.2.1)))))))))), ((cell_far (p := ⟨gb253, _, none⟩) NB225_253.out _).trans (((cell_far (p := ⟨gb253, _, none⟩) NB225_253.out _).trans (((cell_far (p := ⟨gb253, _, none⟩) NB225_253.out _).trans (((cell_far (p := ⟨gb253, _, none⟩) NB225_253.out _).trans (((cell_far (p := ⟨gb253, _, none⟩) NB225_253.out _).trans (hHeld.2.2.2.2.2.1)))))))))), ((cell_far (p := ⟨gb253, _, none⟩) NB225_253.out _).trans (((cell_far (p := ⟨gb253, _, none⟩) NB225_253.out _).trans (((cell_far (p := ⟨gb253, _, none⟩) NB225_253.out _).trans (((cell_far (p := ⟨gb253, _, none⟩) NB225_253.out _).trans (((cell_far (p := ⟨gb253, _, none⟩) NB225_253.out _).trans (hHeld.2.2.2.2.2.2.1)))))))))), ((cell_far (p := ⟨gb253, _, none⟩) NB225_253.out _).trans (((cell_far (p := ⟨gb253, _, none⟩) NB225_253.out _).trans (((cell_far (p := ⟨gb253, _, none⟩) NB225_253.out _).trans (((cell_far (p := ⟨gb253, _, none⟩) NB225_253.out _).trans (((cell_far (p := ⟨gb253, _, none⟩) NB225_253.out _).trans (hHeld.2.2.2.2.2.2.2.1)))))))))), ((cell_far (p := ⟨gb253, _, none⟩) NB225_253.out _).trans (((cell_far (p := ⟨gb253, _, none⟩) NB225_253.out _).trans (((cell_far (p := ⟨gb253, _, none⟩) NB225_253.out _).trans (((cell_far (p := ⟨gb253, _, none⟩) NB225_253.out _).trans (((cell_far (p := ⟨gb253, _, none⟩) NB225_253.out _).trans (hHeld.2.2.2.2.2.2.2.2.1)))))))))), ((cell_far (p := ⟨gb253, _, none⟩) NB225_253.out _).trans (((cell_far (p := ⟨gb253, _, none⟩) NB225_253.out _).trans (((cell_far (p := ⟨gb253, _, none⟩) NB225_253.out _).trans (((cell_far (p := ⟨gb253, _, none⟩) NB225_253.out _).trans (((cell_far (p := ⟨gb253, _, none⟩) NB225_253.out _).trans (hHeld.2.2.2.2.2.2.2.2.2.1)))))))))), ((cell_far (p := ⟨gb253, _, none⟩) NB225_253.out _).trans (((cell_far (p := ⟨gb253, _, none⟩) NB225_253.out _).trans (((cell_far (p := ⟨gb253, _, none⟩) NB225_253.out _).trans (((cell_far (p := ⟨gb253, _, none⟩) NB225_253.out _).trans (((cell_far (p := ⟨gb253, _, none⟩) NB225_253.out _).trans (hHeld.2.2.2.2.2.2.2.2.2.2.1)))))))))), ((cell_far (p := ⟨gb253, _, none⟩) NB225_253.out _).trans (((cell_far (p := ⟨gb253, _, none⟩) NB225_253.out _).trans (((cell_far (p := ⟨gb253, _, none⟩) NB225_253.out _).trans (((cell_far (p := ⟨gb253, _, none⟩) NB225_253.out _).trans (((cell_far (p := ⟨gb253, _, none⟩) NB225_253.out _).trans (hHeld.2.2.2.2.2.2.2.2.2.2.2.1)))))))))), ((cell_far (p := ⟨gb253, _, none⟩) (by first | exact Kd.own_blk (Kd.R_away HO_7.out (fun _ hk => hk.2)) | (rw [add_block]; exact Kd.own_blk (Kd.R_away HO_7.out (fun _ hk => hk.2))) | (show (Addr.add _ _).block ≠ _; rw [add_block]; exact Kd.own_blk (Kd.R_away HO_7.out (fun _ hk => hk.2))) | (dsimp only; exact Kd.own_blk (Kd.R_away HO_7.out (fun _ hk => hk.2)))) _).trans (((cell_far (p := ⟨gb253, _, none⟩) (by first | exact Kd.own_blk (Kd.R_away HO_7.out (fun _ hk => hk.2)) | (rw [add_block]; exact Kd.own_blk (Kd.R_away HO_7.out (fun _ hk => hk.2))) | (show (Addr.add _ _).block ≠ _; rw [add_block]; exact Kd.own_blk (Kd.R_away HO_7.out (fun _ hk => hk.2))) | (dsimp only; exact Kd.own_blk (Kd.R_away HO_7.out (fun _ hk => hk.2)))) _).trans (((cell_far (p := ⟨gb253, _, none⟩) (by first | exact Kd.own_blk (Kd.R_away HO_7.out (fun _ hk => hk.2)) | (rw [add_block]; exact Kd.own_blk (Kd.R_away HO_7.out (fun _ hk => hk.2))) | (show (Addr.add _ _).block ≠ _; rw [add_block]; exact Kd.own_blk (Kd.R_away HO_7.out (fun _ hk => hk.2))) | (dsimp only; exact Kd.own_blk (Kd.R_away HO_7.out (fun _ hk => hk.2)))) _).trans (((cell_far (p := ⟨gb253, _, none⟩) (by first | exact Kd.own_blk (Kd.R_away HO_7.out (fun _ hk => hk.2)) | (rw [add_block]; exact Kd.own_blk (Kd.R_away HO_7.out (fun _ hk => hk.2))) | (show (Addr.add _ _).block ≠ _; rw [add_block]; exact Kd.own_blk (Kd.R_away HO_7.out (fun _ hk => hk.2))) | (dsimp only; exact Kd.own_blk (Kd.R_away HO_7.out (fun _ hk => hk.2)))) _).trans (((cell_far (p := ⟨gb253, _, none⟩) (by first | exact Kd.own_blk (Kd.R_away HO_7.out (fun _ hk => hk.2)) | (rw [add_block]; exact Kd.own_blk (Kd.R_away HO_7.out (fun _ hk => hk.2))) | (show (Addr.add _ _).block ≠ _; rw [add_block]; exact Kd.own_blk (Kd.R_away HO_7.out (fun _ hk => hk.2))) | (dsimp only; exact Kd.own_blk (Kd.R_away HO_7.out (fun _ hk => hk.2)))) _).trans (hHeld.2.2.2.2.2.2.2.2.2.2.2.2.1)))))))))), ((cell_far (p := ⟨gb253, _, none⟩) (by first | exact Kd.own_blk (Kd.R_away HO_7.out (fun _ hk => hk.2)) | (rw [add_block]; exact Kd.own_blk (Kd.R_away HO_7.out (fun _ hk => hk.2))) | (show (Addr.add _ _).block ≠ _; rw [add_block]; exact Kd.own_blk (Kd.R_away HO_7.out (fun _ hk => hk.2))) | (dsimp only; exact Kd.own_blk (Kd.R_away HO_7.out (fun _ hk => hk.2)))) _).trans (((cell_far (p := ⟨gb253, _, none⟩) (by first | exact Kd.own_blk (Kd.R_away HO_7.out (fun _ hk => hk.2)) | (rw [add_block]; exact Kd.own_blk (Kd.R_away HO_7.out (fun _ hk => hk.2))) | (show (Addr.add _ _).block ≠ _; rw [add_block]; exact Kd.own_blk (Kd.R_away HO_7.out (fun _ hk => hk.2))) | (dsimp only; exact Kd.own_blk (Kd.R_away HO_7.out (fun _ hk => hk.2)))) _).trans (((cell_far (p := ⟨gb253, _, none⟩) (by first | exact Kd.own_blk (Kd.R_away HO_7.out (fun _ hk => hk.2)) | (rw [add_block]; exact Kd.own_blk (Kd.R_away HO_7.out (fun _ hk => hk.2))) | (show (Addr.add _ _).block ≠ _; rw [add_block]; exact Kd.own_blk (Kd.R_away HO_7.out (fun _ hk => hk.2))) | (dsimp only; exact Kd.own_blk (Kd.R_away HO_7.out (fun _ hk => hk.2)))) _).trans (((cell_far (p := ⟨gb253, _, none⟩) (by first | exact Kd.own_blk (Kd.R_away HO_7.out (fun _ hk => hk.2)) | (rw [add_block]; exact Kd.own_blk (Kd.R_away HO_7.out (fun _ hk => hk.2))) | (show (Addr.add _ _).block ≠ _; rw [add_block]; exact Kd.own_blk (Kd.R_away HO_7.out (fun _ hk => hk.2))) | (dsimp only; exact Kd.own_blk (Kd.R_away HO_7.out (fun _ hk => hk.2)))) _).trans (((cell_far (p := ⟨gb253, _, none⟩) (by first | exact Kd.own_blk (Kd.R_away HO_7.out (fun _ hk => hk.2)) | (rw [add_block]; exact Kd.own_blk (Kd.R_away HO_7.out (fun _ hk => hk.2))) | (show (Addr.add _ _).block ≠ _; rw [add_block]; exact Kd.own_blk (Kd.R_away HO_7.out (fun _ hk => hk.2))) | (dsimp only; exact Kd.own_blk (Kd.R_away HO_7.out (fun _ hk => hk.2)))) _).trans (hHeld.2.2.2.2.2.2.2.2.2.2.2.2.2.1)))))))))), ((cell_far (p := ⟨gb253, _, none⟩) (by first | exact Kd.own_blk (Kd.R_away HO_7.out (fun _ hk => hk.2)) | (rw [add_block]; exact Kd.own_blk (Kd.R_away HO_7.out (fun _ hk => hk.2))) | (show (Addr.add _ _).block ≠ _; rw [add_block]; exact Kd.own_blk (Kd.R_away HO_7.out (fun _ hk => hk.2))) | (dsimp only; exact Kd.own_blk (Kd.R_away HO_7.out (fun _ hk => hk.2)))) _).trans (((cell_far (p := ⟨gb253, _, none⟩) (by first | exact Kd.own_blk (Kd.R_away HO_7.out (fun _ hk => hk.2)) | (rw [add_block]; exact Kd.own_blk (Kd.R_away HO_7.out (fun _ hk => hk.2))) | (show (Addr.add _ _).block ≠ _; rw [add_block]; exact Kd.own_blk (Kd.R_away HO_7.out (fun _ hk => hk.2))) | (dsimp only; exact Kd.own_blk (Kd.R_away HO_7.out (fun _ hk => hk.2)))) _).trans (((cell_far (p := ⟨gb253, _, none⟩) (by first | exact Kd.own_blk (Kd.R_away HO_7.out (fun _ hk => hk.2)) | (rw [add_block]; exact Kd.own_blk (Kd.R_away HO_7.out (fun _ hk => hk.2))) | (show (Addr.add _ _).block ≠ _; rw [add_block]; exact Kd.own_blk (Kd.R_away HO_7.out (fun _ hk => hk.2))) | (dsimp only; exact Kd.own_blk (Kd.R_away HO_7.out (fun _ hk => hk.2)))) _).trans (((cell_far (p := ⟨gb253, _, none⟩) (by first | exact Kd.own_blk (Kd.R_away HO_7.out (fun _ hk => hk.2)) | (rw [add_block]; exact Kd.own_blk (Kd.R_away HO_7.out (fun _ hk => hk.2))) | (show (Addr.add _ _).block ≠ _; rw [add_block]; exact Kd.own_blk (Kd.R_away HO_7.out (fun _ hk => hk.2))) | (dsimp only; exact Kd.own_blk (Kd.R_away HO_7.out (fun _ hk => hk.2)))) _).trans (((cell_far (p := ⟨gb253, _, none⟩) (by first | exact Kd.own_blk (Kd.R_away HO_7.out (fun _ hk => hk.2)) | (rw [add_block]; exact Kd.own_blk (Kd.R_away HO_7.out (fun _ hk => hk.2))) | (show (Addr.add _ _).block ≠ _; rw [add_block]; exact Kd.own_blk (Kd.R_away HO_7.out (fun _ hk => hk.2))) | (dsimp only; exact Kd.own_blk (Kd.R_away HO_7.out (fun _ hk => hk.2)))) _).trans (hHeld.2.2.2.2.2.2.2.2.2.2.2.2.2.2.1)))))))))), ((cell_far (p := ⟨gb253, _, none⟩) (by first | exact Kd.own_blk (Kd.R_away HO_7.out (fun _ hk => hk.2)) | (rw [add_block]; exact Kd.own_blk (Kd.R_away HO_7.out (fun _ hk => hk.2))) | (show (Addr.add _ _).block ≠ _; rw [add_block]; exact Kd.own_blk (Kd.R_away HO_7.out (fun _ hk => hk.2))) | (dsimp only; exact Kd.own_blk (Kd.R_away HO_7.out (fun _ hk => hk.2)))) _).trans (((cell_far (p := ⟨gb253, _, none⟩) (by first | exact Kd.own_blk (Kd.R_away HO_7.out (fun _ hk => hk.2)) | (rw [add_block]; exact Kd.own_blk (Kd.R_away HO_7.out (fun _ hk => hk.2))) | (show (Addr.add _ _).block ≠ _; rw [add_block]; exact Kd.own_blk (Kd.R_away HO_7.out (fun _ hk => hk.2))) | (dsimp only; exact Kd.own_blk (Kd.R_away HO_7.out (fun _ hk => hk.2)))) _).trans (((cell_far (p := ⟨gb253, _, none⟩) (by first | exact Kd.own_blk (Kd.R_away HO_7.out (fun _ hk => hk.2)) | (rw [add_block]; exact Kd.own_blk (Kd.R_away HO_7.out (fun _ hk => hk.2))) | (show (Addr.add _ _).block ≠ _; rw [add_block]; exact Kd.own_blk (Kd.R_away HO_7.out (fun _ hk => hk.2))) | (dsimp only; exact Kd.own_blk (Kd.R_away HO_7.out (fun _ hk => hk.2)))) _).trans (((cell_far (p := ⟨gb253, _, none⟩) (by first | exact Kd.own_blk (Kd.R_away HO_7.out (fun _ hk => hk.2)) | (rw [add_block]; exact Kd.own_blk (Kd.R_away HO_7.out (fun _ hk => hk.2))) | (show (Addr.add _ _).block ≠ _; rw [add_block]; exact Kd.own_blk (Kd.R_away HO_7.out (fun _ hk => hk.2))) | (dsimp only; exact Kd.own_blk (Kd.R_away HO_7.out (fun _ hk => hk.2)))) _).trans (((cell_far (p := ⟨gb253, _, none⟩) (by first | exact Kd.own_blk (Kd.R_away HO_7.out (fun _ hk => hk.2)) | (rw [add_block]; exact Kd.own_blk (Kd.R_away HO_7.out (fun _ hk => hk.2))) | (show (Addr.add _ _).block ≠ _; rw [add_block]; exact Kd.own_blk (Kd.R_away HO_7.out (fun _ hk => hk.2))) | (dsimp only; exact Kd.own_blk (Kd.R_away HO_7.out (fun _ hk => hk.2)))) _).trans (hHeld.2.2.2.2.2.2.2.2.2.2.2.2.2.2.2.1)))))))))), ((cell_far (p := ⟨gb253, _, none⟩) (by first | exact Kd.own_blk (Kd.R_away HO_7.out (fun _ hk => hk.2)) | (rw [add_block]; exact Kd.own_blk (Kd.R_away HO_7.out (fun _ hk => hk.2))) | (show (Addr.add _ _).block ≠ _; rw [add_block]; exact Kd.own_blk (Kd.R_away HO_7.out (fun _ hk => hk.2))) | (dsimp only; exact Kd.own_blk (Kd.R_away HO_7.out (fun _ hk => hk.2)))) _).trans (((cell_far (p := ⟨gb253, _, none⟩) (by first | exact Kd.own_blk (Kd.R_away HO_7.out (fun _ hk => hk.2)) | (rw [add_block]; exact Kd.own_blk (Kd.R_away HO_7.out (fun _ hk => hk.2))) | (show (Addr.add _ _).block ≠ _; rw [add_block]; exact Kd.own_blk (Kd.R_away HO_7.out (fun _ hk => hk.2))) | (dsimp only; exact Kd.own_blk (Kd.R_away HO_7.out (fun _ hk => hk.2)))) _).trans (((cell_far (p := ⟨gb253, _, none⟩) (by first | exact Kd.own_blk (Kd.R_away HO_7.out (fun _ hk => hk.2)) | (rw [add_block]; exact Kd.own_blk (Kd.R_away HO_7.out (fun _ hk => hk.2))) | (show (Addr.add _ _).block ≠ _; rw [add_block]; exact Kd.own_blk (Kd.R_away HO_7.out (fun _ hk => hk.2))) | (dsimp only; exact Kd.own_blk (Kd.R_away HO_7.out (fun _ hk => hk.2)))) _).trans (((cell_far (p := ⟨gb253, _, none⟩) (by first | exact Kd.own_blk (Kd.R_away HO_7.out (fun _ hk => hk.2)) | (rw [add_block]; exact Kd.own_blk (Kd.R_away HO_7.out (fun _ hk => hk.2))) | (show (Addr.add _ _).block ≠ _; rw [add_block]; exact Kd.own_blk (Kd.R_away HO_7.out (fun _ hk => hk.2))) | (dsimp only; exact Kd.own_blk (Kd.R_away HO_7.out (fun _ hk => hk.2)))) _).trans (((cell_far (p := ⟨gb253, _, none⟩) (by first | exact Kd.own_blk (Kd.R_away HO_7.out (fun _ hk => hk.2)) | (rw [add_block]; exact Kd.own_blk (Kd.R_away HO_7.out (fun _ hk => hk.2))) | (show (Addr.add _ _).block ≠ _; rw [add_block]; exact Kd.own_blk (Kd.R_away HO_7.out (fun _ hk => hk.2))) | (dsimp only; exact Kd.own_blk (Kd.R_away HO_7.out (fun _ hk => hk.2)))) _).trans (hHeld.2.2.2.2.2.2.2.2.2.2.2.2.2.2.2.2))))))))))⟩ (fun hHeld => ?_)
   clear hK K
   refine done_ (done_of HT_.out (by kernel_rfl)) ?_
   have hnb36 := NB253_225.out
   have hnc36 := NB225_253.out
   have hcz37_0 : w30.cell? ⟨gb253, 0, none⟩ = some (.int .i64 0) := (kc_ BK253.out 0).trans rfl
   have hcz37_1 : w30.cell? ⟨gb253, 1, none⟩ = some (.int .i64 0) := (kc_ BK253.out 1).trans rfl
   have hcz37_2 : w30.cell? ⟨gb253, 2, none⟩ = some (.int .i64 0) := (kc_ BK253.out 2).trans rfl
   have hcz37_3 : w30.cell? ⟨gb253, 3, none⟩ = some (.int .i64 0) := (kc_ BK253.out 3).trans rfl
   have hcz37_4 : w30.cell? ⟨gb253, 4, none⟩ = some (.int .i64 0) := (kc_ BK253.out 4).trans rfl
   have hfz37_0 := kf_ BK253.out 0
   have hfz37_1 := kf_ BK253.out 1
   have hfz37_2 := kf_ BK253.out 2
   have hfz37_3 := kf_ BK253.out 3
   have hfz37_4 := kf_ BK253.out 4
   go_upto_if 45 with (first | ((with_reducible refine gate_ (Op.lookup 113 (.tmp 42) (.tmp 43) false) rfl ?_); (refine Km.wp_look (d := k75) (e := 75) (base := w.heap.size) (ok := fun k_ => (some k_ ≠ (.slice (some ad247) x7_2.length co26 : Value).ownBlock ∧ k_ ≠ gb253)) (v := .map (some w7.heap.size)) (xs := x6_2) (by (with_reducible repeat (first | apply Km.R_alloc | apply Km.R_drewN | apply Km.R_drew)); exact (Km.R_mono (Km.R_far (p := ⟨gb253, 4, none⟩) (Km.R_far (p := ⟨gb253, 3, none⟩) (Km.R_far (p := ⟨gb253, 2, none⟩) (Km.R_far (p := ⟨gb253, 1, none⟩) (Km.R_far (p := ⟨gb253, 0, none⟩) (Km.R_mono HO_6.out (fun k_ hk => (⟨hk, hk.2⟩ : _ ∧ k_ ≠ gb253))) (fun _ hk => hk.2) (.int .i64 t248)) (fun _ hk => hk.2) (.int .i64 t249)) (fun _ hk => hk.2) (.int .i64 t250)) (fun _ hk => hk.2) (.int .i64 t251)) (fun _ hk => hk.2) (.int .i64 t252)) (fun _ h_ => h_.1))) rfl (.tmp 42) (.tmp 43) rfl rfl (⟨t248, t249, t250, t251, t252⟩ : S75) rfl (hasC_good A23.out).1 t254 (hasC_good A23.out).2 ?_); intro w39 hb; replace HO_6 := a_ (Km.R_below (by (with_reducible repeat (first | apply Km.R_alloc | apply Km.R_drewN | apply Km.R_drew)); exact (Km.R_mono (Km.R_far (p := ⟨gb253, 4, none⟩) (Km.R_far (p := ⟨gb253, 3, none⟩) (Km.R_far (p := ⟨gb253, 2, none⟩) (Km.R_far (p := ⟨gb253, 1, none⟩) (Km.R_far (p := ⟨gb253, 0, none⟩) (Km.R_mono HO_6.out (fun k_ hk => (⟨hk, hk.2⟩ : _ ∧ k_ ≠ gb253))) (fun _ hk => hk.2) (.int .i64 t248)) (fun _ hk => hk.2) (.int .i64 t249)) (fun _ hk => hk.2) (.int .i64 t250)) (fun _ hk => hk.2) (.int .i64 t251)) (fun _ hk => hk.2) (.int .i64 t252)) (fun _ h_ => h_.1))) hb); replace HO_7 := a_ (Kd.R_below (by exact rk ((Kd.R_mono (Kd.R_far (p := ⟨gb253, 4, none⟩) (Kd.R_far (p := ⟨gb253, 3, none⟩) (Kd.R_far (p := ⟨gb253, 2, none⟩) (Kd.R_far (p := ⟨gb253, 1, none⟩) (Kd.R_far (p := ⟨gb253, 0, none⟩) (Kd.R_mono HO_7.out (fun k_ hk => (⟨hk, hk.2⟩ : _ ∧ k_ ≠ gb253))) (fun _ hk => hk.2) (.int .i64 t248)) (fun _ hk => hk.2) (.int .i64 t249)) (fun _ hk => hk.2) (.int .i64 t250)) (fun _ hk => hk.2) (.int .i64 t251)) (fun _ hk => hk.2) (.int .i64 t252)) (fun _ h_ => h_.1)))) hb); replace BK225 := a_ (kB_ (g := gb225) (o := .cells #[.int .i64 t212, .int .i64 t213, .int .i64 t214, .int .i64 t215, .int .i64 t216, .int .i64 t217, .int .i64 t218, .int .i64 t219, .int .i64 t220, .int .i64 t221, .int .i64 t222, .int .i64 t223] 78 (0, 0)) (by exact bk BK225.out) hb); replace BK253 := a_ (kB_ (g := gb253) (o := .cells #[.int .i64 t248, .int .i64 t249, .int .i64 t250, .int .i64 t251, .int .i64 t252] 75 (0, 0)) (by exact pb BK253.out (by rfl)) hb); replace HB := a_ (bT_ (by exact gs HB.out) hb); (try clear hi)))
   (try simp only [Act.put, List.setIfInBounds_toArray, List.set_cons_zero, List.set_cons_succ])
   have H := HC24.out
   clear HC24
   by_cases c40 : t254 = true
   ·subst c40
    have H1 := H; rw [if_pos rfl] at H1
    clear H
    have H := H1
    clear H1
    obtain ⟨kj9, hkj_⟩ : ∃ r, k2 = r + 1 := by
     cases k2 with
     | zero => exact absurd H (by simp [c_Order.j2])
     | succ r => exact ⟨r, rfl⟩
    rw [hkj_] at H
    simp only [c_Order.j2] at H
    have HJ9 := a_ (show kj9 + 1 ≤ k2 from Nat.le_of_eq hkj_.symm)
    clear hkj_
    have H' := a_ H
    clear H
    go_wp2
    go_roundg kj9
    case measure => have := HK1.out; have := HK2.out; have := HJ9.out; omega
    case rel => exact ⟨(x6_2), (x7_2), (wrap64 (x31_2 + 1)), (by first | rfl | (simp; done) | (simp [*]; done)), H', ⟨by have := HK1.out; have := HK2.out; have := HJ9.out; omega⟩, ⟨by (with_reducible repeat (first | apply Km.R_alloc | apply Km.R_drewN | apply Km.R_drew)); exact Km.R_mono HO_6.out (fun _ hk => hk.1)⟩, ⟨by exact rk (Kd.R_mono HO_7.out (fun _ hk => hk.1))⟩, ⟨by exact bk BK225.out⟩, ⟨by exact gs HB.out⟩⟩
   replace c40 := Bool.eq_false_iff.mpr c40
   subst c40
   have H1 := H; rw [if_neg (show ¬ (false = true) by decide)] at H1
   clear H
   have H := H1
   clear H1
   by_cases c41 : x6_2.length < 3518437208883
   rotate_left
   ·rw [if_neg c41] at H
    exact absurd H (by simp)
   rw [if_pos c41] at H
   have LMc41 := a_ c41
   clear c41
   obtain ⟨y255, hy255⟩ : ∃ y_ : List (S75), y_ = (x6_2 ++ [(⟨t248, t249, t250, t251, t252⟩ : S75)]) := ⟨_, rfl⟩
   replace H : (if x7_2.length < 3518437208883 then (c_Order.j2 k2 y255 (x7_2 ++ [(⟨t248, t249, t250, t251, t252⟩ : S75)]) x8_1 t212 x31_2 t212 t213 t214 t215 t216 t217 t218 t219 t220 t221 t222 t223) else (none)) = some (r1, r2) := by first | (rw [hy255]; with_reducible exact H) | (have H2_ := (Option.bind_some _ _).symm.trans H; rw [hy255]; with_reducible exact H2_) | (have H2_ := (Option.bind_some _ _).symm.trans H; with_reducible exact H2_) | with_reducible exact H | (rw [hy255]; exact H) | exact H
   have Ny255 := a_ hy255
   clear hy255
   by_cases c42 : x7_2.length < 3518437208883
   rotate_left
   ·rw [if_neg c42] at H
    exact absurd H (by simp)
   rw [if_pos c42] at H
   have LMc42 := a_ c42
   clear c42
   obtain ⟨y258, hy258⟩ : ∃ y_ : List (S75), y_ = (x7_2 ++ [(⟨t248, t249, t250, t251, t252⟩ : S75)]) := ⟨_, rfl⟩
   replace H : (c_Order.j2 k2 y255 y258 x8_1 t212 x31_2 t212 t213 t214 t215 t216 t217 t218 t219 t220 t221 t222 t223) = some (r1, r2) := by first | (rw [hy258]; with_reducible exact H) | (have H2_ := (Option.bind_some _ _).symm.trans H; rw [hy258]; with_reducible exact H2_) | (have H2_ := (Option.bind_some _ _).symm.trans H; with_reducible exact H2_) | with_reducible exact H | (rw [hy258]; exact H) | exact H
   have Ny258 := a_ hy258
   clear hy258
   obtain ⟨kj9, hkj_⟩ : ∃ r, k2 = r + 1 := by
    cases k2 with
    | zero => exact absurd H (by simp [c_Order.j2])
    | succ r => exact ⟨r, rfl⟩
   rw [hkj_] at H
   simp only [c_Order.j2] at H
   have HJ9 := a_ (show kj9 + 1 ≤ k2 from Nat.le_of_eq hkj_.symm)
   clear hkj_
   have H' := a_ H
   clear H
   have hnb43 := NB253_225.out
   have hnc43 := NB225_253.out
   have hcz44_0 : w39.cell? ⟨gb253, 0, none⟩ = some (.int .i64 t248) := (kc_ BK253.out 0).trans rfl
   have hcz44_1 : w39.cell? ⟨gb253, 1, none⟩ = some (.int .i64 t249) := (kc_ BK253.out 1).trans rfl
   have hcz44_2 : w39.cell? ⟨gb253, 2, none⟩ = some (.int .i64 t250) := (kc_ BK253.out 2).trans rfl
   have hcz44_3 : w39.cell? ⟨gb253, 3, none⟩ = some (.int .i64 t251) := (kc_ BK253.out 3).trans rfl
   have hcz44_4 : w39.cell? ⟨gb253, 4, none⟩ = some (.int .i64 t252) := (kc_ BK253.out 4).trans rfl
   have hfz44_0 := kf_ BK253.out 0
   have hfz44_1 := kf_ BK253.out 1
   have hfz44_2 := kf_ BK253.out 2
   have hfz44_3 := kf_ BK253.out 3
   have hfz44_4 := kf_ BK253.out 4
   go_wp2_with (first | ((with_reducible refine gate_ (Op.mapUpdate 113 (.tmp 46) (.tmp 47) (.const (.bool true))) rfl ?_); (refine Km.wp_store (d := k75) (e := 75) (base := w.heap.size) (ok := fun k_ => (some k_ ≠ (.slice (some ad247) x7_2.length co26 : Value).ownBlock ∧ k_ ≠ gb253)) (v := .map (some w7.heap.size)) (xs := x6_2) (by (with_reducible repeat (first | apply Km.R_alloc | apply Km.R_drewN | apply Km.R_drew)); exact HO_6.out) rfl (.tmp 46) (.tmp 47) (.const (.bool true)) rfl rfl (⟨t248, t249, t250, t251, t252⟩ : S75) rfl rfl (hasC_good A23.out).1 (fun hm_ => by have := (hasC_good A23.out).2.2 hm_; cases this) ?_); intro w45 gm_ his_ hg hbg_ ho; rw [← Ny255.out] at ho; have HO257 := a_ (ho); replace HO_7 := a_ (Km.keep_R his_ hg (by exact rk HO_7.out)); replace BK225 := a_ (Km.keep_cells his_ hg (by exact bk BK225.out)); replace BK253 := a_ (Km.keep_cells his_ hg (by exact bk BK253.out)); replace HB := a_ (Below.grown (by exact gs HB.out) hg (bZ_ (by exact gs HB.out)) (fun k_ hk_ => by cases hk_; exact hbg_)); clear HO_6; clear ho hg his_ hbg_; have hcz46_0 : w45.cell? ⟨gb253, 0, none⟩ = some (.int .i64 t248) := (kc_ BK253.out 0).trans rfl; have hcz46_1 : w45.cell? ⟨gb253, 1, none⟩ = some (.int .i64 t249) := (kc_ BK253.out 1).trans rfl; have hcz46_2 : w45.cell? ⟨gb253, 2, none⟩ = some (.int .i64 t250) := (kc_ BK253.out 2).trans rfl; have hcz46_3 : w45.cell? ⟨gb253, 3, none⟩ = some (.int .i64 t251) := (kc_ BK253.out 3).trans rfl; have hcz46_4 : w45.cell? ⟨gb253, 4, none⟩ = some (.int .i64 t252) := (kc_ BK253.out 4).trans rfl; have hfz46_0 := kf_ BK253.out 0; have hfz46_1 := kf_ BK253.out 1; have hfz46_2 := kf_ BK253.out 2; have hfz46_3 := kf_ BK253.out 3; have hfz46_4 := kf_ BK253.out 4) | ((with_reducible refine gate_builtin (b := .append) (xs := #[.tmp 48, .tmp 50]) rfl ?_); at_builtin; refine Kd.R_append k75 (w0 := w) w.heap.size rfl (.tmp 48) (.tmp 50) 114 75 (.agg #[(.int .i64 0), (.int .i64 0), (.int .i64 0), (.int .i64 0), (.int .i64 0)]) 40 rfl Try.underlying114 info75 rfl (by decide) (by omega) (.slice (some ad247) x7_2.length co26) x7_2 (⟨t248, t249, t250, t251, t252⟩ : S75) [.int .i64 t248, .int .i64 t249, .int .i64 t250, .int .i64 t251, .int .i64 t252] (fun k_ => some k_ ≠ (.map (some w7.heap.size) : Value).ownBlock ∧ k_ ≠ gb253) (fun _ => False) rfl rfl ?aP (fun _ hk => hk.elim) ?aF ?aO ?aB ?aS ?aL ?_; (case aP => exact k75_mkM _ _ _ (⟨t248, t249, t250, t251, t252⟩ : S75)); (case aB => exact (by exact gs HB.out)); (case aF => exact (fun k_ hk => ⟨Kd.fresh' (Km.R_lt (by (with_reducible repeat (first | apply Km.R_alloc | apply Km.R_drewN | apply Km.R_drew)); exact HO257.out)) k_ hk, Kd.freshB (g := gb253) (o := .cells #[.int .i64 t248, .int .i64 t249, .int .i64 t250, .int .i64 t251, .int .i64 t252] 75 (0, 0)) (by exact bk BK253.out) k_ hk⟩)); (case aO => exact (by exact rk HO_7.out)); (case aS => exact (bZ_ (by exact gs HB.out))); (case aL => have := LMc42.out; omega); intro v259 w47 ho hb hg hat; rw [← Ny258.out] at ho; have HO260 := a_ (ho); replace BK225 := a_ (blk_grown (g := gb225) (o := .cells #[.int .i64 t212, .int .i64 t213, .int .i64 t214, .int .i64 t215, .int .i64 t216, .int .i64 t217, .int .i64 t218, .int .i64 t219, .int .i64 t220, .int .i64 t221, .int .i64 t222, .int .i64 t223] 78 (0, 0)) (by exact bk BK225.out) hg (Kd.R_ne HO_7.out BK225.out (by decide))); replace BK253 := a_ (blk_grown (g := gb253) (o := .cells #[.int .i64 t248, .int .i64 t249, .int .i64 t250, .int .i64 t251, .int .i64 t252] 75 (0, 0)) (by exact bk BK253.out) hg (Kd.R_away HO_7.out (fun _ hk => hk.2))); replace HO257 := a_ (Km.R_after (ok := (fun k_ => k_ ≠ gb253)) (by (with_reducible repeat (first | apply Km.R_alloc | apply Km.R_drewN | apply Km.R_drew)); exact Km.R_mono HO257.out (fun _ hk => ⟨hk.2, hk.1⟩)) hg hat); replace HB := a_ (hb); clear HO_7; clear ho hb hg hat))
   go_roundg kj9
   case measure => have := HK1.out; have := HK2.out; have := HJ9.out; omega
   case rel => exact ⟨(y255), (y258), (wrap64 (x31_2 + 1)), (by first | rfl | (simp; done) | (simp [*]; done)), H', ⟨by have := HK1.out; have := HK2.out; have := HJ9.out; omega⟩, ⟨by (with_reducible repeat (first | apply Km.R_alloc | apply Km.R_drewN | apply Km.R_drew)); exact Km.R_mono HO257.out (fun _ hk => hk.2)⟩, ⟨by exact rk (Kd.R_mono HO260.out (fun _ hk => hk.1))⟩, ⟨by exact bk BK225.out⟩, ⟨by exact gs HB.out⟩⟩
def rr_letter.j0 : Nat → Int → Int → Bool → Option (Int × Bool × Bool)
 | 0, _, _, _ => none
 | k + 1, x0, x1, x7 => if x7 = true then (some ((x0 - 97) % 256, false, true)) else (if x0 = 65 then (some ((x0 - 65) % 256, true, true)) else (if x0 = 66 then (if x1 = 2 then (some ((x0 - 65) % 256, true, true)) else (some (0, false, false))) else (some (0, false, false))))
def rr_letter.f (k : Nat) (a0 : Int) (a1 : Int) : Option (Int × Bool × Bool) := if a0 = 97 then (rr_letter.j0 k a0 a1 true) else (if a0 = 98 then (rr_letter.j0 k a0 a1 (a1 == 2)) else (rr_letter.j0 k a0 a1 false))
theorem rr_letter.calls (k : Nat) (a0 : Int) (a1 : Int) (r1 : Int) (r2 : Bool) (r3 : Bool) (w : World) (h : rr_letter.f k a0 a1 = some (r1, r2, r3)) :
  Calls Try.prog 56 #[.int .u8 a0, .int .i64 a1] w fun e w' => e = .returned (.tuple #[.int .i64 r1, .bool r2, .bool r3]) ∧ Drawn0 w w' := by
 have H : (if a0 = 97 then (rr_letter.j0 k a0 a1 true) else (if a0 = 98 then (rr_letter.j0 k a0 a1 (a1 == 2)) else (rr_letter.j0 k a0 a1 false))) = some (r1, r2, r3) := h
 clear h
 have HC3 := a_ H
 clear H
 go_enter Try.func56, Try.ntmps56
 go_upto_region 1 with (fail)
 go_cut [7] (fun v7 wc => ∃ (kq : Nat) (x7_2 : Bool), v7 = .bool x7_2 ∧ Aside0 (rr_letter.j0 kq a0 a1 x7_2 = some (r1, r2, r3)) ∧ Aside0 (kq ≤ k) ∧ Drawn0 w wc)
 case first =>
  have H := HC3.out
  clear HC3
  by_cases c4 : a0 = 97
  ·rw [if_pos c4] at H
   have c4b0 : (a0 == 97) = true := beq_iff_eq.mpr c4
   have c4b1 : (a0 != 97) = false := bne_eq_false_iff_eq.mpr c4
   clear c4
   (first | rw [c4b0] | (simp only [i64_w, i32_w]; rw [c4b0]) | skip)
   have H' := a_ H
   clear H
   go_wp2
   go_meet
   case rel => exact ⟨_, (true), (by first | rfl | (simp; done) | (simp [*]; done)), H', ⟨by first | omega | exact Nat.le_refl _⟩, by repeat (first | exact Drawn0.refl _ | apply Drawn0.step)⟩
  rw [if_neg c4] at H
  have c4b0 : (a0 == 97) = false := beq_eq_false_iff_ne.mpr c4
  have c4b1 : (a0 != 97) = true := bne_iff_ne.mpr c4
  (first | rw [c4b0] | (simp only [i64_w, i32_w]; rw [c4b0]) | skip)
  by_cases c5 : a0 = 98
  rotate_left
  ·rw [if_neg c5] at H
   have c5b0 : (a0 == 98) = false := beq_eq_false_iff_ne.mpr c5
   have c5b1 : (a0 != 98) = true := bne_iff_ne.mpr c5
   have H' := a_ H
   clear H
   go_wp2
   go_meet
   case rel => exact ⟨_, (false), (by first | rfl | (simp; done) | (simp [*]; done)), H', ⟨by first | omega | exact Nat.le_refl _⟩, by repeat (first | exact Drawn0.refl _ | apply Drawn0.step)⟩
  rw [if_pos c5] at H
  have c5b0 : (a0 == 98) = true := beq_iff_eq.mpr c5
  have c5b1 : (a0 != 98) = false := bne_eq_false_iff_eq.mpr c5
  clear c5
  have H' := a_ H
  clear H
  go_wp2
  go_meet
  case rel => exact ⟨_, ((a1 == 2)), (by first | rfl | (simp; done) | (simp [*]; done)), H', ⟨by first | omega | exact Nat.le_refl _⟩, by repeat (first | exact Drawn0.refl _ | apply Drawn0.step)⟩
 case rest =>
  clear HC3
  obtain ⟨kq, x7_2, rfl, HA, HJ2, ⟨mc2, rfl⟩⟩ := hcut
  cases kq with
  | zero => exact absurd HA.out (by simp [rr_letter.j0])
  | succ kj2 =>
   have H := HA.out
   clear HA
   simp only [rr_letter.j0] at H
   by_cases c6 : x7_2 = true
   ·subst c6
    have H1 := H; rw [if_pos rfl] at H1
    clear H
    have H := H1
    clear H1
    simp only [Option.some.injEq, Prod.mk.injEq] at H
    obtain ⟨rfl, rfl, rfl⟩ := H
    go_wp2
    go_ret3
    exact ⟨by first | rfl | (simp; done) | (simp [*]; done), by repeat (first | exact Drawn0.refl _ | apply Drawn0.step)⟩
   replace c6 := Bool.eq_false_iff.mpr c6
   subst c6
   have H1 := H; rw [if_neg (show ¬ (false = true) by decide)] at H1
   clear H
   have H := H1
   clear H1
   by_cases c7 : a0 = 65
   ·rw [if_pos c7] at H
    have c7b0 : (a0 == 65) = true := beq_iff_eq.mpr c7
    have c7b1 : (a0 != 65) = false := bne_eq_false_iff_eq.mpr c7
    clear c7
    simp only [Option.some.injEq, Prod.mk.injEq] at H
    obtain ⟨rfl, rfl, rfl⟩ := H
    go_wp2
    go_ret3
    exact ⟨by first | rfl | (simp; done) | (simp [*]; done), by repeat (first | exact Drawn0.refl _ | apply Drawn0.step)⟩
   rw [if_neg c7] at H
   have c7b0 : (a0 == 65) = false := beq_eq_false_iff_ne.mpr c7
   have c7b1 : (a0 != 65) = true := bne_iff_ne.mpr c7
   by_cases c8 : a0 = 66
   rotate_left
   ·rw [if_neg c8] at H
    have c8b0 : (a0 == 66) = false := beq_eq_false_iff_ne.mpr c8
    have c8b1 : (a0 != 66) = true := bne_iff_ne.mpr c8
    simp only [Option.some.injEq, Prod.mk.injEq] at H
    obtain ⟨rfl, rfl, rfl⟩ := H
    go_wp2
    go_ret3
    exact ⟨by first | rfl | (simp; done) | (simp [*]; done), by repeat (first | exact Drawn0.refl _ | apply Drawn0.step)⟩
   rw [if_pos c8] at H
   have c8b0 : (a0 == 66) = true := beq_iff_eq.mpr c8
   have c8b1 : (a0 != 66) = false := bne_eq_false_iff_eq.mpr c8
   clear c8
   by_cases c9 : a1 = 2
   rotate_left
   ·rw [if_neg c9] at H
    have c9b0 : (a1 == 2) = false := beq_eq_false_iff_ne.mpr c9
    have c9b1 : (a1 != 2) = true := bne_iff_ne.mpr c9
    simp only [Option.some.injEq, Prod.mk.injEq] at H
    obtain ⟨rfl, rfl, rfl⟩ := H
    go_wp2
    go_ret3
    exact ⟨by first | rfl | (simp; done) | (simp [*]; done), by repeat (first | exact Drawn0.refl _ | apply Drawn0.step)⟩
   rw [if_pos c9] at H
   have c9b0 : (a1 == 2) = true := beq_iff_eq.mpr c9
   have c9b1 : (a1 != 2) = false := bne_eq_false_iff_eq.mpr c9
   clear c9
   simp only [Option.some.injEq, Prod.mk.injEq] at H
   obtain ⟨rfl, rfl, rfl⟩ := H
   go_wp2
   go_ret3
   exact ⟨by first | rfl | (simp; done) | (simp [*]; done), by repeat (first | exact Drawn0.refl _ | apply Drawn0.step)⟩
def rr_step.l0 : Nat → List (List Int) → Int → Int → Int → Option (Int)
 | 0, _, _, _, _ => none
 | k + 1, x0, x1, x7, x10 => if 0 ≤ x7 then (if x7 < (x0.length : Int) then (if 0 ≤ x10 then (if x10 < ((rd_L1 x0 x7).length : Int) then (if (rd (rd_L1 x0 x7) x10) = x1 then (some x10) else (rr_step.l0 k x0 x1 x7 (wrap64 (x10 + 1)))) else (none)) else (none)) else (none)) else (none)
def rr_step.f (k : Nat) (l0 : List (List Int)) (a1 : Int) (a2 : Int) : Option (Int) := (rr_letter.f k a2 2).bind fun bt101 => (if bt101.2.1 = true then (rr_step.l0 k l0 a1 bt101.1 0) else (if 0 ≤ bt101.1 then (if bt101.1 < (l0.length : Int) then (if 0 ≤ a1 then (if a1 < ((rd_L1 l0 bt101.1).length : Int) then (some (rd (rd_L1 l0 bt101.1) a1)) else (none)) else (none)) else (none)) else (none)))
theorem rr_step.calls (k : Nat) (A0 : Option Addr) (c0 : Nat) (l0 : List (List Int)) (a1 : Int) (a2 : Int) (r : Int) (w : World) (hr0 : Kd.C (Kd.slice 3 (Kd.int .i64)) w A0 l0.length l0) (hc0 : l0.length ≤ c0) (h : rr_step.f k l0 a1 a2 = some r) :
  Calls Try.prog 58 #[.slice A0 l0.length c0, .int .i64 a1, .int .u8 a2] w fun e w' => e = .returned (.int .i64 r) ∧ Drawn0 w w' := by
 have HR0 := a_ hr0
 have HC0 := a_ hc0
 clear hr0 hc0
 have H : ((rr_letter.f k a2 2).bind fun bt101 => (if bt101.2.1 = true then (rr_step.l0 k l0 a1 bt101.1 0) else (if 0 ≤ bt101.1 then (if bt101.1 < (l0.length : Int) then (if 0 ≤ a1 then (if a1 < ((rd_L1 l0 bt101.1).length : Int) then (some (rd (rd_L1 l0 bt101.1) a1)) else (none)) else (none)) else (none)) else (none)))) = some r := h
 clear h
 replace H := Option.bind_eq_some_iff.mp H
 obtain ⟨⟨t101, t102, t103⟩, A40, H⟩ := H
 try dsimp only at H
 have A4 := a_ A40
 clear A40
 by_cases c5 : t102 = true
 rotate_left
 ·replace c5 := Bool.eq_false_iff.mpr c5
  subst c5
  have H1 := H; rw [if_neg (show ¬ (false = true) by decide)] at H1
  clear H
  have H := H1
  clear H1
  by_cases c11 : 0 ≤ t101
  rotate_left
  ·rw [if_neg c11] at H
   exact absurd H (by simp)
  rw [if_pos c11] at H
  have c11b0 : decide (0 ≤ t101) = true := decide_eq_true c11
  clear c11
  by_cases c12 : t101 < (l0.length : Int)
  rotate_left
  ·rw [if_neg c12] at H
   exact absurd H (by simp)
  rw [if_pos c12] at H
  have c12b0 : decide (t101 < (l0.length : Int)) = true := decide_eq_true c12
  clear c12
  by_cases c13 : 0 ≤ a1
  rotate_left
  ·rw [if_neg c13] at H
   exact absurd H (by simp)
  rw [if_pos c13] at H
  have c13b0 : decide (0 ≤ a1) = true := decide_eq_true c13
  clear c13
  by_cases c14 : a1 < ((rd_L1 l0 t101).length : Int)
  rotate_left
  ·rw [if_neg c14] at H
   exact absurd H (by simp)
  rw [if_pos c14] at H
  have c14b0 : decide (a1 < ((rd_L1 l0 t101).length : Int)) = true := decide_eq_true c14
  clear c14
  obtain rfl := Option.some.inj H
  go_enter Try.func58, Try.ntmps58
  go_wp2_with (first | ((with_reducible refine gate_callee (f := 56) rfl ?_); refine goesL_ (some 13) rfl rfl Try.func56 (by kernel_rfl) rfl #[.int .u8 a2, .int .i64 2] rfl (by (try simp only [List.map_toArray, List.map_cons, List.map_nil]); first | done | rfl | (simp only [List.length_drop, List.length_take]; rfl)) ?_; (with_reducible refine (rr_letter.calls k a2 2 t101 false t103 _ A4.out).mono ?_); rintro e w' ⟨rfl, ⟨nd, rfl⟩⟩; refine ⟨_, rfl, ?_⟩; have p104 : 0 ≤ (t101 : Int) := of_decide_eq_true (by first | (with_reducible assumption) | assumption); have q104 : t101 < (l0.length : Int) := of_decide_eq_true (by first | (with_reducible assumption) | assumption); obtain ⟨ad104, A104_0, c104_0, e104, hx104_0, hl104_0, hi104_0⟩ := at_L1 HR0.out t101 p104 q104; cases e104; have HR104_0 := a_ hi104_0; have HC104_0 := a_ hl104_0; clear hi104_0 hl104_0; replace p104 := eq_true p104; replace q104 := eq_true q104; have p105 : 0 ≤ (a1 : Int) := of_decide_eq_true (by first | (with_reducible assumption) | assumption); have q105 : a1 < ((rd_L1 l0 t101).length : Int) := of_decide_eq_true (by first | (with_reducible assumption) | assumption); obtain ⟨ad105, e105, hx105_0⟩ := Kd.at_int HR104_0.out a1 p105 q105; cases e105; replace p105 := eq_true p105; replace q105 := eq_true q105))
  go_ret
  exact ⟨by first | rfl | (simp; done) | (simp [*]; done), by repeat (first | exact Drawn0.refl _ | apply Drawn0.step)⟩
 subst c5
 have H1 := H; rw [if_pos rfl] at H1
 clear H
 have H := H1
 clear H1
 have H' := a_ H
 clear H
 go_enter Try.func58, Try.ntmps58
 go_wp2_with (first | ((with_reducible refine gate_callee (f := 56) rfl ?_); refine goesL_ (some 13) rfl rfl Try.func56 (by kernel_rfl) rfl #[.int .u8 a2, .int .i64 2] rfl (by (try simp only [List.map_toArray, List.map_cons, List.map_nil]); first | done | rfl | (simp only [List.length_drop, List.length_take]; rfl)) ?_; (with_reducible refine (rr_letter.calls k a2 2 t101 true t103 _ A4.out).mono ?_); rintro e w' ⟨rfl, ⟨nd, rfl⟩⟩; refine ⟨_, rfl, ?_⟩))
 go_loopg [10] k (fun kq v10 w' => ∃ (x10_1 : Int), v10 = .int .i64 x10_1 ∧ Aside0 (rr_step.l0 kq l0 a1 t101 x10_1 = some r) ∧ Aside0 (kq ≤ k) ∧ Drawn0 w w')
 case atStart => exact ⟨(0), (by first | rfl | (simp; done) | (simp [*]; done)), H', ⟨Nat.le_refl _⟩, by repeat (first | exact Drawn0.refl _ | apply Drawn0.step)⟩
 clear H'
 obtain ⟨x10_1, rfl, HA, HK1, ⟨m1, rfl⟩⟩ := hrel
 cases gk with
 | zero => exact absurd HA.out (by simp [rr_step.l0])
 | succ k1 =>
  have H := HA.out
  clear HA
  simp only [rr_step.l0] at H
  by_cases c6 : 0 ≤ t101
  rotate_left
  ·rw [if_neg c6] at H
   exact absurd H (by simp)
  rw [if_pos c6] at H
  have c6b0 : decide (0 ≤ t101) = true := decide_eq_true c6
  clear c6
  by_cases c7 : t101 < (l0.length : Int)
  rotate_left
  ·rw [if_neg c7] at H
   exact absurd H (by simp)
  rw [if_pos c7] at H
  have c7b0 : decide (t101 < (l0.length : Int)) = true := decide_eq_true c7
  clear c7
  by_cases c8 : 0 ≤ x10_1
  rotate_left
  ·rw [if_neg c8] at H
   exact absurd H (by simp)
  rw [if_pos c8] at H
  have c8b0 : decide (0 ≤ x10_1) = true := decide_eq_true c8
  clear c8
  by_cases c9 : x10_1 < ((rd_L1 l0 t101).length : Int)
  rotate_left
  ·rw [if_neg c9] at H
   exact absurd H (by simp)
  rw [if_pos c9] at H
  have c9b0 : decide (x10_1 < ((rd_L1 l0 t101).length : Int)) = true := decide_eq_true c9
  clear c9
  by_cases c10 : (rd (rd_L1 l0 t101) x10_1) = a1
  ·rw [if_pos c10] at H
   have c10b0 : ((rd (rd_L1 l0 t101) x10_1) == a1) = true := beq_iff_eq.mpr c10
   have c10b1 : ((rd (rd_L1 l0 t101) x10_1) != a1) = false := bne_eq_false_iff_eq.mpr c10
   clear c10
   obtain rfl := Option.some.inj H
   have p106 : 0 ≤ (t101 : Int) := of_decide_eq_true (by first | (with_reducible assumption) | assumption)
   have q106 : t101 < (l0.length : Int) := of_decide_eq_true (by first | (with_reducible assumption) | assumption)
   obtain ⟨ad106, A106_0, c106_0, e106, hx106_0, hl106_0, hi106_0⟩ := at_L1 HR0.out t101 p106 q106
   cases e106
   have HR106_0 := a_ hi106_0
   have HC106_0 := a_ hl106_0
   clear hi106_0 hl106_0
   replace p106 := eq_true p106
   replace q106 := eq_true q106
   have p107 : 0 ≤ (x10_1 : Int) := of_decide_eq_true (by first | (with_reducible assumption) | assumption)
   have q107 : x10_1 < ((rd_L1 l0 t101).length : Int) := of_decide_eq_true (by first | (with_reducible assumption) | assumption)
   obtain ⟨ad107, e107, hx107_0⟩ := Kd.at_int HR106_0.out x10_1 p107 q107
   cases e107
   replace p107 := eq_true p107
   replace q107 := eq_true q107
   go_wp2
   go_ret
   exact ⟨by first | rfl | (simp; done) | (simp [*]; done), by repeat (first | exact Drawn0.refl _ | apply Drawn0.step)⟩
  rw [if_neg c10] at H
  have c10b0 : ((rd (rd_L1 l0 t101) x10_1) == a1) = false := beq_eq_false_iff_ne.mpr c10
  have c10b1 : ((rd (rd_L1 l0 t101) x10_1) != a1) = true := bne_iff_ne.mpr c10
  have H' := a_ H
  clear H
  have p106 : 0 ≤ (t101 : Int) := of_decide_eq_true (by first | (with_reducible assumption) | assumption)
  have q106 : t101 < (l0.length : Int) := of_decide_eq_true (by first | (with_reducible assumption) | assumption)
  obtain ⟨ad106, A106_0, c106_0, e106, hx106_0, hl106_0, hi106_0⟩ := at_L1 HR0.out t101 p106 q106
  cases e106
  have HR106_0 := a_ hi106_0
  have HC106_0 := a_ hl106_0
  clear hi106_0 hl106_0
  replace p106 := eq_true p106
  replace q106 := eq_true q106
  have p107 : 0 ≤ (x10_1 : Int) := of_decide_eq_true (by first | (with_reducible assumption) | assumption)
  have q107 : x10_1 < ((rd_L1 l0 t101).length : Int) := of_decide_eq_true (by first | (with_reducible assumption) | assumption)
  obtain ⟨ad107, e107, hx107_0⟩ := Kd.at_int HR106_0.out x10_1 p107 q107
  cases e107
  replace p107 := eq_true p107
  replace q107 := eq_true q107
  go_wp2
  go_roundg k1
  case measure => have := HK1.out; omega
  case rel => exact ⟨(wrap64 (x10_1 + 1)), (by first | rfl | (simp; done) | (simp [*]; done)), H', ⟨by have := HK1.out; omega⟩, by repeat (first | exact Drawn0.refl _ | apply Drawn0.step)⟩
def rr_letters.f (a0 : Int) : Option (ByteArray) := if 0 ≤ (wrap64 (2 * a0)) then (if (wrap64 (2 * a0)) ≤ 4 then (some ((⟨#[97, 65, 98, 66]⟩ : ByteArray).extract 0 ((wrap64 (2 * a0)) : Int).toNat)) else (none)) else (none)
theorem rr_letters.calls (a0 : Int) (r : ByteArray) (w : World) (h : rr_letters.f a0 = some r) :
  Calls Try.prog 73 #[.int .i64 a0] w fun e w' => e = .returned (.string r) ∧ Drawn0 w w' := by
 have H : (if 0 ≤ (wrap64 (2 * a0)) then (if (wrap64 (2 * a0)) ≤ 4 then (some ((⟨#[97, 65, 98, 66]⟩ : ByteArray).extract 0 ((wrap64 (2 * a0)) : Int).toNat)) else (none)) else (none)) = some r := h
 clear h
 obtain ⟨ji2, hji2⟩ : ∃ j_ : Int, (wrap64 (2 * a0)) = j_ := ⟨_, rfl⟩
 replace H : (if 0 ≤ (ji2) then (if (ji2) ≤ 4 then (some ((⟨#[97, 65, 98, 66]⟩ : ByteArray).extract 0 ((ji2) : Int).toNat)) else (none)) else (none)) = some r := by first | (rw [hji2] at H; exact H) | (simp only [hji2] at H ⊢; exact H)
 have hji2w : (IntKind.i64.wrap (2 * a0)) = ji2 := (i64_w _).trans hji2
 by_cases c3 : 0 ≤ (ji2)
 rotate_left
 ·rw [if_neg c3] at H
  exact absurd H (by simp)
 rw [if_pos c3] at H
 have c3b0 := eq_true c3
 have c3b1 : decide (0 ≤ (ji2)) = true := decide_eq_true c3
 clear c3
 by_cases c4 : (ji2) ≤ 4
 rotate_left
 ·rw [if_neg c4] at H
  exact absurd H (by simp)
 rw [if_pos c4] at H
 have c4b0 := eq_true c4
 have c4b1 : decide ((ji2) ≤ 4) = true := decide_eq_true c4
 clear c4
 obtain rfl := Option.some.inj H
 go_enter Try.func73, Try.ntmps73
 go_wp2
 go_ret
 exact ⟨by first | rfl | (simp; done) | (simp only [← hji2] <;> (first | rfl | simp)) | (simp [*]; done), by repeat (first | exact Drawn0.refl _ | apply Drawn0.step)⟩
mutual
def rr_numbering.l0 : Nat → List (List Int) → List Int → List ByteArray → ByteArray → Int → Option (List Int × List ByteArray)
 | 0, _, _, _, _, _ => none
 | k + 1, x0, x6, x7, x8, x9 => if x9 < (x6.length : Int) then (rr_numbering.l1 k x0 x6 x7 x8 x9 0) else (some (x6, x7))
def rr_numbering.l1 : Nat → List (List Int) → List Int → List ByteArray → ByteArray → Int → Int → Option (List Int × List ByteArray)
 | 0, _, _, _, _, _, _ => none
 | k + 1, x0, x6, x7, x8, x9, x10 => if x10 < (x8.size : Int) then (if 0 ≤ x9 then (if x9 < (x6.length : Int) then (if 0 ≤ x10 then ((rr_step.f k x0 (rd x6 x9) (bt x8 x10)).bind fun t116 => (rr_numbering.l2 k x0 x6 x7 x8 x9 x10 t116 false 0)) else (none)) else (none)) else (none)) else (rr_numbering.l0 k x0 x6 x7 x8 (wrap64 (x9 + 1)))
def rr_numbering.l2 : Nat → List (List Int) → List Int → List ByteArray → ByteArray → Int → Int → Int → Bool → Int → Option (List Int × List ByteArray)
 | 0, _, _, _, _, _, _, _, _, _ => none
 | k + 1, x0, x6, x7, x8, x9, x10, x11, x12, x13 => if x13 < (x6.length : Int) then (if x12 = true then (rr_numbering.l2 k x0 x6 x7 x8 x9 x10 x11 true (wrap64 (x13 + 1))) else (if 0 ≤ x13 then (rr_numbering.l2 k x0 x6 x7 x8 x9 x10 x11 ((rd x6 x13) == x11) (wrap64 (x13 + 1))) else (none))) else (if x12 = true then (rr_numbering.l1 k x0 x6 x7 x8 x9 (wrap64 (x10 + 1))) else (if x6.length < 17592186044416 then (if 0 ≤ x9 then (if x9 < (x7.length : Int) then (if 0 ≤ x10 then (if x10 ≤ (wrap64 (x10 + 1)) then (if (wrap64 (x10 + 1)) ≤ (x8.size : Int) then (if (rdOf ByteArray.empty x7 x9).size + (x8.extract (x10 : Int).toNat ((wrap64 (x10 + 1)) : Int).toNat).size ≤ 9223372036854775807 then (if x7.length < 8796093022208 then (rr_numbering.l1 k x0 (x6 ++ [x11]) (x7 ++ [(rdOf ByteArray.empty x7 x9) ++ (x8.extract (x10 : Int).toNat ((wrap64 (x10 + 1)) : Int).toNat)]) x8 x9 (wrap64 (x10 + 1))) else (none)) else (none)) else (none)) else (none)) else (none)) else (none)) else (none)) else (none)))
end
def rr_numbering.f (k : Nat) (l0 : List (List Int)) (a1 : Int) : Option (List Int × List ByteArray) := (rr_letters.f (l0.length : Int)).bind fun t114 => (rr_numbering.l0 k l0 (([a1] : List Int)) (([(⟨#[]⟩ : ByteArray)] : List ByteArray)) t114 0)
def rr_numbering.T10 : Bool × List (List Nat × List Nat) := (true, [([], []), ([], []), ([], []), ([1, 2], [1, 2]), ([3], [3]), ([], []), ([], []), ([5, 6], [5, 6]), ([0, 4, 7], [0, 4, 7]), ([8, 8, 0, 1, 2, 3, 4, 5, 6, 7, 8], [8])])
def rr_numbering.B10 : List Nat := [0, 0, 0, 6, 14, 0, 0, 96, 255, 511]
theorem rr_numbering.tab10 : rtab .any (opsOf Try.f67 10) = rr_numbering.T10 := by kernel_rfl
theorem rr_numbering.bits10 : waitsOk rr_numbering.T10.2 rr_numbering.B10 = true := by kernel_rfl
def rr_numbering.T18 : Bool × List (List Nat × List Nat) := (true, [([], []), ([], []), ([], []), ([1, 2], [1, 2]), ([3], [3]), ([], []), ([], []), ([], []), ([7], [7]), ([5, 6, 8], [5, 6, 8]), ([4, 9], [4, 9]), ([10], [10]), ([0, 11], [0, 11]), ([12, 12, 0, 1, 2, 3, 4, 5, 6, 7, 8, 9, 10, 11, 12], [0, 1, 12])])
def rr_numbering.B18 : List Nat := [0, 0, 0, 6, 14, 0, 0, 0, 128, 480, 1022, 2046, 4095, 8191]
theorem rr_numbering.tab18 : rtab .any (opsOf Try.f67 18) = rr_numbering.T18 := by kernel_rfl
theorem rr_numbering.bits18 : waitsOk rr_numbering.T18.2 rr_numbering.B18 = true := by kernel_rfl
theorem rr_numbering.calls (k : Nat) (A0 : Option Addr) (c0 : Nat) (l0 : List (List Int)) (a1 : Int) (r1 : List Int) (r2 : List ByteArray) (w : World) (hr0 : Kd.C (Kd.slice 3 (Kd.int .i64)) w A0 l0.length l0) (hc0 : l0.length ≤ c0) (h : rr_numbering.f k l0 a1 = some (r1, r2)) :
  Calls Try.prog 67 #[.slice A0 l0.length c0, .int .i64 a1] w fun e w' => ∃ v0_ v1_ : Value, e = .returned (.tuple #[v0_, v1_]) ∧ Kd.R (Kd.int .i64) 3 w' w.heap.size (fun _ => True) v0_ r1 ∧ Kd.R Kd.string 9 w' w.heap.size (fun _ => True) v1_ r2 ∧ Below w.heap.size w w' := by
 have HR0 := a_ hr0
 have HC0 := a_ hc0
 clear hr0 hc0
 have HB := a_ (Below.refl w.heap.size w)
 have H : ((rr_letters.f (l0.length : Int)).bind fun t114 => (rr_numbering.l0 k l0 (([a1] : List Int)) (([(⟨#[]⟩ : ByteArray)] : List ByteArray)) t114 0)) = some (r1, r2) := h
 clear h
 obtain ⟨y108, hy108⟩ : ∃ y_ : List Int, y_ = (([a1] : List Int)) := ⟨_, rfl⟩
 replace H : ((rr_letters.f (l0.length : Int)).bind fun t114 => (rr_numbering.l0 k l0 y108 (([(⟨#[]⟩ : ByteArray)] : List ByteArray)) t114 0)) = some (r1, r2) := by first | (rw [hy108]; with_reducible exact H) | (have H2_ := (Option.bind_some _ _).symm.trans H; rw [hy108]; with_reducible exact H2_) | (have H2_ := (Option.bind_some _ _).symm.trans H; with_reducible exact H2_) | with_reducible exact H | (rw [hy108]; exact H) | exact H
 have Ny108 := a_ hy108
 clear hy108
 obtain ⟨y111, hy111⟩ : ∃ y_ : List ByteArray, y_ = (([(⟨#[]⟩ : ByteArray)] : List ByteArray)) := ⟨_, rfl⟩
 replace H : ((rr_letters.f (l0.length : Int)).bind fun t114 => (rr_numbering.l0 k l0 y108 y111 t114 0)) = some (r1, r2) := by first | (rw [hy111]; with_reducible exact H) | (have H2_ := (Option.bind_some _ _).symm.trans H; rw [hy111]; with_reducible exact H2_) | (have H2_ := (Option.bind_some _ _).symm.trans H; with_reducible exact H2_) | with_reducible exact H | (rw [hy111]; exact H) | exact H
 have Ny111 := a_ hy111
 clear hy111
 replace H := Option.bind_eq_some_iff.mp H
 obtain ⟨t114, A30, H⟩ := H
 try dsimp only at H
 have A3 := a_ A30
 clear A30
 have H' := a_ H
 clear H
 go_enter Try.func67, Try.ntmps67
 go_wp2_with (first | ((with_reducible refine gate_dst (N := 15) rfl ?_); refine Kd.R_lit (Kd.int .i64) _ 3 ?hg (N := 15) ?hd (xs := ([a1] : List Int)) (inner := [.int .i64 a1]) (ok := fun _ => True) (okp := fun _ => True) ?hr ?hp (fun _ hk => hk) trivial (Below.refl _ _) (Nat.le_refl _) (by simp) ?_; (case hd => rfl); (case hg => rfl); (case hr => first | (go_simp; done) | (go_simp; rfl)); (case hp => exact (Reps.one (show Kd.M (Kd.int .i64) _ _ _ a1 [.int .i64 a1] from rfl) (Reps.none _ _))); intro v109 w4 ho5 hb hg_ hnew_; clear hg_ hnew_; (first | rw [← Ny108.out] at ho5 | (simp only [Int.reduceToNat] at ho5; rw [← Ny108.out] at ho5)); have HO110 := a_ (Kd.R_lower ho5 (bZ_ (gr HB.out))); replace HB := a_ (bT_ HB.out (tr hb)); clear hb ho5) | ((with_reducible refine gate_dst (N := 16) rfl ?_); refine Kd.R_lit Kd.string _ 9 ?hg (N := 16) ?hd (xs := ([(⟨#[]⟩ : ByteArray)] : List ByteArray)) (inner := [.string (⟨#[]⟩ : ByteArray)]) (ok := fun _ => True) (okp := fun _ => True) ?hr ?hp (fun _ hk => hk) trivial (Below.refl _ _) (Nat.le_refl _) (by simp) ?_; (case hd => rfl); (case hg => rfl); (case hr => first | (go_simp; done) | (go_simp; rfl)); (case hp => exact (Reps.one (show Kd.M Kd.string _ _ _ (⟨#[]⟩ : ByteArray) [.string (⟨#[]⟩ : ByteArray)] from rfl) (Reps.none _ _))); intro v112 w6 ho7 hb hg_ hnew_; clear hg_ hnew_; (first | rw [← Ny111.out] at ho7 | (simp only [Int.reduceToNat] at ho7; rw [← Ny111.out] at ho7)); have HO113 := a_ (Kd.R_lower ho7 (bZ_ (gr HB.out))); replace HO110 := a_ (Kd.R_below HO110.out (tr hb)); replace HB := a_ (bT_ HB.out (tr hb)); clear hb ho7) | ((with_reducible refine gate_callee (f := 73) rfl ?_); refine goesL_ (some 19) rfl rfl Try.func73 (by kernel_rfl) rfl #[.int .i64 (l0.length : Int)] rfl (by (try simp only [List.map_toArray, List.map_cons, List.map_nil]); first | done | rfl | (simp only [List.length_drop, List.length_take]; rfl)) ?_; (with_reducible refine (rr_letters.calls (l0.length : Int) t114 _ A3.out).mono ?_); rintro e w' ⟨rfl, ⟨nd, rfl⟩⟩; refine ⟨_, rfl, ?_⟩))
 go_loopg [6, 7, 9] k (fun kq v6 v7 v9 w' => ∃ (x6_1 : List Int) (x7_1 : List ByteArray) (x9_1 : Int), v9 = .int .i64 x9_1 ∧ Aside0 (rr_numbering.l0 kq l0 x6_1 x7_1 t114 x9_1 = some (r1, r2)) ∧ Aside0 (kq ≤ k) ∧ Aside0 (Kd.R (Kd.int .i64) 3 w' w.heap.size (fun _ => True) v6 x6_1) ∧ Aside0 (Kd.R Kd.string 9 w' w.heap.size (fun _ => True) v7 x7_1) ∧ Aside0 (Below w.heap.size w w'))
 case atStart => exact ⟨(y108), (y111), (0), (by first | rfl | (simp; done) | (simp [*]; done)), H', ⟨Nat.le_refl _⟩, ⟨by exact rk HO110.out⟩, ⟨by exact rk HO113.out⟩, ⟨by exact gs HB.out⟩⟩
 clear H'
 obtain ⟨x6_1, x7_1, x9_1, rfl, HA, HK1, HO_6, HO_7, HB⟩ := hrel
 cases gk with
 | zero => exact absurd HA.out (by simp [rr_numbering.l0])
 | succ k1 =>
  have H := HA.out
  clear HA
  simp only [rr_numbering.l0] at H
  by_cases c8 : x9_1 < (x6_1.length : Int)
  rotate_left
  ·rw [if_neg c8] at H
   have c8b0 : decide (x9_1 < (x6_1.length : Int)) = false := decide_eq_false c8
   clear c8
   simp only [Option.some.injEq, Prod.mk.injEq] at H
   obtain ⟨rfl, rfl⟩ := H
   obtain ⟨Ao34, co34, eo34⟩ := Kd.R_slice HO_6.out
   subst eo34
   go_wp2
   go_ret2
   exact ⟨_, _, by first | rfl | (simp [errW_none, errW_some] <;> rfl) | (simp [*, errW_none, errW_some] <;> rfl), by exact rk HO_6.out, by exact rk HO_7.out, by exact gs HB.out⟩
  rw [if_pos c8] at H
  have c8b0 : decide (x9_1 < (x6_1.length : Int)) = true := decide_eq_true c8
  clear c8
  have H' := a_ H
  clear H
  obtain ⟨Ao9, co9, eo9⟩ := Kd.R_slice HO_6.out
  subst eo9
  go_wp2
  go_loopg [6, 7, 10] k1 (fun kq v6 v7 v10 w' => ∃ (x6_2 : List Int) (x7_2 : List ByteArray) (x10_2 : Int), v10 = .int .i64 x10_2 ∧ Aside0 (rr_numbering.l1 kq l0 x6_2 x7_2 t114 x9_1 x10_2 = some (r1, r2)) ∧ Aside0 (kq ≤ k1) ∧ Aside0 (Kd.R (Kd.int .i64) 3 w' w.heap.size (fun _ => True) v6 x6_2) ∧ Aside0 (Kd.R Kd.string 9 w' w.heap.size (fun _ => True) v7 x7_2) ∧ Aside0 (Below w.heap.size w w'))
  case atStart => exact ⟨(x6_1), (x7_1), (0), (by first | rfl | (simp; done) | (simp [*]; done)), H', ⟨Nat.le_refl _⟩, ⟨by exact rk HO_6.out⟩, ⟨by exact rk HO_7.out⟩, ⟨by exact gs HB.out⟩⟩
  clear H'
  obtain ⟨x6_2, x7_2, x10_2, rfl, HA, HK2, HO_6, HO_7, HB⟩ := hrel
  cases gk with
  | zero => exact absurd HA.out (by simp [rr_numbering.l1])
  | succ k2 =>
   have H := HA.out
   clear HA
   simp only [rr_numbering.l1] at H
   by_cases c10 : x10_2 < (t114.size : Int)
   rotate_left
   ·rw [if_neg c10] at H
    have c10b0 : decide (x10_2 < (t114.size : Int)) = false := decide_eq_false c10
    clear c10
    have H' := a_ H
    clear H
    go_wp2
    go_roundg k2
    case measure => have := HK1.out; have := HK2.out; omega
    case rel => exact ⟨(x6_2), (x7_2), (wrap64 (x9_1 + 1)), (by first | rfl | (simp; done) | (simp [*]; done)), H', ⟨by have := HK1.out; have := HK2.out; omega⟩, ⟨by exact rk HO_6.out⟩, ⟨by exact rk HO_7.out⟩, ⟨by exact gs HB.out⟩⟩
   rw [if_pos c10] at H
   have c10b0 : decide (x10_2 < (t114.size : Int)) = true := decide_eq_true c10
   clear c10
   by_cases c11 : 0 ≤ x9_1
   rotate_left
   ·rw [if_neg c11] at H
    exact absurd H (by simp)
   rw [if_pos c11] at H
   have c11b0 : decide (0 ≤ x9_1) = true := decide_eq_true c11
   clear c11
   by_cases c12 : x9_1 < (x6_2.length : Int)
   rotate_left
   ·rw [if_neg c12] at H
    exact absurd H (by simp)
   rw [if_pos c12] at H
   have c12b0 : decide (x9_1 < (x6_2.length : Int)) = true := decide_eq_true c12
   clear c12
   by_cases c13 : 0 ≤ x10_2
   rotate_left
   ·rw [if_neg c13] at H
    exact absurd H (by simp)
   rw [if_pos c13] at H
   have c13b0 : decide (0 ≤ x10_2) = true := decide_eq_true c13
   clear c13
   replace H := Option.bind_eq_some_iff.mp H
   obtain ⟨t116, A150, H⟩ := H
   try dsimp only at H
   have A15 := a_ A150
   clear A150
   have H' := a_ H
   clear H
   try go_wp2
   replace HO_6 := a_ (Kd.R_drew HO_6.out)
   replace HO_7 := a_ (Kd.R_drew HO_7.out)
   replace HB := a_ (b1_ HB.out)
   obtain ⟨Ao17, co17, eo17⟩ := Kd.R_slice HO_6.out
   (first | subst eo17 | (injection eo17 with f1_ f2_ f3_; have f4_ := f1_.symm; have f5_ := f3_.symm; clear f1_ f2_ f3_; subst f4_; subst f5_))
   have p115 : 0 ≤ (x9_1 : Int) := of_decide_eq_true (by first | (with_reducible assumption) | assumption)
   have q115 : x9_1 < (x6_2.length : Int) := of_decide_eq_true (by first | (with_reducible assumption) | assumption)
   obtain ⟨ad115, e115, hx115_0⟩ := Kd.at_int (Kd.R_reads' HO_6.out).2.2 x9_1 p115 q115
   cases e115
   replace p115 := eq_true p115
   replace q115 := eq_true q115
   have p14 : 0 ≤ (x10_2 : Int) := of_decide_eq_true (by first | (with_reducible assumption) | assumption)
   have q14 : x10_2 < (t114.size : Int) := of_decide_eq_true (by first | (with_reducible assumption) | assumption)
   have hx14 := bt_at t114 x10_2
   replace p14 := eq_true p14
   replace q14 := eq_true q14
   refine start_ (n := 10) (S := fun w' => w'.cell? (ad115.add (x9_1).toNat) = some (.int .i64 (rd x6_2 x9_1))) (ds := []) #[false, false, false, false, false, false, false, false, false, false] (by kernel_rfl) rfl rfl (hx115_0) (fun hHeld => ?_); refine with_tabW rr_numbering.tab10 rr_numbering.bits10 (fun HT_ HW_ => ?_)
   generalize wr.drew = w16 at HO_6 HO_7 HB hx115_0 hHeld ⊢
   refine pure_ (i := 0) (N := some 32) (v := ?_) (a' := ?_) #[true, false, false, false, false, false, false, false, false, false] rfl rfl (any_of HT_.out (by kernel_rfl)) (fun _ _ _ h => h) (Or.inl ⟨by rfl, ?_⟩) ?_ ?_
   rotate_left
   ·intro w'
    go_simp
    with_reducible rfl
   rotate_left
   ·simp only [Act.put, List.setIfInBounds_toArray, List.set_cons_zero, List.set_cons_succ, i64_w, i32_w]
    rfl
   refine pure_ (i := 1) (N := some 33) (v := ?_) (a' := ?_) #[true, true, false, false, false, false, false, false, false, false] rfl rfl (any_of HT_.out (by kernel_rfl)) (fun _ _ _ h => h) (Or.inl ⟨by rfl, ?_⟩) ?_ ?_
   rotate_left
   ·intro w'
    go_simp
    with_reducible rfl
   rotate_left
   ·simp only [Act.put, List.setIfInBounds_toArray, List.set_cons_zero, List.set_cons_succ, i64_w, i32_w]
    rfl
   refine pure_ (i := 2) (N := some 34) (v := ?_) (a' := ?_) #[true, true, true, false, false, false, false, false, false, false] rfl rfl (any_of HT_.out (by kernel_rfl)) (fun _ _ _ h => h) (Or.inl ⟨by rfl, ?_⟩) ?_ ?_
   rotate_left
   ·intro w'
    go_simp
    with_reducible rfl
   rotate_left
   ·simp only [Act.put, List.setIfInBounds_toArray, List.set_cons_zero, List.set_cons_succ, i64_w, i32_w]
    rfl
   refine pure_ (i := 3) (N := some 35) (v := ?_) (a' := ?_) #[true, true, true, true, false, false, false, false, false, false] rfl rfl (any_of HT_.out (by kernel_rfl)) (fun _ _ _ h => h) (Or.inl ⟨by rfl, ?_⟩) ?_ ?_
   rotate_left
   ·intro w'
    go_simp
    with_reducible rfl
   rotate_left
   ·simp only [Act.put, List.setIfInBounds_toArray, List.set_cons_zero, List.set_cons_succ, i64_w, i32_w]
    rfl
   refine pure_ (i := 5) (N := some 37) (v := ?_) (a' := ?_) #[true, true, true, true, false, true, false, false, false, false] rfl rfl (any_of HT_.out (by kernel_rfl)) (fun _ _ _ h => h) (Or.inl ⟨by rfl, ?_⟩) ?_ ?_
   rotate_left
   ·intro w'
    go_simp
    with_reducible rfl
   rotate_left
   ·simp only [Act.put, List.setIfInBounds_toArray, List.set_cons_zero, List.set_cons_succ, i64_w, i32_w]
    rfl
   refine pure_ (i := 6) (N := some 38) (v := ?_) (a' := ?_) #[true, true, true, true, false, true, true, false, false, false] rfl rfl (any_of HT_.out (by kernel_rfl)) (fun _ _ _ h => h) (Or.inl ⟨by rfl, ?_⟩) ?_ ?_
   rotate_left
   ·intro w'
    go_simp
    with_reducible rfl
   rotate_left
   ·simp only [Act.put, List.setIfInBounds_toArray, List.set_cons_zero, List.set_cons_succ, i64_w, i32_w]
    rfl
   refine take_ (i := 4) (N := some 36) (v := ?_) (a' := ?_) #[true, true, true, true, true, true, true, false, false, false] rfl rfl (take_ofW HT_.out HW_.out (by kernel_rfl)) (fun _ _ _ h => h) (Or.inl ⟨by rfl, ?_⟩) hHeld ?_ ?_
   rotate_left
   ·intro w' s0
    go_simp
    with_reducible rfl
   rotate_left
   ·simp only [Act.put, List.setIfInBounds_toArray, List.set_cons_zero, List.set_cons_succ, i64_w, i32_w]
    rfl
   refine take_ (i := 7) (N := some 39) (v := ?_) (a' := ?_) #[true, true, true, true, true, true, true, true, false, false] rfl rfl (take_ofW HT_.out HW_.out (by kernel_rfl)) (fun _ _ _ h => h) (Or.inl ⟨by rfl, ?_⟩) hHeld ?_ ?_
   rotate_left
   ·intro w' s0
    go_simp
    with_reducible rfl
   rotate_left
   ·simp only [Act.put, List.setIfInBounds_toArray, List.set_cons_zero, List.set_cons_succ, i64_w, i32_w]
    rfl
   refine one_ (i := 8) (N := some 40) #[true, true, true, true, true, true, true, true, true, false] rfl rfl (one_of HT_.out (by kernel_rfl)) (by decide) (fun K hK => ?_)
   refine goes_ Try.func58 (by kernel_rfl) rfl #[.slice A0 l0.length c0, .int .i64 (rd x6_2 x9_1), .int .u8 (bt t114 x10_2)] (by rfl) rfl rfl (by (try simp only [List.map_toArray, List.map_cons, List.map_nil]); first | done | rfl | (simp only [List.length_drop, List.length_take]; rfl)) ?_
   with_reducible refine (rr_step.calls k2 _ _ l0 (rd x6_2 x9_1) (bt t114 x10_2) t116 _ ?side1 ?side2 A15.out).mono ?_
   (case side1 => repeat (first | exact (Kd.C_below HR0.out HB.out) | (with_reducible refine Kd.C_alloc ?_ _) | (with_reducible refine Kd.C_drewN ?_ _) | (with_reducible refine Kd.C_drew ?_)))
   (case side2 => exact HC0.out)
   rintro e w' ⟨rfl, ⟨nd, rfl⟩⟩
   refine ⟨_, rfl, ?_⟩
   refine hK.out _ _ (hHeld) (fun hHeld => ?_)
   clear hK K
   refine norm_ (a' := ?_) ?_ ?_
   rotate_left
   ·show Act.put _ (some 40) _ = _
    simp only [Act.put, List.setIfInBounds_toArray, List.set_cons_zero, List.set_cons_succ, i64_w, i32_w]
    rfl
   refine pure_ (i := 9) (N := some 11) (v := ?_) (a' := ?_) #[true, true, true, true, true, true, true, true, true, true] rfl rfl (any_of HT_.out (by kernel_rfl)) (fun _ _ _ h => h) (Or.inl ⟨by rfl, ?_⟩) ?_ ?_
   rotate_left
   ·intro w'
    go_simp
    with_reducible rfl
   rotate_left
   ·simp only [Act.put, List.setIfInBounds_toArray, List.set_cons_zero, List.set_cons_succ, i64_w, i32_w]
    rfl
   refine done_ (done_of HT_.out (by kernel_rfl)) ?_
   try go_wp2
   go_loopg [12, 13] k2 (fun kq v12 v13 w' => ∃ (x12_3 : Bool) (x13_3 : Int), v12 = .bool x12_3 ∧ v13 = .int .i64 x13_3 ∧ Aside0 (rr_numbering.l2 kq l0 x6_2 x7_2 t114 x9_1 x10_2 t116 x12_3 x13_3 = some (r1, r2)) ∧ Aside0 (kq ≤ k2) ∧ Aside0 (Kd.R (Kd.int .i64) 3 w' w.heap.size (fun _ => True) (.slice (some ad115) x6_2.length co17) x6_2) ∧ Aside0 (Kd.R Kd.string 9 w' w.heap.size (fun _ => True) u7 x7_2) ∧ Aside0 (Below w.heap.size w w'))
   case atStart => exact ⟨(false), (0), (by first | rfl | (simp; done) | (simp [*]; done)), (by first | rfl | (simp; done) | (simp [*]; done)), H', ⟨Nat.le_refl _⟩, ⟨by exact rk HO_6.out⟩, ⟨by exact rk HO_7.out⟩, ⟨by exact gs HB.out⟩⟩
   clear H'
   obtain ⟨x12_3, x13_3, rfl, rfl, HA, HK3, HO_6, HO_7, HB⟩ := hrel
   cases gk with
   | zero => exact absurd HA.out (by simp [rr_numbering.l2])
   | succ k3 =>
    have H := HA.out
    clear HA
    simp only [rr_numbering.l2] at H
    by_cases c18 : x13_3 < (x6_2.length : Int)
    ·rw [if_pos c18] at H
     have c18b0 : decide (x13_3 < (x6_2.length : Int)) = true := decide_eq_true c18
     clear c18
     by_cases c19 : x12_3 = true
     ·subst c19
      have H1 := H; rw [if_pos rfl] at H1
      clear H
      have H := H1
      clear H1
      have H' := a_ H
      clear H
      go_wp2
      go_roundg k3
      case measure => have := HK1.out; have := HK2.out; have := HK3.out; omega
      case rel => exact ⟨(true), (wrap64 (x13_3 + 1)), (by first | rfl | (simp; done) | (simp [*]; done)), (by first | rfl | (simp; done) | (simp [*]; done)), H', ⟨by have := HK1.out; have := HK2.out; have := HK3.out; omega⟩, ⟨by exact rk HO_6.out⟩, ⟨by exact rk HO_7.out⟩, ⟨by exact gs HB.out⟩⟩
     replace c19 := Bool.eq_false_iff.mpr c19
     subst c19
     have H1 := H; rw [if_neg (show ¬ (false = true) by decide)] at H1
     clear H
     have H := H1
     clear H1
     by_cases c20 : 0 ≤ x13_3
     rotate_left
     ·rw [if_neg c20] at H
      exact absurd H (by simp)
     rw [if_pos c20] at H
     have c20b0 : decide (0 ≤ x13_3) = true := decide_eq_true c20
     clear c20
     have H' := a_ H
     clear H
     have p117 : 0 ≤ (x13_3 : Int) := of_decide_eq_true (by first | (with_reducible assumption) | assumption)
     have q117 : x13_3 < (x6_2.length : Int) := of_decide_eq_true (by first | (with_reducible assumption) | assumption)
     obtain ⟨ad117, e117, hx117_0⟩ := Kd.at_int (Kd.R_reads' HO_6.out).2.2 x13_3 p117 q117
     obtain rfl : ad115 = ad117 := (by injection e117)
     replace p117 := eq_true p117
     replace q117 := eq_true q117
     go_wp2
     go_roundg k3
     case measure => have := HK1.out; have := HK2.out; have := HK3.out; omega
     case rel => exact ⟨(((rd x6_2 x13_3) == t116)), (wrap64 (x13_3 + 1)), (by first | rfl | (simp; done) | (simp [*]; done)), (by first | rfl | (simp; done) | (simp [*]; done)), H', ⟨by have := HK1.out; have := HK2.out; have := HK3.out; omega⟩, ⟨by exact rk HO_6.out⟩, ⟨by exact rk HO_7.out⟩, ⟨by exact gs HB.out⟩⟩
    rw [if_neg c18] at H
    have c18b0 : decide (x13_3 < (x6_2.length : Int)) = false := decide_eq_false c18
    clear c18
    by_cases c21 : x12_3 = true
    ·subst c21
     have H1 := H; rw [if_pos rfl] at H1
     clear H
     have H := H1
     clear H1
     have H' := a_ H
     clear H
     go_wp2
     go_roundg k3
     case measure => have := HK1.out; have := HK2.out; have := HK3.out; omega
     case rel => exact ⟨(x6_2), (x7_2), (wrap64 (x10_2 + 1)), (by first | rfl | (simp; done) | (simp [*]; done)), H', ⟨by have := HK1.out; have := HK2.out; have := HK3.out; omega⟩, ⟨by exact rk HO_6.out⟩, ⟨by exact rk HO_7.out⟩, ⟨by exact gs HB.out⟩⟩
    replace c21 := Bool.eq_false_iff.mpr c21
    subst c21
    have H1 := H; rw [if_neg (show ¬ (false = true) by decide)] at H1
    clear H
    have H := H1
    clear H1
    by_cases c22 : x6_2.length < 17592186044416
    rotate_left
    ·rw [if_neg c22] at H
     exact absurd H (by simp)
    rw [if_pos c22] at H
    have LMc22 := a_ c22
    clear c22
    obtain ⟨y118, hy118⟩ : ∃ y_ : List Int, y_ = (x6_2 ++ [t116]) := ⟨_, rfl⟩
    replace H : (if 0 ≤ x9_1 then (if x9_1 < (x7_2.length : Int) then (if 0 ≤ x10_2 then (if x10_2 ≤ (wrap64 (x10_2 + 1)) then (if (wrap64 (x10_2 + 1)) ≤ (t114.size : Int) then (if (rdOf ByteArray.empty x7_2 x9_1).size + (t114.extract (x10_2 : Int).toNat ((wrap64 (x10_2 + 1)) : Int).toNat).size ≤ 9223372036854775807 then (if x7_2.length < 8796093022208 then (rr_numbering.l1 k3 l0 y118 (x7_2 ++ [(rdOf ByteArray.empty x7_2 x9_1) ++ (t114.extract (x10_2 : Int).toNat ((wrap64 (x10_2 + 1)) : Int).toNat)]) t114 x9_1 (wrap64 (x10_2 + 1))) else (none)) else (none)) else (none)) else (none)) else (none)) else (none)) else (none)) = some (r1, r2) := by first | (rw [hy118]; with_reducible exact H) | (have H2_ := (Option.bind_some _ _).symm.trans H; rw [hy118]; with_reducible exact H2_) | (have H2_ := (Option.bind_some _ _).symm.trans H; with_reducible exact H2_) | with_reducible exact H | (rw [hy118]; exact H) | exact H
    have Ny118 := a_ hy118
    clear hy118
    by_cases c23 : 0 ≤ x9_1
    rotate_left
    ·rw [if_neg c23] at H
     exact absurd H (by simp)
    rw [if_pos c23] at H
    have c23b0 : decide (0 ≤ x9_1) = true := decide_eq_true c23
    clear c23
    by_cases c24 : x9_1 < (x7_2.length : Int)
    rotate_left
    ·rw [if_neg c24] at H
     exact absurd H (by simp)
    rw [if_pos c24] at H
    have c24b0 : decide (x9_1 < (x7_2.length : Int)) = true := decide_eq_true c24
    clear c24
    by_cases c25 : 0 ≤ x10_2
    rotate_left
    ·rw [if_neg c25] at H
     exact absurd H (by simp)
    rw [if_pos c25] at H
    have c25b0 := eq_true c25
    have c25b1 : decide (0 ≤ x10_2) = true := decide_eq_true c25
    clear c25
    by_cases c26 : x10_2 ≤ (wrap64 (x10_2 + 1))
    rotate_left
    ·rw [if_neg c26] at H
     exact absurd H (by simp)
    rw [if_pos c26] at H
    have c26b0 := eq_true c26
    have c26b1 : decide (x10_2 ≤ (wrap64 (x10_2 + 1))) = true := decide_eq_true c26
    by_cases c27 : (wrap64 (x10_2 + 1)) ≤ (t114.size : Int)
    rotate_left
    ·rw [if_neg c27] at H
     exact absurd H (by simp)
    rw [if_pos c27] at H
    have c27b0 := eq_true c27
    have c27b1 : decide ((wrap64 (x10_2 + 1)) ≤ (t114.size : Int)) = true := decide_eq_true c27
    by_cases c28 : (rdOf ByteArray.empty x7_2 x9_1).size + (t114.extract (x10_2 : Int).toNat ((wrap64 (x10_2 + 1)) : Int).toNat).size ≤ 9223372036854775807
    rotate_left
    ·rw [if_neg c28] at H
     exact absurd H (by simp)
    rw [if_pos c28] at H
    have c28b0 := eq_true c28
    have c28b1 : decide ((rdOf ByteArray.empty x7_2 x9_1).size + (t114.extract (x10_2 : Int).toNat ((wrap64 (x10_2 + 1)) : Int).toNat).size ≤ 9223372036854775807) = true := decide_eq_true c28
    try have c28b2 : (9223372036854775807 < (rdOf ByteArray.empty x7_2 x9_1).size + (t114.extract (x10_2 : Int).toNat ((wrap64 (x10_2 + 1)) : Int).toNat).size) = False := eq_false (Nat.not_lt.2 c28)
    (try (have c28b3 : (9223372036854775807 < (rdOf ByteArray.empty x7_2 x9_1).size + (((wrap64 (x10_2 + 1))).toNat - (x10_2).toNat)) = False := eq_false (by have h1_ := c28; simp only [ByteArray.size_append, ByteArray.size_extract] at h1_; have h2_ : ((wrap64 (x10_2 + 1)) : Int) ≤ (t114.size : Int) := of_decide_eq_true (by first | (with_reducible assumption) | assumption | (apply decide_eq_true; exact of_eq_true (by assumption))); omega)))
    by_cases c29 : x7_2.length < 8796093022208
    rotate_left
    ·rw [if_neg c29] at H
     exact absurd H (by simp)
    rw [if_pos c29] at H
    have LMc29 := a_ c29
    clear c29
    obtain ⟨y122, hy122⟩ : ∃ y_ : List ByteArray, y_ = (x7_2 ++ [(rdOf ByteArray.empty x7_2 x9_1) ++ (t114.extract (x10_2 : Int).toNat ((wrap64 (x10_2 + 1)) : Int).toNat)]) := ⟨_, rfl⟩
    replace H : (rr_numbering.l1 k3 l0 y118 y122 t114 x9_1 (wrap64 (x10_2 + 1))) = some (r1, r2) := by first | (rw [hy122]; with_reducible exact H) | (have H2_ := (Option.bind_some _ _).symm.trans H; rw [hy122]; with_reducible exact H2_) | (have H2_ := (Option.bind_some _ _).symm.trans H; with_reducible exact H2_) | with_reducible exact H | (rw [hy122]; exact H) | exact H
    have Ny122 := a_ hy122
    clear hy122
    have H' := a_ H
    clear H
    try go_wp2_with (first | ((with_reducible refine gate_builtin (b := .append) (xs := #[.tmp 58, .tmp 60]) rfl ?_); at_builtin; refine Kd.R_append (Kd.int .i64) (w0 := w) w.heap.size rfl (.tmp 58) (.tmp 60) 22 3 (.int .i64 0) 8 rfl Try.underlying22 info3 rfl (by decide) (by omega) (.slice (some ad115) x6_2.length co17) x6_2 t116 [.int .i64 t116] (fun _ => True) (fun _ => False) rfl rfl ?aP (fun _ hk => hk.elim) ?aF ?aO ?aB ?aS ?aL ?_; (case aP => exact rfl); (case aB => exact (gr HB.out)); (case aF => exact (fun _ _ => trivial)); (case aO => exact (by exact rk HO_6.out)); (case aS => exact (bZ_ (gr HB.out))); (case aL => have := LMc22.out; omega); intro v119 w30 ho hb hg hat; rw [← Ny118.out] at ho; have HO120 := a_ (ho); replace HO_7 := a_ (Kd.R_over' (by exact rk HO_7.out) (Kd.R_typed (by exact rk HO_6.out)) (by decide) hg); replace HB := a_ (hb); clear HO_6; clear ho hb hg hat))
    replace HO_7 := a_ (Kd.R_drew HO_7.out)
    replace HO120 := a_ (Kd.R_drew HO120.out)
    replace HB := a_ (b1_ HB.out)
    obtain ⟨Ao32, co32, eo32⟩ := Kd.R_slice HO_7.out
    (first | subst eo32 | (injection eo32 with f1_ f2_ f3_; have f4_ := f1_.symm; have f5_ := f3_.symm; clear f1_ f2_ f3_; subst f4_; subst f5_))
    have p121 : 0 ≤ (x9_1 : Int) := of_decide_eq_true (by first | (with_reducible assumption) | assumption)
    have q121 : x9_1 < (x7_2.length : Int) := of_decide_eq_true (by first | (with_reducible assumption) | assumption)
    obtain ⟨ad121, e121, hx121_0⟩ := Kd.at_string (Kd.R_reads' HO_7.out).2.2 x9_1 p121 q121
    cases e121
    replace p121 := eq_true p121
    replace q121 := eq_true q121
    refine start_ (n := 14) (S := fun w' => w'.cell? (ad121.add (x9_1).toNat) = some (.string (rdOf ByteArray.empty x7_2 x9_1))) (ds := [11, 12]) #[false, false, false, false, false, false, false, false, false, false, false, false, false, false] (by kernel_rfl) rfl rfl (hx121_0) (fun hHeld => ?_); refine with_tabW rr_numbering.tab18 rr_numbering.bits18 (fun HT_ HW_ => ?_)
    generalize w30.drew = w31 at HO_7 HO120 HB hx121_0 hHeld ⊢
    refine pure_ (i := 0) (N := some 62) (v := ?_) (a' := ?_) #[true, false, false, false, false, false, false, false, false, false, false, false, false, false] rfl rfl (any_of HT_.out (by kernel_rfl)) (fun _ _ _ h => h) (Or.inl ⟨by rfl, ?_⟩) ?_ ?_
    rotate_left
    ·intro w'
     go_simp
     with_reducible rfl
    rotate_left
    ·simp only [Act.put, List.setIfInBounds_toArray, List.set_cons_zero, List.set_cons_succ, i64_w, i32_w]
     rfl
    refine pure_ (i := 1) (N := some 63) (v := ?_) (a' := ?_) #[true, true, false, false, false, false, false, false, false, false, false, false, false, false] rfl rfl (any_of HT_.out (by kernel_rfl)) (fun _ _ _ h => h) (Or.inl ⟨by rfl, ?_⟩) ?_ ?_
    rotate_left
    ·intro w'
     go_simp
     with_reducible rfl
    rotate_left
    ·simp only [Act.put, List.setIfInBounds_toArray, List.set_cons_zero, List.set_cons_succ, i64_w, i32_w]
     rfl
    refine pure_ (i := 2) (N := some 64) (v := ?_) (a' := ?_) #[true, true, true, false, false, false, false, false, false, false, false, false, false, false] rfl rfl (any_of HT_.out (by kernel_rfl)) (fun _ _ _ h => h) (Or.inl ⟨by rfl, ?_⟩) ?_ ?_
    rotate_left
    ·intro w'
     go_simp
     with_reducible rfl
    rotate_left
    ·simp only [Act.put, List.setIfInBounds_toArray, List.set_cons_zero, List.set_cons_succ, i64_w, i32_w]
     rfl
    refine pure_ (i := 3) (N := some 65) (v := ?_) (a' := ?_) #[true, true, true, true, false, false, false, false, false, false, false, false, false, false] rfl rfl (any_of HT_.out (by kernel_rfl)) (fun _ _ _ h => h) (Or.inl ⟨by rfl, ?_⟩) ?_ ?_
    rotate_left
    ·intro w'
     go_simp
     with_reducible rfl
    rotate_left
    ·simp only [Act.put, List.setIfInBounds_toArray, List.set_cons_zero, List.set_cons_succ, i64_w, i32_w]
     rfl
    refine pure_ (i := 5) (N := some 67) (v := ?_) (a' := ?_) #[true, true, true, true, false, true, false, false, false, false, false, false, false, false] rfl rfl (any_of HT_.out (by kernel_rfl)) (fun _ _ _ h => h) (Or.inl ⟨by rfl, ?_⟩) ?_ ?_
    rotate_left
    ·intro w'
     go_simp
     with_reducible rfl
    rotate_left
    ·simp only [Act.put, List.setIfInBounds_toArray, List.set_cons_zero, List.set_cons_succ, i64_w, i32_w]
     rfl
    refine pure_ (i := 6) (N := some 68) (v := ?_) (a' := ?_) #[true, true, true, true, false, true, true, false, false, false, false, false, false, false] rfl rfl (any_of HT_.out (by kernel_rfl)) (fun _ _ _ h => h) (Or.inl ⟨by rfl, ?_⟩) ?_ ?_
    rotate_left
    ·intro w'
     go_simp
     with_reducible rfl
    rotate_left
    ·simp only [Act.put, List.setIfInBounds_toArray, List.set_cons_zero, List.set_cons_succ, i64_w, i32_w]
     rfl
    refine pure_ (i := 7) (N := some 69) (v := ?_) (a' := ?_) #[true, true, true, true, false, true, true, true, false, false, false, false, false, false] rfl rfl (any_of HT_.out (by kernel_rfl)) (fun _ _ _ h => h) (Or.inl ⟨by rfl, ?_⟩) ?_ ?_
    rotate_left
    ·intro w'
     go_simp
     with_reducible rfl
    rotate_left
    ·simp only [Act.put, List.setIfInBounds_toArray, List.set_cons_zero, List.set_cons_succ, i64_w, i32_w]
     rfl
    refine pure_ (i := 8) (N := some 70) (v := ?_) (a' := ?_) #[true, true, true, true, false, true, true, true, true, false, false, false, false, false] rfl rfl (any_of HT_.out (by kernel_rfl)) (fun _ _ _ h => h) (Or.inl ⟨by rfl, ?_⟩) ?_ ?_
    rotate_left
    ·intro w'
     go_simp
     with_reducible rfl
    rotate_left
    ·simp only [Act.put, List.setIfInBounds_toArray, List.set_cons_zero, List.set_cons_succ, i64_w, i32_w]
     rfl
    refine pure_ (i := 9) (N := some 71) (v := ?_) (a' := ?_) #[true, true, true, true, false, true, true, true, true, true, false, false, false, false] rfl rfl (any_of HT_.out (by kernel_rfl)) (fun _ _ _ h => h) (Or.inl ⟨by rfl, ?_⟩) ?_ ?_
    rotate_left
    ·intro w'
     go_simp
     with_reducible rfl
    rotate_left
    ·simp only [Act.put, List.setIfInBounds_toArray, List.set_cons_zero, List.set_cons_succ, i64_w, i32_w]
     rfl
    refine take_ (i := 4) (N := some 66) (v := ?_) (a' := ?_) #[true, true, true, true, true, true, true, true, true, true, false, false, false, false] rfl rfl (take_ofW HT_.out HW_.out (by kernel_rfl)) (fun _ _ _ h => h) (Or.inl ⟨by rfl, ?_⟩) hHeld ?_ ?_
    rotate_left
    ·intro w' s0
     go_simp
     with_reducible rfl
    rotate_left
    ·simp only [Act.put, List.setIfInBounds_toArray, List.set_cons_zero, List.set_cons_succ, i64_w, i32_w]
     rfl
    refine pure_ (i := 10) (N := some 72) (v := ?_) (a' := ?_) #[true, true, true, true, true, true, true, true, true, true, true, false, false, false] rfl rfl (any_of HT_.out (by kernel_rfl)) (fun _ _ _ h => h) (Or.inl ⟨by rfl, ?_⟩) ?_ ?_
    rotate_left
    ·intro w'
     go_simp
     with_reducible rfl
    rotate_left
    ·simp only [Act.put, List.setIfInBounds_toArray, List.set_cons_zero, List.set_cons_succ, i64_w, i32_w]
     rfl
    refine last_ (i := 11) (N := some 73) #[true, true, true, true, true, true, true, true, true, true, true, true, false, false] rfl rfl (one_of HT_.out (by kernel_rfl)) (by decide) (fun K hK => ?_)
    refine value_ (w1 := ?_) (v := ?_) (by rfl) rfl ?_ ?_
    rotate_left 2
    ·go_simp
     constructor
     ·rfl
     ·rfl
    refine hK.out _ _ ?_
    clear hK K
    refine norm_ (a' := ?_) ?_ ?_
    rotate_left
    ·show Act.put _ (some 73) _ = _
     simp only [Act.put, List.setIfInBounds_toArray, List.set_cons_zero, List.set_cons_succ, i64_w, i32_w]
     rfl
    refine last_ (i := 12) (N := some 74) #[true, true, true, true, true, true, true, true, true, true, true, true, true, false] rfl rfl (one_of HT_.out (by kernel_rfl)) (by decide) (fun K hK => ?_)
    refine Kd.R_append_step Kd.string (w0 := w) w.heap.size (by rfl) (.tmp 62) (.tmp 73) 26 9 (.string ⟨#[]⟩) 16 rfl Try.underlying26 info9 rfl (by decide) (by omega) (.slice (some ad121) x7_2.length co32) x7_2 ((rdOf ByteArray.empty x7_2 x9_1) ++ (t114.extract (x10_2 : Int).toNat ((wrap64 (x10_2 + 1)) : Int).toNat)) [.string ((rdOf ByteArray.empty x7_2 x9_1) ++ (t114.extract (x10_2 : Int).toNat ((wrap64 (x10_2 + 1)) : Int).toNat))] (fun _ => True) (fun _ => False) rfl rfl ?aP (fun _ hk => hk.elim) ?aF ?aO ?aB ?aS ?aL ?_
    (case aP => exact rfl)
    (case aB => exact (gr HB.out))
    (case aF => exact (fun _ _ => trivial))
    (case aO => exact (by exact rk HO_7.out))
    (case aS => exact (bZ_ (gr HB.out)))
    (case aL => have := LMc29.out; omega)
    intro v123 w33 ho hb hg hat
    rw [← Ny122.out] at ho
    have HO124 := a_ (ho)
    replace HO120 := a_ (Kd.R_over' (by exact rk HO120.out) (Kd.R_typed (by exact rk HO_7.out)) (by decide) hg)
    replace HB := a_ (hb)
    clear HO_7
    clear ho hb hg hat
    refine hK.out _ _ ?_
    clear hK K
    refine norm_ (a' := ?_) ?_ ?_
    rotate_left
    ·show Act.put _ (some 74) _ = _
     simp only [Act.put, List.setIfInBounds_toArray, List.set_cons_zero, List.set_cons_succ, i64_w, i32_w]
     rfl
    refine pure_ (i := 13) (N := some 7) (v := ?_) (a' := ?_) #[true, true, true, true, true, true, true, true, true, true, true, true, true, true] rfl rfl (any_of HT_.out (by kernel_rfl)) (fun _ _ _ h => h) (Or.inl ⟨by rfl, ?_⟩) ?_ ?_
    rotate_left
    ·intro w'
     go_simp
     with_reducible rfl
    rotate_left
    ·simp only [Act.put, List.setIfInBounds_toArray, List.set_cons_zero, List.set_cons_succ, i64_w, i32_w]
     rfl
    refine done_ (done_of HT_.out (by kernel_rfl)) ?_
    try go_wp2
    go_roundg k3
    case measure => have := HK1.out; have := HK2.out; have := HK3.out; omega
    case rel => exact ⟨(y118), (y122), (wrap64 (x10_2 + 1)), (by first | rfl | (simp; done) | (simp [*]; done)), H', ⟨by have := HK1.out; have := HK2.out; have := HK3.out; omega⟩, ⟨by exact rk HO120.out⟩, ⟨by exact rk HO124.out⟩, ⟨by exact gs HB.out⟩⟩
def rr_Connected.f (k : Nat) (l0 : List (List Int)) : Option (Bool) := (rr_numbering.f k l0 0).bind fun bt125 => (if 0 < (l0.length : Int) then (some ((bt125.1.length : Int) == ((rd_L1 l0 0).length : Int))) else (none))
theorem rr_Connected.calls (k : Nat) (A0 : Option Addr) (c0 : Nat) (l0 : List (List Int)) (r : Bool) (w : World) (hr0 : Kd.C (Kd.slice 3 (Kd.int .i64)) w A0 l0.length l0) (hc0 : l0.length ≤ c0) (h : rr_Connected.f k l0 = some r) :
  Calls Try.prog 30 #[.slice A0 l0.length c0] w fun e w' => e = .returned (.bool r) ∧ Below w.heap.size w w' := by
 have HR0 := a_ hr0
 have HC0 := a_ hc0
 clear hr0 hc0
 have HB := a_ (Below.refl w.heap.size w)
 have H : ((rr_numbering.f k l0 0).bind fun bt125 => (if 0 < (l0.length : Int) then (some ((bt125.1.length : Int) == ((rd_L1 l0 0).length : Int))) else (none))) = some r := h
 clear h
 replace H := Option.bind_eq_some_iff.mp H
 obtain ⟨⟨t125, t126⟩, A20, H⟩ := H
 try dsimp only at H
 have A2 := a_ A20
 clear A20
 by_cases c3 : 0 < (l0.length : Int)
 rotate_left
 ·rw [if_neg c3] at H
  exact absurd H (by simp)
 rw [if_pos c3] at H
 have c3b0 : decide (0 < (l0.length : Int)) = true := decide_eq_true c3
 have c3b1 : decide (0 < l0.length) = true := decide_eq_true (by omega)
 clear c3
 obtain rfl := Option.some.inj H
 go_enter Try.func30, Try.ntmps30
 go_wp2_with (first | ((with_reducible refine gate_callee (f := 67) rfl ?_); refine goesL_ (some 7) rfl rfl Try.func67 (by kernel_rfl) rfl #[.slice A0 l0.length c0, .int .i64 0] rfl (by (try simp only [List.map_toArray, List.map_cons, List.map_nil]); first | done | rfl | (simp only [List.length_drop, List.length_take]; rfl)) ?_; (with_reducible refine (rr_numbering.calls k _ _ l0 0 t125 t126 _ ?side1 ?side2 A2.out).mono ?_); (case side1 => repeat (first | exact HR0.out | (with_reducible refine Kd.C_alloc ?_ _) | (with_reducible refine Kd.C_drewN ?_ _) | (with_reducible refine Kd.C_drew ?_))); (case side2 => exact HC0.out); rintro e w4 ⟨v127, v129, rfl, ho0, ho1, hb⟩; refine ⟨_, rfl, ?_⟩; have HO128 := a_ (Kd.R_lower ho0 (bZ_ (gr HB.out))); have HO130 := a_ (Kd.R_lower ho1 (bZ_ (gr HB.out))); replace HB := a_ (bT_ HB.out (tr hb)); obtain ⟨Ao5, co5, eo5⟩ := Kd.R_slice HO128.out; subst eo5; have p131 : 0 ≤ (0 : Int) := (by omega); have q131 : 0 < (l0.length : Int) := of_decide_eq_true (by first | (with_reducible assumption) | assumption); obtain ⟨ad131, A131_0, c131_0, e131, hx131_0, hl131_0, hi131_0⟩ := at_L1 HR0.out 0 p131 q131; cases e131; have qi131 : (0 < l0.length) = True := eq_true (by omega); (try rw [show ((0 : Int)).toNat = 0 from rfl] at hx131_0); (try rw [Addr.add_zero'] at hx131_0); replace hx131_0 := (HB.out.cell (World.block_lt_of_cell? w _ hx131_0)).trans hx131_0; have HR131_0 := a_ hi131_0; have HC131_0 := a_ hl131_0; clear hi131_0 hl131_0; replace p131 := eq_true p131; replace q131 := eq_true q131))
 go_ret
 exact ⟨by first | rfl | (simp [errW_none, errW_some] <;> rfl) | (simp [*, errW_none, errW_some] <;> rfl), by exact gs HB.out⟩
mutual
def rr_Renumber.l0 : Nat → List (List Int) → List Int → List Int → Int → Option ((List (List Int)))
 | 0, _, _, _, _ => none
 | k + 1, x0, x5, x7, x8 => if x8 < (x5.length : Int) then (if 0 ≤ x8 then (if 0 ≤ (rd x5 x8) then (if (rd x5 x8) < (x7.length : Int) then (rr_Renumber.l0 k x0 x5 (x7.set ((rd x5 x8) : Int).toNat x8) (wrap64 (x8 + 1))) else (none)) else (none)) else (none)) else (rr_Renumber.l1 k x0 x5 x7 ([] : List (List Int)) 0)
def rr_Renumber.l1 : Nat → List (List Int) → List Int → List Int → List (List Int) → Int → Option ((List (List Int)))
 | 0, _, _, _, _, _ => none
 | k + 1, x0, x5, x7, x9, x10 => if x10 < (x0.length : Int) then (rr_Renumber.l2 k x0 x5 x7 x9 x10 ([] : List Int) 0) else (some x9)
def rr_Renumber.l2 : Nat → List (List Int) → List Int → List Int → List (List Int) → Int → List Int → Int → Option ((List (List Int)))
 | 0, _, _, _, _, _, _, _ => none
 | k + 1, x0, x5, x7, x9, x10, x11, x12 => if x12 < (x5.length : Int) then (if 0 ≤ x10 then (if x10 < (x0.length : Int) then (if 0 ≤ x12 then (if 0 ≤ (rd x5 x12) then (if (rd x5 x12) < ((rd_L1 x0 x10).length : Int) then (if 0 ≤ (rd (rd_L1 x0 x10) (rd x5 x12)) then (if (rd (rd_L1 x0 x10) (rd x5 x12)) < (x7.length : Int) then (if x11.length < 17592186044416 then (rr_Renumber.l2 k x0 x5 x7 x9 x10 (x11 ++ [rd x7 (rd (rd_L1 x0 x10) (rd x5 x12))]) (wrap64 (x12 + 1))) else (none)) else (none)) else (none)) else (none)) else (none)) else (none)) else (none)) else (none)) else (if x9.length < 5864062014805 then (rr_Renumber.l1 k x0 x5 x7 (x9 ++ [x11]) (wrap64 (x10 + 1))) else (none))
end
def rr_Renumber.f (k : Nat) (l0 : List (List Int)) (a1 : Int) : Option ((List (List Int))) := (rr_numbering.f k l0 a1).bind fun bt132 => (if 0 ≤ (bt132.1.length : Int) then (if ((bt132.1.length : Int) : Int).toNat ≤ 35184372088832 then (rr_Renumber.l0 k l0 bt132.1 (List.replicate ((bt132.1.length : Int) : Int).toNat 0) 0) else (none)) else (none))
def rr_Renumber.T15 : Bool × List (List Nat × List Nat) := (true, [([], []), ([], []), ([], []), ([], []), ([2, 3], [2, 3]), ([4], [4]), ([], []), ([], []), ([6, 7], [6, 7]), ([8], [8]), ([5, 9], [5, 9]), ([10], [10]), ([1, 11], [1, 11]), ([12], [12]), ([13], [13]), ([0, 14], [0, 14]), ([15, 15, 0, 1, 2, 3, 4, 5, 6, 7, 8, 9, 10, 11, 12, 13, 14, 15], [0, 15])])
def rr_Renumber.B15 : List Nat := [0, 0, 0, 0, 12, 28, 0, 0, 192, 448, 1020, 2044, 4094, 8190, 16382, 32767, 65535]
theorem rr_Renumber.tab15 : rtab .any (opsOf Try.f32 15) = rr_Renumber.T15 := by kernel_rfl
theorem rr_Renumber.bits15 : waitsOk rr_Renumber.T15.2 rr_Renumber.B15 = true := by kernel_rfl
theorem rr_Renumber.calls (k : Nat) (A0 : Option Addr) (c0 : Nat) (l0 : List (List Int)) (a1 : Int) (r : List (List Int)) (w : World) (hr0 : Kd.C (Kd.slice 3 (Kd.int .i64)) w A0 l0.length l0) (hc0 : l0.length ≤ c0) (h : rr_Renumber.f k l0 a1 = some r) :
  Calls Try.prog 32 #[.slice A0 l0.length c0, .int .i64 a1] w fun e w' => ∃ v0_ : Value, e = .returned (v0_) ∧ Kd.S (Kd.slice 3 (Kd.int .i64)) 22 w' w.heap.size (fun _ => True) v0_ r ∧ Below w.heap.size w w' := by
 have HR0 := a_ hr0
 have HC0 := a_ hc0
 clear hr0 hc0
 have HB := a_ (Below.refl w.heap.size w)
 have H : ((rr_numbering.f k l0 a1).bind fun bt132 => (if 0 ≤ (bt132.1.length : Int) then (if ((bt132.1.length : Int) : Int).toNat ≤ 35184372088832 then (rr_Renumber.l0 k l0 bt132.1 (List.replicate ((bt132.1.length : Int) : Int).toNat 0) 0) else (none)) else (none))) = some r := h
 clear h
 replace H := Option.bind_eq_some_iff.mp H
 obtain ⟨⟨t132, t133⟩, A30, H⟩ := H
 try dsimp only at H
 have A3 := a_ A30
 clear A30
 by_cases c4 : 0 ≤ (t132.length : Int)
 rotate_left
 ·rw [if_neg c4] at H
  exact absurd H (by simp)
 rw [if_pos c4] at H
 have c4b0 := eq_true c4
 have c4b1 : decide (0 ≤ (t132.length : Int)) = true := decide_eq_true c4
 have KFc4 := a_ c4
 clear c4
 by_cases c5 : ((t132.length : Int) : Int).toNat ≤ 35184372088832
 rotate_left
 ·rw [if_neg c5] at H
  exact absurd H (by simp)
 rw [if_pos c5] at H
 have c5b0 := eq_true c5
 have c5b1 : decide (((t132.length : Int) : Int).toNat ≤ 35184372088832) = true := decide_eq_true c5
 clear c5
 obtain ⟨y138, hy138⟩ : ∃ y_ : List Int, y_ = (List.replicate ((t132.length : Int) : Int).toNat 0) := ⟨_, rfl⟩
 replace H : (rr_Renumber.l0 k l0 t132 y138 0) = some r := by first | (rw [hy138]; with_reducible exact H) | (have H2_ := (Option.bind_some _ _).symm.trans H; rw [hy138]; with_reducible exact H2_) | (have H2_ := (Option.bind_some _ _).symm.trans H; with_reducible exact H2_) | with_reducible exact H | (rw [hy138]; exact H) | exact H
 have Ny138 := a_ hy138
 clear hy138
 have H' := a_ H
 clear H
 go_enter Try.func32, Try.ntmps32
 go_wp2_with (first | ((with_reducible refine gate_callee (f := 67) rfl ?_); refine goesL_ (some 16) rfl rfl Try.func67 (by kernel_rfl) rfl #[.slice A0 l0.length c0, .int .i64 a1] rfl (by (try simp only [List.map_toArray, List.map_cons, List.map_nil]); first | done | rfl | (simp only [List.length_drop, List.length_take]; rfl)) ?_; (with_reducible refine (rr_numbering.calls k _ _ l0 a1 t132 t133 _ ?side1 ?side2 A3.out).mono ?_); (case side1 => repeat (first | exact HR0.out | (with_reducible refine Kd.C_alloc ?_ _) | (with_reducible refine Kd.C_drewN ?_ _) | (with_reducible refine Kd.C_drew ?_))); (case side2 => exact HC0.out); rintro e w6 ⟨v134, v136, rfl, ho0, ho1, hb⟩; refine ⟨_, rfl, ?_⟩; have HO135 := a_ (Kd.R_lower ho0 (bZ_ (gr HB.out))); have HO137 := a_ (Kd.R_lower ho1 (bZ_ (gr HB.out))); replace HB := a_ (bT_ HB.out (tr hb)); obtain ⟨Ao7, co7, eo7⟩ := Kd.R_slice HO135.out; subst eo7) | ((with_reducible refine gate_dst (N := 21) rfl ?_); refine Kd.R_make (Kd.int .i64) _ 3 rfl (N := 21) rfl 22 _ _ rfl (t132.length : Int) rfl rfl Try.underlying22 (.int .i64 0) 8 info3 rfl (by decide) (by omega) 0 (ok := fun _ => True) (okp := fun _ => True) rfl (fun _ hk => hk) trivial (of_decide_eq_true (by first | (with_reducible assumption) | assumption)) (Nat.le_trans (Nat.mul_le_mul_right _ (of_decide_eq_true (by first | (with_reducible assumption) | assumption) : (t132.length : Int).toNat ≤ 35184372088832)) (by omega)) (Below.refl _ _) (Nat.le_refl _) ?_; intro v139 w8 ho9 hb hg_ hnew_; clear hg_ hnew_; (first | rw [← Ny138.out] at ho9 | (simp only [Int.reduceToNat] at ho9; rw [← Ny138.out] at ho9)); have HO140 := a_ (Kd.R_lower (Kd.R_new' ho9 (Kd.R_lt (by exact rk HO135.out))) (bZ_ (gr HB.out))); replace HO135 := a_ (Kd.R_elder' (by exact rk HO135.out) (Kd.R_base ho9) hb); replace HO137 := a_ (Kd.R_below HO137.out (tr hb)); replace HB := a_ (bT_ HB.out (tr hb)); clear hb ho9))
 go_loopg [8] k (fun kq v8 w' => ∃ (x7_1 : List Int) (x8_1 : Int), v8 = .int .i64 x8_1 ∧ Aside0 (rr_Renumber.l0 kq l0 t132 x7_1 x8_1 = some r) ∧ Aside0 (kq ≤ k) ∧ Aside0 (Kd.R (Kd.int .i64) 3 w' w.heap.size (fun k_ => some k_ ≠ (v139 : Value).ownBlock) (.slice Ao7 t132.length co7) t132) ∧ Aside0 (Kd.R (Kd.int .i64) 3 w' w.heap.size (fun k_ => some k_ ≠ ((.slice Ao7 t132.length co7) : Value).ownBlock) v139 x7_1) ∧ Aside0 (Below w.heap.size w w'))
 case atStart => exact ⟨(y138), (0), (by first | rfl | (simp; done) | (simp [*]; done)), H', ⟨Nat.le_refl _⟩, ⟨by exact rk (Kd.R_mono HO135.out (fun _ hk => hk.2))⟩, ⟨by exact rk (Kd.R_mono HO140.out (fun _ hk => hk.2))⟩, ⟨by exact gs HB.out⟩⟩
 clear H'
 obtain ⟨x7_1, x8_1, rfl, HA, HK1, HO_5, HO_7, HB⟩ := hrel
 cases gk with
 | zero => exact absurd HA.out (by simp [rr_Renumber.l0])
 | succ k1 =>
  have H := HA.out
  clear HA
  simp only [rr_Renumber.l0] at H
  by_cases c10 : x8_1 < (t132.length : Int)
  ·rw [if_pos c10] at H
   have c10b0 : decide (x8_1 < (t132.length : Int)) = true := decide_eq_true c10
   clear c10
   by_cases c11 : 0 ≤ x8_1
   rotate_left
   ·rw [if_neg c11] at H
    exact absurd H (by simp)
   rw [if_pos c11] at H
   have c11b0 : decide (0 ≤ x8_1) = true := decide_eq_true c11
   clear c11
   by_cases c12 : 0 ≤ (rd t132 x8_1)
   rotate_left
   ·rw [if_neg c12] at H
    exact absurd H (by simp)
   rw [if_pos c12] at H
   have c12b0 : decide (0 ≤ (rd t132 x8_1)) = true := decide_eq_true c12
   clear c12
   by_cases c13 : (rd t132 x8_1) < (x7_1.length : Int)
   rotate_left
   ·rw [if_neg c13] at H
    exact absurd H (by simp)
   rw [if_pos c13] at H
   have c13b0 : decide ((rd t132 x8_1) < (x7_1.length : Int)) = true := decide_eq_true c13
   clear c13
   obtain ⟨y142, hy142⟩ : ∃ y_ : List Int, y_ = (x7_1.set ((rd t132 x8_1) : Int).toNat x8_1) := ⟨_, rfl⟩
   replace H : (rr_Renumber.l0 k1 l0 t132 y142 (wrap64 (x8_1 + 1))) = some r := by first | (rw [hy142]; with_reducible exact H) | (have H2_ := (Option.bind_some _ _).symm.trans H; rw [hy142]; with_reducible exact H2_) | (have H2_ := (Option.bind_some _ _).symm.trans H; with_reducible exact H2_) | with_reducible exact H | (rw [hy142]; exact H) | exact H
   have Ny142 := a_ hy142
   clear hy142
   have H' := a_ H
   clear H
   have p141 : 0 ≤ (x8_1 : Int) := of_decide_eq_true (by first | (with_reducible assumption) | assumption)
   have q141 : x8_1 < (t132.length : Int) := of_decide_eq_true (by first | (with_reducible assumption) | assumption)
   obtain ⟨ad141, e141, hx141_0⟩ := Kd.at_int (Kd.R_reads' HO_5.out).2.2 x8_1 p141 q141
   cases e141
   replace p141 := eq_true p141
   replace q141 := eq_true q141
   have p14 : 0 ≤ ((rd t132 x8_1) : Int) := of_decide_eq_true (by first | (with_reducible assumption) | assumption)
   have q14 : ((rd t132 x8_1) : Int) < ((x7_1.length : Int) : Int) := of_decide_eq_true (by first | (with_reducible assumption) | assumption)
   obtain ⟨go14, co14, eo14, gb14, gl14, cl14, HG14⟩ := Kd.R_form HO_7.out (by omega)
   (first | cases eo14 | (injection eo14 with ea_ en_ ec_; (first | subst ea_ | (injection ea_ with ea_; subst ea_)); subst ec_; clear en_))
   have GB14 := a_ gb14
   have GG14 := a_ HG14
   clear gb14 gl14 HG14
   obtain ⟨hx14_0, hf14_0⟩ := Kd.R_celln 0 HO_7.out ((rd t132 x8_1) : Int) p14 q14
   replace p14 := eq_true p14
   replace q14 := eq_true q14
   have HP15 := Kd.R_putg HO_7.out ((rd t132 x8_1) : Int) x8_1
   go_wp2_with (first | ((with_reducible refine gate_store (t := 3) (p := 34) rfl ?_); refine store_event (t := 3) (p := 34) (v := ?vo_w16) (w1 := (wr.setCell ⟨go14, ((rd t132 x8_1) : Int).toNat, none⟩ (.int .i64 x8_1))) ?hg ?ho ?hn ?hr ?_; (case ho => rfl); (case hg => rfl); (case hn => rfl); (case hr => first | (go_simp; done) | (go_simp; rfl)); intro w16 hw; have hg : wr.grownBy w16 (some go14) := (by rw [hw]; exact HP15.2); have hp_ : Kd.R (Kd.int .i64) 3 w16 w.heap.size (fun k_ => some k_ ≠ (.slice (some ad141) t132.length co7 : Value).ownBlock) (.slice (some ⟨go14, 0, none⟩) x7_1.length co14) y142 := (by rw [hw, Ny142.out]; exact HP15.1); clear HP15; replace HO_5 := a_ (Kd.R_after (v := (.slice (some ⟨go14, 0, none⟩) x7_1.length co14)) (v1 := (.slice (some ⟨go14, 0, none⟩) x7_1.length co14)) (ok := (fun _ => True)) (by exact rk (Kd.R_mono HO_5.out (fun _ hk => ⟨trivial, hk⟩))) hg (.inl rfl)); replace HO_7 := a_ (hp_); replace HB := a_ ((by rw [hw]; exact bS_ (HB.out) GB14.out : Below w.heap.size w w16)); clear hg hw hp_))
   go_roundg k1
   case measure => have := HK1.out; omega
   case rel => exact ⟨(y142), (wrap64 (x8_1 + 1)), (by first | rfl | (simp; done) | (simp [*]; done)), H', ⟨by have := HK1.out; omega⟩, ⟨by exact rk (Kd.R_mono HO_5.out (fun _ hk => hk.2))⟩, ⟨by exact rk HO_7.out⟩, ⟨by exact gs HB.out⟩⟩
  rw [if_neg c10] at H
  have c10b0 : decide (x8_1 < (t132.length : Int)) = false := decide_eq_false c10
  clear c10
  have H' := a_ H
  clear H
  go_wp2
  go_loopg [9, 10] k1 (fun kq v9 v10 w' => ∃ (x9_2 : List (List Int)) (x10_2 : Int), v10 = .int .i64 x10_2 ∧ Aside0 (rr_Renumber.l1 kq l0 t132 x7_1 x9_2 x10_2 = some r) ∧ Aside0 (kq ≤ k1) ∧ Aside0 (Kd.R (Kd.int .i64) 3 w' w.heap.size (fun k_ => some k_ ≠ (v139 : Value).ownBlock) (.slice Ao7 t132.length co7) t132) ∧ Aside0 (Kd.R (Kd.int .i64) 3 w' w.heap.size (fun k_ => some k_ ≠ ((.slice Ao7 t132.length co7) : Value).ownBlock) v139 x7_1) ∧ Aside0 (Kd.S (Kd.slice 3 (Kd.int .i64)) 22 w' w.heap.size (fun k_ => some k_ ≠ ((.slice Ao7 t132.length co7) : Value).ownBlock ∧ some k_ ≠ (v139 : Value).ownBlock) v9 x9_2) ∧ Aside0 (Below w.heap.size w w'))
  case atStart => exact ⟨(([] : List (List Int))), (0), (by first | rfl | (simp; done) | (simp [*]; done)), H', ⟨Nat.le_refl _⟩, ⟨by exact rk HO_5.out⟩, ⟨by exact rk HO_7.out⟩, ⟨by first | exact Kd.S_nil _ _ _ _ _ | exact Kd.N_nil _ _ _ _ _ | exact Kd.V_nil _ _ _ _ _ | exact Kd.Q_nil _ _ _ _ _ | exact Kd.R_nil _ _ _ _ _⟩, ⟨by exact gs HB.out⟩⟩
  clear H'
  obtain ⟨x9_2, x10_2, rfl, HA, HK2, HO_5, HO_7, HO_9, HB⟩ := hrel
  cases gk with
  | zero => exact absurd HA.out (by simp [rr_Renumber.l1])
  | succ k2 =>
   have H := HA.out
   clear HA
   simp only [rr_Renumber.l1] at H
   by_cases c17 : x10_2 < (l0.length : Int)
   rotate_left
   ·rw [if_neg c17] at H
    have c17b0 : decide (x10_2 < (l0.length : Int)) = false := decide_eq_false c17
    clear c17
    obtain rfl := Option.some.inj H
    go_wp2
    go_ret
    exact ⟨_, by first | rfl | (simp [errW_none, errW_some] <;> rfl) | (simp [*, errW_none, errW_some] <;> rfl), by (with_reducible repeat (first | apply Kd.S_alloc | apply Kd.S_drewN | apply Kd.S_drew)); exact Kd.S_mono HO_9.out (fun _ hk => trivial), by exact gs HB.out⟩
   rw [if_pos c17] at H
   have c17b0 : decide (x10_2 < (l0.length : Int)) = true := decide_eq_true c17
   clear c17
   have H' := a_ H
   clear H
   go_wp2
   go_loopg [11, 12] k2 (fun kq v11 v12 w' => ∃ (x11_3 : List Int) (x12_3 : Int), v12 = .int .i64 x12_3 ∧ Aside0 (rr_Renumber.l2 kq l0 t132 x7_1 x9_2 x10_2 x11_3 x12_3 = some r) ∧ Aside0 (kq ≤ k2) ∧ Aside0 (Kd.R (Kd.int .i64) 3 w' w.heap.size (fun k_ => some k_ ≠ (v139 : Value).ownBlock ∧ some k_ ≠ (v11 : Value).ownBlock) (.slice Ao7 t132.length co7) t132) ∧ Aside0 (Kd.R (Kd.int .i64) 3 w' w.heap.size (fun k_ => some k_ ≠ ((.slice Ao7 t132.length co7) : Value).ownBlock ∧ some k_ ≠ (v11 : Value).ownBlock) v139 x7_1) ∧ Aside0 (Kd.S (Kd.slice 3 (Kd.int .i64)) 22 w' w.heap.size (fun k_ => some k_ ≠ ((.slice Ao7 t132.length co7) : Value).ownBlock ∧ some k_ ≠ (v139 : Value).ownBlock ∧ some k_ ≠ (v11 : Value).ownBlock) u9 x9_2) ∧ Aside0 (Kd.R (Kd.int .i64) 3 w' w.heap.size (fun k_ => some k_ ≠ ((.slice Ao7 t132.length co7) : Value).ownBlock ∧ some k_ ≠ (v139 : Value).ownBlock) v11 x11_3) ∧ Aside0 (Below w.heap.size w w'))
   case atStart => exact ⟨(([] : List Int)), (0), (by first | rfl | (simp; done) | (simp [*]; done)), H', ⟨Nat.le_refl _⟩, ⟨by exact rk (Kd.R_mono HO_5.out (fun _ hk => ⟨hk, (by simp [Value.ownBlock])⟩))⟩, ⟨by exact rk (Kd.R_mono HO_7.out (fun _ hk => ⟨hk, (by simp [Value.ownBlock])⟩))⟩, ⟨by (with_reducible repeat (first | apply Kd.S_alloc | apply Kd.S_drewN | apply Kd.S_drew)); exact Kd.S_mono HO_9.out (fun _ hk => ⟨hk.1, ⟨hk.2, (by simp [Value.ownBlock])⟩⟩)⟩, ⟨by first | exact Kd.R_nil _ _ _ _ _ | exact Kd.N_nil _ _ _ _ _ | exact Kd.V_nil _ _ _ _ _ | exact Kd.Q_nil _ _ _ _ _ | exact Kd.S_nil _ _ _ _ _⟩, ⟨by exact gs HB.out⟩⟩
   clear H'
   obtain ⟨x11_3, x12_3, rfl, HA, HK3, HO_5, HO_7, HO_9, HO_11, HB⟩ := hrel
   cases gk with
   | zero => exact absurd HA.out (by simp [rr_Renumber.l2])
   | succ k3 =>
    have H := HA.out
    clear HA
    simp only [rr_Renumber.l2] at H
    by_cases c18 : x12_3 < (t132.length : Int)
    rotate_left
    ·rw [if_neg c18] at H
     have c18b0 : decide (x12_3 < (t132.length : Int)) = false := decide_eq_false c18
     clear c18
     by_cases c30 : x9_2.length < 5864062014805
     rotate_left
     ·rw [if_neg c30] at H
      exact absurd H (by simp)
     rw [if_pos c30] at H
     have LMc30 := a_ c30
     clear c30
     obtain ⟨y150, hy150⟩ : ∃ y_ : List (List Int), y_ = (x9_2 ++ [x11_3]) := ⟨_, rfl⟩
     replace H : (rr_Renumber.l1 k3 l0 t132 x7_1 y150 (wrap64 (x10_2 + 1))) = some r := by first | (rw [hy150]; with_reducible exact H) | (have H2_ := (Option.bind_some _ _).symm.trans H; rw [hy150]; with_reducible exact H2_) | (have H2_ := (Option.bind_some _ _).symm.trans H; with_reducible exact H2_) | with_reducible exact H | (rw [hy150]; exact H) | exact H
     have Ny150 := a_ hy150
     clear hy150
     have H' := a_ H
     clear H
     obtain ⟨Ao32, co32, eo32⟩ := Kd.R_slice HO_11.out
     subst eo32
     go_wp2_with (first | ((with_reducible refine gate_builtin (b := .append) (xs := #[.tmp 63, .tmp 65]) rfl ?_); at_builtin; refine Kd.S_append (Kd.slice 3 (Kd.int .i64)) (w0 := w) w.heap.size rfl (.tmp 63) (.tmp 65) 23 22 (.slice none 0 0) 24 rfl Try.underlying23 info22 rfl (by decide) (by omega) u9 x9_2 x11_3 [.slice Ao32 x11_3.length co32] (fun k_ => some k_ ≠ (.slice Ao7 t132.length co7 : Value).ownBlock ∧ some k_ ≠ (v139 : Value).ownBlock) (fun k_ => some k_ = (.slice Ao32 x11_3.length co32 : Value).ownBlock) rfl rfl ?aP (fun k_ hk_ => ((Kd.R_mono (ok' := fun k_ => ((fun k_ => some k_ ≠ (.slice Ao7 t132.length co7 : Value).ownBlock ∧ some k_ ≠ (v139 : Value).ownBlock)) k_ ∧ some k_ ≠ (u9 : Value).ownBlock) (Kd.R_apart' (HO_11.out) (Kd.S_typed HO_9.out) (by decide)) (fun k_ hk => ⟨⟨hk.1.1, hk.1.2⟩, hk.2⟩))).1 k_ hk_.symm) ?aF ?aO ?aB ?aS ?aL ?_; (case aP => exact Kd.M_row (Kd.R_mono (Kd.R_tight rfl (Kd.R_mono (ok' := fun k_ => ((fun k_ => some k_ ≠ (.slice Ao7 t132.length co7 : Value).ownBlock ∧ some k_ ≠ (v139 : Value).ownBlock)) k_ ∧ some k_ ≠ (u9 : Value).ownBlock) (Kd.R_apart' (HO_11.out) (Kd.S_typed HO_9.out) (by decide)) (fun k_ hk => ⟨⟨hk.1.1, hk.1.2⟩, hk.2⟩))) (fun _ h_ => h_))); (case aB => exact (gr HB.out)); (case aF => exact (fun k_ hk => ⟨Kd.fresh' (Kd.R_lt (by exact rk HO_5.out)) k_ hk, Kd.fresh' (Kd.R_lt (by exact rk HO_7.out)) k_ hk⟩)); (case aO => exact (by (with_reducible repeat (first | apply Kd.S_alloc | apply Kd.S_drewN | apply Kd.S_drew)); exact Kd.S_mono HO_9.out (fun k_ hk => ⟨⟨hk.1, hk.2.1⟩, fun e_ => hk.2.2 e_⟩))); (case aS => exact (bZ_ (gr HB.out))); (case aL => have := LMc30.out; omega); intro v151 w31 ho hb hg hat; rw [← Ny150.out] at ho; have HO152 := a_ (ho); replace HO_5 := a_ (Kd.R_over' (by exact rk HO_5.out) (Kd.S_typed (by (with_reducible repeat (first | apply Kd.S_alloc | apply Kd.S_drewN | apply Kd.S_drew)); exact HO_9.out)) (by decide) hg); replace HO_7 := a_ (Kd.R_over' (by exact rk HO_7.out) (Kd.S_typed (by (with_reducible repeat (first | apply Kd.S_alloc | apply Kd.S_drewN | apply Kd.S_drew)); exact HO_9.out)) (by decide) hg); replace HB := a_ (hb); clear HO_9 HO_11; clear ho hb hg hat))
     go_roundg k3
     case measure => have := HK1.out; have := HK2.out; have := HK3.out; omega
     case rel => exact ⟨(y150), (wrap64 (x10_2 + 1)), (by first | rfl | (simp; done) | (simp [*]; done)), H', ⟨by have := HK1.out; have := HK2.out; have := HK3.out; omega⟩, ⟨by exact rk (Kd.R_mono HO_5.out (fun _ hk => hk.1))⟩, ⟨by exact rk (Kd.R_mono HO_7.out (fun _ hk => hk.1))⟩, ⟨by (with_reducible repeat (first | apply Kd.S_alloc | apply Kd.S_drewN | apply Kd.S_drew)); exact HO152.out⟩, ⟨by exact gs HB.out⟩⟩
    rw [if_pos c18] at H
    have c18b0 : decide (x12_3 < (t132.length : Int)) = true := decide_eq_true c18
    clear c18
    by_cases c19 : 0 ≤ x10_2
    rotate_left
    ·rw [if_neg c19] at H
     exact absurd H (by simp)
    rw [if_pos c19] at H
    have c19b0 : decide (0 ≤ x10_2) = true := decide_eq_true c19
    clear c19
    by_cases c20 : x10_2 < (l0.length : Int)
    rotate_left
    ·rw [if_neg c20] at H
     exact absurd H (by simp)
    rw [if_pos c20] at H
    have c20b0 : decide (x10_2 < (l0.length : Int)) = true := decide_eq_true c20
    clear c20
    by_cases c21 : 0 ≤ x12_3
    rotate_left
    ·rw [if_neg c21] at H
     exact absurd H (by simp)
    rw [if_pos c21] at H
    have c21b0 : decide (0 ≤ x12_3) = true := decide_eq_true c21
    clear c21
    by_cases c22 : 0 ≤ (rd t132 x12_3)
    rotate_left
    ·rw [if_neg c22] at H
     exact absurd H (by simp)
    rw [if_pos c22] at H
    have c22b0 : decide (0 ≤ (rd t132 x12_3)) = true := decide_eq_true c22
    clear c22
    by_cases c23 : (rd t132 x12_3) < ((rd_L1 l0 x10_2).length : Int)
    rotate_left
    ·rw [if_neg c23] at H
     exact absurd H (by simp)
    rw [if_pos c23] at H
    have c23b0 : decide ((rd t132 x12_3) < ((rd_L1 l0 x10_2).length : Int)) = true := decide_eq_true c23
    clear c23
    by_cases c24 : 0 ≤ (rd (rd_L1 l0 x10_2) (rd t132 x12_3))
    rotate_left
    ·rw [if_neg c24] at H
     exact absurd H (by simp)
    rw [if_pos c24] at H
    have c24b0 : decide (0 ≤ (rd (rd_L1 l0 x10_2) (rd t132 x12_3))) = true := decide_eq_true c24
    clear c24
    by_cases c25 : (rd (rd_L1 l0 x10_2) (rd t132 x12_3)) < (x7_1.length : Int)
    rotate_left
    ·rw [if_neg c25] at H
     exact absurd H (by simp)
    rw [if_pos c25] at H
    have c25b0 : decide ((rd (rd_L1 l0 x10_2) (rd t132 x12_3)) < (x7_1.length : Int)) = true := decide_eq_true c25
    clear c25
    by_cases c26 : x11_3.length < 17592186044416
    rotate_left
    ·rw [if_neg c26] at H
     exact absurd H (by simp)
    rw [if_pos c26] at H
    have LMc26 := a_ c26
    clear c26
    obtain ⟨y147, hy147⟩ : ∃ y_ : List Int, y_ = (x11_3 ++ [rd x7_1 (rd (rd_L1 l0 x10_2) (rd t132 x12_3))]) := ⟨_, rfl⟩
    replace H : (rr_Renumber.l2 k3 l0 t132 x7_1 x9_2 x10_2 y147 (wrap64 (x12_3 + 1))) = some r := by first | (rw [hy147]; with_reducible exact H) | (have H2_ := (Option.bind_some _ _).symm.trans H; rw [hy147]; with_reducible exact H2_) | (have H2_ := (Option.bind_some _ _).symm.trans H; with_reducible exact H2_) | with_reducible exact H | (rw [hy147]; exact H) | exact H
    have Ny147 := a_ hy147
    clear hy147
    have H' := a_ H
    clear H
    try go_wp2
    replace HO_5 := a_ (Kd.R_drew HO_5.out)
    replace HO_7 := a_ (Kd.R_drew HO_7.out)
    replace HO_9 := a_ (Kd.S_drew HO_9.out)
    replace HO_11 := a_ (Kd.R_drew HO_11.out)
    replace HB := a_ (b1_ HB.out)
    have p143 : 0 ≤ (x10_2 : Int) := of_decide_eq_true (by first | (with_reducible assumption) | assumption)
    have q143 : x10_2 < (l0.length : Int) := of_decide_eq_true (by first | (with_reducible assumption) | assumption)
    obtain ⟨ad143, A143_0, c143_0, e143, hx143_0, hl143_0, hi143_0⟩ := at_L1 HR0.out x10_2 p143 q143
    have hw143_0 := hx143_0
    cases e143
    replace hx143_0 := (HB.out.cell (World.block_lt_of_cell? w _ hx143_0)).trans hx143_0
    have HR143_0 := a_ hi143_0
    have HC143_0 := a_ hl143_0
    clear hi143_0 hl143_0
    replace p143 := eq_true p143
    replace q143 := eq_true q143
    have p144 : 0 ≤ (x12_3 : Int) := of_decide_eq_true (by first | (with_reducible assumption) | assumption)
    have q144 : x12_3 < (t132.length : Int) := of_decide_eq_true (by first | (with_reducible assumption) | assumption)
    obtain ⟨ad144, e144, hx144_0⟩ := Kd.at_int (Kd.R_reads' HO_5.out).2.2 x12_3 p144 q144
    cases e144
    replace p144 := eq_true p144
    replace q144 := eq_true q144
    have p145 : 0 ≤ ((rd t132 x12_3) : Int) := of_decide_eq_true (by first | (with_reducible assumption) | assumption)
    have q145 : (rd t132 x12_3) < ((rd_L1 l0 x10_2).length : Int) := of_decide_eq_true (by first | (with_reducible assumption) | assumption)
    obtain ⟨ad145, e145, hx145_0⟩ := Kd.at_int HR143_0.out (rd t132 x12_3) p145 q145
    have hw145_0 := hx145_0
    cases e145
    replace hx145_0 := (HB.out.cell (World.block_lt_of_cell? w _ hx145_0)).trans hx145_0
    replace p145 := eq_true p145
    replace q145 := eq_true q145
    obtain ⟨Ao28, co28, eo28⟩ := Kd.R_slice HO_7.out
    (first | subst eo28 | (injection eo28 with f1_ f2_ f3_; have f4_ := f1_.symm; have f5_ := f3_.symm; clear f1_ f2_ f3_; subst f4_; subst f5_))
    have p146 : 0 ≤ ((rd (rd_L1 l0 x10_2) (rd t132 x12_3)) : Int) := of_decide_eq_true (by first | (with_reducible assumption) | assumption)
    have q146 : (rd (rd_L1 l0 x10_2) (rd t132 x12_3)) < (x7_1.length : Int) := of_decide_eq_true (by first | (with_reducible assumption) | assumption)
    obtain ⟨ad146, e146, hx146_0⟩ := Kd.at_int (Kd.R_reads' HO_7.out).2.2 (rd (rd_L1 l0 x10_2) (rd t132 x12_3)) p146 q146
    cases e146
    replace p146 := eq_true p146
    replace q146 := eq_true q146
    refine start_ (n := 17) (S := fun w' => w'.cell? (ad143.add (x10_2).toNat) = some (.slice (some ad145) (rd_L1 l0 x10_2).length c143_0) ∧ w'.cell? (ad144.add (x12_3).toNat) = some (.int .i64 (rd t132 x12_3)) ∧ w'.cell? (ad145.add ((rd t132 x12_3)).toNat) = some (.int .i64 (rd (rd_L1 l0 x10_2) (rd t132 x12_3))) ∧ w'.cell? (ad146.add ((rd (rd_L1 l0 x10_2) (rd t132 x12_3))).toNat) = some (.int .i64 (rd x7_1 (rd (rd_L1 l0 x10_2) (rd t132 x12_3))))) (ds := [14, 15]) #[false, false, false, false, false, false, false, false, false, false, false, false, false, false, false, false, false] (by kernel_rfl) rfl rfl ⟨((HB.out.cell (World.block_lt_of_cell? w _ hw143_0)).trans hw143_0), hx144_0, ((HB.out.cell (World.block_lt_of_cell? w _ hw145_0)).trans hw145_0), hx146_0⟩ (fun hHeld => ?_); refine with_tabW rr_Renumber.tab15 rr_Renumber.bits15 (fun HT_ HW_ => ?_)
    generalize wr.drew = w27 at HO_5 HO_7 HO_9 HO_11 HB HR143_0 hx143_0 hx144_0 hx145_0 hx146_0 hHeld ⊢
    refine pure_ (i := 0) (N := some 47) (v := ?_) (a' := ?_) #[true, false, false, false, false, false, false, false, false, false, false, false, false, false, false, false, false] rfl rfl (any_of HT_.out (by kernel_rfl)) (fun _ _ _ h => h) (Or.inl ⟨by rfl, ?_⟩) ?_ ?_
    rotate_left
    ·intro w'
     go_simp
     with_reducible rfl
    rotate_left
    ·simp only [Act.put, List.setIfInBounds_toArray, List.set_cons_zero, List.set_cons_succ, i64_w, i32_w]
     rfl
    refine pure_ (i := 1) (N := some 48) (v := ?_) (a' := ?_) #[true, true, false, false, false, false, false, false, false, false, false, false, false, false, false, false, false] rfl rfl (any_of HT_.out (by kernel_rfl)) (fun _ _ _ h => h) (Or.inl ⟨by rfl, ?_⟩) ?_ ?_
    rotate_left
    ·intro w'
     go_simp
     with_reducible rfl
    rotate_left
    ·simp only [Act.put, List.setIfInBounds_toArray, List.set_cons_zero, List.set_cons_succ, i64_w, i32_w]
     rfl
    refine pure_ (i := 2) (N := some 49) (v := ?_) (a' := ?_) #[true, true, true, false, false, false, false, false, false, false, false, false, false, false, false, false, false] rfl rfl (any_of HT_.out (by kernel_rfl)) (fun _ _ _ h => h) (Or.inl ⟨by rfl, ?_⟩) ?_ ?_
    rotate_left
    ·intro w'
     go_simp
     with_reducible rfl
    rotate_left
    ·simp only [Act.put, List.setIfInBounds_toArray, List.set_cons_zero, List.set_cons_succ, i64_w, i32_w]
     rfl
    refine pure_ (i := 3) (N := some 50) (v := ?_) (a' := ?_) #[true, true, true, true, false, false, false, false, false, false, false, false, false, false, false, false, false] rfl rfl (any_of HT_.out (by kernel_rfl)) (fun _ _ _ h => h) (Or.inl ⟨by rfl, ?_⟩) ?_ ?_
    rotate_left
    ·intro w'
     go_simp
     with_reducible rfl
    rotate_left
    ·simp only [Act.put, List.setIfInBounds_toArray, List.set_cons_zero, List.set_cons_succ, i64_w, i32_w]
     rfl
    refine pure_ (i := 4) (N := some 51) (v := ?_) (a' := ?_) #[true, true, true, true, true, false, false, false, false, false, false, false, false, false, false, false, false] rfl rfl (any_of HT_.out (by kernel_rfl)) (fun _ _ _ h => h) (Or.inl ⟨by rfl, ?_⟩) ?_ ?_
    rotate_left
    ·intro w'
     go_simp
     with_reducible rfl
    rotate_left
    ·simp only [Act.put, List.setIfInBounds_toArray, List.set_cons_zero, List.set_cons_succ, i64_w, i32_w]
     rfl
    refine pure_ (i := 6) (N := some 53) (v := ?_) (a' := ?_) #[true, true, true, true, true, false, true, false, false, false, false, false, false, false, false, false, false] rfl rfl (any_of HT_.out (by kernel_rfl)) (fun _ _ _ h => h) (Or.inl ⟨by rfl, ?_⟩) ?_ ?_
    rotate_left
    ·intro w'
     go_simp
     with_reducible rfl
    rotate_left
    ·simp only [Act.put, List.setIfInBounds_toArray, List.set_cons_zero, List.set_cons_succ, i64_w, i32_w]
     rfl
    refine pure_ (i := 7) (N := some 54) (v := ?_) (a' := ?_) #[true, true, true, true, true, false, true, true, false, false, false, false, false, false, false, false, false] rfl rfl (any_of HT_.out (by kernel_rfl)) (fun _ _ _ h => h) (Or.inl ⟨by rfl, ?_⟩) ?_ ?_
    rotate_left
    ·intro w'
     go_simp
     with_reducible rfl
    rotate_left
    ·simp only [Act.put, List.setIfInBounds_toArray, List.set_cons_zero, List.set_cons_succ, i64_w, i32_w]
     rfl
    refine pure_ (i := 8) (N := some 55) (v := ?_) (a' := ?_) #[true, true, true, true, true, false, true, true, true, false, false, false, false, false, false, false, false] rfl rfl (any_of HT_.out (by kernel_rfl)) (fun _ _ _ h => h) (Or.inl ⟨by rfl, ?_⟩) ?_ ?_
    rotate_left
    ·intro w'
     go_simp
     with_reducible rfl
    rotate_left
    ·simp only [Act.put, List.setIfInBounds_toArray, List.set_cons_zero, List.set_cons_succ, i64_w, i32_w]
     rfl
    refine take_ (i := 5) (N := some 52) (v := ?_) (a' := ?_) #[true, true, true, true, true, true, true, true, true, false, false, false, false, false, false, false, false] rfl rfl (take_ofW HT_.out HW_.out (by kernel_rfl)) (fun _ _ _ h => h) (Or.inl ⟨by rfl, ?_⟩) hHeld ?_ ?_
    rotate_left
    ·rintro w' ⟨s0, s1, s2, s3⟩
     go_simp
     with_reducible rfl
    rotate_left
    ·simp only [Act.put, List.setIfInBounds_toArray, List.set_cons_zero, List.set_cons_succ, i64_w, i32_w]
     rfl
    refine take_ (i := 9) (N := some 56) (v := ?_) (a' := ?_) #[true, true, true, true, true, true, true, true, true, true, false, false, false, false, false, false, false] rfl rfl (take_ofW HT_.out HW_.out (by kernel_rfl)) (fun _ _ _ h => h) (Or.inl ⟨by rfl, ?_⟩) hHeld ?_ ?_
    rotate_left
    ·rintro w' ⟨s0, s1, s2, s3⟩
     go_simp
     with_reducible rfl
    rotate_left
    ·simp only [Act.put, List.setIfInBounds_toArray, List.set_cons_zero, List.set_cons_succ, i64_w, i32_w]
     rfl
    refine pure_ (i := 10) (N := some 57) (v := ?_) (a' := ?_) #[true, true, true, true, true, true, true, true, true, true, true, false, false, false, false, false, false] rfl rfl (any_of HT_.out (by kernel_rfl)) (fun _ _ _ h => h) (Or.inl ⟨by rfl, ?_⟩) ?_ ?_
    rotate_left
    ·intro w'
     go_simp
     with_reducible rfl
    rotate_left
    ·simp only [Act.put, List.setIfInBounds_toArray, List.set_cons_zero, List.set_cons_succ, i64_w, i32_w]
     rfl
    refine take_ (i := 11) (N := some 58) (v := ?_) (a' := ?_) #[true, true, true, true, true, true, true, true, true, true, true, true, false, false, false, false, false] rfl rfl (take_ofW HT_.out HW_.out (by kernel_rfl)) (fun _ _ _ h => h) (Or.inl ⟨by rfl, ?_⟩) hHeld ?_ ?_
    rotate_left
    ·rintro w' ⟨s0, s1, s2, s3⟩
     go_simp
     with_reducible rfl
    rotate_left
    ·simp only [Act.put, List.setIfInBounds_toArray, List.set_cons_zero, List.set_cons_succ, i64_w, i32_w]
     rfl
    refine pure_ (i := 12) (N := some 59) (v := ?_) (a' := ?_) #[true, true, true, true, true, true, true, true, true, true, true, true, true, false, false, false, false] rfl rfl (any_of HT_.out (by kernel_rfl)) (fun _ _ _ h => h) (Or.inl ⟨by rfl, ?_⟩) ?_ ?_
    rotate_left
    ·intro w'
     go_simp
     with_reducible rfl
    rotate_left
    ·simp only [Act.put, List.setIfInBounds_toArray, List.set_cons_zero, List.set_cons_succ, i64_w, i32_w]
     rfl
    refine take_ (i := 13) (N := some 60) (v := ?_) (a' := ?_) #[true, true, true, true, true, true, true, true, true, true, true, true, true, true, false, false, false] rfl rfl (take_ofW HT_.out HW_.out (by kernel_rfl)) (fun _ _ _ h => h) (Or.inl ⟨by rfl, ?_⟩) hHeld ?_ ?_
    rotate_left
    ·rintro w' ⟨s0, s1, s2, s3⟩
     go_simp
     with_reducible rfl
    rotate_left
    ·simp only [Act.put, List.setIfInBounds_toArray, List.set_cons_zero, List.set_cons_succ, i64_w, i32_w]
     rfl
    refine last_ (i := 14) (N := some 61) #[true, true, true, true, true, true, true, true, true, true, true, true, true, true, true, false, false] rfl rfl (one_of HT_.out (by kernel_rfl)) (by decide) (fun K hK => ?_)
    refine value_ (w1 := ?_) (v := ?_) (by rfl) rfl ?_ ?_
    rotate_left 2
    ·go_simp
     constructor
     ·rfl
     ·rfl
    refine hK.out _ _ ?_
    clear hK K
    refine norm_ (a' := ?_) ?_ ?_
    rotate_left
    ·show Act.put _ (some 61) _ = _
     simp only [Act.put, List.setIfInBounds_toArray, List.set_cons_zero, List.set_cons_succ, i64_w, i32_w]
     rfl
    refine last_ (i := 15) (N := some 62) #[true, true, true, true, true, true, true, true, true, true, true, true, true, true, true, true, false] rfl rfl (one_of HT_.out (by kernel_rfl)) (by decide) (fun K hK => ?_)
    refine Kd.R_append_step (Kd.int .i64) (w0 := w) w.heap.size (by rfl) (.tmp 47) (.tmp 61) 22 3 (.int .i64 0) 8 rfl Try.underlying22 info3 rfl (by decide) (by omega) u11 x11_3 (rd x7_1 (rd (rd_L1 l0 x10_2) (rd t132 x12_3))) [.int .i64 (rd x7_1 (rd (rd_L1 l0 x10_2) (rd t132 x12_3)))] (fun k_ => some k_ ≠ (.slice (some ad144) t132.length co7 : Value).ownBlock ∧ some k_ ≠ (.slice (some ad146) x7_1.length co28 : Value).ownBlock) (fun _ => False) rfl rfl ?aP (fun _ hk => hk.elim) ?aF ?aO ?aB ?aS ?aL ?_
    (case aP => exact rfl)
    (case aB => exact (gr HB.out))
    (case aF => exact (fun k_ hk => ⟨Kd.fresh' (Kd.R_lt (by exact rk HO_5.out)) k_ hk, Kd.fresh' (Kd.R_lt (by exact rk HO_7.out)) k_ hk⟩))
    (case aO => exact (by exact rk HO_11.out))
    (case aS => exact (bZ_ (gr HB.out)))
    (case aL => have := LMc26.out; omega)
    intro v148 w29 ho hb hg hat
    rw [← Ny147.out] at ho
    have HO149 := a_ (ho)
    replace HO_5 := a_ (Kd.R_after (ok := (fun k_ => some k_ ≠ (.slice (some ad146) x7_1.length co28 : Value).ownBlock)) (by exact rk HO_5.out) hg hat)
    replace HO_7 := a_ (Kd.R_after (ok := (fun k_ => some k_ ≠ (.slice (some ad144) t132.length co7 : Value).ownBlock)) (by exact rk HO_7.out) hg hat)
    replace HO_9 := a_ (Kd.S_after (ok := (fun k_ => some k_ ≠ (.slice (some ad144) t132.length co7 : Value).ownBlock ∧ some k_ ≠ (.slice (some ad146) x7_1.length co28 : Value).ownBlock)) (by (with_reducible repeat (first | apply Kd.S_alloc | apply Kd.S_drewN | apply Kd.S_drew)); exact Kd.S_mono HO_9.out (fun _ hk => ⟨⟨hk.1, hk.2.1⟩, hk.2.2⟩)) hg hat)
    replace HB := a_ (hb)
    clear HO_11
    clear ho hb hg hat
    refine hK.out _ _ ?_
    clear hK K
    refine norm_ (a' := ?_) ?_ ?_
    rotate_left
    ·show Act.put _ (some 62) _ = _
     simp only [Act.put, List.setIfInBounds_toArray, List.set_cons_zero, List.set_cons_succ, i64_w, i32_w]
     rfl
    refine pure_ (i := 16) (N := some 11) (v := ?_) (a' := ?_) #[true, true, true, true, true, true, true, true, true, true, true, true, true, true, true, true, true] rfl rfl (any_of HT_.out (by kernel_rfl)) (fun _ _ _ h => h) (Or.inl ⟨by rfl, ?_⟩) ?_ ?_
    rotate_left
    ·intro w'
     go_simp
     with_reducible rfl
    rotate_left
    ·simp only [Act.put, List.setIfInBounds_toArray, List.set_cons_zero, List.set_cons_succ, i64_w, i32_w]
     rfl
    refine done_ (done_of HT_.out (by kernel_rfl)) ?_
    try go_wp2
    go_roundg k3
    case measure => have := HK1.out; have := HK2.out; have := HK3.out; omega
    case rel => exact ⟨(y147), (wrap64 (x12_3 + 1)), (by first | rfl | (simp; done) | (simp [*]; done)), H', ⟨by have := HK1.out; have := HK2.out; have := HK3.out; omega⟩, ⟨by exact rk HO_5.out⟩, ⟨by exact rk HO_7.out⟩, ⟨by (with_reducible repeat (first | apply Kd.S_alloc | apply Kd.S_drewN | apply Kd.S_drew)); exact Kd.S_mono HO_9.out (fun _ hk => ⟨hk.1.1, ⟨hk.1.2, hk.2⟩⟩)⟩, ⟨by exact rk HO149.out⟩, ⟨by exact gs HB.out⟩⟩
def rl_column.l0 : Nat → List Int → Int → List Int → Int → Option (List Int)
 | 0, _, _, _, _ => none
 | k + 1, x0, x1, x5, x6 => if x6 < x1 then (if x6 < (x0.length : Int) then (if 0 ≤ x6 then ((rl_mod.f (rd x0 x6) (wrap64 (x6 + 1))).bind fun t157 => (if 0 ≤ t157 then (if t157 ≤ (x5.length : Int) then ((some (x5.take (t157 : Int).toNat : List Int)).bind fun y158 => (if ([] : List Int).length + y158.length < 17592186044416 then ((some (([] : List Int) ++ y158 : List Int)).bind fun y162 => (if y162.length < 17592186044416 then ((some (y162 ++ [x6] : List Int)).bind fun y165 => ((some (x5.drop (t157 : Int).toNat : List Int)).bind fun y168 => (if y165.length + y168.length < 17592186044416 then (rl_column.l0 k x0 x1 (y165 ++ y168) (wrap64 (x6 + 1))) else (none)))) else (none))) else (none))) else (none)) else (none))) else (none)) else (if 0 ≤ x6 then (if x6 ≤ (x5.length : Int) then ((some (x5.take (x6 : Int).toNat : List Int)).bind fun y175 => (if ([] : List Int).length + y175.length < 17592186044416 then ((some (([] : List Int) ++ y175 : List Int)).bind fun y179 => (if y179.length < 17592186044416 then ((some (y179 ++ [x6] : List Int)).bind fun y182 => ((some (x5.drop (x6 : Int).toNat : List Int)).bind fun y185 => (if y182.length + y185.length < 17592186044416 then (rl_column.l0 k x0 x1 (y182 ++ y185) (wrap64 (x6 + 1))) else (none)))) else (none))) else (none))) else (none)) else (none))) else (some x5)
def rl_column.f (k : Nat) (l0 : List Int) (a1 : Int) : Option (List Int) := rl_column.l0 k l0 a1 (([] : List Int)) 0
theorem rl_column.calls (k : Nat) (A0 : Option Addr) (c0 : Nat) (l0 : List Int) (a1 : Int) (r : List Int) (w : World) (hr0 : Kd.C (Kd.int .i64) w A0 l0.length l0) (hc0 : l0.length ≤ c0) (h : rl_column.f k l0 a1 = some r) :
  Calls Try.prog 50 #[.slice A0 l0.length c0, .int .i64 a1] w fun e w' => ∃ v0_ : Value, e = .returned (v0_) ∧ Kd.R (Kd.int .i64) 3 w' w.heap.size (fun _ => True) v0_ r ∧ Below w.heap.size w w' := by
 have HR0 := a_ hr0
 have HC0 := a_ hc0
 clear hr0 hc0
 have HB := a_ (Below.refl w.heap.size w)
 have H : (rl_column.l0 k l0 a1 (([] : List Int)) 0) = some r := h
 clear h
 obtain ⟨y153, hy153⟩ : ∃ y_ : List Int, y_ = (([] : List Int)) := ⟨_, rfl⟩
 replace H : (rl_column.l0 k l0 a1 y153 0) = some r := by first | (rw [hy153]; with_reducible exact H) | (have H2_ := (Option.bind_some _ _).symm.trans H; rw [hy153]; with_reducible exact H2_) | (have H2_ := (Option.bind_some _ _).symm.trans H; with_reducible exact H2_) | with_reducible exact H | (rw [hy153]; exact H) | exact H
 have Ny153 := a_ hy153
 clear hy153
 have H' := a_ H
 clear H
 go_enter Try.func50, Try.ntmps50
 go_wp2_with (first | ((with_reducible refine gate_dst (N := 9) rfl ?_); refine Kd.R_lit (Kd.int .i64) _ 3 ?hg (N := 9) ?hd (xs := ([] : List Int)) (inner := []) (ok := fun _ => True) (okp := fun _ => True) ?hr ?hp (fun _ hk => hk) trivial (Below.refl _ _) (Nat.le_refl _) (by simp) ?_; (case hd => rfl); (case hg => rfl); (case hr => first | (go_simp; done) | (go_simp; rfl)); (case hp => exact (Reps.none _ _)); intro v154 w3 ho4 hb hg_ hnew_; clear hg_ hnew_; (first | rw [← Ny153.out] at ho4 | (simp only [Int.reduceToNat] at ho4; rw [← Ny153.out] at ho4)); have HO155 := a_ (Kd.R_lower ho4 (bZ_ (gr HB.out))); replace HB := a_ (bT_ HB.out (tr hb)); clear hb ho4))
 go_loopg [5, 6] k (fun kq v5 v6 w' => ∃ (x5_1 : List Int) (x6_1 : Int), v6 = .int .i64 x6_1 ∧ Aside0 (rl_column.l0 kq l0 a1 x5_1 x6_1 = some r) ∧ Aside0 (kq ≤ k) ∧ Aside0 (Kd.R (Kd.int .i64) 3 w' w.heap.size (fun _ => True) v5 x5_1) ∧ Aside0 (Below w.heap.size w w'))
 case atStart => exact ⟨(y153), (0), (by first | rfl | (simp; done) | (simp [*]; done)), H', ⟨Nat.le_refl _⟩, ⟨by exact rk HO155.out⟩, ⟨by exact gs HB.out⟩⟩
 clear H'
 obtain ⟨x5_1, x6_1, rfl, HA, HK1, HO_5, HB⟩ := hrel
 cases gk with
 | zero => exact absurd HA.out (by simp [rl_column.l0])
 | succ k1 =>
  have H := HA.out
  clear HA
  simp only [rl_column.l0] at H
  by_cases c5 : x6_1 < a1
  rotate_left
  ·rw [if_neg c5] at H
   have c5b0 : decide (x6_1 < a1) = false := decide_eq_false c5
   clear c5
   obtain rfl := Option.some.inj H
   go_wp2
   go_ret
   exact ⟨_, by first | rfl | (simp [errW_none, errW_some] <;> rfl) | (simp [*, errW_none, errW_some] <;> rfl), by exact rk HO_5.out, by exact gs HB.out⟩
  rw [if_pos c5] at H
  have c5b0 : decide (x6_1 < a1) = true := decide_eq_true c5
  clear c5
  by_cases c6 : x6_1 < (l0.length : Int)
  rotate_left
  ·rw [if_neg c6] at H
   have c6b0 : decide (x6_1 < (l0.length : Int)) = false := decide_eq_false c6
   clear c6
   by_cases c22 : 0 ≤ x6_1
   rotate_left
   ·rw [if_neg c22] at H
    exact absurd H (by simp)
   rw [if_pos c22] at H
   have c22b0 := eq_true c22
   have c22b1 : decide (0 ≤ x6_1) = true := decide_eq_true c22
   clear c22
   by_cases c23 : x6_1 ≤ (x5_1.length : Int)
   rotate_left
   ·rw [if_neg c23] at H
    exact absurd H (by simp)
   rw [if_pos c23] at H
   have c23b0 := eq_true c23
   have c23b1 : decide (x6_1 ≤ (x5_1.length : Int)) = true := decide_eq_true c23
   have KFc23 := a_ c23
   clear c23
   obtain ⟨y175, hy175⟩ : ∃ y_ : List Int, y_ = (x5_1.take (x6_1 : Int).toNat) := ⟨_, rfl⟩
   replace H : (if ([] : List Int).length + y175.length < 17592186044416 then ((some (([] : List Int) ++ y175 : List Int)).bind fun y179 => (if y179.length < 17592186044416 then ((some (y179 ++ [x6_1] : List Int)).bind fun y182 => ((some (x5_1.drop (x6_1 : Int).toNat : List Int)).bind fun y185 => (if y182.length + y185.length < 17592186044416 then (rl_column.l0 k1 l0 a1 (y182 ++ y185) (wrap64 (x6_1 + 1))) else (none)))) else (none))) else (none)) = some r := by first | (rw [hy175]; with_reducible exact H) | (have H2_ := (Option.bind_some _ _).symm.trans H; rw [hy175]; with_reducible exact H2_) | (have H2_ := (Option.bind_some _ _).symm.trans H; with_reducible exact H2_) | with_reducible exact H | (rw [hy175]; exact H) | exact H
   have Ny175 := a_ hy175
   clear hy175
   by_cases c24 : ([] : List Int).length + y175.length < 17592186044416
   rotate_left
   ·rw [if_neg c24] at H
    exact absurd H (by simp)
   rw [if_pos c24] at H
   have LMc24 := a_ c24
   clear c24
   obtain ⟨y179, hy179⟩ : ∃ y_ : List Int, y_ = (([] : List Int) ++ y175) := ⟨_, rfl⟩
   replace H : (if y179.length < 17592186044416 then ((some (y179 ++ [x6_1] : List Int)).bind fun y182 => ((some (x5_1.drop (x6_1 : Int).toNat : List Int)).bind fun y185 => (if y182.length + y185.length < 17592186044416 then (rl_column.l0 k1 l0 a1 (y182 ++ y185) (wrap64 (x6_1 + 1))) else (none)))) else (none)) = some r := by first | (rw [hy179]; with_reducible exact H) | (have H2_ := (Option.bind_some _ _).symm.trans H; rw [hy179]; with_reducible exact H2_) | (have H2_ := (Option.bind_some _ _).symm.trans H; with_reducible exact H2_) | with_reducible exact H | (rw [hy179]; exact H) | exact H
   have Ny179 := a_ hy179
   clear hy179
   by_cases c25 : y179.length < 17592186044416
   rotate_left
   ·rw [if_neg c25] at H
    exact absurd H (by simp)
   rw [if_pos c25] at H
   have LMc25 := a_ c25
   clear c25
   obtain ⟨y182, hy182⟩ : ∃ y_ : List Int, y_ = (y179 ++ [x6_1]) := ⟨_, rfl⟩
   replace H : ((some (x5_1.drop (x6_1 : Int).toNat : List Int)).bind fun y185 => (if y182.length + y185.length < 17592186044416 then (rl_column.l0 k1 l0 a1 (y182 ++ y185) (wrap64 (x6_1 + 1))) else (none))) = some r := by first | (rw [hy182]; with_reducible exact H) | (have H2_ := (Option.bind_some _ _).symm.trans H; rw [hy182]; with_reducible exact H2_) | (have H2_ := (Option.bind_some _ _).symm.trans H; with_reducible exact H2_) | with_reducible exact H | (rw [hy182]; exact H) | exact H
   have Ny182 := a_ hy182
   clear hy182
   have c26b0 := eq_true (of_decide_eq_true (by first | (with_reducible assumption) | assumption) : 0 ≤ x6_1)
   have c27b0 := eq_true (of_decide_eq_true (by first | (with_reducible assumption) | assumption) : x6_1 ≤ (x5_1.length : Int))
   obtain ⟨y185, hy185⟩ : ∃ y_ : List Int, y_ = (x5_1.drop (x6_1 : Int).toNat) := ⟨_, rfl⟩
   replace H : (if y182.length + y185.length < 17592186044416 then (rl_column.l0 k1 l0 a1 (y182 ++ y185) (wrap64 (x6_1 + 1))) else (none)) = some r := by first | (rw [hy185]; with_reducible exact H) | (have H2_ := (Option.bind_some _ _).symm.trans H; rw [hy185]; with_reducible exact H2_) | (have H2_ := (Option.bind_some _ _).symm.trans H; with_reducible exact H2_) | with_reducible exact H | (rw [hy185]; exact H) | exact H
   have Ny185 := a_ hy185
   clear hy185
   by_cases c28 : y182.length + y185.length < 17592186044416
   rotate_left
   ·rw [if_neg c28] at H
    exact absurd H (by simp)
   rw [if_pos c28] at H
   have LMc28 := a_ c28
   clear c28
   obtain ⟨y189, hy189⟩ : ∃ y_ : List Int, y_ = (y182 ++ y185) := ⟨_, rfl⟩
   replace H : (rl_column.l0 k1 l0 a1 y189 (wrap64 (x6_1 + 1))) = some r := by first | (rw [hy189]; with_reducible exact H) | (have H2_ := (Option.bind_some _ _).symm.trans H; rw [hy189]; with_reducible exact H2_) | (have H2_ := (Option.bind_some _ _).symm.trans H; with_reducible exact H2_) | with_reducible exact H | (rw [hy189]; exact H) | exact H
   have Ny189 := a_ hy189
   clear hy189
   have H' := a_ H
   clear H
   obtain ⟨Ao30, co30, eo30⟩ := Kd.R_slice HO_5.out
   subst eo30
   have q29 : (x6_1 : Int) ≤ ((x5_1.length : Int) : Int) := of_decide_eq_true (by first | (with_reducible assumption) | assumption)
   obtain ⟨i029, hi029, _, hsz29, _⟩ := info_parts info3
   have hroom29 : x5_1.length ≤ co30 := (Kd.R_reads' HO_5.out).2.1
   have hC29 : Kd.C (Kd.int .i64) _ Ao30 x5_1.length x5_1 := (Kd.R_reads' HO_5.out).2.2
   have hcut29 := cut_to (P := Try.prog) 22 3 .i64 Try.underlying22 hi029 Ao30 x5_1.length co30 x6_1 (of_decide_eq_true (by first | (with_reducible assumption) | assumption)) q29 hroom29
   have hr29 := Kd.C_take (m := (x6_1 : Int).toNat) hC29 (by omega)
   have hy29 : y175.length = (x6_1 : Int).toNat := (by rw [Ny175.out, List.length_take]; omega)
   rw [← Ny175.out] at hr29
   rw [← hy29] at hcut29
   have HR178 := a_ hr29
   have HC178 := a_ (show y175.length ≤ co30 from by omega)
   clear hr29 hC29 hroom29 hi029 hsz29
   have KY29 := a_ hy29
   clear hy29
   have KL29 := a_ (show (x6_1 : Int).toNat ≤ x5_1.length from by omega)
   replace q29 := eq_true q29
   go_wp2_with (first | ((with_reducible refine gate_builtin (b := .append) (xs := #[.tmp 27, .tmp 30]) rfl ?_); at_builtin; refine Kd.R_append_rows (Kd.int .i64) (w0 := w) w.heap.size rfl (.tmp 27) (.tmp 30) 22 3 (.int .i64 0) 8 rfl Try.underlying22 info3 rfl (by decide) (by omega) (.slice none 0 0) ([] : List Int) y175 _ _ _ (fun k_ => some k_ ≠ (.slice Ao30 x5_1.length co30 : Value).ownBlock) (fun _ => False) rfl rfl ?aO ?aR (fun _ _ h => h) (fun _ h => h.elim) ?aF ?aB ?aS ?aL ?_; (case aR => repeat (first | exact (by repeat (first | (with_reducible exact HR178.out) | (with_reducible refine Kd.C_alloc ?_ _) | (with_reducible refine Kd.C_drewN ?_ _) | (with_reducible refine Kd.C_drew ?_) | exact HR178.out)) | (with_reducible refine Kd.C_alloc ?_ _) | (with_reducible refine Kd.C_drewN ?_ _) | (with_reducible refine Kd.C_drew ?_))); (case aB => exact (gr HB.out)); (case aF => exact (fun k_ hk => Kd.fresh' (Kd.R_lt (by exact rk HO_5.out)) k_ hk)); (case aO => exact ((Kd.R_nil _ _ _ _ (fun k_ => some k_ ≠ (.slice Ao30 x5_1.length co30 : Value).ownBlock)))); (case aS => exact (bZ_ (gr HB.out))); (case aL => have := LMc24.out; omega); intro v180 w31 ho hb hg hat; rw [← Ny179.out] at ho; have HO181 := a_ (ho); replace HB := a_ (hb); replace HR178 := a_ ((show Kd.C (Kd.int .i64) w31 Ao30 y175.length y175 from by rw [Ny175.out]; exact Kd.C_take (m := (x6_1 : Int).toNat) ((Kd.R_reads' (Kd.R_after (Kd.R_apart_nil (by exact rk HO_5.out)) hg hat)).2.2) KL29.out)); replace HO_5 := a_ (Kd.R_after (Kd.R_apart_nil (by exact rk HO_5.out)) hg hat); clear ho hb hg hat) | ((with_reducible refine gate_builtin (b := .append) (xs := #[.tmp 32, .tmp 34]) rfl ?_); at_builtin; refine Kd.R_append (Kd.int .i64) (w0 := w) w.heap.size rfl (.tmp 32) (.tmp 34) 22 3 (.int .i64 0) 8 rfl Try.underlying22 info3 rfl (by decide) (by omega) v180 y179 x6_1 [.int .i64 x6_1] (fun k_ => some k_ ≠ (.slice Ao30 x5_1.length co30 : Value).ownBlock) (fun _ => False) rfl rfl ?aP (fun _ hk => hk.elim) ?aF ?aO ?aB ?aS ?aL ?_; (case aP => exact rfl); (case aB => exact (gr HB.out)); (case aF => exact (fun k_ hk => Kd.fresh' (Kd.R_lt (by exact rk HO_5.out)) k_ hk)); (case aO => exact (by exact rk HO181.out)); (case aS => exact (bZ_ (gr HB.out))); (case aL => have := LMc25.out; omega); intro v183 w32 ho hb hg hat; rw [← Ny182.out] at ho; have HO184 := a_ (ho); replace HB := a_ (hb); replace HR178 := a_ ((show Kd.C (Kd.int .i64) w32 Ao30 y175.length y175 from by rw [Ny175.out]; exact Kd.C_take (m := (x6_1 : Int).toNat) ((Kd.R_reads' (Kd.R_after (ok := (fun _ => True)) (by exact rk HO_5.out) hg hat)).2.2) KL29.out)); replace HO_5 := a_ (Kd.R_after (ok := (fun _ => True)) (by exact rk HO_5.out) hg hat); clear HO181; clear ho hb hg hat; have q33 : (x6_1 : Int) ≤ ((x5_1.length : Int) : Int) := of_decide_eq_true (by first | (with_reducible assumption) | assumption); obtain ⟨i033, hi033, _, hsz33, _⟩ := info_parts info3; have hroom33 : x5_1.length ≤ co30 := (Kd.R_reads' HO_5.out).2.1; have hC33 : Kd.C (Kd.int .i64) _ Ao30 x5_1.length x5_1 := (Kd.R_reads' HO_5.out).2.2; have q033 : (0 : Int) ≤ (x6_1 : Int) := of_decide_eq_true (by first | (with_reducible assumption) | assumption); have hcut33 := cut_from (P := Try.prog) 22 3 .i64 Try.underlying22 hi033 1 hsz33 Ao30 x5_1.length co30 x6_1 q033 q33; have hr33 := Kd.C_drop (m := (x6_1 : Int).toNat) (c := co30) hC33 (by omega) hroom33; obtain ⟨A33, hA33⟩ : ∃ A1, A1 = (if co30 = (x6_1 : Int).toNat then Ao30 else (Ao30 : Option Addr).map (·.add ((x6_1 : Int).toNat * 1))) := ⟨_, rfl⟩; obtain ⟨c33, hc33⟩ : ∃ c1, c1 = co30 - (x6_1 : Int).toNat := ⟨_, rfl⟩; have hy33 : y185.length = x5_1.length - (x6_1 : Int).toNat := (by rw [Ny185.out, List.length_drop] <;> omega); rw [show (x5_1).drop (x6_1 : Int).toNat = y185 from Ny185.out.symm] at hr33; replace hr33 : Kd.C (Kd.int .i64) _ A33 y185.length y185 := (by rw [hA33]; exact hr33); rw [← hy33, ← hA33, ← hc33] at hcut33; have HR188 := a_ hr33; have HC188 := a_ (show y185.length ≤ c33 from by rw [hy33, hc33]; exact Nat.sub_le_sub_right hroom33 _); clear hr33 hC33 hroom33 hi033 hsz33 hc33; have KY33 := a_ hy33; have KA33 := a_ hA33; clear hy33 hA33; have KL33 := a_ (show (x6_1 : Int).toNat ≤ x5_1.length from by omega); replace q33 := eq_true q33) | ((with_reducible refine gate_builtin (b := .append) (xs := #[.tmp 36, .tmp 39]) rfl ?_); at_builtin; refine Kd.R_append_rows (Kd.int .i64) (w0 := w) w.heap.size rfl (.tmp 36) (.tmp 39) 22 3 (.int .i64 0) 8 rfl Try.underlying22 info3 rfl (by decide) (by omega) v183 y182 y185 _ _ _ (fun k_ => some k_ ≠ (.slice Ao30 x5_1.length co30 : Value).ownBlock) (fun _ => False) rfl rfl ?aO ?aR (fun _ _ h => h) (fun _ h => h.elim) ?aF ?aB ?aS ?aL ?_; (case aR => repeat (first | exact (by repeat (first | (with_reducible exact HR188.out) | (with_reducible refine Kd.C_alloc ?_ _) | (with_reducible refine Kd.C_drewN ?_ _) | (with_reducible refine Kd.C_drew ?_) | exact HR188.out)) | (with_reducible refine Kd.C_alloc ?_ _) | (with_reducible refine Kd.C_drewN ?_ _) | (with_reducible refine Kd.C_drew ?_))); (case aB => exact (gr HB.out)); (case aF => exact (fun k_ hk => Kd.fresh' (Kd.R_lt (by exact rk HO_5.out)) k_ hk)); (case aO => exact (by exact rk HO184.out)); (case aS => exact (bZ_ (gr HB.out))); (case aL => have := LMc28.out; omega); intro v190 w34 ho hb hg hat; rw [← Ny189.out] at ho; have HO191 := a_ (ho); replace HB := a_ (hb); replace HR178 := a_ ((show Kd.C (Kd.int .i64) w34 Ao30 y175.length y175 from by rw [Ny175.out]; exact Kd.C_take (m := (x6_1 : Int).toNat) ((Kd.R_reads' (Kd.R_after (ok := (fun _ => True)) (by exact rk HO_5.out) hg hat)).2.2) KL29.out)); replace HR188 := a_ ((show Kd.C (Kd.int .i64) w34 A33 y185.length y185 from by rw [Ny185.out, KA33.out]; exact Kd.C_drop (m := (x6_1 : Int).toNat) (c := co30) ((Kd.R_reads' (Kd.R_after (ok := (fun _ => True)) (by exact rk HO_5.out) hg hat)).2.2) KL33.out ((Kd.R_reads' (Kd.R_after (ok := (fun _ => True)) (by exact rk HO_5.out) hg hat)).2.1))); replace HO_5 := a_ (Kd.R_after (ok := (fun _ => True)) (by exact rk HO_5.out) hg hat); clear HO184; clear ho hb hg hat))
   go_roundg k1
   case measure => have := HK1.out; omega
   case rel => exact ⟨(y189), (wrap64 (x6_1 + 1)), (by first | rfl | (simp; done) | (simp [*]; done)), H', ⟨by have := HK1.out; omega⟩, ⟨by exact rk (Kd.R_mono HO191.out (fun _ hk => trivial))⟩, ⟨by exact gs HB.out⟩⟩
  rw [if_pos c6] at H
  have c6b0 : decide (x6_1 < (l0.length : Int)) = true := decide_eq_true c6
  clear c6
  by_cases c7 : 0 ≤ x6_1
  rotate_left
  ·rw [if_neg c7] at H
   exact absurd H (by simp)
  rw [if_pos c7] at H
  have c7b0 : decide (0 ≤ x6_1) = true := decide_eq_true c7
  clear c7
  replace H := Option.bind_eq_some_iff.mp H
  obtain ⟨t157, A80, H⟩ := H
  try dsimp only at H
  have A8 := a_ A80
  clear A80
  by_cases c9 : 0 ≤ t157
  rotate_left
  ·rw [if_neg c9] at H
   exact absurd H (by simp)
  rw [if_pos c9] at H
  have c9b0 := eq_true c9
  have c9b1 : decide (0 ≤ t157) = true := decide_eq_true c9
  clear c9
  by_cases c10 : t157 ≤ (x5_1.length : Int)
  rotate_left
  ·rw [if_neg c10] at H
   exact absurd H (by simp)
  rw [if_pos c10] at H
  have c10b0 := eq_true c10
  have c10b1 : decide (t157 ≤ (x5_1.length : Int)) = true := decide_eq_true c10
  have KFc10 := a_ c10
  clear c10
  obtain ⟨y158, hy158⟩ : ∃ y_ : List Int, y_ = (x5_1.take (t157 : Int).toNat) := ⟨_, rfl⟩
  replace H : (if ([] : List Int).length + y158.length < 17592186044416 then ((some (([] : List Int) ++ y158 : List Int)).bind fun y162 => (if y162.length < 17592186044416 then ((some (y162 ++ [x6_1] : List Int)).bind fun y165 => ((some (x5_1.drop (t157 : Int).toNat : List Int)).bind fun y168 => (if y165.length + y168.length < 17592186044416 then (rl_column.l0 k1 l0 a1 (y165 ++ y168) (wrap64 (x6_1 + 1))) else (none)))) else (none))) else (none)) = some r := by first | (rw [hy158]; with_reducible exact H) | (have H2_ := (Option.bind_some _ _).symm.trans H; rw [hy158]; with_reducible exact H2_) | (have H2_ := (Option.bind_some _ _).symm.trans H; with_reducible exact H2_) | with_reducible exact H | (rw [hy158]; exact H) | exact H
  have Ny158 := a_ hy158
  clear hy158
  by_cases c11 : ([] : List Int).length + y158.length < 17592186044416
  rotate_left
  ·rw [if_neg c11] at H
   exact absurd H (by simp)
  rw [if_pos c11] at H
  have LMc11 := a_ c11
  clear c11
  obtain ⟨y162, hy162⟩ : ∃ y_ : List Int, y_ = (([] : List Int) ++ y158) := ⟨_, rfl⟩
  replace H : (if y162.length < 17592186044416 then ((some (y162 ++ [x6_1] : List Int)).bind fun y165 => ((some (x5_1.drop (t157 : Int).toNat : List Int)).bind fun y168 => (if y165.length + y168.length < 17592186044416 then (rl_column.l0 k1 l0 a1 (y165 ++ y168) (wrap64 (x6_1 + 1))) else (none)))) else (none)) = some r := by first | (rw [hy162]; with_reducible exact H) | (have H2_ := (Option.bind_some _ _).symm.trans H; rw [hy162]; with_reducible exact H2_) | (have H2_ := (Option.bind_some _ _).symm.trans H; with_reducible exact H2_) | with_reducible exact H | (rw [hy162]; exact H) | exact H
  have Ny162 := a_ hy162
  clear hy162
  by_cases c12 : y162.length < 17592186044416
  rotate_left
  ·rw [if_neg c12] at H
   exact absurd H (by simp)
  rw [if_pos c12] at H
  have LMc12 := a_ c12
  clear c12
  obtain ⟨y165, hy165⟩ : ∃ y_ : List Int, y_ = (y162 ++ [x6_1]) := ⟨_, rfl⟩
  replace H : ((some (x5_1.drop (t157 : Int).toNat : List Int)).bind fun y168 => (if y165.length + y168.length < 17592186044416 then (rl_column.l0 k1 l0 a1 (y165 ++ y168) (wrap64 (x6_1 + 1))) else (none))) = some r := by first | (rw [hy165]; with_reducible exact H) | (have H2_ := (Option.bind_some _ _).symm.trans H; rw [hy165]; with_reducible exact H2_) | (have H2_ := (Option.bind_some _ _).symm.trans H; with_reducible exact H2_) | with_reducible exact H | (rw [hy165]; exact H) | exact H
  have Ny165 := a_ hy165
  clear hy165
  have c13b0 := eq_true (of_decide_eq_true (by first | (with_reducible assumption) | assumption) : 0 ≤ t157)
  have c14b0 := eq_true (of_decide_eq_true (by first | (with_reducible assumption) | assumption) : t157 ≤ (x5_1.length : Int))
  obtain ⟨y168, hy168⟩ : ∃ y_ : List Int, y_ = (x5_1.drop (t157 : Int).toNat) := ⟨_, rfl⟩
  replace H : (if y165.length + y168.length < 17592186044416 then (rl_column.l0 k1 l0 a1 (y165 ++ y168) (wrap64 (x6_1 + 1))) else (none)) = some r := by first | (rw [hy168]; with_reducible exact H) | (have H2_ := (Option.bind_some _ _).symm.trans H; rw [hy168]; with_reducible exact H2_) | (have H2_ := (Option.bind_some _ _).symm.trans H; with_reducible exact H2_) | with_reducible exact H | (rw [hy168]; exact H) | exact H
  have Ny168 := a_ hy168
  clear hy168
  by_cases c15 : y165.length + y168.length < 17592186044416
  rotate_left
  ·rw [if_neg c15] at H
   exact absurd H (by simp)
  rw [if_pos c15] at H
  have LMc15 := a_ c15
  clear c15
  obtain ⟨y172, hy172⟩ : ∃ y_ : List Int, y_ = (y165 ++ y168) := ⟨_, rfl⟩
  replace H : (rl_column.l0 k1 l0 a1 y172 (wrap64 (x6_1 + 1))) = some r := by first | (rw [hy172]; with_reducible exact H) | (have H2_ := (Option.bind_some _ _).symm.trans H; rw [hy172]; with_reducible exact H2_) | (have H2_ := (Option.bind_some _ _).symm.trans H; with_reducible exact H2_) | with_reducible exact H | (rw [hy172]; exact H) | exact H
  have Ny172 := a_ hy172
  clear hy172
  have H' := a_ H
  clear H
  have p156 : 0 ≤ (x6_1 : Int) := of_decide_eq_true (by first | (with_reducible assumption) | assumption)
  have q156 : x6_1 < (l0.length : Int) := of_decide_eq_true (by first | (with_reducible assumption) | assumption)
  obtain ⟨ad156, e156, hx156_0⟩ := Kd.at_int HR0.out x6_1 p156 q156
  cases e156
  replace hx156_0 := (HB.out.cell (World.block_lt_of_cell? w _ hx156_0)).trans hx156_0
  replace p156 := eq_true p156
  replace q156 := eq_true q156
  go_wp2_with (first | ((with_reducible refine gate_callee (f := 16) rfl ?_); refine goesL_ (some 26) rfl rfl Try.func16 (by kernel_rfl) rfl #[.int .i64 (rd l0 x6_1), .int .i64 (wrap64 (x6_1 + 1))] rfl (by (try simp only [List.map_toArray, List.map_cons, List.map_nil]); first | done | rfl | (simp only [List.length_drop, List.length_take]; rfl)) ?_; (with_reducible refine (rl_mod.calls (rd l0 x6_1) (wrap64 (x6_1 + 1)) t157 _ A8.out).mono ?_); rintro e w' ⟨rfl, ⟨nd, rfl⟩⟩; refine ⟨_, rfl, ?_⟩; obtain ⟨Ao17, co17, eo17⟩ := Kd.R_slice HO_5.out; subst eo17; have q16 : (t157 : Int) ≤ ((x5_1.length : Int) : Int) := of_decide_eq_true (by first | (with_reducible assumption) | assumption); obtain ⟨i016, hi016, _, hsz16, _⟩ := info_parts info3; have hroom16 : x5_1.length ≤ co17 := (Kd.R_reads' HO_5.out).2.1; have hC16 : Kd.C (Kd.int .i64) _ Ao17 x5_1.length x5_1 := (Kd.R_reads' HO_5.out).2.2; have hcut16 := cut_to (P := Try.prog) 22 3 .i64 Try.underlying22 hi016 Ao17 x5_1.length co17 t157 (of_decide_eq_true (by first | (with_reducible assumption) | assumption)) q16 hroom16; have hr16 := Kd.C_take (m := (t157 : Int).toNat) hC16 (by omega); have hy16 : y158.length = (t157 : Int).toNat := (by rw [Ny158.out, List.length_take]; omega); rw [← Ny158.out] at hr16; rw [← hy16] at hcut16; have HR161 := a_ hr16; have HC161 := a_ (show y158.length ≤ co17 from by omega); clear hr16 hC16 hroom16 hi016 hsz16; have KY16 := a_ hy16; clear hy16; have KL16 := a_ (show (t157 : Int).toNat ≤ x5_1.length from by omega); replace q16 := eq_true q16) | ((with_reducible refine gate_builtin (b := .append) (xs := #[.tmp 27, .tmp 30]) rfl ?_); at_builtin; refine Kd.R_append_rows (Kd.int .i64) (w0 := w) w.heap.size rfl (.tmp 27) (.tmp 30) 22 3 (.int .i64 0) 8 rfl Try.underlying22 info3 rfl (by decide) (by omega) (.slice none 0 0) ([] : List Int) y158 _ _ _ (fun k_ => some k_ ≠ (.slice Ao17 x5_1.length co17 : Value).ownBlock) (fun _ => False) rfl rfl ?aO ?aR (fun _ _ h => h) (fun _ h => h.elim) ?aF ?aB ?aS ?aL ?_; (case aR => repeat (first | exact (by repeat (first | (with_reducible exact HR161.out) | (with_reducible refine Kd.C_alloc ?_ _) | (with_reducible refine Kd.C_drewN ?_ _) | (with_reducible refine Kd.C_drew ?_) | exact HR161.out)) | (with_reducible refine Kd.C_alloc ?_ _) | (with_reducible refine Kd.C_drewN ?_ _) | (with_reducible refine Kd.C_drew ?_))); (case aB => exact (gr HB.out)); (case aF => exact (fun k_ hk => Kd.fresh' (Kd.R_lt (by exact rk HO_5.out)) k_ hk)); (case aO => exact ((Kd.R_nil _ _ _ _ (fun k_ => some k_ ≠ (.slice Ao17 x5_1.length co17 : Value).ownBlock)))); (case aS => exact (bZ_ (gr HB.out))); (case aL => have := LMc11.out; omega); intro v163 w18 ho hb hg hat; rw [← Ny162.out] at ho; have HO164 := a_ (ho); replace HB := a_ (hb); replace HR161 := a_ ((show Kd.C (Kd.int .i64) w18 Ao17 y158.length y158 from by rw [Ny158.out]; exact Kd.C_take (m := (t157 : Int).toNat) ((Kd.R_reads' (Kd.R_after (Kd.R_apart_nil (by exact rk HO_5.out)) hg hat)).2.2) KL16.out)); replace HO_5 := a_ (Kd.R_after (Kd.R_apart_nil (by exact rk HO_5.out)) hg hat); clear ho hb hg hat) | ((with_reducible refine gate_builtin (b := .append) (xs := #[.tmp 32, .tmp 34]) rfl ?_); at_builtin; refine Kd.R_append (Kd.int .i64) (w0 := w) w.heap.size rfl (.tmp 32) (.tmp 34) 22 3 (.int .i64 0) 8 rfl Try.underlying22 info3 rfl (by decide) (by omega) v163 y162 x6_1 [.int .i64 x6_1] (fun k_ => some k_ ≠ (.slice Ao17 x5_1.length co17 : Value).ownBlock) (fun _ => False) rfl rfl ?aP (fun _ hk => hk.elim) ?aF ?aO ?aB ?aS ?aL ?_; (case aP => exact rfl); (case aB => exact (gr HB.out)); (case aF => exact (fun k_ hk => Kd.fresh' (Kd.R_lt (by exact rk HO_5.out)) k_ hk)); (case aO => exact (by exact rk HO164.out)); (case aS => exact (bZ_ (gr HB.out))); (case aL => have := LMc12.out; omega); intro v166 w19 ho hb hg hat; rw [← Ny165.out] at ho; have HO167 := a_ (ho); replace HB := a_ (hb); replace HR161 := a_ ((show Kd.C (Kd.int .i64) w19 Ao17 y158.length y158 from by rw [Ny158.out]; exact Kd.C_take (m := (t157 : Int).toNat) ((Kd.R_reads' (Kd.R_after (ok := (fun _ => True)) (by exact rk HO_5.out) hg hat)).2.2) KL16.out)); replace HO_5 := a_ (Kd.R_after (ok := (fun _ => True)) (by exact rk HO_5.out) hg hat); clear HO164; clear ho hb hg hat; have q20 : (t157 : Int) ≤ ((x5_1.length : Int) : Int) := of_decide_eq_true (by first | (with_reducible assumption) | assumption); obtain ⟨i020, hi020, _, hsz20, _⟩ := info_parts info3; have hroom20 : x5_1.length ≤ co17 := (Kd.R_reads' HO_5.out).2.1; have hC20 : Kd.C (Kd.int .i64) _ Ao17 x5_1.length x5_1 := (Kd.R_reads' HO_5.out).2.2; have q020 : (0 : Int) ≤ (t157 : Int) := of_decide_eq_true (by first | (with_reducible assumption) | assumption); have hcut20 := cut_from (P := Try.prog) 22 3 .i64 Try.underlying22 hi020 1 hsz20 Ao17 x5_1.length co17 t157 q020 q20; have hr20 := Kd.C_drop (m := (t157 : Int).toNat) (c := co17) hC20 (by omega) hroom20; obtain ⟨A20, hA20⟩ : ∃ A1, A1 = (if co17 = (t157 : Int).toNat then Ao17 else (Ao17 : Option Addr).map (·.add ((t157 : Int).toNat * 1))) := ⟨_, rfl⟩; obtain ⟨c20, hc20⟩ : ∃ c1, c1 = co17 - (t157 : Int).toNat := ⟨_, rfl⟩; have hy20 : y168.length = x5_1.length - (t157 : Int).toNat := (by rw [Ny168.out, List.length_drop] <;> omega); rw [show (x5_1).drop (t157 : Int).toNat = y168 from Ny168.out.symm] at hr20; replace hr20 : Kd.C (Kd.int .i64) _ A20 y168.length y168 := (by rw [hA20]; exact hr20); rw [← hy20, ← hA20, ← hc20] at hcut20; have HR171 := a_ hr20; have HC171 := a_ (show y168.length ≤ c20 from by rw [hy20, hc20]; exact Nat.sub_le_sub_right hroom20 _); clear hr20 hC20 hroom20 hi020 hsz20 hc20; have KY20 := a_ hy20; have KA20 := a_ hA20; clear hy20 hA20; have KL20 := a_ (show (t157 : Int).toNat ≤ x5_1.length from by omega); replace q20 := eq_true q20) | ((with_reducible refine gate_builtin (b := .append) (xs := #[.tmp 36, .tmp 39]) rfl ?_); at_builtin; refine Kd.R_append_rows (Kd.int .i64) (w0 := w) w.heap.size rfl (.tmp 36) (.tmp 39) 22 3 (.int .i64 0) 8 rfl Try.underlying22 info3 rfl (by decide) (by omega) v166 y165 y168 _ _ _ (fun k_ => some k_ ≠ (.slice Ao17 x5_1.length co17 : Value).ownBlock) (fun _ => False) rfl rfl ?aO ?aR (fun _ _ h => h) (fun _ h => h.elim) ?aF ?aB ?aS ?aL ?_; (case aR => repeat (first | exact (by repeat (first | (with_reducible exact HR171.out) | (with_reducible refine Kd.C_alloc ?_ _) | (with_reducible refine Kd.C_drewN ?_ _) | (with_reducible refine Kd.C_drew ?_) | exact HR171.out)) | (with_reducible refine Kd.C_alloc ?_ _) | (with_reducible refine Kd.C_drewN ?_ _) | (with_reducible refine Kd.C_drew ?_))); (case aB => exact (gr HB.out)); (case aF => exact (fun k_ hk => Kd.fresh' (Kd.R_lt (by exact rk HO_5.out)) k_ hk)); (case aO => exact (by exact rk HO167.out)); (case aS => exact (bZ_ (gr HB.out))); (case aL => have := LMc15.out; omega); intro v173 w21 ho hb hg hat; rw [← Ny172.out] at ho; have HO174 := a_ (ho); replace HB := a_ (hb); replace HR161 := a_ ((show Kd.C (Kd.int .i64) w21 Ao17 y158.length y158 from by rw [Ny158.out]; exact Kd.C_take (m := (t157 : Int).toNat) ((Kd.R_reads' (Kd.R_after (ok := (fun _ => True)) (by exact rk HO_5.out) hg hat)).2.2) KL16.out)); replace HR171 := a_ ((show Kd.C (Kd.int .i64) w21 A20 y168.length y168 from by rw [Ny168.out, KA20.out]; exact Kd.C_drop (m := (t157 : Int).toNat) (c := co17) ((Kd.R_reads' (Kd.R_after (ok := (fun _ => True)) (by exact rk HO_5.out) hg hat)).2.2) KL20.out ((Kd.R_reads' (Kd.R_after (ok := (fun _ => True)) (by exact rk HO_5.out) hg hat)).2.1))); replace HO_5 := a_ (Kd.R_after (ok := (fun _ => True)) (by exact rk HO_5.out) hg hat); clear HO167; clear ho hb hg hat))
  go_roundg k1
  case measure => have := HK1.out; omega
  case rel => exact ⟨(y172), (wrap64 (x6_1 + 1)), (by first | rfl | (simp; done) | (simp [*]; done)), H', ⟨by have := HK1.out; omega⟩, ⟨by exact rk (Kd.R_mono HO174.out (fun _ hk => trivial))⟩, ⟨by exact gs HB.out⟩⟩
theorem S_one {α : Type} {d : Kd α} {e : Nat} {w : World} {base : Nat} {ok : Nat → Prop} {v : Value} {x : α} (h : d.R e w base ok v [x]) : Kd.S d e w base ok v [x] := by
 obtain ⟨h0, inner, ho, hr⟩ := h
 refine ⟨fun _ => 0, h0, inner, ho, hr.1, fun j p hj => ?_⟩
 cases j with
 | zero =>
  simp at hj
  subst hj
  exact d.M_mono (fun k hk => ⟨hk, rfl⟩) (hr.2 0 x rfl)
 | succ j => simp at hj
mutual
def rl_standard.j0 : Nat → Int → List (List Int) → Option ((List (List Int)))
 | 0, _, _ => none
 | k + 1, x1, x9 => (rr_Connected.f k x9).bind fun t205 => (if t205 = true then ((rr_Renumber.f k x9 0).bind fun t206 => (some t206)) else (rl_standard.l0 k x1 x9 0))
def rl_standard.l0 : Nat → Int → List (List Int) → Int → Option ((List (List Int)))
 | 0, _, _, _ => none
 | k + 1, x1, x9, x10 => if x10 < x1 then (if 0 < (x9.length : Int) then (if x1 = 0 then (none) else (if 0 ≤ x10 then (if x10 < ((rd_L1 x9 0).length : Int) then (rl_standard.l0 k x1 (x9.set (0 : Int).toNat ((rd_L1 x9 0).set (x10 : Int).toNat (Int.tmod (wrap64 (x10 + 1)) x1))) (wrap64 (x10 + 1))) else (none)) else (none))) else (none)) else ((rr_Renumber.f k x9 0).bind fun t213 => (some t213))
end
def rl_standard.f (k : Nat) (a0 : Int) (a1 : Int) (l2 : List Int) (l3 : List Int) : Option ((List (List Int))) := (rl_mod.f a1 5).bind fun t192 => ((rl_column.f k l2 (wrap64 (1 + t192))).bind fun t193 => (if ([] : List (List Int)).length < 5864062014805 then ((some (([] : List (List Int)) ++ [t193] : List (List Int))).bind fun y196 => (if a0 = 2 then ((rl_column.f k l3 (wrap64 (1 + t192))).bind fun t199 => (if y196.length < 5864062014805 then (rl_standard.j0 k (wrap64 (1 + t192)) (y196 ++ [t199])) else (none))) else (rl_standard.j0 k (wrap64 (1 + t192)) y196))) else (none)))
def rl_standard.T9 : Bool × List (List Nat × List Nat) := (true, [([], []), ([0], [0]), ([1], [1]), ([], []), ([], []), ([4], [4]), ([], []), ([5, 6], [5, 6]), ([2, 3, 0, 1, 2, 3, 4, 5, 6, 7], [2, 3]), ([8, 7, 0, 1, 2, 3, 4, 5, 6, 7], [7, 8])])
def rl_standard.B9 : List Nat := [0, 1, 3, 0, 0, 16, 0, 112, 255, 511]
theorem rl_standard.tab9 : rtab .any (opsOf Try.f15 9) = rl_standard.T9 := by kernel_rfl
theorem rl_standard.bits9 : waitsOk rl_standard.T9.2 rl_standard.B9 = true := by kernel_rfl
theorem rl_standard.calls (k : Nat) (a0 : Int) (a1 : Int) (A2 : Option Addr) (c2 : Nat) (l2 : List Int) (A3 : Option Addr) (c3 : Nat) (l3 : List Int) (r : List (List Int)) (w : World) (hr2 : Kd.C (Kd.int .i64) w A2 l2.length l2) (hc2 : l2.length ≤ c2) (hr3 : Kd.C (Kd.int .i64) w A3 l3.length l3) (hc3 : l3.length ≤ c3) (h : rl_standard.f k a0 a1 l2 l3 = some r) :
  Calls Try.prog 15 #[.int .i64 a0, .int .i64 a1, .slice A2 l2.length c2, .slice A3 l3.length c3] w fun e w' => ∃ v0_ : Value, e = .returned (v0_) ∧ Kd.S (Kd.slice 3 (Kd.int .i64)) 22 w' w.heap.size (fun _ => True) v0_ r ∧ Below w.heap.size w w' := by
 have HR2 := a_ hr2
 have HC2 := a_ hc2
 clear hr2 hc2
 have HR3 := a_ hr3
 have HC3 := a_ hc3
 clear hr3 hc3
 have HB := a_ (Below.refl w.heap.size w)
 have H : ((rl_mod.f a1 5).bind fun t192 => ((rl_column.f k l2 (wrap64 (1 + t192))).bind fun t193 => (if ([] : List (List Int)).length < 5864062014805 then ((some (([] : List (List Int)) ++ [t193] : List (List Int))).bind fun y196 => (if a0 = 2 then ((rl_column.f k l3 (wrap64 (1 + t192))).bind fun t199 => (if y196.length < 5864062014805 then (rl_standard.j0 k (wrap64 (1 + t192)) (y196 ++ [t199])) else (none))) else (rl_standard.j0 k (wrap64 (1 + t192)) y196))) else (none)))) = some r := h
 clear h
 replace H := Option.bind_eq_some_iff.mp H
 obtain ⟨t192, A50, H⟩ := H
 try dsimp only at H
 have A5 := a_ A50
 clear A50
 replace H := Option.bind_eq_some_iff.mp H
 obtain ⟨t193, A60, H⟩ := H
 try dsimp only at H
 have A6 := a_ A60
 clear A60
 by_cases c7 : ([] : List (List Int)).length < 5864062014805
 rotate_left
 ·rw [if_neg c7] at H
  exact absurd H (by simp)
 rw [if_pos c7] at H
 have LMc7 := a_ c7
 clear c7
 obtain ⟨y196, hy196⟩ : ∃ y_ : List (List Int), y_ = (([] : List (List Int)) ++ [t193]) := ⟨_, rfl⟩
 replace H : (if a0 = 2 then ((rl_column.f k l3 (wrap64 (1 + t192))).bind fun t199 => (if y196.length < 5864062014805 then (rl_standard.j0 k (wrap64 (1 + t192)) (y196 ++ [t199])) else (none))) else (rl_standard.j0 k (wrap64 (1 + t192)) y196)) = some r := by first | (rw [hy196]; with_reducible exact H) | (have H2_ := (Option.bind_some _ _).symm.trans H; rw [hy196]; with_reducible exact H2_) | (have H2_ := (Option.bind_some _ _).symm.trans H; with_reducible exact H2_) | with_reducible exact H | (rw [hy196]; exact H) | exact H
 have Ny196 := a_ hy196
 clear hy196
 have HC8 := a_ H
 clear H
 go_enter Try.func15, Try.ntmps15
 go_upto_if 19 with (first | ((with_reducible refine gate_callee (f := 16) rfl ?_); refine goesL_ (some 12) rfl rfl Try.func16 (by kernel_rfl) rfl #[.int .i64 a1, .int .i64 5] rfl (by (try simp only [List.map_toArray, List.map_cons, List.map_nil]); first | done | rfl | (simp only [List.length_drop, List.length_take]; rfl)) ?_; (with_reducible refine (rl_mod.calls a1 5 t192 _ A5.out).mono ?_); rintro e w' ⟨rfl, ⟨nd, rfl⟩⟩; refine ⟨_, rfl, ?_⟩) | ((with_reducible refine gate_callee (f := 50) rfl ?_); refine goesL_ (some 16) rfl rfl Try.func50 (by kernel_rfl) rfl #[.slice A2 l2.length c2, .int .i64 (wrap64 (1 + t192))] rfl (by (try simp only [List.map_toArray, List.map_cons, List.map_nil]); first | done | rfl | (simp only [List.length_drop, List.length_take]; rfl)) ?_; (with_reducible refine (rl_column.calls k _ _ l2 (wrap64 (1 + t192)) t193 _ ?side1 ?side2 A6.out).mono ?_); (case side1 => repeat (first | exact HR2.out | (with_reducible refine Kd.C_alloc ?_ _) | (with_reducible refine Kd.C_drewN ?_ _) | (with_reducible refine Kd.C_drew ?_))); (case side2 => exact HC2.out); rintro e w9 ⟨v194, rfl, ho0, hb⟩; refine ⟨_, rfl, ?_⟩; have HO195 := a_ (Kd.R_lower ho0 (bZ_ (gr HB.out))); replace HB := a_ (bT_ HB.out (tr hb)); obtain ⟨Ao11, co11, eo11⟩ := Kd.R_slice HO195.out; subst eo11) | ((with_reducible refine gate_dst (N := 17) rfl ?_); refine Kd.R_lit (Kd.slice 3 (Kd.int .i64)) (w0 := w) w.heap.size 22 ?hg (N := 17) ?hd (xs := ([t193] : List (List Int))) (inner := [.slice Ao11 t193.length co11]) (ok := fun _ => True) (okp := fun _ => True) ?hr ?hp (fun _ hk => hk) trivial (gr HB.out) (bZ_ (gr HB.out)) (by simp) ?_; (case hd => rfl); (case hg => rfl); (case hr => first | (go_simp; done) | (go_simp; rfl)); (case hp => exact (Reps.one (show (Kd.slice 3 (Kd.int .i64)).M _ _ _ t193 [.slice Ao11 t193.length co11] from Kd.M_row (Kd.R_mono HO195.out (fun _ _ => trivial))) (Reps.none _ _))); intro v197 w10 ho hb hg_ hnew_; clear hg_ hnew_; have HO198 := a_ (show Kd.S (Kd.slice 3 (Kd.int .i64)) 22 w10 w.heap.size (fun _ => True) v197 y196 by rw [Ny196.out]; exact S_one ho); replace HB := a_ (hb); clear HO195; clear ho hb))
 (try simp only [Act.put, List.setIfInBounds_toArray, List.set_cons_zero, List.set_cons_succ])
 go_cut [9] (fun v9 wc => ∃ (kq : Nat) (x9_7 : List (List Int)), Aside0 (rl_standard.j0 kq (wrap64 (1 + t192)) x9_7 = some r) ∧ Aside0 (kq ≤ k) ∧ Aside0 (Kd.S (Kd.slice 3 (Kd.int .i64)) 22 wc w.heap.size (fun _ => True) v9 x9_7) ∧ Aside0 (Below w.heap.size w wc))
 case first =>
  have H := HC8.out
  clear HC8
  by_cases c12 : a0 = 2
  rotate_left
  ·rw [if_neg c12] at H
   have c12b0 : (a0 == 2) = false := beq_eq_false_iff_ne.mpr c12
   have c12b1 : (a0 != 2) = true := bne_iff_ne.mpr c12
   (first | rw [c12b0] | (simp only [i64_w, i32_w]; rw [c12b0]) | skip)
   have H' := a_ H
   clear H
   go_wp2
   go_meet
   case rel => exact ⟨_, (y196), H', ⟨by first | omega | exact Nat.le_refl _⟩, ⟨by (with_reducible repeat (first | apply Kd.S_alloc | apply Kd.S_drewN | apply Kd.S_drew)); exact HO198.out⟩, ⟨by exact gs HB.out⟩⟩
  rw [if_pos c12] at H
  have c12b0 : (a0 == 2) = true := beq_iff_eq.mpr c12
  have c12b1 : (a0 != 2) = false := bne_eq_false_iff_eq.mpr c12
  clear c12
  (first | rw [c12b0] | (simp only [i64_w, i32_w]; rw [c12b0]) | skip)
  replace H := Option.bind_eq_some_iff.mp H
  obtain ⟨t199, A130, H⟩ := H
  try dsimp only at H
  have A13 := a_ A130
  clear A130
  by_cases c14 : y196.length < 5864062014805
  rotate_left
  ·rw [if_neg c14] at H
   exact absurd H (by simp)
  rw [if_pos c14] at H
  have LMc14 := a_ c14
  clear c14
  obtain ⟨y202, hy202⟩ : ∃ y_ : List (List Int), y_ = (y196 ++ [t199]) := ⟨_, rfl⟩
  replace H : (rl_standard.j0 k (wrap64 (1 + t192)) y202) = some r := by first | (rw [hy202]; with_reducible exact H) | (have H2_ := (Option.bind_some _ _).symm.trans H; rw [hy202]; with_reducible exact H2_) | (have H2_ := (Option.bind_some _ _).symm.trans H; with_reducible exact H2_) | with_reducible exact H | (rw [hy202]; exact H) | exact H
  have Ny202 := a_ hy202
  clear hy202
  have H' := a_ H
  clear H
  go_wp2_with (first | ((with_reducible refine gate_callee (f := 50) rfl ?_); refine goesL_ (some 23) rfl rfl Try.func50 (by kernel_rfl) rfl #[.slice A3 l3.length c3, .int .i64 (wrap64 (1 + t192))] rfl (by (try simp only [List.map_toArray, List.map_cons, List.map_nil]); first | done | rfl | (simp only [List.length_drop, List.length_take]; rfl)) ?_; (with_reducible refine (rl_column.calls k _ _ l3 (wrap64 (1 + t192)) t199 _ ?side1 ?side2 A13.out).mono ?_); (case side1 => repeat (first | exact (Kd.C_below HR3.out HB.out) | (with_reducible refine Kd.C_alloc ?_ _) | (with_reducible refine Kd.C_drewN ?_ _) | (with_reducible refine Kd.C_drew ?_))); (case side2 => exact HC3.out); rintro e w15 ⟨v200, rfl, ho0, hb⟩; refine ⟨_, rfl, ?_⟩; have HO201 := a_ (Kd.R_lower ho0 (bZ_ (gr HB.out))); replace HO198 := a_ (Kd.S_elder' (by (with_reducible repeat (first | apply Kd.S_alloc | apply Kd.S_drewN | apply Kd.S_drew)); exact HO198.out) (Kd.R_base ho0) hb); replace HB := a_ (bT_ HB.out (tr hb)); obtain ⟨Ao17, co17, eo17⟩ := Kd.R_slice HO201.out; subst eo17) | ((with_reducible refine gate_builtin (b := .append) (xs := #[.tmp 20, .tmp 24]) rfl ?_); at_builtin; refine Kd.S_append (Kd.slice 3 (Kd.int .i64)) (w0 := w) w.heap.size rfl (.tmp 20) (.tmp 24) 23 22 (.slice none 0 0) 24 rfl Try.underlying23 info22 rfl (by decide) (by omega) v197 y196 t199 [.slice Ao17 t199.length co17] (fun _ => True) (fun k_ => some k_ = (.slice Ao17 t199.length co17 : Value).ownBlock) rfl rfl ?aP (fun k_ hk_ => ((Kd.R_mono (ok' := fun k_ => ((fun _ => True)) k_ ∧ some k_ ≠ (v197 : Value).ownBlock) (Kd.R_apart' (HO201.out) (Kd.S_typed HO198.out) (by decide)) (fun k_ hk => ⟨trivial, hk.2⟩))).1 k_ hk_.symm) ?aF ?aO ?aB ?aS ?aL ?_; (case aP => exact Kd.M_row (Kd.R_mono (Kd.R_tight rfl (Kd.R_mono (ok' := fun k_ => ((fun _ => True)) k_ ∧ some k_ ≠ (v197 : Value).ownBlock) (Kd.R_apart' (HO201.out) (Kd.S_typed HO198.out) (by decide)) (fun k_ hk => ⟨trivial, hk.2⟩))) (fun _ h_ => h_))); (case aB => exact (gr HB.out)); (case aF => exact (fun _ _ => trivial)); (case aO => exact (by (with_reducible repeat (first | apply Kd.S_alloc | apply Kd.S_drewN | apply Kd.S_drew)); exact Kd.S_mono HO198.out (fun k_ hk => ⟨trivial, fun e_ => hk.2 e_⟩))); (case aS => exact (bZ_ (gr HB.out))); (case aL => have := LMc14.out; omega); intro v203 w16 ho hb hg hat; rw [← Ny202.out] at ho; have HO204 := a_ (ho); replace HB := a_ (hb); clear HO198 HO201; clear ho hb hg hat))
  go_meet
  case rel => exact ⟨_, (y202), H', ⟨by first | omega | exact Nat.le_refl _⟩, ⟨by (with_reducible repeat (first | apply Kd.S_alloc | apply Kd.S_drewN | apply Kd.S_drew)); exact HO204.out⟩, ⟨by exact gs HB.out⟩⟩
 case rest =>
  clear HC8
  obtain ⟨kq, x9_7, HA, HJ7, HO_9, HB⟩ := hcut
  cases kq with
  | zero => exact absurd HA.out (by simp [rl_standard.j0])
  | succ kj7 =>
   have H := HA.out
   clear HA
   simp only [rl_standard.j0] at H
   replace H := Option.bind_eq_some_iff.mp H
   obtain ⟨t205, A180, H⟩ := H
   try dsimp only at H
   have A18 := a_ A180
   clear A180
   by_cases c19 : t205 = true
   ·subst c19
    have H1 := H; rw [if_pos rfl] at H1
    clear H
    have H := H1
    clear H1
    replace H := Option.bind_eq_some_iff.mp H
    obtain ⟨t206, A200, H⟩ := H
    try dsimp only at H
    have A20 := a_ A200
    clear A200
    obtain rfl := Option.some.inj H
    obtain ⟨Ao21, co21, eo21⟩ := Kd.S_slice HO_9.out
    subst eo21
    go_wp2_with (first | ((with_reducible refine gate_callee (f := 30) rfl ?_); refine goesL_ (some 27) rfl rfl Try.func30 (by kernel_rfl) rfl #[.slice Ao21 x9_7.length co21] rfl (by (try simp only [List.map_toArray, List.map_cons, List.map_nil]); first | done | rfl | (simp only [List.length_drop, List.length_take]; rfl)) ?_; (with_reducible refine (rr_Connected.calls kj7 _ _ x9_7 true _ ?side1 ?side2 A18.out).mono ?_); (case side1 => repeat (first | exact (Kd.S_reads' HO_9.out).2.2 | (with_reducible refine Kd.C_alloc ?_ _) | (with_reducible refine Kd.C_drewN ?_ _) | (with_reducible refine Kd.C_drew ?_))); (case side2 => exact (Kd.S_reads' HO_9.out).2.1); rintro e w22 ⟨rfl, hb⟩; refine ⟨_, rfl, ?_⟩; replace HO_9 := a_ (Kd.S_below (by (with_reducible repeat (first | apply Kd.S_alloc | apply Kd.S_drewN | apply Kd.S_drew)); exact HO_9.out) hb); replace HB := a_ (bT_ HB.out (tr hb)); (try clear hi)) | ((with_reducible refine gate_callee (f := 32) rfl ?_); refine goesL_ (some 44) rfl rfl Try.func32 (by kernel_rfl) rfl #[.slice Ao21 x9_7.length co21, .int .i64 0] rfl (by (try simp only [List.map_toArray, List.map_cons, List.map_nil]); first | done | rfl | (simp only [List.length_drop, List.length_take]; rfl)) ?_; (with_reducible refine (rr_Renumber.calls kj7 _ _ x9_7 0 t206 _ ?side1 ?side2 A20.out).mono ?_); (case side1 => repeat (first | exact (Kd.S_reads' HO_9.out).2.2 | (with_reducible refine Kd.C_alloc ?_ _) | (with_reducible refine Kd.C_drewN ?_ _) | (with_reducible refine Kd.C_drew ?_))); (case side2 => exact (Kd.S_reads' HO_9.out).2.1); rintro e w23 ⟨v207, rfl, ho0, hb⟩; refine ⟨_, rfl, ?_⟩; have HO208 := a_ (Kd.S_lower (Kd.S_new' ho0 (Kd.S_lt (by (with_reducible repeat (first | apply Kd.S_alloc | apply Kd.S_drewN | apply Kd.S_drew)); exact HO_9.out))) (bZ_ (gr HB.out))); replace HO_9 := a_ (Kd.S_elder' (by (with_reducible repeat (first | apply Kd.S_alloc | apply Kd.S_drewN | apply Kd.S_drew)); exact HO_9.out) (Kd.S_base ho0) hb); replace HB := a_ (bT_ HB.out (tr hb)); (try clear ho0)))
    go_ret
    exact ⟨_, by first | rfl | (simp [errW_none, errW_some] <;> rfl) | (simp [*, errW_none, errW_some] <;> rfl), by (with_reducible repeat (first | apply Kd.S_alloc | apply Kd.S_drewN | apply Kd.S_drew)); exact Kd.S_mono HO208.out (fun _ hk => trivial), by exact gs HB.out⟩
   replace c19 := Bool.eq_false_iff.mpr c19
   subst c19
   have H1 := H; rw [if_neg (show ¬ (false = true) by decide)] at H1
   clear H
   have H := H1
   clear H1
   have H' := a_ H
   clear H
   obtain ⟨Ao24, co24, eo24⟩ := Kd.S_slice HO_9.out
   subst eo24
   go_wp2_with (first | ((with_reducible refine gate_callee (f := 30) rfl ?_); refine goesL_ (some 27) rfl rfl Try.func30 (by kernel_rfl) rfl #[.slice Ao24 x9_7.length co24] rfl (by (try simp only [List.map_toArray, List.map_cons, List.map_nil]); first | done | rfl | (simp only [List.length_drop, List.length_take]; rfl)) ?_; (with_reducible refine (rr_Connected.calls kj7 _ _ x9_7 false _ ?side1 ?side2 A18.out).mono ?_); (case side1 => repeat (first | exact (Kd.S_reads' HO_9.out).2.2 | (with_reducible refine Kd.C_alloc ?_ _) | (with_reducible refine Kd.C_drewN ?_ _) | (with_reducible refine Kd.C_drew ?_))); (case side2 => exact (Kd.S_reads' HO_9.out).2.1); rintro e w25 ⟨rfl, hb⟩; refine ⟨_, rfl, ?_⟩; replace HO_9 := a_ (Kd.S_below (by (with_reducible repeat (first | apply Kd.S_alloc | apply Kd.S_drewN | apply Kd.S_drew)); exact HO_9.out) hb); replace HB := a_ (bT_ HB.out (tr hb)); (try clear hi)))
   go_loopg [10] kj7 (fun kq v10 w' => ∃ (x9_2 : List (List Int)) (x10_2 : Int), v10 = .int .i64 x10_2 ∧ Aside0 (rl_standard.l0 kq (wrap64 (1 + t192)) x9_2 x10_2 = some r) ∧ Aside0 (kq ≤ kj7) ∧ Aside0 (Kd.S (Kd.slice 3 (Kd.int .i64)) 22 w' w.heap.size (fun _ => True) (.slice Ao24 x9_7.length co24) x9_2) ∧ Aside0 (Below w.heap.size w w'))
   case atStart => exact ⟨(x9_7), (0), (by first | rfl | (simp; done) | (simp [*]; done)), H', ⟨Nat.le_refl _⟩, ⟨by (with_reducible repeat (first | apply Kd.S_alloc | apply Kd.S_drewN | apply Kd.S_drew)); exact HO_9.out⟩, ⟨by exact gs HB.out⟩⟩
   clear H'
   obtain ⟨x9_2, x10_2, rfl, HA, HK2, HO_9, HB⟩ := hrel
   have hl9_2 := (Kd.S_reads' HO_9.out).1
   rw [hl9_2] at HO_9
   (try simp only [hl9_2])
   cases gk with
   | zero => exact absurd HA.out (by simp [rl_standard.l0])
   | succ k2 =>
    have H := HA.out
    clear HA
    simp only [rl_standard.l0] at H
    by_cases c26 : x10_2 < (wrap64 (1 + t192))
    rotate_left
    ·rw [if_neg c26] at H
     have c26b0 : decide (x10_2 < (wrap64 (1 + t192))) = false := decide_eq_false c26
     clear c26
     replace H := Option.bind_eq_some_iff.mp H
     obtain ⟨t213, A350, H⟩ := H
     try dsimp only at H
     have A35 := a_ A350
     clear A350
     obtain rfl := Option.some.inj H
     go_wp2_with (first | ((with_reducible refine gate_callee (f := 32) rfl ?_); refine goesL_ (some 44) rfl rfl Try.func32 (by kernel_rfl) rfl #[.slice Ao24 x9_2.length co24, .int .i64 0] rfl (by (try simp only [List.map_toArray, List.map_cons, List.map_nil]); first | done | rfl | (simp only [List.length_drop, List.length_take]; rfl)) ?_; (with_reducible refine (rr_Renumber.calls k2 _ _ x9_2 0 t213 _ ?side1 ?side2 A35.out).mono ?_); (case side1 => repeat (first | exact (Kd.S_reads' HO_9.out).2.2 | (with_reducible refine Kd.C_alloc ?_ _) | (with_reducible refine Kd.C_drewN ?_ _) | (with_reducible refine Kd.C_drew ?_))); (case side2 => exact (Kd.S_reads' HO_9.out).2.1); rintro e w36 ⟨v214, rfl, ho0, hb⟩; refine ⟨_, rfl, ?_⟩; have HO215 := a_ (Kd.S_lower (Kd.S_new' ho0 (Kd.S_lt (by (with_reducible repeat (first | apply Kd.S_alloc | apply Kd.S_drewN | apply Kd.S_drew)); exact HO_9.out))) (bZ_ (gr HB.out))); replace HO_9 := a_ (Kd.S_elder' (by (with_reducible repeat (first | apply Kd.S_alloc | apply Kd.S_drewN | apply Kd.S_drew)); exact HO_9.out) (Kd.S_base ho0) hb); replace HB := a_ (bT_ HB.out (tr hb)); (try clear ho0)))
     go_ret
     exact ⟨_, by first | rfl | (simp [errW_none, errW_some] <;> rfl) | (simp [*, errW_none, errW_some] <;> rfl), by (with_reducible repeat (first | apply Kd.S_alloc | apply Kd.S_drewN | apply Kd.S_drew)); exact Kd.S_mono HO215.out (fun _ hk => trivial), by exact gs HB.out⟩
    rw [if_pos c26] at H
    have c26b0 : decide (x10_2 < (wrap64 (1 + t192))) = true := decide_eq_true c26
    clear c26
    by_cases c27 : 0 < (x9_2.length : Int)
    rotate_left
    ·rw [if_neg c27] at H
     exact absurd H (by simp)
    rw [if_pos c27] at H
    have c27b0 : decide (0 < (x9_2.length : Int)) = true := decide_eq_true c27
    have c27b1 : decide (0 < x9_2.length) = true := decide_eq_true (by omega)
    clear c27
    by_cases c28 : (wrap64 (1 + t192)) = 0
    ·rw [if_pos c28] at H
     exact absurd H (by simp)
    rw [if_neg c28] at H
    have c28b0 : ((wrap64 (1 + t192)) == 0) = false := beq_eq_false_iff_ne.mpr c28
    have c28b1 : ((wrap64 (1 + t192)) != 0) = true := bne_iff_ne.mpr c28
    by_cases c29 : 0 ≤ x10_2
    rotate_left
    ·rw [if_neg c29] at H
     exact absurd H (by simp)
    rw [if_pos c29] at H
    have c29b0 : decide (0 ≤ x10_2) = true := decide_eq_true c29
    clear c29
    by_cases c30 : x10_2 < ((rd_L1 x9_2 0).length : Int)
    rotate_left
    ·rw [if_neg c30] at H
     exact absurd H (by simp)
    rw [if_pos c30] at H
    have c30b0 : decide (x10_2 < ((rd_L1 x9_2 0).length : Int)) = true := decide_eq_true c30
    clear c30
    obtain ⟨y210, hy210⟩ : ∃ y_ : List Int, y_ = ((rd_L1 x9_2 0).set (x10_2 : Int).toNat (Int.tmod (wrap64 (x10_2 + 1)) (wrap64 (1 + t192)))) := ⟨_, rfl⟩
    replace H : (rl_standard.l0 k2 (wrap64 (1 + t192)) (x9_2.set (0 : Int).toNat y210) (wrap64 (x10_2 + 1))) = some r := by first | (rw [hy210]; with_reducible exact H) | (have H2_ := (Option.bind_some _ _).symm.trans H; rw [hy210]; with_reducible exact H2_) | (have H2_ := (Option.bind_some _ _).symm.trans H; with_reducible exact H2_) | with_reducible exact H | (rw [hy210]; exact H) | exact H
    have Ny210 := a_ hy210
    clear hy210
    obtain ⟨y212, hy212⟩ : ∃ y_ : List (List Int), y_ = (x9_2.set (0 : Int).toNat y210) := ⟨_, rfl⟩
    replace H : (rl_standard.l0 k2 (wrap64 (1 + t192)) y212 (wrap64 (x10_2 + 1))) = some r := by first | (rw [hy212]; with_reducible exact H) | (have H2_ := (Option.bind_some _ _).symm.trans H; rw [hy212]; with_reducible exact H2_) | (have H2_ := (Option.bind_some _ _).symm.trans H; with_reducible exact H2_) | with_reducible exact H | (rw [hy212]; exact H) | exact H
    have Ny212 := a_ hy212
    clear hy212
    have H' := a_ H
    clear H
    try go_wp2
    replace HO_9 := a_ (Kd.S_drew HO_9.out)
    replace HB := a_ (b1_ HB.out)
    have p209 : 0 ≤ (0 : Int) := (by omega)
    have q209 : 0 < (x9_2.length : Int) := of_decide_eq_true (by first | (with_reducible assumption) | assumption)
    obtain ⟨ad209, A209_0, c209_0, e209, hx209_0, hl209_0, hi209_0⟩ := at_L1 (Kd.S_reads' HO_9.out).2.2 0 p209 q209
    cases e209
    obtain ⟨ce209, hce209, hMe209, hcc209⟩ := Kd.S_get HO_9.out [] 0 p209 (by first | exact q209 | exact of_decide_eq_true (by first | (with_reducible assumption) | assumption) | (have e_ := (Kd.S_reads' HO_9.out).1; omega))
    obtain ⟨ve209_0, rfl, ge209_0⟩ := hMe209
    have hv209_0 := hcc209 0 _ rfl
    rw [Nat.add_zero, show ((Kd.slice 3 (Kd.int .i64))).sz = 1 from rfl, Nat.mul_one] at hv209_0
    replace hv209_0 := Option.some.inj (hv209_0.symm.trans hx209_0)
    rw [hv209_0] at ge209_0
    have HL209_0 := a_ (show Kd.R (Kd.int .i64) 3 _ _ _ _ (rd_L1 x9_2 0) from ge209_0)
    clear hv209_0 ge209_0
    have HX209_0 := a_ hx209_0
    clear hcc209 hce209
    have qi209 : (0 < x9_2.length) = True := eq_true (by omega)
    (try rw [show ((0 : Int)).toNat = 0 from rfl] at hx209_0)
    (try rw [Addr.add_zero'] at hx209_0)
    have HR209_0 := a_ hi209_0
    have HC209_0 := a_ hl209_0
    clear hi209_0 hl209_0
    replace p209 := eq_true p209
    replace q209 := eq_true q209
    have p31 : 0 ≤ (x10_2 : Int) := of_decide_eq_true (by first | (with_reducible assumption) | assumption)
    have q31 : (x10_2 : Int) < (((rd_L1 x9_2 0).length : Int) : Int) := of_decide_eq_true (by first | (with_reducible assumption) | assumption)
    obtain ⟨go31, co31, eo31, gb31, gl31, cl31, HG31⟩ := Kd.R_form HL209_0.out (by omega)
    (first | cases eo31 | (injection eo31 with ea_ en_ ec_; (first | subst ea_ | (injection ea_ with ea_; subst ea_)); subst ec_; clear en_))
    have GB31 := a_ gb31
    have GG31 := a_ HG31
    clear gb31 gl31 HG31
    obtain ⟨hx31_0, hf31_0⟩ := Kd.R_celln 0 HL209_0.out (x10_2 : Int) p31 q31
    replace p31 := eq_true p31
    replace q31 := eq_true q31
    have hq33 : (0 : Int) < (x9_2.length : Int) := (by have h_ : (0 : Int) < ((x9_2.length : Int) : Int) := of_decide_eq_true (by first | (with_reducible assumption) | assumption); first | exact h_ | (have e_ := (Kd.S_reads' HO_9.out).1; omega) | simpa only [List.length_set, List.length_set] using h_)
    obtain ⟨oki33, ce33, hcl33, hM33, hcc33, hok33, hbk33⟩ := Kd.S_borrow HO_9.out [] (0 : Int) (by omega) hq33
    obtain ⟨ve33_0, rfl, ge33_0⟩ := hM33
    have hv33 := hcc33 0 _ rfl
    rw [Nat.add_zero, show ((Kd.slice 3 (Kd.int .i64))).sz = 1 from rfl, Nat.mul_one] at hv33
    replace hv33 := Option.some.inj (hv33.symm.trans HX209_0.out)
    subst hv33
    clear hcc33 hcl33
    replace ge33_0 := (show Kd.R (Kd.int .i64) 3 _ _ _ _ (rd_L1 x9_2 0) from ge33_0)
    have HP33 := Kd.R_putg ge33_0 (x10_2 : Int) (Int.tmod (wrap64 (x10_2 + 1)) (wrap64 (1 + t192)))
    rw [← Ny210.out] at HP33
    have HS33 := hbk33 HP33.2 (fun k_ e_ => by injection e_ with e_; subst e_; exact ge33_0.1 _ rfl) (x' := y210) (Kd.M_row HP33.1)
    rw [← Ny212.out] at HS33
    have HQ33 := a_ HS33
    clear HP33 HS33 hbk33 hok33
    refine start_ (n := 10) (S := fun w' => w'.cell? ad209 = some (.slice (some ⟨go31, 0, none⟩) (rd_L1 x9_2 0).length c209_0)) (ds := [9]) #[false, false, false, false, false, false, false, false, false, false] (by kernel_rfl) rfl rfl (hx209_0) (fun hHeld => ?_); refine with_tabW rl_standard.tab9 rl_standard.bits9 (fun HT_ HW_ => ?_)
    generalize wr.drew = w32 at HO_9 HB GG31 HL209_0 HQ33 HR209_0 HX209_0 hf31_0 hx209_0 hx31_0 hHeld ⊢
    refine pure_ (i := 0) (N := some 34) (v := ?_) (a' := ?_) #[true, false, false, false, false, false, false, false, false, false] rfl rfl (any_of HT_.out (by kernel_rfl)) (fun _ _ _ h => h) (Or.inl ⟨by rfl, ?_⟩) ?_ ?_
    rotate_left
    ·intro w'
     go_simp
     with_reducible rfl
    rotate_left
    ·simp only [Act.put, List.setIfInBounds_toArray, List.set_cons_zero, List.set_cons_succ, i64_w, i32_w]
     rfl
    refine pure_ (i := 1) (N := some 35) (v := ?_) (a' := ?_) #[true, true, false, false, false, false, false, false, false, false] rfl rfl (any_of HT_.out (by kernel_rfl)) (fun _ _ _ h => h) (Or.inl ⟨by rfl, ?_⟩) ?_ ?_
    rotate_left
    ·intro w'
     go_simp
     with_reducible rfl
    rotate_left
    ·simp only [Act.put, List.setIfInBounds_toArray, List.set_cons_zero, List.set_cons_succ, i64_w, i32_w]
     rfl
    refine pure_ (i := 3) (N := some 37) (v := ?_) (a' := ?_) #[true, true, false, true, false, false, false, false, false, false] rfl rfl (any_of HT_.out (by kernel_rfl)) (fun _ _ _ h => h) (Or.inl ⟨by rfl, ?_⟩) ?_ ?_
    rotate_left
    ·intro w'
     go_simp
     with_reducible rfl
    rotate_left
    ·simp only [Act.put, List.setIfInBounds_toArray, List.set_cons_zero, List.set_cons_succ, i64_w, i32_w]
     rfl
    refine pure_ (i := 4) (N := some 38) (v := ?_) (a' := ?_) #[true, true, false, true, true, false, false, false, false, false] rfl rfl (any_of HT_.out (by kernel_rfl)) (fun _ _ _ h => h) (Or.inl ⟨by rfl, ?_⟩) ?_ ?_
    rotate_left
    ·intro w'
     go_simp
     with_reducible rfl
    rotate_left
    ·simp only [Act.put, List.setIfInBounds_toArray, List.set_cons_zero, List.set_cons_succ, i64_w, i32_w]
     rfl
    refine pure_ (i := 5) (N := some 39) (v := ?_) (a' := ?_) #[true, true, false, true, true, true, false, false, false, false] rfl rfl (any_of HT_.out (by kernel_rfl)) (fun _ _ _ h => h) (Or.inl ⟨by rfl, ?_⟩) ?_ ?_
    rotate_left
    ·intro w'
     go_simp
     with_reducible rfl
    rotate_left
    ·simp only [Act.put, List.setIfInBounds_toArray, List.set_cons_zero, List.set_cons_succ, i64_w, i32_w]
     rfl
    refine pure_ (i := 6) (N := some 40) (v := ?_) (a' := ?_) #[true, true, false, true, true, true, true, false, false, false] rfl rfl (any_of HT_.out (by kernel_rfl)) (fun _ _ _ h => h) (Or.inl ⟨by rfl, ?_⟩) ?_ ?_
    rotate_left
    ·intro w'
     go_simp
     with_reducible rfl
    rotate_left
    ·simp only [Act.put, List.setIfInBounds_toArray, List.set_cons_zero, List.set_cons_succ, i64_w, i32_w]
     rfl
    refine pure_ (i := 7) (N := some 41) (v := ?_) (a' := ?_) #[true, true, false, true, true, true, true, true, false, false] rfl rfl (any_of HT_.out (by kernel_rfl)) (fun _ _ _ h => h) (Or.inl ⟨by rfl, ?_⟩) ?_ ?_
    rotate_left
    ·intro w'
     go_simp
     with_reducible rfl
    rotate_left
    ·simp only [Act.put, List.setIfInBounds_toArray, List.set_cons_zero, List.set_cons_succ, i64_w, i32_w]
     rfl
    refine take_ (i := 2) (N := some 36) (v := ?_) (a' := ?_) #[true, true, true, true, true, true, true, true, false, false] rfl rfl (take_ofW HT_.out HW_.out (by kernel_rfl)) (fun _ _ _ h => h) (Or.inl ⟨by rfl, ?_⟩) hHeld ?_ ?_
    rotate_left
    ·intro w' s0
     go_simp
     with_reducible rfl
    rotate_left
    ·simp only [Act.put, List.setIfInBounds_toArray, List.set_cons_zero, List.set_cons_succ, i64_w, i32_w]
     rfl
    refine pure_ (i := 8) (N := some 42) (v := ?_) (a' := ?_) #[true, true, true, true, true, true, true, true, true, false] rfl rfl (any_of HT_.out (by kernel_rfl)) (fun _ _ _ h => h) (Or.inl ⟨by rfl, ?_⟩) ?_ ?_
    rotate_left
    ·intro w'
     go_simp
     with_reducible rfl
    rotate_left
    ·simp only [Act.put, List.setIfInBounds_toArray, List.set_cons_zero, List.set_cons_succ, i64_w, i32_w]
     rfl
    refine last_ (i := 9) (N := none) #[true, true, true, true, true, true, true, true, true, true] rfl rfl (one_of HT_.out (by kernel_rfl)) (by decide) (fun K hK => ?_)
    refine skip_ (w1 := ?_) (by rfl) rfl ?_ ?_
    rotate_left
    ·go_simp
     rfl
    refine hK.out _ _ ?_
    clear hK K
    refine done_ (done_of HT_.out (by kernel_rfl)) ?_
    try go_wp2
    (try simp only [← hl9_2])
    go_roundg k2
    case measure => have := HJ7.out; have := HK2.out; omega
    case rel => exact ⟨(y212), (wrap64 (x10_2 + 1)), (by first | rfl | (simp; done) | (simp [*]; done)), H', ⟨by have := HJ7.out; have := HK2.out; omega⟩, ⟨by (try simp only [hl9_2]); (with_reducible repeat (first | apply Kd.S_alloc | apply Kd.S_drewN | apply Kd.S_drew)); exact HQ33.out⟩, ⟨by repeat (first | (with_reducible first | exact HB.out | apply bA_ | apply bN_ | apply b1_ | refine bS_ ?_ GB31.out) | exact HB.out)⟩⟩
end Go.Proofs.Ytifkldehbaphgaa.PAll
end
