/- The law CasingMore returns true for every input: a further rule takes tables away, and adds none. No condition. Part 2 of 2. -/
import Derived.Lib.SpaceUEq
import Derived.WalkKit
import Derived.ProofKit
import Derived.OpenShut
import Derived.ShutString
import Derived.SliceStrings
import Derived.Deep.Matrix
import Derived.Lib.SmallJoins
import Derived.Test.YtmcihijobilcgaaRows
import Derived.ChangeOld
import Derived.Below
import Derived.SizedLaws
import Derived.Carry
import Derived.Test.YtmcihijobilcgaaCCasingMore0
set_option linter.all false
set_option maxHeartbeats 8000000
set_option maxRecDepth 100000
section
namespace Go.Proofs.Ytmcihijobilcgaa.PAll
open Go.RowKit Go.Proofs.YtmcihijobilcgaaW.PrintWords Go.Proofs.YtmcihijobilcgaaW.PrintLast Go.Proofs.YtmcihijobilcgaaW.PrintMore
def isLet (g : Nat) (b : Nat) : Bool := b == 97 || b == 65 || (g == 2 && (b == 98 || b == 66))
def allLet (g : Nat) (s : ByteArray) : Bool := s.data.toList.all fun b => isLet g b.toNat
theorem isLet_small {g b : Nat} (h : isLet g b = true) : b < 128 := by
 simp [isLet] at h; omega
theorem noLetter_eq (g : Nat) (hg : g = 1 ∨ g = 2) (x : Nat) : noLetter g x = !(isLet g x) := by
 obtain rfl | rfl := hg
 ·have d0 : Utf8.decode (sgn 1) 0 = (97, 1) := by kernel_rfl
  have d1 : Utf8.decode (sgn 1) 1 = (65, 1) := by kernel_rfl
  have e : (sgn 1).size = 2 := by kernel_rfl
  unfold noLetter hasR
  rw [e]
  simp only [hasFrom, e, d0, d1]
  by_cases h1 : x = 97
  ·subst h1; simp [isLet]
  by_cases h2 : x = 65
  ·subst h2; simp [isLet]
  ·have a1 : ¬ (97 : Int) = (x : Int) := by omega
   have a2 : ¬ (65 : Int) = (x : Int) := by omega
   simp [isLet, h1, h2, a1, a2]
 ·have d0 : Utf8.decode (sgn 2) 0 = (97, 1) := by kernel_rfl
  have d1 : Utf8.decode (sgn 2) 1 = (65, 1) := by kernel_rfl
  have d2 : Utf8.decode (sgn 2) 2 = (98, 1) := by kernel_rfl
  have d3 : Utf8.decode (sgn 2) 3 = (66, 1) := by kernel_rfl
  have e : (sgn 2).size = 4 := by kernel_rfl
  unfold noLetter hasR
  rw [e]
  simp only [hasFrom, e, d0, d1, d2, d3]
  by_cases h1 : x = 97
  ·subst h1; simp [isLet]
  by_cases h2 : x = 65
  ·subst h2; simp [isLet]
  by_cases h3 : x = 98
  ·subst h3; simp [isLet]
  by_cases h4 : x = 66
  ·subst h4; simp [isLet]
  have a1 : ¬ (97 : Int) = (x : Int) := by omega
  have a2 : ¬ (65 : Int) = (x : Int) := by omega
  have a3 : ¬ (98 : Int) = (x : Int) := by omega
  have a4 : ¬ (66 : Int) = (x : Int) := by omega
  simp [isLet, h1, h2, h3, h4, a1, a2, a3, a4]
theorem get!_toNat (s : ByteArray) (i : Nat) (h : i < s.size) : (s.get! i).toNat = (s.data.toList[i]'(by simpa using h)).toNat := by
 have e : s.data[i]? = some (s.data[i]'h) := Array.getElem?_eq_getElem h
 rw [ByteArray.get!]
 simp [getElem!_def, e]
theorem idx_word (g : Nat) (hg : g = 1 ∨ g = 2) (s : ByteArray) : ∀ (f pos : Nat), s.size ≤ pos + f →
  decide (0 ≤ Lib.idxFuncFrom (noLetter g) true s f pos) = !((s.data.toList.drop pos).all fun b => isLet g b.toNat)
 | 0, pos, h => by
  rw [List.drop_eq_nil_of_le (by simpa using h)]
  simp [Lib.idxFuncFrom]
 | f + 1, pos, h => by
  by_cases hp : pos < s.size
  rotate_left
  ·rw [List.drop_eq_nil_of_le (by simpa using hp)]
   rw [Lib.idxFuncFrom_end _ _ _ _ _ hp]
   simp
  have hp' : pos < s.data.toList.length := by simpa using hp
  rw [List.drop_eq_getElem_cons hp', List.all_cons]
  simp only [Lib.idxFuncFrom, hp, if_true]
  rw [noLetter_eq g hg]
  have hd := Lib.decode_at s pos
  rw [get!_toNat s pos hp] at hd
  rcases Lib.decodeN_cases (s.size - pos) (s.data.toList[pos]).toNat (s.get! (pos + 1)).toNat (s.get! (pos + 2)).toNat (s.get! (pos + 3)).toNat with h1 | h1 | h1 | h1 | h1
  ·rw [hd, h1.2]
   dsimp only
   cases hl : isLet g (s.data.toList[pos]).toNat
   ·simp
   ·simp only [Bool.not_true, Bool.false_eq_true, if_false, Bool.true_and]
    exact idx_word g hg s f (pos + 1) (by omega)
  all_goals
   have hb : ¬ (s.data.toList[pos]).toNat < 128 → isLet g (s.data.toList[pos]).toNat = false := fun hn => by
    cases hl : isLet g (s.data.toList[pos]).toNat
    ·rfl
    ·exact absurd (isLet_small hl) hn
  ·have hR : isLet g (Utf8.decode s pos).1 = false := by
    cases hl : isLet g (Utf8.decode s pos).1
    ·rfl
    ·have := isLet_small hl; rw [hd, h1.2.2.2.2] at this; dsimp only at this; omega
   rw [hR, hb (by omega)]
   simp
  ·have hR : isLet g (Utf8.decode s pos).1 = false := by
    cases hl : isLet g (Utf8.decode s pos).1
    ·rfl
    ·have := isLet_small hl; rw [hd, h1.2.2.2.2.2] at this; dsimp only at this; omega
   rw [hR, hb (by omega)]
   simp
  ·have hR : isLet g (Utf8.decode s pos).1 = false := by
    cases hl : isLet g (Utf8.decode s pos).1
    ·rfl
    ·have := isLet_small hl; rw [hd] at this; omega
   have hn : ¬ (s.data.toList[pos]).toNat < 128 := fun hlt => by
    have : Lib.decodeN (s.size - pos) (s.data.toList[pos]).toNat (s.get! (pos + 1)).toNat (s.get! (pos + 2)).toNat (s.get! (pos + 3)).toNat = ((s.data.toList[pos]).toNat, 1) := by
     unfold Lib.decodeN; rw [if_pos hlt]
    rw [this] at h1
    dsimp only at h1
    omega
   rw [hR, hb hn]
   simp
  ·have hR : isLet g (Utf8.decode s pos).1 = false := by
    rw [hd, h1]
    simp [isLet]
   have hn : ¬ (s.data.toList[pos]).toNat < 128 := fun hlt => by
    have : Lib.decodeN (s.size - pos) (s.data.toList[pos]).toNat (s.get! (pos + 1)).toNat (s.get! (pos + 2)).toNat (s.get! (pos + 3)).toNat = ((s.data.toList[pos]).toNat, 1) := by
     unfold Lib.decodeN; rw [if_pos hlt]
    rw [this] at h1
    have := congrArg Prod.fst h1
    dsimp only at this
    omega
   rw [hR, hb hn]
   simp
theorem wordB_eq (g : Nat) (hg : g = 1 ∨ g = 2) (s : ByteArray) : wordB g s = (decide (s.size ≤ 30) && allLet g s) := by
 unfold wordB Lib.idxFunc
 rw [idx_word g hg s s.size 0 (by omega)]
 simp [allLet]
theorem bt_data (s : ByteArray) (i : Nat) (h : i < s.size) : bt s (i : Int) = ((s.data.toList[i]'(by simpa using h)).toNat : Int) := by
 simp [bt, h]
 rfl
def invI (c : Int) : Int := Go.bits .xor .u8 c 32
def pushW (out : List Int) (c : Int) : List Int := if 0 < out.length ∧ rd out ((out.length : Int) - 1) = invI c then out.take (out.length - 1) else out ++ [c]
def redW (out : List Int) (l : List Int) : List Int := l.foldl pushW out
theorem pushW_len (out : List Int) (c : Int) : (pushW out c).length ≤ out.length + 1 := by
 unfold pushW; split
 ·simp; omega
 ·simp
theorem rd_strBytes (s : ByteArray) (i : Nat) (h : i < s.size) : (strBytes s)[i]'(by rw [strBytes_length]; exact h) = bt s (i : Int) := by
 rw [bt_data s i h]
 simp [strBytes]
theorem joined_l1 (x5 : ByteArray) (hs : x5.size ≤ 1000000) (x8 : List ByteArray) (x9 x10 : Int) : ∀ (m k i : Nat) (x3 : List Int), i + m = x5.size → x3.length + m ≤ 100000000 →
  casing_joined.l1 (k + m + 1) x3 x5 x8 x9 x10 (x5.size : Int) (i : Int) = casing_joined.l0 k (redW x3 ((strBytes x5).drop i)) x8 x9 (wrap64 (x10 + 1))
 | 0, k, i, x3, h, hl => by
  simp only [casing_joined.l1]
  rw [if_neg (by omega), List.drop_eq_nil_of_le (by rw [strBytes_length]; omega)]
  rfl
 | m + 1, k, i, x3, h, hl => by
  have hi : i < x5.size := by omega
  rw [show k + (m + 1) + 1 = (k + m + 1) + 1 from by omega]
  simp only [casing_joined.l1]
  rw [if_pos (by omega)]
  have hw : wrap64 ((i : Int) + 1) = ((i + 1 : Nat) : Int) := by rw [wrap64_small _ (by omega) (by omega)]; omega
  have hd : (strBytes x5).drop i = bt x5 i :: (strBytes x5).drop (i + 1) := by
   rw [List.drop_eq_getElem_cons (by rw [strBytes_length]; exact hi), rd_strBytes x5 i hi]
  have hstep : ∀ y, redW y ((strBytes x5).drop i) = redW (pushW y (bt x5 i)) ((strBytes x5).drop (i + 1)) := fun y => by rw [hd]; rfl
  rw [hstep, hw]
  by_cases h0 : 0 < x3.length
  rotate_left
  ·rw [if_neg (by omega), if_pos (by omega), if_pos (by omega), if_pos (by omega)]
   have hp : pushW x3 (bt x5 i) = x3 ++ [bt x5 i] := by unfold pushW; rw [if_neg (fun h => h0 h.1)]
   rw [hp]
   exact joined_l1 x5 hs x8 x9 x10 m k (i + 1) _ (by omega) (by simp; omega)
  have hw1 : wrap64 ((x3.length : Int) - 1) = (x3.length : Int) - 1 := wrap64_small _ (by omega) (by omega)
  rw [if_pos (show (x3.length : Int) > 0 by omega), hw1, if_pos (by omega), if_pos (by omega), if_pos (by omega), if_pos (by omega)]
  show (some (invI (bt x5 i))).bind _ = _
  simp only [Option.bind_some]
  by_cases he : rd x3 ((x3.length : Int) - 1) = invI (bt x5 i)
  rotate_left
  ·rw [if_neg he, if_pos (by omega)]
   have hp : pushW x3 (bt x5 i) = x3 ++ [bt x5 i] := by unfold pushW; rw [if_neg (fun h => he h.2)]
   rw [hp]
   exact joined_l1 x5 hs x8 x9 x10 m k (i + 1) _ (by omega) (by simp; omega)
  rw [if_pos he, if_pos (by omega)]
  have hp : pushW x3 (bt x5 i) = x3.take (x3.length - 1) := by unfold pushW; rw [if_pos ⟨h0, he⟩]
  rw [hp, show ((x3.length : Int) - 1).toNat = x3.length - 1 from by omega]
  exact joined_l1 x5 hs x8 x9 x10 m k (i + 1) _ (by omega) (by simp; omega)
theorem redW_len : ∀ (l out : List Int), (redW out l).length ≤ out.length + l.length
 | [], out => by simp [redW]
 | c :: l, out => by
  have h1 := redW_len l (pushW out c)
  have h2 := pushW_len out c
  show (redW (pushW out c) l).length ≤ _
  simp
  omega
def joinFuel : List ByteArray → Nat
 | [] => 1
 | s :: l => s.size + 2 + joinFuel l
def joinLen : List ByteArray → Nat
 | [] => 0
 | s :: l => s.size + joinLen l
theorem joined_l0 (ws : List ByteArray) (hn : ws.length ≤ 1000000) : ∀ (m i k : Nat) (x3 : List Int), i + m = ws.length → x3.length + joinLen (ws.drop i) ≤ 1000000 →
  casing_joined.l0 (k + joinFuel (ws.drop i)) x3 ws (ws.length : Int) (i : Int) = some (strOfNums (redW x3 ((ws.drop i).map strBytes).flatten))
 | 0, i, k, x3, h, hl => by
  rw [List.drop_eq_nil_of_le (by omega)]
  simp only [joinFuel, casing_joined.l0]
  rw [if_neg (by omega)]
  rfl
 | m + 1, i, k, x3, h, hl => by
  have hi : i < ws.length := by omega
  rw [List.drop_eq_getElem_cons hi] at hl ⊢
  simp only [joinLen] at hl
  have hr : rdOf ByteArray.empty ws (i : Int) = ws[i] := by simp [rdOf, hi]
  rw [show k + joinFuel (ws[i] :: ws.drop (i + 1)) = (k + joinFuel (ws.drop (i + 1)) + ws[i].size + 1) + 1 from by simp [joinFuel]; omega]
  simp only [casing_joined.l0]
  rw [if_pos (by omega), if_pos (by omega), if_pos (by omega), hr]
  have h1 := joined_l1 ws[i] (by omega) ws (ws.length : Int) (i : Int) ws[i].size (k + joinFuel (ws.drop (i + 1))) 0 x3 (by omega) (by omega)
  simp only [Int.natCast_zero, List.drop_zero] at h1
  rw [h1, wrap64_small _ (by omega) (by omega), show ((i : Int) + 1) = ((i + 1 : Nat) : Int) from by omega]
  have hlen := redW_len (strBytes ws[i]) x3
  rw [strBytes_length] at hlen
  rw [joined_l0 ws hn m (i + 1) k _ (by omega) (by omega)]
  simp only [List.map_cons, List.flatten_cons, redW, List.foldl_append]
theorem joined_f (ws : List ByteArray) (hn : ws.length ≤ 1000000) (hl : joinLen ws ≤ 1000000) (k : Nat) (hk : joinFuel ws ≤ k) :
  casing_joined.f k ws = some (strOfNums (redW [] (ws.map strBytes).flatten)) := by
 obtain ⟨q, rfl⟩ : ∃ q, k = q + joinFuel ws := ⟨k - joinFuel ws, by omega⟩
 have := joined_l0 ws hn ws.length 0 q [] (by omega) (by simpa using hl)
 simpa [casing_joined.f] using this
def letC (c : Int) : Prop := c = 97 ∨ c = 65 ∨ c = 98 ∨ c = 66
theorem wrapN (n : Int) (h0 : 0 ≤ n) (h : n ≤ 1000000000) : wrap64 n = n := wrap64_small n (by omega) (by omega)
structure Perm (d : Nat) (c : List Int) : Prop where
 len : c.length = d
 lo : ∀ x ∈ c, 0 ≤ x
 hi : ∀ x ∈ c, x < d
 nodup : c.Nodup
theorem nodup_len : ∀ (n : Nat) (l : List Int), l.Nodup → (∀ x ∈ l, 0 ≤ x ∧ x < n) → l.length ≤ n
 | 0, l, _, h => by
  cases l with
  | nil => simp
  | cons x l => have := h x (by simp); omega
 | n + 1, l, hn, h => by
  by_cases hm : (n : Int) ∈ l
  rotate_left
  ·have := nodup_len n l hn (fun x hx => by
    have := h x hx
    have : x ≠ (n : Int) := fun e => hm (e ▸ hx)
    omega)
   omega
  have h1 := nodup_len n (l.erase (n : Int)) (hn.erase _) (fun x hx => by
   have hx' := (List.Nodup.mem_erase_iff hn).1 hx
   have := h x hx'.2
   have := hx'.1
   omega)
  rw [List.length_erase_of_mem hm] at h1
  omega
theorem nodup_all : ∀ (n : Nat) (l : List Int), l.Nodup → (∀ x ∈ l, 0 ≤ x ∧ x < n) → l.length = n → ∀ i : Int, 0 ≤ i → i < n → i ∈ l
 | 0, l, _, h, hl => fun i h0 h1 => by omega
 | n + 1, l, hn, h, hl => fun i h0 h1 => by
  have hm : (n : Int) ∈ l := by
   apply Classical.byContradiction
   intro hm
   have := nodup_len n l hn (fun x hx => by
    have := h x hx
    have : x ≠ (n : Int) := fun e => hm (e ▸ hx)
    omega)
   omega
  by_cases e : i = (n : Int)
  ·rw [e]; exact hm
  have := nodup_all n (l.erase (n : Int)) (hn.erase _) (fun x hx => by
   have hx' := (List.Nodup.mem_erase_iff hn).1 hx
   have := h x hx'.2
   have := hx'.1
   omega) (by rw [List.length_erase_of_mem hm]; omega) i h0 (by omega)
  exact List.mem_of_mem_erase this
theorem Perm.mem {d : Nat} {c : List Int} (h : Perm d c) (i : Int) (h0 : 0 ≤ i) (h1 : i < d) : i ∈ c := nodup_all d c h.nodup (fun x hx => ⟨h.lo x hx, h.hi x hx⟩) h.len i h0 h1
theorem Perm.get {d : Nat} {c : List Int} (h : Perm d c) (i : Int) (h0 : 0 ≤ i) (h1 : i < d) : 0 ≤ rd c i ∧ rd c i < d := by
 have hl := h.len
 have hr : rd c i = c[i.toNat]'(by omega) := by simp [rd, show i.toNat < c.length by omega]
 rw [hr]
 exact ⟨h.lo _ (List.getElem_mem _), h.hi _ (List.getElem_mem _)⟩
theorem okC_perm {d : Nat} {c : List Int} (hl : c.length = d) : okC d c d ↔ Perm d c := by
 constructor
 ·intro h
  have hm : ∀ x ∈ c, 0 ≤ x ∧ x < d := fun x hx => by
   obtain ⟨m, hm, rfl⟩ := List.getElem_of_mem hx
   have := h m (by omega)
   rw [show c.getD m 0 = c[m] from by simp [List.getD, hm]] at this
   omega
  refine ⟨hl, fun x hx => (hm x hx).1, fun x hx => (hm x hx).2, ?_⟩
  rw [List.nodup_iff_pairwise_ne, List.pairwise_iff_getElem]
  intro i j hi hj hij
  have := (h j (by omega)).2.2
  rw [show c.getD j 0 = c[j] from by simp [List.getD, hj]] at this
  intro e
  apply this
  rw [← e]
  exact List.mem_take_iff_getElem.2 ⟨i, by omega, rfl⟩
 ·intro h m hm
  have hml : m < c.length := by omega
  rw [show c.getD m 0 = c[m] from by simp [List.getD, hml]]
  refine ⟨h.lo _ (List.getElem_mem _), by have := h.hi _ (List.getElem_mem hml); omega, fun hx => ?_⟩
  obtain ⟨i, hi, e⟩ := List.mem_take_iff_getElem.1 hx
  have hn := h.nodup
  rw [List.nodup_iff_pairwise_ne, List.pairwise_iff_getElem] at hn
  exact hn i m (by omega) hml (by omega) e
def nT (T : List (List Int)) : Nat := (rd_L5 T 0).length
structure Tab (T : List (List Int)) : Prop where
 g1 : 1 ≤ T.length
 g2 : T.length ≤ 2
 d1 : 1 ≤ nT T
 d5 : nT T ≤ 5
 col : ∀ k, k < T.length → Perm (nT T) (rd_L5 T (k : Int))
theorem okT_tab (T : List (List Int)) : okT T ↔ Tab T := by
 constructor
 ·rintro ⟨⟨h1, h2⟩, ⟨h3, h4⟩, h5⟩
  exact ⟨h1, h2, h3, h4, fun k hk => (okC_perm (h5 k hk).1).1 (h5 k hk).2⟩
 ·rintro ⟨h1, h2, h3, h4, h5⟩
  exact ⟨⟨h1, h2⟩, ⟨h3, h4⟩, fun k hk => ⟨(h5 k hk).len, (okC_perm (h5 k hk).len).2 (h5 k hk)⟩⟩
def stepT (T : List (List Int)) (i c : Int) : Int :=
 if c = 97 then rd (rd_L5 T 0) i else if c = 98 then rd (rd_L5 T 1) i else if c = 65 then idxL i (rd_L5 T 0) 0 else idxL i (rd_L5 T 1) 0
def letG (g : Nat) (c : Int) : Prop := c = 97 ∨ c = 65 ∨ (g = 2 ∧ (c = 98 ∨ c = 66))
theorem letG_of {g b : Nat} (h : isLet g b = true) : letG g (b : Int) := by
 simp [isLet] at h
 unfold letG
 omega
theorem letG_bytes {g : Nat} {s : ByteArray} (h : allLet g s = true) : ∀ c ∈ strBytes s, letG g c := by
 intro c hc
 obtain ⟨b, hb, rfl⟩ := List.mem_map.1 hc
 exact letG_of (List.all_eq_true.1 h b hb)
theorem letG.letC {g : Nat} {c : Int} (h : letG g c) : letC c := by unfold letG at h; unfold PAll.letC; omega
theorem idxL_range {x : Int} {l : List Int} (h : x ∈ l) : 0 ≤ idxL x l 0 ∧ idxL x l 0 < l.length := by
 rcases idxL_le x l 0 (by omega) with ⟨h1, _⟩ | ⟨_, h2, h3⟩
 ·exact absurd h h1
 ·omega
theorem Tab.c0 {T : List (List Int)} (h : Tab T) : Perm (nT T) (rd_L5 T 0) := h.col 0 h.g1
theorem Tab.c1 {T : List (List Int)} (h : Tab T) (h2 : T.length = 2) : Perm (nT T) (rd_L5 T 1) := h.col 1 (by omega)
theorem stepT_range {T : List (List Int)} (h : Tab T) {i c : Int} (h0 : 0 ≤ i) (h1 : i < nT T) (hc : letG T.length c) : 0 ≤ stepT T i c ∧ stepT T i c < nT T := by
 unfold stepT
 rcases hc with rfl | rfl | ⟨h2, rfl | rfl⟩
 ·simpa using h.c0.get i h0 h1
 ·have := idxL_range (h.c0.mem i h0 h1)
  rw [h.c0.len] at this
  simpa using this
 ·simpa using (h.c1 h2).get i h0 h1
 ·have := idxL_range ((h.c1 h2).mem i h0 h1)
  rw [(h.c1 h2).len] at this
  simpa using this
theorem pad5_list (c : List Int) (h : c.length ≤ 5) : [(pad5 c).getD 0 0, (pad5 c).getD 1 0, (pad5 c).getD 2 0, (pad5 c).getD 3 0, (pad5 c).getD 4 0] = c ++ List.replicate (5 - c.length) 0 := by
 match c, h with
 | [], _ => rfl
 | [_], _ => rfl
 | [_, _], _ => rfl
 | [_, _, _], _ => rfl
 | [_, _, _, _], _ => rfl
 | [_, _, _, _, _], _ => rfl
theorem tabL_getD0 (T : List (List Int)) (h1 : 1 ≤ T.length) (j : Nat) (hj : j < 5) : (tabL T).getD j 0 = (pad5 (rd_L5 T 0)).getD j 0 := by
 unfold tabL mixT
 rw [if_neg (by omega)]
 have e : ∀ (A B : List Int), A.length = 5 → (A ++ B).getD j 0 = A.getD j 0 := fun A B hA => by simp [List.getD, List.getElem?_append, hA, hj]
 split
 ·rw [e _ _ (pad5_length _)]
 ·rw [e _ _ (pad5_length _)]
theorem tabL_getD1 (T : List (List Int)) (h1 : T.length = 2) (j : Nat) (hj : j < 5) : (tabL T).getD (5 + j) 0 = (pad5 (rd_L5 T 1)).getD j 0 := by
 unfold tabL mixT
 rw [if_neg (by omega), if_neg (by omega)]
 have e : ∀ (A B : List Int), A.length = 5 → (A ++ B).getD (5 + j) 0 = B.getD j 0 := fun A B hA => by simp [List.getD, List.getElem?_append, hA, show ¬ 5 + j < 5 by omega]
 rw [e _ _ (pad5_length _)]
theorem getD_pad (c : List Int) (n : Nat) (i : Int) (h0 : 0 ≤ i) (h1 : i < c.length) : (c ++ List.replicate n 0).getD i.toNat 0 = rd c i := by
 unfold rd
 simp [List.getD, List.getElem?_append, show i.toNat < c.length by omega]
theorem n_65_97 : ¬ (65 : Int) = 97 := by omega
theorem n_65_98 : ¬ (65 : Int) = 98 := by omega
theorem n_98_97 : ¬ (98 : Int) = 97 := by omega
theorem n_66_97 : ¬ (66 : Int) = 97 := by omega
theorem n_66_98 : ¬ (66 : Int) = 98 := by omega
theorem n_66_65 : ¬ (66 : Int) = 65 := by omega
theorem sent_f {T : List (List Int)} (h : Tab T) {i c : Int} (h0 : 0 ≤ i) (h1 : i < nT T) (hc : letG T.length c) (a0 : Int) :
  casing_table_sent.f a0 ((rd_L5 T 0).length : Int) ((tabL T).getD 0 0) ((tabL T).getD 1 0) ((tabL T).getD 2 0) ((tabL T).getD 3 0) ((tabL T).getD 4 0) ((tabL T).getD 5 0) ((tabL T).getD 6 0) ((tabL T).getD 7 0) ((tabL T).getD 8 0) ((tabL T).getD 9 0) i c = some (stepT T i c) := by
 have hd5 := h.d5
 have hd1 := h.d1
 have l0 := h.c0.len
 unfold nT at hd5 hd1 h1 l0
 have e0 : [(tabL T).getD 0 0, (tabL T).getD 1 0, (tabL T).getD 2 0, (tabL T).getD 3 0, (tabL T).getD 4 0] = rd_L5 T 0 ++ List.replicate (5 - (rd_L5 T 0).length) 0 := by
  rw [tabL_getD0 T h.g1 0 (by omega), tabL_getD0 T h.g1 1 (by omega), tabL_getD0 T h.g1 2 (by omega), tabL_getD0 T h.g1 3 (by omega), tabL_getD0 T h.g1 4 (by omega)]
  exact pad5_list _ hd5
 unfold casing_table_sent.f stepT
 rcases hc with rfl | rfl | ⟨h2, hc⟩
 ·rw [if_pos rfl, if_pos rfl, e0]
  unfold rdA
  rw [if_pos (by omega), getD_pad _ _ i h0 (by omega)]
 ·simp only [n_65_97, n_65_98, if_false, if_true]
  rw [if_pos (by omega), e0]
  simp
 ·have l1 := (h.c1 h2).len
  unfold nT at l1
  have e1 : [(tabL T).getD 5 0, (tabL T).getD 6 0, (tabL T).getD 7 0, (tabL T).getD 8 0, (tabL T).getD 9 0] = rd_L5 T 1 ++ List.replicate (5 - (rd_L5 T 1).length) 0 := by
   have q0 := tabL_getD1 T h2 0 (by omega)
   have q1 := tabL_getD1 T h2 1 (by omega)
   have q2 := tabL_getD1 T h2 2 (by omega)
   have q3 := tabL_getD1 T h2 3 (by omega)
   have q4 := tabL_getD1 T h2 4 (by omega)
   rw [q0, q1, q2, q3, q4]
   exact pad5_list _ (by omega)
  rcases hc with rfl | rfl
  ·simp only [n_98_97, if_false, if_true]
   rw [e1]
   unfold rdA
   rw [if_pos (by omega), getD_pad _ _ i h0 (by omega)]
  ·simp only [n_66_97, n_66_98, n_66_65, if_false, if_true]
   rw [if_pos (by omega), e1, ← l1]
   simp
def followT (T : List (List Int)) (i : Int) (w : List Int) : Int := w.foldl (stepT T) i
theorem follow_l0 {T : List (List Int)} (h : Tab T) (s : ByteArray) (hs : s.size ≤ 1000000) (hlet : ∀ c ∈ strBytes s, letG T.length c) (a0 : Int) : ∀ (m j k : Nat) (i : Int), j + m = s.size → 0 ≤ i → i < nT T → m < k →
  casing_table_follow.l0 k i s (s.size : Int) (j : Int) a0 ((rd_L5 T 0).length : Int) ((tabL T).getD 0 0) ((tabL T).getD 1 0) ((tabL T).getD 2 0) ((tabL T).getD 3 0) ((tabL T).getD 4 0) ((tabL T).getD 5 0) ((tabL T).getD 6 0) ((tabL T).getD 7 0) ((tabL T).getD 8 0) ((tabL T).getD 9 0) = some (followT T i ((strBytes s).drop j))
 | 0, j, k, i, e, h0, h1, hk => by
  obtain ⟨k, rfl⟩ : ∃ r, k = r + 1 := ⟨k - 1, by omega⟩
  simp only [casing_table_follow.l0]
  rw [if_neg (by omega), List.drop_eq_nil_of_le (by rw [strBytes_length]; omega)]
  rfl
 | m + 1, j, k, i, e, h0, h1, hk => by
  obtain ⟨k, rfl⟩ : ∃ r, k = r + 1 := ⟨k - 1, by omega⟩
  have hj : j < s.size := by omega
  have hd : (strBytes s).drop j = bt s j :: (strBytes s).drop (j + 1) := by
   rw [List.drop_eq_getElem_cons (by rw [strBytes_length]; exact hj), rd_strBytes s j hj]
  have hlc : letG T.length (bt s j) := hlet _ (by rw [← rd_strBytes s j hj]; exact List.getElem_mem _)
  simp only [casing_table_follow.l0]
  rw [if_pos (by omega), if_pos (by omega), if_pos (by omega), sent_f h h0 h1 hlc a0]
  simp only [Option.bind_some]
  have hr := stepT_range h h0 h1 hlc
  rw [wrapN _ (by omega) (by omega), show ((j : Int) + 1) = ((j + 1 : Nat) : Int) from by omega, follow_l0 h s hs hlet a0 m (j + 1) k _ (by omega) hr.1 hr.2 (by omega), hd]
  rfl
theorem follow_f {T : List (List Int)} (h : Tab T) (s : ByteArray) (hs : s.size ≤ 1000000) (hlet : ∀ c ∈ strBytes s, letG T.length c) (a0 i : Int) (h0 : 0 ≤ i) (h1 : i < nT T) (k : Nat) (hk : s.size < k) :
  casing_table_follow.f k a0 ((rd_L5 T 0).length : Int) ((tabL T).getD 0 0) ((tabL T).getD 1 0) ((tabL T).getD 2 0) ((tabL T).getD 3 0) ((tabL T).getD 4 0) ((tabL T).getD 5 0) ((tabL T).getD 6 0) ((tabL T).getD 7 0) ((tabL T).getD 8 0) ((tabL T).getD 9 0) i s = some (followT T i (strBytes s)) := by
 have := follow_l0 h s hs hlet a0 s.size 0 k i (by omega) h0 h1 hk
 simpa [casing_table_follow.f] using this
def lettersG (g : Nat) : List Int := if g = 1 then [97, 65] else [97, 65, 98, 66]
theorem lettersG_let {g : Nat} (hg : g = 1 ∨ g = 2) : ∀ c ∈ lettersG g, letG g c := by
 intro c hc
 unfold lettersG at hc
 unfold letG
 rcases hg with rfl | rfl
 ·simp at hc; omega
 ·simp at hc; omega
theorem lettersG_len (g : Nat) : (lettersG g).length ≤ 4 := by unfold lettersG; split <;> simp
def ordIn (T : List (List Int)) (k : Nat) : List Int → List Int × List (List Int) → List Int × List (List Int)
 | [], s => s
 | c :: cs, s => if stepT T (rd s.1 (k : Int)) c ∈ s.1 then ordIn T k cs s else ordIn T k cs (s.1 ++ [stepT T (rd s.1 (k : Int)) c], s.2 ++ [pushW (s.2.getD k []) c])
def ordOut (T : List (List Int)) (L : List Int) : Nat → Nat → List Int × List (List Int) → List Int × List (List Int)
 | 0, _, s => s
 | f + 1, k, s => if k < s.1.length then ordOut T L f (k + 1) (ordIn T k L s) else s
def orderP (T : List (List Int)) (i : Int) : List Int × List (List Int) := ordOut T (lettersG T.length) 6 0 ([i], [[]])
structure Red (g : Nat) (w : List Int) : Prop where
 let_ : ∀ c ∈ w, letG g c
 red : redW [] w = w
structure OrdI (T : List (List Int)) (s : List Int × List (List Int)) : Prop where
 nodup : s.1.Nodup
 rng : ∀ x ∈ s.1, 0 ≤ x ∧ x < nT T
 pos : 0 < s.1.length
 len : s.2.length = s.1.length
 red : ∀ w ∈ s.2, Red T.length w ∧ w.length ≤ 5
 lenw : ∀ k, k < s.2.length → (s.2.getD k []).length ≤ k
theorem OrdI.le {T : List (List Int)} {s : List Int × List (List Int)} (h : OrdI T s) : s.1.length ≤ nT T := nodup_len _ _ h.nodup h.rng
theorem redW_append (a b c : List Int) : redW a (b ++ c) = redW (redW a b) c := List.foldl_append
theorem Red.push {g : Nat} {w : List Int} (h : Red g w) {c : Int} (hc : letG g c) (hn : ¬ (0 < w.length ∧ rd w ((w.length : Int) - 1) = invI c)) : Red g (w ++ [c]) ∧ pushW w c = w ++ [c] := by
 have hp : pushW w c = w ++ [c] := by unfold pushW; rw [if_neg hn]
 refine ⟨⟨fun x hx => ?_, ?_⟩, hp⟩
 ·rcases List.mem_append.1 hx with hx | hx
  ·exact h.let_ x hx
  ·rw [List.mem_singleton.1 hx]; exact hc
 ·rw [redW_append, h.red]
  exact hp
theorem redW_take {w : List Int} : ∀ (n : Nat), redW [] w = w → n ≤ w.length → redW [] (w.take n) = w.take n := by
 have key : ∀ (m : Nat) (u : List Int), u.length = m → redW [] u = u → redW [] (u.take (m - 1)) = u.take (m - 1) := by
  intro m u hu hr
  cases m with
  | zero => simp at hu; subst hu; rfl
  | succ m =>
   have e : u = u.take m ++ [u[m]'(by omega)] := by
    rw [← List.take_succ_eq_append_getElem, List.take_of_length_le (by omega)]
   have h1 : redW [] u = pushW (redW [] (u.take m)) (u[m]'(by omega)) := by
    conv => lhs; rw [e]
    rw [redW_append]
    rfl
   have hl := redW_len (u.take m) []
   have htl : (u.take m).length = m := by simp; omega
   simp only [List.length_nil, htl] at hl
   rw [hr] at h1
   simp only [Nat.add_sub_cancel]
   unfold pushW at h1
   split at h1
   ·have := congrArg List.length h1
    simp at this
    omega
   ·have h2 : redW [] (u.take m) ++ [u[m]'(by omega)] = u.take m ++ [u[m]'(by omega)] := h1.symm.trans e
    exact (List.append_inj' h2 rfl).1
 intro n hr hn
 obtain ⟨d, hd⟩ : ∃ d, n + d = w.length := ⟨w.length - n, by omega⟩
 induction d generalizing n with
 | zero => rw [List.take_of_length_le (by omega)]; exact hr
 | succ d ih =>
  have h1 := ih (n + 1) (by omega) (by omega)
  have h2 := key (n + 1) (w.take (n + 1)) (by simp; omega) h1
  simpa [List.take_take, show min n (n + 1) = n by omega] using h2
theorem strBytes_encode {c : Int} (h : letC c) : strBytes (Utf8.encode (wrap32 c)) = [c] := by
 rcases h with rfl | rfl | rfl | rfl <;> kernel_rfl
theorem letC_byte {c : Int} (h : letC c) : 0 ≤ c ∧ c < 256 := by unfold letC at h; omega
theorem strBytes_strOfNums (l : List Int) (h : ∀ c ∈ l, letC c) : strBytes (strOfNums l) = l := by
 unfold strBytes strOfNums
 simp only [List.map_map]
 induction l with
 | nil => rfl
 | cons c l ih =>
  have hc := letC_byte (h c (by simp))
  have := ih (fun x hx => h x (by simp [hx]))
  simp
  exact ⟨by omega, this⟩
theorem idxL_shift (x : Int) : ∀ (l : List Int) (i : Int), x ∈ l → idxL x l i = i + idxL x l 0
 | y :: l, i, h => by
  unfold idxL
  by_cases e : x = y
  ·rw [if_pos e, if_pos e]; omega
  rw [if_neg e, if_neg e]
  have hl : x ∈ l := by
   rcases List.mem_cons.1 h with h | h
   ·exact absurd h e
   ·exact h
  rw [idxL_shift x l (i + 1) hl, idxL_shift x l (0 + 1) hl]
  omega
theorem idxL_get (x : Int) : ∀ (l : List Int), x ∈ l → rd l (idxL x l 0) = x
 | y :: l, h => by
  unfold idxL
  by_cases e : x = y
  ·rw [if_pos e]; simp [rd, e]
  rw [if_neg e]
  have hl : x ∈ l := by
   rcases List.mem_cons.1 h with h | h
   ·exact absurd h e
   ·exact h
  have hr := idxL_range hl
  rw [idxL_shift x l (0 + 1) hl]
  have ih := idxL_get x l hl
  unfold rd at ih ⊢
  rw [show (0 + 1 + idxL x l 0).toNat = (idxL x l 0).toNat + 1 from by omega]
  simpa using ih
theorem idxL_rd : ∀ (l : List Int) (i : Nat), l.Nodup → i < l.length → idxL (rd l (i : Int)) l 0 = (i : Int)
 | y :: l, 0, _, _ => by simp [rd, idxL]
 | y :: l, i + 1, hn, hi => by
  have hi' : i < l.length := by simpa using hi
  have hrd : rd (y :: l) ((i + 1 : Nat) : Int) = rd l (i : Int) := by
   unfold rd
   rw [show (((i + 1 : Nat) : Int)).toNat = i + 1 from by omega]
   simp
  have hm : rd l (i : Int) ∈ l := by
   have : rd l (i : Int) = l[i] := by simp [rd, hi']
   rw [this]
   exact List.getElem_mem _
  rw [hrd]
  unfold idxL
  have hne : rd l (i : Int) ≠ y := fun e => by
   rw [e] at hm
   exact (List.nodup_cons.1 hn).1 hm
  rw [if_neg hne, idxL_shift _ _ _ hm, idxL_rd l i (List.nodup_cons.1 hn).2 hi']
  omega
theorem invI_97 : invI 97 = 65 := by kernel_rfl
theorem invI_65 : invI 65 = 97 := by kernel_rfl
theorem invI_98 : invI 98 = 66 := by kernel_rfl
theorem invI_66 : invI 66 = 98 := by kernel_rfl
theorem invI_inv {c : Int} (h : letC c) : invI (invI c) = c := by
 rcases h with rfl | rfl | rfl | rfl <;> kernel_rfl
theorem invI_let {g : Nat} {c : Int} (h : letG g c) : letG g (invI c) := by
 rcases h with rfl | rfl | ⟨h2, rfl | rfl⟩
 ·rw [invI_97]; exact Or.inr (Or.inl rfl)
 ·rw [invI_65]; exact Or.inl rfl
 ·rw [invI_98]; exact Or.inr (Or.inr ⟨h2, Or.inr rfl⟩)
 ·rw [invI_66]; exact Or.inr (Or.inr ⟨h2, Or.inl rfl⟩)
theorem stepT_97 (T : List (List Int)) (i : Int) : stepT T i 97 = rd (rd_L5 T 0) i := rfl
theorem stepT_65 (T : List (List Int)) (i : Int) : stepT T i 65 = idxL i (rd_L5 T 0) 0 := rfl
theorem stepT_98 (T : List (List Int)) (i : Int) : stepT T i 98 = rd (rd_L5 T 1) i := rfl
theorem stepT_66 (T : List (List Int)) (i : Int) : stepT T i 66 = idxL i (rd_L5 T 1) 0 := rfl
theorem stepT_inv {T : List (List Int)} (h : Tab T) {i c : Int} (h0 : 0 ≤ i) (h1 : i < nT T) (hc : letG T.length c) : stepT T (stepT T i c) (invI c) = i := by
 obtain ⟨n, rfl⟩ := Int.eq_ofNat_of_zero_le h0
 rcases hc with rfl | rfl | ⟨h2, rfl | rfl⟩
 ·rw [invI_97, stepT_97, stepT_65]
  exact idxL_rd _ n h.c0.nodup (by rw [h.c0.len]; omega)
 ·rw [invI_65, stepT_97, stepT_65]
  exact idxL_get _ _ (h.c0.mem _ h0 h1)
 ·rw [invI_98, stepT_98, stepT_66]
  exact idxL_rd _ n (h.c1 h2).nodup (by rw [(h.c1 h2).len]; omega)
 ·rw [invI_66, stepT_98, stepT_66]
  exact idxL_get _ _ ((h.c1 h2).mem _ h0 h1)
theorem rd_append_left (a b : List Int) (i : Nat) (h : i < a.length) : rd (a ++ b) (i : Int) = rd a (i : Int) := by
 unfold rd
 simp [List.getD, List.getElem?_append, h]
theorem rd_mem (a : List Int) (i : Nat) (h : i < a.length) : rd a (i : Int) ∈ a := by
 have : rd a (i : Int) = a[i] := by simp [rd, h]
 rw [this]
 exact List.getElem_mem _
theorem getD_append_left {α : Type} (a b : List α) (d : α) (i : Nat) (h : i < a.length) : (a ++ b).getD i d = a.getD i d := by
 simp [List.getD, List.getElem?_append, h]
theorem getD_append_len {α : Type} (a : List α) (x d : α) : (a ++ [x]).getD a.length d = x := by
 simp [List.getD]
structure OrdW (T : List (List Int)) (i : Int) (s : List Int × List (List Int)) : Prop extends OrdI T s where
 src : ∀ k, k < s.1.length → 0 < (s.2.getD k []).length → ∃ p ∈ s.1, stepT T p (rd (s.2.getD k []) (((s.2.getD k []).length : Int) - 1)) = rd s.1 (k : Int)
 way : ∀ k, k < s.1.length → followT T i (s.2.getD k []) = rd s.1 (k : Int)
theorem getD_mem {α : Type} (a : List α) (d : α) (k : Nat) (h : k < a.length) : a.getD k d ∈ a := by
 have : a.getD k d = a[k] := by simp [List.getD, h]
 rw [this]
 exact List.getElem_mem _
theorem followT_append (T : List (List Int)) (i : Int) (u v : List Int) : followT T i (u ++ v) = followT T (followT T i u) v := List.foldl_append
theorem OrdW.new {T : List (List Int)} (h : Tab T) {i : Int} {s : List Int × List (List Int)} (hs : OrdW T i s) {k : Nat} (hk : k < s.1.length) {c : Int} (hc : letG T.length c) (hn : stepT T (rd s.1 (k : Int)) c ∉ s.1) :
  OrdW T i (s.1 ++ [stepT T (rd s.1 (k : Int)) c], s.2 ++ [pushW (s.2.getD k []) c]) ∧ pushW (s.2.getD k []) c = s.2.getD k [] ++ [c] := by
 have hk2 : k < s.2.length := by rw [hs.len]; exact hk
 have hw := hs.red _ (getD_mem s.2 [] k hk2)
 have hrk := hs.rng _ (rd_mem s.1 k hk)
 have hnew := stepT_range h hrk.1 hrk.2 hc
 have hno : ¬ (0 < (s.2.getD k []).length ∧ rd (s.2.getD k []) (((s.2.getD k []).length : Int) - 1) = invI c) := by
  rintro ⟨h1, h2⟩
  obtain ⟨p, hp, e⟩ := hs.src k hk h1
  rw [h2] at e
  apply hn
  have hrp := hs.rng p hp
  have := stepT_inv h hrp.1 hrp.2 (invI_let hc)
  rw [e, invI_inv hc.letC] at this
  rw [this]
  exact hp
 obtain ⟨hred, hpush⟩ := hw.1.push hc hno
 have hle : (s.1 ++ [stepT T (rd s.1 (k : Int)) c]).length ≤ nT T := nodup_len _ _ (by
  rw [List.nodup_append]
  refine ⟨hs.nodup, by simp, ?_⟩
  intro a ha b hb
  rw [List.mem_singleton.1 hb]
  exact fun e => hn (e ▸ ha)) (by
  intro x hx
  rcases List.mem_append.1 hx with hx | hx
  ·exact hs.rng x hx
  ·rw [List.mem_singleton.1 hx]; exact hnew)
 have hd5 := h.d5
 have hlw := hs.lenw k hk2
 have hl2 := hs.len
 simp only [List.length_append, List.length_singleton] at hle
 refine ⟨⟨⟨?_, ?_, by simp, by simp [hl2], ?_, ?_⟩, ?_, ?_⟩, hpush⟩
 ·rw [List.nodup_append]
  refine ⟨hs.nodup, by simp, ?_⟩
  intro a ha b hb
  rw [List.mem_singleton.1 hb]
  exact fun e => hn (e ▸ ha)
 ·intro x hx
  rcases List.mem_append.1 hx with hx | hx
  ·exact hs.rng x hx
  ·rw [List.mem_singleton.1 hx]; exact hnew
 ·intro w hw'
  rcases List.mem_append.1 hw' with hw' | hw'
  ·exact hs.red w hw'
  ·rw [List.mem_singleton.1 hw', hpush]
   exact ⟨hred, by rw [List.length_append, List.length_singleton]; omega⟩
 ·intro q hq
  simp only [List.length_append, List.length_singleton] at hq
  by_cases e : q < s.2.length
  ·rw [getD_append_left _ _ _ _ e]; exact hs.lenw q e
  ·obtain rfl : q = s.2.length := by omega
   rw [getD_append_len, hpush, List.length_append, List.length_singleton]
   omega
 ·intro q hq hlen
  simp only [List.length_append, List.length_singleton] at hq
  by_cases e : q < s.1.length
  ·have e2 : q < s.2.length := by omega
   rw [getD_append_left _ _ _ _ e2] at hlen ⊢
   rw [rd_append_left _ _ _ e]
   obtain ⟨p, hp, hh⟩ := hs.src q e hlen
   exact ⟨p, by simp [hp], hh⟩
  obtain rfl : q = s.1.length := by omega
  refine ⟨rd s.1 (k : Int), by simp [rd_mem s.1 k hk], ?_⟩
  have e2 : (s.2 ++ [pushW (s.2.getD k []) c]).getD s.1.length [] = s.2.getD k [] ++ [c] := by rw [← hl2, getD_append_len, hpush]
  rw [show ((s.1 ++ [stepT T (rd s.1 (k : Int)) c], s.2 ++ [pushW (s.2.getD k []) c]) : List Int × List (List Int)).2.getD s.1.length [] = s.2.getD k [] ++ [c] from e2]
  have e3 : rd (s.2.getD k [] ++ [c]) (((s.2.getD k [] ++ [c]).length : Int) - 1) = c := by
   unfold rd
   rw [show ((((s.2.getD k [] ++ [c]).length : Int) - 1)).toNat = (s.2.getD k []).length from by simp]
   exact getD_append_len _ _ _
  rw [e3]
  show _ = rd (s.1 ++ [stepT T (rd s.1 (k : Int)) c]) (s.1.length : Int)
  unfold rd
  rw [Int.toNat_natCast, Int.toNat_natCast, getD_append_len]
 ·intro q hq
  simp only [List.length_append, List.length_singleton] at hq
  by_cases e : q < s.1.length
  ·have e2 : q < s.2.length := by omega
   rw [getD_append_left _ _ _ _ e2, rd_append_left _ _ _ e]
   exact hs.way q e
  obtain rfl : q = s.1.length := by omega
  have e2 : (s.2 ++ [pushW (s.2.getD k []) c]).getD s.1.length [] = s.2.getD k [] ++ [c] := by rw [← hl2, getD_append_len, hpush]
  rw [show ((s.1 ++ [stepT T (rd s.1 (k : Int)) c], s.2 ++ [pushW (s.2.getD k []) c]) : List Int × List (List Int)).2.getD s.1.length [] = s.2.getD k [] ++ [c] from e2, followT_append, hs.way k hk]
  show stepT T (rd s.1 (k : Int)) c = rd (s.1 ++ [stepT T (rd s.1 (k : Int)) c]) (s.1.length : Int)
  unfold rd
  rw [Int.toNat_natCast, Int.toNat_natCast, getD_append_len]
theorem OrdW.start {T : List (List Int)} {i : Int} (h0 : 0 ≤ i) (h1 : i < nT T) : OrdW T i ([i], [[]]) := by
 refine ⟨⟨by simp, by simp; exact ⟨h0, h1⟩, by simp, rfl, ?_, ?_⟩, ?_, ?_⟩
 ·intro w hw
  rw [List.mem_singleton.1 hw]
  exact ⟨⟨by simp, rfl⟩, by simp⟩
 ·intro k hk
  simp at hk
  subst hk
  simp
 ·intro k hk hl
  simp at hk
  subst hk
  simp at hl
 ·intro k hk
  simp at hk
  subst hk
  rfl
theorem ordIn_W {T : List (List Int)} (h : Tab T) {i : Int} {k : Nat} : ∀ (L : List Int) (s : List Int × List (List Int)), OrdW T i s → k < s.1.length → (∀ c ∈ L, letG T.length c) → OrdW T i (ordIn T k L s) ∧ s.1.length ≤ (ordIn T k L s).1.length
 | [], s, hs, hk, _ => ⟨hs, Nat.le_refl _⟩
 | c :: L, s, hs, hk, hL => by
  unfold ordIn
  split
  ·exact ordIn_W h L s hs hk (fun x hx => hL x (by simp [hx]))
  ·rename_i hn
   have h1 := (hs.new h hk (hL c (by simp)) hn).1
   have h2 := ordIn_W h L _ h1 (by show k < (s.1 ++ [_]).length; rw [List.length_append]; omega) (fun x hx => hL x (by simp [hx]))
   refine ⟨h2.1, Nat.le_trans ?_ h2.2⟩
   simp
theorem ordOut_W {T : List (List Int)} (h : Tab T) {i : Int} {L : List Int} (hL : ∀ c ∈ L, letG T.length c) : ∀ (f k : Nat) (s : List Int × List (List Int)), OrdW T i s → OrdW T i (ordOut T L f k s)
 | 0, k, s, hs => hs
 | f + 1, k, s, hs => by
  unfold ordOut
  split
  ·rename_i hk
   exact ordOut_W h hL f (k + 1) _ (ordIn_W h L s hs hk hL).1
  ·exact hs
theorem orderP_W {T : List (List Int)} (h : Tab T) {i : Int} (h0 : 0 ≤ i) (h1 : i < nT T) : OrdW T i (orderP T i) :=
 ordOut_W h (lettersG_let (by have := h.g1; have := h.g2; omega)) 6 0 _ (OrdW.start h0 h1)
theorem Red.letC {g : Nat} {w : List Int} (h : Red g w) : ∀ c ∈ w, PAll.letC c := fun c hc => (h.let_ c hc).letC
theorem way_joined {g : Nat} {w : List Int} (h : Red g w) (hl : w.length ≤ 5) {c : Int} (hc : letG g c) (k : Nat) (hk : 20 ≤ k) :
  casing_joined.f k [strOfNums w, Utf8.encode (wrap32 c)] = some (strOfNums (pushW w c)) := by
 have hs : (strOfNums w).size = w.length := by rw [← strBytes_length, strBytes_strOfNums w h.letC]
 have he : (Utf8.encode (wrap32 c)).size = 1 := by rw [← strBytes_length, strBytes_encode hc.letC]; rfl
 rw [joined_f _ (by simp) (by simp [joinLen]; omega) k (by simp [joinFuel]; omega)]
 simp only [List.map_cons, List.map_nil, List.flatten_cons, List.flatten_nil, List.append_nil]
 rw [strBytes_strOfNums w h.letC, strBytes_encode hc.letC, redW_append, h.red]
 rfl
theorem order_l1 {T : List (List Int)} (h : Tab T) (i : Int) (a0 : Int) (k : Nat) (L : List Int) (hL : ∀ c ∈ L, letG T.length c) (hL4 : L.length ≤ 4) : ∀ (m j K : Nat) (s : List Int × List (List Int)), j + m = L.length → OrdW T i s → k < s.1.length → m + 60 ≤ K →
  casing_table_order.l1 K s.1 (s.2.map strOfNums) (k : Int) L (L.length : Int) (j : Int) a0 ((rd_L5 T 0).length : Int) ((tabL T).getD 0 0) ((tabL T).getD 1 0) ((tabL T).getD 2 0) ((tabL T).getD 3 0) ((tabL T).getD 4 0) ((tabL T).getD 5 0) ((tabL T).getD 6 0) ((tabL T).getD 7 0) ((tabL T).getD 8 0) ((tabL T).getD 9 0) =
  casing_table_order.l0 (K - m - 1) (ordIn T k (L.drop j) s).1 ((ordIn T k (L.drop j) s).2.map strOfNums) ((k + 1 : Nat) : Int) a0 ((rd_L5 T 0).length : Int) ((tabL T).getD 0 0) ((tabL T).getD 1 0) ((tabL T).getD 2 0) ((tabL T).getD 3 0) ((tabL T).getD 4 0) ((tabL T).getD 5 0) ((tabL T).getD 6 0) ((tabL T).getD 7 0) ((tabL T).getD 8 0) ((tabL T).getD 9 0)
 | 0, j, K, s, e, hs, hk, hK => by
  obtain ⟨K, rfl⟩ : ∃ r, K = r + 1 := ⟨K - 1, by omega⟩
  have hd5 := h.d5
  have hle := hs.le
  simp only [casing_table_order.l1]
  rw [if_neg (by omega), List.drop_eq_nil_of_le (by omega), wrapN _ (by omega) (by omega)]
  rfl
 | m + 1, j, K, s, e, hs, hk, hK => by
  obtain ⟨K, rfl⟩ : ∃ r, K = r + 1 := ⟨K - 1, by omega⟩
  have hd5 := h.d5
  have hle := hs.le
  have hl2 := hs.len
  have hj : j < L.length := by omega
  have hrL : rd L (j : Int) = L[j] := by simp [rd, hj]
  have hc : letG T.length L[j] := hL _ (List.getElem_mem hj)
  have hrk := hs.rng _ (rd_mem s.1 k hk)
  simp only [casing_table_order.l1]
  rw [if_pos (by omega), if_pos (by omega), if_pos (by omega), if_pos (by omega), if_pos (by omega), hrL, sent_f h hrk.1 hrk.2 hc a0]
  simp only [Option.bind_some]
  rw [Contains_f _ s.1 (by omega) K (by omega), List.drop_eq_getElem_cons hj]
  simp only [Option.bind_some, decide_eq_true_eq, ordIn]
  rw [wrapN _ (by omega) (by omega), show ((j : Int) + 1) = ((j + 1 : Nat) : Int) from by omega, show K + 1 - (m + 1) - 1 = K - m - 1 from by omega]
  by_cases hm : stepT T (rd s.1 (k : Int)) L[j] ∈ s.1
  ·rw [if_pos hm, if_pos hm]
   exact order_l1 h i a0 k L hL hL4 m (j + 1) K s (by omega) hs hk (by omega)
  rw [if_neg hm, if_neg hm, if_pos (by omega), if_pos (by rw [List.length_map]; omega)]
  have hk2 : k < s.2.length := by omega
  have hr : rdOf ByteArray.empty (s.2.map strOfNums) (k : Int) = strOfNums (s.2.getD k []) := by simp [rdOf, List.getD, hk2]
  have hw := hs.red _ (getD_mem s.2 [] k hk2)
  rw [hr, way_joined hw.1 hw.2 hc K (by omega)]
  simp only [Option.bind_some]
  rw [if_pos (by rw [List.length_map]; omega)]
  have hnew := (hs.new h hk hc hm).1
  have ih := order_l1 h i a0 k L hL hL4 m (j + 1) K _ (by omega) hnew (by show k < (s.1 ++ [_]).length; rw [List.length_append]; omega) (by omega)
  rw [← ih, List.map_append]
  rfl
theorem bytesF_letters (g : Nat) (hg : g = 1 ∨ g = 2) : bytesF ((⟨#[97, 65, 98, 66]⟩ : ByteArray).extract 0 (2 * (g : Int)).toNat) = some (lettersG g) := by
 rcases hg with rfl | rfl <;> kernel_rfl
theorem order_l0 {T : List (List Int)} (h : Tab T) (i : Int) : ∀ (f k K : Nat) (s : List Int × List (List Int)), OrdW T i s → 100 + 10 * f ≤ K → k + f = 6 →
  casing_table_order.l0 K s.1 (s.2.map strOfNums) (k : Int) (T.length : Int) ((rd_L5 T 0).length : Int) ((tabL T).getD 0 0) ((tabL T).getD 1 0) ((tabL T).getD 2 0) ((tabL T).getD 3 0) ((tabL T).getD 4 0) ((tabL T).getD 5 0) ((tabL T).getD 6 0) ((tabL T).getD 7 0) ((tabL T).getD 8 0) ((tabL T).getD 9 0) =
  some ((ordOut T (lettersG T.length) f k s).1, (ordOut T (lettersG T.length) f k s).2.map strOfNums)
 | 0, k, K, s, hs, hK, hf => by
  obtain ⟨K, rfl⟩ : ∃ r, K = r + 1 := ⟨K - 1, by omega⟩
  have hd5 := h.d5
  have hle := hs.le
  simp only [casing_table_order.l0, ordOut]
  rw [if_neg (by omega)]
 | f + 1, k, K, s, hs, hK, hf => by
  obtain ⟨K, rfl⟩ : ∃ r, K = r + 1 := ⟨K - 1, by omega⟩
  have hd5 := h.d5
  have hle := hs.le
  have hg1 := h.g1
  have hg2 := h.g2
  have hg : T.length = 1 ∨ T.length = 2 := by omega
  simp only [casing_table_order.l0, ordOut]
  by_cases hk : k < s.1.length
  rotate_left
  ·rw [if_neg (by omega), if_neg hk]
  rw [if_pos (by omega), if_pos hk, wrapN _ (by omega) (by omega), if_pos (by omega), if_pos (by omega), bytesF_letters _ hg]
  simp only [Option.bind_some]
  have l1 := order_l1 h i (T.length : Int) k (lettersG T.length) (lettersG_let hg) (lettersG_len _) (lettersG T.length).length 0 K s (by omega) hs hk (by have := lettersG_len T.length; omega)
  simp only [List.drop_zero] at l1
  have l1' := l1
  rw [show ((0 : Nat) : Int) = 0 from rfl] at l1'
  rw [l1']
  have hW := ordIn_W h (lettersG T.length) s hs hk (lettersG_let hg)
  exact order_l0 h i f (k + 1) _ _ hW.1 (by have := lettersG_len T.length; omega) (by omega)
theorem order_f {T : List (List Int)} (h : Tab T) {i : Int} (h0 : 0 ≤ i) (h1 : i < nT T) (K : Nat) (hK : 200 ≤ K) :
  casing_table_order.f K (T.length : Int) ((rd_L5 T 0).length : Int) ((tabL T).getD 0 0) ((tabL T).getD 1 0) ((tabL T).getD 2 0) ((tabL T).getD 3 0) ((tabL T).getD 4 0) ((tabL T).getD 5 0) ((tabL T).getD 6 0) ((tabL T).getD 7 0) ((tabL T).getD 8 0) ((tabL T).getD 9 0) i =
  some ((orderP T i).1, (orderP T i).2.map strOfNums) := by
 have := order_l0 h i 6 0 K ([i], [[]]) (OrdW.start h0 h1) (by omega) (by omega)
 unfold casing_table_order.f orderP
 rw [← this]
 rfl
def idL (d : Nat) : List Int := (List.range d).map fun (n : Nat) => (n : Int)
theorem idL_len (d : Nat) : (idL d).length = d := by simp [idL]
theorem idL_rd (d i : Nat) (h : i < d) : rd (idL d) (i : Int) = (i : Int) := by simp [rd, idL, List.getD, h]
theorem idL_succ (d : Nat) : idL (d + 1) = idL d ++ [(d : Int)] := by simp [idL, List.range_succ]
theorem idL_mem (d : Nat) (x : Int) : x ∈ idL d ↔ 0 ≤ x ∧ x < d := by
 simp only [idL, List.mem_map, List.mem_range]
 constructor
 ·rintro ⟨n, h, rfl⟩; omega
 ·rintro ⟨h0, h1⟩; exact ⟨x.toNat, by omega, by omega⟩
theorem less_f (a b : Int) : cmp_Less_int.f a b = some (decide (a < b)) := by
 unfold cmp_Less_int.f cmp_isNaN_int.f
 simp
def sortedP (l : List Int) : Prop := ∀ i : Nat, i + 1 < l.length → rd l (i : Int) ≤ rd l ((i + 1 : Nat) : Int)
theorem isSorted_l0 (l : List Int) (hl : l.length ≤ 1000) : ∀ (m k : Nat), m < l.length → m < k →
  ∃ b : Bool, slices_IsSorted_int_int.l0 k l (m : Int) = some b ∧ (b = true ↔ ∀ i : Nat, i < m → rd l (i : Int) ≤ rd l ((i + 1 : Nat) : Int))
 | 0, k, h, hk => by
  obtain ⟨k, rfl⟩ : ∃ q, k = q + 1 := ⟨k - 1, by omega⟩
  refine ⟨true, ?_, by simp⟩
  simp only [slices_IsSorted_int_int.l0]
  rw [if_neg (by omega)]
 | m + 1, k, h, hk => by
  obtain ⟨k, rfl⟩ : ∃ q, k = q + 1 := ⟨k - 1, by omega⟩
  simp only [slices_IsSorted_int_int.l0]
  rw [wrapN (((m + 1 : Nat) : Int) - 1) (by omega) (by omega), show ((m + 1 : Nat) : Int) - 1 = (m : Int) from by omega, if_pos (by omega), if_pos (by omega), if_pos (by omega), if_pos (by omega), if_pos (by omega), less_f]
  simp only [Option.bind_some, decide_eq_true_eq]
  obtain ⟨b, hb, ib⟩ := isSorted_l0 l hl m k (by omega) (by omega)
  by_cases hlt : rd l ((m + 1 : Nat) : Int) < rd l (m : Int)
  ·rw [if_pos hlt]
   exact ⟨false, rfl, by simp, fun hh => by have := hh m (by omega); omega⟩
  rw [if_neg hlt]
  refine ⟨b, hb, ?_⟩
  rw [ib]
  constructor
  ·intro hh i hi
   by_cases e : i = m
   ·rw [e]; omega
   ·exact hh i (by omega)
  ·exact fun hh i hi => hh i (by omega)
theorem isSorted_f (l : List Int) (hl : l.length ≤ 1000) (h0 : 0 < l.length) (k : Nat) (hk : l.length ≤ k) :
  ∃ b : Bool, slices_IsSorted_int_int.f k l = some b ∧ (b = true ↔ sortedP l) := by
 obtain ⟨b, hb, ib⟩ := isSorted_l0 l hl (l.length - 1) k (by omega) (by omega)
 refine ⟨b, ?_, ?_⟩
 ·unfold slices_IsSorted_int_int.f
  rw [wrapN _ (by omega) (by omega), show (l.length : Int) - 1 = ((l.length - 1 : Nat) : Int) from by omega]
  exact hb
 ·rw [ib]
  exact ⟨fun h i hi => h i (by omega), fun h i hi => h i (by omega)⟩
theorem sorted_id {d : Nat} {l : List Int} (hn : l.Nodup) (hr : ∀ x ∈ l, 0 ≤ x ∧ x < d) (hl : l.length = d) : sortedP l ↔ l = idL d := by
 constructor
 ·intro hs
  have hne : ∀ i : Nat, i + 1 < l.length → rd l (i : Int) < rd l ((i + 1 : Nat) : Int) := by
   intro i hi
   have h1 := hs i hi
   have h2 : rd l (i : Int) ≠ rd l ((i + 1 : Nat) : Int) := by
    rw [List.nodup_iff_pairwise_ne, List.pairwise_iff_getElem] at hn
    have := hn i (i + 1) (by omega) hi (by omega)
    simpa [rd, hi, show i < l.length by omega] using this
   omega
  have lo : ∀ i : Nat, i < l.length → (i : Int) ≤ rd l (i : Int) := by
   intro i
   induction i with
   | zero => intro h; have := hr _ (rd_mem l 0 h); omega
   | succ i ih => intro h; have := ih (by omega); have := hne i h; omega
  have hi : ∀ m i : Nat, i + m + 1 = l.length → rd l (i : Int) ≤ (i : Int) := by
   intro m
   induction m with
   | zero => intro i h; have := hr _ (rd_mem l i (by omega)); omega
   | succ m ih => intro i h; have := ih (i + 1) (by omega); have := hne i (by omega); omega
  apply List.ext_getElem
  ·rw [idL_len, hl]
  ·intro i h1 h2
   have a := lo i h1
   have b := hi (l.length - 1 - i) i (by omega)
   have e1 : rd l (i : Int) = l[i] := by simp [rd, h1]
   have e2 : (idL d)[i] = (i : Int) := by simp [idL]
   rw [e2, ← e1]
   omega
 ·rintro rfl
  intro i hi
  rw [idL_len] at hi
  rw [idL_rd d i (by omega), idL_rd d (i + 1) hi]
  omega
def stdT (T : List (List Int)) : Prop := (orderP T 0).1 = idL (nT T)
theorem isStandard_f {T : List (List Int)} (h : Tab T) (K : Nat) (hK : 200 ≤ K) :
  casing_table_isStandard.f K (T.length : Int) ((rd_L5 T 0).length : Int) ((tabL T).getD 0 0) ((tabL T).getD 1 0) ((tabL T).getD 2 0) ((tabL T).getD 3 0) ((tabL T).getD 4 0) ((tabL T).getD 5 0) ((tabL T).getD 6 0) ((tabL T).getD 7 0) ((tabL T).getD 8 0) ((tabL T).getD 9 0) =
  some (decide ((orderP T 0).1 = idL (nT T))) := by
 have hd1 := h.d1
 have hd5 := h.d5
 have hW := orderP_W h (show (0 : Int) ≤ 0 by omega) (by omega)
 unfold casing_table_isStandard.f
 rw [order_f h (by omega) (by omega) K hK]
 simp only [Option.bind_some]
 by_cases hl : (orderP T 0).1.length = nT T
 rotate_left
 ·have hne : ¬ (((orderP T 0).1.length : Int) = ((rd_L5 T 0).length : Int)) := fun e => hl (by unfold nT; omega)
  rw [if_neg hne]
  rw [decide_eq_false (fun e => hl (by rw [e, idL_len]))]
 rw [if_pos (by rw [hl]; rfl)]
 obtain ⟨b, hb, ib⟩ := isSorted_f (orderP T 0).1 (by omega) hW.pos K (by omega)
 rw [hb]
 simp only [Option.bind_some]
 congr 1
 rw [Bool.eq_iff_iff, ib, decide_eq_true_eq]
 exact sorted_id hW.nodup hW.rng hl
def idxN (x : Nat) : List Nat → Nat
 | [] => 0
 | y :: l => if x = y then 0 else idxN x l + 1
def stepN (a b : List Nat) (i : Nat) : Nat → Nat
 | 0 => a.getD i 0
 | 1 => idxN i a
 | 2 => b.getD i 0
 | _ => idxN i b
def stdInN (a b : List Nat) (k : Nat) : List Nat → Nat → Nat
 | [], n => n
 | q :: qs, n => if stepN a b k q < n then stdInN a b k qs n else if stepN a b k q = n then stdInN a b k qs (n + 1) else 0
def stdOutN (a b : List Nat) (d : Nat) (L : List Nat) : Nat → Nat → Nat → Bool
 | 0, _, n => n == d
 | f + 1, k, n => if k < n then stdOutN a b d L f (k + 1) (stdInN a b k L n) else n == d
def codesG (g : Nat) : List Nat := if g = 1 then [0, 1] else [0, 1, 2, 3]
def stdN (g d : Nat) (a b : List Nat) : Bool := stdOutN a b d (codesG g) 6 0 1
def letN : Nat → Int
 | 0 => 97
 | 1 => 65
 | 2 => 98
 | _ => 66
theorem lettersG_codes (g : Nat) : lettersG g = (codesG g).map letN := by unfold lettersG codesG; split <;> rfl
def upN (a : List Nat) : List Int := a.map fun (n : Nat) => (n : Int)
theorem upN_rd (a : List Nat) (i : Nat) (h : i < a.length) : rd (upN a) (i : Int) = ((a.getD i 0 : Nat) : Int) := by simp [rd, upN, List.getD, h]
theorem idxN_up (x : Nat) : ∀ (a : List Nat), (x : Int) ∈ upN a → idxL (x : Int) (upN a) 0 = ((idxN x a : Nat) : Int)
 | y :: l, h => by
  show idxL (x : Int) ((y : Int) :: upN l) 0 = _
  unfold idxL idxN
  by_cases e : x = y
  ·rw [if_pos (by omega), if_pos e]; rfl
  rw [if_neg (by omega), if_neg e]
  have hm : (x : Int) ∈ upN l := by
   rcases List.mem_cons.1 h with h | h
   ·have h' : (x : Int) = (y : Int) := h
    omega
   ·exact h
  rw [idxL_shift _ _ _ hm, idxN_up x l hm]
  omega
def tabN (g : Nat) (a b : List Nat) : List (List Int) := if g = 1 then [upN a] else [upN a, upN b]
theorem stepN_up {g : Nat} (hg : g = 1 ∨ g = 2) {a b : List Nat} (h : Tab (tabN g a b)) (i : Nat) (hi : i < nT (tabN g a b)) (q : Nat) (hq : q ∈ codesG g) : stepT (tabN g a b) (i : Int) (letN q) = ((stepN a b i q : Nat) : Int) := by
 have h0 := h.c0
 have r0 : rd_L5 (tabN g a b) 0 = upN a := by unfold tabN; split <;> rfl
 have l0 := h0.len
 rw [r0] at h0 l0
 have hla : a.length = nT (tabN g a b) := by rw [← l0]; simp [upN]
 have c0 : q = 0 ∨ q = 1 → stepT (tabN g a b) (i : Int) (letN q) = ((stepN a b i q : Nat) : Int) := by
  rintro (rfl | rfl)
  ·show rd (rd_L5 (tabN g a b) 0) (i : Int) = _
   rw [r0, upN_rd a i (by omega)]
   rfl
  ·show idxL (i : Int) (rd_L5 (tabN g a b) 0) 0 = _
   rw [r0, idxN_up i a (h0.mem _ (by omega) (by omega))]
   rfl
 rcases hg with rfl | rfl
 ·simp [codesG] at hq
  exact c0 hq
 ·simp [codesG] at hq
  have r1 : rd_L5 (tabN 2 a b) 1 = upN b := rfl
  have h1 := h.c1 rfl
  have l1 := h1.len
  rw [r1] at h1 l1
  have hlb : b.length = nT (tabN 2 a b) := by rw [← l1]; simp [upN]
  rcases hq with e | e | rfl | rfl
  ·exact c0 (Or.inl e)
  ·exact c0 (Or.inr e)
  ·show rd (rd_L5 (tabN 2 a b) 1) (i : Int) = _
   rw [r1, upN_rd b i (by omega)]
   rfl
  ·show idxL (i : Int) (rd_L5 (tabN 2 a b) 1) 0 = _
   rw [r1, idxN_up i b (h1.mem _ (by omega) (by omega))]
   rfl
theorem ordIn_app (T : List (List Int)) (k : Nat) : ∀ (L : List Int) (s : List Int × List (List Int)), ∃ t, (ordIn T k L s).1 = s.1 ++ t
 | [], s => ⟨[], by simp [ordIn]⟩
 | c :: L, s => by
  unfold ordIn
  split
  ·exact ordIn_app T k L s
  ·obtain ⟨t, ht⟩ := ordIn_app T k L (s.1 ++ [stepT T (rd s.1 (k : Int)) c], s.2 ++ [pushW (s.2.getD k []) c])
   exact ⟨_, by rw [ht, List.append_assoc]⟩
theorem ordOut_app (T : List (List Int)) (L : List Int) : ∀ (f k : Nat) (s : List Int × List (List Int)), ∃ t, (ordOut T L f k s).1 = s.1 ++ t
 | 0, k, s => ⟨[], by simp [ordOut]⟩
 | f + 1, k, s => by
  unfold ordOut
  split
  ·obtain ⟨t, ht⟩ := ordIn_app T k L s
   obtain ⟨u, hu⟩ := ordOut_app T L f (k + 1) (ordIn T k L s)
   exact ⟨t ++ u, by rw [hu, ht, List.append_assoc]⟩
  ·exact ⟨[], by simp⟩
theorem idL_prefix {l t : List Int} {m : Nat} (h : l ++ t = idL m) : l = idL l.length := by
 have hl : l.length ≤ m := by have := congrArg List.length h; rw [List.length_append, idL_len] at this; omega
 have := congrArg (List.take l.length) h
 rw [List.take_left] at this
 refine this.trans ?_
 unfold idL
 rw [← List.map_take, List.take_range, Nat.min_eq_left hl]
theorem stdIn_up {g : Nat} (hg : g = 1 ∨ g = 2) {a b : List Nat} (h : Tab (tabN g a b)) (k : Nat) : ∀ (L : List Nat) (n : Nat) (s : List Int × List (List Int)), (∀ q ∈ L, q ∈ codesG g) → s.1 = idL n → k < n → n ≤ nT (tabN g a b) →
  (stdInN a b k L n ≠ 0 ∧ n ≤ stdInN a b k L n ∧ (ordIn (tabN g a b) k (L.map letN) s).1 = idL (stdInN a b k L n)) ∨ (stdInN a b k L n = 0 ∧ ∀ m, (ordIn (tabN g a b) k (L.map letN) s).1 ≠ idL m)
 | [], n, s, _, hs, hk, _ => by
  left
  simp only [stdInN, List.map_nil, ordIn]
  exact ⟨by omega, by omega, hs⟩
 | q :: L, n, s, hL, hs, hk, hn => by
  have hrd : rd s.1 (k : Int) = (k : Int) := by rw [hs, idL_rd n k hk]
  have hst := stepN_up hg h k (by omega) q (hL q (by simp))
  simp only [stdInN, List.map_cons, ordIn]
  rw [hrd, hst]
  by_cases h1 : stepN a b k q < n
  ·have hm : ((stepN a b k q : Nat) : Int) ∈ s.1 := by rw [hs, idL_mem]; omega
   rw [if_pos h1, if_pos hm]
   exact stdIn_up hg h k L n s (fun x hx => hL x (by simp [hx])) hs hk hn
  have hm : ¬ ((stepN a b k q : Nat) : Int) ∈ s.1 := by rw [hs, idL_mem]; omega
  rw [if_neg h1, if_neg hm]
  by_cases h2 : stepN a b k q = n
  rotate_left
  ·rw [if_neg h2]
   refine Or.inr ⟨rfl, fun m hm => ?_⟩
   obtain ⟨t, ht⟩ := ordIn_app (tabN g a b) k (L.map letN) (s.1 ++ [((stepN a b k q : Nat) : Int)], s.2 ++ [pushW (s.2.getD k []) (letN q)])
   rw [ht] at hm
   have := idL_prefix hm
   simp only [List.length_append, List.length_singleton] at this
   rw [hs, idL_len, idL_succ] at this
   have := (List.append_inj' this rfl).2
   simp at this
   omega
  rw [if_pos h2]
  have hlt : n < nT (tabN g a b) := by
   have := stepT_range h (i := (k : Int)) (c := letN q) (by omega) (by omega) (by
    have := lettersG_let (g := (tabN g a b).length) (by have := h.g1; have := h.g2; omega)
    have hgl : (tabN g a b).length = g := by rcases hg with rfl | rfl <;> rfl
    rw [hgl] at this ⊢
    apply this
    rw [lettersG_codes]
    exact List.mem_map.2 ⟨q, hL q (by simp), rfl⟩)
   rw [hst] at this
   omega
  have := stdIn_up hg h k L (n + 1) (s.1 ++ [((stepN a b k q : Nat) : Int)], s.2 ++ [pushW (s.2.getD k []) (letN q)]) (fun x hx => hL x (by simp [hx])) (by show s.1 ++ [_] = _; rw [h2, idL_succ, hs]) (by omega) (by omega)
  rcases this with ⟨a1, a2, a3⟩ | ⟨a1, a2⟩
  ·exact Or.inl ⟨a1, by omega, a3⟩
  ·exact Or.inr ⟨a1, a2⟩
theorem stdOut_up {g : Nat} (hg : g = 1 ∨ g = 2) {a b : List Nat} (h : Tab (tabN g a b)) : ∀ (f k n : Nat) (s : List Int × List (List Int)), s.1 = idL n → n ≤ nT (tabN g a b) → OrdW (tabN g a b) 0 s →
  (stdOutN a b (nT (tabN g a b)) (codesG g) f k n = true ↔ (ordOut (tabN g a b) ((codesG g).map letN) f k s).1 = idL (nT (tabN g a b)))
 | 0, k, n, s, hs, hn, hW => by
  simp only [stdOutN, ordOut, beq_iff_eq]
  rw [hs]
  exact ⟨fun e => by rw [e], fun e => by have := congrArg List.length e; simpa [idL_len] using this⟩
 | f + 1, k, n, s, hs, hn, hW => by
  have hln : s.1.length = n := by rw [hs, idL_len]
  simp only [stdOutN, ordOut]
  by_cases hk : k < n
  rotate_left
  ·rw [if_neg hk, if_neg (by omega)]
   simp only [beq_iff_eq]
   rw [hs]
   exact ⟨fun e => by rw [e], fun e => by have := congrArg List.length e; simpa [idL_len] using this⟩
  rw [if_pos hk, if_pos (by omega)]
  have hgl : (tabN g a b).length = g := by rcases hg with rfl | rfl <;> rfl
  have hlet : ∀ c ∈ (codesG g).map letN, letG (tabN g a b).length c := by rw [← lettersG_codes, hgl]; exact lettersG_let hg
  have hW2 := ordIn_W h ((codesG g).map letN) s hW (show k < s.1.length by omega) hlet
  rcases stdIn_up hg h k (codesG g) n s (fun q hq => hq) hs hk hn with ⟨a1, a2, a3⟩ | ⟨a1, a2⟩
  ·have hle := hW2.1.le
   rw [a3, idL_len] at hle
   exact stdOut_up hg h f (k + 1) _ _ a3 hle hW2.1
  ·rw [a1]
   have hz : ∀ f k, stdOutN a b (nT (tabN g a b)) (codesG g) f k 0 = false := by
    intro f k
    have hd1 := h.d1
    cases f with
    | zero => simp [stdOutN]; omega
    | succ f => simp [stdOutN]; omega
   rw [hz]
   constructor
   ·intro e; cases e
   ·intro e
    obtain ⟨t, ht⟩ := ordOut_app (tabN g a b) ((codesG g).map letN) f (k + 1) (ordIn (tabN g a b) k ((codesG g).map letN) s)
    rw [ht] at e
    exact absurd (idL_prefix e) (a2 _)
theorem stdN_iff {g : Nat} (hg : g = 1 ∨ g = 2) {a b : List Nat} (h : Tab (tabN g a b)) : stdN g (nT (tabN g a b)) a b = true ↔ stdT (tabN g a b) := by
 have hd1 := h.d1
 have hgl : (tabN g a b).length = g := by rcases hg with rfl | rfl <;> rfl
 have := stdOut_up hg h 6 0 1 ([0], [[]]) rfl hd1 (OrdW.start (by omega) (by omega))
 unfold stdN stdT orderP
 rw [this, hgl, lettersG_codes]
def wordOK (a : Int) (s : ByteArray) : Bool := decide (s.size ≤ 30) && allLet a.toNat s
def isGroupB (a : Int) (R : List ByteArray) : Bool := decide ((1 ≤ a ∧ a ≤ 2) ∧ R.length ≤ 6) && R.all (wordOK a)
theorem isGroup_f (a : Int) (R : List ByteArray) : casing_isGroup.f a R = some (isGroupB a R) := by
 unfold casing_isGroup.f isGroupB
 by_cases h : (1 ≤ a ∧ a ≤ 2) ∧ R.length ≤ 6
 ·rw [if_pos h, decide_eq_true h, Bool.true_and]
  congr 1
  exact congrArg (fun f => R.all f) (funext fun s => wordB_eq a.toNat (by omega) s)
 ·rw [if_neg h, decide_eq_false h, Bool.false_and]
theorem isGroupB_let {a : Int} {R : List ByteArray} (h : isGroupB a R = true) : (a = 1 ∨ a = 2) ∧ R.length ≤ 6 ∧ ∀ s ∈ R, s.size ≤ 30 ∧ allLet a.toNat s = true := by
 unfold isGroupB at h
 simp only [Bool.and_eq_true, decide_eq_true_eq, List.all_eq_true] at h
 refine ⟨by omega, h.1.2, fun s hs => ?_⟩
 have := h.2 s hs
 unfold wordOK at this
 simpa using this
theorem newTable_yes {T : List (List Int)} (h : okT T) (k : Nat) : casing_newTable.f k T = some ((T.length : Int), ((rd_L5 T 0).length : Int), (tabL T).getD 0 0, (tabL T).getD 1 0, (tabL T).getD 2 0, (tabL T).getD 3 0, (tabL T).getD 4 0, (tabL T).getD 5 0, (tabL T).getD 6 0, (tabL T).getD 7 0, (tabL T).getD 8 0, (tabL T).getD 9 0, true) := by
 unfold casing_newTable.f
 rw [if_pos h]
def keepsP (T : List (List Int)) (R : List ByteArray) : Prop := ∀ s ∈ R, ∀ i : Nat, i < nT T → followT T i (strBytes s) = i
section
variable {T : List (List Int)} (h : Tab T) (R : List ByteArray) (hR : R.length ≤ 10) (hs : ∀ s ∈ R, s.size ≤ 100) (hlet : ∀ s ∈ R, ∀ c ∈ strBytes s, letG T.length c)
include h hR hs hlet
open Classical in
theorem keeps_l1 (a0 : Int) (q : Nat) (hq : q < R.length) (p0 : Int) (p1 : List ByteArray) : ∀ (m i k : Nat), i + m = nT T → m + 150 ≤ k →
  casing_table_keeps.l1 k R[q] R (R.length : Int) (q : Int) ((rd_L5 T 0).length : Int) (i : Int) a0 ((rd_L5 T 0).length : Int) ((tabL T).getD 0 0) ((tabL T).getD 1 0) ((tabL T).getD 2 0) ((tabL T).getD 3 0) ((tabL T).getD 4 0) ((tabL T).getD 5 0) ((tabL T).getD 6 0) ((tabL T).getD 7 0) ((tabL T).getD 8 0) ((tabL T).getD 9 0) p0 p1 =
  if (∀ i' : Nat, i ≤ i' → i' < nT T → followT T i' (strBytes R[q]) = i') then casing_table_keeps.l0 (k - m - 1) R (R.length : Int) ((q + 1 : Nat) : Int) a0 ((rd_L5 T 0).length : Int) ((tabL T).getD 0 0) ((tabL T).getD 1 0) ((tabL T).getD 2 0) ((tabL T).getD 3 0) ((tabL T).getD 4 0) ((tabL T).getD 5 0) ((tabL T).getD 6 0) ((tabL T).getD 7 0) ((tabL T).getD 8 0) ((tabL T).getD 9 0) p0 p1 else some false
 | 0, i, k, e, hk => by
  obtain ⟨k, rfl⟩ : ∃ r, k = r + 1 := ⟨k - 1, by omega⟩
  simp only [casing_table_keeps.l1]
  have hn : nT T = (rd_L5 T 0).length := rfl
  rw [if_neg (by omega), if_pos (fun i' h1 h2 => by omega), wrapN _ (by omega) (by omega)]
  rfl
 | m + 1, i, k, e, hk => by
  obtain ⟨k, rfl⟩ : ∃ r, k = r + 1 := ⟨k - 1, by omega⟩
  have hn : nT T = (rd_L5 T 0).length := rfl
  have hd5 := h.d5
  have hm := List.getElem_mem hq
  have hsz := hs _ hm
  simp only [casing_table_keeps.l1]
  rw [if_pos (by omega), follow_f h _ (by omega) (hlet _ hm) a0 (i : Int) (by omega) (by omega) k (by omega)]
  simp only [Option.bind_some]
  by_cases e1 : followT T i (strBytes R[q]) = i
  rotate_left
  ·rw [if_neg e1, if_neg (fun hh => e1 (hh i (Nat.le_refl _) (by omega)))]
  rw [if_pos e1, wrapN _ (by omega) (by omega), show ((i : Int) + 1) = ((i + 1 : Nat) : Int) from by omega, keeps_l1 a0 q hq p0 p1 m (i + 1) k (by omega) (by omega), show k + 1 - (m + 1) - 1 = k - m - 1 from by omega]
  have hiff : (∀ i' : Nat, i ≤ i' → i' < nT T → followT T i' (strBytes R[q]) = i') ↔ (∀ i' : Nat, i + 1 ≤ i' → i' < nT T → followT T i' (strBytes R[q]) = i') := by
   constructor
   ·exact fun hh i' h1 h2 => hh i' (by omega) h2
   ·intro hh i' h1 h2
    by_cases e' : i' = i
    ·rw [e']; exact e1
    ·exact hh i' (by omega) h2
  by_cases hc : (∀ i' : Nat, i + 1 ≤ i' → i' < nT T → followT T i' (strBytes R[q]) = i')
  ·rw [if_pos hc, if_pos (hiff.2 hc)]
  ·rw [if_neg hc, if_neg (fun hh => hc (hiff.1 hh))]
theorem keeps_l0 (a0 p0 : Int) (p1 : List ByteArray) : ∀ (m q k : Nat), q + m = R.length → 20 * m + 200 ≤ k →
  ∃ b : Bool, casing_table_keeps.l0 k R (R.length : Int) (q : Int) a0 ((rd_L5 T 0).length : Int) ((tabL T).getD 0 0) ((tabL T).getD 1 0) ((tabL T).getD 2 0) ((tabL T).getD 3 0) ((tabL T).getD 4 0) ((tabL T).getD 5 0) ((tabL T).getD 6 0) ((tabL T).getD 7 0) ((tabL T).getD 8 0) ((tabL T).getD 9 0) p0 p1 = some b ∧
   (b = true ↔ (∀ s ∈ R.drop q, ∀ i : Nat, i < nT T → followT T i (strBytes s) = i) ∧ a0 = p0)
 | 0, q, k, e, hk => by
  obtain ⟨k, rfl⟩ : ∃ r, k = r + 1 := ⟨k - 1, by omega⟩
  simp only [casing_table_keeps.l0]
  rw [if_neg (by omega), List.drop_eq_nil_of_le (by omega)]
  exact ⟨_, rfl, by simp⟩
 | m + 1, q, k, e, hk => by
  obtain ⟨k, rfl⟩ : ∃ r, k = r + 1 := ⟨k - 1, by omega⟩
  have hq : q < R.length := by omega
  have hd5 := h.d5
  have hr : rdOf ByteArray.empty R (q : Int) = R[q] := by simp [rdOf, hq]
  simp only [casing_table_keeps.l0]
  have l1 := keeps_l1 h R hR hs hlet a0 q hq p0 p1 (nT T) 0 k (by omega) (by omega)
  simp only [Int.natCast_zero] at l1
  rw [if_pos (by omega), if_pos (by omega), if_pos (by omega), hr, l1]
  obtain ⟨b, hb, ib⟩ := keeps_l0 a0 p0 p1 m (q + 1) (k - nT T - 1) (by omega) (by omega)
  rw [List.drop_eq_getElem_cons hq]
  by_cases hc : (∀ i' : Nat, 0 ≤ i' → i' < nT T → followT T i' (strBytes R[q]) = i')
  rotate_left
  ·rw [if_neg hc]
   refine ⟨false, rfl, by simp, ?_⟩
   rintro ⟨h1, _⟩
   exact absurd (fun i _ hi => h1 _ (List.mem_cons_self) i hi) hc
  rw [if_pos hc]
  refine ⟨b, hb, ?_⟩
  rw [ib]
  constructor
  ·rintro ⟨h1, h2⟩
   refine ⟨fun s hs' => ?_, h2⟩
   rcases List.mem_cons.1 hs' with rfl | hs'
   ·exact fun i hi => hc i (by omega) hi
   ·exact h1 s hs'
  ·rintro ⟨h1, h2⟩
   exact ⟨fun s hs' => h1 s (List.mem_cons_of_mem _ hs'), h2⟩
open Classical in
end
theorem keeps_f {T : List (List Int)} (h : Tab T) (R : List ByteArray) (hR : R.length ≤ 10) (hs : ∀ s ∈ R, s.size ≤ 100) (hlet : ∀ s ∈ R, ∀ c ∈ strBytes s, letG T.length c) (a0 p0 : Int) (k : Nat) (hk : 500 ≤ k) :
  ∃ b : Bool, casing_table_keeps.f k a0 ((rd_L5 T 0).length : Int) ((tabL T).getD 0 0) ((tabL T).getD 1 0) ((tabL T).getD 2 0) ((tabL T).getD 3 0) ((tabL T).getD 4 0) ((tabL T).getD 5 0) ((tabL T).getD 6 0) ((tabL T).getD 7 0) ((tabL T).getD 8 0) ((tabL T).getD 9 0) p0 R = some b ∧ (b = true ↔ keepsP T R ∧ a0 = p0) := by
 have := keeps_l0 h R hR hs hlet a0 p0 R R.length 0 k (by omega) (by omega)
 simpa [casing_table_keeps.f, keepsP] using this
def extN (d : Nat) : Nat → List Nat → List (List Nat)
 | 0, l => [l]
 | n + 1, l => (List.range d).flatMap fun j => if l.elem j then [] else extN d n (l ++ [j])
def permsN (d : Nat) : List (List Nat) := extN d d []
def nodupB : List Nat → Bool
 | [] => true
 | x :: l => !(l.elem x) && nodupB l
def permB (d : Nat) (a : List Nat) : Bool := a.length == d && a.all (fun x => decide (x < d)) && nodupB a
theorem nodupB_iff : ∀ a : List Nat, nodupB a = true → (upN a).Nodup
 | [], _ => by simp [upN]
 | x :: l, h => by
  simp only [nodupB, Bool.and_eq_true, Bool.not_eq_true'] at h
  have ih := nodupB_iff l h.2
  show ((x : Int) :: upN l).Nodup
  rw [List.nodup_cons]
  refine ⟨fun hm => ?_, ih⟩
  obtain ⟨y, hy, e⟩ := List.mem_map.1 hm
  have e' : (y : Int) = (x : Int) := e
  have : y = x := by omega
  subst this
  have := h.1
  simp [hy] at this
theorem permB_perm {d : Nat} {a : List Nat} (h : permB d a = true) : Perm d (upN a) := by
 simp only [permB, Bool.and_eq_true, beq_iff_eq, List.all_eq_true, decide_eq_true_eq] at h
 refine ⟨by simp [upN, h.1.1], ?_, ?_, nodupB_iff a h.2⟩
 ·intro x hx
  obtain ⟨y, hy, e⟩ := List.mem_map.1 hx
  have e' : (y : Int) = x := e
  omega
 ·intro x hx
  obtain ⟨y, hy, e⟩ := List.mem_map.1 hx
  have e' : (y : Int) = x := e
  have := h.1.2 y hy
  omega
theorem perms_ok (d : Nat) (h1 : 1 ≤ d) (h5 : d ≤ 5) : ∀ a ∈ permsN d, Perm d (upN a) := by
 have key : (permsN d).all (permB d) = true := by
  obtain rfl | rfl | rfl | rfl | rfl : d = 1 ∨ d = 2 ∨ d = 3 ∨ d = 4 ∨ d = 5 := by omega
  all_goals kernel_rfl
 intro a ha
 exact permB_perm (List.all_eq_true.1 key a ha)
theorem extC_perms (d : Nat) (h1 : 1 ≤ d) (h5 : d ≤ 5) : extC d d [] = (permsN d).map upN := by
 obtain rfl | rfl | rfl | rfl | rfl : d = 1 ∨ d = 2 ∨ d = 3 ∨ d = 4 ∨ d = 5 := by omega
 all_goals kernel_rfl
def pairsN (g d : Nat) : List (List Nat × List Nat) := if g = 1 then (permsN d).map fun a => (a, []) else (permsN d).flatMap fun a => (permsN d).map fun b => (a, b)
theorem tabN_tab {g d : Nat} (hg : g = 1 ∨ g = 2) (h1 : 1 ≤ d) (h5 : d ≤ 5) {p : List Nat × List Nat} (hp : p ∈ pairsN g d) : Tab (tabN g p.1 p.2) ∧ nT (tabN g p.1 p.2) = d := by
 rcases hg with rfl | rfl
 ·obtain ⟨a, ha, rfl⟩ := List.mem_map.1 (show p ∈ (permsN d).map fun a => (a, []) from hp)
  have hP := perms_ok d h1 h5 a ha
  have hn : nT (tabN 1 a []) = d := hP.len
  refine ⟨⟨by simp [tabN], by simp [tabN], by rw [hn]; exact h1, by rw [hn]; exact h5, ?_⟩, hn⟩
  intro k hk
  have : k = 0 := by simp [tabN] at hk; exact hk
  subst this
  rw [hn]
  exact hP
 ·obtain ⟨a, ha, hb⟩ := List.mem_flatMap.1 (show p ∈ (permsN d).flatMap fun a => (permsN d).map fun b => (a, b) from hp)
  obtain ⟨b, hb2, rfl⟩ := List.mem_map.1 hb
  have hP := perms_ok d h1 h5 a ha
  have hQ := perms_ok d h1 h5 b hb2
  have hn : nT (tabN 2 a b) = d := hP.len
  refine ⟨⟨by simp [tabN], by simp [tabN], by rw [hn]; exact h1, by rw [hn]; exact h5, ?_⟩, hn⟩
  intro k hk
  rw [hn]
  have : k = 0 ∨ k = 1 := by simp [tabN] at hk; omega
  rcases this with rfl | rfl
  ·exact hP
  ·exact hQ
def keepsB (T : List (List Int)) (R : List ByteArray) : Bool := R.all fun s => (List.range (nT T)).all fun i => followT T (i : Int) (strBytes s) == (i : Int)
theorem keepsB_iff (T : List (List Int)) (R : List ByteArray) : keepsB T R = true ↔ keepsP T R := by
 simp only [keepsB, keepsP, List.all_eq_true, List.mem_range, beq_iff_eq]
def tablesN (g d : Nat) (R : List ByteArray) : List (List Nat × List Nat) := (pairsN g d).filter fun p => stdN g d p.1 p.2 && keepsB (tabN g p.1 p.2) R
def toS (g d : Nat) (p : List Nat × List Nat) : S79 := ⟨(g : Int), (d : Int), ⟨toCol (upN p.1), if g = 1 then ⟨0, 0, 0, 0, 0⟩ else toCol (upN p.2)⟩⟩
theorem pad5_getD (c : List Int) (j : Nat) (hj : j < 5) (hc : c.length ≤ 5) : (pad5 c).getD j 0 = c.getD j 0 := by
 match c, hc with
 | [], _ => rcases j with _ | _ | _ | _ | _ | j <;> first | rfl | omega
 | [_], _ => rcases j with _ | _ | _ | _ | _ | j <;> first | rfl | omega
 | [_, _], _ => rcases j with _ | _ | _ | _ | _ | j <;> first | rfl | omega
 | [_, _, _], _ => rcases j with _ | _ | _ | _ | _ | j <;> first | rfl | omega
 | [_, _, _, _], _ => rcases j with _ | _ | _ | _ | _ | j <;> first | rfl | omega
 | [_, _, _, _, _], _ => rcases j with _ | _ | _ | _ | _ | j <;> first | rfl | omega
theorem keepQ_f {g d : Nat} (hg : g = 1 ∨ g = 2) (h1 : 1 ≤ d) (h5 : d ≤ 5) {p : List Nat × List Nat} (hp : p ∈ pairsN g d) (R : List ByteArray) (hR : R.length ≤ 10) (hs : ∀ s ∈ R, s.size ≤ 100) (hlet : ∀ s ∈ R, ∀ c ∈ strBytes s, letG g c) (K : Nat) (hK : 600 ≤ K) :
  keepQ K (g : Int) R (toS g d p) = some (stdN g d p.1 p.2 && keepsB (tabN g p.1 p.2) R) := by
 obtain ⟨tab, hn⟩ := tabN_tab hg h1 h5 hp
 have hgl : (tabN g p.1 p.2).length = g := by rcases hg with rfl | rfl <;> rfl
 have r0 : rd_L5 (tabN g p.1 p.2) 0 = upN p.1 := by unfold tabN; split <;> rfl
 have hl0 : (upN p.1).length = d := by rw [← r0]; exact hn
 have hstd := isStandard_f tab K (by omega)
 have hkp := keeps_f tab R hR hs (by rw [hgl]; exact hlet) (g : Int) (g : Int) K (by omega)
 have e0 : ∀ j, j < 5 → (tabL (tabN g p.1 p.2)).getD j 0 = (upN p.1).getD j 0 := fun j hj => by
  rw [tabL_getD0 _ tab.g1 j hj, r0, pad5_getD _ j hj (by omega)]
 have e1 : ∀ j, j < 5 → (tabL (tabN g p.1 p.2)).getD (5 + j) 0 = if g = 1 then 0 else (upN p.2).getD j 0 := fun j hj => by
  rcases hg with rfl | rfl
  ·rw [if_pos rfl]
   unfold tabL mixT
   rw [if_neg (by simp [tabN]), if_pos (by simp [tabN])]
   have e : ∀ (A B : List Int), A.length = 5 → (A ++ B).getD (5 + j) 0 = B.getD j 0 := fun A B hA => by simp [List.getD, List.getElem?_append, hA, show ¬ 5 + j < 5 by omega]
   rw [e _ _ (pad5_length _)]
   rcases j with _ | _ | _ | _ | _ | j <;> first | rfl | omega
  ·rw [if_neg (by omega), tabL_getD1 _ rfl j hj]
   have r1 : rd_L5 (tabN 2 p.1 p.2) 1 = upN p.2 := rfl
   have l1 := (tab.c1 rfl).len
   rw [r1] at l1
   rw [r1, pad5_getD _ j hj (by omega)]
 have f5 := e1 0 (by omega)
 have f6 := e1 1 (by omega)
 have f7 := e1 2 (by omega)
 have f8 := e1 3 (by omega)
 have f9 := e1 4 (by omega)
 rw [e0 0 (by omega), e0 1 (by omega), e0 2 (by omega), e0 3 (by omega), e0 4 (by omega), f5, f6, f7, f8, f9, hgl, r0, hl0] at hstd
 rw [e0 0 (by omega), e0 1 (by omega), e0 2 (by omega), e0 3 (by omega), e0 4 (by omega), f5, f6, f7, f8, f9, r0, hl0] at hkp
 obtain ⟨b, hb, ib⟩ := hkp
 have hc1 : ∀ (F : Int → Int → Int → Int → Int → Option Bool), F (toS g d p).f2.f1.f0 (toS g d p).f2.f1.f1 (toS g d p).f2.f1.f2 (toS g d p).f2.f1.f3 (toS g d p).f2.f1.f4 = F (if g = 1 then 0 else (upN p.2).getD 0 0) (if g = 1 then 0 else (upN p.2).getD 1 0) (if g = 1 then 0 else (upN p.2).getD 2 0) (if g = 1 then 0 else (upN p.2).getD 3 0) (if g = 1 then 0 else (upN p.2).getD 4 0) := by
  intro F
  rcases hg with rfl | rfl
  ·rfl
  ·rfl
 have hstd' : casing_table_isStandard.f K (toS g d p).f0 (toS g d p).f1 (toS g d p).f2.f0.f0 (toS g d p).f2.f0.f1 (toS g d p).f2.f0.f2 (toS g d p).f2.f0.f3 (toS g d p).f2.f0.f4 (toS g d p).f2.f1.f0 (toS g d p).f2.f1.f1 (toS g d p).f2.f1.f2 (toS g d p).f2.f1.f3 (toS g d p).f2.f1.f4 = some (stdN g d p.1 p.2) := by
  rw [hc1 (casing_table_isStandard.f K (toS g d p).f0 (toS g d p).f1 (toS g d p).f2.f0.f0 (toS g d p).f2.f0.f1 (toS g d p).f2.f0.f2 (toS g d p).f2.f0.f3 (toS g d p).f2.f0.f4)]
  refine Eq.trans hstd ?_
  congr 1
  rw [Bool.eq_iff_iff, decide_eq_true_eq, hn]
  have := stdN_iff hg tab
  rw [hn] at this
  rw [this]
  unfold stdT
  rw [hn]
 have hkp' : casing_table_keeps.f K (toS g d p).f0 (toS g d p).f1 (toS g d p).f2.f0.f0 (toS g d p).f2.f0.f1 (toS g d p).f2.f0.f2 (toS g d p).f2.f0.f3 (toS g d p).f2.f0.f4 (toS g d p).f2.f1.f0 (toS g d p).f2.f1.f1 (toS g d p).f2.f1.f2 (toS g d p).f2.f1.f3 (toS g d p).f2.f1.f4 (g : Int) R = some b := by
  rw [hc1 (fun x0 x1 x2 x3 x4 => casing_table_keeps.f K (toS g d p).f0 (toS g d p).f1 (toS g d p).f2.f0.f0 (toS g d p).f2.f0.f1 (toS g d p).f2.f0.f2 (toS g d p).f2.f0.f3 (toS g d p).f2.f0.f4 x0 x1 x2 x3 x4 (g : Int) R)]
  exact hb
 have hbb : b = keepsB (tabN g p.1 p.2) R := by
  rw [Bool.eq_iff_iff, ib, keepsB_iff]
  exact ⟨fun h => h.1, fun h => ⟨h, rfl⟩⟩
 unfold keepQ
 rw [hstd']
 simp only [Option.bind_some]
 rw [hkp', hbb]
 cases stdN g d p.1 p.2 <;> simp
theorem tables_f {g d : Nat} (hg : g = 1 ∨ g = 2) (h1 : 1 ≤ d) (h5 : d ≤ 5) (R : List ByteArray) (hR : R.length ≤ 10) (hs : ∀ s ∈ R, s.size ≤ 100) (hlet : ∀ s ∈ R, ∀ c ∈ strBytes s, letG g c) (K : Nat) (hK : 600 ≤ K) :
  casing_tables.f K (g : Int) R (d : Int) = some ((tablesN g d R).map (toS g d)) := by
 unfold casing_tables.f
 rw [if_pos (by omega)]
 simp only [Int.toNat_natCast]
 have hk := fun p (hp : p ∈ pairsN g d) => keepQ_f hg h1 h5 hp R hR hs hlet K hK
 have hcols : colsS d = (permsN d).map fun a => toCol (upN a) := by
  unfold colsS
  rw [extC_perms d h1 h5, List.map_map]
  rfl
 rcases hg with rfl | rfl
 ·show collT K ((1 : Nat) : Int) R d (0 + 1) 0 _ = _
  simp only [collT]
  rw [hcols]
  have : ∀ x ∈ (permsN d).map (fun a => toCol (upN a)), ∃ a ∈ permsN d, x = toCol (upN a) := fun x hx => by
   obtain ⟨a, ha, rfl⟩ := List.mem_map.1 hx
   exact ⟨a, ha, rfl⟩
  have hcat : ∀ l : List (List Nat), (∀ a ∈ l, a ∈ permsN d) → catM (fun c => (keepQ K ((1 : Nat) : Int) R (setCol ⟨((1 : Nat) : Int), (d : Int), ⟨⟨0, 0, 0, 0, 0⟩, ⟨0, 0, 0, 0, 0⟩⟩⟩ 0 c)).bind fun b => some (if b = true then [setCol ⟨((1 : Nat) : Int), (d : Int), ⟨⟨0, 0, 0, 0, 0⟩, ⟨0, 0, 0, 0, 0⟩⟩⟩ 0 c] else [])) (l.map fun a => toCol (upN a)) =
    some (((l.map fun a => ((a, []) : List Nat × List Nat)).filter fun p => stdN 1 d p.1 p.2 && keepsB (tabN 1 p.1 p.2) R).map (toS 1 d)) := by
   intro l
   induction l with
   | nil => intro _; rfl
   | cons a l ih =>
    intro hl
    have ih' := ih (fun x hx => hl x (by simp [hx]))
    have hka := hk (a, []) (List.mem_map.2 ⟨a, hl a (by simp), rfl⟩)
    simp only [List.map_cons, catM]
    rw [ih']
    have hst : setCol ⟨((1 : Nat) : Int), (d : Int), ⟨⟨0, 0, 0, 0, 0⟩, ⟨0, 0, 0, 0, 0⟩⟩⟩ 0 (toCol (upN a)) = toS 1 d (a, []) := rfl
    rw [hst, hka]
    simp only [Option.bind_some]
    cases hb : (stdN 1 d a [] && keepsB (tabN 1 a []) R) <;> simp [List.filter_cons, hb]
  exact hcat (permsN d) (fun a h => h)
 ·show collT K ((2 : Nat) : Int) R d (0 + 1 + 1) 0 _ = _
  simp only [collT]
  rw [hcols]
  have hin : ∀ a ∈ permsN d, ∀ l : List (List Nat), (∀ b ∈ l, b ∈ permsN d) → catM (fun c => (keepQ K ((2 : Nat) : Int) R (setCol (setCol ⟨((2 : Nat) : Int), (d : Int), ⟨⟨0, 0, 0, 0, 0⟩, ⟨0, 0, 0, 0, 0⟩⟩⟩ 0 (toCol (upN a))) (0 + 1) c)).bind fun b => some (if b = true then [setCol (setCol ⟨((2 : Nat) : Int), (d : Int), ⟨⟨0, 0, 0, 0, 0⟩, ⟨0, 0, 0, 0, 0⟩⟩⟩ 0 (toCol (upN a))) (0 + 1) c] else [])) (l.map fun b => toCol (upN b)) =
    some (((l.map fun b => ((a, b) : List Nat × List Nat)).filter fun p => stdN 2 d p.1 p.2 && keepsB (tabN 2 p.1 p.2) R).map (toS 2 d)) := by
   intro a ha l
   induction l with
   | nil => intro _; rfl
   | cons b l ih =>
    intro hl
    have ih' := ih (fun x hx => hl x (by simp [hx]))
    have hka := hk (a, b) (List.mem_flatMap.2 ⟨a, ha, List.mem_map.2 ⟨b, hl b (by simp), rfl⟩⟩)
    simp only [List.map_cons, catM]
    rw [ih']
    have hst : setCol (setCol ⟨((2 : Nat) : Int), (d : Int), ⟨⟨0, 0, 0, 0, 0⟩, ⟨0, 0, 0, 0, 0⟩⟩⟩ 0 (toCol (upN a))) (0 + 1) (toCol (upN b)) = toS 2 d (a, b) := rfl
    rw [hst, hka]
    simp only [Option.bind_some]
    cases hb : (stdN 2 d a b && keepsB (tabN 2 a b) R) <;> simp [List.filter_cons, hb]
  have hout : ∀ l : List (List Nat), (∀ a ∈ l, a ∈ permsN d) → catM (fun c => catM (fun c_1 => (keepQ K ((2 : Nat) : Int) R (setCol (setCol ⟨((2 : Nat) : Int), (d : Int), ⟨⟨0, 0, 0, 0, 0⟩, ⟨0, 0, 0, 0, 0⟩⟩⟩ 0 c) (0 + 1) c_1)).bind fun b => some (if b = true then [setCol (setCol ⟨((2 : Nat) : Int), (d : Int), ⟨⟨0, 0, 0, 0, 0⟩, ⟨0, 0, 0, 0, 0⟩⟩⟩ 0 c) (0 + 1) c_1] else [])) ((permsN d).map fun b => toCol (upN b))) (l.map fun a => toCol (upN a)) =
    some (((l.flatMap fun a => (permsN d).map fun b => ((a, b) : List Nat × List Nat)).filter fun p => stdN 2 d p.1 p.2 && keepsB (tabN 2 p.1 p.2) R).map (toS 2 d)) := by
   intro l
   induction l with
   | nil => intro _; rfl
   | cons a l ih =>
    intro hl
    have ih' := ih (fun x hx => hl x (by simp [hx]))
    simp only [List.map_cons]
    conv => lhs; unfold catM
    rw [hin a (hl a (by simp)) (permsN d) (fun b h => h), ih']
    simp
  exact hout (permsN d) (fun a h => h)
theorem wrapS (i : Nat) (h : i ≤ 1000000) : wrap64 ((i : Int) + 1) = ((i + 1 : Nat) : Int) := by rw [wrapN _ (by omega) (by omega)]; omega
theorem pushW_nil (c : Int) : pushW [] c = [c] := by unfold pushW; rw [if_neg (by simp)]; rfl
theorem pushW_last (v : List Int) (x c : Int) : pushW (v ++ [x]) c = if x = invI c then v else v ++ [x, c] := by
 have hr : rd (v ++ [x]) (((v ++ [x]).length : Int) - 1) = x := by
  unfold rd
  rw [show (((v ++ [x]).length : Int) - 1).toNat = v.length from by simp]
  exact getD_append_len _ _ _
 unfold pushW
 rw [hr]
 by_cases e : x = invI c
 ·rw [if_pos ⟨by simp, e⟩, if_pos e]; simp
 ·rw [if_neg (fun h => e h.2), if_neg e]; simp
theorem list_last {α : Type} (u : List α) (h : u ≠ []) : ∃ v x, u = v ++ [x] := ⟨u.dropLast, u.getLast h, (List.dropLast_concat_getLast h).symm⟩
theorem redW_snoc (a b : List Int) (c : Int) : redW a (b ++ [c]) = pushW (redW a b) c := by unfold redW; rw [List.foldl_append]; rfl
theorem Red.init {g : Nat} {v : List Int} {x : Int} (h : Red g (v ++ [x])) : Red g v := by
 refine ⟨fun c hc => h.let_ c (by simp [hc]), ?_⟩
 have := redW_take v.length h.red (by simp)
 simpa using this
theorem Red.nil (g : Nat) : Red g [] := ⟨by simp, rfl⟩
theorem Red.pushed {g : Nat} {u : List Int} (h : Red g u) {c : Int} (hc : letG g c) : Red g (pushW u c) := by
 by_cases hu : u = []
 ·subst hu
  rw [pushW_nil]
  exact ⟨by simpa using hc, by show pushW [] c = _; rw [pushW_nil]⟩
 obtain ⟨v, x, rfl⟩ := list_last u hu
 by_cases e : x = invI c
 ·rw [pushW_last, if_pos e]; exact h.init
 have hp : pushW (v ++ [x]) c = v ++ [x] ++ [c] := by rw [pushW_last, if_neg e]; simp
 rw [hp]
 refine ⟨fun y hy => ?_, ?_⟩
 ·rcases List.mem_append.1 hy with hy | hy
  ·exact h.let_ y hy
  ·rw [List.mem_singleton.1 hy]; exact hc
 ·rw [redW_snoc, h.red, hp]
theorem Red.all {g : Nat} : ∀ (w u : List Int), Red g u → (∀ c ∈ w, letG g c) → Red g (redW u w)
 | [], u, h, _ => h
 | c :: w, u, h, hw => Red.all w (pushW u c) (h.pushed (hw c (by simp))) (fun x hx => hw x (by simp [hx]))
end Go.Proofs.Ytmcihijobilcgaa.PAll
end
section
namespace Go.Proofs.Ytmcihijobilcgaa.PAll
open Go.RowKit Go.Proofs.YtmcihijobilcgaaW.PrintWords Go.Proofs.YtmcihijobilcgaaW.PrintLast Go.Proofs.YtmcihijobilcgaaW.PrintMore
section
variable {T : List (List Int)} (h : Tab T)
include h
theorem Tab.g12 : T.length = 1 ∨ T.length = 2 := by have := h.g1; have := h.g2; omega
end
end Go.Proofs.Ytmcihijobilcgaa.PAll
end
section
namespace Go.Proofs.Ytmcihijobilcgaa.PAll
open Go.RowKit Go.Proofs.YtmcihijobilcgaaW.PrintWords Go.Proofs.YtmcihijobilcgaaW.PrintLast Go.Proofs.YtmcihijobilcgaaW.PrintMore
theorem drop_eq_cons {α : Type} (A B : List α) (q : Nat) (ha : q < A.length) (hb : q < B.length) : A.drop q = B.drop q ↔ A[q] = B[q] ∧ A.drop (q + 1) = B.drop (q + 1) := by
 rw [List.drop_eq_getElem_cons ha, List.drop_eq_getElem_cons hb, List.cons.injEq]
theorem Same_l1 (A B : List (List Int)) (q : Nat) (ha : q < A.length) (hb : q < B.length) (hl : A[q].length = B[q].length) (h30 : A[q].length ≤ 30) : ∀ (m j k : Nat), j + m = A[q].length → m < k →
  remouldref01_Same.l1 k A B (q : Int) (j : Int) = if A[q].drop j = B[q].drop j then remouldref01_Same.l0 (k - m - 1) A B (wrap64 ((q : Int) + 1)) else some false
 | 0, j, k, e, hk => by
  obtain ⟨k, rfl⟩ : ∃ r, k = r + 1 := ⟨k - 1, by omega⟩
  have ra : rd_L5 A (q : Int) = A[q] := by simp [rd_L5, ha]
  simp only [remouldref01_Same.l1]
  rw [if_pos (by omega), if_pos (by omega), ra, if_neg (by omega), List.drop_eq_nil_of_le (by omega), List.drop_eq_nil_of_le (by omega), if_pos rfl]
  rfl
 | m + 1, j, k, e, hk => by
  obtain ⟨k, rfl⟩ : ∃ r, k = r + 1 := ⟨k - 1, by omega⟩
  have ra : rd_L5 A (q : Int) = A[q] := by simp [rd_L5, ha]
  have rb : rd_L5 B (q : Int) = B[q] := by simp [rd_L5, hb]
  have hj : j < A[q].length := by omega
  have hj2 : j < B[q].length := by omega
  have r1 : rd A[q] (j : Int) = A[q][j] := by simp [rd, hj]
  have r2 : rd B[q] (j : Int) = B[q][j] := by simp [rd, hj2]
  simp only [remouldref01_Same.l1]
  rw [if_pos (by omega), if_pos (by omega), ra, if_pos (by omega), if_pos (by omega), if_pos (by omega), rb, if_pos (by omega), r1, r2]
  have hd := drop_eq_cons A[q] B[q] j hj hj2
  by_cases e1 : A[q][j] = B[q][j]
  rotate_left
  ·rw [if_neg e1, if_neg (fun h => e1 (hd.1 h).1)]
  rw [if_pos e1, wrapN ((j : Int) + 1) (by omega) (by omega), show ((j : Int) + 1) = ((j + 1 : Nat) : Int) from by omega, Same_l1 A B q ha hb hl h30 m (j + 1) k (by omega) (by omega), show k + 1 - (m + 1) - 1 = k - m - 1 from by omega]
  by_cases e2 : A[q].drop (j + 1) = B[q].drop (j + 1)
  ·rw [if_pos e2, if_pos (hd.2 ⟨e1, e2⟩)]
  ·rw [if_neg e2, if_neg (fun h => e2 (hd.1 h).2)]
theorem Same_l0 (A B : List (List Int)) (hl : A.length = B.length) (h3 : A.length ≤ 10) (h30 : ∀ r ∈ A, r.length ≤ 30) : ∀ (m q k : Nat), q + m = A.length → 40 * m < k →
  remouldref01_Same.l0 k A B (q : Int) = some (decide (A.drop q = B.drop q))
 | 0, q, k, e, hk => by
  obtain ⟨k, rfl⟩ : ∃ r, k = r + 1 := ⟨k - 1, by omega⟩
  simp only [remouldref01_Same.l0]
  rw [if_neg (by omega), List.drop_eq_nil_of_le (by omega), List.drop_eq_nil_of_le (by omega)]
  rfl
 | m + 1, q, k, e, hk => by
  obtain ⟨k, rfl⟩ : ∃ r, k = r + 1 := ⟨k - 1, by omega⟩
  have ha : q < A.length := by omega
  have hb : q < B.length := by omega
  have ra : rd_L5 A (q : Int) = A[q] := by simp [rd_L5, ha]
  have rb : rd_L5 B (q : Int) = B[q] := by simp [rd_L5, hb]
  have hr := h30 _ (List.getElem_mem ha)
  have hd := drop_eq_cons A B q ha hb
  simp only [remouldref01_Same.l0]
  rw [if_pos (by omega), if_pos (by omega), if_pos (by omega), ra, rb]
  by_cases e0 : A[q].length = B[q].length
  rotate_left
  ·rw [if_neg (by omega), decide_eq_false (fun h => e0 (by rw [(hd.1 h).1]))]
  rw [if_pos (by omega)]
  have l1 := Same_l1 A B q ha hb e0 hr A[q].length 0 k (by omega) (by omega)
  simp only [Int.natCast_zero, List.drop_zero] at l1
  rw [l1]
  by_cases e1 : A[q] = B[q]
  rotate_left
  ·rw [if_neg e1, decide_eq_false (fun h => e1 (hd.1 h).1)]
  rw [if_pos e1, wrapN ((q : Int) + 1) (by omega) (by omega), show ((q : Int) + 1) = ((q + 1 : Nat) : Int) from by omega, Same_l0 A B hl h3 h30 m (q + 1) _ (by omega) (by omega)]
  congr 1
  rw [decide_eq_decide, hd]
  exact ⟨fun h => ⟨e1, h⟩, fun h => h.2⟩
theorem Same_f (A B : List (List Int)) (h3 : A.length ≤ 10) (h30 : ∀ r ∈ A, r.length ≤ 30) (k : Nat) (hk : 500 ≤ k) : remouldref01_Same.f k A B = some (decide (A = B)) := by
 unfold remouldref01_Same.f
 by_cases hl : A.length = B.length
 ·rw [if_pos (by omega)]
  have := Same_l0 A B hl h3 h30 A.length 0 k (by omega) (by omega)
  simpa using this
 ·rw [if_neg (by omega), decide_eq_false (fun e => hl (by rw [e]))]
theorem Tab.rows {T : List (List Int)} (h : Tab T) : ∀ r ∈ T, r.length = nT T := by
 intro r hr
 obtain ⟨k, hk, rfl⟩ := List.getElem_of_mem hr
 have := (h.col k hk).len
 rwa [show rd_L5 T (k : Int) = T[k] from by simp [rd_L5, hk]] at this
theorem perms_len (d : Nat) (h1 : 1 ≤ d) (h5 : d ≤ 5) : (permsN d).length ≤ 120 := by
 obtain rfl | rfl | rfl | rfl | rfl : d = 1 ∨ d = 2 ∨ d = 3 ∨ d = 4 ∨ d = 5 := by omega
 all_goals exact of_decide_eq_true (by kernel_rfl)
theorem toCol_take (c : List Int) (d : Nat) (hc : c.length = d) (h5 : d ≤ 5) : ([(toCol c).f0, (toCol c).f1, (toCol c).f2, (toCol c).f3, (toCol c).f4] : List Int).take d = c := by
 subst hc
 match c, h5 with
 | [], _ => rfl
 | [_], _ => rfl
 | [_, _], _ => rfl
 | [_, _, _], _ => rfl
 | [_, _, _, _], _ => rfl
 | [_, _, _, _, _], _ => rfl
theorem lists_f {g d : Nat} (hg : g = 1 ∨ g = 2) (h1 : 1 ≤ d) (h5 : d ≤ 5) {p : List Nat × List Nat} (hp : p ∈ pairsN g d) :
  casing_table_lists.f (toS g d p).f0 (toS g d p).f1 (toS g d p).f2.f0.f0 (toS g d p).f2.f0.f1 (toS g d p).f2.f0.f2 (toS g d p).f2.f0.f3 (toS g d p).f2.f0.f4 (toS g d p).f2.f1.f0 (toS g d p).f2.f1.f1 (toS g d p).f2.f1.f2 (toS g d p).f2.f1.f3 (toS g d p).f2.f1.f4 = some (tabN g p.1 p.2) := by
 obtain ⟨tab, hn⟩ := tabN_tab hg h1 h5 hp
 have l0 : (upN p.1).length = d := by
  have r0 : rd_L5 (tabN g p.1 p.2) 0 = upN p.1 := by unfold tabN; split <;> rfl
  rw [← r0]; exact hn
 have t0 := toCol_take (upN p.1) d l0 h5
 unfold casing_table_lists.f
 rcases hg with rfl | rfl
 ·rw [if_pos (show (1 : Int) ≤ (toS 1 d p).f1 ∧ (toS 1 d p).f1 ≤ 5 from ⟨by show (1 : Int) ≤ (d : Int); omega, by show (d : Int) ≤ 5; omega⟩), if_pos (show (toS 1 d p).f0 = 1 from rfl)]
  show some [([(toCol (upN p.1)).f0, (toCol (upN p.1)).f1, (toCol (upN p.1)).f2, (toCol (upN p.1)).f3, (toCol (upN p.1)).f4] : List Int).take (d : Int).toNat] = _
  rw [Int.toNat_natCast, t0]
  rfl
 ·have l1 : (upN p.2).length = d := by
   have := (tab.c1 rfl).len
   rw [hn] at this
   exact this
  have t1 := toCol_take (upN p.2) d l1 h5
  rw [if_pos (show (1 : Int) ≤ (toS 2 d p).f1 ∧ (toS 2 d p).f1 ≤ 5 from ⟨by show (1 : Int) ≤ (d : Int); omega, by show (d : Int) ≤ 5; omega⟩), if_neg (show ¬ (toS 2 d p).f0 = 1 from by show ¬ ((2 : Nat) : Int) = 1; omega), if_pos (show (toS 2 d p).f0 = 2 from rfl)]
  show some [([(toCol (upN p.1)).f0, (toCol (upN p.1)).f1, (toCol (upN p.1)).f2, (toCol (upN p.1)).f3, (toCol (upN p.1)).f4] : List Int).take (d : Int).toNat, ([(toCol (upN p.2)).f0, (toCol (upN p.2)).f1, (toCol (upN p.2)).f2, (toCol (upN p.2)).f3, (toCol (upN p.2)).f4] : List Int).take (d : Int).toNat] = _
  rw [Int.toNat_natCast, t0, t1]
  rfl
theorem tables_len {g d : Nat} (hg : g = 1 ∨ g = 2) (h1 : 1 ≤ d) (h5 : d ≤ 5) (R : List ByteArray) : (tablesN g d R).length ≤ 14400 := by
 have hl := perms_len d h1 h5
 unfold tablesN
 refine Nat.le_trans (List.length_filter_le _ _) ?_
 rcases hg with rfl | rfl
 ·show ((permsN d).map _).length ≤ _
  rw [List.length_map]
  omega
 ·show ((permsN d).flatMap _).length ≤ _
  have gen : ∀ L : List (List Nat), (L.flatMap fun a => (permsN d).map fun b => ((a, b) : List Nat × List Nat)).length ≤ 120 * L.length := by
   intro L
   induction L with
   | nil => simp
   | cons a L ih => rw [List.flatMap_cons, List.length_append, List.length_map, List.length_cons]; omega
  have := gen (permsN d)
  omega
theorem Tables_l0 {g d : Nat} (hg : g = 1 ∨ g = 2) (h1 : 1 ≤ d) (h5 : d ≤ 5) (L : List (List Nat × List Nat)) (hL : ∀ p ∈ L, p ∈ pairsN g d) (hl : L.length ≤ 14400) : ∀ (m i K : Nat), i + m = L.length → m < K →
  casing_Tables.l0 K ((L.take i).map fun p => tabN g p.1 p.2) (L.map (toS g d)) (L.length : Int) (i : Int) = some (L.map (fun p => tabN g p.1 p.2), 0)
 | 0, i, K, e, hK => by
  obtain ⟨K, rfl⟩ : ∃ r, K = r + 1 := ⟨K - 1, by omega⟩
  simp only [casing_Tables.l0]
  rw [if_neg (by omega), List.take_of_length_le (by omega)]
 | m + 1, i, K, e, hK => by
  obtain ⟨K, rfl⟩ : ∃ r, K = r + 1 := ⟨K - 1, by omega⟩
  have hi : i < L.length := by omega
  have hr : rd_T79 (L.map (toS g d)) (i : Int) = toS g d L[i] := by simp [rd_T79, hi]
  simp only [casing_Tables.l0]
  rw [if_pos (by omega), if_pos (by omega), if_pos (by rw [List.length_map]; omega), hr, lists_f hg h1 h5 (hL _ (List.getElem_mem hi)), Option.bind_some, if_pos (by rw [List.length_map, List.length_take]; omega), wrapS i (by omega)]
  have ih := Tables_l0 hg h1 h5 L hL hl m (i + 1) K (by omega) (by omega)
  rw [← ih, List.take_succ_eq_append_getElem hi, List.map_append]
  rfl
theorem tables_mem {g d : Nat} {R : List ByteArray} {p : List Nat × List Nat} (h : p ∈ tablesN g d R) : p ∈ pairsN g d ∧ stdN g d p.1 p.2 = true ∧ keepsB (tabN g p.1 p.2) R = true := by
 have := List.mem_filter.1 h
 rw [Bool.and_eq_true] at this
 exact this
theorem Tables_yes {g : Int} {R : List ByteArray} (hgr : isGroupB g R = true) {d : Nat} (h1 : 1 ≤ d) (h5 : d ≤ 5) (K : Nat) (hK : 15000 ≤ K) :
  casing_Tables.f K g R (d : Int) = some ((tablesN g.toNat d R).map (fun p => tabN g.toNat p.1 p.2), 0) := by
 obtain ⟨hg, hR6, hw⟩ := isGroupB_let hgr
 obtain ⟨n, rfl⟩ := Int.eq_ofNat_of_zero_le (show 0 ≤ g by omega)
 have hg12 : n = 1 ∨ n = 2 := by omega
 have hlet : ∀ s ∈ R, ∀ c ∈ strBytes s, letG n c := fun s hs => letG_bytes (by have := (hw s hs).2; simpa using this)
 obtain ⟨K, rfl⟩ : ∃ r, K = r + 1 := ⟨K - 1, by omega⟩
 have ht := tables_f hg12 h1 h5 R (by omega) (fun s hs => by have := (hw s hs).1; omega) hlet K (by omega)
 have hl := tables_len hg12 h1 h5 R
 have l0 := Tables_l0 hg12 h1 h5 (tablesN n d R) (fun p hp => (tables_mem hp).1) hl (tablesN n d R).length 0 K (by omega) (by omega)
 simp only [List.take_zero, List.map_nil, Int.natCast_zero] at l0
 unfold casing_Tables.f
 rw [isGroup_f, hgr, Option.bind_some, if_pos rfl, within_true (by omega) (by omega), Option.bind_some, Bool.not_true, Int.toNat_natCast]
 simp only [casing_Tables.j0]
 rw [if_neg (by simp), ht, Option.bind_some, List.length_map, l0]
theorem u64_small (n : Int) (h0 : 0 ≤ n) (h : n ≤ 1000000) : IntKind.u64.wrap n = n := by
 have : IntKind.u64.wrap n = n % 18446744073709551616 := by
  unfold IntKind.wrap
  simp [IntKind.bits, IntKind.signed]
 rw [this]
 omega
theorem u64_range (n : Int) : 0 ≤ IntKind.u64.wrap n := by
 have : IntKind.u64.wrap n = n % 18446744073709551616 := by
  unfold IntKind.wrap
  simp [IntKind.bits, IntKind.signed]
 rw [this]
 omega
theorem mod_f (x : Int) (n : Nat) (h1 : 1 ≤ n) (h2 : n ≤ 1000) : ∃ m : Nat, remouldlaw01_mod.f x (n : Int) = some (m : Int) ∧ m < n := by
 unfold remouldlaw01_mod.f
 rw [u64_small (n : Int) (by omega) (by omega), if_neg (by omega)]
 have h0 := u64_range x
 have hm := Int.tmod_lt_of_pos (IntKind.u64.wrap x) (show (0 : Int) < (n : Int) by omega)
 have hn := Int.tmod_nonneg (n : Int) h0
 refine ⟨(Int.tmod (IntKind.u64.wrap x) (n : Int)).toNat, ?_, by omega⟩
 rw [wrapN _ (by omega) (by omega)]
 congr 1
 omega
theorem bt_strBytes (s : ByteArray) (i : Nat) (h : i < s.size) : 0 ≤ bt s (i : Int) ∧ bt s (i : Int) ≤ 255 := bt_range s _
theorem word_l0 (s : ByteArray) (g : Nat) (hg : g = 1 ∨ g = 2) (most : Nat) (hm : most ≤ 100) : ∀ (m j k : Nat) (w : List Int), j + m = most → w.length = j → (∀ c ∈ w, letG g c) → m < k →
  ∃ u : List Int, remouldlaw01_word.l0 k s (g : Int) (most : Int) w (j : Int) = some (strOfNums u) ∧ (∀ c ∈ u, letG g c) ∧ u.length ≤ most
 | 0, j, k, w, h, hw, hl, hk => by
  obtain ⟨k, rfl⟩ : ∃ q, k = q + 1 := ⟨k - 1, by omega⟩
  simp only [remouldlaw01_word.l0]
  refine ⟨w, ?_, hl, by omega⟩
  by_cases hj : (j : Int) < (s.size : Int)
  ·rw [if_pos hj, if_neg (by omega)]
  ·rw [if_neg hj]
 | m + 1, j, k, w, h, hw, hl, hk => by
  obtain ⟨k, rfl⟩ : ∃ q, k = q + 1 := ⟨k - 1, by omega⟩
  simp only [remouldlaw01_word.l0]
  by_cases hj : (j : Int) < (s.size : Int)
  rotate_left
  ·rw [if_neg hj]
   exact ⟨w, rfl, hl, by omega⟩
  have hb := bt_strBytes s j (by omega)
  obtain ⟨b, hbn⟩ := Int.eq_ofNat_of_zero_le hb.1
  have h2g : wrap64 (2 * (g : Int)) = ((2 * g : Nat) : Int) := by rw [wrapN _ (by omega) (by omega)]; omega
  have hq : Int.tmod (b : Int) ((2 * g : Nat) : Int) = ((b % (2 * g) : Nat) : Int) := rfl
  have hlt : b % (2 * g) < 2 * g := Nat.mod_lt _ (by omega)
  rw [if_pos hj, if_pos (by omega), if_pos (by omega), h2g, if_neg (by omega), hbn, wrapN (b : Int) (by omega) (by omega), hq, if_pos (by omega), if_pos (by omega), if_pos (by omega), wrapN ((j : Int) + 1) (by omega) (by omega), show ((j : Int) + 1) = ((j + 1 : Nat) : Int) from by omega]
  have hc : letG g (bt (⟨#[97, 65, 98, 66]⟩ : ByteArray) ((b % (2 * g) : Nat) : Int)) := by
   have hcases : b % (2 * g) = 0 ∨ b % (2 * g) = 1 ∨ (g = 2 ∧ (b % (2 * g) = 2 ∨ b % (2 * g) = 3)) := by omega
   rcases hcases with e | e | ⟨e2, e | e⟩
   ·rw [e]; exact Or.inl (by kernel_rfl)
   ·rw [e]; exact Or.inr (Or.inl (by kernel_rfl))
   ·rw [e]; exact Or.inr (Or.inr ⟨e2, Or.inl (by kernel_rfl)⟩)
   ·rw [e]; exact Or.inr (Or.inr ⟨e2, Or.inr (by kernel_rfl)⟩)
  exact word_l0 s g hg most hm m (j + 1) k _ (by omega) (by simp [hw]) (fun c hc' => by
   rcases List.mem_append.1 hc' with h1 | h1
   ·exact hl c h1
   ·rw [List.mem_singleton.1 h1]; exact hc) (by omega)
theorem word_f (s : ByteArray) (g : Nat) (hg : g = 1 ∨ g = 2) (most : Nat) (hm : most ≤ 100) (k : Nat) (hk : most < k) :
  ∃ u : List Int, remouldlaw01_word.f k s (g : Int) (most : Int) = some (strOfNums u) ∧ (∀ c ∈ u, letG g c) ∧ u.length ≤ most := by
 have := word_l0 s g hg most hm most 0 k [] (by omega) rfl (by simp) hk
 simpa [remouldlaw01_word.f] using this
theorem strBytes_nums (l : List Int) (h : ∀ c ∈ l, letC c) : strBytes (strOfNums l) = l := by
 unfold strBytes strOfNums
 simp only [List.map_map]
 induction l with
 | nil => rfl
 | cons c l ih =>
  have hc := h c (by simp)
  unfold letC at hc
  have := ih (fun x hx => h x (by simp [hx]))
  simp
  exact ⟨by omega, this⟩
theorem allLet_of {g : Nat} {s : ByteArray} (h : ∀ c ∈ strBytes s, letG g c) : allLet g s = true := by
 unfold allLet
 rw [List.all_eq_true]
 intro b hb
 have hc := h (b.toNat : Int) (List.mem_map.2 ⟨b, hb, rfl⟩)
 unfold letG at hc
 unfold isLet
 simp
 omega
theorem isGroupB_of {g : Nat} (hg : g = 1 ∨ g = 2) {R : List ByteArray} (hR : R.length ≤ 6) (h : ∀ s ∈ R, s.size ≤ 30 ∧ ∀ c ∈ strBytes s, letG g c) : isGroupB (g : Int) R = true := by
 unfold isGroupB
 rw [decide_eq_true ⟨by omega, hR⟩, Bool.true_and, List.all_eq_true]
 intro s hs
 unfold wordOK
 rw [decide_eq_true (h s hs).1, Bool.true_and, Int.toNat_natCast]
 exact allLet_of (h s hs).2
end Go.Proofs.Ytmcihijobilcgaa.PAll
end
section
namespace Go.Proofs.Ytmcihijobilcgaa.Pure
open Go.RowKit Go.Proofs.Ytmcihijobilcgaa.PAll Go.Proofs.YtmcihijobilcgaaW.PrintWords Go.Proofs.YtmcihijobilcgaaW.PrintLast
theorem rules5_l0 (l : List ByteArray) (g : Nat) (hg : g = 1 ∨ g = 2) (h5 : l.length ≤ 5) : ∀ (m j k : Nat) (R : List ByteArray), j + m = 6 → R.length = j → j ≤ l.length → (∀ s ∈ R, s.size ≤ 10 ∧ ∀ c ∈ strBytes s, letG g c) → m + 20 < k →
  ∃ R' : List ByteArray, remouldlaw01_rules.l0 k l (j : Int) (g : Int) R = some ((g : Int), R') ∧ R'.length ≤ 5 ∧ ∀ s ∈ R', s.size ≤ 10 ∧ ∀ c ∈ strBytes s, letG g c
 | 0, j, k, R, h, hR, hjl, hl, hk => by omega
 | m + 1, j, k, R, h, hR, hjl, hl, hk => by
  obtain ⟨k, rfl⟩ : ∃ q, k = q + 1 := ⟨k - 1, by omega⟩
  simp only [remouldlaw01_rules.l0]
  by_cases hj : (j : Int) < (l.length : Int)
  rotate_left
  ·rw [if_neg hj]
   exact ⟨R, rfl, by omega, hl⟩
  obtain ⟨u, hu, hlet, hlen⟩ := word_f (rdOf ByteArray.empty l (j : Int)) g hg 10 (by omega) k (by omega)
  have hu' : remouldlaw01_word.f k (rdOf ByteArray.empty l (j : Int)) (g : Int) 10 = some (strOfNums u) := hu
  have hC : ∀ c ∈ u, letC c := fun c hc => (hlet c hc).letC
  rw [if_pos hj, if_pos (by omega), if_pos (by omega), hu', Option.bind_some, if_pos (by omega), wrapS j (by omega)]
  exact rules5_l0 l g hg h5 m (j + 1) k _ (by omega) (by simp [hR]) (by omega) (fun s hs => by
   rcases List.mem_append.1 hs with h1 | h1
   ·exact hl s h1
   ·rw [List.mem_singleton.1 h1]
    refine ⟨by rw [strOfNums_size u]; omega, ?_⟩
    rw [strBytes_nums u hC]
    exact hlet) (by omega)
theorem rules5_f (x : Int) (l : List ByteArray) (h5 : l.length ≤ 5) (k : Nat) (hk : 40 ≤ k) : ∃ (g : Nat) (R : List ByteArray), (g = 1 ∨ g = 2) ∧ remouldlaw01_rules.f k x l = some ((g : Int), R) ∧ R.length ≤ 5 ∧ ∀ s ∈ R, s.size ≤ 10 ∧ ∀ c ∈ strBytes s, letG g c := by
 obtain ⟨m, hm, hlt⟩ := mod_f x 2 (by omega) (by omega)
 have hm' : remouldlaw01_mod.f x 2 = some (m : Int) := hm
 obtain ⟨R, hR, h2, h3⟩ := rules5_l0 l (1 + m) (by omega) h5 6 0 k [] (by omega) rfl (by omega) (by simp) (by omega)
 refine ⟨1 + m, R, by omega, ?_, h2, h3⟩
 unfold remouldlaw01_rules.f
 rw [hm', Option.bind_some, wrapN _ (by omega) (by omega), show (1 : Int) + (m : Int) = ((1 + m : Nat) : Int) from by omega]
 exact hR
theorem cutL_len (l : List ByteArray) : (cutL l).length ≤ 5 := by
 unfold cutL
 split
 ·simp; omega
 ·omega
theorem keeps_of {T : List (List Int)} (h : Tab T) (R : List ByteArray) (hR : R.length ≤ 6) (hs : ∀ s ∈ R, s.size ≤ 30) (hlet : ∀ s ∈ R, ∀ c ∈ strBytes s, letG T.length c) (k : Nat) (hk : 600 ≤ k) : casing_Keeps.f k (T.length : Int) R T = some (keepsB T R, 0) := by
 have hgr : isGroupB (T.length : Int) R = true := isGroupB_of h.g12 hR (fun s hs' => ⟨hs s hs', hlet s hs'⟩)
 obtain ⟨b, hb, ib⟩ := keeps_f h R (by omega) (fun s hs' => by have := hs s hs'; omega) hlet (T.length : Int) (T.length : Int) k (by omega)
 have hbb : b = keepsB T R := by
  rw [Bool.eq_iff_iff, ib, keepsB_iff]
  exact ⟨fun h => h.1, fun h => ⟨h, rfl⟩⟩
 unfold casing_Keeps.f
 rw [newTable_yes ((okT_tab T).2 h), Option.bind_some, isGroup_f, hgr, Option.bind_some, if_pos rfl]
 simp only [Bool.not_true, Bool.false_eq_true, if_false, if_true]
 rw [hb, hbb, Option.bind_some]
section
variable (g d : Nat) (hg : g = 1 ∨ g = 2) (h1 : 1 ≤ d) (h5 : d ≤ 5) (A : List (List Nat × List Nat)) (hA : ∀ p ∈ A, p ∈ pairsN g d) (hl : A.length ≤ 14400) (w : ByteArray) (hw : w.size ≤ 30) (hlet : ∀ c ∈ strBytes w, letG g c)
include hg h1 h5 hA hl hw hlet
theorem more_l0 : ∀ (m i k : Nat), i + m = A.length → 2 * m + 1500 ≤ k →
  remouldlaw01_CasingMore.l0 k (A.map fun p => tabN g p.1 p.2) ((A.filter fun p => keepsB (tabN g p.1 p.2) [w]).map fun p => tabN g p.1 p.2) ((((A.take i).filter fun p => keepsB (tabN g p.1 p.2) [w]).length : Nat) : Int) (i : Int) (g : Int) [w] = some true
 | 0, i, k, e, hk => by
  obtain ⟨k, rfl⟩ : ∃ r, k = r + 1 := ⟨k - 1, by omega⟩
  rw [remouldlaw01_CasingMore.l0, if_neg (by rw [List.length_map]; omega), List.take_of_length_le (by omega), if_pos (by rw [List.length_map])]
  rfl
 | m + 1, i, k, e, hk => by
  obtain ⟨k, rfl⟩ : ∃ r, k = r + 2 := ⟨k - 2, by omega⟩
  have hi : i < A.length := by omega
  obtain ⟨tab, hn⟩ := tabN_tab hg h1 h5 (hA _ (List.getElem_mem hi))
  have hgl : (tabN g A[i].1 A[i].2).length = g := by rcases hg with rfl | rfl <;> rfl
  have hk2 : casing_Keeps.f (k + 1) (g : Int) [w] (tabN g A[i].1 A[i].2) = some (keepsB (tabN g A[i].1 A[i].2) [w], 0) := by
   have := keeps_of tab [w] (by simp) (by simp; exact hw) (by rw [hgl]; simpa using hlet) (k + 1) (by omega)
   rwa [hgl] at this
  have hr : rd_L6 (A.map fun p => tabN g p.1 p.2) (i : Int) = tabN g A[i].1 A[i].2 := by simp [rd_L6, hi]
  have htk : (A.take (i + 1)).filter (fun p => keepsB (tabN g p.1 p.2) [w]) = (A.take i).filter (fun p => keepsB (tabN g p.1 p.2) [w]) ++ (if keepsB (tabN g A[i].1 A[i].2) [w] = true then [A[i]] else []) := by
   rw [List.take_succ_eq_append_getElem hi, List.filter_append]
   congr 1
   cases hb : keepsB (tabN g A[i].1 A[i].2) [w] <;> simp [hb]
  have hdr : A.filter (fun p => keepsB (tabN g p.1 p.2) [w]) = (A.take i).filter (fun p => keepsB (tabN g p.1 p.2) [w]) ++ (A.drop i).filter (fun p => keepsB (tabN g p.1 p.2) [w]) := by
   rw [← List.filter_append, List.take_append_drop]
  have ih := more_l0 m (i + 1) k (by omega) (by omega)
  have hfl : ((A.take i).filter (fun p => keepsB (tabN g p.1 p.2) [w])).length ≤ i := Nat.le_trans (List.length_filter_le _ _) (by rw [List.length_take]; omega)
  rw [remouldlaw01_CasingMore.l0, if_pos (by rw [List.length_map]; omega), if_pos (by omega), hr, hk2, Option.bind_some, if_pos rfl]
  cases hb : keepsB (tabN g A[i].1 A[i].2) [w]
  ·rw [if_neg (by simp), wrapS i (by omega)]
   rw [htk, hb, if_neg (by simp), List.append_nil] at ih
   have hmono := remouldlaw01_CasingMore.mono_l k
   exact hmono.2.1 _ _ _ _ _ _ _ ih
  ·rw [if_pos rfl]
   obtain ⟨q, hq⟩ : ∃ q, ((A.take i).filter (fun p => keepsB (tabN g p.1 p.2) [w])).length = q := ⟨_, rfl⟩
   have hcons : (A.drop i).filter (fun p => keepsB (tabN g p.1 p.2) [w]) = A[i] :: (A.drop (i + 1)).filter (fun p => keepsB (tabN g p.1 p.2) [w]) := by
    rw [List.drop_eq_getElem_cons hi, List.filter_cons, hb, if_pos rfl]
   rw [hcons] at hdr
   have hql : q < (A.filter (fun p => keepsB (tabN g p.1 p.2) [w])).length := by rw [hdr, List.length_append, List.length_cons]; omega
   have hgq : (A.filter (fun p => keepsB (tabN g p.1 p.2) [w]))[q]? = some A[i] := by
    rw [hdr, List.getElem?_append_right (by omega), hq, Nat.sub_self]
    rfl
   have hrq : rd_L6 ((A.filter fun p => keepsB (tabN g p.1 p.2) [w]).map fun p => tabN g p.1 p.2) (q : Int) = tabN g A[i].1 A[i].2 := by
    simp [rd_L6, List.getD, List.getElem?_map, hgq]
   rw [htk, hb, if_pos rfl, List.length_append, List.length_singleton, hq] at ih
   rw [hq] at hfl ⊢
   rw [if_neg (by rw [List.length_map]; omega), if_pos (by omega), if_pos (by rw [List.length_map]; omega), hrq, Same_f _ _ (by have := tab.g2; omega) (fun r hr => by have := tab.rows r hr; have := tab.d5; omega) (k + 1) (by omega), Option.bind_some, decide_eq_true rfl, Bool.not_true, remouldlaw01_CasingMore.j2, if_neg (by simp), wrapS q (by omega), wrapS i (by omega)]
   exact ih
end
theorem tables_more (g d : Nat) (R : List ByteArray) (w : ByteArray) : tablesN g d (R ++ [w]) = (tablesN g d R).filter fun p => keepsB (tabN g p.1 p.2) [w] := by
 unfold tablesN
 rw [List.filter_filter]
 apply List.filter_congr
 intro p _
 have : keepsB (tabN g p.1 p.2) (R ++ [w]) = (keepsB (tabN g p.1 p.2) R && keepsB (tabN g p.1 p.2) [w]) := by
  unfold keepsB
  rw [List.all_append]
 rw [this]
 cases stdN g d p.1 p.2 <;> cases keepsB (tabN g p.1 p.2) R <;> cases keepsB (tabN g p.1 p.2) [w] <;> rfl
theorem more_at (a0 : Int) (l : List ByteArray) (s : ByteArray) (a3 : Int) (k : Nat) (hk : 40000 ≤ k) : remouldlaw01_CasingMore.f k a0 l s a3 = some true := by
 obtain ⟨g, R, hg, hr, hR, hs⟩ := rules5_f a0 (cutL l) (cutL_len l) k (by omega)
 obtain ⟨u, hu, hlet, hlen⟩ := word_f s g hg 10 (by omega) k (by omega)
 obtain ⟨m, hm, hlt⟩ := mod_f a3 4 (by omega) (by omega)
 have hm' : remouldlaw01_mod.f a3 4 = some (m : Int) := hm
 have hu' : remouldlaw01_word.f k s (g : Int) 10 = some (strOfNums u) := hu
 have hC : ∀ c ∈ u, letC c := fun c hc => (hlet c hc).letC
 have hub := strBytes_strOfNums u hC
 have hd : wrap64 (1 + (m : Int)) = ((m + 1 : Nat) : Int) := by rw [Int.add_comm]; exact wrapS m (by omega)
 have hgr1 : isGroupB (g : Int) R = true := isGroupB_of hg (by omega) (fun x hx => ⟨by have := (hs x hx).1; omega, (hs x hx).2⟩)
 have hgr2 : isGroupB (g : Int) (R ++ [strOfNums u]) = true := isGroupB_of hg (by simp; omega) (fun x hx => by
  rcases List.mem_append.1 hx with hx | hx
  ·exact ⟨by have := (hs x hx).1; clear hd; omega, (hs x hx).2⟩
  ·rw [List.mem_singleton.1 hx, strOfNums_size, hub]
   exact ⟨by clear hd; omega, hlet⟩)
 have m1 : 1 ≤ m + 1 := by clear hd; omega
 have m5 : m + 1 ≤ 5 := by clear hd; omega
 have k1 : 15000 ≤ k := by clear hd; omega
 have t1 := Tables_yes hgr1 m1 m5 k k1
 have t2 := Tables_yes hgr2 m1 m5 k k1
 rw [Int.toNat_natCast] at t1 t2
 rw [remouldlaw01_CasingMore.f, remouldlaw01_CasingMore.fv, hr, Option.bind_some, hu', Option.bind_some, hm', Option.bind_some, if_pos (by clear hd; simp; omega), Option.bind_some, Option.bind_some, if_pos (by clear hd; simp; omega), Option.bind_some, hd, t1, Option.bind_some, List.nil_append, t2, Option.bind_some, if_pos rfl, tables_more]
 clear hd t1 t2 hr hu' hu hm hm'
 obtain ⟨k, rfl⟩ : ∃ r, k = r + 1 := ⟨k - 1, by omega⟩
 have hl := tables_len hg m1 m5 R
 have l0 := more_l0 g (m + 1) hg m1 m5 (tablesN g (m + 1) R) (fun p hp => (tables_mem hp).1) hl (strOfNums u) (by rw [strOfNums_size]; omega) (by rw [hub]; exact hlet) _ 0 k (Nat.zero_add _) (by omega)
 rw [remouldlaw01_CasingMore.j0, if_neg (by simp)]
 exact l0
theorem CasingMore (a0 : Int) (l : List ByteArray) (s : ByteArray) (a3 : Int) (h0 : (Lit.int .i64 a0).wf = true) (h1 : l.length ≤ 9223372036854775807) (h2 : s.size ≤ 140737488351232) (h3 : (Lit.int .i64 a3).wf = true) : ∃ k, remouldlaw01_CasingMore.f k a0 l s a3 = some true := ⟨40000, more_at a0 l s a3 40000 (Nat.le_refl _)⟩
end Go.Proofs.Ytmcihijobilcgaa.Pure
end
section
namespace Go.Proofs.Ytmcihijobilcgaa.PAll
open Go.RowKit Go.ChangeShapes Go.WideShapes Go.ChangeAt Go.Deep Go.Proofs.YtmcihijobilcgaaW.PrintWords
section
variable {H : Type} {enc : TypeId × Value → H} {P : Program} {w : World} {base : Nat}
theorem open_stringsC {t e : TypeId} {fuel : Nat} {v : Value} {x : DataW H × List MemPlace} (ht : P.underlying t = some (.slice e)) (he : P.underlying e = some .string) (ce : P.cellsOf e = 1)
  (h : DataW.trod enc P w base (fun _ => true) true fuel t [v] = some x) :
  ∃ (A : Option Addr) (c : Nat) (l : List ByteArray), v = .slice A l.length c ∧ l.length ≤ c ∧ Kd.C Kd.string w A l.length l := by
 rcases open_strings ht he ce h with ⟨hcs, _⟩ | ⟨a, l, c, zs, hcs, _, hl, hm, hz, _, hcell, hwz⟩
 ·obtain rfl := List.singleton_inj.1 hcs
  exact ⟨none, 0, [], rfl, Nat.le_refl _, Kd.C_nil _ _⟩
 ·obtain rfl := List.singleton_inj.1 hcs
  simp at hz
  have hlen : (zs.take l).length = l := by simp; omega
  refine ⟨some a, c, zs.take l, by rw [hlen], by omega, Kd.C_of_reads (enc := Value.string) (d := ByteArray.empty) (h1 := fun _ => rfl) ⟨rfl, by rw [hlen]; unfold maxLen at hm; omega, fun _ => ⟨a, rfl, fun j hj => ?_⟩⟩⟩
  rw [hlen] at hj
  rw [hcell j (by omega)]
  simp [List.getD, List.getElem?_take, hj]
end
end Go.Proofs.Ytmcihijobilcgaa.PAll
end
section
namespace Go.Proofs.Ytmcihijobilcgaa.casingMore
open Go.ChangeShapes Go.WideShapes Go.ChangeAt Go.RowKit
open Go.ChangeMaps (open_string shut_string)
theorem own : ownKnob Try.prog.godebug = none := by kernel_rfl
theorem laidOut : laidOutB Try.prog = true := by kernel_rfl
theorem lifted (os : Os) (started : os.Started) (H : Type) (enc : TypeId × Value → H) :
  ReturnsInHanded {} Try.checked os 11 .any (Rows.casingMoreSpec.pre6 enc Try.prog Try.f11 Rows.casingMoreRow.domain false) (Rows.casingMoreSpec.post enc Try.prog Try.f11 false true false false) := by
 refine returnsInHanded_of_change_sized (C := Try.checked) own started (by kernel_rfl) Try.func11
  (ChangeSpec.witness6 (enc := enc) (C := Try.checked) false ⟨#[], #[.int .i64 0, .slice none 0 0, .string ByteArray.empty, .int .i64 0], []⟩ 8 (by kernel_rfl) (by kernel_rfl) (by kernel_rfl) (by kernel_rfl)) ?_
 intro W base args ds gs before hval0 hW hcnd hsz0 _
 have hsz : (DataW.weightsEach Try.prog (Try.f11.params.toList ++ Rows.casingMoreSpec.plain.varTypes Try.prog) (ds ++ gs)).all (· ≤ reachBytes) = true := hsz0
 have hval : ∀ (j : Nat) t v, Try.f11.params[j]? = some t → args[j]? = some v → Value.okWide Try.prog W .any base t v := hval0
 have hW' := hW
 obtain ⟨p, q, hA0, hV, rfl, hfz, hnd⟩ := hW
 have hA : DataW.TrodAll enc Try.prog W 0 (fun _ => true) true Try.f11.params.toList args.toList ds p := hA0
 rw [Try.params11] at hA hval hsz
 obtain ⟨v0, vs0, d0, ds0, p0, q0, hargs, rfl, rfl, h0, r0⟩ := trodAll_cons hA
 obtain ⟨v1, vs1, d1, ds1, p1, q1, rfl, rfl, rfl, h1, r1⟩ := trodAll_cons r0
 obtain ⟨v2, vs2, d2, ds2, p2, q2, rfl, rfl, rfl, h2, r2⟩ := trodAll_cons r1
 obtain ⟨v3, vs3, d3, ds3, p3, q3, rfl, rfl, rfl, h3, r3⟩ := trodAll_cons r2
 obtain ⟨rfl, rfl, rfl⟩ := trodAll_nil r3
 obtain rfl : args = #[v0, v1, v2, v3] := by cases args; simp_all
 obtain ⟨rfl, rfl⟩ := trodVars_none hV
 obtain ⟨a0, rfl, rfl, rfl, w0⟩ := open_int Try.underlying3 (hval 0 3 v0 rfl rfl) h0
 have k1 := h1
 have lt1 : ∀ x ∈ p1, x.block < W.heap.size := by obtain ⟨m, hm⟩ := k1; exact DataW.trod_lt m _ _ _ hm
 obtain ⟨A1, len1, c1, rfl⟩ := okWide_slice Try.underlying22 (hval 1 22 v1 rfl rfl)
 obtain ⟨m1, g1⟩ := h1
 obtain ⟨B1, b1, l1, e1, j1, C1⟩ := PAll.open_stringsC (v := .slice A1 len1 c1) Try.underlying22 Try.underlying9 (by kernel_rfl) g1
 cases e1
 obtain ⟨a2, rfl, rfl, rfl, y2⟩ := open_string Try.underlying9 (hval 2 9 v2 rfl rfl) h2
 have w2 : a2.size ≤ 140737488351232 := by
  have z := sized_string hsz (j := 2) (t := 9) rfl rfl
  rw [Array.length_toList] at z
  exact z
 obtain ⟨a3, rfl, rfl, rfl, w3⟩ := open_int Try.underlying3 (hval 3 3 v3 rfl rfl) h3
 clear hA0 hval0 hsz0 hsz
 obtain ⟨k, h⟩ := Pure.CasingMore a0 l1 a2 a3 w0 C1.2.1 w2 w3
 refine (PAll.remouldlaw01_CasingMore.calls k a0 _ _ l1 a2 a3 true ⟨rfl⟩ W C1 j1 h).mono fun e W' ⟨he, bel⟩ => ?_
 subst he
 exact ⟨_, rfl, _, _, _, [], _, [], hW', trodAll_mk1 (shut_bool Try.underlying4 _), (trodAll_cons_mk (shut_int Try.underlying3 w0) (trodAll_cons_mk (Below.trod laidOut (by kernel_rfl) (of_decide_eq_true (by kernel_rfl)) k1 bel lt1) (trodAll_cons_mk (shut_string Try.underlying9 y2) (trodAll_cons_mk (shut_int Try.underlying3 w3) trodAll_mk0)))), rfl, bel.frame _, fun h => by cases h⟩
theorem over : Rows.casingMoreRow.holds Try.pinned (OpenSpec.ofChange Rows.casingMoreSpec) :=
 OpenClaim.holds_of_wide 11 Try.f11 rfl rfl rfl rfl rfl rfl rfl ⟨rfl, rfl, rfl, rfl, rfl⟩ rfl rfl rfl rfl rfl (by kernel_rfl) Try.func11 (by kernel_rfl)
  (of_decide_eq_true (by kernel_rfl)) (by unfold Func.isWrapper; first | (rw [if_pos (by decide +kernel)]; kernel_rfl) | (rw [if_neg (by decide +kernel)]; exact ⟨rfl, rfl⟩))
  (fun os started H enc _ => lifted os started H enc)
theorem proved : Rows.CasingMoreSaid := over
end Go.Proofs.Ytmcihijobilcgaa.casingMore
namespace Go.Proofs.Ytmcihijobilcgaa
theorem casingMore_holds : Rows.CasingMoreSaid := casingMore.proved
end Go.Proofs.Ytmcihijobilcgaa
end
