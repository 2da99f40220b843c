/- Sums of 256 bits, plainly: words, a block's mix, what waits, and the end. -/
import Derived.Test.YticcchgckljlnaaDoorBits3264
import Derived.Test.YticcchgckljlnaaDoorNumF
set_option linter.unusedSimpArgs false
set_option linter.unusedVariables false
namespace Go.Proofs.Num
open Go
def rotr (x n : Nat) : Nat := x / 2 ^ n + x % 2 ^ n * 2 ^ (32 - n)
theorem rotr_or {x n : Nat} (hx : x < 4294967296) (hn : n ≤ 32) : (x * 2 ^ (32 - n) % 4294967296) ||| (x / 2 ^ n) = rotr x n := by
  have hp : (4294967296 : Nat) = 2 ^ (32 - n) * 2 ^ n := by rw [← Nat.pow_add, show 32 - n + n = 32 by omega]
  have h1 : x * 2 ^ (32 - n) % 4294967296 = 2 ^ (32 - n) * (x % 2 ^ n) := by
    rw [hp, Nat.mul_comm x, Nat.mul_mod_mul_left]
  have h2 : x / 2 ^ n < 2 ^ (32 - n) := by
    refine Nat.div_lt_of_lt_mul ?_
    rw [Nat.mul_comm, ← hp]; exact hx
  rw [h1, Nat.mul_comm, ← Nat.shiftLeft_eq, ← Nat.shiftLeft_add_eq_or_of_lt h2, Nat.shiftLeft_eq]
  unfold rotr
  omega
theorem rotr_lt {x n : Nat} (hx : x < 4294967296) (hn : n ≤ 32) : rotr x n < 4294967296 := by
  rw [← rotr_or hx hn]
  exact or_lt32 (mod_lt32 _) (div_lt32 _ hx)
def sg0 (a : Nat) : Nat := (rotr a 7 ^^^ rotr a 18) ^^^ (a / 2 ^ 3)
def sg1 (a : Nat) : Nat := (rotr a 17 ^^^ rotr a 19) ^^^ (a / 2 ^ 10)
def bg1 (a : Nat) : Nat := (rotr a 6 ^^^ rotr a 11) ^^^ rotr a 25
def bg0 (a : Nat) : Nat := (rotr a 2 ^^^ rotr a 13) ^^^ rotr a 22
def chs (e f g : Nat) : Nat := (e &&& f) ^^^ ((4294967295 ^^^ e) &&& g)
def maj (a b c : Nat) : Nat := ((a &&& b) ^^^ (a &&& c)) ^^^ (b &&& c)
section
variable {a b c : Nat} (ha : a < 4294967296)
include ha
theorem sg0_lt : sg0 a < 4294967296 := xor_lt32 (xor_lt32 (rotr_lt ha (by decide)) (rotr_lt ha (by decide))) (div_lt32 _ ha)
theorem sg1_lt : sg1 a < 4294967296 := xor_lt32 (xor_lt32 (rotr_lt ha (by decide)) (rotr_lt ha (by decide))) (div_lt32 _ ha)
theorem bg0_lt : bg0 a < 4294967296 := xor_lt32 (xor_lt32 (rotr_lt ha (by decide)) (rotr_lt ha (by decide))) (rotr_lt ha (by decide))
theorem bg1_lt : bg1 a < 4294967296 := xor_lt32 (xor_lt32 (rotr_lt ha (by decide)) (rotr_lt ha (by decide))) (rotr_lt ha (by decide))
end
theorem chs_lt {e f g : Nat} (hf : f < 4294967296) (hg : g < 4294967296) : chs e f g < 4294967296 := xor_lt32 (and_lt32 hf) (and_lt32 hg)
theorem maj_lt {a b c : Nat} (hb : b < 4294967296) (hc : c < 4294967296) : maj a b c < 4294967296 := xor_lt32 (xor_lt32 (and_lt32 hb) (and_lt32 hc)) (and_lt32 hc)
/-- Four bytes, the highest one first. -/
def be4 (l : List UInt8) (i : Nat) : Nat := ((byteN l i * 256 + byteN l (i + 1)) * 256 + byteN l (i + 2)) * 256 + byteN l (i + 3)
theorem be4_lt (l : List UInt8) (i : Nat) : be4 l i < 4294967296 := by
  have := byteN_lt l i; have := byteN_lt l (i + 1); have := byteN_lt l (i + 2); have := byteN_lt l (i + 3)
  unfold be4; omega
def nextW (l : List UInt8) (p : List Nat) (t : Nat) : Nat :=
  if t < 16 then be4 l (4 * t) else (((p.getD (t - 16) 0 + sg0 (p.getD (t - 15) 0)) % 4294967296 + p.getD (t - 7) 0) % 4294967296 + sg1 (p.getD (t - 2) 0)) % 4294967296
def wlist (l : List UInt8) : Nat → List Nat
  | 0 => []
  | t + 1 => wlist l t ++ [nextW l (wlist l t) t]
theorem wlist_len (l : List UInt8) : ∀ t, (wlist l t).length = t
  | 0 => rfl
  | t + 1 => by simp [wlist, wlist_len l t]
theorem wlist_get (l : List UInt8) : ∀ {t j : Nat}, j < t → (wlist l t).getD j 0 = nextW l (wlist l j) j
  | t + 1, j, h => by
    by_cases hj : j < t
    · rw [← wlist_get l hj]
      simp only [wlist, List.getD_eq_getElem?_getD]
      rw [List.getElem?_append_left (by rw [wlist_len]; exact hj)]
    · have e : j = t := by omega
      subst e
      simp only [wlist, List.getD_eq_getElem?_getD]
      rw [List.getElem?_append_right (by rw [wlist_len]; exact Nat.le_refl _), wlist_len, Nat.sub_self]
      rfl
/-- The words that are made of a block. -/
def shW (l : List UInt8) (t : Nat) : Nat := nextW l (wlist l t) t
theorem shW_lo {l : List UInt8} {t : Nat} (h : t < 16) : shW l t = be4 l (4 * t) := if_pos h
theorem shW_hi {l : List UInt8} {t : Nat} (h : ¬ t < 16) : shW l t = (((shW l (t - 16) + sg0 (shW l (t - 15))) % 4294967296 + shW l (t - 7)) % 4294967296 + sg1 (shW l (t - 2))) % 4294967296 := by
  have h1 := wlist_get l (t := t) (j := t - 16) (by omega)
  have h2 := wlist_get l (t := t) (j := t - 15) (by omega)
  have h3 := wlist_get l (t := t) (j := t - 7) (by omega)
  have h4 := wlist_get l (t := t) (j := t - 2) (by omega)
  show nextW l (wlist l t) t = _
  unfold nextW
  rw [if_neg h, h1, h2, h3, h4]
  rfl
theorem shW_lt (l : List UInt8) (t : Nat) : shW l t < 4294967296 := by
  by_cases h : t < 16
  · rw [shW_lo h]; exact be4_lt ..
  · rw [shW_hi h]; exact mod_lt32 _
/-- The first t of the words, and zeros. -/
def wcells (l : List UInt8) (t : Nat) : List Value := (List.range 64).map fun i => .int .u32 ((if i < t then shW l i else 0 : Nat) : Int)
theorem wcells_get (l : List UInt8) (t : Nat) {j : Nat} (h : j < 64) : (wcells l t)[j]? = some (.int .u32 ((if j < t then shW l j else 0 : Nat) : Int)) := by simp [wcells, h]
theorem wcells_at (l : List UInt8) {t j : Nat} (h : j < 64) (ht : j < t) : (wcells l t)[j]? = some (.int .u32 ((shW l j : Nat) : Int)) := by rw [wcells_get l t h, if_pos ht]
theorem wcells_len (l : List UInt8) (t : Nat) : (wcells l t).length = 64 := by simp [wcells]
theorem wcells_set (l : List UInt8) {t : Nat} (h : t < 64) : (wcells l t).set t (.int .u32 ((shW l t : Nat) : Int)) = wcells l (t + 1) := by
  refine List.ext_getElem? fun i => ?_
  rw [List.getElem?_set]
  by_cases hi : i < 64
  · rw [wcells_get l (t + 1) hi]
    split
    · rename_i e
      subst e
      rw [if_pos (by rw [wcells_len]; exact hi), if_pos (Nat.lt_succ_self _)]
    · rw [wcells_get l t hi]
      congr 4
      simp only [eq_iff_iff]
      omega
  · rw [if_neg (by omega), List.getElem?_eq_none (by rw [wcells_len]; omega), List.getElem?_eq_none (by rw [wcells_len]; omega)]
theorem wcells_one (l : List UInt8) (t : Nat) : ∀ v ∈ wcells l t, v.oneCell' = true := by
  intro v hv
  simp only [wcells, List.mem_map] at hv
  obtain ⟨_, _, rfl⟩ := hv
  rfl
theorem wcells_zero (l : List UInt8) : wcells l 0 = List.replicate 64 (.int .u32 0) := by simp [wcells, List.replicate]; rfl
structure S8 where
  a : Nat
  b : Nat
  c : Nat
  d : Nat
  e : Nat
  f : Nat
  g : Nat
  h : Nat
structure S8.Ok (v : S8) : Prop where
  a : v.a < 4294967296
  b : v.b < 4294967296
  c : v.c < 4294967296
  d : v.d < 4294967296
  e : v.e < 4294967296
  f : v.f < 4294967296
  g : v.g < 4294967296
  h : v.h < 4294967296
def one (k w : Nat) (v : S8) : Nat := ((((v.h + bg1 v.e) % 4294967296 + chs v.e v.f v.g) % 4294967296 + k) % 4294967296 + w) % 4294967296
def two (v : S8) : Nat := (bg0 v.a + maj v.a v.b v.c) % 4294967296
def rnd (k w : Nat) (v : S8) : S8 := ⟨(one k w v + two v) % 4294967296, v.a, v.b, v.c, (v.d + one k w v) % 4294967296, v.e, v.f, v.g⟩
theorem rnd_ok {k w : Nat} {v : S8} (h : v.Ok) : (rnd k w v).Ok := ⟨mod_lt32 _, h.a, h.b, h.c, mod_lt32 _, h.e, h.f, h.g⟩
def keyL : List Nat := [1116352408, 1899447441, 3049323471, 3921009573, 961987163, 1508970993, 2453635748, 2870763221, 3624381080, 310598401, 607225278, 1426881987, 1925078388, 2162078206, 2614888103, 3248222580, 3835390401, 4022224774, 264347078, 604807628, 770255983, 1249150122, 1555081692, 1996064986, 2554220882, 2821834349, 2952996808, 3210313671, 3336571891, 3584528711, 113926993, 338241895, 666307205, 773529912, 1294757372, 1396182291, 1695183700, 1986661051, 2177026350, 2456956037, 2730485921, 2820302411, 3259730800, 3345764771, 3516065817, 3600352804, 4094571909, 275423344, 430227734, 506948616, 659060556, 883997877, 958139571, 1322822218, 1537002063, 1747873779, 1955562222, 2024104815, 2227730452, 2361852424, 2428436474, 2756734187, 3204031479, 3329325298]
def keyN (t : Nat) : Nat := keyL.getD t 0
def kcells : List Value := keyL.map fun k => .int .u32 ((k : Nat) : Int)
theorem kcells_get {t : Nat} (h : t < 64) : kcells[t]? = some (.int .u32 ((keyN t : Nat) : Int)) := by
  have hl : t < keyL.length := h
  simp [kcells, keyN, List.getD_eq_getElem?_getD, hl]
theorem key_all : ∀ t, t < 64 → keyN t < 4294967296 := by decide
def rnds (l : List UInt8) (h : S8) : Nat → S8
  | 0 => h
  | t + 1 => rnd (keyN t) (shW l t) (rnds l h t)
theorem rnds_ok {l : List UInt8} {h : S8} (hh : h.Ok) : ∀ t, (rnds l h t).Ok
  | 0 => hh
  | t + 1 => rnd_ok (rnds_ok hh t)
def plus8 (h v : S8) : S8 := ⟨(h.a + v.a) % 4294967296, (h.b + v.b) % 4294967296, (h.c + v.c) % 4294967296, (h.d + v.d) % 4294967296, (h.e + v.e) % 4294967296, (h.f + v.f) % 4294967296, (h.g + v.g) % 4294967296, (h.h + v.h) % 4294967296⟩
/-- A state behind a block: of the first 64 bytes. -/
def mixS (h : S8) (l : List UInt8) : S8 := plus8 h (rnds l h 64)
theorem plus8_ok (h v : S8) : (plus8 h v).Ok := ⟨mod_lt32 _, mod_lt32 _, mod_lt32 _, mod_lt32 _, mod_lt32 _, mod_lt32 _, mod_lt32 _, mod_lt32 _⟩
/-- Whole blocks are taken, the rest waits. -/
def takeH (h : S8) (l : List UInt8) : S8 := if _hl : 64 ≤ l.length then takeH (mixS h l) (l.drop 64) else h
termination_by l.length
decreasing_by simp; omega
def takeR (l : List UInt8) : List UInt8 := if _hl : 64 ≤ l.length then takeR (l.drop 64) else l
termination_by l.length
decreasing_by simp; omega
theorem takeH_more {h : S8} {l : List UInt8} (hl : 64 ≤ l.length) : takeH h l = takeH (mixS h l) (l.drop 64) := by rw [takeH]; simp [hl]
theorem takeH_done {h : S8} {l : List UInt8} (hl : ¬ 64 ≤ l.length) : takeH h l = h := by rw [takeH]; simp [hl]
theorem takeR_more {l : List UInt8} (hl : 64 ≤ l.length) : takeR l = takeR (l.drop 64) := by rw [takeR]; simp [hl]
theorem takeR_done {l : List UInt8} (hl : ¬ 64 ≤ l.length) : takeR l = l := by rw [takeR]; simp [hl]
theorem takeH_ok : ∀ (n : Nat) (h : S8) (l : List UInt8), l.length ≤ n → h.Ok → (takeH h l).Ok := by
  intro n
  induction n using Nat.strongRecOn with
  | ind n ih =>
    intro h l hn hh
    by_cases hl : 64 ≤ l.length
    · rw [takeH_more hl]
      exact ih (n - 64) (by omega) _ _ (by rw [List.length_drop]; omega) (plus8_ok _ _)
    · rw [takeH_done hl]; exact hh
theorem takeR_len (l : List UInt8) : (takeR l).length < 64 := by
  generalize hn : l.length = n
  induction n using Nat.strongRecOn generalizing l with
  | ind n ih =>
    by_cases hl : 64 ≤ l.length
    · rw [takeR_more hl]
      exact ih (n - 64) (by omega) _ (by rw [List.length_drop]; omega)
    · rw [takeR_done hl]; omega
theorem byteN_app {l m : List UInt8} {i : Nat} (h : i < l.length) : byteN (l ++ m) i = byteN l i := by
  unfold byteN
  rw [List.getD_eq_getElem?_getD, List.getD_eq_getElem?_getD, List.getElem?_append_left h]
theorem byteN_drop (l : List UInt8) (k i : Nat) : byteN (l.drop k) i = byteN l (k + i) := by
  unfold byteN
  rw [List.getD_eq_getElem?_getD, List.getD_eq_getElem?_getD, List.getElem?_drop]
theorem byteN_take {l : List UInt8} {k i : Nat} (h : i < k) : byteN (l.take k) i = byteN l i := by
  unfold byteN
  rw [List.getD_eq_getElem?_getD, List.getD_eq_getElem?_getD, List.getElem?_take_of_lt h]
/-- Two texts with the same first 64 bytes. -/
theorem nextW_same {l m : List UInt8} (h : ∀ i, i < 64 → byteN l i = byteN m i) (p : List Nat) (t : Nat) : nextW l p t = nextW m p t := by
  unfold nextW
  by_cases ht : t < 16
  · rw [if_pos ht, if_pos ht]
    unfold be4
    rw [h _ (by omega), h _ (by omega), h _ (by omega), h _ (by omega)]
  · rw [if_neg ht, if_neg ht]
theorem wlist_same {l m : List UInt8} (h : ∀ i, i < 64 → byteN l i = byteN m i) : ∀ t, wlist l t = wlist m t
  | 0 => rfl
  | t + 1 => by
    simp only [wlist, wlist_same h t, nextW_same h]
theorem mixS_same {s : S8} {l m : List UInt8} (h : ∀ i, i < 64 → byteN l i = byteN m i) : mixS s l = mixS s m := by
  have e : ∀ t, rnds l s t = rnds m s t := by
    intro t
    induction t with
    | zero => rfl
    | succ t ih =>
      simp only [rnds, ih, shW, wlist_same h, nextW_same h]
  unfold mixS
  rw [e]
theorem take_both (n : Nat) : ∀ (s : S8) (l m : List UInt8), l.length ≤ n → takeH s (l ++ m) = takeH (takeH s l) (takeR l ++ m) ∧ takeR (l ++ m) = takeR (takeR l ++ m) := by
  induction n using Nat.strongRecOn with
  | ind n ih =>
    intro s l m hn
    by_cases hl : 64 ≤ l.length
    · have h2 : 64 ≤ (l ++ m).length := by rw [List.length_append]; omega
      have hd : (l ++ m).drop 64 = l.drop 64 ++ m := List.drop_append_of_le_length hl
      have hm : mixS s (l ++ m) = mixS s l := mixS_same fun i hi => byteN_app (by omega)
      rw [takeH_more h2, takeR_more h2, takeH_more hl, takeR_more hl, hd, hm]
      exact ih (n - 64) (by omega) _ _ _ (by rw [List.length_drop]; omega)
    · rw [takeH_done hl, takeR_done hl]
      exact ⟨rfl, rfl⟩
theorem takeH_append (s : S8) (l m : List UInt8) : takeH s (l ++ m) = takeH (takeH s l) (takeR l ++ m) := (take_both _ s l m (Nat.le_refl _)).1
theorem takeR_append (l m : List UInt8) : takeR (l ++ m) = takeR (takeR l ++ m) := (take_both _ ⟨0, 0, 0, 0, 0, 0, 0, 0⟩ l m (Nat.le_refl _)).2
theorem takeR_mod (l : List UInt8) : (takeR l).length = l.length % 64 := by
  generalize hn : l.length = n
  induction n using Nat.strongRecOn generalizing l with
  | ind n ih =>
    by_cases hl : 64 ≤ l.length
    · rw [takeR_more hl, ih (n - 64) (by omega) _ (by rw [List.length_drop]; omega)]
      omega
    · rw [takeR_done hl]; omega
def H0 : S8 := ⟨1779033703, 3144134277, 1013904242, 2773480762, 1359893119, 2600822924, 528734635, 1541459225⟩
theorem H0_ok : H0.Ok := ⟨by decide, by decide, by decide, by decide, by decide, by decide, by decide, by decide⟩
def S8.get (v : S8) (i : Nat) : Nat := [v.a, v.b, v.c, v.d, v.e, v.f, v.g, v.h].getD i 0
def c8 (v : S8) : List Value := [.int .u32 ((v.a : Nat) : Int), .int .u32 ((v.b : Nat) : Int), .int .u32 ((v.c : Nat) : Int), .int .u32 ((v.d : Nat) : Int), .int .u32 ((v.e : Nat) : Int), .int .u32 ((v.f : Nat) : Int), .int .u32 ((v.g : Nat) : Int), .int .u32 ((v.h : Nat) : Int)]
theorem c8_get (v : S8) {i : Nat} (h : i < 8) : (c8 v)[i]? = some (.int .u32 ((v.get i : Nat) : Int)) := by
  match i, h with
  | 0, _ | 1, _ | 2, _ | 3, _ | 4, _ | 5, _ | 6, _ | 7, _ => rfl
theorem S8.get_lt {v : S8} (h : v.Ok) (i : Nat) : v.get i < 4294967296 := by
  match i with
  | 0 => exact h.a
  | 1 => exact h.b
  | 2 => exact h.c
  | 3 => exact h.d
  | 4 => exact h.e
  | 5 => exact h.f
  | 6 => exact h.g
  | 7 => exact h.h
  | n + 8 => exact (by decide : (0 : Nat) < 4294967296)
/-- A number's last bytes, the highest first. -/
def be8 (n : Nat) : List UInt8 := (List.range 8).map fun i => UInt8.ofNat (n / 256 ^ (7 - i))
/-- What stands behind the bytes at the end: r wait, there were n. -/
def tailL (r n : Nat) : List UInt8 := 128 :: (List.replicate ((119 - r) % 64) 0 ++ be8 (n * 8 % 18446744073709551616))
theorem tailL_len (r n : Nat) : (tailL r n).length = 1 + (119 - r) % 64 + 8 := by simp [tailL, be8]; omega
def tailF (z n i j : Nat) : Nat := if j = 0 then 128 else if 9 + z ≤ j + i then n / 256 ^ (8 + z - j) % 256 else 0
def bl (n : Nat) (f : Nat → Nat) : List Value := (List.range n).map fun j => .int .u8 ((f j : Nat) : Int)
theorem bl_len (n : Nat) (f : Nat → Nat) : (bl n f).length = n := by simp [bl]
theorem bl_get (n : Nat) (f : Nat → Nat) {j : Nat} (h : j < n) : (bl n f)[j]? = some (.int .u8 ((f j : Nat) : Int)) := by simp [bl, h]
theorem bl_ext {n : Nat} {f g : Nat → Nat} (h : ∀ j, j < n → f j = g j) : bl n f = bl n g := by
  unfold bl
  refine List.map_congr_left fun j hj => ?_
  rw [h j (List.mem_range.1 hj)]
theorem bl_set {n : Nat} (f : Nat → Nat) (k v : Nat) : (bl n f).set k (.int .u8 ((v : Nat) : Int)) = bl n (fun j => if j = k then v else f j) := by
  refine List.ext_getElem? fun i => ?_
  rw [List.getElem?_set]
  by_cases hi : i < n
  · rw [bl_get n (fun j => if j = k then v else f j) hi, bl_get _ _ hi]
    by_cases e : k = i
    · subst e
      rw [if_pos rfl, if_pos (by rw [bl_len]; exact hi), if_pos rfl]
    · rw [if_neg e, if_neg (fun h => e h.symm)]
  · rw [List.getElem?_eq_none (l := bl n fun j => if j = k then v else f j) (by rw [bl_len]; omega)]
    split
    · rw [if_neg (by rw [bl_len]; omega)]
    · rw [List.getElem?_eq_none (by rw [bl_len]; omega)]
theorem bl_zero (n : Nat) : List.replicate n (.int .u8 0) = bl n (fun _ => 0) := by
  refine List.ext_getElem? fun i => ?_
  by_cases hi : i < n
  · rw [bl_get _ _ hi]; simp [hi]
  · rw [List.getElem?_eq_none (by simp; omega), List.getElem?_eq_none (by rw [bl_len]; omega)]
theorem tail_first (z n : Nat) : (List.replicate (1 + z + 8) (.int .u8 0)).set 0 (.int .u8 128) = bl (1 + z + 8) (tailF z n 0) := by
  rw [bl_zero]
  refine (bl_set _ 0 128).trans (bl_ext fun j hj => ?_)
  unfold tailF
  by_cases h : j = 0
  · rw [if_pos h, if_pos h]
  · rw [if_neg h, if_neg h, if_neg (by omega)]
theorem tail_step (z n : Nat) {i : Nat} (h : i < 8) : (bl (1 + z + 8) (tailF z n i)).set (1 + z + 8 - 1 - i) (.int .u8 ((n / 2 ^ (8 * i) % 256 : Nat) : Int)) = bl (1 + z + 8) (tailF z n (i + 1)) := by
  refine (bl_set _ _ _).trans (bl_ext fun j hj => ?_)
  unfold tailF
  by_cases h0 : j = 1 + z + 8 - 1 - i
  · rw [if_pos h0, if_neg (by omega), if_pos (by omega), show 8 + z - j = i by omega, show (256 : Nat) = 2 ^ 8 by decide, ← Nat.pow_mul]
  · rw [if_neg h0]
    by_cases h1 : j = 0
    · rw [if_pos h1, if_pos h1]
    · rw [if_neg h1, if_neg h1]
      by_cases h2 : 9 + z ≤ j + i
      · rw [if_pos h2, if_pos (by omega)]
      · rw [if_neg h2, if_neg (by omega)]
theorem tail_end (r n : Nat) : bl (1 + (119 - r) % 64 + 8) (tailF ((119 - r) % 64) (n * 8 % 18446744073709551616) 8) = bcells (tailL r n) := by
  generalize hz : (119 - r) % 64 = z
  generalize hm : n * 8 % 18446744073709551616 = m
  refine List.ext_getElem? fun i => ?_
  by_cases hi : i < 1 + z + 8
  · rw [bl_get _ _ hi]
    have hl : tailL r n = 128 :: (List.replicate z 0 ++ be8 m) := by unfold tailL; rw [hz, hm]
    rw [hl]
    unfold bcells tailF
    rw [List.getElem?_map]
    cases i with
    | zero => rfl
    | succ i =>
      rw [if_neg (by omega), List.getElem?_cons_succ]
      by_cases h : i < z
      · rw [if_neg (by omega), List.getElem?_append_left (by simpa using h)]
        simp [h]
      · rw [if_pos (by omega), List.getElem?_append_right (by simp; omega)]
        have h8 : i - z < 8 := by omega
        simp only [List.length_replicate, be8, List.getElem?_map]
        rw [List.getElem?_range h8]
        simp only [Option.map_some, UInt8.toNat_ofNat']
        rw [show 8 + z - (i + 1) = 7 - (i - z) by omega]
  · rw [List.getElem?_eq_none (by rw [bl_len]; omega), List.getElem?_eq_none (by rw [bcells_len, tailL_len, hz]; omega)]
/-- A sum's bytes. -/
def outS (v : S8) : List UInt8 := (List.range 32).map fun k => UInt8.ofNat (v.get (k / 4) / 2 ^ (8 * (3 - k % 4)))
theorem outS_len (v : S8) : (outS v).length = 32 := by simp [outS]
theorem out_step (v : S8) {i j : Nat} (hi : i < 8) (hj : j < 4) : bcells ((outS v).take (4 * i + j)) ++ [.int .u8 ((v.get i / 2 ^ (8 * (3 - j)) % 256 : Nat) : Int)] = bcells ((outS v).take (4 * i + (j + 1))) := by
  have hk : 4 * i + j < 32 := by omega
  have e : (outS v).take (4 * i + (j + 1)) = (outS v).take (4 * i + j) ++ [UInt8.ofNat (v.get i / 2 ^ (8 * (3 - j)))] := by
    rw [show 4 * i + (j + 1) = 4 * i + j + 1 by omega, List.take_add_one]
    congr 1
    simp only [outS, List.getElem?_map]
    rw [List.getElem?_range hk]
    simp only [Option.map_some, Option.toList_some]
    rw [show (4 * i + j) / 4 = i by omega, show (4 * i + j) % 4 = j by omega]
  rw [e]
  simp [bcells]
def endL (h : S8) (b : List UInt8) (n : Nat) : List UInt8 := outS (takeH h (b ++ tailL b.length n))
theorem endL_len (h : S8) (b : List UInt8) (n : Nat) : (endL h b n).length = 32 := outS_len _
/-- The sum of bytes. -/
def sha (l : List UInt8) : List UInt8 := endL (takeH H0 l) (takeR l) (l.length % 18446744073709551616)
theorem sha_len (l : List UInt8) : (sha l).length = 32 := outS_len _
/-- Cells of texts. -/
def scells (ps : List (List UInt8)) : List Value := ps.map fun s => .string (bs s)
theorem scells_len (ps : List (List UInt8)) : (scells ps).length = ps.length := by simp [scells]
theorem scells_get {ps : List (List UInt8)} {k : Nat} (h : k < ps.length) : (scells ps)[k]? = some (.string (bs (ps.getD k []))) := by
  simp [scells, List.getD_eq_getElem?_getD, h]
theorem flat_step {ps : List (List UInt8)} {k : Nat} (h : k < ps.length) : (ps.take k).flatten ++ ps.getD k [] = (ps.take (k + 1)).flatten := by
  rw [List.take_add_one, List.flatten_append, List.getD_eq_getElem?_getD, List.getElem?_eq_getElem h]
  simp
theorem sha_flat {ps : List (List UInt8)} : endL (takeH H0 (ps.take ps.length).flatten) (takeR (ps.take ps.length).flatten) ((ps.take ps.length).flatten.length % 18446744073709551616) = sha ps.flatten := by
  rw [List.take_length]
  rfl
theorem len_step (c s : List UInt8) : (c.length % 18446744073709551616 + s.length) % 18446744073709551616 = (c ++ s).length % 18446744073709551616 := by
  rw [Nat.mod_add_mod, List.length_append]
theorem take_zero : takeH H0 [] = H0 ∧ takeR [] = [] := ⟨takeH_done (by decide), takeR_done (by decide)⟩
theorem pow_step32 {i : Nat} (h : i ≤ 30) : 2 * 2 ^ i % 4294967296 = 2 ^ (i + 1) := by
  rw [Nat.pow_succ, Nat.mul_comm]
  refine Nat.mod_eq_of_lt ?_
  have : 2 ^ i ≤ 2 ^ 30 := Nat.pow_le_pow_right (by decide) h
  have h2 : (2 : Nat) ^ 30 = 1073741824 := by decide
  omega
theorem rot_part {x n : Nat} (h : n ≤ 32) : x % 2 ^ n * 2 ^ (32 - n) % 4294967296 = x % 2 ^ n * 2 ^ (32 - n) := by
  refine Nat.mod_eq_of_lt ?_
  have h1 : x % 2 ^ n < 2 ^ n := Nat.mod_lt _ (Nat.two_pow_pos n)
  have h2 : 2 ^ n * 2 ^ (32 - n) = 4294967296 := by rw [← Nat.pow_add, show n + (32 - n) = 32 by omega]
  rw [← h2]
  exact Nat.mul_lt_mul_of_pos_right h1 (Nat.two_pow_pos _)
theorem mul256 {a : Nat} (h : a < 16777216) : 256 * a % 4294967296 = a * 256 := by omega
theorem add256 {a b : Nat} (h : a < 16777216) (hb : b < 256) : (a * 256 + b) % 4294967296 = a * 256 + b := by omega
theorem shW_hi2 {l : List UInt8} {t : Nat} (h : ¬ t < 16) : (((sg1 (shW l (t - 2)) + shW l (t - 7)) % 4294967296 + sg0 (shW l (t - 15))) % 4294967296 + shW l (t - 16)) % 4294967296 = shW l t := by
  rw [shW_hi h]; omega
def wl32 (l : List UInt8) (t : Nat) : List Value := (List.range t).map fun i => .int .u32 ((shW l i : Nat) : Int)
theorem wl32_len (l : List UInt8) (t : Nat) : (wl32 l t).length = t := by simp [wl32]
theorem wl32_get {l : List UInt8} {t j : Nat} (h : j < t) : (wl32 l t)[j]? = some (.int .u32 ((shW l j : Nat) : Int)) := by simp [wl32, h]
theorem wl32_snoc (l : List UInt8) (t : Nat) : wl32 l t ++ [.int .u32 ((shW l t : Nat) : Int)] = wl32 l (t + 1) := by simp [wl32, List.range_succ]
theorem mixS_take (h : S8) (l : List UInt8) : mixS h (l.take 64) = mixS h l := mixS_same fun i hi => byteN_take hi
theorem zeros_iff {b k z : Nat} (hb : b < 64) (hz : (119 - b) % 64 = z) (hk : k ≤ z) : (b + 1 + k + 8) % 64 = 0 ↔ k = z := by omega
theorem zero_snoc (k : Nat) : bcells (128 :: List.replicate k 0) ++ [.int .u8 0] = bcells (128 :: List.replicate (k + 1) 0) := by
  rw [List.replicate_succ']
  simp [bcells]
def rowF (m i j : Nat) : Nat := if i ≤ j then m / 256 ^ (7 - j) % 256 else 0
theorem row_first (m : Nat) : List.replicate 8 (.int .u8 0) = bl 8 (rowF m 8) := by
  rw [bl_zero]
  exact bl_ext fun j hj => by unfold rowF; rw [if_neg (by omega)]
theorem row_step (m : Nat) {i : Nat} (h : i < 8) : (bl 8 (rowF m (i + 1))).set i (.int .u8 ((m / 256 ^ (7 - i) % 256 % 256 : Nat) : Int)) = bl 8 (rowF m i) := by
  refine (bl_set _ _ _).trans (bl_ext fun j hj => ?_)
  unfold rowF
  by_cases h0 : j = i
  · subst h0
    rw [if_pos rfl, if_pos (Nat.le_refl _)]; omega
  · rw [if_neg h0]
    by_cases h1 : i + 1 ≤ j
    · rw [if_pos h1, if_pos (by omega)]
    · rw [if_neg h1, if_neg (by omega)]
theorem row_end (m : Nat) : bl 8 (rowF m 0) = bcells (be8 m) := by
  simp [bl, rowF, be8, bcells]
theorem div_step (m : Nat) {i : Nat} (h : i < 8) : m / 256 ^ (7 - i) / 256 = m / 256 ^ (8 - i) := by
  rw [Nat.div_div_eq_div_mul, ← Nat.pow_succ, show (7 - i).succ = 8 - i by omega]
theorem tail_join {b n z : Nat} (hz : (119 - b) % 64 = z) : bcells (128 :: List.replicate z 0) ++ bcells (be8 (n * 8 % 18446744073709551616)) = bcells (tailL b n) := by
  subst hz
  simp [bcells, tailL]
theorem be8_len (m : Nat) : (be8 m).length = 8 := by simp [be8]
theorem bcells_one (l : List UInt8) : ∀ v ∈ bcells l, v.oneCell' = true := by
  intro v hv
  simp only [bcells, List.mem_map] at hv
  obtain ⟨_, _, rfl⟩ := hv
  rfl
theorem out_four (v : S8) {i : Nat} (hi : i < 8) : bcells ((outS v).take (4 * i)) ++ [.int .u8 ((v.get i / 256 / 256 / 256 % 256 % 256 : Nat) : Int), .int .u8 ((v.get i / 256 / 256 % 256 % 256 : Nat) : Int), .int .u8 ((v.get i / 256 % 256 % 256 : Nat) : Int), .int .u8 ((v.get i % 256 % 256 : Nat) : Int)] = bcells ((outS v).take (4 * (i + 1))) := by
  have h0 := out_step v hi (j := 0) (by decide)
  have h1 := out_step v hi (j := 1) (by decide)
  have h2 := out_step v hi (j := 2) (by decide)
  have h3 := out_step v hi (j := 3) (by decide)
  rw [show 4 * (i + 1) = 4 * i + (3 + 1) by omega, ← h3, ← h2, ← h1, ← h0]
  simp only [List.append_assoc, List.cons_append, List.nil_append, Nat.add_zero, Nat.reducePow, Nat.reduceSub, Nat.reduceMul, Nat.div_one]
  rw [show v.get i / 256 / 256 / 256 % 256 % 256 = v.get i / 16777216 % 256 by omega, show v.get i / 256 / 256 % 256 % 256 = v.get i / 65536 % 256 by omega, show v.get i / 256 % 256 % 256 = v.get i / 256 % 256 by omega, show v.get i % 256 % 256 = v.get i % 256 by omega]
end Go.Proofs.Num
