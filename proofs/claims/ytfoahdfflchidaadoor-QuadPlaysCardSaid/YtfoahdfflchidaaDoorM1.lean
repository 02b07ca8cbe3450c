/-
  The law QuadPlays, part 1.
-/
import Derived.Test.YtfoahdfflchidaaDoorKU
import Derived.Test.YtfoahdfflchidaaDoorS
import Derived.Shelf.SlSortCmp.NoneTotal
import Derived.Test.YtfoahdfflchidaaDoorU
import Derived.Laws.MakeOwn
import Derived.Laws.Small
import Derived.Shelf.SlSortCmp.Insertion
namespace Go.Proofs.YtfoahdfflchidaaDoor
open Go

/-! ## Rows of rows -/
def grid (f : Nat → List Value) (n : Nat) : List Value := (List.range n).flatMap f
section
variable {f : Nat → List Value} {w : Nat}
theorem grid_succ (n : Nat) : grid f (n + 1) = grid f n ++ f n := by simp [grid, List.range_succ]
theorem grid_len (hw : ∀ i, (f i).length = w) : ∀ n, (grid f n).length = n * w
  | 0 => by simp [grid]
  | n + 1 => by rw [grid_succ, List.length_append, grid_len hw n, hw, Nat.succ_mul]
theorem grid_congr {g : Nat → List Value} : ∀ {n : Nat}, (∀ i, i < n → f i = g i) → grid f n = grid g n
  | 0, _ => rfl
  | n + 1, h => by rw [grid_succ, grid_succ, grid_congr (n := n) (fun i hi => h i (by omega)), h n (by omega)]
theorem grid_get (hw : ∀ i, (f i).length = w) {i j : Nat} (hj : j < w) : ∀ {n : Nat}, i < n → (grid f n)[i * w + j]? = (f i)[j]?
  | 0, h => by omega
  | n + 1, h => by
    rw [grid_succ]
    by_cases e : i = n
    · subst e
      rw [List.getElem?_append_right (by rw [grid_len hw]; omega), grid_len hw, show i * w + j - i * w = j by omega]
    · have h1 : i < n := by omega
      have h2 : i * w + j < (grid f n).length := by
        rw [grid_len hw]
        have := Nat.mul_le_mul_right w (show i + 1 ≤ n from h1)
        rw [Nat.succ_mul] at this; omega
      rw [List.getElem?_append_left h2]
      exact grid_get hw hj h1
/-- A row put in another one's place. -/
theorem grid_put (hw : ∀ i, (f i).length = w) {l : List Value} (hl : l.length = w) {i n : Nat} (h : i < n) (r : List Value) :
    (grid f n ++ r).take (i * w) ++ l ++ (grid f n ++ r).drop (i * w + w) = grid (fun k => if k = i then l else f k) n ++ r := by
  have hw2 : ∀ k, (if k = i then l else f k).length = w := fun k => by split <;> simp [hl, hw]
  have hlen := grid_len hw n
  have hiw : i * w + w ≤ n * w := by
    have := Nat.mul_le_mul_right w (show i + 1 ≤ n from h)
    rw [Nat.succ_mul] at this; exact this
  rw [List.take_append_of_le_length (by omega), List.drop_append_of_le_length (by omega), ← List.append_assoc]
  congr 1
  have hlt : ((grid f n).take (i * w)).length = i * w := by rw [List.length_take]; omega
  apply List.ext_getElem?
  intro t
  by_cases ht : t < n * w
  · have hw0 : 0 < w := Nat.pos_of_ne_zero fun e => by subst e; omega
    have e1 : t = t / w * w + t % w := by have := Nat.div_add_mod t w; rw [Nat.mul_comm] at this; omega
    have hm := Nat.mod_lt t hw0
    have hq : t / w < n := Nat.div_lt_of_lt_mul (by rw [Nat.mul_comm]; exact ht)
    have e2 : (grid (fun k => if k = i then l else f k) n)[t]? = (if t / w = i then l else f (t / w))[t % w]? := by
      conv => lhs; rw [e1]
      exact grid_get hw2 hm hq
    have e3 : (grid f n)[t]? = (f (t / w))[t % w]? := by
      conv => lhs; rw [e1]
      exact grid_get hw hm hq
    rw [e2]
    by_cases c1 : t < i * w
    · have hne : t / w ≠ i := fun e => by subst e; omega
      rw [List.append_assoc, List.getElem?_append_left (by omega), List.getElem?_take_of_lt c1, e3, if_neg hne]
    · by_cases c2 : t < i * w + w
      · have he : t / w = i := Nat.div_eq_of_lt_le (by omega) (by rw [Nat.succ_mul]; omega)
        rw [if_pos he, List.append_assoc, List.getElem?_append_right (by omega), hlt, List.getElem?_append_left (by omega)]
        congr 1
        rw [← he]; omega
      · have hne : t / w ≠ i := fun e => by subst e; omega
        rw [if_neg hne, List.getElem?_append_right (by rw [List.length_append, hlt]; omega), List.length_append, hlt, hl, List.getElem?_drop, show i * w + w + (t - (i * w + w)) = t by omega, e3]
  · rw [List.getElem?_eq_none (by simp only [List.length_append, List.length_drop, hlt, hl]; omega), List.getElem?_eq_none (by rw [grid_len hw2]; omega)]
theorem grid_set (hw : ∀ i, (f i).length = w) {i j n : Nat} {v : Value} (hi : i < n) (hj : j < w) : (grid f n).take (i * w + j) ++ [v] ++ (grid f n).drop (i * w + j + 1) = grid (fun k => if k = i then (f i).set j v else f k) n := by
  have hw2 : ∀ k, (if k = i then (f i).set j v else f k).length = w := fun k => by split <;> simp [hw]
  have hlen := grid_len hw n
  have hlt : i * w + j < (grid f n).length := by
    have := Nat.mul_le_mul_right w (show i + 1 ≤ n from hi)
    rw [Nat.succ_mul] at this; omega
  have e0 : (grid f n).take (i * w + j) ++ [v] ++ (grid f n).drop (i * w + j + 1) = (grid f n).set (i * w + j) v := by
    rw [List.set_eq_take_append_cons_drop, if_pos hlt]; simp
  rw [e0]
  apply List.ext_getElem?
  intro t
  rw [List.getElem?_set]
  by_cases ht : t < n * w
  · have hw0 : 0 < w := by omega
    have e1 : t = t / w * w + t % w := by have := Nat.div_add_mod t w; rw [Nat.mul_comm] at this; omega
    have hm := Nat.mod_lt t hw0
    have hq : t / w < n := Nat.div_lt_of_lt_mul (by rw [Nat.mul_comm]; exact ht)
    have e2 : (grid (fun k => if k = i then (f i).set j v else f k) n)[t]? = (if t / w = i then (f i).set j v else f (t / w))[t % w]? := by
      conv => lhs; rw [e1]
      exact grid_get hw2 hm hq
    have e3 : (grid f n)[t]? = (f (t / w))[t % w]? := by
      conv => lhs; rw [e1]
      exact grid_get hw hm hq
    rw [e2]
    by_cases c : i * w + j = t
    · have he : t / w = i := by rw [← c]; exact Nat.div_eq_of_lt_le (by omega) (by rw [Nat.succ_mul]; omega)
      have he2 : t % w = j := by rw [he] at e1; omega
      rw [if_pos c, if_pos he, he2, if_pos (by omega), List.getElem?_set, if_pos rfl, if_pos (by rw [hw]; exact hj)]
    · rw [if_neg c, e3]
      by_cases he : t / w = i
      · rw [if_pos he, List.getElem?_set, if_neg (fun h => c (by rw [e1, he, h])), he]
      · rw [if_neg he]
  · have e4 : (grid (fun k => if k = i then (f i).set j v else f k) n)[t]? = none := List.getElem?_eq_none (by rw [grid_len hw2]; omega)
    have e5 : (grid f n)[t]? = none := List.getElem?_eq_none (by omega)
    rw [e4, e5, if_neg (by omega)]
end
/-! ## The tree -/
/-- Which part a block lies in, on a level. -/
def wayN (i j l : Nat) : Nat := 2 * (i / 2 ^ l % 2) + j / 2 ^ l % 2
theorem wayN_lt (i j l : Nat) : wayN i j l < 4 := by unfold wayN; omega
/-- The number of a block's leaf, and 1; 0: there is none. -/
def fnd (P : Nat → Nat → Nat) (i j : Nat) : Nat → Nat → Nat
  | 0, n => P n (wayN i j 0)
  | l + 1, n => if P n (wayN i j (l + 1)) = 0 then 0 else fnd P i j l (P n (wayN i j (l + 1)) - 1)
/-- A tree: each node has a level and a place, each leaf a place. -/
structure Tree (D np nl : Nat) (P : Nat → Nat → Nat) (own : Nat → Nat × Nat × Nat) (low : Nat → Nat × Nat) : Prop where
  dep : 1 ≤ D
  some : 1 ≤ np
  root : own 0 = (D - 1, 0, 0)
  lev : ∀ n, n < np → (own n).1 < D
  kid : ∀ n k, n < np → k < 4 → P n k ≠ 0 → 0 < (own n).1 → P n k - 1 < np ∧ own (P n k - 1) = ((own n).1 - 1, 2 * (own n).2.1 + k / 2, 2 * (own n).2.2 + k % 2)
  out : ∀ n k, np ≤ n → P n k = 0
  leaf : ∀ n k, n < np → k < 4 → P n k ≠ 0 → (own n).1 = 0 → P n k - 1 < nl ∧ low (P n k - 1) = (2 * (own n).2.1 + k / 2, 2 * (own n).2.2 + k % 2)
theorem way_up (i j l : Nat) : 2 * (i / 2 ^ (l + 1)) + wayN i j l / 2 = i / 2 ^ l ∧ 2 * (j / 2 ^ (l + 1)) + wayN i j l % 2 = j / 2 ^ l := by
  unfold wayN
  rw [Nat.pow_succ, ← Nat.div_div_eq_div_mul, ← Nat.div_div_eq_div_mul]
  generalize i / 2 ^ l = a
  generalize j / 2 ^ l = b
  omega
section
variable {D np nl : Nat} {P : Nat → Nat → Nat} {own : Nat → Nat × Nat × Nat} {low : Nat → Nat × Nat}
/-- The leaf that is found is the block's. -/
theorem Tree.fnd_low (T : Tree D np nl P own low) {i j : Nat} : ∀ {l n : Nat}, n < np → own n = (l, i / 2 ^ (l + 1), j / 2 ^ (l + 1)) → fnd P i j l n ≠ 0 → fnd P i j l n - 1 < nl ∧ low (fnd P i j l n - 1) = (i, j)
  | 0, n, hn, ho, h => by
    simp only [fnd] at h ⊢
    have := T.leaf n (wayN i j 0) hn (wayN_lt i j 0) h (by rw [ho])
    rw [ho] at this
    obtain ⟨h1, h2⟩ := way_up i j 0
    refine ⟨this.1, this.2.trans ?_⟩
    dsimp only
    rw [h1, h2]; simp
  | l + 1, n, hn, ho, h => by
    simp only [fnd] at h ⊢
    by_cases h0 : P n (wayN i j (l + 1)) = 0
    · rw [if_pos h0] at h; exact absurd rfl h
    · rw [if_neg h0] at h ⊢
      have := T.kid n (wayN i j (l + 1)) hn (wayN_lt i j (l + 1)) h0 (by rw [ho]; exact Nat.succ_pos l)
      rw [ho] at this
      obtain ⟨h1, h2⟩ := way_up i j (l + 1)
      refine T.fnd_low (l := l) this.1 (this.2.trans ?_) h
      dsimp only
      rw [h1, h2]; rfl
/-- An entry that was none, set. -/
def setP (P : Nat → Nat → Nat) (n k v : Nat) : Nat → Nat → Nat := fun m c => if m = n ∧ c = k then v else P m c
theorem setP_at (n k v : Nat) : setP P n k v n k = v := by simp [setP]
theorem setP_ne {n k v m c : Nat} (h : ¬ (m = n ∧ c = k)) : setP P n k v m c = P m c := by simp [setP, h]
theorem fnd_zero {n : Nat} (h : ∀ c, P n c = 0) (i j : Nat) : ∀ l, fnd P i j l n = 0
  | 0 => h _
  | l + 1 => by simp [fnd, h]
/-- A new node. -/
theorem Tree.node (T : Tree D np nl P own low) {n k : Nat} (hn : n < np) (hk : k < 4) (h0 : P n k = 0) (hl : 0 < (own n).1) :
    Tree D (np + 1) nl (setP P n k (np + 1)) (fun m => if m = np then ((own n).1 - 1, 2 * (own n).2.1 + k / 2, 2 * (own n).2.2 + k % 2) else own m) low := by
  have hne : ∀ m, m < np → m ≠ np := fun m h => by omega
  refine ⟨T.dep, by have := T.some; omega, ?_, ?_, ?_, ?_, ?_⟩
  · rw [if_neg (by have := T.some; omega)]; exact T.root
  · intro m hm
    by_cases e : m = np
    · rw [if_pos e]; have := T.lev n hn; dsimp only; omega
    · rw [if_neg e]; exact T.lev m (by omega)
  · intro m c hm hc hP hlv
    by_cases e : m = np
    · rw [e, setP_ne (by omega), T.out np c (Nat.le_refl _)] at hP; exact absurd rfl hP
    · rw [if_neg e] at hlv ⊢
      by_cases e2 : m = n ∧ c = k
      · obtain ⟨rfl, rfl⟩ := e2
        rw [setP_at, Nat.add_sub_cancel, if_pos rfl]
        exact ⟨by omega, rfl⟩
      · rw [setP_ne e2] at hP ⊢
        obtain ⟨h1, h2⟩ := T.kid m c (by omega) hc hP hlv
        rw [if_neg (by omega)]
        exact ⟨by omega, h2⟩
  · intro m c hm
    rw [setP_ne (by omega)]; exact T.out m c (by omega)
  · intro m c hm hc hP hlv
    by_cases e : m = np
    · rw [e, setP_ne (by omega), T.out np c (Nat.le_refl _)] at hP; exact absurd rfl hP
    · rw [if_neg e] at hlv ⊢
      by_cases e2 : m = n ∧ c = k
      · obtain ⟨rfl, rfl⟩ := e2; omega
      · rw [setP_ne e2] at hP ⊢
        exact T.leaf m c (by omega) hc hP hlv
theorem Tree.fnd_node (T : Tree D np nl P own low) {n k : Nat} (h0 : P n k = 0) (hl : 0 < (own n).1) {i j : Nat} : ∀ {l m : Nat}, m < np → (own m).1 = l → fnd (setP P n k (np + 1)) i j l m = fnd P i j l m
  | 0, m, hm, ho => by
    simp only [fnd]
    rw [setP_ne]
    rintro ⟨rfl, _⟩; omega
  | l + 1, m, hm, ho => by
    simp only [fnd]
    by_cases e : m = n ∧ wayN i j (l + 1) = k
    · obtain ⟨rfl, e⟩ := e
      rw [e, setP_at, if_neg (by omega), h0, if_pos rfl, Nat.add_sub_cancel]
      exact fnd_zero (fun c => by rw [setP_ne (by omega)]; exact T.out np c (Nat.le_refl _)) i j l
    · rw [setP_ne e]
      by_cases h : P m (wayN i j (l + 1)) = 0
      · rw [if_pos h, if_pos h]
      · rw [if_neg h, if_neg h]
        obtain ⟨h1, h2⟩ := T.kid m _ hm (wayN_lt i j (l + 1)) h (by omega)
        exact T.fnd_node h0 hl h1 (by rw [h2]; dsimp only; omega)
/-- A new leaf. -/
theorem Tree.addLeaf (T : Tree D np nl P own low) {n k : Nat} (hn : n < np) (hk : k < 4) (h0 : P n k = 0) (hl : (own n).1 = 0) :
    Tree D np (nl + 1) (setP P n k (nl + 1)) own (fun m => if m = nl then (2 * (own n).2.1 + k / 2, 2 * (own n).2.2 + k % 2) else low m) := by
  refine ⟨T.dep, T.some, T.root, T.lev, ?_, ?_, ?_⟩
  · intro m c hm hc hP hlv
    have e2 : ¬ (m = n ∧ c = k) := by rintro ⟨rfl, _⟩; omega
    rw [setP_ne e2] at hP ⊢
    exact T.kid m c hm hc hP hlv
  · intro m c hm
    rw [setP_ne (by omega)]; exact T.out m c hm
  · intro m c hm hc hP hlv
    by_cases e2 : m = n ∧ c = k
    · obtain ⟨rfl, rfl⟩ := e2
      rw [setP_at, Nat.add_sub_cancel, if_pos rfl]
      exact ⟨by omega, rfl⟩
    · rw [setP_ne e2] at hP ⊢
      obtain ⟨h1, h2⟩ := T.leaf m c hm hc hP hlv
      rw [if_neg (by omega)]
      exact ⟨by omega, h2⟩
theorem Tree.fnd_leaf (T : Tree D np nl P own low) {n k v : Nat} (hl : (own n).1 = 0) {i j : Nat} (hne : ¬ (2 * (own n).2.1 + k / 2 = i ∧ 2 * (own n).2.2 + k % 2 = j)) : ∀ {l m : Nat}, m < np → own m = (l, i / 2 ^ (l + 1), j / 2 ^ (l + 1)) → fnd (setP P n k v) i j l m = fnd P i j l m
  | 0, m, hm, ho => by
    simp only [fnd]
    rw [setP_ne]
    rintro ⟨rfl, rfl⟩
    apply hne
    rw [ho]
    obtain ⟨h1, h2⟩ := way_up i j 0
    dsimp only
    rw [h1, h2]; simp
  | l + 1, m, hm, ho => by
    simp only [fnd]
    rw [setP_ne (by rintro ⟨rfl, _⟩; rw [ho] at hl; cases hl)]
    by_cases h : P m (wayN i j (l + 1)) = 0
    · rw [if_pos h, if_pos h]
    · rw [if_neg h, if_neg h]
      obtain ⟨h1, h2⟩ := T.kid m _ hm (wayN_lt i j (l + 1)) h (by rw [ho]; exact Nat.succ_pos l)
      rw [ho] at h2
      obtain ⟨g1, g2⟩ := way_up i j (l + 1)
      refine T.fnd_leaf hl hne h1 (h2.trans ?_)
      dsimp only
      rw [g1, g2]; rfl
end
/-- A way down, each step of which is there. -/
inductive Down (P : Nat → Nat → Nat) (i j l m : Nat) : Nat → Nat → Prop
  | refl : Down P i j l m l m
  | step {l' n : Nat} : Down P i j l m (l' + 1) n → P n (wayN i j (l' + 1)) ≠ 0 → Down P i j l m l' (P n (wayN i j (l' + 1)) - 1)
theorem Down.fnd {P : Nat → Nat → Nat} {i j l m l' n : Nat} (h : Down P i j l m l' n) : fnd P i j l m = Go.Proofs.YtfoahdfflchidaaDoor.fnd P i j l' n := by
  induction h with
  | refl => rfl
  | step _ hP ih => rw [ih]; simp only [Go.Proofs.YtfoahdfflchidaaDoor.fnd]; rw [if_neg hP]
theorem Down.mono {P P' : Nat → Nat → Nat} (hm : ∀ n k, P n k ≠ 0 → P' n k = P n k) {i j l m l' n : Nat} (h : Down P i j l m l' n) : Down P' i j l m l' n := by
  induction h with
  | refl => exact .refl
  | step _ hP ih =>
    have := hm _ _ hP
    rw [← this]
    exact .step ih (by rw [this]; exact hP)
theorem setP_mono {P : Nat → Nat → Nat} {n k v : Nat} (h0 : P n k = 0) : ∀ m c, P m c ≠ 0 → setP P n k v m c = P m c := fun m c h => setP_ne fun ⟨a, b⟩ => by subst a b; exact h h0
end Go.Proofs.YtfoahdfflchidaaDoor
namespace Go.Proofs.YtfoahdfflchidaaDoor
open Go Go.Sort Go.Shelf Go.RowKit

theorem grown_of {W w' : World} (h : Below W.heap.size W w') (hd : W.drawn ≤ w'.drawn) : ∃ q os', w' = grow (W.drewN q) os' := by
  obtain ⟨e1, e2, e3, e4, e5⟩ := h
  refine ⟨w'.drawn - W.drawn, w'.heap.extract W.heap.size w'.heap.size, ?_⟩
  have hh : w'.heap = W.heap ++ w'.heap.extract W.heap.size w'.heap.size := by
    apply Array.ext_getElem?
    intro k
    by_cases hk : k < W.heap.size
    · rw [e5 k hk, Array.getElem?_append_left hk]
    · rw [Array.getElem?_append_right (by omega), Array.getElem?_extract]
      by_cases h2 : k < w'.heap.size
      · rw [if_pos (by omega)]; congr 1; omega
      · rw [if_neg (by omega)]; exact Array.getElem?_eq_none (by omega)
  generalize w'.heap.extract W.heap.size w'.heap.size = os at hh
  obtain ⟨h1, h2, h3, h4, h5⟩ := w'
  obtain ⟨g1, g2, g3, g4, g5⟩ := W
  simp only at e1 e2 e3 hh hd
  subst e1 e2 e3 hh
  show World.mk (g1 ++ os) h2 h3 h4 h5 = World.mk (g1 ++ os) h2 (g3 + (h3 - g3)) h4 h5
  rw [Nat.add_sub_cancel' hd]
theorem sat_grow {l : List HP} {w : World} (h : sat l w) (os : Array Obj) : sat l (grow w os) := sat_keep h fun b o e => by
  show (w.heap ++ os)[b]? = some o
  rw [Array.getElem?_append_left (Array.getElem?_eq_some_iff.1 e).1]; exact e
section
variable {α : Type}
theorem flat_get {enc : α → List Value} {k : Nat} (hk : ∀ x, (enc x).length = k) {j : Nat} (hj : j < k) : ∀ (l : List α) (i : Nat), (l.flatMap enc)[i * k + j]? = (l[i]?).bind fun x => (enc x)[j]?
  | [], i => by simp
  | x :: l, 0 => by rw [List.flatMap_cons, Nat.zero_mul, Nat.zero_add, List.getElem?_append_left (by rw [hk]; exact hj)]; rfl
  | x :: l, i + 1 => by
    rw [List.flatMap_cons, List.getElem?_append_right (by rw [hk, Nat.add_mul]; omega), hk, show (i + 1) * k + j - k = i * k + j by rw [Nat.add_mul]; omega, flat_get hk hj l i]
    rfl
theorem flat_len {enc : α → List Value} {k : Nat} (hk : ∀ x, (enc x).length = k) : ∀ (l : List α), (l.flatMap enc).length = l.length * k
  | [] => by simp
  | x :: l => by rw [List.flatMap_cons, List.length_append, hk, flat_len hk l, List.length_cons, Nat.add_mul]; omega
variable [Inhabited α]
theorem flatK_list {enc : α → List Value} {k : Nat} (hk : ∀ x, (enc x).length = k) (d : Array α) : (flatK enc k d).toList = d.toList.flatMap enc := by
  apply List.ext_getElem?
  intro t
  by_cases ht : t < d.size * k
  · have hk0 : 0 < k := by rcases Nat.eq_zero_or_pos k with h | h; · subst h; simp at ht
                           · exact h
    have e1 : t / k * k + t % k = t := by rw [Nat.mul_comm]; exact Nat.div_add_mod t k
    have h1 : t / k < d.size := Nat.div_lt_of_lt_mul (by rwa [Nat.mul_comm] at ht)
    have h2 : t % k < k := Nat.mod_lt _ hk0
    have a1 := get_flatK enc k d t ht
    rw [getElem!_pos (flatK enc k d) t (by simpa using ht), getElem!_pos d (t / k) h1, getElem!_pos (enc d[t / k]) (t % k) (by rw [hk]; exact h2)] at a1
    have a2 := flat_get hk h2 d.toList (t / k)
    rw [e1] at a2
    rw [a2, List.getElem?_eq_getElem (by simpa using ht), List.getElem?_eq_getElem (by simpa using h1)]
    simp only [Option.bind_some]
    rw [List.getElem?_eq_getElem (by rw [hk]; exact h2)]
    exact congrArg some a1
  · rw [List.getElem?_eq_none (by simpa using ht), List.getElem?_eq_none (by rw [flat_len hk]; simpa using ht)]
theorem putCells_row (F : Array Value) (l rest : List Value) (h : F.size = l.length) : putCells id 0 F (l ++ rest).toArray = (F.toList ++ rest).toArray := by
  apply Array.ext_getElem?
  intro k
  simp only [putCells, Array.getElem?_mapIdx, List.getElem?_toArray]
  by_cases hk : k < F.size
  · rw [List.getElem?_append_left (by omega), List.getElem?_append_left (by simpa using hk), List.getElem?_eq_getElem (by omega), List.getElem?_eq_getElem (by simpa using hk), Option.map_some, if_pos ⟨by omega, by omega⟩, Nat.sub_zero, getElem!_pos F k hk]
    rfl
  · have e1 : (l ++ rest)[k]? = rest[k - F.size]? := by rw [List.getElem?_append_right (by omega), h]
    have e2 : (F.toList ++ rest)[k]? = rest[k - F.size]? := by rw [List.getElem?_append_right (by simpa using hk)]; simp
    rw [e1, e2]
    cases rest[k - F.size]? with
    | none => rfl
    | some y => rw [Option.map_some, if_neg (by omega)]
theorem perm_list {d d' : Array α} (h : PermIn 0 d.size d d') : d'.toList.Perm d.toList := by
  obtain ⟨h1, _, h3⟩ := h
  have e1 : d.extract 0 d.size = d := by simp
  have e2 : d'.extract 0 d.size = d' := by rw [← h1]; simp
  rwa [e1, e2] at h3
theorem sorted_list {lt : α → α → Bool} {d d' : Array α} (hs : d'.size = d.size) (h : SortedIn lt 0 d.size d') : d'.toList.Pairwise (fun x y => lt y x = false) := by
  rw [List.pairwise_iff_getElem]
  intro i j hi hj hij
  simp only [Array.length_toList] at hi hj
  have := h i j (Nat.zero_le _) hij (by omega)
  rw [getElem!_pos d' i hi, getElem!_pos d' j hj] at this
  simpa using this
theorem sort_fn {P : Program} {ρ : Ren} (L : SlLaysF0.n6 P ρ) (k : Nat) (aE : ∀ w, (isAgg (ρ.t 24)).run P w = .ok true w) (zE : ∀ w, (Go.sizeOf (ρ.t 24)).run P w = .ok k w) (enc : α → List Value) (hk : ∀ x, (enc x).length = k) (h1 : ∀ x, ∀ v ∈ enc x, v.oneCell' = true) (cf : α → α → Int) (hO : SWO (Go.Proofs.ltOf cf)) (g : Nat) (cb : Array Value)
    (eg : ∀ args w, (callFunc g args).run P w = .ok (.enter g args) w) (hg : ∀ x y W, Fn P g (#[.agg (enc x).toArray, .agg (enc y).toArray] ++ cb) [init W] (fun r Q => r = .int .i64 (cf x y) ∧ Q = [init W])) (el : TypeId) (xs : List α) (b n cap : Nat) (hn : n = xs.length) (hsz : n < 4611686018427387904) (rest : List Value) :
    Fn P (ρ.f 6) #[.slice (some ⟨b, 0, none⟩) n cap, .func (.func g) #[] cb] [pt b (row (xs.flatMap enc ++ rest) el)] (fun r Q => r = .tuple #[] ∧ ∃ ys : List α, ys.Perm xs ∧ ys.Pairwise (fun x y => Go.Proofs.ltOf cf y x = false) ∧ Q = [pt b (row (ys.flatMap enc ++ rest) el)]) := by
  intro F w s
  subst hn
  have hb := sat_pt s
  have hlt := (Array.getElem?_eq_some_iff.1 hb).1
  have hfl : (flatK enc k xs.toArray).toList = xs.flatMap enc := flatK_list hk xs.toArray
  have hH : HoldsK enc k w b 0 xs.toArray := by
    intro j hj
    have hj' : j < (xs.flatMap enc).length := by rw [← hfl]; simpa using hj
    have e1 : (flatK enc k xs.toArray)[j]! = (xs.flatMap enc)[j] := by
      rw [getElem!_pos _ j hj]
      have : (flatK enc k xs.toArray).toList[j]? = (xs.flatMap enc)[j]? := by rw [hfl]
      rw [List.getElem?_eq_getElem (by simpa using hj), List.getElem?_eq_getElem hj'] at this
      exact Option.some.inj this
    constructor
    · simp only [World.cell?, hb, row, Nat.zero_add, List.getElem?_toArray]
      rw [List.getElem?_append_left hj', List.getElem?_eq_getElem hj', e1]; rfl
    · simp [World.frozen?, hb, row]
  have hc : Go.Proofs.CmpLays P g cb enc k cf b 0 xs.toArray.size w := fun m os dk _ x y => (callsIn_wide (n := 0)).1 ((hg x y _ [] _ (sat_init _)).mono fun e w' ⟨v, Q, e1, sm, ⟨e2, e3⟩, q⟩ => by
    subst e1 e2 e3
    exact ⟨rfl, grown_of (init_below sm q) sm.draws⟩)
  have h := Go.Proofs.AnyQ.slices_SortFunc L k aE zE enc hk h1 cf hO g cb b 0 cap xs.toArray w eg hc hH hlt (by simpa using hsz)
  rw [show xs.toArray.size = xs.length by simp] at h
  refine callsIn_wide.2 (h.mono ?_)
  rintro e w' ⟨rfl, d', m, os, hp, hs, rfl⟩
  have hsz' : d'.size = xs.toArray.size := hp.1
  refine ⟨_, _, rfl, ?_, ⟨rfl, d'.toList, by simpa using perm_list hp, sorted_list hsz' (by simpa using hs), rfl⟩, ?_⟩
  · refine ⟨rfl, rfl, rfl, ?_, ?_⟩
    · show w.heap.size ≤ (Array.append _ _).size
      simp [putRowK, putRow, mapBlock]
    · show w.drawn ≤ w.drawn + m
      omega
  · refine sat_grow (w := putRowK enc k (Sort.ahead w m) b 0 d') (sat_upd (w := w) s ?_ ?_) os
    · show ((w.heap.modify b (onCells (putCells id 0 (flatK enc k d')))))[b]? = _
      rw [Array.getElem?_modify, if_pos rfl, hb]
      simp only [Option.map_some, row, onCells]
      rw [putCells_row _ _ _ (by rw [size_flatK, hsz', flat_len hk]; simp), flatK_list hk]
    · intro j hj
      show ((w.heap.modify b (onCells (putCells id 0 (flatK enc k d')))))[j]? = _
      rw [Array.getElem?_modify, if_neg (Ne.symm hj)]
end
end Go.Proofs.YtfoahdfflchidaaDoor
namespace Go.Proofs.YtfoahdfflchidaaDoor
open Go
attribute [local irreducible] pt init exs pur own
/-- Whatever can be read in q can be read in q'. -/
def Sup (q q' : HP) : Prop := ∀ a v, Rd q a v → Rd q' a v
theorem Sup.refl (q : HP) : Sup q q := fun _ _ h => h
theorem Sup.trans {a b c : HP} (h : Sup a b) (k : Sup b c) : Sup a c := fun x v r => k x v (h x v r)
theorem Sup.left (x y : HP) : Sup x (star [x, y]) := fun a v r l w s => by
  have := sat_flat.1 s
  exact r (y :: l) w this
theorem Sup.right (x y : HP) : Sup y (star [x, y]) := fun a v r l w s => by
  have := sat_flat.1 s
  exact r (x :: l) w (sat_perm (List.Perm.swap _ _ _) this)
theorem Sl.sup {q q' : HP} (hs : Sup q q') {v : Value} {n sz : Nat} {l : List Value} (h : Sl q v n sz l) : Sl q' v n sz l := by
  obtain ⟨a, cap, rfl, hl, hr⟩ := h
  exact ⟨a, cap, rfl, hl, fun hn => let ⟨b, o, e, hr⟩ := hr hn; ⟨b, o, e, fun j u hj => hs _ _ (hr j u hj)⟩⟩
section
variable {P : Program} {c : Cx} {A : Array Oper} {os : List Oper} {K : Kont} {L : Env} {H F : List HP} {x y : HP} {C : Code}
theorem GO.merge (tk : Tks [x, y] H F) (k : GO P c A os K L (star [x, y] :: F)) : GO P c A os K L H :=
  GO.mem (H' := x :: y :: F) ⟨[], by rw [List.append_nil]; exact tk⟩ (GO.imp (H' := star [x, y] :: F) (fun l w s => sat_flat.2 s) k)
end
end Go.Proofs.YtfoahdfflchidaaDoor
namespace Go.Proofs.YtfoahdfflchidaaDoor
open Go
/-- The thread's operations (the bits of tm) stand behind one another; nothing else looks at what they yield. -/
def xOK (q tm : Nat) (A : Array Oper) (R : List Nat) : Bool := (List.range q).all fun i => match A[i]? with
  | some o => (opTmps o).all (fun t => (List.range q).all fun j => !dstIs A j t || ((bit R i j && Nat.blt j i) && (Nat.testBit tm i || !Nat.testBit tm j))) &&
      (match o.guard with | some (j, _) => Nat.testBit tm i || !Nat.testBit tm j | none => true) &&
      (!Nat.testBit tm i || (List.range i).all (fun j => !Nat.testBit tm j || bit R i j))
  | none => false
def drawTOK (N q tm : Nat) (A : Array Oper) : Bool := drawOK N q A && xOK q tm A (cloL A A.size)
/-- The operations that change nothing, in the text's order. -/
def GR (P : Program) (c : Cx) (A : Array Oper) (tm : Nat) : Nat → List Oper → (Env → Prop) → Env → List HP → Prop
  | _, [], k, L, _ => k L
  | i, o :: os, k, L, M => bif Nat.testBit tm i then GR P c A tm (i + 1) os k L M else ∃ v, (∀ Z, GO P c A [o] (KQ (ext o.dst v L) (M ++ Z)) L (M ++ Z)) ∧ GR P c A tm (i + 1) os k (ext o.dst v L) M
/-- The thread. -/
def GT (P : Program) (c : Cx) (A : Array Oper) (tm : Nat) (k : Env → List HP → Prop) : Nat → List Oper → Env → List HP → List HP → Prop
  | _, [], L, M, R => k L (M ++ R)
  | i, o :: os, L, M, R => bif Nat.testBit tm i then GO P c A [o] (fun e L' H' => e = .normal ∧ ∃ v R', L' = ext o.dst v L ∧ ImpS H' (M ++ R') ∧ GT P c A tm k (i + 1) os (ext o.dst v L) M R') L (M ++ R) else GT P c A tm k (i + 1) os L M R
section
variable {P : Program} {c : Cx} {A : Array Oper} {os : List Oper} {tm i : Nat} {k : Env → Prop} {kk : Env → List HP → Prop} {K : Kont} {L : Env} {H M R : List HP}
theorem GR.nil (h : k L) : GR P c A tm i [] k L M := h
theorem GR.skip {o : Oper} (hb : Nat.testBit tm i = true) (h : GR P c A tm (i + 1) os k L M) : GR P c A tm i (o :: os) k L M := by unfold GR; rw [hb]; exact h
theorem GR.step {d : Nat} {op : Op} {t : TypeId} {p : String} {e : Array Edge} {g : Option (Nat × Bool)} {v : Value} (hb : Nat.testBit tm i = false) (h : ∀ Z, GO P c A [⟨some d, op, t, p, e, g⟩] (KQ ((d, v) :: L) (M ++ Z)) L (M ++ Z)) (r : GR P c A tm (i + 1) os k ((d, v) :: L) M) : GR P c A tm i (⟨some d, op, t, p, e, g⟩ :: os) k L M := by
  unfold GR; rw [hb]; exact ⟨v, h, r⟩
theorem GT.nil (h : kk L (M ++ R)) : GT P c A tm kk i [] L M R := h
theorem GT.skip {o : Oper} (hb : Nat.testBit tm i = false) (h : GT P c A tm kk (i + 1) os L M R) : GT P c A tm kk i (o :: os) L M R := by unfold GT; rw [hb]; exact h
theorem GT.step {o : Oper} (hb : Nat.testBit tm i = true) (h : GO P c A [o] (fun e L' H' => e = .normal ∧ ∃ v R', L' = ext o.dst v L ∧ ImpS H' (M ++ R') ∧ GT P c A tm kk (i + 1) os (ext o.dst v L) M R') L (M ++ R)) : GT P c A tm kk i (o :: os) L M R := by unfold GT; rw [hb]; exact h
/-- The end of one of the thread's operations. -/
theorem GT.on {o : Oper} {v : Value} {R' : List HP} {H' : List HP} (hs : ImpS H' (M ++ R')) (h : GT P c A tm kk (i + 1) os (ext o.dst v L) M R') :
    GO P c A [] (fun e L' H' => e = .normal ∧ ∃ v R', L' = ext o.dst v L ∧ ImpS H' (M ++ R') ∧ GT P c A tm kk (i + 1) os (ext o.dst v L) M R') (ext o.dst v L) H' :=
  GO.nil ⟨rfl, v, R', rfl, hs, h⟩

def LatQ (A : Array Oper) (tm : Nat) (V : Nat → Value) (L : Env) : Nat → Env
  | 0 => L
  | i + 1 => bif Nat.testBit tm i then LatQ A tm V L i else match A[i]? with | some o => ext o.dst (V i) (LatQ A tm V L i) | none => LatQ A tm V L i
theorem LatQ_congr {V W : Nat → Value} : ∀ (n : Nat), (∀ i, i < n → V i = W i) → LatQ A tm V L n = LatQ A tm W L n
  | 0, _ => rfl
  | n + 1, h => by
    unfold LatQ
    rw [LatQ_congr n (fun i hi => h i (by omega)), h n (by omega)]
theorem GR.get : ∀ (os : List Oper) (i : Nat) (V0 : Nat → Value), (∀ j o, os[j]? = some o → A[i + j]? = some o) → GR P c A tm i os k (LatQ A tm V0 L i) M →
    ∃ V : Nat → Value, (∀ j, j < i → V j = V0 j) ∧ (∀ j, i ≤ j → j < i + os.length → Nat.testBit tm j = false → ∀ o, A[j]? = some o → ∀ Z, GO P c A [o] (KQ (ext o.dst (V j) (LatQ A tm V L j)) (M ++ Z)) (LatQ A tm V L j) (M ++ Z)) ∧ k (LatQ A tm V L (i + os.length))
  | [], i, V0, _, h => ⟨V0, fun _ _ => rfl, fun j h1 h2 => by simp at h2; omega, by simpa [GR] using h⟩
  | o :: os, i, V0, hA, h => by
    have hoi : A[i]? = some o := hA 0 o rfl
    have hA' : ∀ j o', os[j]? = some o' → A[i + 1 + j]? = some o' := fun j o' hj => by rw [show i + 1 + j = i + (j + 1) by omega]; exact hA (j + 1) o' (by simpa using hj)
    unfold GR at h
    cases hb : Nat.testBit tm i with
    | true =>
      rw [hb] at h
      have h' : GR P c A tm (i + 1) os k (LatQ A tm V0 L (i + 1)) M := by
        have : LatQ A tm V0 L (i + 1) = LatQ A tm V0 L i := by simp [LatQ, hb]
        rw [this]; exact h
      obtain ⟨V, h1, h2, h3⟩ := GR.get os (i + 1) V0 hA' h'
      refine ⟨V, fun j hj => h1 j (by omega), fun j hj1 hj2 hj3 => ?_, ?_⟩
      · have : j ≠ i := by intro e; subst e; rw [hb] at hj3; cases hj3
        exact h2 j (by omega) (by simp at hj2; omega) hj3
      · rw [List.length_cons, show i + (os.length + 1) = i + 1 + os.length by omega]; exact h3
    | false =>
      rw [hb] at h
      obtain ⟨v, hv, h⟩ := h
      have e1 : LatQ A tm (fun j => if j = i then v else V0 j) L (i + 1) = ext o.dst v (LatQ A tm V0 L i) := by
        simp only [LatQ, hb, cond_false, hoi, if_true]
        rw [LatQ_congr i (V := fun j => if j = i then v else V0 j) (W := V0) (fun j hj => if_neg (by omega))]
      obtain ⟨V, h1, h2, h3⟩ := GR.get os (i + 1) (fun j => if j = i then v else V0 j) hA' (by rw [e1]; exact h)
      have hVi : V i = v := by rw [h1 i (by omega), if_pos rfl]
      have hVj : ∀ j, j < i → V j = V0 j := fun j hj => by rw [h1 j (by omega), if_neg (by omega)]
      refine ⟨V, hVj, fun j hj1 hj2 hj3 => ?_, ?_⟩
      · by_cases e : j = i
        · subst e
          intro o' ho' Z
          rw [hoi] at ho'
          simp only [Option.some.injEq] at ho'
          subst ho'
          rw [hVi, LatQ_congr j hVj]
          exact hv Z
        · exact h2 j (by omega) (by simp at hj2; omega) hj3
      · rw [List.length_cons, show i + (os.length + 1) = i + 1 + os.length by omega]; exact h3
theorem GT.adv : ∀ (n p : Nat) (os : List Oper), (∀ j, p ≤ j → j < p + n → Nat.testBit tm j = false) → n ≤ os.length → GT P c A tm kk p os L M R → GT P c A tm kk (p + n) (os.drop n) L M R
  | 0, p, os, _, _, h => h
  | n + 1, p, [], _, hl, _ => by simp at hl
  | n + 1, p, o :: os, hn, hl, h => by
    unfold GT at h
    rw [hn p (by omega) (by omega)] at h
    have := GT.adv n (p + 1) os (fun j h1 h2 => hn j (by omega) (by omega)) (by simpa using hl) h
    rw [show p + (n + 1) = p + 1 + n by omega]
    simpa using this
/-- What an operation does hangs on what it sees. -/
theorem oneOp_see {F : Fence} {o : Oper} {a a2 : Act} {w : World} {Φ : List Deferred → Value → World → Prop} (hqk : qkind o.op = true) (hs : ∀ s, .tmp s ∈ o.op.operands.toList → a.tmps[s]? = a2.tmps[s]?)
    (hg : ∀ j b, o.guard = some (j, b) → ∀ s, dstAt A j s → a.tmps[s]? = a2.tmps[s]?) (h : oneOp F P A o a2 w Φ) : oneOp F P A o a w Φ := by
  have hev : execOp a.eval o = execOp a2.eval o := by
    refine exec_congr hqk fun x hx => ?_
    cases x with
    | tmp s => simp only [Act.eval]; rw [Array.getD_eq_getD_getElem?, Array.getD_eq_getD_getElem?, hs s hx]
    | const v => rfl
    | global g => rfl
    | func f => rfl
  have hwt : Region.wanted o (yielded A a.tmps) = Region.wanted o (yielded A a2.tmps) := by
    unfold Region.wanted
    cases hgd : o.guard with
    | none => rfl
    | some jb =>
      obtain ⟨j, b⟩ := jb
      simp only
      congr 1
      unfold yielded
      cases hA : A[j]? with
      | none => rfl
      | some oj =>
        simp only [Option.bind_some]
        cases hd : oj.dst with
        | none => rfl
        | some s =>
          simp only [Option.bind_some]
          rw [hg j b hgd s ⟨oj, hA, hd⟩]
  have hnd : ndef o.op = true := qk_ndef hqk
  unfold oneOp at h ⊢
  rw [hwt, semAt_nd _ _ _ hnd, hev]
  rw [semAt_nd _ _ _ hnd] at h
  exact h
theorem look_LatQ {q : Nat} {V : Nat → Value} (hA : q ≤ A.size) (ssa : ∀ i j s, i < q → j < q → dstAt A i s → dstAt A j s → i = j) : ∀ i, i ≤ q →
    (∀ j s, j < i → Nat.testBit tm j = false → dstAt A j s → look (LatQ A tm V L i) s = some (V j)) ∧ (∀ s, (∀ j, j < i → Nat.testBit tm j = false → ¬ dstAt A j s) → look (LatQ A tm V L i) s = look L s)
  | 0, _ => ⟨fun j s hj => by omega, fun s _ => rfl⟩
  | i + 1, hi => by
    obtain ⟨h1, h2⟩ := look_LatQ hA ssa i (by omega)
    have hiA : A[i]? = some (A[i]'(by omega)) := Array.getElem?_eq_getElem (by omega)
    cases hb : Nat.testBit tm i with
    | true =>
      have e : LatQ A tm V L (i + 1) = LatQ A tm V L i := by simp [LatQ, hb]
      rw [e]
      refine ⟨fun j s hj hjb hd => h1 j s (by
        have : j ≠ i := by intro e; subst e; rw [hb] at hjb; cases hjb
        omega) hjb hd, fun s hs => h2 s fun j hj => hs j (by omega)⟩
    | false =>
      have e : LatQ A tm V L (i + 1) = ext (A[i]'(by omega)).dst (V i) (LatQ A tm V L i) := by simp only [LatQ, hb, cond_false, hiA]
      rw [e]
      constructor
      · intro j s hj hjb hd
        rw [look_ext]
        by_cases hji : j = i
        · subst hji
          obtain ⟨o, ho1, ho2⟩ := hd
          rw [hiA] at ho1
          simp only [Option.some.injEq] at ho1
          subst ho1
          rw [if_pos ho2]
        · rw [if_neg (fun e => hji (ssa j i s (by omega) (by omega) hd ⟨_, hiA, e⟩))]
          exact h1 j s (by omega) hjb hd
      · intro s hs
        rw [look_ext, if_neg (fun e => hs i (by omega) hb ⟨_, hiA, e⟩)]
        exact h2 s fun j hj => hs j (by omega)
theorem drawT_run {q : Nat} {m : Region.Mode} {V : Nat → Value} {RR : List Nat} {kk : Env → List HP → Prop} (ok : chk c.N q A RR = true) (xok : xOK q tm A RR = true) (tp : topo m A (order m A) 0 = true)
    (hV : ∀ i, i < q → Nat.testBit tm i = false → ∀ o, A[i]? = some o → ∀ Z, GO P c A [o] (KQ (ext o.dst (V i) (LatQ A tm V L i)) (M ++ Z)) (LatQ A tm V L i) (M ++ Z))
    (hkk : ∀ L' H', kk L' H' → GO P c A (A.toList.drop q) K L' H') : ∀ (n t : Nat) (B : Array Bool) (a : Act) (w : World) (p : Nat) (Lv : Env) (R : List HP),
    B.size = A.size → Closed A RR B → (List.range A.size).countP (fun i => !B.getD i true) = n → (∀ i, q ≤ i → i < A.size → B.getD i true = false) →
    a.tmps.size = c.N → Same c.w0 w → (∃ ds : List Nat, a.defers = ds.map mark ∧ (c.r.isSome = true → ds = []) ∧ sat ((M ++ R) ++ (c.X ++ ds.map dblk)) w) →
    p ≤ q → (∀ j, j < q → Nat.testBit tm j = true → (B.getD j true = true ↔ j < p)) → GT P c A tm kk p ((A.toList.take q).drop p) Lv M R →
    (∀ j d, j < q → Nat.testBit tm j = false → dstAt A j d → look Lv d = some (V j)) → (∀ s, (∀ j, j < q → ¬ dstAt A j s) → look Lv s = look L s) →
    (∀ s v, look Lv s = some v → s < c.N) → (∀ s v, look Lv s = some v → (∀ j, j < q → Nat.testBit tm j = false → B.getD j true = false → ¬ dstAt A j s) → a.tmps[s]? = some v) →
    wpOpsIn (fen c.r) 0 P A (Post c K) (lin m A n t B) a w := by
  have hok := ok
  unfold chk at hok
  simp only [Bool.and_eq_true, List.all_eq_true, List.mem_range] at hok
  obtain ⟨hqb, hok⟩ := hok
  have hq : q ≤ A.size := by simpa using hqb
  have hop : ∀ i (hi : i < A.size), opOK c.N q A RR i A[i] = true := fun i hi => by have := hok i hi; simpa [hi] using this
  have hqop : ∀ i (hi : i < A.size), i < q → qkind A[i].op = true ∧ (∀ d, A[i].dst = some d → d < c.N ∧ ∀ j, j < q → j ≠ i → ¬ dstAt A j d) ∧
      (∀ t, .tmp t ∈ A[i].op.operands.toList → ∀ j, j < q → dstAt A j t → bit RR i j = true ∧ j < i) ∧ (∀ j b, A[i].guard = some (j, b) → j < q ∧ bit RR i j = true ∧ j < i) := by
    intro i hi hiq
    have h := hop i hi
    unfold opOK at h
    have hb : Nat.blt i q = true := by simpa using hiq
    simp only [hb, cond_true, Bool.and_eq_true] at h
    obtain ⟨_, ⟨⟨h1, h2⟩, h3⟩, h4⟩ := h
    refine ⟨h1, ?_, ?_, ?_⟩
    · intro d hd
      rw [hd] at h2
      simp only [Bool.and_eq_true, List.all_eq_true, List.mem_range] at h2
      refine ⟨by simpa using h2.1, fun j hj hne hdj => ?_⟩
      have := h2.2 j hj
      rw [dstIs_of hdj, nbeq hne] at this
      simp at this
    · intro t ht j hj hdj
      have hx := xok
      unfold xOK at hx
      simp only [List.all_eq_true, List.mem_range] at hx
      have hx := hx i hiq
      simp only [hi, getElem?_pos, Bool.and_eq_true, List.all_eq_true, List.mem_range] at hx
      have := hx.1.1 t (by unfold opTmps; rw [List.mem_filterMap]; exact ⟨.tmp t, ht, rfl⟩) j hj
      rw [dstIs_of hdj] at this
      simp only [Bool.not_true, Bool.false_or, Bool.and_eq_true] at this
      exact ⟨this.1.1, by simpa using this.1.2⟩
    · intro j b hg
      rw [hg] at h4
      simp only [Bool.and_eq_true] at h4
      exact ⟨by simpa using h4.1.1, h4.1.2, by simpa using h4.2⟩
  have xop : ∀ i (hi : i < A.size), i < q → (∀ t, .tmp t ∈ A[i].op.operands.toList → ∀ j, j < q → dstAt A j t → Nat.testBit tm i = true ∨ Nat.testBit tm j = false) ∧
      (∀ j b, A[i].guard = some (j, b) → Nat.testBit tm i = true ∨ Nat.testBit tm j = false) ∧ (Nat.testBit tm i = true → ∀ j, j < i → Nat.testBit tm j = true → bit RR i j = true) := by
    intro i hi hiq
    have h := xok
    unfold xOK at h
    simp only [List.all_eq_true, List.mem_range] at h
    have h := h i hiq
    simp only [hi, getElem?_pos, Bool.and_eq_true, List.all_eq_true, List.mem_range] at h
    obtain ⟨⟨h1, h2⟩, h3⟩ := h
    refine ⟨?_, ?_, ?_⟩
    · intro t ht j hj hd
      have := h1 t (by unfold opTmps; rw [List.mem_filterMap]; exact ⟨.tmp t, ht, rfl⟩) j hj
      rw [dstIs_of hd] at this
      simp only [Bool.not_true, Bool.false_or, Bool.and_eq_true] at this
      simpa using this.2
    · intro j b hg
      rw [hg] at h2
      simpa using h2
    · intro ht j hj hjt
      rw [ht] at h3
      simp only [Bool.not_true, Bool.false_or, List.all_eq_true, List.mem_range] at h3
      have := h3 j hj
      rw [hjt] at this
      simpa using this
  have ssa : ∀ i j s, i < q → j < q → dstAt A i s → dstAt A j s → i = j := by
    intro i j s hi hj h1 h2
    by_cases hij : i = j
    · exact hij
    · exfalso
      obtain ⟨o, ho, hd⟩ := h1
      have hi' : i < A.size := by omega
      simp [hi'] at ho
      have := (hqop i hi' hi).2.1 s (by rw [ho]; exact hd)
      exact this.2 j hj (Ne.symm hij) h2
  have hlenq : (A.toList.take q).length = q := by simp; omega
  -- when all of the first q are done
  have done : ∀ (B : Array Bool) (a : Act) (w : World) (p : Nat) (Lv : Env) (R : List HP), (∀ i, i < q → B.getD i true = true) → a.tmps.size = c.N → Same c.w0 w → (∃ ds : List Nat, a.defers = ds.map mark ∧ (c.r.isSome = true → ds = []) ∧ sat ((M ++ R) ++ (c.X ++ ds.map dblk)) w) →
      p ≤ q → (∀ j, j < q → Nat.testBit tm j = true → (B.getD j true = true ↔ j < p)) → GT P c A tm kk p ((A.toList.take q).drop p) Lv M R → (∀ s v, look Lv s = some v → (∀ j, j < q → Nat.testBit tm j = false → B.getD j true = false → ¬ dstAt A j s) → a.tmps[s]? = some v) →
      opsWp (fen c.r) P A (Post c K) (A.toList.drop q) a w := by
    intro B a w p Lv R hall hN hsame hmem hp hT hgt hI
    have h2 : GT P c A tm kk (p + (q - p)) (((A.toList.take q).drop p).drop (q - p)) Lv M R := GT.adv (q - p) p _ (fun j h1 h2 => by
      cases hb : Nat.testBit tm j with
      | false => rfl
      | true =>
        have := (hT j (by omega) hb).1 (hall j (by omega))
        omega) (by rw [List.length_drop, hlenq]; exact Nat.le_refl _) hgt
    have e : ((A.toList.take q).drop p).drop (q - p) = [] := by rw [List.drop_drop, List.drop_eq_nil_iff, hlenq]; omega
    rw [e] at h2
    refine hkk _ _ h2 a w ⟨⟨hN, fun s v hs => hI s v hs fun j hj _ hb => ?_⟩, hsame, hmem⟩
    rw [hall j hj] at hb; cases hb
  intro n
  induction n with
  | zero =>
    intro t B a w p Lv R hBs cl hcnt htail hN hsame hmem hp hT hgt hI1 hI2 hI3 hI4
    have hall : ∀ i, i < A.size → B.getD i true = true := by
      intro i hi
      rw [List.countP_eq_zero] at hcnt
      simpa using hcnt i (by simpa using hi)
    have hqs : q = A.size := by
      by_cases h : q < A.size
      · have h1 := hall q h; have h2 := htail q (by omega) h; rw [h1] at h2; cases h2
      · omega
    have hd := done B a w p Lv R (fun i hi => hall i (by omega)) hN hsame hmem hp hT hgt hI4
    have hdrop : A.toList.drop q = [] := by rw [hqs]; simp
    rw [hdrop] at hd
    simp only [lin]
    exact hd
  | succ n ih =>
    intro t B a w p Lv R hBs cl hcnt htail hN hsame hmem hp hT hgt hI1 hI2 hI3 hI4
    by_cases hquiet : ∀ i, i < q → B.getD i true = true
    · -- the tail
      have hB : ∀ i, i < A.size → B.getD i true = decide (i < q) := by
        intro i hi
        by_cases h : i < q
        · simp [h, hquiet i h]
        · simp [h, htail i (by omega) hi]
      have hcn : n + 1 = A.size - q := by
        rw [← hcnt, ← countP_ge q A.size hq]
        apply List.countP_congr
        intro x hx
        rw [hB x (by simpa using hx)]
      rw [lin_tail ok (n + 1) q t B (by omega) (Nat.le_refl q) hBs cl hB]
      refine wpOps_of_list (fen_fn c.r) _ (A.toList.drop q) a w ?_ (done B a w p Lv R hquiet hN hsame hmem hp hT hgt hI4)
      apply List.ext_getElem?
      intro i
      simp only [List.getElem?_map, List.getElem?_range', List.getElem?_drop]
      by_cases h : i < n + 1
      · have h' : q + i < A.size := by omega
        simp [h, h']
      · have h' : ¬ q + i < A.size := by omega
        have e1 : A.toList[q + i]? = none := by rw [List.getElem?_eq_none]; simpa using h'
        simp [h, e1]
    · -- one of the others
      have hex : ∃ i, i < A.size ∧ B.getD i true = false := by
        apply Classical.byContradiction
        intro h
        apply hquiet
        intro i hi
        cases e : B.getD i true with
        | true => rfl
        | false => exact absurd ⟨i, by omega, e⟩ h
      obtain ⟨i0, hi0, hc0⟩ := topo_cand hBs _ 0 tp (fun i h => by simp at h) hex
      have hne : 0 < ((List.range A.size).filter (cand m A B)).length := by
        apply List.length_pos_of_mem (a := i0)
        rw [List.mem_filter]; exact ⟨by simpa using hi0, hc0⟩
      have hlt := Nat.mod_lt t hne
      have hget := List.getElem?_eq_getElem hlt
      generalize hidef : ((List.range A.size).filter (cand m A B))[t % ((List.range A.size).filter (cand m A B)).length] = i at hget
      have himem : i ∈ (List.range A.size).filter (cand m A B) := by rw [← hidef]; exact List.getElem_mem hlt
      rw [List.mem_filter] at himem
      obtain ⟨hir, hci⟩ := himem
      have hi : i < A.size := by simpa using hir
      have hBi : B.getD i true = false := cand_not hci
      have hiA : A[i]? = some A[i] := by simp [hi]
      have pred : ∀ j, bit RR i j = true → B.getD j true = true := by
        intro j hj
        have h2 := cand_pred hci hiA (hop i hi) cl hBs hj
        rw [Array.getD_eq_getD_getElem?] at h2 ⊢
        cases hb : B[j]? with
        | none => simp
        | some b => simp [hb] at h2 ⊢; exact h2
      have hiq : i < q := by
        apply Classical.byContradiction
        intro hnq
        apply hquiet
        intro j hj
        have h := hop i hi
        unfold opOK at h
        have hb : Nat.blt i q = false := by
          cases e : Nat.blt i q with
          | false => rfl
          | true => have : i < q := by simpa using e
                    omega
        simp only [hb, cond_false, Bool.and_eq_true, List.all_eq_true, List.mem_range] at h
        exact pred j (h.2.1 j (by omega))
      obtain ⟨hqk, hdst, hops, hgd⟩ := hqop i hi hiq
      obtain ⟨xops, xgd, xth⟩ := xop i hi hiq
      obtain ⟨ds, hdef, hdr, hsat⟩ := hmem
      have hlin : lin m A (n + 1) t B = i :: lin m A n (t / ((List.range A.size).filter (cand m A B)).length) (B.setIfInBounds i true) := by
        simp only [lin, hget]
      have hgd2 : ∀ j, (B.setIfInBounds i true).getD j true = if j = i then true else B.getD j true := by
        intro j
        rw [Array.getD_eq_getD_getElem?, Array.getD_eq_getD_getElem?]
        by_cases h : i = j
        · subst h
          have : i < B.size := by omega
          simp [this]
        · rw [Array.getElem?_setIfInBounds_ne h]; simp [Ne.symm h]
      have hcl2 : Closed A RR (B.setIfInBounds i true) := by
        intro i' j hi' hb hj
        rw [hgd2] at hb
        have h1 : B.getD j false = true := by
          by_cases h : i' = i
          · subst h; exact cand_pred hci hiA (hop i' hi) cl hBs hj
          · rw [if_neg h] at hb; exact cl i' j hi' hb hj
        rw [Array.getD_eq_getD_getElem?] at h1 ⊢
        by_cases h : i = j
        · subst h
          have : i < B.size := by omega
          simp [this]
        · rw [Array.getElem?_setIfInBounds_ne h]; exact h1
      have hcnt2 : (List.range A.size).countP (fun j => !(B.setIfInBounds i true).getD j true) = n := by
        have := countP_upd (f := fun j => !B.getD j true) (g := fun j => !(B.setIfInBounds i true).getD j true) (i := i) (by simp [hBi]) (by simp [hgd2]) (fun j hj => by simp [hgd2, hj]) (List.range A.size) List.nodup_range (by simpa using hi)
        omega
      have htail2 : ∀ j, q ≤ j → j < A.size → (B.setIfInBounds i true).getD j true = false := by
        intro j hj hja
        rw [hgd2, if_neg (by omega)]; exact htail j hj hja
      -- a slot that the operation looks at holds what it will hold: no waiting quiet one writes it
      have hsee : ∀ s, (.tmp s ∈ A[i].op.operands.toList ∨ ∃ j b, A[i].guard = some (j, b) ∧ dstAt A j s) → ∀ j, j < q → Nat.testBit tm j = false → B.getD j true = false → ¬ dstAt A j s := by
        intro s hs j hj _ hb hd
        have hE : bit RR i j = true := by
          rcases hs with hs | ⟨j', b, hg, hd'⟩
          · exact (hops s hs j hj hd).1
          · obtain ⟨hj', hE⟩ := hgd j' b hg
            have : j' = j := ssa j' j s hj' hj hd' hd
            subst this; exact hE.1
        rw [pred j hE] at hb; cases hb
      rw [hlin]
      cases hti : Nat.testBit tm i with
      | false =>
        -- a quiet one
        obtain ⟨l1, l2⟩ := look_LatQ (V := V) (L := L) (tm := tm) hq ssa i (by omega)
        let a2 : Act := { tmps := Array.ofFn (n := c.N) fun s => (look (LatQ A tm V L i) s.1).getD (a.tmps.getD s.1 undef), defers := a.defers }
        have ha2 : ∀ s, s < c.N → a2.tmps[s]? = some ((look (LatQ A tm V L i) s).getD (a.tmps.getD s undef)) := by
          intro s hs; simp [a2, Array.getElem?_ofFn, hs]
        have hLv : ∀ s v, look (LatQ A tm V L i) s = some v → (∃ j, j < i ∧ Nat.testBit tm j = false ∧ dstAt A j s ∧ v = V j) ∨ ((∀ j, j < i → Nat.testBit tm j = false → ¬ dstAt A j s) ∧ look L s = some v) := by
          intro s v hs
          by_cases h : ∃ j, j < i ∧ Nat.testBit tm j = false ∧ dstAt A j s
          · obtain ⟨j, hj, hjb, hd⟩ := h
            rw [l1 j s hj hjb hd] at hs
            exact .inl ⟨j, hj, hjb, hd, by simpa using hs.symm⟩
          · have hn : ∀ j, j < i → Nat.testBit tm j = false → ¬ dstAt A j s := fun j hj hjb hd => h ⟨j, hj, hjb, hd⟩
            rw [l2 s hn] at hs
            exact .inr ⟨hn, hs⟩
        have hdN : ∀ j s, j < q → dstAt A j s → s < c.N := by
          intro j s hj hd
          obtain ⟨o, ho1, ho2⟩ := hd
          have hj' : j < A.size := by omega
          simp [hj'] at ho1
          exact ((hqop j hj' hj).2.1 s (by rw [ho1]; exact ho2)).1
        have hLN : ∀ s v, look (LatQ A tm V L i) s = some v → s < c.N := by
          intro s v hs
          rcases hLv s v hs with ⟨j, hj, _, hd, _⟩ | ⟨_, hl⟩
          · exact hdN j s (by omega) hd
          · by_cases h' : ∃ j, j < q ∧ dstAt A j s
            · obtain ⟨j, hj, hd⟩ := h'; exact hdN j s hj hd
            · exact hI3 s v (by rw [hI2 s fun j hj hd => h' ⟨j, hj, hd⟩]; exact hl)
        have hst2 : St c (LatQ A tm V L i) (M ++ R) a2 w := ⟨⟨by simp [a2], fun s v hs => by rw [ha2 s (hLN s v hs), hs]; rfl⟩, hsame, ds, hdef, hdr, hsat⟩
        have hone := hV i hiq hti A[i] hiA R a2 w hst2
        have hone1 := oneOp_of (F := fen c.r) (P := P) (A := A) (o := A[i]) (a := a2) (w := w) (fun e a w h => by obtain ⟨_, _, _, h, _⟩ := h; exact h) hone
        have hslot : ∀ s, (.tmp s ∈ A[i].op.operands.toList ∨ ∃ j b, A[i].guard = some (j, b) ∧ dstAt A j s) → a.tmps[s]? = a2.tmps[s]? := by
          intro s hs
          by_cases hsN : s < c.N
          · rw [ha2 s hsN]
            cases hl : look (LatQ A tm V L i) s with
            | none =>
              simp only [Option.getD_none]
              rw [Array.getD_eq_getD_getElem?]
              have hh : s < a.tmps.size := by omega
              simp [hh]
            | some v =>
              rw [Option.getD_some]
              refine hI4 s v ?_ (hsee s hs)
              rcases hLv s v hl with ⟨j, hj, hjb, hd, rfl⟩ | ⟨hn, hl'⟩
              · exact hI1 j s (by omega) hjb hd
              · rw [hI2 s]
                · exact hl'
                · intro j hj hd
                  rcases hs with hs | ⟨j', b, hg, hd'⟩
                  · obtain ⟨_, hji⟩ := hops s hs j hj hd
                    rcases xops s hs j hj hd with h | h
                    · rw [hti] at h; cases h
                    · exact hn j hji h hd
                  · obtain ⟨hj', _, hji⟩ := hgd j' b hg
                    have : j' = j := ssa j' j s hj' hj hd' hd
                    subst this
                    rcases xgd j' b hg with h | h
                    · rw [hti] at h; cases h
                    · exact hn j' hji h hd
          · have h1 : a.tmps[s]? = none := by rw [Array.getElem?_eq_none]; omega
            have h2 : a2.tmps[s]? = none := by rw [Array.getElem?_eq_none]; simp [a2]; omega
            rw [h1, h2]
        have hone2 := oneOp_see (A := A) hqk (fun s hs => hslot s (.inl hs)) (fun j b hg s hd => hslot s (.inr ⟨j, b, hg, hd⟩)) hone1
        refine oneOp_run (fen_fn c.r) hiA (oneOp_mono hone2 ?_)
        rintro D v w' ⟨L', H', ⟨hat, hs', ds', hdef', hdr', hsat'⟩, _, rfl, hsb⟩
        have hv : ∀ d, A[i].dst = some d → v = V i := by
          intro d hd
          have h1 := hat.2 d (V i) (by rw [hd]; simp [ext, look])
          rw [hd, putD_self (by simp [a2]; exact (hdst d hd).1)] at h1
          simpa using h1
        refine ih _ _ _ w' p Lv R (by simpa using hBs) hcl2 hcnt2 htail2 ?_ hs' ?_ hp ?_ hgt hI1 hI2 hI3 ?_
        · cases hd : A[i].dst <;> simp only [Act.putD, Act.put, Array.size_setIfInBounds, hN]
        · refine ⟨ds', ?_, hdr', (Sb.app hsb).sat hsat'⟩
          have : (Act.putD a2 D A[i].dst v).defers = D ++ a.defers := by cases A[i].dst <;> rfl
          rw [this] at hdef'
          cases A[i].dst <;> exact hdef'
        · intro j hj hjt
          rw [hgd2, if_neg (by intro e; subst e; rw [hti] at hjt; cases hjt)]
          exact hT j hj hjt
        · intro s u hs hnone
          by_cases hd : A[i].dst = some s
          · rw [hd, hv s hd]
            rw [hI1 i s hiq hti ⟨A[i], hiA, hd⟩] at hs
            simp only [Option.some.injEq] at hs
            rw [← hs]
            exact putD_self (Nat.lt_of_lt_of_eq (hdst s hd).1 hN.symm)
          · rw [putD_ne (fun d' hd' e => hd (by rw [hd', e]))]
            refine hI4 s u hs fun j hj hjt hb hdj => ?_
            by_cases hji : j = i
            · subst hji
              obtain ⟨o, ho1, ho2⟩ := hdj
              rw [hiA] at ho1
              simp only [Option.some.injEq] at ho1
              exact hd (by rw [ho1]; exact ho2)
            · exact hnone j hj hjt (by rw [hgd2, if_neg hji]; exact hb) hdj
      | true =>
        -- the thread's next
        have hpi : p ≤ i := by
          apply Classical.byContradiction
          intro h
          have := (hT i hiq hti).2 (by omega)
          rw [hBi] at this; cases this
        have hbet : ∀ j, p ≤ j → j < p + (i - p) → Nat.testBit tm j = false := by
          intro j h1 h2
          cases hb : Nat.testBit tm j with
          | false => rfl
          | true =>
            have := (hT j (by omega) hb).1 (pred j (xth hti j (by omega) hb))
            omega
        have hgt2 : GT P c A tm kk (p + (i - p)) (((A.toList.take q).drop p).drop (i - p)) Lv M R := GT.adv (i - p) p _ hbet (by rw [List.length_drop, hlenq]; omega) hgt
        have e1 : p + (i - p) = i := by omega
        have e2 : ((A.toList.take q).drop p).drop (i - p) = A[i] :: (A.toList.take q).drop (i + 1) := by
          rw [List.drop_drop, e1, List.drop_eq_getElem_cons (by omega)]
          simp
        rw [e2, e1] at hgt2
        unfold GT at hgt2
        rw [hti, cond_true] at hgt2
        let a2 : Act := { tmps := Array.ofFn (n := c.N) fun s => (look Lv s.1).getD (a.tmps.getD s.1 undef), defers := a.defers }
        have ha2 : ∀ s, s < c.N → a2.tmps[s]? = some ((look Lv s).getD (a.tmps.getD s undef)) := by
          intro s hs; simp [a2, Array.getElem?_ofFn, hs]
        have hst2 : St c Lv (M ++ R) a2 w := ⟨⟨by simp [a2], fun s v hs => by rw [ha2 s (hI3 s v hs), hs]; rfl⟩, hsame, ds, hdef, hdr, hsat⟩
        have hone := hgt2 a2 w hst2
        have hone1 := oneOp_of (F := fen c.r) (P := P) (A := A) (o := A[i]) (a := a2) (w := w) (fun e a w h => by obtain ⟨_, _, _, h, _⟩ := h; exact h) hone
        have hslot : ∀ s, (.tmp s ∈ A[i].op.operands.toList ∨ ∃ j b, A[i].guard = some (j, b) ∧ dstAt A j s) → a.tmps[s]? = a2.tmps[s]? := by
          intro s hs
          by_cases hsN : s < c.N
          · rw [ha2 s hsN]
            cases hl : look Lv s with
            | none =>
              simp only [Option.getD_none]
              rw [Array.getD_eq_getD_getElem?]
              have hh : s < a.tmps.size := by omega
              simp [hh]
            | some v =>
              rw [Option.getD_some]
              exact hI4 s v hl (hsee s hs)
          · have h1 : a.tmps[s]? = none := by rw [Array.getElem?_eq_none]; omega
            have h2 : a2.tmps[s]? = none := by rw [Array.getElem?_eq_none]; simp [a2]; omega
            rw [h1, h2]
        have hone2 := oneOp_see (A := A) hqk (fun s hs => hslot s (.inl hs)) (fun j b hg s hd => hslot s (.inr ⟨j, b, hg, hd⟩)) hone1
        refine oneOp_run (fen_fn c.r) hiA (oneOp_mono hone2 ?_)
        rintro D v w' ⟨L', H', ⟨hat, hs', ds', hdef', hdr', hsat'⟩, _, v', R', rfl, hsb, hgt3⟩
        have hv : ∀ d, A[i].dst = some d → v = v' := by
          intro d hd
          have h1 := hat.2 d v' (by rw [hd]; simp [ext, look])
          rw [hd, putD_self (by simp [a2]; exact (hdst d hd).1)] at h1
          simpa using h1
        have hnd : ∀ s, A[i].dst = some s → ∀ j, j < q → j ≠ i → ¬ dstAt A j s := fun s hs j hj hji => (hdst s hs).2 j hj hji
        refine ih _ _ _ w' (i + 1) (ext A[i].dst v' Lv) R' (by simpa using hBs) hcl2 hcnt2 htail2 ?_ hs' ?_ (by omega) ?_ hgt3 ?_ ?_ ?_ ?_
        · cases hd : A[i].dst <;> simp only [Act.putD, Act.put, Array.size_setIfInBounds, hN]
        · refine ⟨ds', ?_, hdr', hsb _ _ hsat'⟩
          have : (Act.putD a2 D A[i].dst v).defers = D ++ a.defers := by cases A[i].dst <;> rfl
          rw [this] at hdef'
          cases A[i].dst <;> exact hdef'
        · intro j hj hjt
          rw [hgd2]
          by_cases hji : j = i
          · subst hji; simp
          · rw [if_neg hji, hT j hj hjt]
            constructor
            · intro h; omega
            · intro h
              apply Classical.byContradiction
              intro h'
              have := hbet j (by omega) (by omega)
              rw [hjt] at this; cases this
        · intro j d hj hjt hd
          rw [look_ext, if_neg (fun e => hnd d e j hj (by intro e'; subst e'; rw [hti] at hjt; cases hjt) hd)]
          exact hI1 j d hj hjt hd
        · intro s hs
          rw [look_ext, if_neg (fun e => hs i hiq ⟨A[i], hiA, e⟩)]
          exact hI2 s hs
        · intro s u hs
          rw [look_ext] at hs
          by_cases hd : A[i].dst = some s
          · exact (hdst s hd).1
          · rw [if_neg hd] at hs; exact hI3 s u hs
        · intro s u hs hnone
          rw [look_ext] at hs
          by_cases hd : A[i].dst = some s
          · rw [if_pos hd] at hs
            simp only [Option.some.injEq] at hs
            rw [hd, hv s hd, hs]
            exact putD_self (Nat.lt_of_lt_of_eq (hdst s hd).1 hN.symm)
          · rw [if_neg hd] at hs
            rw [putD_ne (fun d' hd' e => hd (by rw [hd', e]))]
            refine hI4 s u hs fun j hj hjt hb hdj => ?_
            have hji : j ≠ i := by intro e; subst e; rw [hti] at hjt; cases hjt
            exact hnone j hj hjt (by rw [hgd2, if_neg hji]; exact hb) hdj
/-- A region that draws its order: quiet operations in whatever order, among them a thread of others (the bits of tm) in its own, then the rest, whose order is forced. -/
theorem G.drawT {id : Nat} (q tm : Nat) (M R : List HP) (ok : drawTOK c.N q tm A = true) (hL : ∀ s v, look L s = some v → s < c.N) (tk : ImpS H (M ++ R))
    (h : GR P c A tm 0 (A.toList.take q) (fun L' => GT P c A tm (fun L' H' => GO P c A (A.toList.drop q) K L' H') 0 (A.toList.take q) L' M R) L M) : G P c (.region id A true) K L H := by
  intro a w hs
  refine wpIn_region_draw fun t => ?_
  unfold drawTOK drawOK at ok
  simp only [Bool.and_eq_true] at ok
  obtain ⟨⟨ok1, ok2, ok3, ok4⟩, xok⟩ := ok
  have hq : q ≤ A.size := by
    unfold chk at ok1
    simp only [Bool.and_eq_true] at ok1
    simpa using ok1.1
  have hlen : (A.toList.take q).length = q := by simp; omega
  have hAt : ∀ j o, (A.toList.take q)[j]? = some o → A[0 + j]? = some o := fun j o hj => by
    have := (List.getElem?_eq_some_iff.1 hj).1
    rw [hlen] at this
    rw [List.getElem?_take_of_lt this] at hj
    simpa using hj
  obtain ⟨V, _, hV, hk⟩ := GR.get (A.toList.take q) 0 (fun _ => undef) hAt (by simpa [LatQ] using h)
  rw [hlen, Nat.zero_add] at hV hk
  have hok := ok1
  unfold chk at hok
  simp only [Bool.and_eq_true, List.all_eq_true, List.mem_range] at hok
  have hdd : ∀ i d, i < q → dstAt A i d → d < c.N ∧ ∀ j, j < q → j ≠ i → ¬ dstAt A j d := by
    intro i d hi hd
    have hi' : i < A.size := by omega
    have h := hok.2 i hi'
    simp only [hi', getElem?_pos] at h
    obtain ⟨o, ho1, ho2⟩ := hd
    simp [hi'] at ho1
    rw [ho1] at h
    unfold opOK at h
    have hb : Nat.blt i q = true := by simpa using hi
    simp only [hb, cond_true, Bool.and_eq_true] at h
    obtain ⟨_, ⟨⟨_, h2⟩, _⟩, _⟩ := h
    rw [ho2] at h2
    simp only [Bool.and_eq_true, List.all_eq_true, List.mem_range] at h2
    refine ⟨by simpa using h2.1, fun j hj hne hdj => ?_⟩
    have := h2.2 j hj
    rw [dstIs_of hdj, nbeq hne] at this
    simp at this
  have ssa : ∀ i j s, i < q → j < q → dstAt A i s → dstAt A j s → i = j := by
    intro i j s hi hj h1 h2
    by_cases hij : i = j
    · exact hij
    · exact absurd h2 ((hdd i s hi h1).2 j hj (Ne.symm hij))
  obtain ⟨l1, l2⟩ := look_LatQ (V := V) (L := L) (tm := tm) hq ssa q (Nat.le_refl q)
  have run : ∀ m t, topo m A (order m A) 0 = true → wpOpsIn (fen c.r) 0 P A (Post c K) (Region.linearise m A t) a { w with drawn := w.drawn + 1 } := by
    intro m t tp
    unfold Region.linearise
    rw [lin_eq]
    simp only [List.reverse_nil, List.nil_append]
    obtain ⟨h1, h2, ds, h3, h4, h5⟩ := hs
    have hrep : ∀ i, i < A.size → (Array.replicate A.size false).getD i true = false := by
      intro i hi; rw [Array.getD_eq_getD_getElem?]; simp [hi]
    refine drawT_run (RR := cloL A A.size) ok1 xok tp (fun i hi hb o ho Z => hV i (Nat.zero_le _) hi hb o ho Z) (fun _ _ h => h) _ _ _ a _ 0 (LatQ A tm V L q) R (by simp) (fun i j hi hb => by rw [hrep i hi] at hb; cases hb) ?_ (fun i _ hi => hrep i hi) h1.1 (h2.trans (Same.drawn _ (Nat.le_add_right _ _))) ⟨ds, h3, h4, ?_⟩ (Nat.zero_le _) ?_ hk (fun j d hj hb hd => l1 j d hj hb hd) (fun s hs => l2 s fun j hj _ => hs j hj) ?_ ?_
    · rw [List.countP_eq_length.2]
      · simp
      · intro i hi; rw [hrep i (by simpa using hi)]; rfl
    · exact sat_heap (tk _ _ h5) rfl
    · intro j hj _
      rw [hrep j (by omega)]
      constructor
      · intro h; cases h
      · intro h; omega
    · intro s v hs
      by_cases h : ∃ j, j < q ∧ dstAt A j s
      · obtain ⟨j, hj, hd⟩ := h; exact (hdd j s hj hd).1
      · rw [l2 s fun j hj _ hd => h ⟨j, hj, hd⟩] at hs
        exact hL s v hs
    · intro s v hs hno
      have hn : ∀ j, j < q → Nat.testBit tm j = false → ¬ dstAt A j s := fun j hj hb => hno j hj hb (hrep j (by omega))
      rw [l2 s hn] at hs
      exact h1.2 s v hs
  unfold Region.schedule
  split
  · exact run _ _ ok2
  · split
    · exact run _ _ ok3
    · exact run _ _ ok4
def keysLt (N : Nat) : Env → Bool
  | [] => true
  | (k, _) :: L => Nat.blt k N && keysLt N L
theorem keys_of {N : Nat} : ∀ {L : Env}, keysLt N L = true → ∀ s v, look L s = some v → s < N
  | [], _, s, v, h => by simp [look] at h
  | (k, u) :: L, h, s, v, hs => by
    simp only [keysLt, Bool.and_eq_true] at h
    simp only [look] at hs
    by_cases e : k = s
    · subst e; simpa using h.1
    · rw [nbeq e] at hs; exact keys_of h.2 s v hs
def PVals (L : Env) : List (Nat × Operand) → List (Nat × Value) → Prop
  | [], [] => True
  | (i, x) :: ps, (j, v) :: vs => i = j ∧ evl L x = some v ∧ PVals L ps vs
  | _, _ => False
theorem PVals.map {N : Nat} {a : Act} (h : At N L a) : ∀ {ps : List (Nat × Operand)} {vs : List (Nat × Value)}, PVals L ps vs → ps.map (fun (y : Nat × Operand) => (y.1, a.eval y.2)) = vs
  | [], [], _ => rfl
  | (i, x) :: ps, (j, v) :: vs, ⟨h1, h2, h3⟩ => by
    subst h1
    simp only [List.map_cons, h.eval h2, PVals.map h h3]
  | [], _ :: _, h => h.elim
  | _ :: _, [], h => h.elim
/-- A struct's value out of some of its parts. -/
theorem GO.buildPart {rest : List Oper} {t ty : TypeId} {p : String} {e : Array Edge} {d : Nat} {ps : List (Nat × Operand)} {vs : List (Nat × Value)} {l : List Value} (hb : P.built ty vs = some l.toArray) (hN : Nat.blt d c.N = true) (hv : PVals L ps vs)
    (k : GO P c A rest K ((d, .agg l.toArray) :: L) H) : GO P c A (⟨some d, .build ty ps.toArray, t, p, e, none⟩ :: rest) K L H :=
  GO.val hN rfl (fun a w Y h _ => by
    simp only [execOp]
    have e1 : (ps.toArray.map fun (y : Nat × Operand) => (y.1, a.eval y.2)).toList = vs := by
      rw [Array.toList_map]; exact PVals.map h hv
    have := run_build (P := P) w ty (ps.toArray.map fun (y : Nat × Operand) => (y.1, a.eval y.2)) l.toArray (by rw [e1]; exact hb)
    rw [Sem.run_bind, this]; rfl) k
theorem GO.buildPart1 {rest : List Oper} {t ty : TypeId} {p : String} {e : Array Edge} {d i1 : Nat} {x1 : Operand} {v1 : Value} {l : List Value} (hb : P.built ty [(i1, v1)] = some l.toArray) (hN : Nat.blt d c.N = true) (h1 : evl L x1 = some v1)
    (k : GO P c A rest K ((d, .agg l.toArray) :: L) H) : GO P c A (⟨some d, .build ty #[(i1, x1)], t, p, e, none⟩ :: rest) K L H :=
  GO.buildPart (ps := [(i1, x1)]) hb hN ⟨rfl, h1, trivial⟩ k
/-- What a slice of our own holds as a value: one cell. -/
theorem GO.ownOne {el : TypeId} {sz n : Nat} {v : Value} {xs : List Value} {F : List HP} {os : List Oper} (tk : Tk (own el sz n v xs) H F) (k : v.oneCell' = true → GO P c A os K L H) : GO P c A os K L H := by
  rintro a w ⟨h1, h2, ds, h3, h4, h5⟩
  have s1 := sat_perm (List.Perm.append_right _ tk) h5
  refine k ?_ a w ⟨h1, h2, ds, h3, h4, h5⟩
  rcases own_shape s1 with ⟨rfl, _⟩ | ⟨_, _, _, rfl, _⟩ <;> rfl
theorem G.ownOne {el : TypeId} {sz n : Nat} {v : Value} {xs : List Value} {F : List HP} {C : Code} (tk : Tk (own el sz n v xs) H F) (k : v.oneCell' = true → G P c C K L H) : G P c C K L H := by
  rintro a w ⟨h1, h2, ds, h3, h4, h5⟩
  have s1 := sat_perm (List.Perm.append_right _ tk) h5
  refine k ?_ a w ⟨h1, h2, ds, h3, h4, h5⟩
  rcases own_shape s1 with ⟨rfl, _⟩ | ⟨_, _, _, rfl, _⟩ <;> rfl
/-- A value of two cells. -/
theorem GO.load2 {rest : List Oper} {t ty : TypeId} {p : String} {e : Array Edge} {d b o : Nat} {x : Operand} {ds : TypeDesc} {q : HP} {u1 u2 : Value} {F : List HP} [hu : UL P ty ds] [hs : SZ P ty 2] (hd : ds.isRow = true) (hN : Nat.blt d c.N = true) (hx : evl L x = some (.pointer (some ⟨b, o, none⟩))) (tk : Tk q H F)
    (r1 : Rd q ⟨b, o, none⟩ u1) (r2 : Rd q ⟨b, o + 1, none⟩ u2) (k : GO P c A rest K ((d, .agg [u1, u2].toArray) :: L) H) : GO P c A (⟨some d, .load ty x, t, p, e, none⟩ :: rest) K L H :=
  GO.loadM (vs := [u1, u2]) hd hN hx tk rfl (fun j u hj => by
    match j, hj with
    | 0, hj => simp at hj; subst hj; exact r1
    | 1, hj => simp at hj; subst hj; exact r2) k
/-- A guard that was itself not asked for. -/
theorem yielded_undef {L : Env} {a : Act} {j s : Nat} (h : At c.N L a) (hj : gslot A j = some s) (hl : look L s = some undef) : yielded A a.tmps j = none := by
  unfold gslot at hj
  simp [yielded, hj, h.2 s _ hl, undef]
theorem GO.gU {rest : List Oper} {t : TypeId} {p : String} {e : Array Edge} {d : Nat} {op : Op} {j s : Nat} {want : Bool} (hN : Nat.blt d c.N = true) (hj : gslot A j = some s) (hl : look L s = some undef)
    (k : GO P c A rest K ((d, undef) :: L) H) : GO P c A (⟨some d, op, t, p, e, some (j, want)⟩ :: rest) K L H := by
  rintro a w h
  have hw : ((none : Option Bool) == some want) = false := rfl
  simp only [opsWp, Region.wanted, yielded_undef h.at_ hj hl, hw, Bool.false_eq_true, if_false]
  obtain ⟨h1, h2, h3⟩ := h
  exact k _ w ⟨h1.put hN, h2, h3⟩
end
end Go.Proofs.YtfoahdfflchidaaDoor
namespace Go.Proofs.YtfoahdfflchidaaDoor
open Go
attribute [local irreducible] pt init exs pur own
section
variable {P : Program} {c : Cx} {A : Array Oper} {rest : List Oper} {K : Kont} {L : Env} {H : List HP} {t : TypeId} {p : String} {e : Array Edge} {d : Nat}
/-- The less of two numbers. -/
theorem GO.min2 {x y : Operand} {kx ky : IntKind} {m n : Int} {ats : Array TypeId} (hN : Nat.blt d c.N = true) (hx : evl L x = some (.int kx m)) (hy : evl L y = some (.int ky n))
    (k : GO P c A rest K ((d, .int kx (min n m)) :: L) H) : GO P c A (⟨some d, .call ⟨.builtin .min, #[x, y], ats⟩, t, p, e, none⟩ :: rest) K L H :=
  GO.val hN rfl (fun a w Y h _ => by
    have e1 : (if n < m then n else m) = min n m := by rw [Int.min_def]; split <;> split <;> omega
    simp only [execOp, resolve, invoke, builtin]
    simp [Sem.run_bind, Result.andThen, h.eval hx, h.eval hy, run_min_int2, e1]) k
/-- s[l:], s[:h]. -/
theorem GO.sliceLo {ty el : TypeId} {sz n cap l b o : Nat} {kk : IntKind} {i : Int} {x y : Operand} [hu : UL P ty (.slice el)] [hs : SZ P el sz] (hN : Nat.blt d c.N = true) (hx : evl L x = some (.slice (some ⟨b, o, none⟩) n cap)) (hy : evl L y = some (.int kk i)) (hi : i = (l : Int) ∧ l ≤ n ∧ l < cap)
    (k : GO P c A rest K ((d, .slice (some ⟨b, o + l * sz, none⟩) (n - l) (cap - l)) :: L) H) : GO P c A (⟨some d, .slice ty x (some y) none none, t, p, e, none⟩ :: rest) K L H :=
  GO.val hN rfl (fun a w Y h _ => by
    obtain ⟨rfl, h1, h2⟩ := hi
    have hle : (l : Int) ≤ n := by omega
    have hne : ¬ cap = l := by omega
    simp only [execOp, h.eval hx, Option.map_none, Option.map_some, h.eval hy]
    simp [Instr.sliceAt, Instr.slice, Sem.run_bind, run_underlying hu.out, Instr.sliceBounds, run_sliceBound w _ _ _ _ (Int.natCast_nonneg l) hle, run_sizeOf_SZ, Result.andThen, hne, add_plain]) k
theorem GO.sliceHi {ty el : TypeId} {sz n cap l b o : Nat} {kk : IntKind} {i : Int} {x y : Operand} [hu : UL P ty (.slice el)] [hs : SZ P el sz] (hN : Nat.blt d c.N = true) (hx : evl L x = some (.slice (some ⟨b, o, none⟩) n cap)) (hy : evl L y = some (.int kk i)) (hi : i = (l : Int) ∧ l ≤ cap)
    (k : GO P c A rest K ((d, .slice (some ⟨b, o, none⟩) l cap) :: L) H) : GO P c A (⟨some d, .slice ty x none (some y) none, t, p, e, none⟩ :: rest) K L H :=
  GO.val hN rfl (fun a w Y h _ => by
    obtain ⟨rfl, h1⟩ := hi
    have hle : (l : Int) ≤ cap := by omega
    have e0 : (⟨b, o, none⟩ : Addr).add 0 = ⟨b, o, none⟩ := add_plain b o 0
    simp only [execOp, h.eval hx, Option.map_none, Option.map_some, h.eval hy]
    simp [Instr.sliceAt, Instr.slice, Sem.run_bind, run_underlying hu.out, Instr.sliceBounds, run_sliceBound w _ _ _ _ (Int.natCast_nonneg l) hle, run_sizeOf_SZ, Result.andThen, e0]) k
end
section
variable {α : Type} {f : α → Value} {o : Nat → α} {n j : Nat}
end
end Go.Proofs.YtfoahdfflchidaaDoor
namespace Go.Proofs.YtfoahdfflchidaaDoor
open Go
attribute [local irreducible] pt init exs pur own
section
variable {P : Program} {c : Cx} {A : Array Oper} {os : List Oper} {K : Kont} {L : Env} {H : List HP} {C : Code} {d : Nat} {u v : Value}
/-- What the last slot holds, in other words. -/
theorem KQ.zv (h : u = v) : GO P c A [] (KQ ((d, v) :: L) H) ((d, u) :: L) H := by subst h; exact KQ.z
theorem GO.chg (v : Value) (h : u = v) (k : GO P c A os K ((d, v) :: L) H) : GO P c A os K ((d, u) :: L) H := by subst h; exact k
end
section
variable {P : Program} {c : Cx} {A : Array Oper} {rest : List Oper} {K : Kont} {L : Env} {H : List HP} {t : TypeId} {p : String} {e : Array Edge}
variable {d : Nat} {ty ty' : TypeId} {x y : Operand}
theorem GO.neqF {b b' : Bool} [hu : UL P ty .bool] (hN : Nat.blt d c.N = true) (hx : evl L x = some (.bool b)) (hy : evl L y = some (.bool b')) (h : b = b')
    (k : GO P c A rest K ((d, .bool false) :: L) H) : GO P c A (⟨some d, .binOp .neq ty x y ty', t, p, e, none⟩ :: rest) K L H :=
  GO.neqB hN hx hy (by rw [h, beq_self_eq_true]; exact k)
theorem GO.pickTa {x y z : Operand} {v : Value} {b : Bool} (hN : Nat.blt d c.N = true) (hx : evl L x = some (.bool b)) (hb : b = true) (hy : evl L y = some v) (k : GO P c A rest K ((d, v) :: L) H) : GO P c A (⟨some d, .pick x y z, t, p, e, none⟩ :: rest) K L H := by
  subst hb; exact GO.pickT hN hx hy k
theorem GO.pickFa {x y z : Operand} {v : Value} {b : Bool} (hN : Nat.blt d c.N = true) (hx : evl L x = some (.bool b)) (hb : b = false) (hz : evl L z = some v) (k : GO P c A rest K ((d, v) :: L) H) : GO P c A (⟨some d, .pick x y z, t, p, e, none⟩ :: rest) K L H := by
  subst hb; exact GO.pickF hN hx hz k
end
end Go.Proofs.YtfoahdfflchidaaDoor
namespace Go.Proofs.YtfoahdfflchidaaDoor
open Go
attribute [local irreducible] pt init exs pur own
section
variable {P : Program} {c : Cx} {A : Array Oper} {rest os : List Oper} {K : Kont} {L : Env} {H F : List HP} {t : TypeId} {p : String} {e : Array Edge} {d : Nat} {C : Code}
theorem EqR.slNil {ty e : TypeId} {a : Option Addr} {m cap : Nat} [hu : UL P ty (.slice e)] {n : Nat} : EqR P (n + 1) ty (.slice a m cap) (.slice none 0 0) a.isNone := fun w => by
  cases a <;> simp [Op.equalIn, Sem.run_bind, run_underlying hu.out, Result.andThen]
/-- A slice held against nil. -/
theorem GO.eqNilS {ty ty' e' : TypeId} {x : Operand} {a : Option Addr} {m cap : Nat} [hu : UL P ty (.slice e')] (hN : Nat.blt d c.N = true) (hx : evl L x = some (.slice a m cap))
    (k : GO P c A rest K ((d, .bool a.isNone) :: L) H) : GO P c A (⟨some d, .binOp .eql ty x (.const (.slice none 0 0)) ty', t, p, e, none⟩ :: rest) K L H :=
  GO.val hN rfl (fun s w Y h _ => by
    have hc : s.eval (.const (.slice none 0 0)) = .slice none 0 0 := rfl
    simp only [execOp, h.eval hx, hc]
    have := (EqR.slNil : EqR P 10000 ty (.slice a m cap) (.slice none 0 0) a.isNone) w
    simp [Sem.run_bind, eqGuard, binOp, Op.equal, Op.maxDepth, this, Result.andThen]) k
/-- A slice of our own can be read as it lies. -/
theorem own_sl {el : TypeId} {sz n : Nat} {v : Value} {xs : List Value} {l : List HP} {w : World} (s : sat (own el sz n v xs :: l) w) : Sl (own el sz n v xs) v n sz xs := by
  rcases own_shape s with ⟨rfl, rfl, rfl, _⟩ | ⟨b, cap, rest', rfl, g1, _, _, _, _⟩
  · exact ⟨none, 0, rfl, by simp, fun h => absurd h (by omega)⟩
  · refine ⟨_, _, rfl, g1, fun _ => ⟨b, 0, rfl, fun j u hj l' w' s' => ?_⟩⟩
    rcases own_shape s' with ⟨h, _⟩ | ⟨b2, cap2, rest2, h, _, _, _, _, s2⟩
    · cases h
    · injection h with h _ _
      injection h with h
      injection h with h _ _
      subst h
      rw [Nat.zero_add]
      have hj2 : (xs ++ rest2)[j]? = some u := by rw [List.getElem?_append_left (List.getElem?_eq_some_iff.1 hj).1]; exact hj
      exact Rd.row hj2 l' w' s2
theorem GO.ownSl {el : TypeId} {sz n : Nat} {v : Value} {xs : List Value} (tk : Tk (own el sz n v xs) H F) (k : Sl (own el sz n v xs) v n sz xs → GO P c A os K L H) : GO P c A os K L H := by
  rintro a w ⟨h1, h2, ds, h3, h4, h5⟩
  exact k (own_sl (sat_perm (List.Perm.append_right _ tk) h5)) a w ⟨h1, h2, ds, h3, h4, h5⟩
end
/-! ## Cells in pairs -/
section
variable {α β : Type} {f : α → Value} {g : β → Value}
end
end Go.Proofs.YtfoahdfflchidaaDoor
namespace Go.Proofs.YtfoahdfflchidaaDoor
open Go
attribute [local irreducible] pt init exs pur own
section
variable {P : Program} {c : Cx} {A : Array Oper} {rest : List Oper} {K : Kont} {L : Env} {H F : List HP} {t : TypeId} {p : String} {e : Array Edge} {d : Nat} {ty ty' : TypeId} {x y : Operand} {m n : Int}
theorem GO.nilCheck {a : Addr} (hN : Nat.blt d c.N = true) (hx : evl L x = some (.pointer (some a)))
    (k : GO P c A rest K ((d, .pointer (some a)) :: L) H) : GO P c A (⟨some d, .nilCheck x, t, p, e, none⟩ :: rest) K L H :=
  GO.val hN rfl (fun s w Y h _ => by simp [execOp, h.eval hx]) k
theorem EqR.ptrNil {el : TypeId} {q : Option Addr} [hu : UL P ty (.pointer el)] {n : Nat} : EqR P (n + 1) ty (.pointer q) (.pointer none) q.isNone := fun w => by
  cases q <;> simp [Op.equalIn, Sem.run_bind, run_underlying hu.out, Result.andThen]
/-- A pointer held against nil. -/
theorem GO.eqNilP {el : TypeId} {q : Option Addr} [hu : UL P ty (.pointer el)] (hN : Nat.blt d c.N = true) (hx : evl L x = some (.pointer q))
    (k : GO P c A rest K ((d, .bool q.isNone) :: L) H) : GO P c A (⟨some d, .binOp .eql ty x (.const (.pointer none)) ty', t, p, e, none⟩ :: rest) K L H :=
  GO.val hN rfl (fun s w Y h _ => by
    have hc : s.eval (.const (.pointer none)) = .pointer none := rfl
    simp only [execOp, h.eval hx, hc]
    have := (EqR.ptrNil : EqR P 10000 ty (.pointer q) (.pointer none) q.isNone) w
    simp [Sem.run_bind, eqGuard, binOp, Op.equal, Op.maxDepth, this, Result.andThen]) k
theorem GO.neqNilP {el : TypeId} {q : Option Addr} [hu : UL P ty (.pointer el)] (hN : Nat.blt d c.N = true) (hx : evl L x = some (.pointer q))
    (k : GO P c A rest K ((d, .bool q.isSome) :: L) H) : GO P c A (⟨some d, .binOp .neq ty x (.const (.pointer none)) ty', t, p, e, none⟩ :: rest) K L H :=
  GO.val hN rfl (fun s w Y h _ => by
    have hc : s.eval (.const (.pointer none)) = .pointer none := rfl
    simp only [execOp, h.eval hx, hc]
    have := (EqR.ptrNil : EqR P 10000 ty (.pointer q) (.pointer none) q.isNone) w
    cases q <;> simp [Sem.run_bind, eqGuard, binOp, Op.equal, Op.maxDepth, this, Result.andThen]) k
theorem GO.shliK {kk : IntKind} (j : Nat) (hN : Nat.blt d c.N = true) (hx : evl L x = some (.int .i64 m)) (hy : evl L y = some (.int kk n)) (hj : n = (j : Int)) (h : j ≤ 63 ∧ -9223372036854775808 ≤ m * 2 ^ j ∧ m * 2 ^ j ≤ 9223372036854775807)
    (k : GO P c A rest K ((d, .int .i64 (m * 2 ^ j)) :: L) H) : GO P c A (⟨some d, .binOp .shl ty x y ty', t, p, e, none⟩ :: rest) K L H :=
  GO.shli hN hx (by rw [hy, hj]) h k
theorem madeCells_rep {zc : Array Value} {z : Value} {sz : Nat} (h : zc.toList = List.replicate sz z) (hz : 0 < sz) (m : Nat) : madeCells zc m = (List.replicate m z).toArray := by
  have hs : zc.size = sz := by rw [← Array.length_toList, h, List.length_replicate]
  unfold madeCells
  apply Array.ext'
  apply List.ext_getElem?
  intro i
  simp only [Array.toList_map, Array.toList_range, List.getElem?_map, List.toList_toArray, List.getElem?_replicate]
  by_cases hi : i < m
  · have hlt : i % zc.size < zc.size := Nat.mod_lt _ (by omega)
    have : zc[i % zc.size]! = z := by
      rw [getElem!_pos zc _ hlt, ← Array.getElem_toList]
      have : ∀ (l : List Value) (k : Nat) (hk : k < l.length), l = List.replicate sz z → l[k] = z := fun l k hk e => by subst e; simp
      exact this _ _ _ h
    simp [hi, this]
  · simp [hi]
/-- make of a slice whose elements' cells are all of one zero. -/
theorem GO.makeR {tyS el : TypeId} {by_ sz nn : Nat} {z : Value} {zl : List Value} {kx ky : IntKind} {m1 m2 : Int} [hu : UL P tyS (.slice el)] [hs : SZ P el sz] [hb : BY P el by_] [hz : ZC P el zl] (hN : Nat.blt d c.N = true) (hx : evl L x = some (.int kx m1)) (hy : evl L y = some (.int ky m2)) (hm : m1 = (nn : Int) ∧ m2 = (nn : Int))
    (hzl : zl = List.replicate sz z) (hsz : 0 < sz) (hbytes : nn * by_ ≤ 281474976710656 ∧ nn ≤ 9223372036854775807) (k : ∀ b, GO P c A rest K ((d, .slice (some ⟨b, 0, none⟩) nn nn) :: L) (pt b (row (List.replicate (nn * sz) z) el) :: H)) : GO P c A (⟨some d, .makeSlice tyS x y, t, p, e, none⟩ :: rest) K L H :=
  GO.gen hN rfl (fun v H' => ∃ b, v = .slice (some ⟨b, 0, none⟩) nn nn ∧ H' = pt b (row (List.replicate (nn * sz) z) el) :: H)
    (fun a w Y h s => by
      obtain ⟨rfl, rfl⟩ := hm
      have hso := hs.out
      have hzo := hz.out
      have hbo := hb.out
      cases hq : P.info? el with
      | none => simp [hq] at hso
      | some ie =>
        cases hzz : ie.zero with
        | none => simp [hq, hzz] at hzo
        | some zz =>
          have hsz2 : ie.size = sz := by simpa [hq] using hso
          have hby : ie.bytes = by_ := by simpa [hq] using hbo
          have hzl2 : zz.cells.toList = zl := by simpa [hq, hzz] using hzo
          have hr := run_make (P := P) w tyS el ie zz hu.out hq hzz kx ky (nn : Int) (nn : Int) (by omega) (by omega) (by rw [hby]; have h9 := Int.ofNat_le.2 hbytes.1; rw [Int.natCast_mul, Int.mul_comm] at h9; exact h9) (by have := hbytes.2; omega)
          rw [hsz2, Int.toNat_natCast, madeCells_rep (by rw [hzl2, hzl]) hsz] at hr
          refine ⟨_, _, _, ?_, Same.alloc w _, ⟨w.heap.size, rfl, rfl⟩, sat_alloc s _⟩
          simp only [execOp, h.eval hx, h.eval hy]
          rw [Sem.run_bind, hr]; rfl)
    (by rintro _ _ ⟨b, rfl, rfl⟩; exact k b)
theorem GO.buildPart3 {i1 i2 i3 : Nat} {x1 x2 x3 : Operand} {v1 v2 v3 : Value} {l : List Value} (hb : P.built ty [(i1, v1), (i2, v2), (i3, v3)] = some l.toArray) (hN : Nat.blt d c.N = true) (h1 : evl L x1 = some v1) (h2 : evl L x2 = some v2) (h3 : evl L x3 = some v3)
    (k : GO P c A rest K ((d, .agg l.toArray) :: L) H) : GO P c A (⟨some d, .build ty #[(i1, x1), (i2, x2), (i3, x3)], t, p, e, none⟩ :: rest) K L H :=
  GO.buildPart (ps := [(i1, x1), (i2, x2), (i3, x3)]) hb hN ⟨rfl, h1, rfl, h2, rfl, h3, trivial⟩ k
/-- A cell of a slice of our own. -/
theorem Rd.own {el : TypeId} {sz n' b cap j : Nat} {xs : List Value} {u : Value} (h : xs[j]? = some u) : Rd (own el sz n' (.slice (some ⟨b, 0, none⟩) n' cap) xs) ⟨b, j, none⟩ u := fun l w s => by
  rcases own_shape s with ⟨h0, _⟩ | ⟨b2, cap2, rest2, h0, _, _, _, _, s2⟩
  · cases h0
  · injection h0 with h0 _ _
    injection h0 with h0
    injection h0 with h0 _ _
    subst h0
    have hj2 : (xs ++ rest2)[j]? = some u := by rw [List.getElem?_append_left (List.getElem?_eq_some_iff.1 h).1]; exact h
    exact Rd.row hj2 l w s2
theorem own_form {el : TypeId} {sz n' : Nat} {v : Value} {xs : List Value} {l : List HP} {w : World} (hn : 0 < n') (s : sat (own el sz n' v xs :: l) w) : ∃ b cap, v = .slice (some ⟨b, 0, none⟩) n' cap ∧ n' ≤ cap ∧ cap ≤ maxLen ∧ xs.length = n' * sz := by
  rcases own_shape s with ⟨_, h0, _, _⟩ | ⟨b, cap, rest', rfl, g1, g2, g3, _, _⟩
  · omega
  · exact ⟨b, cap, rfl, g2, g3, g1⟩
theorem GO.ownForm {el : TypeId} {sz n' : Nat} {v : Value} {xs : List Value} {os : List Oper} (hn : 0 < n') (tk : Tk (own el sz n' v xs) H F) (k : ∀ b cap, v = .slice (some ⟨b, 0, none⟩) n' cap → n' ≤ cap → cap ≤ maxLen → xs.length = n' * sz → GO P c A os K L H) : GO P c A os K L H := by
  rintro a w ⟨h1, h2, ds, h3, h4, h5⟩
  obtain ⟨b, cap, e1, e2, e3, e4⟩ := own_form hn (sat_perm (List.Perm.append_right _ tk) h5)
  exact k b cap e1 e2 e3 e4 a w ⟨h1, h2, ds, h3, h4, h5⟩
theorem G.ownForm {el : TypeId} {sz n' : Nat} {v : Value} {xs : List Value} {C : Code} (hn : 0 < n') (tk : Tk (own el sz n' v xs) H F) (k : ∀ b cap, v = .slice (some ⟨b, 0, none⟩) n' cap → n' ≤ cap → cap ≤ maxLen → xs.length = n' * sz → G P c C K L H) : G P c C K L H := by
  rintro a w ⟨h1, h2, ds, h3, h4, h5⟩
  obtain ⟨b, cap, e1, e2, e3, e4⟩ := own_form hn (sat_perm (List.Perm.append_right _ tk) h5)
  exact k b cap e1 e2 e3 e4 a w ⟨h1, h2, ds, h3, h4, h5⟩
/-- Cells of a slice of our own, written. -/
theorem GO.storeOwn {el : TypeId} {sz w0 n' b cap o : Nat} {v : Value} {xs vs : List Value} [hs : SZ P ty w0] (hx : evl L x = some (.pointer (some ⟨b, o, none⟩))) (hy : evl L y = some v) (hv : v.cells = vs.toArray) (hw : vs.length = w0)
    (tk : Tk (own el sz n' (.slice (some ⟨b, 0, none⟩) n' cap) xs) H F) (ho : o + w0 ≤ xs.length) (h1 : ∀ u ∈ vs, u.oneCell' = true)
    (k : GO P c A rest K L (own el sz n' (.slice (some ⟨b, 0, none⟩) n' cap) (xs.take o ++ vs ++ xs.drop (o + w0)) :: F)) : GO P c A (⟨none, .store ty x y, t, p, e, none⟩ :: rest) K L H :=
  GO.own_open tk (fun h _ _ => by cases h) (fun b' cap' rst hv' g1 g2 g3 g4 => by
    injection hv' with h0 _ h2
    injection h0 with h0
    injection h0 with h0 _ _
    subst h0 h2
    refine GO.storeG hx hy hv hw Tk.h (by rw [List.length_append]; omega) h1 ?_
    have e1 : (xs ++ rst).take o ++ vs ++ (xs ++ rst).drop (o + w0) = (xs.take o ++ vs ++ xs.drop (o + w0)) ++ rst := by
      rw [List.take_append_of_le_length (by omega), List.drop_append_of_le_length ho]
      simp only [List.append_assoc]
    have e2 : (xs.take o ++ vs ++ xs.drop (o + w0)).length = xs.length := by simp only [List.length_append, List.length_take, List.length_drop]; omega
    rw [e1]
    exact GO.ownShut rfl (by rw [e2, g1]) g2 g3 (by rw [List.length_append, e2, ← List.length_append]; exact g4) k)
end
/-! ## A function's contract, its memory at the end told in other words -/
def KF2 (P : Program) (fn : Func) (R : Value → List HP → Prop) (F : List HP) : Kont
  | .normal, L, H => ∃ v Q, Res P fn.ntmps fn L H v ∧ R v Q ∧ ImpS H (Q ++ F)
  | .ret, L, H => ∃ v Q, Res P fn.ntmps fn L H v ∧ R v Q ∧ ImpS H (Q ++ F)
  | _, _, _ => False
theorem Fn.mk2 {P : Program} {f : FuncId} {args : Array Value} {Pre : List HP} {R : Value → List HP → Prop} {fn : Func} {x : Code} (hf : P.funcs[f]? = some fn) (hb : fn.body = some x) (hN : Nat.ble args.size fn.ntmps = true)
    (h : ∀ w0 F, G P ⟨none, fn.ntmps, w0, []⟩ x (KF2 P fn R F) (penv 0 args.toList) (Pre ++ F)) : Fn P f args Pre R := by
  intro F w s
  have hN' : args.size ≤ fn.ntmps := by simpa using hN
  refine callsIn_of_wp_marks (fn := fn) (c := x) hf hb trivial ?_ rfl
  refine wpIn_mono (h w F _ w ⟨⟨?_, ?_⟩, Same.refl w, [], rfl, fun _ => rfl, by simpa using s⟩) ?_
  · simp; omega
  · intro t v e
    obtain ⟨_, h2⟩ := look_penv _ _ _ _ e
    simp at h2
    have hlt : t < args.size := by
      have := (Array.getElem?_eq_some_iff.1 h2).1; exact this
    rw [Array.getElem?_append_left hlt]; exact h2
  · rintro e a' w' ⟨L', H', ⟨h1, h2, ds, h3, _, h5⟩, q⟩
    have fin : (∃ v Q, Res P fn.ntmps fn L' H' v ∧ R v Q ∧ ImpS H' (Q ++ F)) → LeavesInM Fence.wide 0 P fn a'.tmps (Ret w F R) a'.defers .returning w' := by
      rintro ⟨v, Q, hr, hR, hsb⟩
      rw [h3]
      refine leaves_marks (l := H') (v := v) ds w' (by simpa using h5) fun w2 sm sl => ⟨?_, v, Q, rfl, h2.trans sm, hR, ?_⟩
      · exact hr a' w2 [] h1 (by simpa using sl)
      · have := hsb [] w2 (by simpa using sl)
        simpa using this
    cases e with
    | normal => exact fin q
    | ret => exact fin q
    | _ => exact q.elim
section
variable {P : Program} {L : Env} {H F : List HP} {fn : Func} {R : Value → List HP → Prop} {Q : List HP} {q1 q2 q3 q4 : ResultVar} {v1 v2 v3 v4 : Value}
theorem KF2.n0 (hr : fn.results = #[]) (h : R (.tuple #[]) Q) (sb : ImpS H (Q ++ F)) : KF2 P fn R F .normal L H := ⟨_, Q, RVs.res (rs := []) (vs := []) hr trivial, h, sb⟩
theorem KF2.r0 (hr : fn.results = #[]) (h : R (.tuple #[]) Q) (sb : ImpS H (Q ++ F)) : KF2 P fn R F .ret L H := ⟨_, Q, RVs.res (rs := []) (vs := []) hr trivial, h, sb⟩
theorem KF2.r1 (hr : fn.results = #[q1]) (h1 : RV P L H q1 v1) (h : R v1 Q) (sb : ImpS H (Q ++ F)) : KF2 P fn R F .ret L H := ⟨_, Q, RVs.res (rs := [q1]) (vs := [v1]) hr ⟨h1, trivial⟩, h, sb⟩
theorem KF2.r2 (hr : fn.results = #[q1, q2]) (h1 : RV P L H q1 v1) (h2 : RV P L H q2 v2) (h : R (.tuple #[v1, v2]) Q) (sb : ImpS H (Q ++ F)) : KF2 P fn R F .ret L H := ⟨_, Q, RVs.res (rs := [q1, q2]) (vs := [v1, v2]) hr ⟨h1, h2, trivial⟩, h, sb⟩
theorem KF2.r3 (hr : fn.results = #[q1, q2, q3]) (h1 : RV P L H q1 v1) (h2 : RV P L H q2 v2) (h3 : RV P L H q3 v3) (h : R (.tuple #[v1, v2, v3]) Q) (sb : ImpS H (Q ++ F)) : KF2 P fn R F .ret L H := ⟨_, Q, RVs.res (rs := [q1, q2, q3]) (vs := [v1, v2, v3]) hr ⟨h1, h2, h3, trivial⟩, h, sb⟩
end
end Go.Proofs.YtfoahdfflchidaaDoor
namespace Go.Proofs.YtfoahdfflchidaaDoor
open Go
attribute [local irreducible] G GO GR GT Fn FnV pt init exs pur sat own ImpS
def partR (P : Nat → Nat → Nat) (n : Nat) : List Value := [i64 (P n 0), i64 (P n 1), i64 (P n 2), i64 (P n 3)]
theorem partR_len (P : Nat → Nat → Nat) (n : Nat) : (partR P n).length = 4 := rfl
theorem partR_get (P : Nat → Nat → Nat) (n : Nat) {k : Nat} (h : k < 4) : (partR P n)[k]? = some (i64 (P n k)) := by
  unfold partR
  match k, h with
  | 0, _ => rfl
  | 1, _ => rfl
  | 2, _ => rfl
  | 3, _ => rfl
abbrev partsV (P : Nat → Nat → Nat) (np : Nat) : List Value := grid (partR P) np
abbrev leavesV (B : Nat → Blk) (nl : Nat) : List Value := grid (fun n => cells (B n)) nl
theorem partsV_get {P : Nat → Nat → Nat} {np n k : Nat} (hn : n < np) (hk : k < 4) : (partsV P np)[0 + n * 4 + k * 1]? = some (i64 (P n k)) := by
  rw [Nat.zero_add, Nat.mul_one, grid_get (partR_len P) hk hn, partR_get P n hk]
theorem partsV_set {P : Nat → Nat → Nat} {np n k v : Nat} (hn : n < np) (hk : k < 4) : (partsV P np).take (0 + n * 4 + k * 1) ++ [i64 v] ++ (partsV P np).drop (0 + n * 4 + k * 1 + 1) = partsV (setP P n k v) np := by
  rw [Nat.zero_add, Nat.mul_one, grid_set (partR_len P) hn hk]
  refine grid_congr fun m _ => ?_
  by_cases e : m = n
  · subst e
    rw [if_pos rfl]
    unfold partR setP
    match k, hk with
    | 0, _ => simp
    | 1, _ => simp
    | 2, _ => simp
    | 3, _ => simp
  · rw [if_neg e]
    unfold partR setP
    simp [e]
theorem partsV_more {P : Nat → Nat → Nat} {np : Nat} (h : ∀ k, P np k = 0) : partsV P np ++ [i64 0, i64 0, i64 0, i64 0] = partsV P (np + 1) := by
  rw [partsV, partsV, grid_succ]
  unfold partR
  simp [h]
theorem leavesV_more {B : Nat → Blk} {nl : Nat} : leavesV B nl ++ cells zeroB = leavesV (fun n => if n = nl then zeroB else B n) (nl + 1) := by
  rw [leavesV, leavesV, grid_succ, if_pos rfl]
  congr 1
  exact grid_congr fun i hi => by rw [if_neg (by omega)]
theorem or_low (x y : Nat) (hy : y < 2) : 2 * x ||| y = 2 * x + y := by
  have := Nat.two_pow_add_eq_or_of_lt (i := 1) (b := y) (by simpa using hy) x
  simpa using this.symm
theorem way_spec (i j l : Nat) (hi : i < 1073741824) (hj : j < 1073741824) (hl : l ≤ 63) : Fn Tryd.prog 67 #[i64 i, i64 j, i64 l] [] (fun r Q => r = i64 (wayN i j l) ∧ Q = []) := by
  have e1 : (i : Int) / 2 ^ l = ((i / 2 ^ l : Nat) : Int) := by simp
  have e2 : (j : Int) / 2 ^ l = ((j / 2 ^ l : Nat) : Int) := by simp
  have hi' : i / 2 ^ l ≤ i := Nat.div_le_self _ _
  have hj' : j / 2 ^ l ≤ j := Nat.div_le_self _ _
  refine Fn.mk Tryd.func67 rfl rfl fun w0 F => ?_
  (refine G.seq ?_; refine G.region ?_; refine GO.assign rfl rfl ?_; refine GO.nil ?_; refine kthen_n ?_; refine G.seq ?_)
  refine G.draw 10 (by kernel_rfl) ?_
  apply GQ.step; focus (intro Z; refine GO.move rfl rfl ?_; exact KQ.z)
  apply GQ.step; focus (intro Z; refine GO.move rfl rfl ?_; exact KQ.z)
  apply GQ.step; focus (intro Z; refine GO.shri rfl rfl rfl (by omega) ?_; rw [e1]; exact KQ.z)
  apply GQ.step; focus (intro Z; refine GO.andi (m := i / 2 ^ l) (n := 1) rfl rfl rfl ⟨by omega, by omega⟩ ?_; rw [Nat.and_one_is_mod]; exact KQ.z)
  apply GQ.step; focus (intro Z; refine GO.shliK 1 rfl rfl rfl rfl ⟨by omega, by omega, by omega⟩ ?_; exact KQ.zv (u := .int .i64 (((i / 2 ^ l % 2 : Nat) : Int) * 2 ^ 1)) (v := i64 ((2 * (i / 2 ^ l % 2) : Nat) : Int)) (by congr 1; omega))
  apply GQ.step; focus (intro Z; refine GO.move rfl rfl ?_; exact KQ.z)
  apply GQ.step; focus (intro Z; refine GO.move rfl rfl ?_; exact KQ.z)
  apply GQ.step; focus (intro Z; refine GO.shri rfl rfl rfl (by omega) ?_; rw [e2]; exact KQ.z)
  apply GQ.step; focus (intro Z; refine GO.andi (m := j / 2 ^ l) (n := 1) rfl rfl rfl ⟨by omega, by omega⟩ ?_; rw [Nat.and_one_is_mod]; exact KQ.z)
  apply GQ.step; focus (intro Z; refine GO.ori (m := 2 * (i / 2 ^ l % 2)) (n := j / 2 ^ l % 2) rfl rfl rfl ⟨by omega, by omega⟩ ?_; rw [or_low _ _ (Nat.mod_lt _ (by decide))]; exact KQ.z)
  refine GQ.nil ?_
  (refine GO.assign rfl rfl ?_; refine GO.nil ?_; refine kthen_n ?_; refine G.ret ?_)
  refine KF.r1 rfl (RV.t rfl) ⟨rfl, rfl⟩ ?_
  (skip; (exact Sb.r))
set_option maxHeartbeats 2000000 in
theorem leaf_spec {D np nl : Nat} {P : Nat → Nat → Nat} {ow : Nat → Nat × Nat × Nat} {low : Nat → Nat × Nat} (T : Tree D np nl P ow low) (side cnt : Int) (b bp cap : Nat) (vl : Value) (i j : Nat) (hi : i < 1073741824) (hj : j < 1073741824) (hD : D ≤ 60) :
    Fn Tryd.prog 33 #[.pointer (some ⟨b, 0, none⟩), i64 i, i64 j] [pt b (row [i64 side, i64 D, i64 cnt, .slice (some ⟨bp, 0, none⟩) np cap, vl] 70), own 93 4 np (.slice (some ⟨bp, 0, none⟩) np cap) (partsV P np)]
      (fun r Q => r = i64 (fnd P i j (D - 1) 0) ∧ Q = [pt b (row [i64 side, i64 D, i64 cnt, .slice (some ⟨bp, 0, none⟩) np cap, vl] 70), own 93 4 np (.slice (some ⟨bp, 0, none⟩) np cap) (partsV P np)]) := by
  have hD1 := T.dep
  have hnp := T.some
  refine Fn.mk Tryd.func33 rfl rfl fun w0 F => ?_
  (refine G.seq ?_; refine G.region ?_; refine GO.assign rfl rfl ?_; refine GO.nil ?_; refine kthen_n ?_; refine G.seq ?_; refine G.region ?_; refine GO.assign rfl rfl ?_; refine GO.nil ?_; refine kthen_n ?_; refine G.seq ?_; refine G.seq ?_; refine G.region ?_; refine GO.move rfl rfl ?_; refine GO.nilCheck rfl rfl ?_; refine GO.fieldAddr rfl rfl ?_; refine GO.load1 rfl rfl rfl Tk.h rfl ?_; refine GO.subi rfl rfl rfl (by omega) ?_; refine GO.assign rfl rfl ?_; refine GO.nil ?_; refine kthen_n ?_; refine G.block ?_)
  refine G.loop2 (fun (l n : Nat) => [(0, .pointer (some ⟨b, 0, none⟩)), (1, i64 i), (2, i64 j), (7, i64 n), (8, i64 l)])
    (fun _ _ => pt b (row [i64 side, i64 D, i64 cnt, .slice (some ⟨bp, 0, none⟩) np cap, vl] 70) :: own 93 4 np (.slice (some ⟨bp, 0, none⟩) np cap) (partsV P np) :: F)
    (fun l n => l < D ∧ n < np ∧ (ow n).1 = l ∧ fnd P i j (D - 1) 0 = fnd P i j l n) (fun l _ => l) (D - 1) 0 ⟨by omega, by omega, by rw [T.root], rfl⟩ ?_ ?_ ?_
  · (refine SubE.c rfl rfl ?_; refine SubE.c rfl rfl ?_; refine SubE.c rfl rfl ?_; refine SubE.c rfl rfl ?_; (refine SubE.c rfl ?_ ?_; focus (simp; omega)); exact SubE.n)
  · ((refine Sb.c Tk.h ?_; refine Sb.c Tk.h ?_); (exact Sb.r))
  rintro l n ⟨hl, hn, ho, hf⟩
  refine G.ownMax (Tk.t Tk.h) fun hmx _ => ?_
  have hmx2 : np ≤ 9223372036854775807 := by unfold maxLen at hmx; exact hmx
  clear hmx
  have hw := wayN_lt i j l
  have hrd : Rd (own 93 4 np (.slice (some ⟨bp, 0, none⟩) np cap) (partsV P np)) ⟨bp, 0 + n * 4 + wayN i j l * 1, none⟩ (i64 (P n (wayN i j l))) := Rd.own (partsV_get hn hw)
  (refine G.seq ?_; refine G.seq ?_; refine G.region ?_; refine GO.move rfl rfl ?_; refine GO.gei rfl rfl rfl ?_; refine GO.nil ?_; refine kthen_n ?_; refine G.condT rfl rfl ?_; refine G.skip ?_; refine kthen_n ?_; refine G.seq ?_; refine G.block ?_; refine G.seq ?_)
  refine G.draw 12 (by kernel_rfl) ?_
  ((apply GQ.step; focus (intro Z; refine GO.move rfl rfl ?_; exact KQ.z)); (apply GQ.step; focus (intro Z; refine GO.nilCheck rfl rfl ?_; exact KQ.z)); (apply GQ.step; focus (intro Z; refine GO.fieldAddr rfl rfl ?_; exact KQ.z)); (apply GQ.step; focus (intro Z; refine GO.load1 rfl rfl rfl Tk.h rfl ?_; exact KQ.z)); (apply GQ.step; focus (intro Z; refine GO.move rfl rfl ?_; exact KQ.z)); (apply GQ.step; focus (intro Z; refine GO.move rfl rfl ?_; exact KQ.z)); (apply GQ.step; focus (intro Z; refine GO.move rfl rfl ?_; exact KQ.z)); (apply GQ.step; focus (intro Z; refine GO.move rfl rfl ?_; exact KQ.z)))
  apply GQ.step; focus (intro Z; refine GO.call3 rfl rfl rfl rfl (way_spec i j l hi hj (by omega)) Tks.n ?_; rintro _ _ ⟨rfl, rfl⟩; exact KQ.z)
  ((apply GQ.step; focus (intro Z; refine GO.idxS rfl rfl rfl ⟨rfl, by omega⟩ ?_; exact KQ.z)); (apply GQ.step; focus (intro Z; refine GO.idxA rfl rfl rfl ⟨rfl, by omega⟩ ?_; exact KQ.z)); (apply GQ.step; focus (intro Z; refine GO.loadQ rfl rfl rfl (Tk.t Tk.h) (by assumption) ?_; exact KQ.z)); refine GQ.nil ?_)
  cases h1 : decide (((P n (wayN i j l) : Nat) : Int) = 0) with
  | true =>
    (refine GO.assign rfl rfl ?_; refine GO.nil ?_; refine kthen_n ?_; refine G.seq ?_; refine G.seq ?_; refine G.region ?_; refine GO.move rfl rfl ?_; refine GO.eqi rfl rfl rfl ?_; refine GO.move rfl rfl ?_; refine GO.gF rfl rfl rfl (by assumption) ?_; refine GO.gF rfl rfl rfl (by assumption) ?_; refine GO.pickTa rfl rfl (by assumption) rfl ?_; refine GO.nil ?_; refine kthen_n ?_; refine G.condT rfl rfl ?_; refine G.seq ?_; refine G.region ?_; refine GO.move rfl rfl ?_; refine GO.assign rfl rfl ?_; refine GO.nil ?_; refine kthen_n ?_; refine G.ret ?_; refine kthen_r ?_; refine kblock_r ?_; refine kthen_r ?_; refine kthen_r ?_; refine kblock_r ?_; refine kthen_r ?_)
    have h0 : P n (wayN i j l) = 0 := by have := of_decide_eq_true h1; omega
    refine KF.r1 rfl (RV.t rfl) ⟨?_, rfl⟩ ?_
    · rw [hf]; cases l with
      | zero => rfl
      | succ l => simp [fnd, h0]
    · ((refine Sb.c Tk.h ?_; refine Sb.c Tk.h ?_); (exact Sb.r))
  | false =>
    have h0 : P n (wayN i j l) ≠ 0 := by have := of_decide_eq_false h1; omega
    cases l with
    | zero =>
      (refine GO.assign rfl rfl ?_; refine GO.nil ?_; refine kthen_n ?_; refine G.seq ?_; refine G.seq ?_; refine G.region ?_; refine GO.move rfl rfl ?_; refine GO.eqi rfl rfl rfl ?_; refine GO.move rfl rfl ?_; refine GO.gT rfl rfl (by assumption) ?_; refine GO.move rfl rfl ?_; refine GO.gT rfl rfl (by assumption) ?_; refine GO.eqT rfl rfl rfl rfl ?_; refine GO.pickFa rfl rfl (by assumption) rfl ?_; refine GO.nil ?_; refine kthen_n ?_; refine G.condT rfl rfl ?_; refine G.seq ?_; refine G.region ?_; refine GO.move rfl rfl ?_; refine GO.assign rfl rfl ?_; refine GO.nil ?_; refine kthen_n ?_; refine G.ret ?_; refine kthen_r ?_; refine kblock_r ?_; refine kthen_r ?_; refine kthen_r ?_; refine kblock_r ?_; refine kthen_r ?_)
      refine KF.r1 rfl (RV.t rfl) ⟨by rw [hf]; rfl, rfl⟩ ?_
      ((refine Sb.c Tk.h ?_; refine Sb.c Tk.h ?_); (exact Sb.r))
    | succ l =>
      obtain ⟨k1, k2⟩ := T.kid n _ hn hw h0 (by omega)
      (refine GO.assign rfl rfl ?_; refine GO.nil ?_; refine kthen_n ?_; refine G.seq ?_; refine G.seq ?_; refine G.region ?_; refine GO.move rfl rfl ?_; refine GO.eqi rfl rfl rfl ?_; refine GO.move rfl rfl ?_; refine GO.gT rfl rfl (by assumption) ?_; refine GO.move rfl rfl ?_; refine GO.gT rfl rfl (by assumption) ?_; refine GO.eqi rfl rfl rfl ?_; refine GO.pickFa rfl rfl (by assumption) rfl ?_; refine GO.nil ?_; refine kthen_n ?_; refine G.condF rfl rfl ?_; refine G.skip ?_; refine kthen_n ?_; refine G.region ?_; refine GO.move rfl rfl ?_; refine GO.subi rfl rfl rfl (by omega) ?_; refine GO.assign rfl rfl ?_; refine GO.nil ?_; refine kblock_n ?_; refine kthen_n ?_; refine G.region ?_; refine GO.move rfl rfl ?_; refine GO.subi rfl rfl rfl (by omega) ?_; refine GO.assign rfl rfl ?_; refine GO.nil ?_; refine kthen_n ?_)
      refine ⟨l, P n (wayN i j (l + 1)) - 1, ⟨by omega, k1, by rw [k2]; dsimp only; omega, ?_⟩, by omega, ?_, ?_⟩
      · rw [hf]; simp only [fnd]; rw [if_neg h0]
      · (refine SubE.c rfl rfl ?_; refine SubE.c rfl rfl ?_; refine SubE.c rfl rfl ?_; (refine SubE.c rfl ?_ ?_; focus (simp; omega)); (refine SubE.c rfl ?_ ?_; focus (simp; done)); exact SubE.n)
      · ((refine Sb.c Tk.h ?_; refine Sb.c Tk.h ?_); (exact Sb.r))
end Go.Proofs.YtfoahdfflchidaaDoor
namespace Go.Proofs.YtfoahdfflchidaaDoor
open Go
attribute [local irreducible] G GO GR GT Fn FnV pt init exs pur sat own ImpS
abbrev matP (b : Nat) (side : Int) (D : Nat) (cnt : Int) (vp vl : Value) : HP := pt b (row [i64 side, i64 D, i64 cnt, vp, vl] 70)
abbrev parP (np : Nat) (vp : Value) (P : Nat → Nat → Nat) : HP := own 93 4 np vp (partsV P np)
abbrev leaP (nl : Nat) (vl : Value) (B : Nat → Blk) : HP := own 77 64 nl vl (leavesV B nl)
/-- What a tree has become when a block has its leaf. -/
structure Grown (D np nl : Nat) (P : Nat → Nat → Nat) (B : Nat → Blk) (i j : Nat) (np' nl' : Nat) (P' : Nat → Nat → Nat) (B' : Nat → Blk) (q : Nat) : Prop where
  tree : ∃ ow low, Tree D np' nl' P' ow low
  at_ : fnd P' i j (D - 1) 0 = q + 1
  lt : q < nl'
  other : ∀ x y, x < 2 ^ D → y < 2 ^ D → ¬ (x = i ∧ y = j) → fnd P' x y (D - 1) 0 = fnd P x y (D - 1) 0
  old : ∀ m, m < nl → B' m = B m
  new : fnd P i j (D - 1) 0 = 0 → q = nl ∧ nl' = nl + 1 ∧ B' q = zeroB ∧ np' ≤ np + D
  was : fnd P i j (D - 1) 0 ≠ 0 → nl' = nl ∧ np' = np ∧ fnd P i j (D - 1) 0 = q + 1
set_option maxHeartbeats 8000000 in
set_option maxRecDepth 20000 in
theorem grow_spec {D np nl : Nat} {P : Nat → Nat → Nat} {ow : Nat → Nat × Nat × Nat} {low : Nat → Nat × Nat} (T : Tree D np nl P ow low) (B : Nat → Blk) (side cnt : Int) (b : Nat) (vp vl : Value) (i j : Nat) (hi : i < 2 ^ D) (hj : j < 2 ^ D) (hi2 : i < 1073741824) (hj2 : j < 1073741824) (hD : D ≤ 60) (hnp : np ≤ 1048576) (hnl : nl ≤ 1048576) :
    Fn Tryd.prog 74 #[.pointer (some ⟨b, 0, none⟩), i64 i, i64 j] [matP b side D cnt vp vl, parP np vp P, leaP nl vl B]
      (fun r Q => ∃ np' nl' P' B' q vp' vl', Grown D np nl P B i j np' nl' P' B' q ∧ r = i64 q ∧ Q = [matP b side D cnt vp' vl', parP np' vp' P', leaP nl' vl' B']) := by
  have hD1 := T.dep
  have hnp1 := T.some
  have h0 : ∀ x, x < 2 ^ D → x / 2 ^ (D - 1 + 1) = 0 := fun x hx => by rw [show D - 1 + 1 = D by omega]; exact Nat.div_eq_of_lt hx
  refine Fn.mk Tryd.func74 rfl rfl fun w0 F => ?_
  refine G.ownOne (Tk.t Tk.h) fun hone => ?_
  refine G.ownOne (Tk.t (Tk.t Tk.h)) fun honel => ?_
  (refine G.seq ?_; refine G.region ?_; refine GO.assign rfl rfl ?_; refine GO.nil ?_; refine kthen_n ?_; refine G.seq ?_; refine G.region ?_; refine GO.assign rfl rfl ?_; refine GO.nil ?_; refine kthen_n ?_; refine G.seq ?_; refine G.seq ?_; refine G.region ?_; refine GO.move rfl rfl ?_; refine GO.nilCheck rfl rfl ?_; refine GO.fieldAddr rfl rfl ?_; refine GO.load1 rfl rfl rfl Tk.h rfl ?_; refine GO.subi rfl rfl rfl (by omega) ?_; refine GO.assign rfl rfl ?_; refine GO.nil ?_; refine kthen_n ?_; refine G.block ?_)
  refine G.loop6 (fun (l n : Nat) (_ : Nat) (_ : Nat → Nat → Nat) (_ : Nat → Nat × Nat × Nat) (_ : Value) => [(0, .pointer (some ⟨b, 0, none⟩)), (1, i64 i), (2, i64 j), (7, i64 n), (8, i64 l)])
    (fun _ _ np' P' _ vp' => matP b side D cnt vp' vl :: parP np' vp' P' :: leaP nl vl B :: F)
    (fun l n np' P' ow' _ => l < D ∧ n < np' ∧ ow' n = (l, i / 2 ^ (l + 1), j / 2 ^ (l + 1)) ∧ Tree D np' nl P' ow' low ∧ Down P' i j (D - 1) 0 l n ∧ (∀ x y, x < 2 ^ D → y < 2 ^ D → fnd P' x y (D - 1) 0 = fnd P x y (D - 1) 0) ∧ np' + l + 1 ≤ np + D ∧ (fnd P i j (D - 1) 0 ≠ 0 → np' = np)) (fun l _ _ _ _ _ => l) (D - 1) 0 np P ow vp
    ⟨by omega, by omega, by rw [T.root, h0 i hi, h0 j hj], T, .refl, fun _ _ _ _ => rfl, by omega, fun _ => rfl⟩ ?_ ?_ ?_
  · (refine SubE.c rfl rfl ?_; refine SubE.c rfl rfl ?_; refine SubE.c rfl rfl ?_; refine SubE.c rfl rfl ?_; (refine SubE.c rfl ?_ ?_; focus (simp; omega)); exact SubE.n)
  · ((refine Sb.c Tk.h ?_; refine Sb.c Tk.h ?_; refine Sb.c Tk.h ?_); (exact Sb.r))
  rintro l n np' P' ow' vp' ⟨hl, hn, ho, T', hdn, hsame, hb, hno⟩
  have hnp' : np' ≤ 1048636 := by omega
  have hw := wayN_lt i j l
  refine G.ownForm (by omega) (Tk.t Tk.h) fun bp cap e1 hc1 hc2 hc3 => ?_
  subst e1
  (refine G.seq ?_; refine G.seq ?_; refine G.region ?_; refine GO.move rfl rfl ?_; refine GO.gti rfl rfl rfl ?_; refine GO.nil ?_; refine kthen_n ?_)
  refine G.condD rfl (fun h1 => ?_) (fun h1 => ?_)
  · have hrd : Rd (parP np' (.slice (some ⟨bp, 0, none⟩) np' cap) P') ⟨bp, 0 + n * 4 + wayN i j l * 1, none⟩ (i64 (P' n (wayN i j l))) := Rd.own (partsV_get hn hw)
    (refine G.skip ?_; refine kthen_n ?_; refine G.seq ?_; refine G.block ?_; refine G.seq ?_; refine G.region ?_; refine GO.move rfl rfl ?_; refine GO.move rfl rfl ?_; refine GO.move rfl rfl ?_)
    refine GO.call3 rfl rfl rfl rfl (way_spec i j l hi2 hj2 (by omega)) Tks.n ?_
    rintro _ _ ⟨rfl, rfl⟩
    (refine GO.assign rfl rfl ?_; refine GO.nil ?_; refine kthen_n ?_; refine G.seq ?_; refine G.seq ?_; refine G.region ?_; refine GO.move rfl rfl ?_; refine GO.nilCheck rfl rfl ?_; refine GO.fieldAddr rfl rfl ?_; refine GO.load1 rfl rfl rfl Tk.h rfl ?_; refine GO.move rfl rfl ?_; refine GO.move rfl rfl ?_; refine GO.idxS rfl rfl rfl ⟨rfl, by omega⟩ ?_; refine GO.idxA rfl rfl rfl ⟨rfl, by omega⟩ ?_; refine GO.loadQ rfl rfl rfl (Tk.t Tk.h) (by assumption) ?_; refine GO.eqi rfl rfl rfl ?_; refine GO.nil ?_; refine kthen_n ?_)
    have hw4 := hw
    generalize hk : wayN i j l = k at hw hrd ⊢
    refine G.condD rfl (fun h2 => ?_) (fun h2 => ?_)
    · have h3 : P' n k = 0 := by omega
      (refine G.seq ?_; refine G.region ?_; refine GO.move rfl rfl ?_; refine GO.move rfl rfl ?_; refine GO.nilCheck rfl rfl ?_; refine GO.fieldAddr rfl rfl ?_; refine GO.load1 rfl rfl rfl Tk.h rfl ?_; refine GO.build0 rfl ?_)
      refine GO.buildSlice1 rfl rfl (by simp; rfl) rfl ⟨by omega, by omega⟩ fun b40 => ?_
      refine GO.appendOwn (m := 1) (news := [i64 0, i64 0, i64 0, i64 0]) rfl rfl rfl (Tk.t (Tk.t Tk.h)) Tk.h rfl (by simp [Value.oneCell']) ⟨by decide, rfl⟩ Nat.one_pos (by unfold maxLen; omega) (by omega) fun v2 => ?_
      rw [partsV_more (T'.out np' · (Nat.le_refl _))]
      refine GO.ownOne Tk.h fun hone2 => ?_
      refine GO.ownForm (by omega) Tk.h fun bp2 cap2 e2 hd1 hd2 hd3 => ?_
      subst e2
      (refine GO.nilCheck rfl rfl ?_; refine GO.fieldAddr rfl rfl ?_; refine GO.store1 rfl rfl rfl (Tk.t (Tk.t Tk.h)) (by simp) ?_; refine GO.nil ?_; refine kthen_n ?_)
      have hrd2 : Rd (parP (np' + 1) (.slice (some ⟨bp2, 0, none⟩) (np' + 1) cap2) P') ⟨bp2, 0 + n * 4 + k * 1, none⟩ (i64 (P' n k)) := Rd.own (partsV_get (by omega) hw)
      refine G.draw 13 (by kernel_rfl) ?_
      ((apply GQ.step; focus (intro Z; refine GO.move rfl rfl ?_; exact KQ.z)); (apply GQ.step; focus (intro Z; refine GO.nilCheck rfl rfl ?_; exact KQ.z)); (apply GQ.step; focus (intro Z; refine GO.fieldAddr rfl rfl ?_; exact KQ.z)); (apply GQ.step; focus (intro Z; refine GO.load1 rfl rfl rfl Tk.h rfl ?_; exact KQ.z)); (apply GQ.step; focus (intro Z; refine GO.move rfl rfl ?_; exact KQ.z)); (apply GQ.step; focus (intro Z; refine GO.move rfl rfl ?_; exact KQ.z)); (apply GQ.step; focus (intro Z; refine GO.move rfl rfl ?_; exact KQ.z)); (apply GQ.step; focus (intro Z; refine GO.nilCheck rfl rfl ?_; exact KQ.z)); (apply GQ.step; focus (intro Z; refine GO.fieldAddr rfl rfl ?_; exact KQ.z)); (apply GQ.step; focus (intro Z; refine GO.load1 rfl rfl rfl Tk.h rfl ?_; exact KQ.z)); (apply GQ.step; focus (intro Z; refine GO.lenS rfl rfl ?_; exact KQ.z)); (apply GQ.step; focus (intro Z; refine GO.idxS rfl rfl rfl ⟨rfl, by omega⟩ ?_; exact KQ.z)); (apply GQ.step; focus (intro Z; refine GO.idxA rfl rfl rfl ⟨rfl, by omega⟩ ?_; exact KQ.z)); refine GQ.nil ?_)
      refine GO.storeOwn (w0 := 1) (vs := [i64 ((np' + 1 : Nat) : Int)]) rfl rfl rfl rfl (Tk.t Tk.h) (by rw [hd3]; omega) (by simp [Value.oneCell']) ?_
      rw [partsV_set (by omega) hw]
      have hl0 : 0 < (ow' n).1 := by rw [ho]; dsimp only; omega
      have T2 := T'.node hn hw h3 hl0
      have hfn : ∀ x y, x < 2 ^ D → y < 2 ^ D → fnd (setP P' n k (np' + 1)) x y (D - 1) 0 = fnd P x y (D - 1) 0 := fun x y hx hy => by
        rw [T'.fnd_node h3 hl0 (by omega) (by rw [T'.root]), hsame x y hx hy]
      have hrd3 : Rd (parP (np' + 1) (.slice (some ⟨bp2, 0, none⟩) (np' + 1) cap2) (setP P' n k (np' + 1))) ⟨bp2, 0 + n * 4 + k * 1, none⟩ (i64 ((np' + 1 : Nat) : Int)) := by
        have := partsV_get (P := setP P' n k (np' + 1)) (np := np' + 1) (show n < np' + 1 by omega) hw
        rw [setP_at] at this
        exact Rd.own this
      (refine GO.nil ?_; refine kthen_n ?_; refine G.region ?_; refine GO.move rfl rfl ?_; refine GO.nilCheck rfl rfl ?_; refine GO.fieldAddr rfl rfl ?_; refine GO.load1 rfl rfl rfl (Tk.t Tk.h) rfl ?_; refine GO.move rfl rfl ?_; refine GO.move rfl rfl ?_; refine GO.idxS rfl rfl rfl ⟨rfl, by omega⟩ ?_; refine GO.idxA rfl rfl rfl ⟨rfl, by omega⟩ ?_; refine GO.loadQ rfl rfl rfl Tk.h (by assumption) ?_; refine GO.subi rfl rfl rfl (by omega) ?_; refine GO.assign rfl rfl ?_; refine GO.nil ?_; refine kblock_n ?_; refine kthen_n ?_; refine G.region ?_; refine GO.move rfl rfl ?_; refine GO.subi rfl rfl rfl (by omega) ?_; refine GO.assign rfl rfl ?_; refine GO.nil ?_; refine kthen_n ?_)
      obtain ⟨l, rfl⟩ : ∃ m, l = m + 1 := ⟨l - 1, by omega⟩
      refine ⟨l, np', np' + 1, setP P' n k (np' + 1), _, .slice (some ⟨bp2, 0, none⟩) (np' + 1) cap2, ⟨by omega, by omega, ?_, T2, ?_, hfn, by omega, ?_⟩, by omega, ?_, ?_⟩
      · rw [if_pos rfl, ho]
        obtain ⟨g1, g2⟩ := way_up i j (l + 1)
        rw [hk] at g1 g2
        rw [g1, g2]; rfl
      · have hd := (hdn.mono (setP_mono (v := np' + 1) h3)).step (by rw [hk, setP_at]; omega)
        rw [hk, setP_at, Nat.add_sub_cancel] at hd
        exact hd
      · intro hne
        exfalso
        apply hne
        rw [← hsame i j hi hj, hdn.fnd]
        simp only [fnd]
        rw [hk, h3, if_pos rfl]
      · (refine SubE.c rfl rfl ?_; refine SubE.c rfl rfl ?_; refine SubE.c rfl rfl ?_; (refine SubE.c rfl ?_ ?_; focus (simp; done)); (refine SubE.c rfl ?_ ?_; focus (simp; done)); exact SubE.n)
      · ((refine Sb.c (Tk.t Tk.h) ?_; refine Sb.c Tk.h ?_; refine Sb.c (Tk.t Tk.h) ?_); (refine Sb.s ?_; exact Sb.r))
    · have h3 : P' n k ≠ 0 := by omega
      obtain ⟨g3, g4⟩ := T'.kid n k hn hw h3 (by rw [ho]; dsimp only; omega)
      (refine G.skip ?_; refine kthen_n ?_; refine G.region ?_; refine GO.move rfl rfl ?_; refine GO.nilCheck rfl rfl ?_; refine GO.fieldAddr rfl rfl ?_; refine GO.load1 rfl rfl rfl Tk.h rfl ?_; refine GO.move rfl rfl ?_; refine GO.move rfl rfl ?_; refine GO.idxS rfl rfl rfl ⟨rfl, by omega⟩ ?_; refine GO.idxA rfl rfl rfl ⟨rfl, by omega⟩ ?_; refine GO.loadQ rfl rfl rfl (Tk.t Tk.h) (by assumption) ?_; refine GO.subi rfl rfl rfl (by omega) ?_; refine GO.assign rfl rfl ?_; refine GO.nil ?_; refine kblock_n ?_; refine kthen_n ?_; refine G.region ?_; refine GO.move rfl rfl ?_; refine GO.subi rfl rfl rfl (by omega) ?_; refine GO.assign rfl rfl ?_; refine GO.nil ?_; refine kthen_n ?_)
      obtain ⟨l, rfl⟩ : ∃ m, l = m + 1 := ⟨l - 1, by omega⟩
      refine ⟨l, P' n k - 1, np', P', ow', .slice (some ⟨bp, 0, none⟩) np' cap, ⟨by omega, g3, ?_, T', ?_, hsame, by omega, hno⟩, by omega, ?_, ?_⟩
      · rw [g4, ho]
        obtain ⟨g1, g2⟩ := way_up i j (l + 1)
        rw [hk] at g1 g2
        dsimp only
        rw [g1, g2]; rfl
      · have hd := hdn.step (by rw [hk]; exact h3)
        rw [hk] at hd
        exact hd
      · (refine SubE.c rfl rfl ?_; refine SubE.c rfl rfl ?_; refine SubE.c rfl rfl ?_; (refine SubE.c rfl ?_ ?_; focus (simp; omega)); (refine SubE.c rfl ?_ ?_; focus (simp; done)); exact SubE.n)
      · ((refine Sb.c Tk.h ?_; refine Sb.c Tk.h ?_; refine Sb.c Tk.h ?_); (exact Sb.r))
  · have hl0 : l = 0 := by omega
    subst hl0
    have hrd : Rd (parP np' (.slice (some ⟨bp, 0, none⟩) np' cap) P') ⟨bp, 0 + n * 4 + wayN i j 0 * 1, none⟩ (i64 (P' n (wayN i j 0))) := Rd.own (partsV_get hn hw)
    (refine G.exit ?_; refine kthen_x ?_; refine kthen_x ?_; refine kblock_x ?_; refine kthen_n ?_; refine G.seq ?_; refine G.region ?_; refine GO.move rfl rfl ?_; refine GO.move rfl rfl ?_)
    refine GO.call3 rfl rfl rfl rfl (way_spec i j 0 hi2 hj2 (by omega)) Tks.n ?_
    rintro _ _ ⟨rfl, rfl⟩
    have hff := hdn.fnd
    simp only [fnd] at hff
    generalize hk : wayN i j 0 = k at hw hrd hff ⊢
    (refine GO.assign rfl rfl ?_; refine GO.nil ?_; refine kthen_n ?_; refine G.seq ?_; refine G.seq ?_; refine G.region ?_; refine GO.move rfl rfl ?_; refine GO.nilCheck rfl rfl ?_; refine GO.fieldAddr rfl rfl ?_; refine GO.load1 rfl rfl rfl Tk.h rfl ?_; refine GO.move rfl rfl ?_; refine GO.move rfl rfl ?_; refine GO.idxS rfl rfl rfl ⟨rfl, by omega⟩ ?_; refine GO.idxA rfl rfl rfl ⟨rfl, by omega⟩ ?_; refine GO.loadQ rfl rfl rfl (Tk.t Tk.h) (by assumption) ?_; refine GO.eqi rfl rfl rfl ?_; refine GO.nil ?_; refine kthen_n ?_)
    refine G.condD rfl (fun h2 => ?_) (fun h2 => ?_)
    · have h3 : P' n k = 0 := by omega
      rw [h3] at hff
      (refine G.seq ?_; refine G.region ?_; refine GO.move rfl rfl ?_; refine GO.move rfl rfl ?_; refine GO.nilCheck rfl rfl ?_; refine GO.fieldAddr rfl rfl ?_; refine GO.load1 rfl rfl rfl Tk.h rfl ?_; refine GO.build0 rfl ?_)
      refine GO.buildSlice1 rfl rfl (by simp; rfl) rfl ⟨by omega, by omega⟩ fun b86 => ?_
      rw [show putParts [Value.agg (List.replicate 64 (Value.int IntKind.u64 0)).toArray] = cells zeroB by rw [← cells_zero]; simp [putParts, Value.cells]]
      refine GO.appendOwn (m := 1) (news := cells zeroB) rfl rfl rfl (Tk.t (Tk.t (Tk.t Tk.h))) Tk.h (by rw [cells_len]) (cells_one _) ⟨by decide, by simp⟩ Nat.one_pos (by unfold maxLen; omega) (by omega) fun v2 => ?_
      rw [leavesV_more]
      refine GO.ownOne Tk.h fun hone2 => ?_
      (refine GO.nilCheck rfl rfl ?_; refine GO.fieldAddr rfl rfl ?_; refine GO.store1 rfl rfl (by assumption) (Tk.t (Tk.t Tk.h)) (by simp) ?_; refine GO.nil ?_; refine kthen_n ?_)
      refine G.draw 13 (by kernel_rfl) ?_
      ((apply GQ.step; focus (intro Z; refine GO.move rfl rfl ?_; exact KQ.z)); (apply GQ.step; focus (intro Z; refine GO.nilCheck rfl rfl ?_; exact KQ.z)); (apply GQ.step; focus (intro Z; refine GO.fieldAddr rfl rfl ?_; exact KQ.z)); (apply GQ.step; focus (intro Z; refine GO.load1 rfl rfl rfl Tk.h rfl ?_; exact KQ.z)); (apply GQ.step; focus (intro Z; refine GO.move rfl rfl ?_; exact KQ.z)); (apply GQ.step; focus (intro Z; refine GO.move rfl rfl ?_; exact KQ.z)); (apply GQ.step; focus (intro Z; refine GO.move rfl rfl ?_; exact KQ.z)); (apply GQ.step; focus (intro Z; refine GO.nilCheck rfl rfl ?_; exact KQ.z)); (apply GQ.step; focus (intro Z; refine GO.fieldAddr rfl rfl ?_; exact KQ.z)); (apply GQ.step; focus (intro Z; refine GO.load1 rfl rfl rfl Tk.h rfl ?_; exact KQ.z)); (apply GQ.step; focus (intro Z; refine GO.lenOwn rfl rfl (Tk.t Tk.h) ?_; exact KQ.z)); (apply GQ.step; focus (intro Z; refine GO.idxS rfl rfl rfl ⟨rfl, by omega⟩ ?_; exact KQ.z)); (apply GQ.step; focus (intro Z; refine GO.idxA rfl rfl rfl ⟨rfl, by omega⟩ ?_; exact KQ.z)); refine GQ.nil ?_)
      refine GO.storeOwn (w0 := 1) (vs := [i64 ((nl + 1 : Nat) : Int)]) rfl rfl rfl rfl (Tk.t (Tk.t (Tk.t Tk.h))) (by rw [hc3]; omega) (by simp [Value.oneCell']) ?_
      rw [partsV_set hn hw]
      have hl0 : (ow' n).1 = 0 := by rw [ho]
      have T2 := T'.addLeaf hn hw h3 hl0
      have hrd3 : Rd (parP np' (.slice (some ⟨bp, 0, none⟩) np' cap) (setP P' n k (nl + 1))) ⟨bp, 0 + n * 4 + k * 1, none⟩ (i64 ((nl + 1 : Nat) : Int)) := by
        have := partsV_get (P := setP P' n k (nl + 1)) (np := np') hn hw
        rw [setP_at] at this
        exact Rd.own this
      have hpl : 2 * (ow' n).2.1 + k / 2 = i ∧ 2 * (ow' n).2.2 + k % 2 = j := by
        rw [ho]
        obtain ⟨g1, g2⟩ := way_up i j 0
        rw [hk] at g1 g2
        exact ⟨by rw [g1]; simp, by rw [g2]; simp⟩
      have hwas : fnd P i j (D - 1) 0 = 0 := by rw [← hsame i j hi hj]; exact hff
      (refine GO.nil ?_; refine kthen_n ?_; refine G.seq ?_; refine G.region ?_; refine GO.move rfl rfl ?_; refine GO.nilCheck rfl rfl ?_; refine GO.fieldAddr rfl rfl ?_; refine GO.load1 rfl rfl rfl (Tk.t Tk.h) rfl ?_; refine GO.move rfl rfl ?_; refine GO.move rfl rfl ?_; refine GO.idxS rfl rfl rfl ⟨rfl, by omega⟩ ?_; refine GO.idxA rfl rfl rfl ⟨rfl, by omega⟩ ?_; refine GO.loadQ rfl rfl rfl Tk.h (by assumption) ?_; refine GO.subi rfl rfl rfl (by omega) ?_; refine GO.assign rfl rfl ?_; refine GO.nil ?_; refine kthen_n ?_; refine G.ret ?_)
      refine KF.r1 rfl (RV.t rfl) ⟨np', nl + 1, setP P' n k (nl + 1), fun m => if m = nl then zeroB else B m, nl, .slice (some ⟨bp, 0, none⟩) np' cap, v2, ⟨⟨_, _, T2⟩, ?_, by omega, fun x y hx hy hne => ?_, fun m hm => if_neg (by omega), fun _ => ⟨rfl, rfl, if_pos rfl, by omega⟩, fun h => absurd hwas h⟩, ?_, rfl⟩ ?_
      · rw [(hdn.mono (setP_mono (v := nl + 1) h3)).fnd]
        simp only [fnd]
        rw [hk, setP_at]
      · rw [T'.fnd_leaf hl0 (fun h => hne ⟨h.1.symm.trans hpl.1, h.2.symm.trans hpl.2⟩) (by omega) (by rw [T'.root, h0 x hx, h0 y hy]), hsame x y hx hy]
      · congr 1; omega
      · ((refine Sb.c (Tk.t Tk.h) ?_; refine Sb.c Tk.h ?_; refine Sb.c Tk.h ?_); (refine Sb.s ?_; exact Sb.r))
    · have h3 : P' n k ≠ 0 := by omega
      obtain ⟨g3, g4⟩ := T'.leaf n k hn hw h3 (by rw [ho])
      (refine G.skip ?_; refine kthen_n ?_; refine G.seq ?_; refine G.region ?_; refine GO.move rfl rfl ?_; refine GO.nilCheck rfl rfl ?_; refine GO.fieldAddr rfl rfl ?_; refine GO.load1 rfl rfl rfl Tk.h rfl ?_; refine GO.move rfl rfl ?_; refine GO.move rfl rfl ?_; refine GO.idxS rfl rfl rfl ⟨rfl, by omega⟩ ?_; refine GO.idxA rfl rfl rfl ⟨rfl, by omega⟩ ?_; refine GO.loadQ rfl rfl rfl (Tk.t Tk.h) (by assumption) ?_; refine GO.subi rfl rfl rfl (by omega) ?_; refine GO.assign rfl rfl ?_; refine GO.nil ?_; refine kthen_n ?_; refine G.ret ?_)
      have hne : fnd P i j (D - 1) 0 ≠ 0 := by rw [← hsame i j hi hj, hff]; exact h3
      refine KF.r1 rfl (RV.t rfl) ⟨np', nl, P', B, P' n k - 1, .slice (some ⟨bp, 0, none⟩) np' cap, vl, ⟨⟨ow', low, T'⟩, by rw [hff]; omega, g3, fun x y hx hy _ => hsame x y hx hy, fun _ _ => rfl, fun h => absurd h hne, fun _ => ⟨rfl, hno hne, by rw [← hsame i j hi hj, hff]; omega⟩⟩, ?_, rfl⟩ ?_
      · congr 1; omega
      · ((refine Sb.c Tk.h ?_; refine Sb.c Tk.h ?_; refine Sb.c Tk.h ?_); (exact Sb.r))
end Go.Proofs.YtfoahdfflchidaaDoor
namespace Go.Proofs.YtfoahdfflchidaaDoor
open Go
def sumTo (f : Nat → Nat) : Nat → Nat
  | 0 => 0
  | n + 1 => sumTo f n + f n
theorem sumTo_congr {f g : Nat → Nat} : ∀ {n : Nat}, (∀ i, i < n → f i = g i) → sumTo f n = sumTo g n
  | 0, _ => rfl
  | n + 1, h => by simp only [sumTo]; rw [sumTo_congr (n := n) (fun i hi => h i (by omega)), h n (by omega)]
theorem sumTo_upd {f g : Nat → Nat} {i d : Nat} (hne : ∀ j, j ≠ i → g j = f j) (hi : g i = f i + d) : ∀ {n : Nat}, i < n → sumTo g n = sumTo f n + d
  | 0, h => by omega
  | n + 1, h => by
    simp only [sumTo]
    by_cases e : i = n
    · subst e
      rw [sumTo_congr (fun j hj => hne j (by omega)), hi]; omega
    · rw [sumTo_upd hne hi (n := n) (by omega), hne n (by omega)]; omega
theorem sumTo_le {f : Nat → Nat} {m : Nat} (h : ∀ i, f i ≤ m) : ∀ n, sumTo f n ≤ n * m
  | 0 => by simp [sumTo]
  | n + 1 => by simp only [sumTo]; have := sumTo_le h n; have := h n; rw [Nat.succ_mul]; omega
/-- The block of the cells at a place. -/
def blkAt (X : Nat → Nat → Bool) (i j : Nat) : Blk := blkOf fun r c => X (64 * i + r) (64 * j + c)
theorem blkAt_bit (X : Nat → Nat → Bool) (i j r c : Nat) (hc : c < 64) : (blkAt X i j r).getLsbD c = X (64 * i + r) (64 * j + c) := blkOf_bit _ r c hc
def cntX (X : Nat → Nat → Bool) : Nat := sumTo (fun i => sumTo (fun j => lenB (blkAt X i j) 64) 16) 16
theorem lenB_congr {A B : Blk} : ∀ {n : Nat}, (∀ r, r < n → A r = B r) → lenB A n = lenB B n
  | 0, _ => rfl
  | n + 1, h => by simp only [lenB]; rw [lenB_congr (n := n) (fun i hi => h i (by omega)), h n (by omega)]
theorem cnt_or (x y : BitVec 64) : ∀ n, n ≤ 64 → cnt (x ||| y) n = cnt x n + cnt (y &&& ~~~x) n
  | 0, _ => rfl
  | n + 1, h => by
    simp only [cnt]
    rw [cnt_or x y n (by omega)]
    have hn : n < 64 := by omega
    have e1 : (x ||| y).getLsbD n = (x.getLsbD n || y.getLsbD n) := BitVec.getLsbD_or
    have e2 : (y &&& ~~~x).getLsbD n = (y.getLsbD n && !x.getLsbD n) := by rw [BitVec.getLsbD_and, BitVec.getLsbD_not, decide_eq_true hn, Bool.true_and]
    rw [e1, e2]
    generalize x.getLsbD n = p
    generalize y.getLsbD n = q
    cases p <;> cases q <;> simp <;> omega
theorem lenB_or (A B : Blk) : ∀ n, lenB (orB A B) n = lenB A n + lenB (lessB B A) n
  | 0 => rfl
  | n + 1 => by
    simp only [lenB]
    rw [lenB_or A B n, ones_cnt, ones_cnt, ones_cnt]
    have := cnt_or (A n) (B n) 64 (Nat.le_refl _)
    unfold orB lessB
    omega
theorem cnt_zero {x : BitVec 64} : ∀ {n : Nat}, cnt x n = 0 → ∀ c, c < n → x.getLsbD c = false
  | 0, _, c, h => by omega
  | n + 1, h, c, hc => by
    simp only [cnt] at h
    cases hb : x.getLsbD n with
    | true => rw [hb] at h; simp at h
    | false =>
      by_cases e : c = n
      · rw [e, hb]
      · exact cnt_zero (n := n) (by omega) c (by omega)
theorem cnt_none {x : BitVec 64} : ∀ {n : Nat}, (∀ c, c < n → x.getLsbD c = false) → cnt x n = 0
  | 0, _ => rfl
  | n + 1, h => by simp only [cnt]; rw [cnt_none (n := n) (fun c hc => h c (by omega)), h n (by omega)]; rfl
theorem lenB_none {A : Blk} : ∀ {n : Nat}, (∀ r c, r < n → c < 64 → (A r).getLsbD c = false) → lenB A n = 0
  | 0, _ => rfl
  | n + 1, h => by simp only [lenB]; rw [lenB_none (n := n) (fun r c hr hc => h r c (by omega) hc), ones_cnt, cnt_none (fun c hc => h n c (by omega) hc)]
theorem lenB_zero {A : Blk} : ∀ {n : Nat}, lenB A n = 0 → ∀ r c, r < n → c < 64 → (A r).getLsbD c = false
  | 0, _, r, c, hr, _ => by omega
  | n + 1, h, r, c, hr, hc => by
    simp only [lenB] at h
    by_cases e : r = n
    · subst e
      rw [ones_cnt] at h
      exact cnt_zero (n := 64) (by omega) c hc
    · exact lenB_zero (n := n) (by omega) r c (by omega) hc
/-- The cells of a block more. -/
def orX (X : Nat → Nat → Bool) (i j : Nat) (b : Blk) : Nat → Nat → Bool := fun r c => X r c || (decide (r / 64 = i) && (decide (c / 64 = j) && (b (r % 64)).getLsbD (c % 64)))
theorem orX_at (X : Nat → Nat → Bool) (i j : Nat) (b : Blk) {r c : Nat} (hr : r < 64) (hc : c < 64) : orX X i j b (64 * i + r) (64 * j + c) = (X (64 * i + r) (64 * j + c) || (b r).getLsbD c) := by
  unfold orX
  rw [decide_eq_true (show (64 * i + r) / 64 = i by omega), decide_eq_true (show (64 * j + c) / 64 = j by omega), show (64 * i + r) % 64 = r by omega, show (64 * j + c) % 64 = c by omega]
  simp
theorem orX_other (X : Nat → Nat → Bool) (i j : Nat) (b : Blk) {x y r c : Nat} (hne : ¬ (x = i ∧ y = j)) (hr : r < 64) (hc : c < 64) : orX X i j b (64 * x + r) (64 * y + c) = X (64 * x + r) (64 * y + c) := by
  unfold orX
  by_cases h1 : x = i
  · have h2 : y ≠ j := fun h => hne ⟨h1, h⟩
    rw [decide_eq_false (show ¬ (64 * y + c) / 64 = j by omega)]; simp
  · rw [decide_eq_false (show ¬ (64 * x + r) / 64 = i by omega)]; simp
theorem blkAt_or (X : Nat → Nat → Bool) (i j : Nat) (b : Blk) {r : Nat} (hr : r < 64) : blkAt (orX X i j b) i j r = orB (blkAt X i j) b r := eq_of_bits fun c hc => by
  rw [blkAt_bit _ _ _ _ _ hc, orX_at X i j b hr hc]
  unfold orB
  rw [BitVec.getLsbD_or, blkAt_bit _ _ _ _ _ hc]
theorem blkAt_other (X : Nat → Nat → Bool) (i j : Nat) (b : Blk) {x y : Nat} (hne : ¬ (x = i ∧ y = j)) {r : Nat} (hr : r < 64) : blkAt (orX X i j b) x y r = blkAt X x y r := eq_of_bits fun c hc => by
  rw [blkAt_bit _ _ _ _ _ hc, blkAt_bit _ _ _ _ _ hc, orX_other X i j b hne hr hc]
theorem cntX_or (X : Nat → Nat → Bool) {i j : Nat} (hi : i < 16) (hj : j < 16) (b : Blk) : cntX (orX X i j b) = cntX X + lenB (lessB b (blkAt X i j)) 64 := by
  unfold cntX
  refine sumTo_upd (i := i) (fun x hx => sumTo_congr fun y _ => lenB_congr fun r hr => blkAt_other X i j b (fun h => hx h.1) hr) ?_ hi
  refine sumTo_upd (i := j) (fun y hy => lenB_congr fun r hr => blkAt_other X i j b (fun h => hy h.2) hr) ?_ hj
  rw [lenB_congr (fun r hr => blkAt_or X i j b hr), lenB_or]
theorem countP_updL {f g : Nat → Bool} {i : Nat} {l : List Nat} (hf : f i = true) (hg : g i = false) (hn : l.Nodup) (hi : i ∈ l) (hfg : ∀ j ∈ l, j ≠ i → f j = g j) : l.countP g + 1 = l.countP f := by
  have h := countP_upd (f := fun j => if j ∈ l then f j else g j) (g := g) (i := i) (by simp [hi, hf]) hg (fun j hj => by
    by_cases hm : j ∈ l
    · simp only [hm, if_true]; exact hfg j hm hj
    · simp [hm]) l hn hi
  rw [h]
  apply List.countP_congr
  intro x hx
  simp [hx]
/-- A matrix's parts are what they should be. -/
structure MatOK (side : Nat) (X : Nat → Nat → Bool) (D np nl : Nat) (P : Nat → Nat → Nat) (B : Nat → Blk) (cnt : Nat) : Prop where
  sd : 1 ≤ side ∧ side ≤ 1024
  dp : 1 ≤ D ∧ D ≤ 4 ∧ side ≤ 64 * 2 ^ D
  tree : ∃ ow low, Tree D np nl P ow low
  inn : ∀ r c, X r c = true → r < side ∧ c < side
  non : ∀ i j, i < 2 ^ D → j < 2 ^ D → fnd P i j (D - 1) 0 = 0 → ∀ r c, r < 64 → c < 64 → X (64 * i + r) (64 * j + c) = false
  lea : ∀ i j q, i < 2 ^ D → j < 2 ^ D → fnd P i j (D - 1) 0 = q + 1 → (∀ r, r < 64 → B q r = blkAt X i j r) ∧ ∃ r c, r < 64 ∧ c < 64 ∧ X (64 * i + r) (64 * j + c) = true
  cnc : cnt = cntX X
  nlc : nl = (List.range (2 ^ D * 2 ^ D)).countP fun x => decide (fnd P (x / 2 ^ D) (x % 2 ^ D) (D - 1) 0 ≠ 0)
  npc : np ≤ 1 + nl * D
section
variable {side D np nl cn : Nat} {X : Nat → Nat → Bool} {P : Nat → Nat → Nat} {B : Nat → Blk}
theorem MatOK.pow (h : MatOK side X D np nl P B cn) : 2 ^ D ≤ 16 ∧ nl ≤ 256 ∧ np ≤ 1025 := by
  have h1 : 2 ^ D ≤ 2 ^ 4 := Nat.pow_le_pow_right (by decide) h.dp.2.1
  have h2 : nl ≤ 2 ^ D * 2 ^ D := by rw [h.nlc]; have := List.countP_le_length (p := fun x => decide (fnd P (x / 2 ^ D) (x % 2 ^ D) (D - 1) 0 ≠ 0)) (l := List.range (2 ^ D * 2 ^ D)); simpa using this
  have h3 : 2 ^ D * 2 ^ D ≤ 16 * 16 := Nat.mul_le_mul h1 h1
  have h4 := h.npc
  have h5 : nl * D ≤ 256 * 4 := Nat.mul_le_mul (by omega) h.dp.2.1
  exact ⟨h1, by omega, by omega⟩
theorem MatOK.inb (h : MatOK side X D np nl P B cn) {i : Nat} (hi : i < side) : i / 64 < 2 ^ D := by
  have := h.dp.2.2
  exact Nat.div_lt_of_lt_mul (by omega)
theorem MatOK.or (h : MatOK side X D np nl P B cn) {i j : Nat} (hi : i < 2 ^ D) (hj : j < 2 ^ D) {b : Blk} (hb : ∃ r c, r < 64 ∧ c < 64 ∧ (b r).getLsbD c = true) (hin : ∀ r c, r < 64 → c < 64 → (b r).getLsbD c = true → 64 * i + r < side ∧ 64 * j + c < side)
    {np' nl' q : Nat} {P' : Nat → Nat → Nat} {B' : Nat → Blk} (g : Grown D np nl P B i j np' nl' P' B' q) :
    (∀ r, r < 64 → B' q r = blkAt X i j r) ∧ MatOK side (orX X i j b) D np' nl' P' (fun m => if m = q then orB (B' q) b else B' m) (cn + lenB (lessB b (B' q)) 64) := by
  obtain ⟨hD1, hD2, hD3⟩ := h.dp
  obtain ⟨hp1, hp2, hp3⟩ := h.pow
  have hq : ∀ r, r < 64 → B' q r = blkAt X i j r := by
    intro r hr
    by_cases e : fnd P i j (D - 1) 0 = 0
    · obtain ⟨_, _, hz, _⟩ := g.new e
      rw [hz]
      refine eq_of_bits fun c hc => ?_
      rw [blkAt_bit _ _ _ _ _ hc, h.non i j hi hj e r c hr hc]
      simp [zeroB]
    · obtain ⟨e1, _, e2⟩ := g.was e
      have hlt := g.lt
      rw [g.old q (by omega)]
      exact (h.lea i j q hi hj e2).1 r hr
  refine ⟨hq, h.sd, h.dp, g.tree, ?_, ?_, ?_, ?_, ?_, ?_⟩
  · intro r c hX
    unfold orX at hX
    simp only [Bool.or_eq_true, Bool.and_eq_true, decide_eq_true_eq] at hX
    rcases hX with hX | ⟨h1, h2, h3⟩
    · exact h.inn r c hX
    · have := hin (r % 64) (c % 64) (by omega) (by omega) h3
      omega
  · intro x y hx hy hf r c hr hc
    by_cases e : x = i ∧ y = j
    · obtain ⟨rfl, rfl⟩ := e; rw [g.at_] at hf; cases hf
    · rw [orX_other X i j b e hr hc]
      rw [g.other x y hx hy e] at hf
      exact h.non x y hx hy hf r c hr hc
  · intro x y q2 hx hy hf
    by_cases e : x = i ∧ y = j
    · obtain ⟨rfl, rfl⟩ := e
      rw [g.at_] at hf
      have : q2 = q := by omega
      subst this
      refine ⟨fun r hr => ?_, ?_⟩
      · rw [if_pos rfl, blkAt_or X x y b hr]
        unfold orB
        rw [hq r hr]
      · obtain ⟨r, c, hr, hc, hbit⟩ := hb
        exact ⟨r, c, hr, hc, by rw [orX_at X x y b hr hc, hbit]; simp⟩
    · have hf0 := hf
      rw [g.other x y hx hy e] at hf0
      have hne : q2 ≠ q := by
        rintro rfl
        obtain ⟨ow, low, T⟩ := g.tree
        have h0 : ∀ x, x < 2 ^ D → x / 2 ^ (D - 1 + 1) = 0 := fun x hx => by rw [show D - 1 + 1 = D by omega]; exact Nat.div_eq_of_lt hx
        have t1 := T.fnd_low (i := x) (j := y) (l := D - 1) (n := 0) (by have := T.some; omega) (by rw [T.root, h0 x hx, h0 y hy]) (by omega)
        have t2 := T.fnd_low (i := i) (j := j) (l := D - 1) (n := 0) (by have := T.some; omega) (by rw [T.root, h0 i hi, h0 j hj]) (by have := g.at_; omega)
        rw [hf] at t1
        rw [g.at_] at t2
        have := t1.2.symm.trans t2.2
        injection this with a1 a2
        exact e ⟨a1, a2⟩
      have hold : B' q2 = B q2 := g.old q2 (by
        by_cases e0 : fnd P i j (D - 1) 0 = 0
        · obtain ⟨_, e1, _⟩ := g.new e0
          have hl : q2 < nl' := by
            obtain ⟨ow, low, T⟩ := g.tree
            have h0 : ∀ x, x < 2 ^ D → x / 2 ^ (D - 1 + 1) = 0 := fun x hx => by rw [show D - 1 + 1 = D by omega]; exact Nat.div_eq_of_lt hx
            have t1 := T.fnd_low (i := x) (j := y) (l := D - 1) (n := 0) (by have := T.some; omega) (by rw [T.root, h0 x hx, h0 y hy]) (by omega)
            rw [hf] at t1; exact t1.1
          obtain ⟨e2, _⟩ := g.new e0
          omega
        · obtain ⟨e1, _, _⟩ := g.was e0
          have hl : q2 < nl' := by
            obtain ⟨ow, low, T⟩ := g.tree
            have h0 : ∀ x, x < 2 ^ D → x / 2 ^ (D - 1 + 1) = 0 := fun x hx => by rw [show D - 1 + 1 = D by omega]; exact Nat.div_eq_of_lt hx
            have t1 := T.fnd_low (i := x) (j := y) (l := D - 1) (n := 0) (by have := T.some; omega) (by rw [T.root, h0 x hx, h0 y hy]) (by omega)
            rw [hf] at t1; exact t1.1
          omega)
      obtain ⟨l1, r, c, hr, hc, l2⟩ := h.lea x y q2 hx hy hf0
      refine ⟨fun r hr => ?_, r, c, hr, hc, by rw [orX_other X i j b e hr hc]; exact l2⟩
      rw [if_neg hne, hold, blkAt_other X i j b e hr]
      exact l1 r hr
  · rw [cntX_or X (by omega) (by omega) b, h.cnc]
    have e := lenB_congr (A := lessB b (B' q)) (B := lessB b (blkAt X i j)) (n := 64) (fun r hr => by unfold lessB; rw [hq r hr])
    rw [e]
  · by_cases e : fnd P i j (D - 1) 0 = 0
    · obtain ⟨_, e1, _⟩ := g.new e
      rw [e1, h.nlc]
      have hij : i * 2 ^ D + j < 2 ^ D * 2 ^ D := by
        have := Nat.mul_le_mul_right (2 ^ D) (show i + 1 ≤ 2 ^ D from hi)
        rw [Nat.succ_mul] at this; omega
      have d1 : (i * 2 ^ D + j) / 2 ^ D = i := Nat.div_eq_of_lt_le (by omega) (by rw [Nat.succ_mul]; omega)
      have d2 : (i * 2 ^ D + j) % 2 ^ D = j := by rw [Nat.mod_eq_sub_div_mul, d1]; omega
      refine countP_updL (i := i * 2 ^ D + j) ?_ ?_ List.nodup_range (by simpa using hij) ?_
      · rw [d1, d2, g.at_]; simp
      · rw [d1, d2, e]; simp
      · intro x hm hx
        have hlt : x < 2 ^ D * 2 ^ D := by simpa using hm
        have hpos : 0 < 2 ^ D := Nat.pow_pos (by decide)
        have hx1 : x / 2 ^ D < 2 ^ D := Nat.div_lt_of_lt_mul hlt
        have hx2 : x % 2 ^ D < 2 ^ D := Nat.mod_lt _ hpos
        rw [g.other _ _ hx1 hx2 (fun hh => hx (by have := Nat.div_add_mod x (2 ^ D); rw [hh.1, hh.2, Nat.mul_comm] at this; omega))]
    · obtain ⟨e1, e2, e3⟩ := g.was e
      rw [e1, h.nlc]
      apply List.countP_congr
      intro x hx
      have hlt : x < 2 ^ D * 2 ^ D := by simpa using hx
      have hpos : 0 < 2 ^ D := Nat.pow_pos (by decide)
      have hx1 : x / 2 ^ D < 2 ^ D := Nat.div_lt_of_lt_mul hlt
      have hx2 : x % 2 ^ D < 2 ^ D := Nat.mod_lt _ hpos
      by_cases hh : x / 2 ^ D = i ∧ x % 2 ^ D = j
      · rw [hh.1, hh.2, g.at_, e3]
      · rw [g.other _ _ hx1 hx2 hh]
  · by_cases e : fnd P i j (D - 1) 0 = 0
    · obtain ⟨_, e1, _, e2⟩ := g.new e
      rw [e1, Nat.succ_mul]
      have := h.npc
      omega
    · obtain ⟨e1, e2, _⟩ := g.was e
      rw [e1, e2]; exact h.npc
end
end Go.Proofs.YtfoahdfflchidaaDoor
namespace Go.Proofs.YtfoahdfflchidaaDoor
open Go
attribute [local irreducible] pt init exs pur own
structure MG where
  D : Nat
  np : Nat
  nl : Nat
  P : Nat → Nat → Nat
  B : Nat → Blk
  cnt : Nat
  vp : Value
  vl : Value
def MG.ok (g : MG) (side : Nat) (X : Nat → Nat → Bool) : Prop := MatOK side X g.D g.np g.nl g.P g.B g.cnt
def MG.pcs (g : MG) (side b : Nat) : List HP := [matP b side g.D g.cnt g.vp g.vl, parP g.np g.vp g.P, leaP g.nl g.vl g.B]
/-- A matrix in memory: its side, and which cells it has. -/
def mat (side : Nat) (X : Nat → Nat → Bool) (b : Nat) : HP := exs fun (g : MG) => star (pur (g.ok side X) :: g.pcs side b)
theorem sat_mat {side b : Nat} {X : Nat → Nat → Bool} {l : List HP} {w : World} : sat (mat side X b :: l) w ↔ ∃ g : MG, g.ok side X ∧ sat (g.pcs side b ++ l) w := by
  unfold mat
  rw [sat_exs]
  refine exists_congr fun g => ?_
  rw [sat_flat]
  exact sat_pur
/-- A function that reads a matrix. -/
theorem Fn.matRO {P : Program} {f : FuncId} {args : Array Value} {side b : Nat} {X : Nat → Nat → Bool} {rest : List HP} {Rv : Value → Prop}
    (h : ∀ g : MG, g.ok side X → Fn P f args (g.pcs side b ++ rest) (fun r Q => Rv r ∧ Q = g.pcs side b ++ rest)) : Fn P f args (mat side X b :: rest) (fun r Q => Rv r ∧ Q = mat side X b :: rest) := by
  unfold Fn
  intro F w s
  obtain ⟨g, hg, s1⟩ := sat_mat.1 s
  have hf := h g hg
  unfold Fn at hf
  refine (hf F w (by rw [List.append_assoc]; exact s1)).mono ?_
  rintro e w' ⟨v, Q, a, sm, ⟨hr, rfl⟩, d⟩
  exact ⟨v, _, a, sm, ⟨hr, rfl⟩, sat_mat.2 ⟨g, hg, by rw [List.append_assoc] at d; exact d⟩⟩
/-- A function that turns a matrix. -/
theorem Fn.matW {P : Program} {f : FuncId} {args : Array Value} {side b : Nat} {X : Nat → Nat → Bool} {rest : List HP} {R : Value → (Nat → Nat → Bool) → List HP → Prop}
    (h : ∀ g : MG, g.ok side X → Fn P f args (g.pcs side b ++ rest) (fun r Q => ∃ (g' : MG) (X' : Nat → Nat → Bool) (Q' : List HP), g'.ok side X' ∧ R r X' Q' ∧ Q = g'.pcs side b ++ Q')) : Fn P f args (mat side X b :: rest) (fun r Q => ∃ X' Q', R r X' Q' ∧ Q = mat side X' b :: Q') := by
  unfold Fn
  intro F w s
  obtain ⟨g, hg, s1⟩ := sat_mat.1 s
  have hf := h g hg
  unfold Fn at hf
  refine (hf F w (by rw [List.append_assoc]; exact s1)).mono ?_
  rintro e w' ⟨v, Q, a, sm, ⟨g', X', Q', hg', hr, rfl⟩, d⟩
  exact ⟨v, _, a, sm, ⟨X', Q', hr, rfl⟩, sat_mat.2 ⟨g', hg', by rw [List.append_assoc] at d; exact d⟩⟩
section
variable {P : Program} {c : Cx} {A : Array Oper} {rest os : List Oper} {K : Kont} {L : Env} {H F : List HP} {t : TypeId} {p : String} {e : Array Edge} {d : Nat} {C : Code}
theorem GO.matShut {side b : Nat} {X : Nat → Nat → Bool} (g : MG) (hg : g.ok side X) (tk : Tks (g.pcs side b) H F) (k : GO P c A os K L (mat side X b :: F)) : GO P c A os K L H :=
  GO.mem (H' := g.pcs side b ++ F) ⟨[], by rw [List.append_nil]; exact tk⟩ (GO.imp (H' := mat side X b :: F) (fun l w s => sat_mat.2 ⟨g, hg, by rw [List.append_assoc] at s; exact s⟩) k)
theorem G.matOpen {side b : Nat} {X : Nat → Nat → Bool} (tk : Tk (mat side X b) H F) (k : ∀ g : MG, g.ok side X → G P c C K L (g.pcs side b ++ F)) : G P c C K L H := by
  rintro a w ⟨h1, h2, ds, h3, h4, h5⟩
  obtain ⟨g, hg, s⟩ := sat_mat.1 (sat_perm (List.Perm.append_right _ tk) h5)
  exact k g hg a w ⟨h1, h2, ds, h3, h4, by rw [List.append_assoc]; exact s⟩
theorem ImpS.mat {side b : Nat} {X : Nat → Nat → Bool} {M : List HP} (g : MG) (hg : g.ok side X) (h : ImpS H (g.pcs side b ++ M)) : ImpS H (Go.Proofs.YtfoahdfflchidaaDoor.mat side X b :: M) := fun l w s => sat_mat.2 ⟨g, hg, by have := h l w s; rw [List.append_assoc] at this; exact this⟩
theorem GO.matOpen {side b : Nat} {X : Nat → Nat → Bool} (tk : Tk (mat side X b) H F) (k : ∀ g : MG, g.ok side X → GO P c A os K L (g.pcs side b ++ F)) : GO P c A os K L H := by
  rintro a w ⟨h1, h2, ds, h3, h4, h5⟩
  obtain ⟨g, hg, s⟩ := sat_mat.1 (sat_perm (List.Perm.append_right _ tk) h5)
  exact k g hg a w ⟨h1, h2, ds, h3, h4, by rw [List.append_assoc]; exact s⟩
/-- A block out of the leaves. -/
theorem GO.loadLeaf {nl bl cap q o : Nat} {B : Nat → Blk} {ty : TypeId} {ds : TypeDesc} {x : Operand} [hu : UL P ty ds] [hs : SZ P ty 64] (hd : ds.isRow = true) (hN : Nat.blt d c.N = true) (hx : evl L x = some (.pointer (some ⟨bl, o, none⟩))) (ho : o = 0 + q * 64) (hq : q < nl)
    (tk : Tk (leaP nl (.slice (some ⟨bl, 0, none⟩) nl cap) B) H F) (k : GO P c A rest K ((d, blk (B q)) :: L) H) : GO P c A (⟨some d, .load ty x, t, p, e, none⟩ :: rest) K L H :=
  GO.loadM (vs := cells (B q)) hd hN hx tk (cells_len _) (fun j u hj => by
    have hj64 : j < 64 := by have := (List.getElem?_eq_some_iff.1 hj).1; rw [cells_len] at this; exact this
    refine Rd.own ?_
    rw [ho, Nat.zero_add, leavesV, grid_get (fun i => cells_len _) hj64 hq]
    exact hj) k
end
attribute [local irreducible] G GO GR GT Fn FnV sat ImpS
theorem leavesV_put {B : Nat → Blk} {nl q : Nat} {C : Blk} (h : q < nl) : (leavesV B nl).take (0 + q * 64) ++ cells C ++ (leavesV B nl).drop (0 + q * 64 + 64) = leavesV (fun m => if m = q then C else B m) nl := by
  have := grid_put (f := fun n => cells (B n)) (w := 64) (fun i => cells_len _) (l := cells C) (cells_len _) h []
  rw [List.append_nil, List.append_nil] at this
  rw [Nat.zero_add, leavesV, this]
  refine grid_congr fun k _ => ?_
  by_cases e : k = q <;> simp [e]
theorem orX_zero {X : Nat → Nat → Bool} {i j : Nat} {b : Blk} (h : ∀ r, r < 64 → b r = 0#64) : orX X i j b = X := by
  funext r c
  unfold orX
  rw [h (r % 64) (by omega)]
  simp
theorem eqBlk_f {B C : Blk} (h : eqBlk B C = false) : ∃ r c, r < 64 ∧ c < 64 ∧ (B r).getLsbD c ≠ (C r).getLsbD c := by
  apply Classical.byContradiction
  intro hn
  have : eqBlk B C = true := eqBlk_t fun r hr => eq_of_bits fun c hc => Classical.byContradiction fun h1 => hn ⟨r, c, hr, hc, h1⟩
  rw [this] at h; cases h
theorem eqBlk_e {B C : Blk} (h : eqBlk B C = true) : ∀ r, r < 64 → B r = C r := by
  unfold eqBlk at h
  rw [allB_iff] at h
  intro r hr
  have := of_decide_eq_true (h r hr)
  exact BitVec.eq_of_toNat_eq (by omega)
set_option maxHeartbeats 4000000 in
set_option maxRecDepth 20000 in
theorem or_mat (side b i j : Nat) (X : Nat → Nat → Bool) (bb : Blk) (hi2 : i < 1073741824) (hj2 : j < 1073741824) (hin : ∀ r c, r < 64 → c < 64 → (bb r).getLsbD c = true → 64 * i + r < side ∧ 64 * j + c < side) :
    Fn Tryd.prog 46 #[.pointer (some ⟨b, 0, none⟩), i64 i, i64 j, blk bb] [mat side X b] (fun r Q => r = .bool (decide (0 < lenB (lessB bb (blkAt X i j)) 64)) ∧ Q = [mat side (orX X i j bb) b]) := by
  refine Fn.mono (Fn.matW (R := fun r X' Q' => r = .bool (decide (0 < lenB (lessB bb (blkAt X i j)) 64)) ∧ X' = orX X i j bb ∧ Q' = []) fun g hg => ?_) (by rintro v Q ⟨X', Q', ⟨h1, rfl, rfl⟩, rfl⟩; exact ⟨h1, rfl⟩)
  obtain ⟨D, np, nl, P, B, cn, vp, vl⟩ := g
  have hok : MatOK side X D np nl P B cn := hg
  obtain ⟨hp1, hp2, hp3⟩ := hok.pow
  obtain ⟨hD1, hD2, hD3⟩ := hok.dp
  obtain ⟨ow, low, T⟩ := hok.tree
  refine Fn.mk Tryd.func46 rfl rfl fun w0 F => ?_
  refine G.mem (H' := matP b side D cn vp vl :: parP np vp P :: leaP nl vl B :: F) Sb.r ?_
  (refine G.seq ?_; refine G.region ?_; refine GO.box rfl rfl rfl fun b7 => ?_; refine GO.assign rfl rfl ?_; refine GO.nil ?_; refine kthen_n ?_; refine G.seq ?_; refine G.seq ?_; refine G.region ?_; refine GO.loadW rfl rfl rfl Tk.h (cells_len _) ?_; refine GO.build0 rfl ?_)
  rw [cells_zero]
  refine GO.eqlA EqR.blk rfl rfl rfl ?_
  cases hz : eqBlk bb zeroB with
  | true =>
    have hz1 := eqBlk_e hz
    (refine GO.nil ?_; refine kthen_n ?_; refine G.condT rfl rfl ?_; refine G.seq ?_; refine G.region ?_; refine GO.assign rfl rfl ?_; refine GO.nil ?_; refine kthen_n ?_; refine G.ret ?_; refine kthen_r ?_)
    refine KF.r1 rfl (RV.t rfl) ⟨⟨D, np, nl, P, B, cn, vp, vl⟩, _, [], hg, ⟨?_, (orX_zero hz1).symm, rfl⟩, rfl⟩ ?_
    · rw [lenB_none (A := lessB bb (blkAt X i j)) (fun r c hr hc => by unfold lessB; rw [hz1 r hr]; simp [zeroB])]; rfl
    · exact Sb.s Sb.r
  | false =>
    obtain ⟨r0, c0, hr0, hc0, hne⟩ := eqBlk_f hz
    have hbit : (bb r0).getLsbD c0 = true := by
      cases h : (bb r0).getLsbD c0 with
      | true => rfl
      | false => rw [h] at hne; simp [zeroB] at hne
    have hi : i < 2 ^ D := by have := (hin r0 c0 hr0 hc0 hbit).1; omega
    have hj : j < 2 ^ D := by have := (hin r0 c0 hr0 hc0 hbit).2; omega
    (refine GO.nil ?_; refine kthen_n ?_; refine G.condF rfl rfl ?_; refine G.skip ?_; refine kthen_n ?_; refine G.seq ?_; refine G.region ?_; refine GO.move rfl rfl ?_; refine GO.move rfl rfl ?_; refine GO.move rfl rfl ?_)
    refine GO.call3 rfl rfl rfl rfl (grow_spec T B side cn b vp vl i j hi hj hi2 hj2 (by omega) (by omega) (by omega)) (Tks.c (Tk.t Tk.h) (Tks.c (Tk.t Tk.h) (Tks.c (Tk.t Tk.h) Tks.n))) ?_
    rintro _ _ ⟨np', nl', P', B', q, vp', vl', gr, rfl, rfl⟩
    obtain ⟨hq, hok2⟩ := hok.or hi hj ⟨r0, c0, hr0, hc0, hbit⟩ hin gr
    have hnl2 := hok2.pow
    (refine GO.assign rfl rfl ?_; refine GO.nil ?_; refine kthen_n ?_; refine G.seq ?_)
    refine G.ownForm (by have := gr.lt; omega) (Tk.t (Tk.t Tk.h)) fun bl capl e1 hd1 hd2 hd3 => ?_
    subst e1
    have hqlt := gr.lt
    have hlen : lenB (lessB bb (B' q)) 64 ≤ 64 * 127 := lenB_le _ 64
    have hcn : cn ≤ 16 * (16 * (64 * 127)) := by rw [hok.cnc]; exact sumTo_le (fun i => sumTo_le (fun j => lenB_le _ 64) 16) 16
    refine G.draw 11 (by kernel_rfl) ?_
    ((apply GQ.step; focus (intro Z; refine GO.loadW rfl rfl rfl (Tk.t (Tk.t (Tk.t Tk.h))) (cells_len _) ?_; exact KQ.z)); (apply GQ.step; focus (intro Z; refine GO.move rfl rfl ?_; exact KQ.z)); (apply GQ.step; focus (intro Z; refine GO.nilCheck rfl rfl ?_; exact KQ.z)); (apply GQ.step; focus (intro Z; refine GO.fieldAddr rfl rfl ?_; exact KQ.z)); (apply GQ.step; focus (intro Z; refine GO.load1 rfl rfl rfl Tk.h rfl ?_; exact KQ.z)); (apply GQ.step; focus (intro Z; refine GO.move rfl rfl ?_; exact KQ.z)); (apply GQ.step; focus (intro Z; refine GO.idxS rfl rfl rfl ⟨rfl, by omega⟩ ?_; exact KQ.z)); (apply GQ.step; focus (intro Z; refine GO.loadLeaf rfl rfl rfl rfl (by assumption) (Tk.t (Tk.t Tk.h)) ?_; exact KQ.z)))
    apply GQ.step; focus (intro Z; refine GO.call2 rfl rfl rfl (less_spec bb (B' q)) Tks.n ?_; rintro _ _ ⟨rfl, rfl⟩; exact KQ.z)
    apply GQ.step; focus (intro Z; refine GO.call1 rfl rfl (len_spec (lessB bb (B' q))) Tks.n ?_; rintro _ _ ⟨rfl, rfl⟩; exact KQ.z)
    ((apply GQ.step; focus (intro Z; refine GO.assign rfl rfl ?_; exact KQ.z)); refine GQ.nil ?_)
    (refine GO.nil ?_; refine kthen_n ?_; refine G.seq ?_)
    refine G.draw 15 (by kernel_rfl) ?_
    ((apply GQ.step; focus (intro Z; refine GO.move rfl rfl ?_; exact KQ.z)); (apply GQ.step; focus (intro Z; refine GO.nilCheck rfl rfl ?_; exact KQ.z)); (apply GQ.step; focus (intro Z; refine GO.fieldAddr rfl rfl ?_; exact KQ.z)); (apply GQ.step; focus (intro Z; refine GO.load1 rfl rfl rfl Tk.h rfl ?_; exact KQ.z)); (apply GQ.step; focus (intro Z; refine GO.move rfl rfl ?_; exact KQ.z)); (apply GQ.step; focus (intro Z; refine GO.move rfl rfl ?_; exact KQ.z)); (apply GQ.step; focus (intro Z; refine GO.nilCheck rfl rfl ?_; exact KQ.z)); (apply GQ.step; focus (intro Z; refine GO.fieldAddr rfl rfl ?_; exact KQ.z)); (apply GQ.step; focus (intro Z; refine GO.load1 rfl rfl rfl Tk.h rfl ?_; exact KQ.z)); (apply GQ.step; focus (intro Z; refine GO.move rfl rfl ?_; exact KQ.z)); (apply GQ.step; focus (intro Z; refine GO.idxS rfl rfl rfl ⟨rfl, by omega⟩ ?_; exact KQ.z)); (apply GQ.step; focus (intro Z; refine GO.loadLeaf rfl rfl rfl rfl (by assumption) (Tk.t (Tk.t Tk.h)) ?_; exact KQ.z)); (apply GQ.step; focus (intro Z; refine GO.loadW rfl rfl rfl (Tk.t (Tk.t (Tk.t Tk.h))) (cells_len _) ?_; exact KQ.z)))
    apply GQ.step; focus (intro Z; refine GO.call2 rfl rfl rfl (or_spec (B' q) bb) Tks.n ?_; rintro _ _ ⟨rfl, rfl⟩; exact KQ.z)
    ((apply GQ.step; focus (intro Z; refine GO.idxS rfl rfl rfl ⟨rfl, by omega⟩ ?_; exact KQ.z)); refine GQ.nil ?_)
    refine GO.storeOwn (w0 := 64) (vs := cells (orB (B' q) bb)) rfl rfl rfl (cells_len _) (Tk.t (Tk.t Tk.h)) (by rw [hd3]; omega) (cells_one _) ?_
    rw [leavesV_put hqlt]
    (refine GO.nil ?_; refine kthen_n ?_; refine G.seq ?_; refine G.region ?_; refine GO.move rfl rfl ?_; refine GO.nilCheck rfl rfl ?_; refine GO.fieldAddr rfl rfl ?_; refine GO.load1 rfl rfl rfl (Tk.t Tk.h) rfl ?_; refine GO.move rfl rfl ?_; refine GO.addi rfl rfl rfl (by omega) ?_; refine GO.nilCheck rfl rfl ?_; refine GO.fieldAddr rfl rfl ?_; refine GO.store1 rfl rfl rfl (Tk.t Tk.h) (by simp) ?_; refine GO.nil ?_; refine kthen_n ?_; refine G.seq ?_; refine G.region ?_; refine GO.move rfl rfl ?_; refine GO.gti rfl rfl rfl ?_; refine GO.assign rfl rfl ?_; refine GO.nil ?_; refine kthen_n ?_; refine G.ret ?_)
    have e2 : lenB (lessB bb (B' q)) 64 = lenB (lessB bb (blkAt X i j)) 64 := lenB_congr fun r hr => by unfold lessB; rw [hq r hr]
    refine KF.r1 rfl (RV.t rfl) ⟨⟨D, np', nl', P', fun m => if m = q then orB (B' q) bb else B' m, cn + lenB (lessB bb (B' q)) 64, vp', .slice (some ⟨bl, 0, none⟩) nl' capl⟩, _, [], hok2, ⟨?_, rfl, rfl⟩, rfl⟩ ?_
    · rw [e2]; congr 1; simp
    · refine Sb.trans (B := matP b side D ((cn + lenB (lessB bb (B' q)) 64 : Nat) : Int) vp' (.slice (some ⟨bl, 0, none⟩) nl' capl) :: parP np' vp' P' :: leaP nl' (.slice (some ⟨bl, 0, none⟩) nl' capl) (fun m => if m = q then orB (B' q) bb else B' m) :: F) Sb.r ?_
      ((refine Sb.c Tk.h ?_; refine Sb.c (Tk.t Tk.h) ?_; refine Sb.c Tk.h ?_); (refine Sb.s ?_; exact Sb.r))
end Go.Proofs.YtfoahdfflchidaaDoor
namespace Go.Proofs.YtfoahdfflchidaaDoor
open Go
attribute [local irreducible] G GO GR GT Fn FnV pt init exs pur sat own ImpS mat
theorem is_pcs {side b : Nat} {X : Nat → Nat → Bool} (g : MG) (hg : g.ok side X) : Fn Tryd.prog 31 #[.pointer (some ⟨b, 0, none⟩)] (g.pcs side b) (fun r Q => r = .bool true ∧ Q = g.pcs side b) := by
  obtain ⟨D, np, nl, P, B, cn, vp, vl⟩ := g
  have hok : MatOK side X D np nl P B cn := hg
  have hs := hok.sd
  refine Fn.mk Tryd.func31 rfl rfl fun w0 F => ?_
  refine G.mem (H' := matP b side D cn vp vl :: parP np vp P :: leaP nl vl B :: F) Sb.r ?_
  (refine G.seq ?_; refine G.region ?_; refine GO.assign rfl rfl ?_; refine GO.nil ?_; refine kthen_n ?_; refine G.seq ?_; refine G.region ?_; refine GO.move rfl rfl ?_; refine GO.neqNilP rfl rfl ?_; refine GO.move rfl rfl ?_; refine GO.gT rfl rfl rfl ?_; refine GO.move rfl rfl ?_; refine GO.gT rfl rfl rfl ?_; refine GO.nilCheck rfl rfl ?_; refine GO.gT rfl rfl rfl ?_; refine GO.fieldAddr rfl rfl ?_; refine GO.gT rfl rfl rfl ?_; refine GO.load1 rfl rfl rfl Tk.h rfl ?_; refine GO.gT rfl rfl rfl ?_; refine GO.gti rfl rfl rfl ?_; refine GO.pickT rfl rfl rfl ?_; refine GO.assign rfl rfl ?_; refine GO.nil ?_; refine kthen_n ?_; refine G.ret ?_)
  refine KF.r1 rfl (RV.t rfl) ⟨?_, rfl⟩ ?_
  · congr 1; simp; omega
  · exact Sb.r
theorem is_mat (side b : Nat) (X : Nat → Nat → Bool) : Fn Tryd.prog 31 #[.pointer (some ⟨b, 0, none⟩)] [mat side X b] (fun r Q => r = .bool true ∧ Q = [mat side X b]) :=
  Fn.matRO (rest := []) fun g hg => by simp only [List.append_nil]; exact is_pcs g hg
theorem is_nil : Fn Tryd.prog 31 #[.pointer none] [] (fun r Q => r = .bool false ∧ Q = []) := by
  refine Fn.mk Tryd.func31 rfl rfl fun w0 F => ?_
  (refine G.seq ?_; refine G.region ?_; refine GO.assign rfl rfl ?_; refine GO.nil ?_; refine kthen_n ?_; refine G.seq ?_; refine G.region ?_; refine GO.move rfl rfl ?_; refine GO.neqNilP rfl rfl ?_; refine GO.move rfl rfl ?_; refine GO.gF rfl rfl rfl rfl ?_; refine GO.gF rfl rfl rfl rfl ?_; refine GO.gF rfl rfl rfl rfl ?_; refine GO.gF rfl rfl rfl rfl ?_; refine GO.gF rfl rfl rfl rfl ?_; refine GO.pickF rfl rfl rfl ?_; refine GO.assign rfl rfl ?_; refine GO.nil ?_; refine kthen_n ?_; refine G.ret ?_)
  refine KF.r1 rfl (RV.t rfl) ⟨rfl, rfl⟩ ?_
  exact Sb.r
theorem in_pcs {side b : Nat} (g : MG) (i : Int) : Fn Tryd.prog 32 #[.pointer (some ⟨b, 0, none⟩), i64 i] (g.pcs side b) (fun r Q => r = .bool (decide (0 ≤ i ∧ i < side)) ∧ Q = g.pcs side b) := by
  obtain ⟨D, np, nl, P, B, cn, vp, vl⟩ := g
  refine Fn.mk Tryd.func32 rfl rfl fun w0 F => ?_
  refine G.mem (H' := matP b side D cn vp vl :: parP np vp P :: leaP nl vl B :: F) Sb.r ?_
  (refine G.seq ?_; refine G.region ?_; refine GO.assign rfl rfl ?_; refine GO.nil ?_; refine kthen_n ?_; refine G.seq ?_; refine G.region ?_; refine GO.move rfl rfl ?_; refine GO.gei rfl rfl rfl ?_; refine GO.move rfl rfl ?_)
  cases h1 : decide (0 ≤ i) with
  | true =>
    have h2 := of_decide_eq_true h1
    (refine GO.gT rfl rfl rfl ?_; refine GO.move rfl rfl ?_; refine GO.gT rfl rfl rfl ?_; refine GO.move rfl rfl ?_; refine GO.gT rfl rfl rfl ?_; refine GO.nilCheck rfl rfl ?_; refine GO.gT rfl rfl rfl ?_; refine GO.fieldAddr rfl rfl ?_; refine GO.gT rfl rfl rfl ?_; refine GO.load1 rfl rfl rfl Tk.h rfl ?_; refine GO.gT rfl rfl rfl ?_; refine GO.lti rfl rfl rfl ?_; refine GO.pickT rfl rfl rfl ?_; refine GO.assign rfl rfl ?_; refine GO.nil ?_; refine kthen_n ?_; refine G.ret ?_)
    refine KF.r1 rfl (RV.t rfl) ⟨?_, rfl⟩ ?_
    · congr 1; simp [h2]
    · exact Sb.r
  | false =>
    have h2 := of_decide_eq_false h1
    (refine GO.gF rfl rfl rfl rfl ?_; refine GO.gF rfl rfl rfl rfl ?_; refine GO.gF rfl rfl rfl rfl ?_; refine GO.gF rfl rfl rfl rfl ?_; refine GO.gF rfl rfl rfl rfl ?_; refine GO.gF rfl rfl rfl rfl ?_; refine GO.pickF rfl rfl rfl ?_; refine GO.assign rfl rfl ?_; refine GO.nil ?_; refine kthen_n ?_; refine G.ret ?_)
    refine KF.r1 rfl (RV.t rfl) ⟨?_, rfl⟩ ?_
    · congr 1; simp; omega
    · exact Sb.r
theorem side_mat (side b : Nat) (X : Nat → Nat → Bool) : Fn Tryd.prog 9 #[.pointer (some ⟨b, 0, none⟩)] [mat side X b] (fun r Q => r = i64 side ∧ Q = [mat side X b]) := by
  refine Fn.mk2 Tryd.func9 rfl rfl fun w0 F => ?_
  refine G.matOpen Tk.h fun g hg => ?_
  (refine G.seq ?_; refine G.region ?_; refine GO.assign rfl rfl ?_; refine GO.nil ?_; refine kthen_n ?_; refine G.seq ?_; refine G.seq ?_; refine G.region ?_; refine GO.move rfl rfl ?_)
  refine GO.call1 rfl rfl (is_pcs g hg) (Tks.c Tk.h (Tks.c Tk.h (Tks.c Tk.h Tks.n))) ?_
  rintro _ _ ⟨rfl, rfl⟩
  (refine GO.not rfl rfl ?_; refine GO.nil ?_; refine kthen_n ?_; refine G.condF rfl rfl ?_; refine G.skip ?_; refine kthen_n ?_; refine G.seq ?_; refine G.region ?_; refine GO.move rfl rfl ?_; refine GO.nilCheck rfl rfl ?_; refine GO.fieldAddr rfl rfl ?_; refine GO.load1 rfl rfl rfl Tk.h rfl ?_; refine GO.assign rfl rfl ?_; refine GO.nil ?_; refine kthen_n ?_; refine G.ret ?_)
  refine KF2.r1 rfl (RV.t rfl) ⟨rfl, rfl⟩ (ImpS.mat g hg ImpS.refl)
theorem side_nil : Fn Tryd.prog 9 #[.pointer none] [] (fun r Q => r = i64 0 ∧ Q = []) := by
  refine Fn.mk Tryd.func9 rfl rfl fun w0 F => ?_
  (refine G.seq ?_; refine G.region ?_; refine GO.assign rfl rfl ?_; refine GO.nil ?_; refine kthen_n ?_; refine G.seq ?_; refine G.seq ?_; refine G.region ?_; refine GO.move rfl rfl ?_)
  refine GO.call1 rfl rfl (is_nil) Tks.n ?_
  rintro _ _ ⟨rfl, rfl⟩
  (refine GO.not rfl rfl ?_; refine GO.nil ?_; refine kthen_n ?_; refine G.condT rfl rfl ?_; refine G.seq ?_; refine G.region ?_; refine GO.assign rfl rfl ?_; refine GO.nil ?_; refine kthen_n ?_; refine G.ret ?_; refine kthen_r ?_)
  refine KF.r1 rfl (RV.t rfl) ⟨rfl, rfl⟩ ?_
  exact Sb.r
theorem len_mat (side b : Nat) (X : Nat → Nat → Bool) : Fn Tryd.prog 10 #[.pointer (some ⟨b, 0, none⟩)] [mat side X b] (fun r Q => r = i64 (cntX X) ∧ Q = [mat side X b]) := by
  refine Fn.mk2 Tryd.func10 rfl rfl fun w0 F => ?_
  refine G.matOpen Tk.h fun g hg => ?_
  have hc : g.cnt = cntX X := MatOK.cnc hg
  rw [← hc]
  (refine G.seq ?_; refine G.region ?_; refine GO.assign rfl rfl ?_; refine GO.nil ?_; refine kthen_n ?_; refine G.seq ?_; refine G.seq ?_; refine G.region ?_; refine GO.move rfl rfl ?_)
  refine GO.call1 rfl rfl (is_pcs g hg) (Tks.c Tk.h (Tks.c Tk.h (Tks.c Tk.h Tks.n))) ?_
  rintro _ _ ⟨rfl, rfl⟩
  (refine GO.not rfl rfl ?_; refine GO.nil ?_; refine kthen_n ?_; refine G.condF rfl rfl ?_; refine G.skip ?_; refine kthen_n ?_; refine G.seq ?_; refine G.region ?_; refine GO.move rfl rfl ?_; refine GO.nilCheck rfl rfl ?_; refine GO.fieldAddr rfl rfl ?_; refine GO.load1 rfl rfl rfl Tk.h rfl ?_; refine GO.assign rfl rfl ?_; refine GO.nil ?_; refine kthen_n ?_; refine G.ret ?_)
  refine KF2.r1 rfl (RV.t rfl) ⟨rfl, rfl⟩ (ImpS.mat g hg ImpS.refl)
theorem len_nil : Fn Tryd.prog 10 #[.pointer none] [] (fun r Q => r = i64 0 ∧ Q = []) := by
  refine Fn.mk Tryd.func10 rfl rfl fun w0 F => ?_
  (refine G.seq ?_; refine G.region ?_; refine GO.assign rfl rfl ?_; refine GO.nil ?_; refine kthen_n ?_; refine G.seq ?_; refine G.seq ?_; refine G.region ?_; refine GO.move rfl rfl ?_)
  refine GO.call1 rfl rfl (is_nil) Tks.n ?_
  rintro _ _ ⟨rfl, rfl⟩
  (refine GO.not rfl rfl ?_; refine GO.nil ?_; refine kthen_n ?_; refine G.condT rfl rfl ?_; refine G.seq ?_; refine G.region ?_; refine GO.assign rfl rfl ?_; refine GO.nil ?_; refine kthen_n ?_; refine G.ret ?_; refine kthen_r ?_)
  refine KF.r1 rfl (RV.t rfl) ⟨rfl, rfl⟩ ?_
  exact Sb.r
def inM (side : Nat) (i j : Int) : Bool := decide (0 ≤ i ∧ i < side) && decide (0 ≤ j ∧ j < side)
def getM (X : Nat → Nat → Bool) (side : Nat) (i j : Int) : Value := if inM side i j then .tuple #[.bool (X i.toNat j.toNat), i64 0] else .tuple #[.bool false, i64 2]
theorem blk_part (i : Nat) : 64 * (i / 64) + i % 64 = i := by omega
set_option maxHeartbeats 2000000 in
theorem get_mat (side b : Nat) (X : Nat → Nat → Bool) (i j : Int) : Fn Tryd.prog 18 #[.pointer (some ⟨b, 0, none⟩), i64 i, i64 j] [mat side X b] (fun r Q => r = getM X side i j ∧ Q = [mat side X b]) := by
  refine Fn.mk2 Tryd.func18 rfl rfl fun w0 F => ?_
  refine G.matOpen Tk.h fun g hg => ?_
  (refine G.seq ?_; refine G.region ?_; refine GO.assign rfl rfl ?_; refine GO.assign rfl rfl ?_; refine GO.nil ?_; refine kthen_n ?_; refine G.seq ?_; refine G.block ?_; refine G.seq ?_; refine G.region ?_; refine GO.move rfl rfl ?_)
  refine GO.call1 rfl rfl (is_pcs g hg) (Tks.c Tk.h (Tks.c Tk.h (Tks.c Tk.h Tks.n))) ?_
  rintro _ _ ⟨rfl, rfl⟩
  (refine GO.not rfl rfl ?_; refine GO.assign rfl rfl ?_; refine GO.nil ?_; refine kthen_n ?_; refine G.condF rfl rfl ?_; refine G.seq ?_; refine G.region ?_; refine GO.move rfl rfl ?_; refine GO.move rfl rfl ?_)
  refine GO.call2 rfl rfl rfl (in_pcs g i) (Tks.c Tk.h (Tks.c Tk.h (Tks.c Tk.h Tks.n))) ?_
  rintro _ _ ⟨rfl, rfl⟩
  cases h1 : decide (0 ≤ i ∧ i < side) with
  | false =>
    (refine GO.not rfl rfl ?_; refine GO.move rfl rfl ?_; refine GO.gF rfl rfl rfl rfl ?_; refine GO.gF rfl rfl rfl rfl ?_; refine GO.gF rfl rfl rfl rfl ?_; refine GO.gF rfl rfl rfl rfl ?_; refine GO.pickT rfl rfl rfl ?_; refine GO.assign rfl rfl ?_; refine GO.nil ?_; refine kthen_n ?_; refine G.condT rfl rfl ?_; refine G.seq ?_; refine G.region ?_; refine GO.assign rfl rfl ?_; refine GO.assign rfl rfl ?_; refine GO.nil ?_; refine kthen_n ?_; refine G.ret ?_; refine kblock_r ?_; refine kthen_r ?_)
    refine KF2.r2 rfl (RV.t rfl) (RV.t rfl) ⟨?_, rfl⟩ (ImpS.mat g hg ImpS.refl)
    unfold getM inM; rw [h1]; rfl
  | true =>
    (refine GO.not rfl rfl ?_; refine GO.move rfl rfl ?_; refine GO.gT rfl rfl rfl ?_; refine GO.move rfl rfl ?_; refine GO.gT rfl rfl rfl ?_; refine GO.move rfl rfl ?_; refine GO.gT rfl rfl rfl ?_)
    refine GO.call2 rfl rfl rfl (in_pcs g j) (Tks.c Tk.h (Tks.c Tk.h (Tks.c Tk.h Tks.n))) ?_
    rintro _ _ ⟨rfl, rfl⟩
    cases h2 : decide (0 ≤ j ∧ j < side) with
    | false =>
      (refine GO.gT rfl rfl rfl ?_; refine GO.not rfl rfl ?_; refine GO.pickF rfl rfl rfl ?_; refine GO.assign rfl rfl ?_; refine GO.nil ?_; refine kthen_n ?_; refine G.condT rfl rfl ?_; refine G.seq ?_; refine G.region ?_; refine GO.assign rfl rfl ?_; refine GO.assign rfl rfl ?_; refine GO.nil ?_; refine kthen_n ?_; refine G.ret ?_; refine kblock_r ?_; refine kthen_r ?_)
      refine KF2.r2 rfl (RV.t rfl) (RV.t rfl) ⟨?_, rfl⟩ (ImpS.mat g hg ImpS.refl)
      unfold getM inM; rw [h1, h2]; rfl
    | true =>
      have h3 := of_decide_eq_true h1
      have h4 := of_decide_eq_true h2
      obtain ⟨i, rfl⟩ := Int.eq_ofNat_of_zero_le h3.1
      obtain ⟨j, rfl⟩ := Int.eq_ofNat_of_zero_le h4.1
      have hgm : getM X side (i : Int) (j : Int) = .tuple #[.bool (X i j), i64 0] := by unfold getM inM; rw [h1, h2]; rfl
      rw [hgm]
      have hg0 := hg
      obtain ⟨D, np, nl, P, B, cn, vp, vl⟩ := g
      have hok : MatOK side X D np nl P B cn := hg0
      obtain ⟨ow, low, T⟩ := hok.tree
      obtain ⟨hD1, hD2, hD3⟩ := hok.dp
      have hsd := hok.sd
      have hi := hok.inb (i := i) (by omega)
      have hj := hok.inb (i := j) (by omega)
      (refine GO.gT rfl rfl rfl ?_; refine GO.not rfl rfl ?_; refine GO.pickF rfl rfl rfl ?_; refine GO.assign rfl rfl ?_; refine GO.nil ?_; refine kthen_n ?_; refine G.condF rfl rfl ?_; refine G.skip ?_; refine kblock_n ?_; refine kthen_n ?_; refine G.seq ?_; refine G.region ?_; refine GO.move rfl rfl ?_; refine GO.move rfl rfl ?_; refine GO.quoi rfl rfl rfl (by omega) ?_; refine GO.move rfl rfl ?_; refine GO.quoi rfl rfl rfl (by omega) ?_)
      refine GO.ownForm T.some (Tk.t Tk.h) fun bp cap e1 _ _ _ => ?_
      subst e1
      refine GO.call3 rfl rfl rfl rfl (leaf_spec T side cn b bp cap vl (i / 64) (j / 64) (by omega) (by omega) (by omega)) (Tks.c Tk.h (Tks.c Tk.h Tks.n)) ?_
      rintro _ _ ⟨rfl, rfl⟩
      (refine GO.assign rfl rfl ?_; refine GO.nil ?_; refine kthen_n ?_; refine G.seq ?_; refine G.seq ?_; refine G.region ?_; refine GO.move rfl rfl ?_; refine GO.eqi rfl rfl rfl ?_; refine GO.nil ?_; refine kthen_n ?_)
      refine G.condD rfl (fun h5 => ?_) (fun h5 => ?_)
      · have h6 := hok.non (i / 64) (j / 64) hi hj (by omega) (i % 64) (j % 64) (Nat.mod_lt _ (by decide)) (Nat.mod_lt _ (by decide))
        rw [blk_part, blk_part] at h6
        rw [h6]
        (refine G.seq ?_; refine G.region ?_; refine GO.assign rfl rfl ?_; refine GO.assign rfl rfl ?_; refine GO.nil ?_; refine kthen_n ?_; refine G.ret ?_; refine kthen_r ?_)
        refine KF2.r2 rfl (RV.t rfl) (RV.t rfl) ⟨rfl, rfl⟩ (ImpS.mat _ hg ?_)
        exact ImpS.sb Sb.r
      · obtain ⟨q, hq⟩ : ∃ q, fnd P (i / 64) (j / 64) (D - 1) 0 = q + 1 := ⟨fnd P (i / 64) (j / 64) (D - 1) 0 - 1, by omega⟩
        rw [hq]
        obtain ⟨hl1, _⟩ := hok.lea (i / 64) (j / 64) q hi hj hq
        have hql : q < nl := by
          have h0 : ∀ x, x < 2 ^ D → x / 2 ^ (D - 1 + 1) = 0 := fun x hx => by rw [show D - 1 + 1 = D by omega]; exact Nat.div_eq_of_lt hx
          have t1 := T.fnd_low (i := i / 64) (j := j / 64) (l := D - 1) (n := 0) (by have := T.some; omega) (by rw [T.root, h0 _ hi, h0 _ hj]) (by omega)
          rw [hq] at t1; exact t1.1
        have hbd := hok.pow
        refine G.ownForm (el := 77) (n' := nl) (by omega) (Tk.t (Tk.t Tk.h)) fun bl capl e1 _ _ _ => ?_
        subst e1
        (refine G.skip ?_; refine kthen_n ?_; refine G.seq ?_; refine G.region ?_; refine GO.move rfl rfl ?_; refine GO.nilCheck rfl rfl ?_; refine GO.fieldAddr rfl rfl ?_; refine GO.load1 rfl rfl rfl Tk.h rfl ?_; refine GO.move rfl rfl ?_; refine GO.subi rfl rfl rfl (by omega) ?_)
        refine GO.chg (i64 (q : Nat)) (by congr 1; omega) ?_
        (refine GO.idxS rfl rfl rfl ⟨rfl, by omega⟩ ?_; refine GO.loadLeaf rfl rfl rfl rfl (by assumption) (Tk.t (Tk.t Tk.h)) ?_; refine GO.move rfl rfl ?_; refine GO.remi rfl rfl rfl (by omega) ?_; refine GO.move rfl rfl ?_; refine GO.remi rfl rfl rfl (by omega) ?_)
        refine GO.call3 rfl rfl rfl rfl (get_spec (B q) ((i % 64 : Nat) : Int) ((j % 64 : Nat) : Int)) Tks.n ?_
        rintro _ _ ⟨rfl, rfl⟩
        rw [getV_t (B q) (Nat.mod_lt i (by decide)) (Nat.mod_lt j (by decide)), hl1 _ (Nat.mod_lt i (by decide)), blkAt_bit _ _ _ _ _ (Nat.mod_lt j (by decide)), blk_part, blk_part]
        (refine GO.extract rfl rfl rfl ?_; refine GO.extract rfl rfl rfl ?_; refine GO.assign rfl rfl ?_; refine GO.assign rfl rfl ?_; refine GO.nil ?_; refine kthen_n ?_; refine G.ret ?_)
        refine KF2.r2 rfl (RV.t rfl) (RV.t rfl) ⟨rfl, rfl⟩ (ImpS.mat _ hg ?_)
        exact ImpS.sb Sb.r
end Go.Proofs.YtfoahdfflchidaaDoor
namespace Go.Proofs.YtfoahdfflchidaaDoor
open Go
attribute [local irreducible] G GO GR GT Fn FnV pt init exs pur sat own ImpS mat
def hasM (side : Nat) (i j : Int) : Bool := decide (0 ≤ i) && decide (0 ≤ j) && decide (i ≤ ((side : Int) - 1) / 64) && decide (j ≤ ((side : Int) - 1) / 64)
theorem has_pcs {side b : Nat} {X : Nat → Nat → Bool} (g : MG) (hg : g.ok side X) (i j : Int) : Fn Tryd.prog 77 #[.pointer (some ⟨b, 0, none⟩), i64 i, i64 j] (g.pcs side b) (fun r Q => r = .bool (hasM side i j) ∧ Q = g.pcs side b) := by
  obtain ⟨D, np, nl, P, B, cn, vp, vl⟩ := g
  have hok : MatOK side X D np nl P B cn := hg
  have hsd := hok.sd
  refine Fn.mk Tryd.func77 rfl rfl fun w0 F => ?_
  refine G.mem (H' := matP b side D cn vp vl :: parP np vp P :: leaP nl vl B :: F) Sb.r ?_
  (refine G.seq ?_; refine G.region ?_; refine GO.assign rfl rfl ?_; refine GO.nil ?_; refine kthen_n ?_; refine G.seq ?_; refine G.region ?_; refine GO.move rfl rfl ?_; refine GO.nilCheck rfl rfl ?_; refine GO.fieldAddr rfl rfl ?_; refine GO.load1 rfl rfl rfl Tk.h rfl ?_; refine GO.subi rfl rfl rfl (by omega) ?_; refine GO.quoi rfl rfl rfl (by omega) ?_; refine GO.assign rfl rfl ?_; refine GO.nil ?_; refine kthen_n ?_; refine G.seq ?_; refine G.region ?_; refine GO.move rfl rfl ?_; refine GO.gei rfl rfl rfl ?_; refine GO.move rfl rfl ?_)
  cases h1 : decide (0 ≤ i) with
  | false =>
    (refine GO.gF rfl rfl rfl rfl ?_; refine GO.gF rfl rfl rfl rfl ?_; refine GO.pickF rfl rfl rfl ?_; refine GO.move rfl rfl ?_; refine GO.gF rfl rfl rfl rfl ?_; refine GO.gF rfl rfl rfl rfl ?_; refine GO.gF rfl rfl rfl rfl ?_; refine GO.pickF rfl rfl rfl ?_; refine GO.move rfl rfl ?_; refine GO.gF rfl rfl rfl rfl ?_; refine GO.gF rfl rfl rfl rfl ?_; refine GO.gF rfl rfl rfl rfl ?_; refine GO.pickF rfl rfl rfl ?_; refine GO.assign rfl rfl ?_; refine GO.nil ?_; refine kthen_n ?_; refine G.ret ?_)
    refine KF.r1 rfl (RV.t rfl) ⟨by unfold hasM; rw [h1]; rfl, rfl⟩ Sb.r
  | true =>
    (refine GO.gT rfl rfl rfl ?_; refine GO.move rfl rfl ?_; refine GO.gT rfl rfl rfl ?_; refine GO.gei rfl rfl rfl ?_; refine GO.pickT rfl rfl rfl ?_; refine GO.move rfl rfl ?_)
    cases h2 : decide (0 ≤ j) with
    | false =>
      (refine GO.gF rfl rfl rfl rfl ?_; refine GO.gF rfl rfl rfl rfl ?_; refine GO.gF rfl rfl rfl rfl ?_; refine GO.pickF rfl rfl rfl ?_; refine GO.move rfl rfl ?_; refine GO.gF rfl rfl rfl rfl ?_; refine GO.gF rfl rfl rfl rfl ?_; refine GO.gF rfl rfl rfl rfl ?_; refine GO.pickF rfl rfl rfl ?_; refine GO.assign rfl rfl ?_; refine GO.nil ?_; refine kthen_n ?_; refine G.ret ?_)
      refine KF.r1 rfl (RV.t rfl) ⟨by unfold hasM; rw [h1, h2]; rfl, rfl⟩ Sb.r
    | true =>
      (refine GO.gT rfl rfl rfl ?_; refine GO.move rfl rfl ?_; refine GO.gT rfl rfl rfl ?_; refine GO.move rfl rfl ?_; refine GO.gT rfl rfl rfl ?_; refine GO.lei rfl rfl rfl ?_; refine GO.pickT rfl rfl rfl ?_; refine GO.move rfl rfl ?_)
      cases h3 : decide (i ≤ ((side : Int) - 1) / 64) with
      | false =>
        (refine GO.gF rfl rfl rfl rfl ?_; refine GO.gF rfl rfl rfl rfl ?_; refine GO.gF rfl rfl rfl rfl ?_; refine GO.pickF rfl rfl rfl ?_; refine GO.assign rfl rfl ?_; refine GO.nil ?_; refine kthen_n ?_; refine G.ret ?_)
        refine KF.r1 rfl (RV.t rfl) ⟨by unfold hasM; rw [h1, h2, h3]; rfl, rfl⟩ Sb.r
      | true =>
        (refine GO.gT rfl rfl rfl ?_; refine GO.move rfl rfl ?_; refine GO.gT rfl rfl rfl ?_; refine GO.move rfl rfl ?_; refine GO.gT rfl rfl rfl ?_; refine GO.lei rfl rfl rfl ?_; refine GO.pickT rfl rfl rfl ?_; refine GO.assign rfl rfl ?_; refine GO.nil ?_; refine kthen_n ?_; refine G.ret ?_)
        refine KF.r1 rfl (RV.t rfl) ⟨by unfold hasM; rw [h1, h2, h3]; rfl, rfl⟩ Sb.r
theorem hasM_at {side : Nat} {i j : Int} (h : hasM side i j = true) : ∃ m n : Nat, i = m ∧ j = n ∧ 64 * m < side ∧ 64 * n < side := by
  unfold hasM at h
  simp only [Bool.and_eq_true, decide_eq_true_eq] at h
  obtain ⟨⟨⟨h1, h2⟩, h3⟩, h4⟩ := h
  obtain ⟨m, rfl⟩ := Int.eq_ofNat_of_zero_le h1
  obtain ⟨n, rfl⟩ := Int.eq_ofNat_of_zero_le h2
  exact ⟨m, n, rfl, rfl, by omega, by omega⟩
theorem MatOK.lt {side D np nl cn : Nat} {X : Nat → Nat → Bool} {P : Nat → Nat → Nat} {B : Nat → Blk} (hok : MatOK side X D np nl P B cn) {i j q : Nat} (hi : i < 2 ^ D) (hj : j < 2 ^ D) (hq : fnd P i j (D - 1) 0 = q + 1) : q < nl := by
  obtain ⟨ow, low, T⟩ := hok.tree
  have hD1 := hok.dp.1
  have h0 : ∀ x, x < 2 ^ D → x / 2 ^ (D - 1 + 1) = 0 := fun x hx => by rw [show D - 1 + 1 = D by omega]; exact Nat.div_eq_of_lt hx
  have t1 := T.fnd_low (i := i) (j := j) (l := D - 1) (n := 0) (by have := T.some; omega) (by rw [T.root, h0 _ hi, h0 _ hj]) (by omega)
  rw [hq] at t1; exact t1.1
def blockM (X : Nat → Nat → Bool) (side : Nat) (i j : Int) : Value := if hasM side i j then .tuple #[blk (blkAt X i.toNat j.toNat), i64 0] else .tuple #[blk zeroB, i64 2]
theorem blockM_t {X : Nat → Nat → Bool} {side : Nat} {i j : Nat} (h : hasM side i j = true) : blockM X side i j = .tuple #[blk (blkAt X i j), i64 0] := by unfold blockM; rw [if_pos h]; rfl
theorem blockM_f {X : Nat → Nat → Bool} {side : Nat} {i j : Int} (h : hasM side i j = false) : blockM X side i j = .tuple #[blk zeroB, i64 2] := by unfold blockM; rw [h]; rfl
set_option maxHeartbeats 2000000 in
theorem block_mat (side b : Nat) (X : Nat → Nat → Bool) (i j : Int) : Fn Tryd.prog 48 #[.pointer (some ⟨b, 0, none⟩), i64 i, i64 j] [mat side X b] (fun r Q => r = blockM X side i j ∧ Q = [mat side X b]) := by
  refine Fn.mk2 Tryd.func48 rfl rfl fun w0 F => ?_
  refine G.matOpen Tk.h fun g hg => ?_
  (refine G.seq ?_; refine G.region ?_; refine GO.alloc rfl fun b6 => ?_; refine GO.assign rfl rfl ?_; refine GO.nil ?_; refine kthen_n ?_; refine G.seq ?_; refine G.block ?_; refine G.seq ?_; refine G.region ?_; refine GO.move rfl rfl ?_)
  refine GO.call1 rfl rfl (is_pcs g hg) (Tks.c (Tk.t Tk.h) (Tks.c (Tk.t Tk.h) (Tks.c (Tk.t Tk.h) Tks.n))) ?_
  rintro _ _ ⟨rfl, rfl⟩
  (refine GO.not rfl rfl ?_; refine GO.assign rfl rfl ?_; refine GO.nil ?_; refine kthen_n ?_; refine G.condF rfl rfl ?_; refine G.seq ?_; refine G.region ?_; refine GO.move rfl rfl ?_; refine GO.move rfl rfl ?_; refine GO.move rfl rfl ?_)
  refine GO.call3 rfl rfl rfl rfl (has_pcs g hg i j) (Tks.c Tk.h (Tks.c Tk.h (Tks.c Tk.h Tks.n))) ?_
  rintro _ _ ⟨rfl, rfl⟩
  cases h1 : hasM side i j with
  | false =>
    rw [blockM_f h1, cells_zero]
    (refine GO.not rfl rfl ?_; refine GO.assign rfl rfl ?_; refine GO.nil ?_; refine kthen_n ?_; refine G.condT rfl rfl ?_; refine G.seq ?_; refine G.region ?_; refine GO.build0 rfl ?_)
    rw [cells_zero]
    (refine GO.storeW rfl rfl (Tk.t (Tk.t (Tk.t Tk.h))) ⟨cells_len _, cells_len _⟩ (cells_one _) ?_; refine GO.assign rfl rfl ?_; refine GO.nil ?_; refine kthen_n ?_; refine G.ret ?_; refine kblock_r ?_; refine kthen_r ?_)
    refine KF2.r2 rfl (RV.cW rfl rfl Tk.h (cells_len _)) (RV.t rfl) ⟨rfl, rfl⟩ ?_
    refine ImpS.mat g hg (ImpS.sb ?_)
    ((refine Sb.c (Tk.t Tk.h) ?_; refine Sb.c (Tk.t Tk.h) ?_; refine Sb.c (Tk.t Tk.h) ?_); (refine Sb.s ?_; exact Sb.r))
  | true =>
    obtain ⟨i, j, rfl, rfl, hi2, hj2⟩ := hasM_at h1
    rw [blockM_t h1]
    have hg0 := hg
    obtain ⟨D, np, nl, P, B, cn, vp, vl⟩ := g
    have hok : MatOK side X D np nl P B cn := hg0
    obtain ⟨ow, low, T⟩ := hok.tree
    obtain ⟨hD1, hD2, hD3⟩ := hok.dp
    have hsd := hok.sd
    have hi : i < 2 ^ D := by omega
    have hj : j < 2 ^ D := by omega
    have hbd := hok.pow
    refine GO.mem (H' := matP b side D cn vp vl :: parP np vp P :: leaP nl vl B :: pt _ _ :: F) Sb.r ?_
    refine GO.ownForm T.some (Tk.t Tk.h) fun bp cap e1 _ _ _ => ?_
    subst e1
    (refine GO.not rfl rfl ?_; refine GO.assign rfl rfl ?_; refine GO.nil ?_; refine kthen_n ?_; refine G.condF rfl rfl ?_; refine G.skip ?_; refine kblock_n ?_; refine kthen_n ?_; refine G.seq ?_; refine G.region ?_; refine GO.move rfl rfl ?_; refine GO.move rfl rfl ?_; refine GO.move rfl rfl ?_)
    refine GO.call3 rfl rfl rfl rfl (leaf_spec T side cn b bp cap vl i j (by omega) (by omega) (by omega)) (Tks.c Tk.h (Tks.c Tk.h Tks.n)) ?_
    rintro _ _ ⟨rfl, rfl⟩
    (refine GO.assign rfl rfl ?_; refine GO.nil ?_; refine kthen_n ?_; refine G.seq ?_; refine G.seq ?_; refine G.region ?_; refine GO.move rfl rfl ?_; refine GO.eqi rfl rfl rfl ?_; refine GO.nil ?_; refine kthen_n ?_)
    refine G.condD rfl (fun h5 => ?_) (fun h5 => ?_)
    · have hz : blk (blkAt X i j) = blk zeroB := blk_congr fun r hr => eq_of_bits fun c hc => by rw [blkAt_bit _ _ _ _ _ hc, hok.non i j hi hj (by omega) r c hr hc]; simp [zeroB]
      (refine G.seq ?_; refine G.region ?_; refine GO.build0 rfl ?_; refine GO.storeW rfl rfl (Tk.t (Tk.t (Tk.t Tk.h))) ⟨rfl, rfl⟩ (by simp [Value.oneCell']) ?_; refine GO.assign rfl rfl ?_; refine GO.nil ?_; refine kthen_n ?_; refine G.ret ?_; refine kthen_r ?_)
      rw [cells_zero]
      skip
      refine KF2.r2 rfl (RV.cW rfl rfl Tk.h (cells_len _)) (RV.t rfl) ⟨by rw [hz], rfl⟩ ?_
      refine ImpS.mat _ hg (ImpS.sb ?_)
      ((refine Sb.c (Tk.t Tk.h) ?_; refine Sb.c (Tk.t Tk.h) ?_; refine Sb.c (Tk.t Tk.h) ?_); (refine Sb.s ?_; exact Sb.r))
    · obtain ⟨q, hq⟩ : ∃ q, fnd P i j (D - 1) 0 = q + 1 := ⟨fnd P i j (D - 1) 0 - 1, by omega⟩
      rw [hq]
      obtain ⟨hl1, _⟩ := hok.lea i j q hi hj hq
      have hql := hok.lt hi hj hq
      have hz : blk (blkAt X i j) = blk (B q) := blk_congr fun r hr => (hl1 r hr).symm
      refine G.ownForm (el := 77) (n' := nl) (by omega) (Tk.t (Tk.t Tk.h)) fun bl capl e1 _ _ _ => ?_
      subst e1
      (refine G.skip ?_; refine kthen_n ?_; refine G.seq ?_; refine G.region ?_; refine GO.move rfl rfl ?_; refine GO.nilCheck rfl rfl ?_; refine GO.fieldAddr rfl rfl ?_; refine GO.load1 rfl rfl rfl Tk.h rfl ?_; refine GO.move rfl rfl ?_; refine GO.subi rfl rfl rfl (by omega) ?_)
      refine GO.chg (i64 (q : Nat)) (by congr 1; omega) ?_
      rw [cells_zero]
      (refine GO.idxS rfl rfl rfl ⟨rfl, by omega⟩ ?_; refine GO.loadLeaf rfl rfl rfl rfl (by assumption) (Tk.t (Tk.t Tk.h)) ?_; refine GO.storeW rfl rfl (Tk.t (Tk.t (Tk.t Tk.h))) ⟨cells_len _, cells_len _⟩ (cells_one _) ?_; refine GO.assign rfl rfl ?_; refine GO.nil ?_; refine kthen_n ?_; refine G.ret ?_)
      refine KF2.r2 rfl (RV.cW rfl rfl Tk.h (cells_len _)) (RV.t rfl) ⟨by rw [hz], rfl⟩ ?_
      refine ImpS.mat _ hg (ImpS.sb ?_)
      ((refine Sb.c (Tk.t Tk.h) ?_; refine Sb.c (Tk.t Tk.h) ?_; refine Sb.c (Tk.t Tk.h) ?_); (refine Sb.s ?_; exact Sb.r))
/-- Do a block's cells fit? -/
def FitB (side i j : Nat) (bb : Blk) : Prop := ∀ r c, r < 64 → c < 64 → (bb r).getLsbD c = true → 64 * i + r < side ∧ 64 * j + c < side
def putR (X : Nat → Nat → Bool) (side b : Nat) (i j : Int) (bb : Blk) (r : Value) (Q : List HP) : Prop :=
  (∃ m n : Nat, i = m ∧ j = n ∧ 64 * m < side ∧ 64 * n < side ∧ FitB side m n bb ∧ r = .tuple #[.bool (decide (0 < lenB (lessB bb (blkAt X m n)) 64)), i64 0] ∧ Q = [mat side (orX X m n bb) b]) ∨
  ((∀ m n : Nat, i = m → j = n → 64 * m < side → 64 * n < side → ¬ FitB side m n bb) ∧ r = .tuple #[.bool false, i64 2] ∧ Q = [mat side X b])
theorem corn_same {bb : Blk} {side i j R C : Nat} (hR : R = min 64 (side - 64 * i)) (hC : C = min 64 (side - 64 * j)) (hi : 64 * i < side) (hj : 64 * j < side) : eqBlk (blkOf (cornP bb R C)) bb = true ↔ FitB side i j bb := by
  constructor
  · intro h r c hr hc hb
    have h1 := eqBlk_e h r hr
    have h2 : (blkOf (cornP bb R C) r).getLsbD c = true := by rw [h1]; exact hb
    rw [blkOf_bit _ _ _ hc] at h2
    unfold cornP at h2
    simp only [Bool.and_eq_true, decide_eq_true_eq] at h2
    omega
  · intro h
    refine eqBlk_t fun r hr => eq_of_bits fun c hc => ?_
    rw [blkOf_bit _ _ _ hc]
    unfold cornP
    cases hb : (bb r).getLsbD c with
    | false => simp
    | true =>
      have := h r c hr hc hb
      simp; omega
set_option maxHeartbeats 2000000 in
theorem put_mat (side b : Nat) (X : Nat → Nat → Bool) (i j : Int) (bb : Blk) : Fn Tryd.prog 57 #[.pointer (some ⟨b, 0, none⟩), i64 i, i64 j, blk bb] [mat side X b] (putR X side b i j bb) := by
  refine Fn.mk2 Tryd.func57 rfl rfl fun w0 F => ?_
  refine G.matOpen Tk.h fun g hg => ?_
  (refine G.seq ?_; refine G.region ?_; refine GO.box rfl rfl rfl fun b7 => ?_; refine GO.assign rfl rfl ?_; refine GO.assign rfl rfl ?_; refine GO.nil ?_; refine kthen_n ?_; refine G.seq ?_; refine G.block ?_; refine G.seq ?_; refine G.region ?_; refine GO.move rfl rfl ?_)
  refine GO.call1 rfl rfl (is_pcs g hg) (Tks.c (Tk.t Tk.h) (Tks.c (Tk.t Tk.h) (Tks.c (Tk.t Tk.h) Tks.n))) ?_
  rintro _ _ ⟨rfl, rfl⟩
  (refine GO.not rfl rfl ?_; refine GO.assign rfl rfl ?_; refine GO.nil ?_; refine kthen_n ?_; refine G.condF rfl rfl ?_; refine G.seq ?_; refine G.region ?_; refine GO.move rfl rfl ?_; refine GO.move rfl rfl ?_; refine GO.move rfl rfl ?_)
  refine GO.call3 rfl rfl rfl rfl (has_pcs g hg i j) (Tks.c Tk.h (Tks.c Tk.h (Tks.c Tk.h Tks.n))) ?_
  rintro _ _ ⟨rfl, rfl⟩
  cases h1 : hasM side i j with
  | false =>
    (refine GO.not rfl rfl ?_; refine GO.assign rfl rfl ?_; refine GO.nil ?_; refine kthen_n ?_; refine G.condT rfl rfl ?_; refine G.seq ?_; refine G.region ?_; refine GO.assign rfl rfl ?_; refine GO.assign rfl rfl ?_; refine GO.nil ?_; refine kthen_n ?_; refine G.ret ?_; refine kblock_r ?_; refine kthen_r ?_)
    refine KF2.r2 rfl (RV.t rfl) (RV.t rfl) (.inr ⟨fun m n hm hn h2 h3 => ?_, rfl, rfl⟩) ?_
    · subst hm hn
      exfalso
      unfold hasM at h1
      simp at h1
      omega
    · refine ImpS.mat g hg (ImpS.sb ?_)
      ((refine Sb.c Tk.h ?_; refine Sb.c Tk.h ?_; refine Sb.c Tk.h ?_); (refine Sb.s ?_; exact Sb.r))
  | true =>
    obtain ⟨i, j, rfl, rfl, hi2, hj2⟩ := hasM_at h1
    have hsd := (show MatOK side X g.D g.np g.nl g.P g.B g.cnt from hg).sd
    obtain ⟨D, np, nl, P, B, cn, vp, vl⟩ := g
    (refine GO.not rfl rfl ?_; refine GO.assign rfl rfl ?_; refine GO.nil ?_; refine kthen_n ?_; refine G.condF rfl rfl ?_; refine G.skip ?_; refine kblock_n ?_; refine kthen_n ?_; refine G.seq ?_)
    refine G.drawT 24 6291456 [matP b side D cn vp vl, parP np vp P, leaP nl vl B, pt b7 (row (cells bb) 77)] F (by kernel_rfl) (keys_of rfl) (ImpS.sb (by ((refine Sb.c Tk.h ?_; refine Sb.c Tk.h ?_; refine Sb.c Tk.h ?_; refine Sb.c Tk.h ?_); (exact Sb.r)))) ?_
    ((apply GR.step rfl; focus (intro Z; refine GO.loadW rfl rfl rfl (Tk.t (Tk.t (Tk.t Tk.h))) (cells_len _) ?_; exact KQ.z)); (apply GR.step rfl; focus (intro Z; refine GO.move rfl rfl ?_; exact KQ.z)); (apply GR.step rfl; focus (intro Z; refine GO.nilCheck rfl rfl ?_; exact KQ.z)); (apply GR.step rfl; focus (intro Z; refine GO.fieldAddr rfl rfl ?_; exact KQ.z)); (apply GR.step rfl; focus (intro Z; refine GO.load1 rfl rfl rfl Tk.h rfl ?_; exact KQ.z)); (apply GR.step rfl; focus (intro Z; refine GO.move rfl rfl ?_; exact KQ.z)); (apply GR.step rfl; focus (intro Z; refine GO.muli rfl rfl rfl (by omega) ?_; exact KQ.z)); (apply GR.step rfl; focus (intro Z; refine GO.subi rfl rfl rfl (by omega) ?_; exact KQ.z)))
    apply GR.step rfl; focus (intro Z; refine GO.min2 rfl rfl rfl ?_; exact KQ.zv (v := i64 ((min 64 (side - 64 * i) : Nat) : Int)) (by congr 1; omega))
    ((apply GR.step rfl; focus (intro Z; refine GO.move rfl rfl ?_; exact KQ.z)); (apply GR.step rfl; focus (intro Z; refine GO.nilCheck rfl rfl ?_; exact KQ.z)); (apply GR.step rfl; focus (intro Z; refine GO.fieldAddr rfl rfl ?_; exact KQ.z)); (apply GR.step rfl; focus (intro Z; refine GO.load1 rfl rfl rfl Tk.h rfl ?_; exact KQ.z)); (apply GR.step rfl; focus (intro Z; refine GO.move rfl rfl ?_; exact KQ.z)); (apply GR.step rfl; focus (intro Z; refine GO.muli rfl rfl rfl (by omega) ?_; exact KQ.z)); (apply GR.step rfl; focus (intro Z; refine GO.subi rfl rfl rfl (by omega) ?_; exact KQ.z)))
    apply GR.step rfl; focus (intro Z; refine GO.min2 rfl rfl rfl ?_; exact KQ.zv (v := i64 ((min 64 (side - 64 * j) : Nat) : Int)) (by congr 1; omega))
    have hcv := cornerV_t bb (R := min 64 (side - 64 * i)) (C := min 64 (side - 64 * j)) (by omega) (by omega)
    apply GR.step rfl; focus (intro Z; refine GO.call3 rfl rfl rfl rfl (corner_spec bb ((min 64 (side - 64 * i) : Nat) : Int) ((min 64 (side - 64 * j) : Nat) : Int)) Tks.n ?_; rintro _ _ ⟨rfl, rfl⟩; rw [hcv]; exact KQ.z)
    ((apply GR.step rfl; focus (intro Z; refine GO.move rfl rfl ?_; exact KQ.z)); (apply GR.step rfl; focus (intro Z; refine GO.extract rfl rfl rfl ?_; exact KQ.z)); (apply GR.step rfl; focus (intro Z; refine GO.extract rfl rfl rfl ?_; exact KQ.z)); refine GR.skip rfl ?_; refine GR.skip rfl ?_; (apply GR.step rfl; focus (intro Z; refine GO.assign rfl rfl ?_; exact KQ.z)); refine GR.nil ?_)
    (repeat refine GT.skip rfl ?_)
    refine GT.step rfl ?_
    refine GO.alloc rfl fun b10 => ?_
    rw [cells_zero]
    refine GO.nil ⟨rfl, _, pt b10 (row (cells zeroB) 77) :: F, rfl, ImpS.sb (by ((refine Sb.c (Tk.t Tk.h) ?_; refine Sb.c (Tk.t Tk.h) ?_; refine Sb.c (Tk.t Tk.h) ?_; refine Sb.c (Tk.t Tk.h) ?_; refine Sb.c Tk.h ?_); (exact Sb.r))), ?_⟩
    refine GT.step rfl ?_
    refine GO.storeW rfl rfl (Tk.t (Tk.t (Tk.t (Tk.t Tk.h)))) ⟨cells_len _, cells_len _⟩ (cells_one _) ?_
    generalize hfit : blkOf (cornP bb (min 64 (side - 64 * i)) (min 64 (side - 64 * j))) = fit
    refine GO.nil ⟨rfl, undef, pt b10 (row (cells fit) 77) :: F, rfl, ImpS.sb (by ((refine Sb.c (Tk.t Tk.h) ?_; refine Sb.c (Tk.t Tk.h) ?_; refine Sb.c (Tk.t Tk.h) ?_; refine Sb.c (Tk.t Tk.h) ?_; refine Sb.c Tk.h ?_); (exact Sb.r))), ?_⟩
    (repeat refine GT.skip rfl ?_)
    refine GT.nil ?_
    (refine GO.nil ?_; refine kthen_n ?_; refine G.seq ?_; refine G.seq ?_; refine G.region ?_; refine GO.loadW rfl rfl rfl (Tk.t (Tk.t (Tk.t (Tk.t Tk.h)))) (cells_len _) ?_; refine GO.loadW rfl rfl rfl (Tk.t (Tk.t (Tk.t Tk.h))) (cells_len _) ?_)
    refine GO.neqA EqR.blk rfl rfl rfl ?_
    have hco := corn_same (bb := bb) (side := side) (i := i) (j := j) rfl rfl hi2 hj2
    rw [hfit] at hco
    cases he : eqBlk fit bb with
    | false =>
      (refine GO.nil ?_; refine kthen_n ?_; refine G.condT rfl rfl ?_; refine G.seq ?_; refine G.region ?_; refine GO.assign rfl rfl ?_; refine GO.assign rfl rfl ?_; refine GO.nil ?_; refine kthen_n ?_; refine G.ret ?_; refine kthen_r ?_)
      refine KF2.r2 rfl (RV.t rfl) (RV.t rfl) (.inr ⟨fun m n hm hn h2 h3 hf => ?_, rfl, rfl⟩) ?_
      · have e1 : i = m := by omega
        have e2 : j = n := by omega
        subst e1 e2
        rw [hco.2 hf] at he; cases he
      · refine ImpS.mat _ hg (ImpS.sb ?_)
        ((refine Sb.c Tk.h ?_; refine Sb.c Tk.h ?_; refine Sb.c Tk.h ?_); (refine Sb.s ?_; refine Sb.s ?_; exact Sb.r))
    | true =>
      have hf := hco.1 he
      (refine GO.nil ?_; refine kthen_n ?_; refine G.condF rfl rfl ?_; refine G.skip ?_; refine kthen_n ?_; refine G.seq ?_; refine G.region ?_; refine GO.move rfl rfl ?_; refine GO.move rfl rfl ?_; refine GO.move rfl rfl ?_; refine GO.loadW rfl rfl rfl (Tk.t (Tk.t (Tk.t Tk.h))) (cells_len _) ?_)
      refine GO.matShut ⟨D, np, nl, P, B, cn, vp, vl⟩ hg (Tks.c Tk.h (Tks.c Tk.h (Tks.c Tk.h Tks.n))) ?_
      refine GO.call4 rfl rfl rfl rfl rfl (or_mat side b i j X bb (by omega) (by omega) hf) (Tks.c Tk.h Tks.n) ?_
      rintro _ _ ⟨rfl, rfl⟩
      (refine GO.assign rfl rfl ?_; refine GO.assign rfl rfl ?_; refine GO.nil ?_; refine kthen_n ?_; refine G.ret ?_)
      refine KF2.r2 rfl (RV.t rfl) (RV.t rfl) (.inl ⟨i, j, rfl, rfl, hi2, hj2, hf, rfl, rfl⟩) (ImpS.sb ?_)
      ((refine Sb.c Tk.h ?_); (refine Sb.s ?_; refine Sb.s ?_; exact Sb.r))
end Go.Proofs.YtfoahdfflchidaaDoor
namespace Go.Proofs.YtfoahdfflchidaaDoor
open Go
attribute [local irreducible] G GO GR GT Fn FnV pt init exs pur sat own ImpS mat
/-- A cell more. -/
def addX (X : Nat → Nat → Bool) (i j : Nat) : Nat → Nat → Bool := fun r c => X r c || (decide (r = i) && decide (c = j))
theorem addX_or (X : Nat → Nat → Bool) (i j : Nat) : orX X (i / 64) (j / 64) (bitB zeroB (i % 64) (j % 64)) = addX X i j := by
  funext r c
  unfold orX addX
  have hb : (bitB zeroB (i % 64) (j % 64) (r % 64)).getLsbD (c % 64) = (decide (r % 64 = i % 64) && decide (c % 64 = j % 64)) := by
    unfold bitB updB
    by_cases h : r % 64 = i % 64
    · rw [if_pos h, decide_eq_true h, Bool.true_and, BitVec.getLsbD_or, getLsbD_bit _ _ (Nat.mod_lt c (by decide))]
      simp [zeroB]
    · rw [if_neg h, decide_eq_false h]; simp [zeroB]
  rw [hb]
  congr 1
  rw [Bool.eq_iff_iff]
  simp only [Bool.and_eq_true, decide_eq_true_eq]
  omega
theorem addX_has {X : Nat → Nat → Bool} {i j : Nat} (h : X i j = true) : addX X i j = X := by
  funext r c
  unfold addX
  by_cases e : r = i ∧ c = j
  · obtain ⟨rfl, rfl⟩ := e; rw [h]; rfl
  · by_cases e1 : r = i
    · have e2 : c ≠ j := fun h => e ⟨e1, h⟩
      simp [e2]
    · simp [e1]
theorem bit_one {r c : Nat} {i j : Nat} (hc : c < 64) (h : (bitB zeroB i j r).getLsbD c = true) : r = i ∧ c = j := by
  unfold bitB updB at h
  by_cases e : r = i
  · subst e
    rw [if_pos rfl, BitVec.getLsbD_or, getLsbD_bit _ _ hc] at h
    simp [zeroB] at h
    exact ⟨rfl, h⟩
  · rw [if_neg e] at h; simp [zeroB] at h
/-- What Set answers, and what becomes of the matrix. -/
def setR (X : Nat → Nat → Bool) (side b : Nat) (i j : Int) (r : Value) (Q : List HP) : Prop :=
  (∃ m n : Nat, i = m ∧ j = n ∧ m < side ∧ n < side ∧ r = .tuple #[.bool (!X m n), i64 0] ∧ Q = [mat side (addX X m n) b]) ∨
  (inM side i j = false ∧ r = .tuple #[.bool false, i64 2] ∧ Q = [mat side X b])
theorem inM_at {side : Nat} {i j : Int} (h : inM side i j = true) : ∃ m n : Nat, i = m ∧ j = n ∧ m < side ∧ n < side := by
  unfold inM at h
  simp only [Bool.and_eq_true, decide_eq_true_eq] at h
  obtain ⟨⟨h1, h2⟩, h3, h4⟩ := h
  obtain ⟨m, rfl⟩ := Int.eq_ofNat_of_zero_le h1
  obtain ⟨n, rfl⟩ := Int.eq_ofNat_of_zero_le h3
  exact ⟨m, n, rfl, rfl, by omega, by omega⟩
set_option maxHeartbeats 2000000 in
theorem set_mat (side b : Nat) (X : Nat → Nat → Bool) (i j : Int) (hsd : side ≤ 1024) : Fn Tryd.prog 30 #[.pointer (some ⟨b, 0, none⟩), i64 i, i64 j] [mat side X b] (setR X side b i j) := by
  refine Fn.mk2 Tryd.func30 rfl rfl fun w0 F => ?_
  (refine G.seq ?_; refine G.region ?_; refine GO.assign rfl rfl ?_; refine GO.assign rfl rfl ?_; refine GO.nil ?_; refine kthen_n ?_; refine G.seq ?_; refine G.region ?_; refine GO.move rfl rfl ?_; refine GO.move rfl rfl ?_; refine GO.move rfl rfl ?_)
  refine GO.call3 rfl rfl rfl rfl (get_mat side b X i j) (Tks.c Tk.h Tks.n) ?_
  rintro _ _ ⟨rfl, rfl⟩
  cases h1 : inM side i j with
  | false =>
    have hg : getM X side i j = .tuple #[.bool false, i64 2] := by unfold getM; rw [h1]; rfl
    rw [hg]
    (refine GO.move rfl rfl ?_; refine GO.extract rfl rfl rfl ?_; refine GO.extract rfl rfl rfl ?_; refine GO.assign rfl rfl ?_; refine GO.assign rfl rfl ?_; refine GO.nil ?_; refine kthen_n ?_; refine G.seq ?_; refine G.seq ?_; refine G.region ?_; refine GO.move rfl rfl ?_; refine GO.nei rfl rfl rfl ?_; refine GO.move rfl rfl ?_; refine GO.gF rfl rfl rfl rfl ?_; refine GO.pickT rfl rfl rfl ?_; refine GO.nil ?_; refine kthen_n ?_; refine G.condT rfl rfl ?_; refine G.seq ?_; refine G.region ?_; refine GO.move rfl rfl ?_; refine GO.assign rfl rfl ?_; refine GO.assign rfl rfl ?_; refine GO.nil ?_; refine kthen_n ?_; refine G.ret ?_; refine kthen_r ?_)
    refine KF2.r2 rfl (RV.t rfl) (RV.t rfl) (.inr ⟨h1, rfl, rfl⟩) (ImpS.sb ?_)
    ((refine Sb.c Tk.h ?_); (exact Sb.r))
  | true =>
    obtain ⟨i, j, rfl, rfl, hi, hj⟩ := inM_at h1
    have hg : getM X side i j = .tuple #[.bool (X i j), i64 0] := by unfold getM; rw [h1]; rfl
    rw [hg]
    cases hx : X i j with
    | true =>
      (refine GO.move rfl rfl ?_; refine GO.extract rfl rfl rfl ?_; refine GO.extract rfl rfl rfl ?_; refine GO.assign rfl rfl ?_; refine GO.assign rfl rfl ?_; refine GO.nil ?_; refine kthen_n ?_; refine G.seq ?_; refine G.seq ?_; refine G.region ?_; refine GO.move rfl rfl ?_; refine GO.neF rfl rfl rfl rfl ?_; refine GO.move rfl rfl ?_; refine GO.gT rfl rfl rfl ?_; refine GO.move rfl rfl ?_; refine GO.pickF rfl rfl rfl ?_; refine GO.nil ?_; refine kthen_n ?_; refine G.condT rfl rfl ?_; refine G.seq ?_; refine G.region ?_; refine GO.move rfl rfl ?_; refine GO.assign rfl rfl ?_; refine GO.assign rfl rfl ?_; refine GO.nil ?_; refine kthen_n ?_; refine G.ret ?_; refine kthen_r ?_)
      refine KF2.r2 rfl (RV.t rfl) (RV.t rfl) (.inl ⟨i, j, rfl, rfl, hi, hj, by rw [hx]; rfl, by rw [addX_has hx]⟩) (ImpS.sb ?_)
      ((refine Sb.c Tk.h ?_); (exact Sb.r))
    | false =>
      (refine GO.move rfl rfl ?_; refine GO.extract rfl rfl rfl ?_; refine GO.extract rfl rfl rfl ?_; refine GO.assign rfl rfl ?_; refine GO.assign rfl rfl ?_; refine GO.nil ?_; refine kthen_n ?_; refine G.seq ?_; refine G.seq ?_; refine G.region ?_; refine GO.move rfl rfl ?_; refine GO.neF rfl rfl rfl rfl ?_; refine GO.move rfl rfl ?_; refine GO.gT rfl rfl rfl ?_; refine GO.move rfl rfl ?_; refine GO.pickF rfl rfl rfl ?_; refine GO.nil ?_; refine kthen_n ?_; refine G.condF rfl rfl ?_; refine G.skip ?_; refine kthen_n ?_; refine G.seq ?_; refine G.region ?_; refine GO.move rfl rfl ?_; refine GO.remi rfl rfl rfl (by omega) ?_; refine GO.move rfl rfl ?_; refine GO.remi rfl rfl rfl (by omega) ?_; refine GO.build2 rfl rfl rfl rfl ?_)
      refine GO.buildSlice1 rfl rfl (by simp; rfl) rfl ⟨by omega, by omega⟩ fun b31 => ?_
      have hcs : SlR (pt b31 (row (putParts [Value.agg (putParts [i64 ((i : Int) % 64), i64 ((j : Int) % 64)]).toArray]) 34)) (.slice (some ⟨b31, 0, none⟩) 1 1) 1 2 (cellsV [((i : Int) % 64, (j : Int) % 64)]) := SlR.own rfl
      refine GO.call1 rfl rfl (of_spec _ _ [((i : Int) % 64, (j : Int) % 64)] hcs (by simp)) (Tks.c Tk.h Tks.n) ?_
      rintro _ _ ⟨rfl, rfl⟩
      have hov : ofV [((i : Int) % 64, (j : Int) % 64)] = .tuple #[blk (bitB zeroB (i % 64) (j % 64)), i64 0] := by
        unfold ofV
        rw [if_pos (by unfold allIn inB; simp; omega)]
        have e1 : ((i : Int) % 64 % 64).toNat = i % 64 := by omega
        have e2 : ((j : Int) % 64 % 64).toNat = j % 64 := by omega
        unfold foldB
        simp only [List.foldl_cons, List.foldl_nil, e1, e2]
      rw [hov]
      have hfit : FitB side (i / 64) (j / 64) (bitB zeroB (i % 64) (j % 64)) := fun r c hr hc hb => by
        obtain ⟨rfl, rfl⟩ := bit_one hc hb
        omega
      have hbit : (bitB zeroB (i % 64) (j % 64) (i % 64)).getLsbD (j % 64) = true := by
        unfold bitB updB
        rw [if_pos rfl, BitVec.getLsbD_or, getLsbD_bit _ _ (Nat.mod_lt j (by decide))]
        simp
      have hlen : 0 < lenB (lessB (bitB zeroB (i % 64) (j % 64)) (blkAt X (i / 64) (j / 64))) 64 := by
        apply Nat.pos_of_ne_zero
        intro h0
        have h2 := lenB_zero h0 (i % 64) (j % 64) (Nat.mod_lt i (by decide)) (Nat.mod_lt j (by decide))
        unfold lessB at h2
        rw [BitVec.getLsbD_and, hbit, BitVec.getLsbD_not, blkAt_bit _ _ _ _ _ (Nat.mod_lt j (by decide)), blk_part, blk_part, hx] at h2
        simp at h2
        omega
      have hor := addX_or X i j
      generalize bitB zeroB (i % 64) (j % 64) = bb at hfit hlen hor ⊢
      (refine GO.move rfl rfl ?_; refine GO.extract rfl rfl rfl ?_; refine GO.extract rfl rfl rfl ?_; refine GO.alloc rfl fun b10 => ?_)
      rw [cells_zero]
      (refine GO.storeW rfl rfl Tk.h ⟨cells_len _, cells_len _⟩ (cells_one _) ?_; refine GO.assign rfl rfl ?_; refine GO.nil ?_; refine kthen_n ?_; refine G.seq ?_; refine G.region ?_; refine GO.move rfl rfl ?_; refine GO.move rfl rfl ?_; refine GO.quoi rfl rfl rfl (by omega) ?_; refine GO.move rfl rfl ?_; refine GO.quoi rfl rfl rfl (by omega) ?_; refine GO.loadW rfl rfl rfl Tk.h (cells_len _) ?_)
      refine GO.call4 rfl rfl rfl rfl rfl (or_mat side b (i / 64) (j / 64) X bb (by omega) (by omega) hfit) (Tks.c (Tk.t (Tk.t Tk.h)) Tks.n) ?_
      rintro _ _ ⟨rfl, rfl⟩
      rw [decide_eq_true hlen, hor]
      (refine GO.assign rfl rfl ?_; refine GO.assign rfl rfl ?_; refine GO.nil ?_; refine kthen_n ?_; refine G.ret ?_)
      refine KF2.r2 rfl (RV.t rfl) (RV.t rfl) (.inl ⟨i, j, rfl, rfl, hi, hj, by rw [hx]; rfl, rfl⟩) (ImpS.sb ?_)
      ((refine Sb.c Tk.h ?_); (refine Sb.s ?_; refine Sb.s ?_; exact Sb.r))
def noX : Nat → Nat → Bool := fun _ _ => false
theorem cntX_no : cntX noX = 0 := by
  have h0 : ∀ i j, lenB (blkAt noX i j) 64 = 0 := fun i j => lenB_none fun r c hr hc => by rw [blkAt_bit _ _ _ _ _ hc]; rfl
  have hs : ∀ (f : Nat → Nat) (n : Nat), (∀ i, f i = 0) → sumTo f n = 0 := fun f n hf => by have := sumTo_le (f := f) (m := 0) (fun i => by rw [hf i]; exact Nat.le_refl _) n; omega
  exact hs _ _ fun i => hs _ _ fun j => h0 i j
theorem empty_ok {side D : Nat} (hs : 1 ≤ side ∧ side ≤ 1024) (hD : 1 ≤ D ∧ D ≤ 4 ∧ side ≤ 64 * 2 ^ D) : MatOK side noX D 1 0 (fun _ _ => 0) (fun _ => zeroB) 0 := by
  have hf : ∀ i j, fnd (fun _ _ => 0) i j (D - 1) 0 = 0 := fun i j => fnd_zero (fun _ => rfl) i j _
  refine ⟨hs, hD, ⟨fun _ => (D - 1, 0, 0), fun _ => (0, 0), ⟨hD.1, Nat.le_refl _, rfl, fun n hn => by dsimp only; omega, fun n k _ _ h => absurd rfl h, fun _ _ _ => rfl, fun n k _ _ h => absurd rfl h⟩⟩, (fun r c h => by cases h), fun _ _ _ _ _ _ _ _ _ => rfl, fun i j q _ _ h => ?_, cntX_no.symm, ?_, by omega⟩
  · rw [hf i j] at h; cases h
  · symm
    rw [List.countP_eq_zero]
    intro x _
    rw [hf]; simp
theorem built_mat (n : Int) (b : Nat) : Tryd.prog.built 70 [(0, i64 n), (1, i64 1), (3, .slice (some ⟨b, 0, none⟩) 1 1)] = some [i64 n, i64 1, i64 0, .slice (some ⟨b, 0, none⟩) 1 1, .slice none 0 0].toArray := by kernel_rfl
def newR (side : Int) (r : Value) (Q : List HP) : Prop :=
  (∃ n b : Nat, side = n ∧ 1 ≤ n ∧ n ≤ 1024 ∧ r = .tuple #[.pointer (some ⟨b, 0, none⟩), i64 0] ∧ Q = [mat n noX b]) ∨ (¬ (1 ≤ side ∧ side ≤ 1024) ∧ r = .tuple #[.pointer none, i64 2] ∧ Q = [])
set_option maxHeartbeats 2000000 in
theorem new_spec (side : Int) : Fn Tryd.prog 22 #[i64 side] [] (newR side) := by
  refine Fn.mk2 Tryd.func22 rfl rfl fun w0 F => ?_
  (refine G.seq ?_; refine G.region ?_; refine GO.assign rfl rfl ?_; refine GO.assign rfl rfl ?_; refine GO.nil ?_; refine kthen_n ?_; refine G.seq ?_; refine G.seq ?_; refine G.region ?_; refine GO.move rfl rfl ?_; refine GO.lti rfl rfl rfl ?_; refine GO.move rfl rfl ?_)
  cases h1 : decide (side < 1) with
  | true =>
    have h2 := of_decide_eq_true h1
    (refine GO.gF rfl rfl rfl rfl ?_; refine GO.gF rfl rfl rfl rfl ?_; refine GO.pickT rfl rfl rfl ?_; refine GO.nil ?_; refine kthen_n ?_; refine G.condT rfl rfl ?_; refine G.seq ?_; refine G.region ?_; refine GO.assign rfl rfl ?_; refine GO.assign rfl rfl ?_; refine GO.nil ?_; refine kthen_n ?_; refine G.ret ?_; refine kthen_r ?_)
    refine KF2.r2 rfl (RV.t rfl) (RV.t rfl) (.inr ⟨by omega, rfl, rfl⟩) (ImpS.sb Sb.r)
  | false =>
    have h2 := of_decide_eq_false h1
    (refine GO.gT rfl rfl rfl ?_; refine GO.move rfl rfl ?_; refine GO.gT rfl rfl rfl ?_; refine GO.gti rfl rfl rfl ?_; refine GO.pickF rfl rfl rfl ?_; refine GO.nil ?_; refine kthen_n ?_)
    refine G.condD rfl (fun h3 => ?_) (fun h3 => ?_)
    · (refine G.seq ?_; refine G.region ?_; refine GO.assign rfl rfl ?_; refine GO.assign rfl rfl ?_; refine GO.nil ?_; refine kthen_n ?_; refine G.ret ?_; refine kthen_r ?_)
      refine KF2.r2 rfl (RV.t rfl) (RV.t rfl) (.inr ⟨by omega, rfl, rfl⟩) (ImpS.sb Sb.r)
    · obtain ⟨n, rfl⟩ := Int.eq_ofNat_of_zero_le (show 0 ≤ side by omega)
      (refine G.skip ?_; refine kthen_n ?_; refine G.seq ?_; refine G.region ?_; refine GO.move rfl rfl ?_)
      refine GO.makeR (nn := 1) (sz := 4) (z := i64 0) rfl rfl rfl ⟨rfl, rfl⟩ rfl (by decide) ⟨by decide, by decide⟩ fun b12 => ?_
      refine GO.buildPart3 (built_mat n b12) rfl rfl rfl rfl ?_
      (refine GO.box rfl rfl rfl fun b14 => ?_; refine GO.assign rfl rfl ?_; refine GO.nil ?_; refine kthen_n ?_; refine G.seq ?_; refine G.block ?_)
      refine G.loop (fun D : Nat => [(4, .pointer (some ⟨b14, 0, none⟩)), (0, i64 n)]) (fun D => pt b14 (row [i64 n, i64 D, i64 0, .slice (some ⟨b12, 0, none⟩) 1 1, .slice none 0 0] 70) :: pt b12 (row (List.replicate (1 * 4) (i64 0)) 93) :: F)
        (fun D => 1 ≤ D ∧ D ≤ 4) (fun D => 4 - D) 1 ⟨by omega, by omega⟩ ?_ ?_ ?_
      · (refine SubE.c rfl rfl ?_; refine SubE.c rfl rfl ?_; exact SubE.n)
      · ((refine Sb.c Tk.h ?_; refine Sb.c Tk.h ?_); (exact Sb.r))
      rintro D ⟨hD1, hD2⟩
      have hpw : 2 ^ D ≤ 2 ^ 4 := Nat.pow_le_pow_right (by decide) hD2
      have e : (64 : Int) * 2 ^ D = ((64 * 2 ^ D : Nat) : Int) := by simp
      (refine G.seq ?_; refine G.seq ?_; refine G.region ?_; refine GO.move rfl rfl ?_; refine GO.nilCheck rfl rfl ?_; refine GO.fieldAddr rfl rfl ?_; refine GO.load1 rfl rfl rfl Tk.h rfl ?_)
      refine GO.shli rfl rfl rfl ⟨by omega, by rw [e]; omega, by rw [e]; omega⟩ ?_
      refine GO.chg (i64 ((64 * 2 ^ D : Nat) : Int)) (by rw [e]) ?_
      (refine GO.move rfl rfl ?_; refine GO.lti rfl rfl rfl ?_; refine GO.nil ?_; refine kthen_n ?_)
      refine G.condD rfl (fun hlt => ?_) (fun hge => ?_)
      · have hD4 : D < 4 := by
          apply Nat.lt_of_le_of_ne hD2
          rintro rfl
          have : (64 * 2 ^ 4 : Nat) = 1024 := rfl
          omega
        (refine G.skip ?_; refine kthen_n ?_; refine G.block ?_; refine G.region ?_; refine GO.move rfl rfl ?_; refine GO.nilCheck rfl rfl ?_; refine GO.fieldAddr rfl rfl ?_; refine GO.load1 rfl rfl rfl Tk.h rfl ?_; refine GO.addi rfl rfl rfl (by omega) ?_; refine GO.nilCheck rfl rfl ?_; refine GO.fieldAddr rfl rfl ?_; refine GO.store1 rfl rfl rfl Tk.h (by simp) ?_; refine GO.nil ?_; refine kblock_n ?_; refine kthen_n ?_)
        refine ⟨D + 1, ⟨by omega, by omega⟩, by omega, ?_, ?_⟩
        · (refine SubE.c rfl rfl ?_; refine SubE.c rfl rfl ?_; exact SubE.n)
        · exact Sb.r
      · refine G.ownIn (sz := 4) (n := 1) (Tk.t Tk.h) rfl (by unfold maxLen; omega) ?_
        refine G.ownNil (T := 77) (sz := 64) ?_
        (refine G.exit ?_; refine kthen_x ?_; refine kthen_x ?_; refine kblock_x ?_; refine kthen_n ?_; refine G.seq ?_; refine G.region ?_; refine GO.move rfl rfl ?_; refine GO.assign rfl rfl ?_; refine GO.assign rfl rfl ?_; refine GO.nil ?_; refine kthen_n ?_; refine G.ret ?_)
        refine KF2.r2 rfl (RV.t rfl) (RV.t rfl) (.inl ⟨n, b14, rfl, by omega, by omega, rfl, rfl⟩) ?_
        refine ImpS.mat ⟨D, 1, 0, fun _ _ => 0, fun _ => zeroB, 0, .slice (some ⟨b12, 0, none⟩) 1 1, .slice none 0 0⟩ (empty_ok (D := D) (by omega) ⟨hD1, hD2, by omega⟩) (ImpS.sb ?_)
        ((refine Sb.c (Tk.t (Tk.t Tk.h)) ?_; refine Sb.c (Tk.t Tk.h) ?_; refine Sb.c Tk.h ?_); (exact Sb.r))
end Go.Proofs.YtfoahdfflchidaaDoor
namespace Go.Proofs.YtfoahdfflchidaaDoor
open Go

/-! ## What 'down' hands on -/
/-- Below a node whose parts are of 2 ^ l blocks a side (l = 0: a leaf): row, column, number of the leaf. -/
def dl (P : Nat → Nat → Nat) : Nat → Nat → Nat → Nat → List (Nat × Nat × Nat)
  | 0, n, i, j => [(i, j, n)]
  | l + 1, n, i, j => (List.range 4).flatMap fun k => if P n k = 0 then [] else dl P l (P n k - 1) (2 * i + k / 2) (2 * j + k % 2)
/-- .. of the first k parts. -/
def dlk (P : Nat → Nat → Nat) (l n i j k : Nat) : List (Nat × Nat × Nat) := (List.range k).flatMap fun k => if P n k = 0 then [] else dl P l (P n k - 1) (2 * i + k / 2) (2 * j + k % 2)
section
variable {P : Nat → Nat → Nat}
theorem dl_dlk (l n i j : Nat) : dl P (l + 1) n i j = dlk P l n i j 4 := rfl
theorem dlk_zero (l n i j : Nat) : dlk P l n i j 0 = [] := rfl
theorem dlk_none {l n i j k : Nat} (h : P n k = 0) : dlk P l n i j (k + 1) = dlk P l n i j k := by
  unfold dlk; rw [List.range_succ, List.flatMap_append]; simp [h]
theorem dlk_some {l n i j k : Nat} (h : P n k ≠ 0) : dlk P l n i j (k + 1) = dlk P l n i j k ++ dl P l (P n k - 1) (2 * i + k / 2) (2 * j + k % 2) := by
  unfold dlk; rw [List.range_succ, List.flatMap_append]; simp [h]
theorem dl_len : ∀ (l n i j : Nat), (dl P l n i j).length ≤ 4 ^ l
  | 0, _, _, _ => by simp [dl]
  | l + 1, n, i, j => by
    have : ∀ k, (dlk P l n i j k).length ≤ k * 4 ^ l := by
      intro k
      induction k with
      | zero => simp [dlk_zero]
      | succ k ih =>
        by_cases h : P n k = 0
        · rw [dlk_none h, Nat.add_mul]; omega
        · rw [dlk_some h, List.length_append, Nat.add_mul]
          have := dl_len l (P n k - 1) (2 * i + k / 2) (2 * j + k % 2)
          omega
    have h4 := this 4
    rw [dl_dlk, Nat.pow_succ]; omega
theorem dlk_len (l n i j k : Nat) : (dlk P l n i j k).length ≤ k * 4 ^ l := by
  induction k with
  | zero => simp [dlk_zero]
  | succ k ih =>
    by_cases h : P n k = 0
    · rw [dlk_none h, Nat.add_mul]; omega
    · rw [dlk_some h, List.length_append, Nat.add_mul]
      have := dl_len (P := P) l (P n k - 1) (2 * i + k / 2) (2 * j + k % 2)
      omega
theorem dl_at {l n i j : Nat} {p : Nat × Nat × Nat} : p ∈ dl P (l + 1) n i j ↔ ∃ k, k < 4 ∧ P n k ≠ 0 ∧ p ∈ dl P l (P n k - 1) (2 * i + k / 2) (2 * j + k % 2) := by
  rw [dl_dlk, dlk, List.mem_flatMap]
  constructor
  · rintro ⟨k, hk, hp⟩
    by_cases h : P n k = 0
    · simp [h] at hp
    · exact ⟨k, by simpa using hk, h, by simpa [h] using hp⟩
  · rintro ⟨k, hk, h, hp⟩
    exact ⟨k, by simpa using hk, by simpa [h] using hp⟩
theorem half_pow (y l : Nat) : y / 2 ^ (l + 1) = y / 2 ^ l / 2 := by rw [Nat.pow_succ, Nat.div_div_eq_div_mul]
theorem dl_pos : ∀ {l n i j : Nat} {p : Nat × Nat × Nat}, p ∈ dl P l n i j → p.1 / 2 ^ l = i ∧ p.2.1 / 2 ^ l = j
  | 0, n, i, j, p, h => by simp only [dl, List.mem_singleton] at h; subst h; simp
  | l + 1, n, i, j, p, h => by
    obtain ⟨k, hk, _, hp⟩ := dl_at.1 h
    obtain ⟨h1, h2⟩ := dl_pos hp
    rw [half_pow, half_pow, h1, h2]; omega
theorem dl_mem : ∀ {l n i j : Nat} {y x q : Nat}, (y, x, q) ∈ dl P (l + 1) n i j ↔ y / 2 ^ (l + 1) = i ∧ x / 2 ^ (l + 1) = j ∧ fnd P y x l n = q + 1
  | 0, n, i, j, y, x, q => by
    rw [dl_at]
    have ew : wayN y x 0 = 2 * (y % 2) + x % 2 := by simp [wayN]
    simp only [dl, List.mem_singleton, Prod.mk.injEq, fnd, ew, Nat.zero_add, Nat.pow_one]
    constructor
    · rintro ⟨k, hk, h, e1, e2, e3⟩
      have : 2 * (y % 2) + x % 2 = k := by omega
      rw [this]
      exact ⟨by omega, by omega, by omega⟩
    · rintro ⟨e1, e2, e3⟩
      exact ⟨2 * (y % 2) + x % 2, by omega, by omega, by omega, by omega, by omega⟩
  | l + 1, n, i, j, y, x, q => by
    rw [dl_at]
    simp only [dl_mem (l := l), fnd]
    have ew : wayN y x (l + 1) = 2 * (y / 2 ^ (l + 1) % 2) + x / 2 ^ (l + 1) % 2 := rfl
    rw [ew, half_pow y (l + 1), half_pow x (l + 1)]
    generalize y / 2 ^ (l + 1) = a
    generalize x / 2 ^ (l + 1) = c
    constructor
    · rintro ⟨k, hk, h, e1, e2, e3⟩
      have : 2 * (a % 2) + c % 2 = k := by omega
      rw [this, if_neg h]
      exact ⟨by omega, by omega, e3⟩
    · rintro ⟨e1, e2, e3⟩
      by_cases h : P n (2 * (a % 2) + c % 2) = 0
      · rw [if_pos h] at e3; omega
      · rw [if_neg h] at e3
        exact ⟨2 * (a % 2) + c % 2, by omega, h, by omega, by omega, e3⟩
/-- No place twice. -/
def apartP (p q : Nat × Nat × Nat) : Prop := p.1 ≠ q.1 ∨ p.2.1 ≠ q.2.1
theorem dl_apart : ∀ (l n i j : Nat), (dl P l n i j).Pairwise apartP
  | 0, _, _, _ => by simp [dl]
  | l + 1, n, i, j => by
    rw [dl_dlk, dlk, List.pairwise_flatMap]
    constructor
    · intro k _
      by_cases h : P n k = 0
      · simp [h]
      · simpa [h] using dl_apart l (P n k - 1) _ _
    · refine List.Pairwise.imp_of_mem (R := fun a b => a < b) ?_ List.pairwise_lt_range
      intro a b ha hb hab x hx y hy
      have ha' : a < 4 := by simpa using ha
      have hb' : b < 4 := by simpa using hb
      by_cases h : P n a = 0
      · simp [h] at hx
      · by_cases h2 : P n b = 0
        · simp [h2] at hy
        · simp only [h, if_false] at hx
          simp only [h2, if_false] at hy
          obtain ⟨a1, a2⟩ := dl_pos hx
          obtain ⟨b1, b2⟩ := dl_pos hy
          unfold apartP
          by_cases e : x.1 = y.1
          · refine .inr fun e2 => ?_
            rw [e] at a1; rw [e2] at a2; omega
          · exact .inl e
end

/-! ## Rising -/
theorem strict_unique {α : Type} {R : α → α → Prop} (hR : ∀ x y, R x y → ¬ R y x) : ∀ {l m : List α}, l.Pairwise R → m.Pairwise R → (∀ x, x ∈ l ↔ x ∈ m) → l = m
  | [], [], _, _, _ => rfl
  | [], b :: m, _, _, h => by have := (h b).2 (by simp); simp at this
  | a :: l, [], _, _, h => by have := (h a).1 (by simp); simp at this
  | a :: l, b :: m, h1, h2, h => by
    rw [List.pairwise_cons] at h1 h2
    have hirr : ∀ x, ¬ R x x := fun x hx => hR x x hx hx
    have hab : a = b := by
      have ha := (h a).1 (by simp)
      have hb := (h b).2 (by simp)
      rcases List.mem_cons.1 ha with e | ha
      · exact e
      · rcases List.mem_cons.1 hb with e | hb
        · exact e.symm
        · exact absurd (h2.1 a ha) (hR _ _ (h1.1 b hb))
    subst hab
    rw [strict_unique hR h1.2 h2.2 fun x => ?_]
    constructor
    · intro hx
      rcases List.mem_cons.1 ((h x).1 (List.mem_cons_of_mem _ hx)) with e | e
      · subst e; exact absurd (h1.1 x hx) (hirr x)
      · exact e
    · intro hx
      rcases List.mem_cons.1 ((h x).2 (List.mem_cons_of_mem _ hx)) with e | e
      · subst e; exact absurd (h2.1 x hx) (hirr x)
      · exact e
def lexP (p q : Nat × Nat × Nat) : Prop := p.1 < q.1 ∨ (p.1 = q.1 ∧ p.2.1 < q.2.1)
def cmpP (p q : Nat × Nat × Nat) : Int := if p.1 % 16 = q.1 % 16 then ((p.2.1 % 16 : Nat) : Int) - ((q.2.1 % 16 : Nat) : Int) else ((p.1 % 16 : Nat) : Int) - ((q.1 % 16 : Nat) : Int)
theorem ltP_iff (p q : Nat × Nat × Nat) : Go.Proofs.ltOf cmpP p q = decide (p.1 % 16 < q.1 % 16 ∨ (p.1 % 16 = q.1 % 16 ∧ p.2.1 % 16 < q.2.1 % 16)) := by
  unfold Go.Proofs.ltOf cmpP
  rw [decide_eq_decide]
  split <;> omega
theorem swoP : Go.Sort.SWO (Go.Proofs.ltOf cmpP) where
  irrefl x := by rw [ltP_iff]; simp
  trans x y z h1 h2 := by rw [ltP_iff] at *; simp only [decide_eq_true_eq] at *; omega
  ntrans x y z h1 h2 := by rw [ltP_iff] at *; simp only [decide_eq_false_iff_not] at *; omega
/-- Whether a block has a cell. -/
def hasB (X : Nat → Nat → Bool) (i j : Nat) : Bool := decide (lenB (blkAt X i j) 64 ≠ 0)
theorem hasB_iff {X : Nat → Nat → Bool} {i j : Nat} : hasB X i j = true ↔ ∃ r c, r < 64 ∧ c < 64 ∧ X (64 * i + r) (64 * j + c) = true := by
  unfold hasB
  rw [decide_eq_true_iff]
  constructor
  · intro h
    apply Classical.byContradiction
    intro hn
    refine h (lenB_none fun r c hr hc => ?_)
    rw [blkAt_bit _ _ _ _ _ hc]
    cases e : X (64 * i + r) (64 * j + c) with
    | false => rfl
    | true => exact absurd ⟨r, c, hr, hc, e⟩ hn
  · rintro ⟨r, c, hr, hc, hx⟩ h0
    have := lenB_zero h0 r c hr hc
    rw [blkAt_bit _ _ _ _ _ hc, hx] at this
    cases this
/-- The blocks that have a cell, by their places, rising. -/
def posL (X : Nat → Nat → Bool) : List Nat := (List.range 256).filter fun z => hasB X (z / 16) (z % 16)
theorem posL_mem {X : Nat → Nat → Bool} {z : Nat} : z ∈ posL X ↔ z < 256 ∧ hasB X (z / 16) (z % 16) = true := by simp [posL]
def encP (B : Nat → Blk) (p : Nat × Nat × Nat) : List Value := [i64 ((p.1 % 16 : Nat) : Int), i64 ((p.2.1 % 16 : Nat) : Int)] ++ cells (B p.2.2)
theorem encP_len (B : Nat → Blk) (p : Nat × Nat × Nat) : (encP B p).length = 66 := by simp [encP, cells_len]
/-- All of them as cells. -/
def allV (X : Nat → Nat → Bool) (l : List Nat) : List Value := l.flatMap fun z => [i64 ((z / 16 : Nat) : Int), i64 ((z % 16 : Nat) : Int)] ++ cells (blkAt X (z / 16) (z % 16))
theorem allV_len (X : Nat → Nat → Bool) : ∀ l : List Nat, (allV X l).length = l.length * 66
  | [] => rfl
  | z :: l => by
    have ih := allV_len X l
    unfold allV at ih ⊢
    rw [List.flatMap_cons, List.length_append, ih]; simp [cells_len]; omega
theorem posL_len (X : Nat → Nat → Bool) : (posL X).length ≤ 256 := by have := List.length_filter_le (fun z => hasB X (z / 16) (z % 16)) (List.range 256); simpa [posL] using this
section
variable {side D np nl cn : Nat} {X : Nat → Nat → Bool} {P : Nat → Nat → Nat} {B : Nat → Blk}
theorem MatOK.some_iff (h : MatOK side X D np nl P B cn) {i j : Nat} (hi : i < 2 ^ D) (hj : j < 2 ^ D) : hasB X i j = true ↔ fnd P i j (D - 1) 0 ≠ 0 := by
  rw [hasB_iff]
  constructor
  · rintro ⟨r, c, hr, hc, hx⟩ h0
    rw [h.non i j hi hj h0 r c hr hc] at hx; cases hx
  · intro hne
    exact (h.lea i j (fnd P i j (D - 1) 0 - 1) hi hj (by omega)).2
theorem MatOK.has_lt (h : MatOK side X D np nl P B cn) {i j : Nat} (hb : hasB X i j = true) : i < 2 ^ D ∧ j < 2 ^ D := by
  obtain ⟨r, c, hr, hc, hx⟩ := hasB_iff.1 hb
  have h1 := h.inn _ _ hx
  have h2 := h.dp.2.2
  omega
def leafOf (P : Nat → Nat → Nat) (D z : Nat) : Nat × Nat × Nat := (z / 16, z % 16, fnd P (z / 16) (z % 16) (D - 1) 0 - 1)
theorem MatOK.all_mem (h : MatOK side X D np nl P B cn) (p : Nat × Nat × Nat) : p ∈ dl P D 0 0 0 ↔ p ∈ (posL X).map (leafOf P D) := by
  obtain ⟨y, x, q⟩ := p
  obtain ⟨l, rfl⟩ : ∃ l, D = l + 1 := ⟨D - 1, by have := h.dp.1; omega⟩
  have hp := h.pow.1
  rw [dl_mem, List.mem_map]
  simp only [posL_mem, leafOf, Prod.mk.injEq, Nat.add_sub_cancel]
  constructor
  · rintro ⟨e1, e2, e3⟩
    have h1 : y < 2 ^ (l + 1) := by
      rcases Nat.div_eq_zero_iff.1 e1 with h0 | h0
      · exact absurd h0 (Nat.pos_iff_ne_zero.1 (Nat.two_pow_pos _))
      · exact h0
    have h2 : x < 2 ^ (l + 1) := by
      rcases Nat.div_eq_zero_iff.1 e2 with h0 | h0
      · exact absurd h0 (Nat.pos_iff_ne_zero.1 (Nat.two_pow_pos _))
      · exact h0
    refine ⟨16 * y + x, ?_⟩
    rw [show (16 * y + x) / 16 = y by omega, show (16 * y + x) % 16 = x by omega]
    refine ⟨⟨by omega, (h.some_iff h1 h2).2 ?_⟩, rfl, rfl, by omega⟩
    rw [Nat.add_sub_cancel]; omega
  · rintro ⟨z, ⟨hz, hb⟩, rfl, rfl, rfl⟩
    obtain ⟨h1, h2⟩ := h.has_lt hb
    have := (h.some_iff h1 h2).1 hb
    rw [Nat.add_sub_cancel] at this
    exact ⟨Nat.div_eq_of_lt h1, Nat.div_eq_of_lt h2, by omega⟩
theorem MatOK.all_sort (h : MatOK side X D np nl P B cn) {ys : List (Nat × Nat × Nat)} (hp : ys.Perm (dl P D 0 0 0)) (hs : ys.Pairwise fun x y => Go.Proofs.ltOf cmpP y x = false) : ys = (posL X).map (leafOf P D) := by
  have hm : ∀ p, p ∈ ys ↔ p ∈ (posL X).map (leafOf P D) := fun p => hp.mem_iff.trans (h.all_mem p)
  have hlt : ∀ p ∈ ys, p.1 < 16 ∧ p.2.1 < 16 := by
    intro p hpy
    obtain ⟨z, hz, rfl⟩ := List.mem_map.1 ((hm p).1 hpy)
    have := (posL_mem.1 hz).1
    exact ⟨by show z / 16 < 16; omega, by show z % 16 < 16; omega⟩
  refine strict_unique (R := lexP) (fun x y h1 h2 => by unfold lexP at h1 h2; omega) ?_ ?_ hm
  · have ha : ys.Pairwise apartP := (hp.pairwise_iff (fun {x y} h => by unfold apartP at *; omega)).2 (dl_apart D 0 0 0)
    refine List.Pairwise.imp_of_mem (R := fun x y => Go.Proofs.ltOf cmpP y x = false ∧ apartP x y) ?_ (List.pairwise_and_iff.2 ⟨hs, ha⟩)
    rintro x y hx hy ⟨h1, h2⟩
    have hx := hlt x hx
    have hy := hlt y hy
    rw [ltP_iff] at h1
    simp only [decide_eq_false_iff_not] at h1
    unfold apartP at h2
    unfold lexP
    rw [Nat.mod_eq_of_lt hx.1, Nat.mod_eq_of_lt hx.2, Nat.mod_eq_of_lt hy.1, Nat.mod_eq_of_lt hy.2] at h1
    omega
  · rw [List.pairwise_map]
    refine List.Pairwise.imp (R := fun a b => a < b) ?_ (List.Pairwise.filter _ List.pairwise_lt_range)
    intro a b hab
    show a / 16 < b / 16 ∨ (a / 16 = b / 16 ∧ a % 16 < b % 16)
    omega
theorem MatOK.all_enc (h : MatOK side X D np nl P B cn) : ((posL X).map (leafOf P D)).flatMap (encP B) = allV X (posL X) := by
  unfold allV
  rw [List.flatMap_map]
  have : ∀ l : List Nat, (∀ z ∈ l, z ∈ posL X) → (l.flatMap fun z => encP B (leafOf P D z)) = l.flatMap fun z => [i64 ((z / 16 : Nat) : Int), i64 ((z % 16 : Nat) : Int)] ++ cells (blkAt X (z / 16) (z % 16)) := by
    intro l
    induction l with
    | nil => intro _; rfl
    | cons z l ih =>
      intro hz
      rw [List.flatMap_cons, List.flatMap_cons, ih fun y hy => hz y (List.mem_cons_of_mem _ hy)]
      obtain ⟨hz1, hz2⟩ := posL_mem.1 (hz z (by simp))
      obtain ⟨h1, h2⟩ := h.has_lt hz2
      have hne := (h.some_iff h1 h2).1 hz2
      congr 1
      show [i64 ((z / 16 % 16 : Nat) : Int), i64 ((z % 16 % 16 : Nat) : Int)] ++ cells (B (fnd P (z / 16) (z % 16) (D - 1) 0 - 1)) = _
      rw [Nat.mod_eq_of_lt (show z / 16 < 16 by omega), Nat.mod_eq_of_lt (show z % 16 < 16 by omega), cells_congr (h.lea _ _ (fnd P (z / 16) (z % 16) (D - 1) 0 - 1) h1 h2 (by omega)).1]
  exact this _ fun _ h => h
end
end Go.Proofs.YtfoahdfflchidaaDoor
namespace Go.Proofs.YtfoahdfflchidaaDoor
open Go
/-- A row of the parts. -/
theorem GO.loadPart {P : Program} {c : Cx} {A : Array Oper} {rest : List Oper} {K : Kont} {L : Env} {H F : List HP} {d : Nat} {t : TypeId} {p : String} {e : Array Edge} {np bp cap q o : Nat} {PP : Nat → Nat → Nat} {ty : TypeId} {ds : TypeDesc} {x : Operand} [hu : UL P ty ds] [hs : SZ P ty 4] (hd : ds.isRow = true) (hN : Nat.blt d c.N = true) (hx : evl L x = some (.pointer (some ⟨bp, o, none⟩))) (ho : o = 0 + q * 4) (hq : q < np)
    (tk : Tk (parP np (.slice (some ⟨bp, 0, none⟩) np cap) PP) H F) (k : GO P c A rest K ((d, .agg (partR PP q).toArray) :: L) H) : GO P c A (⟨some d, .load ty x, t, p, e, none⟩ :: rest) K L H :=
  GO.loadM (vs := partR PP q) hd hN hx tk (partR_len _ _) (fun j u hj => by
    have hj4 : j < 4 := by have := (List.getElem?_eq_some_iff.1 hj).1; rw [partR_len] at this; exact this
    refine Rd.own ?_
    rw [ho, Nat.zero_add, partsV, grid_get (fun i => partR_len _ _) hj4 hq]
    exact hj) k
theorem GO.callV4 {P : Program} {c : Cx} {A : Array Oper} {rest : List Oper} {K : Kont} {L : Env} {H F : List HP} {d : Nat} {t : TypeId} {p : String} {e : Array Edge} {x x1 x2 x3 x4 : Operand} {v0 v1 v2 v3 v4 : Value} {ats : Array TypeId} {Pre : List HP} {R : Value → List HP → Prop} (hN : Nat.blt d c.N = true) (hx : evl L x = some v0) (h1 : evl L x1 = some v1) (h2 : evl L x2 = some v2) (h3 : evl L x3 = some v3) (h4 : evl L x4 = some v4) (spec : FnV P v0 [v1, v2, v3, v4] Pre R) (tk : Tks Pre H F)
    (k : ∀ v Q, R v Q → GO P c A rest K ((d, v) :: L) (Q ++ F)) : GO P c A (⟨some d, .call ⟨.value x, #[x1, x2, x3, x4], ats⟩, t, p, e, none⟩ :: rest) K L H :=
  GO.callVG (dst := some d) (xs := [x1, x2, x3, x4]) (vs := [v1, v2, v3, v4]) hN hx ⟨h1, h2, h3, h4, trivial⟩ spec tk k
attribute [local irreducible] G GO GR GT Fn FnV pt init exs pur sat own ImpS mat
set_option maxHeartbeats 2000000 in
theorem cmp_spec (B : Nat → Blk) (x y : Nat × Nat × Nat) (W : World) : Fn Tryd.prog 73 #[.agg (encP B x).toArray, .agg (encP B y).toArray] [init W] (fun r Q => r = i64 (cmpP x y) ∧ Q = [init W]) := by
  refine Fn.mk Tryd.func73 rfl rfl fun w0 F => ?_
  unfold cmpP
  have hx1 : x.1 % 16 < 16 := Nat.mod_lt _ (by decide)
  have hx2 : x.2.1 % 16 < 16 := Nat.mod_lt _ (by decide)
  have hy1 : y.1 % 16 < 16 := Nat.mod_lt _ (by decide)
  have hy2 : y.2.1 % 16 < 16 := Nat.mod_lt _ (by decide)
  (refine G.seq ?_; refine G.region ?_; refine GO.box rfl rfl rfl fun b2 => ?_; refine GO.box rfl rfl rfl fun b3 => ?_; refine GO.assign rfl rfl ?_; refine GO.nil ?_; refine kthen_n ?_; refine G.seq ?_; refine G.seq ?_; refine G.region ?_; refine GO.fieldAddr rfl rfl ?_; refine GO.fieldAddr rfl rfl ?_; refine GO.load1 rfl rfl rfl (Tk.t Tk.h) rfl ?_; refine GO.fieldAddr rfl rfl ?_; refine GO.fieldAddr rfl rfl ?_; refine GO.load1 rfl rfl rfl Tk.h rfl ?_; refine GO.nei rfl rfl rfl ?_; refine GO.nil ?_; refine kthen_n ?_)
  refine G.condD rfl (fun h1 => ?_) (fun h1 => ?_)
  · rw [if_neg (by omega)]
    (refine G.seq ?_; refine G.region ?_; refine GO.fieldAddr rfl rfl ?_; refine GO.fieldAddr rfl rfl ?_; refine GO.load1 rfl rfl rfl (Tk.t Tk.h) rfl ?_; refine GO.fieldAddr rfl rfl ?_; refine GO.fieldAddr rfl rfl ?_; refine GO.load1 rfl rfl rfl Tk.h rfl ?_; refine GO.subi rfl rfl rfl (by omega) ?_; refine GO.assign rfl rfl ?_; refine GO.nil ?_; refine kthen_n ?_; refine G.ret ?_; refine kthen_r ?_)
    refine KF.r1 rfl (RV.t rfl) ⟨rfl, rfl⟩ ?_
    ((refine Sb.c (Tk.t (Tk.t Tk.h)) ?_); (refine Sb.s ?_; refine Sb.s ?_; exact Sb.r))
  · rw [if_pos (by omega)]
    (refine G.skip ?_; refine kthen_n ?_; refine G.seq ?_; refine G.region ?_; refine GO.fieldAddr rfl rfl ?_; refine GO.fieldAddr rfl rfl ?_; refine GO.load1 rfl rfl rfl (Tk.t Tk.h) rfl ?_; refine GO.fieldAddr rfl rfl ?_; refine GO.fieldAddr rfl rfl ?_; refine GO.load1 rfl rfl rfl Tk.h rfl ?_; refine GO.subi rfl rfl rfl (by omega) ?_; refine GO.assign rfl rfl ?_; refine GO.nil ?_; refine kthen_n ?_; refine G.ret ?_)
    refine KF.r1 rfl (RV.t rfl) ⟨rfl, rfl⟩ ?_
    ((refine Sb.c (Tk.t (Tk.t Tk.h)) ?_); (refine Sb.s ?_; refine Sb.s ?_; exact Sb.r))
/-! ## down -/
def rawP (B : Nat → Blk) (p : Nat × Nat × Nat) : List Value := [i64 p.1, i64 p.2.1] ++ cells (B p.2.2)
theorem rawP_len (B : Nat → Blk) (p : Nat × Nat × Nat) : (rawP B p).length = 66 := by simp [rawP, cells_len]
theorem rawP_one (B : Nat → Blk) (p : Nat × Nat × Nat) : ∀ u ∈ rawP B p, u.oneCell' = true := by
  intro u hu
  simp only [rawP, List.mem_append, List.mem_cons, List.not_mem_nil, or_false] at hu
  rcases hu with (rfl | rfl) | hu
  · rfl
  · rfl
  · exact cells_one _ u hu
abbrev dnV (bm bo bd : Nat) : Value := .func (.func 71) #[] #[.pointer (some ⟨bm, 0, none⟩), .pointer (some ⟨bo, 0, none⟩), .pointer (some ⟨bd, 0, none⟩)]
abbrev dnH (bm bo bd b : Nat) (side : Int) (D : Nat) (cnt : Int) (vp vl : Value) (np nl : Nat) (P : Nat → Nat → Nat) (B : Nat → Blk) (m : Nat) (v : Value) (xs : List Value) : List HP :=
  [own 84 66 m v xs, pt bo (row [v] 82), pt bm (row [.pointer (some ⟨b, 0, none⟩)] 24), pt bd (row [dnV bm bo bd] 118), matP b side D cnt vp vl, parP np vp P, leaP nl vl B]
def DownOK (D np nl : Nat) (P : Nat → Nat → Nat) (B : Nat → Blk) (side cnt : Int) (b : Nat) (vp vl : Value) (bm bo bd : Nat) (l n i j : Nat) : Prop := ∀ (xs : List Value) (m : Nat) (v : Value), m + 4 ^ (l + 1) ≤ 100000000 →
    Fn Tryd.prog 71 #[i64 n, i64 l, i64 i, i64 j, .pointer (some ⟨bm, 0, none⟩), .pointer (some ⟨bo, 0, none⟩), .pointer (some ⟨bd, 0, none⟩)]
      (dnH bm bo bd b side D cnt vp vl np nl P B m v xs)
      (fun r Q => r = .tuple #[] ∧ ∃ v', Q = dnH bm bo bd b side D cnt vp vl np nl P B (m + (dl P (l + 1) n i j).length) v' (xs ++ (dl P (l + 1) n i j).flatMap (rawP B)))
set_option maxHeartbeats 8000000 in
set_option maxRecDepth 20000 in
theorem down_step {D np nl : Nat} {P : Nat → Nat → Nat} {ow : Nat → Nat × Nat × Nat} {low : Nat → Nat × Nat} (T : Tree D np nl P ow low) (B : Nat → Blk) (side cnt : Int) (b : Nat) (vp vl : Value) (bm bo bd : Nat) (hnp : np ≤ 1048576) (hnl : nl ≤ 1048576)
    (l n i j : Nat) (hn : n < np) (ho : ow n = (l, i, j)) (hl : ¬ 1048576 ≤ l) (hi : ¬ 1048576 ≤ i) (hj : ¬ 1048576 ≤ j) (ih : ∀ l' k, l = l' + 1 → k < 4 → P n k ≠ 0 → DownOK D np nl P B side cnt b vp vl bm bo bd l' (P n k - 1) (2 * i + k / 2) (2 * j + k % 2)) : DownOK D np nl P B side cnt b vp vl bm bo bd l n i j := by
  intro xs m v hm
  have hm2 : ¬ 100000000 < m + 4 ^ (l + 1) := by omega
  clear hm
  refine Fn.mk Tryd.func71 rfl rfl fun w0 F => ?_
  refine G.ownForm (by omega) (Tk.t (Tk.t (Tk.t (Tk.t (Tk.t Tk.h))))) fun bp cap e1 hc1 hc2 hc3 => ?_
  subst e1
  (refine G.seq ?_; refine G.region ?_; refine GO.load1 rfl rfl rfl (Tk.t (Tk.t Tk.h)) rfl ?_; refine GO.nilCheck rfl rfl ?_; refine GO.fieldAddr rfl rfl ?_; refine GO.load1 rfl rfl rfl (Tk.t (Tk.t (Tk.t (Tk.t Tk.h)))) rfl ?_; refine GO.move rfl rfl ?_; refine GO.idxS rfl rfl rfl ⟨rfl, by omega⟩ ?_)
  refine GO.loadPart rfl rfl rfl rfl hn (Tk.t (Tk.t (Tk.t (Tk.t (Tk.t Tk.h))))) ?_
  (refine GO.move rfl rfl ?_; refine GO.nil ?_; refine kthen_n ?_; refine G.block ?_)
  refine G.loop2 (fun (k : Nat) (_ : Value) => [(0, i64 n), (1, i64 l), (2, i64 i), (3, i64 j), (4, .pointer (some ⟨bm, 0, none⟩)), (5, .pointer (some ⟨bo, 0, none⟩)), (6, .pointer (some ⟨bd, 0, none⟩)), (21, .agg (partR P n).toArray), (22, i64 k)])
    (fun k v' => own 84 66 (m + (dlk P l n i j k).length) v' (xs ++ (dlk P l n i j k).flatMap (rawP B)) :: pt bo (row [v'] 82) :: pt bm (row [.pointer (some ⟨b, 0, none⟩)] 24) :: pt bd (row [dnV bm bo bd] 118) :: matP b side D cnt (.slice (some ⟨bp, 0, none⟩) np cap) vl :: parP np (.slice (some ⟨bp, 0, none⟩) np cap) P :: leaP nl vl B :: F)
    (fun k _ => k ≤ 4) (fun k _ => 4 - k) 0 v (by omega) ?_ ?_ ?_
  · (refine SubE.c rfl rfl ?_; refine SubE.c rfl rfl ?_; refine SubE.c rfl rfl ?_; refine SubE.c rfl rfl ?_; refine SubE.c rfl rfl ?_; refine SubE.c rfl rfl ?_; refine SubE.c rfl rfl ?_; refine SubE.c rfl rfl ?_; refine SubE.c rfl rfl ?_; exact SubE.n)
  · rw [dlk_zero, List.flatMap_nil, List.append_nil, List.length_nil, Nat.add_zero]
    ((refine Sb.c Tk.h ?_; refine Sb.c Tk.h ?_; refine Sb.c Tk.h ?_; refine Sb.c Tk.h ?_; refine Sb.c Tk.h ?_; refine Sb.c Tk.h ?_; refine Sb.c Tk.h ?_); (exact Sb.r))
  rintro k v' hk
  (refine G.seq ?_; refine G.region ?_; refine GO.lti rfl rfl rfl ?_; refine GO.nil ?_; refine kthen_n ?_; refine G.seq ?_)
  refine G.condD rfl (fun h1 => ?_) (fun h1 => ?_)
  · have hk4 : k < 4 := by omega
    (refine G.skip ?_; refine kthen_n ?_; refine G.seq ?_; refine G.block ?_; refine G.seq ?_; refine G.region ?_; refine GO.move rfl rfl ?_)
    refine GO.idxV (j := k) rfl rfl rfl rfl ⟨rfl, hk4⟩ (partR_get P n hk4) ?_
    (refine GO.assign rfl rfl ?_; refine GO.assign rfl rfl ?_; refine GO.nil ?_; refine kthen_n ?_; refine G.seq ?_; refine G.region ?_; refine GO.move rfl rfl ?_)
    refine GO.shliK 1 rfl rfl rfl rfl ⟨by omega, by omega, by omega⟩ ?_
    refine GO.chg (i64 ((2 * i : Nat) : Int)) (by congr 1; omega) ?_
    (refine GO.move rfl rfl ?_)
    refine GO.shri (j := 1) rfl rfl rfl (by omega) ?_
    refine GO.chg (i64 ((k / 2 : Nat) : Int)) (by congr 1) ?_
    (refine GO.ori rfl rfl rfl (by omega) ?_; refine GO.move rfl rfl ?_)
    rw [or_low _ _ (by omega)]
    refine GO.shliK 1 rfl rfl rfl rfl ⟨by omega, by omega, by omega⟩ ?_
    refine GO.chg (i64 ((2 * j : Nat) : Int)) (by congr 1; omega) ?_
    (refine GO.move rfl rfl ?_)
    refine GO.andi (m := k) (n := 1) rfl rfl rfl ⟨by omega, by omega⟩ ?_
    rw [Nat.and_one_is_mod]
    refine GO.ori (m := 2 * j) (n := k % 2) rfl rfl rfl ⟨by omega, by omega⟩ ?_
    rw [or_low _ _ (by omega)]
    (refine GO.assign rfl rfl ?_; refine GO.assign rfl rfl ?_; refine GO.nil ?_; refine kthen_n ?_; refine G.block ?_; refine G.seq ?_; refine G.region ?_; refine GO.move rfl rfl ?_; refine GO.eqi rfl rfl rfl ?_; refine GO.assign rfl rfl ?_; refine GO.nil ?_; refine kthen_n ?_)
    refine G.condD rfl (fun h2 => ?_) (fun h2 => ?_)
    · have h3 : P n k = 0 := by omega
      (refine G.skip ?_; refine kblock_n ?_; refine kblock_n ?_; refine kthen_n ?_; refine G.region ?_; refine GO.addi rfl rfl rfl (by omega) ?_; refine GO.move rfl rfl ?_; refine GO.nil ?_; refine kthen_n ?_)
      refine ⟨k + 1, v', by omega, by omega, ?_, ?_⟩
      · (refine SubE.c rfl rfl ?_; refine SubE.c rfl rfl ?_; refine SubE.c rfl rfl ?_; refine SubE.c rfl rfl ?_; refine SubE.c rfl rfl ?_; refine SubE.c rfl rfl ?_; refine SubE.c rfl rfl ?_; refine SubE.c rfl rfl ?_; refine SubE.c rfl rfl ?_; exact SubE.n)
      · rw [dlk_none h3]
        ((refine Sb.c Tk.h ?_; refine Sb.c Tk.h ?_; refine Sb.c Tk.h ?_; refine Sb.c Tk.h ?_; refine Sb.c Tk.h ?_; refine Sb.c Tk.h ?_; refine Sb.c Tk.h ?_); (exact Sb.r))
    · have h3 : P n k ≠ 0 := by omega
      have hb4 : (dlk P l n i j k).length ≤ k * 4 ^ l := dlk_len l n i j k
      have hs4 := dlk_some (l := l) (i := i) (j := j) h3
      have hp4 : 1 ≤ 4 ^ l := Nat.pos_of_ne_zero (by exact Nat.ne_of_gt (Nat.pow_pos (by decide)))
      (refine G.seq ?_; refine G.region ?_; refine GO.move rfl rfl ?_; refine GO.eqi rfl rfl rfl ?_; refine GO.assign rfl rfl ?_; refine GO.nil ?_; refine kthen_n ?_)
      refine G.condD rfl (fun h5 => ?_) (fun h5 => ?_)
      · obtain rfl : l = 0 := by omega
        obtain ⟨g1, g2⟩ := T.leaf n k hn hk4 h3 (by rw [ho])
        refine G.ownForm (by omega) (Tk.t (Tk.t (Tk.t (Tk.t (Tk.t (Tk.t Tk.h)))))) fun bl capl e2 hd1 hd2 hd3 => ?_
        subst e2
        refine G.drawT 15 24576 [pt bo (row [v'] 82), pt bm (row [.pointer (some ⟨b, 0, none⟩)] 24), matP b side D cnt (.slice (some ⟨bp, 0, none⟩) np cap) (.slice (some ⟨bl, 0, none⟩) nl capl), leaP nl (.slice (some ⟨bl, 0, none⟩) nl capl) B] (own 84 66 (m + (dlk P 0 n i j k).length) v' (xs ++ (dlk P 0 n i j k).flatMap (rawP B)) :: pt bd (row [dnV bm bo bd] 118) :: parP np (.slice (some ⟨bp, 0, none⟩) np cap) P :: F) (by kernel_rfl) (keys_of rfl) (ImpS.sb (by ((refine Sb.c (Tk.t Tk.h) ?_; refine Sb.c (Tk.t Tk.h) ?_; refine Sb.c (Tk.t (Tk.t Tk.h)) ?_; refine Sb.c (Tk.t (Tk.t (Tk.t Tk.h))) ?_; refine Sb.c Tk.h ?_; refine Sb.c Tk.h ?_; refine Sb.c Tk.h ?_); (exact Sb.r)))) ?_
        ((apply GR.step rfl; focus (intro Z; refine GO.load1 rfl rfl rfl Tk.h rfl ?_; exact KQ.z)); (apply GR.step rfl; focus (intro Z; refine GO.move rfl rfl ?_; exact KQ.z)); (apply GR.step rfl; focus (intro Z; refine GO.move rfl rfl ?_; exact KQ.z)); (apply GR.step rfl; focus (intro Z; refine GO.build2 rfl rfl rfl rfl ?_; exact KQ.z)); (apply GR.step rfl; focus (intro Z; refine GO.load1 rfl rfl rfl (Tk.t Tk.h) rfl ?_; exact KQ.z)); (apply GR.step rfl; focus (intro Z; refine GO.nilCheck rfl rfl ?_; exact KQ.z)); (apply GR.step rfl; focus (intro Z; refine GO.fieldAddr rfl rfl ?_; exact KQ.z)); (apply GR.step rfl; focus (intro Z; refine GO.load1 rfl rfl rfl (Tk.t (Tk.t Tk.h)) rfl ?_; exact KQ.z)); (apply GR.step rfl; focus (intro Z; refine GO.move rfl rfl ?_; exact KQ.z)); (apply GR.step rfl; focus (intro Z; refine GO.subi rfl rfl rfl (by omega) ?_; exact KQ.z)))
        apply GR.step rfl; focus (intro Z; refine GO.idxS (j := P n k - 1) rfl rfl rfl ⟨by omega, g1⟩ ?_; exact KQ.z)
        ((apply GR.step rfl; focus (intro Z; refine GO.loadLeaf rfl rfl rfl rfl (by assumption) (Tk.t (Tk.t (Tk.t Tk.h))) ?_; exact KQ.z)))
        apply GR.step rfl; focus (intro Z; refine GO.build2 rfl rfl rfl (by simp [blk, Value.cells, cells_len, putParts]) ?_; exact KQ.zv (v := .agg (rawP B (2 * i + k / 2, 2 * j + k % 2, P n k - 1)).toArray) (by simp [putParts, rawP, blk, Value.cells]))
        (refine GR.skip rfl ?_; refine GR.skip rfl ?_; refine GR.nil ?_)
        (repeat refine GT.skip rfl ?_)
        refine GT.step rfl ?_
        refine GO.buildSlice1 rfl rfl (fun u hu => by rw [List.mem_singleton.1 hu]; simp [Value.cells, rawP_len]) rfl ⟨by omega, by omega⟩ fun b40 => ?_
        rw [show putParts [Value.agg (rawP B (2 * i + k / 2, 2 * j + k % 2, P n k - 1)).toArray] = rawP B (2 * i + k / 2, 2 * j + k % 2, P n k - 1) by simp [putParts, Value.cells]]
        generalize hy : rawP B (2 * i + k / 2, 2 * j + k % 2, P n k - 1) = y
        have hyl : y.length = 1 * 66 := by rw [← hy, rawP_len]
        have hyo : ∀ u ∈ y, u.oneCell' = true := by rw [← hy]; exact rawP_one _ _
        refine GO.nil ⟨rfl, _, pt b40 (row y 84) :: own 84 66 (m + (dlk P 0 n i j k).length) v' (xs ++ (dlk P 0 n i j k).flatMap (rawP B)) :: pt bd (row [dnV bm bo bd] 118) :: parP np (.slice (some ⟨bp, 0, none⟩) np cap) P :: F, rfl, ImpS.sb (by ((refine Sb.c (Tk.t Tk.h) ?_; refine Sb.c (Tk.t Tk.h) ?_; refine Sb.c (Tk.t Tk.h) ?_; refine Sb.c (Tk.t Tk.h) ?_; refine Sb.c Tk.h ?_; refine Sb.c Tk.h ?_; refine Sb.c Tk.h ?_; refine Sb.c Tk.h ?_); (exact Sb.r))), ?_⟩
        refine GT.step rfl ?_
        refine GO.appendOwn (m := 1) (news := y) rfl rfl rfl (Tk.t (Tk.t (Tk.t (Tk.t (Tk.t Tk.h))))) (Tk.t (Tk.t (Tk.t (Tk.t Tk.h)))) hyl hyo ⟨by decide, rfl⟩ Nat.one_pos (by unfold maxLen; omega) (by omega) fun v2 => ?_
        refine GO.ownOne Tk.h fun hone2 => ?_
        refine GO.nil ⟨rfl, _, own 84 66 (m + (dlk P 0 n i j k).length + 1) v2 (xs ++ (dlk P 0 n i j k).flatMap (rawP B) ++ y) :: pt bd (row [dnV bm bo bd] 118) :: parP np (.slice (some ⟨bp, 0, none⟩) np cap) P :: F, rfl, ImpS.sb (by ((refine Sb.c (Tk.t Tk.h) ?_; refine Sb.c (Tk.t Tk.h) ?_; refine Sb.c (Tk.t Tk.h) ?_; refine Sb.c (Tk.t Tk.h) ?_; refine Sb.c Tk.h ?_; refine Sb.c (Tk.t Tk.h) ?_; refine Sb.c (Tk.t Tk.h) ?_); (refine Sb.s ?_; exact Sb.r))), ?_⟩
        (repeat refine GT.skip rfl ?_)
        refine GT.nil ?_
        refine GO.store1 rfl rfl hone2 Tk.h (by simp) ?_
        (refine GO.nil ?_; refine kblock_n ?_; refine kblock_n ?_; refine kthen_n ?_; refine G.region ?_; refine GO.addi rfl rfl rfl (by omega) ?_; refine GO.move rfl rfl ?_; refine GO.nil ?_; refine kthen_n ?_)
        refine ⟨k + 1, v2, by omega, by omega, ?_, ?_⟩
        · (refine SubE.c rfl rfl ?_; refine SubE.c rfl rfl ?_; refine SubE.c rfl rfl ?_; refine SubE.c rfl rfl ?_; refine SubE.c rfl rfl ?_; refine SubE.c rfl rfl ?_; refine SubE.c rfl rfl ?_; refine SubE.c rfl rfl ?_; refine SubE.c rfl rfl ?_; exact SubE.n)
        · rw [hs4, List.flatMap_append, ← List.append_assoc, List.length_append, ← Nat.add_assoc]
          rw [show (dl P 0 (P n k - 1) (2 * i + k / 2) (2 * j + k % 2)).flatMap (rawP B) = y by rw [← hy]; simp [dl], show (dl P 0 (P n k - 1) (2 * i + k / 2) (2 * j + k % 2)).length = 1 from rfl]
          ((refine Sb.c (Tk.t (Tk.t (Tk.t (Tk.t Tk.h)))) ?_; refine Sb.c Tk.h ?_; refine Sb.c Tk.h ?_; refine Sb.c (Tk.t (Tk.t Tk.h)) ?_; refine Sb.c Tk.h ?_; refine Sb.c (Tk.t Tk.h) ?_; refine Sb.c Tk.h ?_); (exact Sb.r))
      · obtain ⟨l', rfl⟩ : ∃ l', l = l' + 1 := ⟨l - 1, by omega⟩
        obtain ⟨g1, _⟩ := T.kid n k hn hk4 h3 (by rw [ho]; exact Nat.succ_pos _)
        have hpb : ¬ 1048577 < P n k := by omega
        have hk3 : k * 4 ^ (l' + 1) ≤ 3 * 4 ^ (l' + 1) := Nat.mul_le_mul_right _ (by omega)
        have hq : (4 : Nat) ^ (l' + 1 + 1) = 4 * 4 ^ (l' + 1) := by rw [Nat.pow_succ]; omega
        (refine G.region ?_; refine GO.load1 rfl rfl rfl (Tk.t (Tk.t (Tk.t Tk.h))) rfl ?_; refine GO.move rfl rfl ?_; refine GO.subi rfl rfl rfl (by omega) ?_; refine GO.move rfl rfl ?_; refine GO.subi rfl rfl rfl (by omega) ?_; refine GO.move rfl rfl ?_; refine GO.move rfl rfl ?_)
        rw [show ((l' + 1 : Nat) : Int) - 1 = (l' : Int) by omega]
        rw [show ((P n k : Nat) : Int) - 1 = ((P n k - 1 : Nat) : Int) by omega]
        refine GO.callV4 rfl rfl rfl rfl rfl rfl (FnV.of (args := [i64 ((P n k - 1 : Nat) : Int), i64 (l' : Int), i64 ((2 * i + k / 2 : Nat) : Int), i64 ((2 * j + k % 2 : Nat) : Int)]) (caps := [.pointer (some ⟨bm, 0, none⟩), .pointer (some ⟨bo, 0, none⟩), .pointer (some ⟨bd, 0, none⟩)]) (ih l' k rfl hk4 h3 (xs ++ (dlk P (l' + 1) n i j k).flatMap (rawP B)) (m + (dlk P (l' + 1) n i j k).length) v' (by omega))) (Tks.c Tk.h (Tks.c Tk.h (Tks.c Tk.h (Tks.c Tk.h (Tks.c Tk.h (Tks.c Tk.h (Tks.c Tk.h Tks.n))))))) ?_
        rintro _ _ ⟨rfl, v2, rfl⟩
        (refine GO.nil ?_; refine kblock_n ?_; refine kblock_n ?_; refine kthen_n ?_; refine G.region ?_; refine GO.addi rfl rfl rfl (by omega) ?_; refine GO.move rfl rfl ?_; refine GO.nil ?_; refine kthen_n ?_)
        refine ⟨k + 1, v2, by omega, by omega, ?_, ?_⟩
        · (refine SubE.c rfl rfl ?_; refine SubE.c rfl rfl ?_; refine SubE.c rfl rfl ?_; refine SubE.c rfl rfl ?_; refine SubE.c rfl rfl ?_; refine SubE.c rfl rfl ?_; refine SubE.c rfl rfl ?_; refine SubE.c rfl rfl ?_; refine SubE.c rfl rfl ?_; exact SubE.n)
        · rw [hs4, List.flatMap_append, ← List.append_assoc, List.length_append, ← Nat.add_assoc]
          ((refine Sb.c Tk.h ?_; refine Sb.c Tk.h ?_; refine Sb.c Tk.h ?_; refine Sb.c Tk.h ?_; refine Sb.c Tk.h ?_; refine Sb.c Tk.h ?_; refine Sb.c Tk.h ?_); (exact Sb.r))
  · obtain rfl : k = 4 := by omega
    (refine G.exit ?_; refine kthen_x ?_; refine kthen_x ?_; refine kblock_x ?_)
    refine KF.n0 (Q := dnH bm bo bd b side D cnt (.slice (some ⟨bp, 0, none⟩) np cap) vl np nl P B (m + (dl P (l + 1) n i j).length) v' (xs ++ (dl P (l + 1) n i j).flatMap (rawP B))) rfl ⟨rfl, v', rfl⟩ ?_
    ((refine Sb.c Tk.h ?_; refine Sb.c Tk.h ?_; refine Sb.c Tk.h ?_; refine Sb.c Tk.h ?_; refine Sb.c Tk.h ?_; refine Sb.c Tk.h ?_; refine Sb.c Tk.h ?_); (exact Sb.r))
theorem down_spec {D np nl : Nat} {P : Nat → Nat → Nat} {ow : Nat → Nat × Nat × Nat} {low : Nat → Nat × Nat} (T : Tree D np nl P ow low) (B : Nat → Blk) (side cnt : Int) (b : Nat) (vp vl : Value) (bm bo bd : Nat) (hnp : np ≤ 1048576) (hnl : nl ≤ 1048576) :
    ∀ (l n i j : Nat), n < np → ow n = (l, i, j) → l ≤ 19 → i < 2 ^ (19 - l) → j < 2 ^ (19 - l) → DownOK D np nl P B side cnt b vp vl bm bo bd l n i j := by
  have hpw : ∀ l, 2 ^ (19 - l) ≤ 2 ^ 19 := fun l => Nat.pow_le_pow_right (by decide) (by omega)
  intro l
  induction l with
  | zero =>
    intro n i j hn ho hl hi hj
    have := hpw 0
    exact down_step T B side cnt b vp vl bm bo bd hnp hnl 0 n i j hn ho (by omega) (by omega) (by omega) fun l' k h => by omega
  | succ l ih =>
    intro n i j hn ho hl hi hj
    have h1 := hpw (l + 1)
    refine down_step T B side cnt b vp vl bm bo bd hnp hnl (l + 1) n i j hn ho (by omega) (by omega) (by omega) fun l' k hl' hk hne => ?_
    obtain rfl : l = l' := by omega
    obtain ⟨g1, g2⟩ := T.kid n k hn hk hne (by rw [ho]; exact Nat.succ_pos _)
    rw [ho] at g2
    have e : 2 ^ (19 - l) = 2 * 2 ^ (19 - (l + 1)) := by rw [show 19 - l = 19 - (l + 1) + 1 by omega, Nat.pow_succ]; omega
    exact ih _ _ _ g1 g2 (by omega) (by omega) (by omega)
end Go.Proofs.YtfoahdfflchidaaDoor
