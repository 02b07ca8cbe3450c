/-
  A small separation logic over the model's heap. Any program.
-/
import Derived.RangeFuncCalls
import Derived.Laws.World
import Derived.Laws.NewFold
import Derived.Laws.CopyRow
import Derived.Laws.Cells
import Derived.Deep.MidRow
import Derived.Below
import Derived.KernelRfl
namespace Go.Proofs.YtbconcohpfkncaaGreat
open Go

/-! ## Pieces of a heap -/
abbrev Hp := Nat → Option Obj
def Hp.le (h : Hp) (w : World) : Prop := ∀ b o, h b = some o → w.heap[b]? = some o
def Hp.dj (h k : Hp) : Prop := ∀ b, h b = none ∨ k b = none
def Hp.cup (h k : Hp) : Hp := fun b => (h b).or (k b)
def Hp.nil : Hp := fun _ => none
abbrev HP := Hp → Prop

def star : List HP → HP
  | [] => fun h => h = Hp.nil
  | p :: l => fun h => ∃ h1 h2, Hp.dj h1 h2 ∧ h = Hp.cup h1 h2 ∧ p h1 ∧ star l h2

def sat (l : List HP) (w : World) : Prop := ∃ h, Hp.le h w ∧ star l h

theorem Hp.dj_comm {h k : Hp} (d : Hp.dj h k) : Hp.dj k h := fun b => (d b).symm
theorem Hp.cup_comm {h k : Hp} (d : Hp.dj h k) : Hp.cup h k = Hp.cup k h := by
  funext b; unfold Hp.cup; rcases d b with e | e <;> simp [e]
theorem Hp.cup_assoc (h k l : Hp) : Hp.cup (Hp.cup h k) l = Hp.cup h (Hp.cup k l) := by
  funext b; unfold Hp.cup; cases h b <;> simp
theorem Hp.dj_cup {h k l : Hp} : Hp.dj h (Hp.cup k l) ↔ Hp.dj h k ∧ Hp.dj h l := by
  constructor
  · intro d
    constructor <;> intro b <;> rcases d b with e | e
    · exact .inl e
    · unfold Hp.cup at e; cases hk : k b <;> simp_all
    · exact .inl e
    · unfold Hp.cup at e; cases hk : k b <;> simp_all
  · rintro ⟨d, e⟩ b
    rcases d b with x | x
    · exact .inl x
    · rcases e b with y | y
      · exact .inl y
      · exact .inr (by unfold Hp.cup; simp [x, y])
theorem Hp.cup_dj {h k l : Hp} : Hp.dj (Hp.cup h k) l ↔ Hp.dj h l ∧ Hp.dj k l :=
  ⟨fun d => let ⟨x, y⟩ := Hp.dj_cup.1 (Hp.dj_comm d); ⟨Hp.dj_comm x, Hp.dj_comm y⟩, fun ⟨x, y⟩ => Hp.dj_comm (Hp.dj_cup.2 ⟨Hp.dj_comm x, Hp.dj_comm y⟩)⟩
theorem Hp.nil_cup (h : Hp) : Hp.cup Hp.nil h = h := by funext b; simp [Hp.cup, Hp.nil]
theorem Hp.cup_nil (h : Hp) : Hp.cup h Hp.nil = h := by funext b; simp [Hp.cup, Hp.nil]
theorem Hp.dj_nil (h : Hp) : Hp.dj h Hp.nil := fun _ => .inr rfl
theorem Hp.nil_dj (h : Hp) : Hp.dj Hp.nil h := fun _ => .inl rfl

theorem star_swap {p q : HP} {l : List HP} {h : Hp} : star (p :: q :: l) h → star (q :: p :: l) h := by
  rintro ⟨h1, r, d, rfl, hp, h2, h3, d', rfl, hq, hl⟩
  obtain ⟨d12, d13⟩ := Hp.dj_cup.1 d
  refine ⟨h2, Hp.cup h1 h3, Hp.dj_cup.2 ⟨Hp.dj_comm d12, d'⟩, ?_, hq, h1, h3, d13, rfl, hp, hl⟩
  rw [← Hp.cup_assoc, ← Hp.cup_assoc, Hp.cup_comm d12]

theorem star_perm {l l' : List HP} (hp : l.Perm l') : ∀ {h : Hp}, star l h → star l' h := by
  induction hp with
  | nil => exact id
  | cons x _ ih => rintro h ⟨h1, h2, d, rfl, hx, hl⟩; exact ⟨h1, h2, d, rfl, hx, ih hl⟩
  | swap x y l => exact star_swap
  | trans _ _ ih1 ih2 => exact fun h => ih2 (ih1 h)

theorem star_append {l l' : List HP} {h : Hp} : star (l ++ l') h ↔ ∃ h1 h2, Hp.dj h1 h2 ∧ h = Hp.cup h1 h2 ∧ star l h1 ∧ star l' h2 := by
  induction l generalizing h with
  | nil =>
    constructor
    · intro hl; exact ⟨Hp.nil, h, Hp.nil_dj _, (Hp.nil_cup _).symm, rfl, hl⟩
    · rintro ⟨h1, h2, _, rfl, e, hl⟩; simp only [star] at e; subst e; rw [Hp.nil_cup]; exact hl
  | cons p l ih =>
    constructor
    · rintro ⟨h1, r, d, rfl, hp, hr⟩
      obtain ⟨h2, h3, d', rfl, hl, hl'⟩ := ih.1 hr
      obtain ⟨d12, d13⟩ := Hp.dj_cup.1 d
      exact ⟨Hp.cup h1 h2, h3, Hp.cup_dj.2 ⟨d13, d'⟩, (Hp.cup_assoc _ _ _).symm, ⟨h1, h2, d12, rfl, hp, hl⟩, hl'⟩
    · rintro ⟨r, h3, d, rfl, ⟨h1, h2, d12, rfl, hp, hl⟩, hl'⟩
      obtain ⟨d13, d23⟩ := Hp.cup_dj.1 d
      exact ⟨h1, Hp.cup h2 h3, Hp.dj_cup.2 ⟨d12, d13⟩, Hp.cup_assoc _ _ _, hp, ih.2 ⟨h2, h3, d23, rfl, hl, hl'⟩⟩

theorem star_flat {l l' : List HP} {h : Hp} : star (star l :: l') h ↔ star (l ++ l') h := by
  rw [star_append]; rfl

theorem sat_perm {l l' : List HP} (hp : l.Perm l') {w : World} : sat l w → sat l' w := fun ⟨h, hl, hs⟩ => ⟨h, hl, star_perm hp hs⟩
theorem Hp.le_cup {h k : Hp} {w : World} (d : Hp.dj h k) : Hp.le (Hp.cup h k) w ↔ Hp.le h w ∧ Hp.le k w := by
  constructor
  · intro hl
    refine ⟨fun b o e => hl b o (by simp [Hp.cup, e]), fun b o e => hl b o ?_⟩
    rcases d b with x | x
    · simp [Hp.cup, x, e]
    · rw [x] at e; cases e
  · rintro ⟨h1, h2⟩ b o e
    unfold Hp.cup at e
    cases hb : h b with
    | none => simp [hb] at e; exact h2 b o e
    | some u => simp [hb] at e; subst e; exact h1 b _ hb
theorem sat_left {l l' : List HP} {w : World} (h : sat (l ++ l') w) : sat l w := by
  obtain ⟨h, hl, hs⟩ := h
  obtain ⟨h1, h2, d, rfl, s1, _⟩ := star_append.1 hs
  exact ⟨h1, ((Hp.le_cup d).1 hl).1, s1⟩
theorem sat_right {l l' : List HP} {w : World} (h : sat (l ++ l') w) : sat l' w := by
  obtain ⟨h, hl, hs⟩ := h
  obtain ⟨h1, h2, d, rfl, _, s2⟩ := star_append.1 hs
  exact ⟨h2, ((Hp.le_cup d).1 hl).2, s2⟩
theorem sat_flat {l l' : List HP} {w : World} : sat (star l :: l') w ↔ sat (l ++ l') w :=
  ⟨fun ⟨h, a, b⟩ => ⟨h, a, star_flat.1 b⟩, fun ⟨h, a, b⟩ => ⟨h, a, star_flat.2 b⟩⟩

/-! ## A block, a fact, an existence -/
def pt (b : Nat) (o : Obj) : HP := fun h => h = fun k => if k = b then some o else none
def pur (φ : Prop) : HP := fun h => φ ∧ h = Hp.nil
def exs {α : Type} (p : α → HP) : HP := fun h => ∃ x, p x h

theorem sat_pt {b : Nat} {o : Obj} {l : List HP} {w : World} (h : sat (pt b o :: l) w) : w.heap[b]? = some o := by
  obtain ⟨h, hl, h1, h2, d, rfl, rfl, _⟩ := h
  exact hl b o (by simp [Hp.cup])
theorem sat_pur {φ : Prop} {l : List HP} {w : World} : sat (pur φ :: l) w ↔ φ ∧ sat l w := by
  constructor
  · rintro ⟨h, hl, h1, h2, d, rfl, ⟨hφ, rfl⟩, s⟩
    exact ⟨hφ, h2, by rw [Hp.nil_cup] at hl; exact hl, s⟩
  · rintro ⟨hφ, h, hl, s⟩
    exact ⟨h, hl, Hp.nil, h, Hp.nil_dj _, (Hp.nil_cup _).symm, ⟨hφ, rfl⟩, s⟩
theorem sat_exs {α : Type} {p : α → HP} {l : List HP} {w : World} : sat (exs p :: l) w ↔ ∃ x, sat (p x :: l) w := by
  constructor
  · rintro ⟨h, hl, h1, h2, d, rfl, ⟨x, hx⟩, s⟩; exact ⟨x, _, hl, h1, h2, d, rfl, hx, s⟩
  · rintro ⟨x, h, hl, h1, h2, d, rfl, hx, s⟩; exact ⟨_, hl, h1, h2, d, rfl, ⟨x, hx⟩, s⟩

/-- The block b turns, all else stays. -/
theorem sat_upd {b : Nat} {o o' : Obj} {l : List HP} {w w' : World} (h : sat (pt b o :: l) w) (hb : w'.heap[b]? = some o')
    (hk : ∀ k, k ≠ b → w'.heap[k]? = w.heap[k]?) : sat (pt b o' :: l) w' := by
  obtain ⟨h, hl, h1, h2, d, rfl, rfl, s⟩ := h
  have h2b : h2 b = none := (d b).resolve_left (by simp)
  refine ⟨Hp.cup (fun k => if k = b then some o' else none) h2, ?_, _, h2, ?_, rfl, rfl, s⟩
  · intro k x e
    unfold Hp.cup at e
    by_cases hkb : k = b
    · subst hkb; simp at e; subst e; exact hb
    · simp [hkb] at e
      rw [hk k hkb]
      exact hl k x (by simp [Hp.cup, hkb, e])
  · intro k
    by_cases hkb : k = b
    · subst hkb; exact .inr h2b
    · exact .inl (by simp [hkb])
/-- What a piece of a heap says does not hang on what lies beside it. -/
theorem sat_keep {l : List HP} {w w' : World} (h : sat l w) (hk : ∀ (b : Nat) (o : Obj), w.heap[b]? = some o → w'.heap[b]? = some o) : sat l w' := by
  obtain ⟨h, hl, s⟩ := h; exact ⟨h, fun b o e => hk b o (hl b o e), s⟩
theorem sat_heap {l : List HP} {w w' : World} (h : sat l w) (hk : w'.heap = w.heap) : sat l w' := sat_keep h (fun b o e => by rw [hk]; exact e)
/-- A new block. -/
theorem sat_alloc {l : List HP} {w : World} (h : sat l w) (o : Obj) : sat (pt w.heap.size o :: l) (w.alloc o) := by
  obtain ⟨h, hl, s⟩ := h
  have hn : h w.heap.size = none := by
    cases e : h w.heap.size with
    | none => rfl
    | some x => have := hl _ _ e; simp at this
  refine ⟨Hp.cup (fun k => if k = w.heap.size then some o else none) h, ?_, _, h, ?_, rfl, rfl, s⟩
  · intro k x e
    unfold Hp.cup at e
    by_cases hk : k = w.heap.size
    · subst hk; simp at e; subst e; exact World.alloc_heap_new w _
    · simp [hk] at e
      have := hl k x e
      have hlt : k < w.heap.size := (Array.getElem?_eq_some_iff.1 this).1
      exact (RowKit.Below.heap_alloc w o k hlt).trans this
  · intro k
    by_cases hk : k = w.heap.size
    · subst hk; exact .inr hn
    · exact .inl (by simp [hk])

/-! ## Taking a piece out of a list -/
def Tk (x : HP) (H F : List HP) : Prop := H.Perm (x :: F)
theorem Tk.h {x : HP} {F : List HP} : Tk x (x :: F) F := List.Perm.refl _
theorem Tk.t {x y : HP} {H F : List HP} (h : Tk x H F) : Tk x (y :: H) (y :: F) := (List.Perm.cons y h).trans (List.Perm.swap x y F)
theorem Tk.sat {x : HP} {H F : List HP} {w : World} (h : Tk x H F) (s : sat H w) : sat (x :: F) w := sat_perm h s
def Tks (X H F : List HP) : Prop := H.Perm (X ++ F)
theorem Tks.n {H : List HP} : Tks [] H H := List.Perm.refl _
theorem Tks.c {x : HP} {X H H' F : List HP} (h : Tk x H H') (k : Tks X H' F) : Tks (x :: X) H F := h.trans (List.Perm.cons x k)
/-- The list T is a part of H. -/
def Sb (T H : List HP) : Prop := ∃ X, H.Perm (T ++ X)
theorem Sb.n {H : List HP} : Sb [] H := ⟨H, List.Perm.refl _⟩
theorem Sb.r {H : List HP} : Sb H H := ⟨[], by simp⟩
theorem Sb.s {x : HP} {T H : List HP} (h : Sb T H) : Sb T (x :: H) := let ⟨X, p⟩ := h; ⟨x :: X, (List.Perm.cons x p).trans (List.perm_middle.symm)⟩
theorem Sb.c {x : HP} {T H H' : List HP} (h : Tk x H H') (k : Sb T H') : Sb (x :: T) H := let ⟨X, p⟩ := k; ⟨X, h.trans (List.Perm.cons x p)⟩
theorem Sb.trans {A B C : List HP} (h : Sb A B) (k : Sb B C) : Sb A C :=
  let ⟨X, p⟩ := h; let ⟨Y, q⟩ := k; ⟨X ++ Y, by rw [← List.append_assoc]; exact q.trans (List.Perm.append_right Y p)⟩
theorem Sb.sat {T H : List HP} {w : World} (h : Sb T H) (s : sat H w) : sat T w := let ⟨_, p⟩ := h; sat_left (sat_perm p s)
theorem Sb.app {T H X : List HP} (h : Sb T H) : Sb (T ++ X) (H ++ X) := let ⟨Y, p⟩ := h; ⟨Y, by
  rw [List.append_assoc]
  exact (List.Perm.append_right X p).trans (by rw [List.append_assoc]; exact List.Perm.append_left T List.perm_append_comm)⟩

/-! ## What of the world is not the heap -/
structure Same (w w' : World) : Prop where
  os : w'.os = w.os
  tape : w'.tape = w.tape
  output : w'.output = w.output
  size : w.heap.size ≤ w'.heap.size
  draws : w.drawn ≤ w'.drawn
theorem Same.refl (w : World) : Same w w := ⟨rfl, rfl, rfl, Nat.le_refl _, Nat.le_refl _⟩
theorem Same.trans {a b c : World} (h : Same a b) (k : Same b c) : Same a c := ⟨k.os.trans h.os, k.tape.trans h.tape, k.output.trans h.output, Nat.le_trans h.size k.size, Nat.le_trans h.draws k.draws⟩
theorem Same.alloc (w : World) (o : Obj) : Same w (w.alloc o) := ⟨rfl, rfl, rfl, by simp, Nat.le_refl _⟩
theorem Same.drawn {w : World} (n : Nat) (h : w.drawn ≤ n) : Same w { w with drawn := n } := ⟨rfl, rfl, rfl, Nat.le_refl _, h⟩
theorem Same.putObj (w : World) (b : Nat) (o : Obj) : Same w (w.putObj b o) := ⟨rfl, rfl, rfl, by simp, Nat.le_refl _⟩

/-- All of the memory that lay there at the start, as it lay. -/
def init (w0 : World) : HP := fun h => h = fun b => if b < w0.heap.size then w0.heap[b]? else none
theorem sat_init (w0 : World) : sat [init w0] w0 := by
  refine ⟨_, ?_, _, Hp.nil, Hp.dj_nil _, (Hp.cup_nil _).symm, rfl, rfl⟩
  intro b o e
  by_cases hb : b < w0.heap.size
  · simpa [hb] using e
  · simp [hb] at e
theorem init_below {w0 w : World} {l : List HP} (s : Same w0 w) (h : sat (init w0 :: l) w) : RowKit.Below w0.heap.size w0 w := by
  refine ⟨s.os, s.tape, s.output, s.size, fun k hk => ?_⟩
  obtain ⟨h, hl, h1, h2, d, rfl, rfl, _⟩ := h
  cases e : w0.heap[k]? with
  | none => simp at e; omega
  | some o => refine hl k o ?_; unfold Hp.cup; simp only [hk, if_true, e]; rfl

end Go.Proofs.YtbconcohpfkncaaGreat
