/-
  The document's answers, and the law ReachClosure.
-/
import Derived.Test.YtpfcgfgkmgnaaaaDoorM4
import Derived.Test.YtpfcgfgkmgnaaaaDoorM3
import Derived.Test.YtpfcgfgkmgnaaaaDoorM2
import Derived.Test.YtpfcgfgkmgnaaaaDoorW
import Derived.Test.YtpfcgfgkmgnaaaaDoorZ
import Derived.Test.YtpfcgfgkmgnaaaaDoorP
namespace Go.Proofs.YtpfcgfgkmgnaaaaDoor
open Go
theorem addX_same {X : Nat → Nat → Bool} {i j : Nat} (h : X i j = true) : addX X i j = X := by
  funext r c
  unfold addX
  by_cases e : r = i ∧ c = j
  · obtain ⟨rfl, rfl⟩ := e
    simp [h]
  · simp [e]
/-- Is anything new? -/
theorem flag_step {C Y : Nat → Nat → Bool} {i j : Nat} (hle : cntX C ≤ cntX Y) (hi : i < 1024) (hj : j < 1024) : (decide (cntX C < cntX Y) || !Y i j) = decide (cntX C < cntX (addX Y i j)) ∧ cntX C ≤ cntX (addX Y i j) := by
  cases h : Y i j with
  | true =>
    rw [addX_same h]
    exact ⟨by simp, hle⟩
  | false =>
    rw [cntX_add hi hj h]
    refine ⟨?_, by omega⟩
    rw [decide_eq_true (show cntX C < cntX Y + 1 by omega)]
    simp
theorem setC_nil (X : Nat → Nat → Bool) : setC X [] = X := rfl
/-- What is laid when k outer cells have come, and m inner ones of the next. -/
def layL (q : Nat) (k l : List (Nat × Nat)) (i m : Nat) : List (Nat × Nat) := kronLL q (k.take i) l ++ (match k[i]? with | some p => (kronL q p l).take m | none => [])
theorem layL_zero (q : Nat) (k l : List (Nat × Nat)) (i : Nat) : layL q k l i 0 = kronLL q (k.take i) l := by
  unfold layL
  cases k[i]? with
  | none => exact List.append_nil _
  | some p => exact List.append_nil _
theorem layL_succ {q : Nat} {k l : List (Nat × Nat)} {i m : Nat} {p x : Nat × Nat} (hp : k[i]? = some p) (hx : l[m]? = some x) : layL q k l i (m + 1) = layL q k l i m ++ [(p.1 * q + x.1, p.2 * q + x.2)] := by
  unfold layL
  rw [hp]
  have h : (kronL q p l)[m]? = some (p.1 * q + x.1, p.2 * q + x.2) := by unfold kronL; rw [List.getElem?_map, hx]; rfl
  show _ ++ (kronL q p l).take (m + 1) = _ ++ (kronL q p l).take m ++ _
  rw [List.take_add_one, h, List.append_assoc]; rfl
theorem layL_end {q : Nat} {k l : List (Nat × Nat)} {i : Nat} {p : Nat × Nat} (hp : k[i]? = some p) : layL q k l i l.length = layL q k l (i + 1) 0 := by
  rw [layL_zero]
  unfold layL kronLL
  rw [hp, List.take_add_one, hp, List.flatMap_append]
  show _ ++ (kronL q p l).take l.length = _
  have : (kronL q p l).take l.length = kronL q p l := List.take_of_length_le (by unfold kronL; rw [List.length_map]; exact Nat.le_refl _)
  rw [this]
  show _ = _ ++ (kronL q p l ++ [])
  rw [List.append_nil]
theorem layL_all {q : Nat} {k l : List (Nat × Nat)} : layL q k l k.length 0 = kronLL q k l := by rw [layL_zero, List.take_length]
theorem setC_snoc (X : Nat → Nat → Bool) (l : List (Nat × Nat)) (p : Nat × Nat) : setC X (l ++ [p]) = addX (setC X l) p.1 p.2 := by rw [setC_app]; rfl
end Go.Proofs.YtpfcgfgkmgnaaaaDoor
namespace Go.Proofs.YtpfcgfgkmgnaaaaDoor
open Go
def SubX (X Y : Nat → Nat → Bool) : Prop := ∀ r c, X r c = true → Y r c = true
def TrX (X : Nat → Nat → Bool) : Prop := ∀ r k c, X r k = true → X k c = true → X r c = true
/-- X is the closure of M. -/
def IsClo (M X : Nat → Nat → Bool) : Prop := SubX M X ∧ TrX X ∧ ∀ Y, SubX M Y → TrX Y → SubX X Y
theorem sub_anti {X Y : Nat → Nat → Bool} (h : SubX X Y) (k : SubX Y X) : X = Y := by
  funext r c
  rw [Bool.eq_iff_iff]
  exact ⟨h r c, k r c⟩
theorem IsClo.uniq {M X Y : Nat → Nat → Bool} (h : IsClo M X) (k : IsClo M Y) : X = Y := sub_anti (h.2.2 Y k.1 k.2.1) (k.2.2 X h.1 h.2.1)
theorem IsClo.in {s : Nat} {M X : Nat → Nat → Bool} (h : IsClo M X) (hM : ∀ r c, M r c = true → r < s ∧ c < s) : ∀ r c, X r c = true → r < s ∧ c < s := fun r c hx => by
  have h2 := h.2.2 (fun r c => decide (r < s ∧ c < s)) (fun r c h => decide_eq_true (hM r c h)) (fun r k c h1 h2 => decide_eq_true ⟨(of_decide_eq_true h1).1, (of_decide_eq_true h2).2⟩) r c hx
  exact of_decide_eq_true h2
theorem IsClo.self {X : Nat → Nat → Bool} (h : TrX X) : IsClo X X := ⟨fun _ _ h => h, h, fun _ h _ => h⟩
theorem mul_sub {s : Nat} {X Y : Nat → Nat → Bool} (hs : s ≤ 1024) (hX : ∀ r c, X r c = true → r < s ∧ c < s) : SubX (mulX X X) Y ↔ ∀ r k c, X r k = true → X k c = true → Y r c = true := by
  constructor
  · intro h r k c h1 h2
    exact h r c (mulX_iff.2 ⟨k, by have := (hX r k h1).2; omega, h1, h2⟩)
  · intro h r c hm
    obtain ⟨k, _, h1, h2⟩ := mulX_iff.1 hm
    exact h r k c h1 h2
theorem sub_cnt {X Y : Nat → Nat → Bool} (h : SubX X Y) : cntX X ≤ cntX Y := by have := cnt_sub h; omega
theorem cntX_full {s : Nat} {X Y : Nat → Nat → Bool} (hs : s ≤ 1024) (hY : ∀ r c, Y r c = true → r < s ∧ c < s) (h : SubX X Y) (hc : ¬ cntX X < cntX Y) : SubX Y X := by
  have h1 := cnt_sub h
  have h2 : cntX (diffX Y X) = 0 := by omega
  intro r c hy
  cases hx : X r c with
  | true => rfl
  | false =>
    have h3 : diffX Y X r c = true := by unfold diffX; rw [hy, hx]; rfl
    have h4 := cellsX_len (diffX Y X)
    rw [h2] at h4
    have h5 := cellsX_pos hs (fun r c h => hY r c (by unfold diffX at h; rw [Bool.and_eq_true] at h; exact h.1)) h3
    rw [List.eq_nil_of_length_eq_zero h4] at h5
    cases h5
/-- What holds while a closure is made by squares. -/
def CloI (M X : Nat → Nat → Bool) : Prop := SubX M X ∧ ∀ Y, SubX M Y → TrX Y → SubX X Y
theorem CloI.start (M : Nat → Nat → Bool) : CloI M M := ⟨fun _ _ h => h, fun _ h _ => h⟩
theorem CloI.step {s : Nat} {M X : Nat → Nat → Bool} (hs : s ≤ 1024) (hX : ∀ r c, X r c = true → r < s ∧ c < s) (h : CloI M X) : CloI M (uniX X (mulX X X)) := by
  refine ⟨fun r c hm => by unfold uniX; rw [h.1 r c hm]; rfl, fun Y h1 h2 r c hu => ?_⟩
  have h3 := h.2 Y h1 h2
  unfold uniX at hu
  rw [Bool.or_eq_true] at hu
  rcases hu with hu | hu
  · exact h3 r c hu
  · obtain ⟨k, _, a, b⟩ := mulX_iff.1 hu
    exact h2 r k c (h3 _ _ a) (h3 _ _ b)
theorem CloI.end {s : Nat} {M X : Nat → Nat → Bool} (hs : s ≤ 1024) (hX : ∀ r c, X r c = true → r < s ∧ c < s) (h : CloI M X) (hc : ¬ cntX X < cntX (uniX X (mulX X X))) : IsClo M X := by
  have hU := uni_in hX (mulX_in hX hX)
  have h1 := cntX_full hs hU (fun r c h => by unfold uniX; rw [h]; rfl) hc
  refine ⟨h.1, (mul_sub hs hX).1 (fun r c h => h1 r c (by unfold uniX; rw [h, Bool.or_true])), h.2⟩
/-- A step more. -/
def stepX (T : Nat → Nat → Bool) (i j : Nat) : Nat → Nat → Bool := fun u v => T u v || ((decide (u = i) || T u i) && (decide (v = j) || T j v))
theorem step_iff {T : Nat → Nat → Bool} {i j u v : Nat} : stepX T i j u v = true ↔ T u v = true ∨ ((u = i ∨ T u i = true) ∧ (v = j ∨ T j v = true)) := by
  unfold stepX
  simp only [Bool.or_eq_true, Bool.and_eq_true, decide_eq_true_eq]
theorem IsClo.add {S T : Nat → Nat → Bool} (h : IsClo S T) (i j : Nat) : IsClo (addX S i j) (stepX T i j) := by
  obtain ⟨h1, h2, h3⟩ := h
  refine ⟨fun r c hs => ?_, fun r k c a b => ?_, fun Y hY hT r c hx => ?_⟩
  · rw [step_iff]
    unfold addX at hs
    simp only [Bool.or_eq_true, Bool.and_eq_true, decide_eq_true_eq] at hs
    rcases hs with hs | ⟨rfl, rfl⟩
    · exact .inl (h1 _ _ hs)
    · exact .inr ⟨.inl rfl, .inl rfl⟩
  · rw [step_iff] at a b ⊢
    rcases a with a | ⟨a1, a2⟩
    · rcases b with b | ⟨b1, b2⟩
      · exact .inl (h2 _ _ _ a b)
      · refine .inr ⟨.inr ?_, b2⟩
        rcases b1 with rfl | b1
        · exact a
        · exact h2 _ _ _ a b1
    · rcases b with b | ⟨b1, b2⟩
      · refine .inr ⟨a1, .inr ?_⟩
        rcases a2 with rfl | a2
        · exact b
        · exact h2 _ _ _ a2 b
      · exact .inr ⟨a1, b2⟩
  · have hS : SubX S Y := fun r c h => hY r c (by unfold addX; rw [h]; rfl)
    have hij : Y i j = true := hY i j (by unfold addX; simp)
    have hTY := h3 Y hS hT
    rw [step_iff] at hx
    rcases hx with hx | ⟨a, b⟩
    · exact hTY _ _ hx
    · have h4 : Y r j = true := by
        rcases a with rfl | a
        · exact hij
        · exact hT _ _ _ (hTY _ _ a) hij
      rcases b with rfl | b
      · exact h4
      · exact hT _ _ _ h4 (hTY _ _ b)
theorem step_same {S T : Nat → Nat → Bool} (h : IsClo S T) {i j : Nat} (hij : T i j = true) : stepX T i j = T := by
  refine sub_anti (fun u v hx => ?_) (fun u v hx => step_iff.2 (.inl hx))
  rw [step_iff] at hx
  rcases hx with hx | ⟨a, b⟩
  · exact hx
  · have h1 : T u j = true := by
      rcases a with rfl | a
      · exact hij
      · exact h.2.1 _ _ _ a hij
    rcases b with rfl | b
    · exact h1
    · exact h.2.1 _ _ _ h1 b
theorem clo_no : IsClo noX noX := IsClo.self (fun r k c h => by cases h)
/-- A way of one step or more. -/
inductive PathX (M : Nat → Nat → Bool) : Nat → Nat → Prop
  | one {r c : Nat} : M r c = true → PathX M r c
  | more {r k c : Nat} : M r k = true → PathX M k c → PathX M r c
theorem PathX.trans {M : Nat → Nat → Bool} {r k c : Nat} (h : PathX M r k) (g : PathX M k c) : PathX M r c := by
  induction h with
  | one a => exact .more a g
  | more a _ ih => exact .more a (ih g)
theorem IsClo.path {M X : Nat → Nat → Bool} (h : IsClo M X) (r c : Nat) : X r c = true ↔ PathX M r c := by
  constructor
  · intro hx
    have h1 := h.2.2 (fun r c => @decide (PathX M r c) (Classical.propDecidable _)) (fun r c hm => by
      exact @decide_eq_true _ (Classical.propDecidable _) (PathX.one hm)) (fun r k c a b => by
      exact @decide_eq_true _ (Classical.propDecidable _) ((@of_decide_eq_true _ (Classical.propDecidable _) a).trans (@of_decide_eq_true _ (Classical.propDecidable _) b))) r c hx
    exact @of_decide_eq_true _ (Classical.propDecidable _) h1
  · intro hp
    induction hp with
    | one a => exact h.1 _ _ a
    | more a _ ih => exact h.2.1 _ _ _ (h.1 _ _ a) ih
end Go.Proofs.YtpfcgfgkmgnaaaaDoor
namespace Go.Proofs.YtpfcgfgkmgnaaaaDoor
open Go
abbrev rowS (s : Nat) (bs caps : Nat → Nat) (i : Nat) : Value := .slice (some ⟨bs i, 0, none⟩) s (caps i)
/-- s rows of s truths: the i-th row lies in block bs i. The rows' slices, and the rows. -/
def rowsO (s bo co : Nat) (bs caps : Nat → Nat) : HP := own 75 1 s (.slice (some ⟨bo, 0, none⟩) s co) (rowV (fun v : Value => v) (rowS s bs caps) s)
def rowsF (s : Nat) (bs caps : Nat → Nat) (T : Nat → Nat → Bool) : HP := fam 4 1 s (rowS s bs caps) (fun _ => s) (fun i => boolsV (T i) s)
def upd2 (T : Nat → Nat → Bool) (i j : Nat) (b : Bool) : Nat → Nat → Bool := fun r c => if r = i ∧ c = j then b else T r c
theorem upd2_ne (T : Nat → Nat → Bool) {i j r : Nat} (b : Bool) (h : r ≠ i) : upd2 T i j b r = T r := by
  funext c
  unfold upd2
  rw [if_neg (fun e => h e.1)]
theorem upd2_at (T : Nat → Nat → Bool) (i j : Nat) (b : Bool) : upd2 T i j b i = upd (T i) j b := by
  funext c
  unfold upd2 upd
  by_cases h : c = j <;> simp [h]
attribute [local irreducible] own
theorem fam_rd {T : TypeId} {sz N : Nat} {vs : Nat → Value} {ln : Nat → Nat} {xs : Nat → List Value} {i : Nat} (hi : i < N) {a : Addr} {v : Value} (h : Rd (own T sz (ln i) (vs i) (xs i)) a v) : Rd (fam T sz N vs ln xs) a v := fun l w s => by
  have s1 := fam_out (T := T) (sz := sz) (N := N) (vs := vs) (ln := ln) (xs := xs) (H := [fam T sz N vs ln xs]) (F := []) hi Tk.h l w s
  exact h _ w s1
theorem rowsO_rd {s bo co : Nat} {bs caps : Nat → Nat} {i : Nat} (hi : i < s) : Rd (rowsO s bo co bs caps) ⟨bo, i, none⟩ (rowS s bs caps i) :=
  Rd.own (rowV_get (f := fun v : Value => v) (o := rowS s bs caps) hi)
theorem rowsF_rd {s : Nat} {bs caps : Nat → Nat} {T : Nat → Nat → Bool} {i j : Nat} (hi : i < s) (hj : j < s) : Rd (rowsF s bs caps T) ⟨bs i, j, none⟩ (.bool (T i j)) :=
  fam_rd hi (Rd.own (rowV_get (f := Value.bool) (o := T i) hj))
theorem rowsO_sl {s bo co : Nat} {bs caps : Nat → Nat} : Sl (rowsO s bo co bs caps) (.slice (some ⟨bo, 0, none⟩) s co) s 1 (rowV (fun v : Value => v) (rowS s bs caps) s) := by
  refine ⟨_, _, rfl, by rw [rowV_len, Nat.mul_one], fun _ => ⟨_, _, rfl, fun j u hj => ?_⟩⟩
  have hjs := (List.getElem?_eq_some_iff.1 hj).1
  rw [rowV_len] at hjs
  rw [rowV_get (f := fun v : Value => v) hjs] at hj
  injection hj with hj
  subst hj
  rw [Nat.zero_add]
  exact rowsO_rd hjs
theorem rowsF_sl {s : Nat} {bs caps : Nat → Nat} {T : Nat → Nat → Bool} {i : Nat} (hi : i < s) : Sl (rowsF s bs caps T) (rowS s bs caps i) s 1 (boolsV (T i) s) := by
  refine ⟨_, _, rfl, by rw [rowV_len, Nat.mul_one], fun _ => ⟨_, _, rfl, fun j u hj => ?_⟩⟩
  have hjs := (List.getElem?_eq_some_iff.1 hj).1
  rw [rowV_len] at hjs
  rw [rowV_get hjs] at hj
  injection hj with hj
  subst hj
  rw [Nat.zero_add]
  exact rowsF_rd hi hjs
theorem fam_congr {T : TypeId} {sz N : Nat} {vs vs' : Nat → Value} {ln ln' : Nat → Nat} {xs xs' : Nat → List Value} (h : ∀ i, i < N → vs i = vs' i ∧ ln i = ln' i ∧ xs i = xs' i) : fam T sz N vs ln xs = fam T sz N vs' ln' xs' := by
  unfold fam
  congr 1
  refine List.map_congr_left fun i hi => ?_
  obtain ⟨h1, h2, h3⟩ := h i (List.mem_range.1 hi)
  rw [h1, h2, h3]
theorem grid_form {s : Nat} (hs : 0 < s) {v : Value} {vs : Nat → Value} {T : Nat → Nat → Bool} {l : List HP} {w : World}
    (h : sat (own 75 1 s v (rowV (fun v : Value => v) vs s) :: fam 4 1 s vs (fun _ => s) (fun i => boolsV (T i) s) :: l) w) :
    ∃ bo co bs caps, v = .slice (some ⟨bo, 0, none⟩) s co ∧ s ≤ co ∧ sat (rowsO s bo co bs caps :: rowsF s bs caps T :: l) w := by
  obtain ⟨bo, co, rfl, hc, _, _⟩ := own_form hs h
  have hf : ∀ i : Nat, ∃ p : Nat × Nat, i < s → vs i = .slice (some ⟨p.1, 0, none⟩) s p.2 := fun i => by
    by_cases hi : i < s
    · have h2 := fam_out (T := 4) (sz := 1) (N := s) (vs := vs) (ln := fun _ => s) (xs := fun i => boolsV (T i) s) (F := []) hi Tk.h l w (sat_right (l := [own 75 1 s (.slice (some ⟨bo, 0, none⟩) s co) (rowV (fun v : Value => v) vs s)]) (l' := fam 4 1 s vs (fun _ => s) (fun i => boolsV (T i) s) :: l) h)
      obtain ⟨b, cap, e, _⟩ := own_form hs h2
      exact ⟨(b, cap), fun _ => e⟩
    · exact ⟨(0, 0), fun h => absurd h hi⟩
  obtain ⟨g, hg⟩ := Classical.axiomOfChoice hf
  refine ⟨bo, co, fun i => (g i).1, fun i => (g i).2, rfl, hc, ?_⟩
  have e1 : rowV (fun v : Value => v) vs s = rowV (fun v : Value => v) (rowS s (fun i => (g i).1) (fun i => (g i).2)) s := by
    unfold rowV
    refine List.map_congr_left fun i hi => hg i (List.mem_range.1 hi)
  have e2 : fam 4 1 s vs (fun _ => s) (fun i => boolsV (T i) s) = fam 4 1 s (rowS s (fun i => (g i).1) (fun i => (g i).2)) (fun _ => s) (fun i => boolsV (T i) s) := fam_congr fun i hi => ⟨hg i hi, rfl, rfl⟩
  rw [e1, e2] at h
  exact h
section
variable {P : Program} {c : Cx} {A : Array Oper} {rest : List Oper} {K : Kont} {L : Env} {H F : List HP} {s : Nat} {T : Nat → Nat → Bool} {v : Value} {vs : Nat → Value}
theorem GO.gridIn (hs : 0 < s) (tk : Tks [own 75 1 s v (rowV (fun v : Value => v) vs s), fam 4 1 s vs (fun _ => s) (fun i => boolsV (T i) s)] H F)
    (k : ∀ bo co bs caps, v = .slice (some ⟨bo, 0, none⟩) s co → s ≤ co → GO P c A rest K L (rowsO s bo co bs caps :: rowsF s bs caps T :: F)) : GO P c A rest K L H := by
  rintro a w ⟨h1, h2, ds, h3, h4, h5⟩
  obtain ⟨bo, co, bs, caps, e1, e2, h6⟩ := grid_form hs (sat_perm (List.Perm.append_right _ tk) h5)
  exact k bo co bs caps e1 e2 a w ⟨h1, h2, ds, h3, h4, h6⟩
theorem rowsF_back {bs caps : Nat → Nat} {i j : Nat} {b : Bool} (hi : i < s) (hj : j < s) :
    ImpS (own 4 1 s (rowS s bs caps i) ((boolsV (T i) s).take j ++ [.bool b] ++ (boolsV (T i) s).drop (j + 1)) :: famW 4 1 s (rowS s bs caps) (fun _ => s) (fun i => boolsV (T i) s) i :: F)
      (rowsF s bs caps (upd2 T i j b) :: F) := by
  have e : (boolsV (T i) s).take j ++ [.bool b] ++ (boolsV (T i) s).drop (j + 1) = boolsV (upd2 T i j b i) s := by
    rw [upd2_at, List.append_assoc, List.singleton_append, show (boolsV (T i) s).take j ++ Value.bool b :: (boolsV (T i) s).drop (j + 1) = (boolsV (T i) s).set j (.bool b) by rw [List.set_eq_take_append_cons_drop, if_pos (by rw [rowV_len]; exact hj)]]
    have := rowV_set (f := Value.bool) (o := T i) (n := s) (j := j) (b := b)
    rw [Nat.zero_add, Nat.mul_one] at this
    exact this
  rw [e]
  exact fam_in (T := 4) (sz := 1) (N := s) (i := i) (vs := rowS s bs caps) (vs' := rowS s bs caps) (ln := fun _ => s) (ln' := fun _ => s) (xs := fun i => boolsV (T i) s) (xs' := fun r => boolsV (upd2 T i j b r) s) hi (fun r hr => ⟨rfl, rfl, by rw [upd2_ne T b hr]⟩) ImpS.refl
theorem GO.storeF {ty : TypeId} {t : TypeId} {p : String} {e : Array Edge} {x y : Operand} {i j o : Nat} {bs caps : Nat → Nat} {b : Bool} [hz : SZ P ty 1] (hi : i < s) (hj : j < s) (ho : o = j) (hx : evl L x = some (.pointer (some ⟨bs i, o, none⟩))) (hy : evl L y = some (.bool b))
    (tk : Tk (rowsF s bs caps T) H F) (k : GO P c A rest K L (rowsF s bs caps (upd2 T i j b) :: F)) : GO P c A (⟨none, .store ty x y, t, p, e, none⟩ :: rest) K L H := by
  subst ho
  exact GO.famOut (T := 4) (sz := 1) (N := s) (i := i) (vs := rowS s bs caps) (ln := fun _ => s) (xs := fun i => boolsV (T i) s) hi tk (GO.storeOwn (w0 := 1) (vs := [.bool b]) hx hy rfl rfl Tk.h (by rw [rowV_len]; omega) (by simp [Value.oneCell']) (GO.imp (H' := rowsF s bs caps (upd2 T i o b) :: F) (fun l w s => rowsF_back (F := F) hi hj l w s) k))
end
attribute [irreducible] rowsO rowsF
end Go.Proofs.YtpfcgfgkmgnaaaaDoor
namespace Go.Proofs.YtpfcgfgkmgnaaaaDoor
open Go
/-- The first a of k with all of l, and the next one with the first m of l. -/
def prs (k l : List Nat) (a m : Nat) : List (Nat × Nat) := ((k.take a).flatMap fun u => l.map fun v => (u, v)) ++ (match k[a]? with | some u => (l.take m).map fun v => (u, v) | none => [])
theorem prs_zero0 (k l : List Nat) : prs k l 0 0 = [] := by
  unfold prs
  cases k[0]? <;> rfl
theorem prs_zero (k l : List Nat) (a : Nat) : prs k l a 0 = (k.take a).flatMap fun u => l.map fun v => (u, v) := by
  unfold prs
  cases k[a]? with
  | none => exact List.append_nil _
  | some u => exact List.append_nil _
theorem prs_succ {k l : List Nat} {a m u v : Nat} (hu : k[a]? = some u) (hv : l[m]? = some v) : prs k l a (m + 1) = prs k l a m ++ [(u, v)] := by
  unfold prs
  rw [hu]
  show _ ++ (l.take (m + 1)).map _ = _ ++ (l.take m).map _ ++ _
  rw [List.take_add_one, hv, List.map_append, List.append_assoc]; rfl
theorem prs_end {k l : List Nat} {a u : Nat} (hu : k[a]? = some u) : prs k l a l.length = prs k l (a + 1) 0 := by
  rw [prs_zero]
  unfold prs
  rw [hu, List.take_add_one, hu, List.flatMap_append]
  show _ ++ (l.take l.length).map _ = _
  rw [List.take_length]
  show _ = _ ++ (l.map (fun v => (u, v)) ++ [])
  rw [List.append_nil]
theorem prs_mem {k l : List Nat} {a m : Nat} {p : Nat × Nat} (h : p ∈ prs k l a m) : p.1 ∈ k ∧ p.2 ∈ l := by
  unfold prs at h
  rcases List.mem_append.1 h with h | h
  · obtain ⟨u, hu, h⟩ := List.mem_flatMap.1 h
    obtain ⟨v, hv, rfl⟩ := List.mem_map.1 h
    exact ⟨List.mem_of_mem_take hu, hv⟩
  · cases hk : k[a]? with
    | none => rw [hk] at h; cases h
    | some u =>
      rw [hk] at h
      obtain ⟨v, hv, rfl⟩ := List.mem_map.1 h
      exact ⟨List.mem_of_getElem? hk, List.mem_of_mem_take hv⟩
theorem prs_not {k l : List Nat} (hk : k.Nodup) (hl : l.Nodup) {a m u v : Nat} (hu : k[a]? = some u) (hv : l[m]? = some v) : (u, v) ∉ prs k l a m := by
  intro h
  unfold prs at h
  have key : ∀ {q : List Nat} {n x : Nat}, q.Nodup → q[n]? = some x → x ∈ q.take n → False := by
    intro q n x hq hx hm
    obtain ⟨t, ht⟩ := List.getElem?_of_mem hm
    have h1 := (List.getElem?_eq_some_iff.1 ht).1
    rw [List.length_take] at h1
    rw [List.getElem?_take_of_lt (by omega)] at ht
    have h2 : t < q.length := by omega
    have := (List.getElem?_inj h2 hq).1 (ht.trans hx.symm)
    omega
  rcases List.mem_append.1 h with h | h
  · obtain ⟨x, hx, h⟩ := List.mem_flatMap.1 h
    obtain ⟨y, hy, e⟩ := List.mem_map.1 h
    injection e with e1 e2
    subst e1
    exact key hk hu hx
  · rw [hu] at h
    obtain ⟨y, hy, e⟩ := List.mem_map.1 h
    injection e with e1 e2
    subst e2
    exact key hl hv hy
theorem prs_len {k l : List Nat} {a m : Nat} (ha : a < k.length) (hm : m ≤ l.length) : (prs k l a m).length ≤ k.length * l.length := by
  have h1 : (prs k l a m).length = a * l.length + m := by
    unfold prs
    rw [List.length_append, List.length_flatMap, List.getElem?_eq_getElem ha]
    simp only [List.length_map]
    rw [List.map_const', List.sum_replicate_nat, List.length_take, List.length_take, Nat.min_eq_left (by omega), Nat.min_eq_left hm]
  rw [h1]
  have h := Nat.mul_le_mul_right l.length (show a + 1 ≤ k.length from ha)
  rw [Nat.add_mul, Nat.one_mul] at h
  omega
theorem setC_keep {T : Nat → Nat → Bool} {l : List (Nat × Nat)} {u v : Nat} (h : (u, v) ∉ l) : setC T l u v = T u v := by
  rw [setC_at]
  have : (l.any fun p => decide (u = p.1) && decide (v = p.2)) = false := by
    rw [List.any_eq_false]
    intro p hp
    simp only [Bool.and_eq_true, decide_eq_true_eq]
    rintro ⟨rfl, rfl⟩
    exact h hp
  rw [this, Bool.or_false]
/-- Of some cells those that are new. -/
def newC (T : Nat → Nat → Bool) (l : List (Nat × Nat)) : List (Nat × Nat) := l.filter fun p => !T p.1 p.2
theorem newC_len (T : Nat → Nat → Bool) (l : List (Nat × Nat)) : (newC T l).length ≤ l.length := List.length_filter_le _ _
theorem newC_yes {T : Nat → Nat → Bool} {l : List (Nat × Nat)} {p : Nat × Nat} (h : T p.1 p.2 = false) : newC T (l ++ [p]) = newC T l ++ [p] := by
  unfold newC; rw [List.filter_append]; simp [h]
theorem newC_no {T : Nat → Nat → Bool} {l : List (Nat × Nat)} {p : Nat × Nat} (h : T p.1 p.2 = true) : newC T (l ++ [p]) = newC T l := by
  unfold newC; rw [List.filter_append]; simp [h]
/-- The rows ahead of a step, the ones behind it. -/
def befL (T : Nat → Nat → Bool) (i n : Nat) : List Nat := (List.range n).filter fun u => decide (u = i) || T u i
def behL (T : Nat → Nat → Bool) (j n : Nat) : List Nat := (List.range n).filter fun v => decide (v = j) || T j v
theorem bef_yes {T : Nat → Nat → Bool} {i n : Nat} (h : (decide (n = i) || T n i) = true) : befL T i (n + 1) = befL T i n ++ [n] := by
  unfold befL; rw [List.range_succ, List.filter_append]; simp [h]
theorem bef_no {T : Nat → Nat → Bool} {i n : Nat} (h : (decide (n = i) || T n i) = false) : befL T i (n + 1) = befL T i n := by
  unfold befL; rw [List.range_succ, List.filter_append]; simp [h]
theorem beh_yes {T : Nat → Nat → Bool} {j n : Nat} (h : (decide (n = j) || T j n) = true) : behL T j (n + 1) = behL T j n ++ [n] := by
  unfold behL; rw [List.range_succ, List.filter_append]; simp [h]
theorem beh_no {T : Nat → Nat → Bool} {j n : Nat} (h : (decide (n = j) || T j n) = false) : behL T j (n + 1) = behL T j n := by
  unfold behL; rw [List.range_succ, List.filter_append]; simp [h]
theorem bef_len (T : Nat → Nat → Bool) (i n : Nat) : (befL T i n).length ≤ n := by
  have := List.length_filter_le (fun u => decide (u = i) || T u i) (List.range n)
  rw [List.length_range] at this
  exact this
theorem beh_len (T : Nat → Nat → Bool) (j n : Nat) : (behL T j n).length ≤ n := by
  have := List.length_filter_le (fun v => decide (v = j) || T j v) (List.range n)
  rw [List.length_range] at this
  exact this
theorem bef_mem {T : Nat → Nat → Bool} {i n u : Nat} : u ∈ befL T i n ↔ u < n ∧ (u = i ∨ T u i = true) := by
  unfold befL; rw [List.mem_filter, List.mem_range, Bool.or_eq_true, decide_eq_true_iff]
theorem beh_mem {T : Nat → Nat → Bool} {j n v : Nat} : v ∈ behL T j n ↔ v < n ∧ (v = j ∨ T j v = true) := by
  unfold behL; rw [List.mem_filter, List.mem_range, Bool.or_eq_true, decide_eq_true_iff]
theorem bef_up (T : Nat → Nat → Bool) (i n : Nat) : (befL T i n).Pairwise (· < ·) := List.Pairwise.filter _ List.pairwise_lt_range
theorem beh_up (T : Nat → Nat → Bool) (j n : Nat) : (behL T j n).Pairwise (· < ·) := List.Pairwise.filter _ List.pairwise_lt_range
theorem up_nodup {l : List Nat} (h : l.Pairwise (· < ·)) : l.Nodup := h.imp (fun h => by omega)
theorem prs_step {s : Nat} {T : Nat → Nat → Bool} (hT : ∀ r c, T r c = true → r < s ∧ c < s) {i j : Nat} (hi : i < s) (hj : j < s) : setC T (prs (befL T i s) (behL T j s) (befL T i s).length 0) = stepX T i j := by
  refine sub_anti (fun u v h => ?_) (fun u v h => ?_)
  · rw [setC_at, Bool.or_eq_true, List.any_eq_true] at h
    rw [step_iff]
    rcases h with h | ⟨p, hp, h⟩
    · exact .inl h
    · simp only [Bool.and_eq_true, decide_eq_true_eq] at h
      obtain ⟨rfl, rfl⟩ := h
      have h2 := prs_mem hp
      exact .inr ⟨(bef_mem.1 h2.1).2, (beh_mem.1 h2.2).2⟩
  · rw [step_iff] at h
    rw [setC_at, Bool.or_eq_true, List.any_eq_true]
    rcases h with h | ⟨a, b⟩
    · exact .inl h
    · refine .inr ⟨(u, v), ?_, by simp⟩
      rw [prs_zero, List.take_length]
      have hu : u < s := by exact a.elim (fun e => e ▸ hi) (fun h => (hT _ _ h).1)
      have hv : v < s := by exact b.elim (fun e => e ▸ hj) (fun h => (hT _ _ h).2)
      exact List.mem_flatMap.2 ⟨u, bef_mem.2 ⟨hu, a⟩, List.mem_map.2 ⟨v, beh_mem.2 ⟨hv, b⟩, rfl⟩⟩
theorem prs_up {k l : List Nat} (hk : k.Pairwise (· < ·)) (hl : l.Pairwise (· < ·)) : (prs k l k.length 0).Pairwise fun a b => ltC ((a.1 : Int), (a.2 : Int)) ((b.1 : Int), (b.2 : Int)) = true := by
  rw [prs_zero, List.take_length]
  induction k with
  | nil => exact List.Pairwise.nil
  | cons u k ih =>
    rw [List.flatMap_cons]
    refine List.pairwise_append.2 ⟨?_, ih (List.Pairwise.of_cons hk), ?_⟩
    · refine List.pairwise_map.2 (hl.imp fun {a b} h => ?_)
      rw [ltC_iff]
      dsimp only
      omega
    · intro a ha b hb
      obtain ⟨v, hv, rfl⟩ := List.mem_map.1 ha
      obtain ⟨x, hx, hb⟩ := List.mem_flatMap.1 hb
      obtain ⟨y, hy, rfl⟩ := List.mem_map.1 hb
      have := List.rel_of_pairwise_cons hk hx
      rw [ltC_iff]
      dsimp only
      omega
theorem cells_pairs (X : Nat → Nat → Bool) : (cellsX X).Pairwise fun a b => ltC ((a.1 : Int), (a.2 : Int)) ((b.1 : Int), (b.2 : Int)) = true := by
  have h := cells_up X
  unfold Up castL at h
  exact List.pairwise_map.1 h
theorem new_step {s : Nat} {T : Nat → Nat → Bool} (hs : s ≤ 1024) (hT : ∀ r c, T r c = true → r < s ∧ c < s) {i j : Nat} (hi : i < s) (hj : j < s) : newC T (prs (befL T i s) (behL T j s) (befL T i s).length 0) = cellsX (diffX (stepX T i j) T) := by
  refine strict_unique (R := fun a b : Nat × Nat => ltC ((a.1 : Int), (a.2 : Int)) ((b.1 : Int), (b.2 : Int)) = true) (fun _ _ h => ltC_asymm h) (List.Pairwise.filter _ (prs_up (bef_up T i s) (beh_up T j s))) (cells_pairs _) fun p => ?_
  have hin : ∀ r c, diffX (stepX T i j) T r c = true → r < s ∧ c < s := fun r c h => by
    unfold diffX at h
    rw [Bool.and_eq_true, step_iff] at h
    rcases h.1 with h | ⟨a, b⟩
    · exact hT _ _ h
    · refine ⟨?_, ?_⟩
      · exact a.elim (fun e => e ▸ hi) (fun h => (hT _ _ h).1)
      · exact b.elim (fun e => e ▸ hj) (fun h => (hT _ _ h).2)
  rw [cellsX_iff hs hin]
  unfold newC
  rw [List.mem_filter, ← prs_step hT hi hj]
  unfold diffX
  rw [setC_at]
  cases hp : T p.1 p.2 with
  | true => simp [hp]
  | false =>
    simp only [Bool.not_false, and_true, Bool.false_or, Bool.and_true, List.any_eq_true, Bool.and_eq_true, decide_eq_true_eq]
    constructor
    · intro h; exact ⟨p, h, rfl, rfl⟩
    · rintro ⟨x, hx, h1, h2⟩
      have : p = x := Prod.ext h1 h2
      rw [this]; exact hx
theorem step_in {s : Nat} {T : Nat → Nat → Bool} (hT : ∀ r c, T r c = true → r < s ∧ c < s) {i j : Nat} (hi : i < s) (hj : j < s) : ∀ r c, stepX T i j r c = true → r < s ∧ c < s := fun r c h => by
  rw [step_iff] at h
  rcases h with h | ⟨a, b⟩
  · exact hT _ _ h
  · refine ⟨?_, ?_⟩
    · rcases a with rfl | a
      · exact hi
      · exact (hT _ _ a).1
    · rcases b with rfl | b
      · exact hj
      · exact (hT _ _ b).2
theorem upd_add (T : Nat → Nat → Bool) (u v : Nat) : upd2 T u v true = addX T u v := by
  funext r c
  unfold upd2 addX
  by_cases h : r = u ∧ c = v
  · rw [if_pos h, h.1, h.2]; simp
  · rw [if_neg h]
    have : (decide (r = u) && decide (c = v)) = false := by
      rw [Bool.eq_false_iff]
      intro h2
      simp only [Bool.and_eq_true, decide_eq_true_eq] at h2
      exact h h2
    rw [this, Bool.or_false]
theorem upd_flip (T : Nat → Nat → Bool) (u v : Nat) : upd2 (flipX T) v u true = flipX (addX T u v) := by
  rw [upd_add]
  funext r c
  show (T c r || (decide (r = v) && decide (c = u))) = (T c r || (decide (c = u) && decide (r = v)))
  rw [Bool.and_comm]
end Go.Proofs.YtpfcgfgkmgnaaaaDoor
namespace Go.Proofs.YtpfcgfgkmgnaaaaDoor
open Go
/-- Where a keeper's parts lie. -/
structure KD where
  bs : Nat
  bt : Nat
  ct : Nat
  bf : Nat
  cf : Nat
  bst : Nat → Nat
  cst : Nat → Nat
  bsf : Nat → Nat
  csf : Nat → Nat
abbrev hdK (s bk : Nat) (d : KD) (c : Nat) : HP := pt bk (row [ptrV d.bs, i64 (c : Nat), .slice (some ⟨d.bt, 0, none⟩) s d.ct, .slice (some ⟨d.bf, 0, none⟩) s d.cf] 83)
/-- A keeper: its head; its steps; what is reached from each row; from where each row is reached. -/
abbrev keepL (s bk : Nat) (d : KD) (S T : Nat → Nat → Bool) : List HP := [hdK s bk d (cntX T), mat s S d.bs, rowsO s d.bt d.ct d.bst d.cst, rowsF s d.bst d.cst T, rowsO s d.bf d.cf d.bsf d.csf, rowsF s d.bsf d.csf (flipX T)]
theorem inM_no {s : Nat} {i j : Int} (h : ¬ (0 ≤ i ∧ 0 ≤ j ∧ i < s ∧ j < s)) : inM s i j = false := by
  rw [Bool.eq_false_iff]
  intro h2
  obtain ⟨m, n, rfl, rfl, h3, h4⟩ := inM_at h2
  omega
theorem inM_yes {s : Nat} {i j : Int} (h : 0 ≤ i ∧ 0 ≤ j ∧ i < s ∧ j < s) : inM s i j = true := by
  obtain ⟨m, rfl⟩ := Int.eq_ofNat_of_zero_le h.1
  obtain ⟨n, rfl⟩ := Int.eq_ofNat_of_zero_le h.2.1
  exact inM_nat (by omega) (by omega)
def wrK (s : Nat) (i j : Int) : Int := if inM s i j then 0 else 2
attribute [local irreducible] G GO GR GT Fn FnV pt init exs pur sat own ImpS mat posL allV orL restX cellsX cellsV cntX
set_option maxHeartbeats 4000000 in
theorem is_k (bk bs : Nat) (u1 u2 u3 : Value) : Fn Tryd.prog 43 #[ptrV bk] [pt bk (row [ptrV bs, u1, u2, u3] 83)] (fun r Q => r = .bool true ∧ Q = [pt bk (row [ptrV bs, u1, u2, u3] 83)]) := by
  refine Fn.mk2 Tryd.func43 rfl rfl fun w0 F => ?_
  (refine G.seq ?_; refine G.region ?_; refine GO.assign rfl rfl ?_; refine GO.nil ?_; refine kthen_n ?_; refine G.seq ?_; refine G.region ?_; refine GO.move rfl rfl ?_; refine GO.neqNilP rfl rfl ?_; refine GO.move rfl rfl ?_; refine GO.gT rfl rfl rfl ?_; refine GO.move rfl rfl ?_; refine GO.gT rfl rfl rfl ?_; refine GO.nilCheck rfl rfl ?_; refine GO.gT rfl rfl rfl ?_; refine GO.fieldAddr rfl rfl ?_; refine GO.gT rfl rfl rfl ?_; refine GO.load1 rfl rfl rfl Tk.h rfl ?_; refine GO.gT rfl rfl rfl ?_; refine GO.neqNilP rfl rfl ?_; refine GO.pickT rfl rfl rfl ?_; refine GO.assign rfl rfl ?_; refine GO.nil ?_; refine kthen_n ?_; refine G.ret ?_)
  refine KF2.r1 rfl (RV.t rfl) ⟨rfl, rfl⟩ (ImpS.sb ?_)
  ((refine Sb.c Tk.h ?_); (exact Sb.r))
theorem isH (s bk : Nat) (d : KD) (c : Nat) : Fn Tryd.prog 43 #[ptrV bk] [hdK s bk d c] (fun r Q => r = .bool true ∧ Q = [hdK s bk d c]) := is_k bk d.bs _ _ _
set_option maxHeartbeats 4000000 in
theorem is_knil : Fn Tryd.prog 43 #[.pointer none] [] (fun r Q => r = .bool false ∧ Q = []) := by
  refine Fn.mk2 Tryd.func43 rfl rfl fun w0 F => ?_
  (refine G.seq ?_; refine G.region ?_; refine GO.assign rfl rfl ?_; refine GO.nil ?_; refine kthen_n ?_; refine G.seq ?_; refine G.region ?_; refine GO.move rfl rfl ?_; refine GO.neqNilP rfl rfl ?_; refine GO.move rfl rfl ?_; refine GO.gF rfl rfl rfl rfl ?_; refine GO.gF rfl rfl rfl rfl ?_; refine GO.gF rfl rfl rfl rfl ?_; refine GO.gF rfl rfl rfl rfl ?_; refine GO.gF rfl rfl rfl rfl ?_; refine GO.pickF rfl rfl rfl ?_; refine GO.assign rfl rfl ?_; refine GO.nil ?_; refine kthen_n ?_; refine G.ret ?_)
  refine KF2.r1 rfl (RV.t rfl) ⟨rfl, rfl⟩ (ImpS.sb ?_)
  (skip; (exact Sb.r))
set_option maxHeartbeats 4000000 in
theorem side_k (s bk : Nat) (d : KD) (c : Nat) (S : Nat → Nat → Bool) : Fn Tryd.prog 51 #[ptrV bk] [hdK s bk d c, mat s S d.bs] (fun r Q => r = i64 (s : Nat) ∧ Q = [hdK s bk d c, mat s S d.bs]) := by
  refine Fn.mk2 Tryd.func51 rfl rfl fun w0 F => ?_
  (refine G.seq ?_; refine G.region ?_; refine GO.assign rfl rfl ?_; refine GO.nil ?_; refine kthen_n ?_; refine G.seq ?_; refine G.seq ?_; refine G.region ?_; refine GO.move rfl rfl ?_)
  refine GO.call1 rfl rfl (isH s bk d c) (Tks.c Tk.h Tks.n) ?_
  rintro _ _ ⟨rfl, rfl⟩
  (refine GO.not rfl rfl ?_; refine GO.nil ?_; refine kthen_n ?_; refine G.condF rfl rfl ?_; refine G.skip ?_; refine kthen_n ?_; refine G.seq ?_; refine G.region ?_; refine GO.move rfl rfl ?_; refine GO.nilCheck rfl rfl ?_; refine GO.fieldAddr rfl rfl ?_; refine GO.load1 rfl rfl rfl Tk.h rfl ?_)
  refine GO.call1 rfl rfl (side_mat s d.bs S) (Tks.c (Tk.t Tk.h) Tks.n) ?_
  rintro _ _ ⟨rfl, rfl⟩
  (refine GO.assign rfl rfl ?_; refine GO.nil ?_; refine kthen_n ?_; refine G.ret ?_)
  refine KF2.r1 rfl (RV.t rfl) ⟨rfl, rfl⟩ (ImpS.sb ?_)
  ((refine Sb.c (Tk.t Tk.h) ?_; refine Sb.c Tk.h ?_); (exact Sb.r))
set_option maxHeartbeats 4000000 in
theorem side_knil : Fn Tryd.prog 51 #[.pointer none] [] (fun r Q => r = i64 0 ∧ Q = []) := by
  refine Fn.mk2 Tryd.func51 rfl rfl fun w0 F => ?_
  (refine G.seq ?_; refine G.region ?_; refine GO.assign rfl rfl ?_; refine GO.nil ?_; refine kthen_n ?_; refine G.seq ?_; refine G.seq ?_; refine G.region ?_; refine GO.move rfl rfl ?_)
  refine GO.call1 rfl rfl (is_knil) Tks.n ?_
  rintro _ _ ⟨rfl, rfl⟩
  (refine GO.not rfl rfl ?_; refine GO.nil ?_; refine kthen_n ?_; refine G.condT rfl rfl ?_; refine G.seq ?_; refine G.region ?_; refine GO.assign rfl rfl ?_; refine GO.nil ?_; refine kthen_n ?_; refine G.ret ?_; refine kthen_r ?_)
  refine KF2.r1 rfl (RV.t rfl) ⟨rfl, rfl⟩ (ImpS.sb ?_)
  (skip; (exact Sb.r))
set_option maxHeartbeats 4000000 in
theorem len_k (s bk : Nat) (d : KD) (c : Nat) : Fn Tryd.prog 31 #[ptrV bk] [hdK s bk d c] (fun r Q => r = i64 (c : Nat) ∧ Q = [hdK s bk d c]) := by
  refine Fn.mk2 Tryd.func31 rfl rfl fun w0 F => ?_
  (refine G.seq ?_; refine G.region ?_; refine GO.assign rfl rfl ?_; refine GO.nil ?_; refine kthen_n ?_; refine G.seq ?_; refine G.seq ?_; refine G.region ?_; refine GO.move rfl rfl ?_)
  refine GO.call1 rfl rfl (isH s bk d c) (Tks.c Tk.h Tks.n) ?_
  rintro _ _ ⟨rfl, rfl⟩
  (refine GO.not rfl rfl ?_; refine GO.nil ?_; refine kthen_n ?_; refine G.condF rfl rfl ?_; refine G.skip ?_; refine kthen_n ?_; refine G.seq ?_; refine G.region ?_; refine GO.move rfl rfl ?_; refine GO.nilCheck rfl rfl ?_; refine GO.fieldAddr rfl rfl ?_; refine GO.load1 rfl rfl rfl Tk.h rfl ?_; refine GO.assign rfl rfl ?_; refine GO.nil ?_; refine kthen_n ?_; refine G.ret ?_)
  refine KF2.r1 rfl (RV.t rfl) ⟨rfl, rfl⟩ (ImpS.sb ?_)
  ((refine Sb.c Tk.h ?_); (exact Sb.r))
set_option maxHeartbeats 4000000 in
theorem len_knil : Fn Tryd.prog 31 #[.pointer none] [] (fun r Q => r = i64 0 ∧ Q = []) := by
  refine Fn.mk2 Tryd.func31 rfl rfl fun w0 F => ?_
  (refine G.seq ?_; refine G.region ?_; refine GO.assign rfl rfl ?_; refine GO.nil ?_; refine kthen_n ?_; refine G.seq ?_; refine G.seq ?_; refine G.region ?_; refine GO.move rfl rfl ?_)
  refine GO.call1 rfl rfl (is_knil) Tks.n ?_
  rintro _ _ ⟨rfl, rfl⟩
  (refine GO.not rfl rfl ?_; refine GO.nil ?_; refine kthen_n ?_; refine G.condT rfl rfl ?_; refine G.seq ?_; refine G.region ?_; refine GO.assign rfl rfl ?_; refine GO.nil ?_; refine kthen_n ?_; refine G.ret ?_; refine kthen_r ?_)
  refine KF2.r1 rfl (RV.t rfl) ⟨rfl, rfl⟩ (ImpS.sb ?_)
  (skip; (exact Sb.r))
set_option maxHeartbeats 4000000 in
theorem wrong_k (s bk : Nat) (d : KD) (c : Nat) (S : Nat → Nat → Bool) (hs : 1 ≤ s) (i j : Int) : Fn Tryd.prog 60 #[ptrV bk, i64 i, i64 j] [hdK s bk d c, mat s S d.bs] (fun r Q => r = i64 (wrK s i j) ∧ Q = [hdK s bk d c, mat s S d.bs]) := by
  have d0 : decide (((s : Nat) : Int) = 0) = false := decide_eq_false (by omega)
  by_cases h1 : i < 0
  · have d1 : decide (i < 0) = true := decide_eq_true h1
    rw [show wrK s i j = 2 by unfold wrK; rw [inM_no (by omega)]; rfl]
    refine Fn.mk2 Tryd.func60 rfl rfl fun w0 F => ?_
    (refine G.seq ?_; refine G.region ?_; refine GO.assign rfl rfl ?_; refine GO.nil ?_; refine kthen_n ?_; refine G.seq ?_; refine G.seq ?_; refine G.region ?_; refine GO.move rfl rfl ?_)
    refine GO.call1 rfl rfl (side_k s bk d c S) (Tks.c Tk.h (Tks.c Tk.h Tks.n)) ?_
    rintro _ _ ⟨rfl, rfl⟩
    (refine GO.assign rfl rfl ?_; refine GO.nil ?_; refine kthen_n ?_; refine G.block ?_; refine G.seq ?_; refine G.region ?_; refine GO.move rfl rfl ?_; refine GO.eqi rfl rfl rfl ?_; refine GO.assign rfl rfl ?_; refine GO.nil ?_; refine kthen_n ?_; refine G.condF rfl (by assumption) ?_; refine G.seq ?_; refine G.region ?_; refine GO.move rfl rfl ?_; refine GO.lti rfl rfl rfl ?_; refine GO.move rfl rfl ?_; refine GO.gF rfl rfl rfl (by assumption) ?_; refine GO.gF rfl rfl rfl (by assumption) ?_; refine GO.pickTa rfl rfl (by assumption) rfl ?_; refine GO.move rfl rfl ?_; refine GO.gF rfl rfl rfl rfl ?_; refine GO.gF rfl rfl rfl rfl ?_; refine GO.gF rfl rfl rfl rfl ?_; refine GO.pickT rfl rfl rfl ?_; refine GO.move rfl rfl ?_; refine GO.gF rfl rfl rfl rfl ?_; refine GO.gF rfl rfl rfl rfl ?_; refine GO.gF rfl rfl rfl rfl ?_; refine GO.pickT rfl rfl rfl ?_; refine GO.assign rfl rfl ?_; refine GO.nil ?_; refine kthen_n ?_; refine G.condT rfl rfl ?_; refine G.seq ?_; refine G.region ?_; refine GO.assign rfl rfl ?_; refine GO.nil ?_; refine kthen_n ?_; refine G.ret ?_; refine kblock_r ?_; refine kthen_r ?_)
    refine KF2.r1 rfl (RV.t rfl) ⟨rfl, rfl⟩ (ImpS.sb ?_)
    ((refine Sb.c Tk.h ?_; refine Sb.c Tk.h ?_); (exact Sb.r))
  have d1 : decide (i < 0) = false := decide_eq_false h1
  by_cases h2 : j < 0
  · have d2 : decide (j < 0) = true := decide_eq_true h2
    rw [show wrK s i j = 2 by unfold wrK; rw [inM_no (by omega)]; rfl]
    refine Fn.mk2 Tryd.func60 rfl rfl fun w0 F => ?_
    (refine G.seq ?_; refine G.region ?_; refine GO.assign rfl rfl ?_; refine GO.nil ?_; refine kthen_n ?_; refine G.seq ?_; refine G.seq ?_; refine G.region ?_; refine GO.move rfl rfl ?_)
    refine GO.call1 rfl rfl (side_k s bk d c S) (Tks.c Tk.h (Tks.c Tk.h Tks.n)) ?_
    rintro _ _ ⟨rfl, rfl⟩
    (refine GO.assign rfl rfl ?_; refine GO.nil ?_; refine kthen_n ?_; refine G.block ?_; refine G.seq ?_; refine G.region ?_; refine GO.move rfl rfl ?_; refine GO.eqi rfl rfl rfl ?_; refine GO.assign rfl rfl ?_; refine GO.nil ?_; refine kthen_n ?_; refine G.condF rfl (by assumption) ?_; refine G.seq ?_; refine G.region ?_; refine GO.move rfl rfl ?_; refine GO.lti rfl rfl rfl ?_; refine GO.move rfl rfl ?_; refine GO.gT rfl rfl (by assumption) ?_; refine GO.move rfl rfl ?_; refine GO.gT rfl rfl (by assumption) ?_; refine GO.lti rfl rfl rfl ?_; refine GO.pickFa rfl rfl (by assumption) rfl ?_; refine GO.move rfl rfl ?_; refine GO.gF rfl rfl rfl (by assumption) ?_; refine GO.gF rfl rfl rfl (by assumption) ?_; refine GO.gF rfl rfl rfl (by assumption) ?_; refine GO.pickTa rfl rfl (by assumption) rfl ?_; refine GO.move rfl rfl ?_; refine GO.gF rfl rfl rfl rfl ?_; refine GO.gF rfl rfl rfl rfl ?_; refine GO.gF rfl rfl rfl rfl ?_; refine GO.pickT rfl rfl rfl ?_; refine GO.assign rfl rfl ?_; refine GO.nil ?_; refine kthen_n ?_; refine G.condT rfl rfl ?_; refine G.seq ?_; refine G.region ?_; refine GO.assign rfl rfl ?_; refine GO.nil ?_; refine kthen_n ?_; refine G.ret ?_; refine kblock_r ?_; refine kthen_r ?_)
    refine KF2.r1 rfl (RV.t rfl) ⟨rfl, rfl⟩ (ImpS.sb ?_)
    ((refine Sb.c Tk.h ?_; refine Sb.c Tk.h ?_); (exact Sb.r))
  have d2 : decide (j < 0) = false := decide_eq_false h2
  by_cases h3 : (s : Int) ≤ i
  · have d3 : decide ((s : Int) ≤ i) = true := decide_eq_true h3
    rw [show wrK s i j = 2 by unfold wrK; rw [inM_no (by omega)]; rfl]
    refine Fn.mk2 Tryd.func60 rfl rfl fun w0 F => ?_
    (refine G.seq ?_; refine G.region ?_; refine GO.assign rfl rfl ?_; refine GO.nil ?_; refine kthen_n ?_; refine G.seq ?_; refine G.seq ?_; refine G.region ?_; refine GO.move rfl rfl ?_)
    refine GO.call1 rfl rfl (side_k s bk d c S) (Tks.c Tk.h (Tks.c Tk.h Tks.n)) ?_
    rintro _ _ ⟨rfl, rfl⟩
    (refine GO.assign rfl rfl ?_; refine GO.nil ?_; refine kthen_n ?_; refine G.block ?_; refine G.seq ?_; refine G.region ?_; refine GO.move rfl rfl ?_; refine GO.eqi rfl rfl rfl ?_; refine GO.assign rfl rfl ?_; refine GO.nil ?_; refine kthen_n ?_; refine G.condF rfl (by assumption) ?_; refine G.seq ?_; refine G.region ?_; refine GO.move rfl rfl ?_; refine GO.lti rfl rfl rfl ?_; refine GO.move rfl rfl ?_; refine GO.gT rfl rfl (by assumption) ?_; refine GO.move rfl rfl ?_; refine GO.gT rfl rfl (by assumption) ?_; refine GO.lti rfl rfl rfl ?_; refine GO.pickFa rfl rfl (by assumption) rfl ?_; refine GO.move rfl rfl ?_; refine GO.gT rfl rfl (by assumption) ?_; refine GO.move rfl rfl ?_; refine GO.gT rfl rfl (by assumption) ?_; refine GO.move rfl rfl ?_; refine GO.gT rfl rfl (by assumption) ?_; refine GO.gei rfl rfl rfl ?_; refine GO.pickFa rfl rfl (by assumption) rfl ?_; refine GO.move rfl rfl ?_; refine GO.gF rfl rfl rfl (by assumption) ?_; refine GO.gF rfl rfl rfl (by assumption) ?_; refine GO.gF rfl rfl rfl (by assumption) ?_; refine GO.pickTa rfl rfl (by assumption) rfl ?_; refine GO.assign rfl rfl ?_; refine GO.nil ?_; refine kthen_n ?_; refine G.condT rfl rfl ?_; refine G.seq ?_; refine G.region ?_; refine GO.assign rfl rfl ?_; refine GO.nil ?_; refine kthen_n ?_; refine G.ret ?_; refine kblock_r ?_; refine kthen_r ?_)
    refine KF2.r1 rfl (RV.t rfl) ⟨rfl, rfl⟩ (ImpS.sb ?_)
    ((refine Sb.c Tk.h ?_; refine Sb.c Tk.h ?_); (exact Sb.r))
  have d3 : decide ((s : Int) ≤ i) = false := decide_eq_false h3
  by_cases h4 : (s : Int) ≤ j
  · have d4 : decide ((s : Int) ≤ j) = true := decide_eq_true h4
    rw [show wrK s i j = 2 by unfold wrK; rw [inM_no (by omega)]; rfl]
    refine Fn.mk2 Tryd.func60 rfl rfl fun w0 F => ?_
    (refine G.seq ?_; refine G.region ?_; refine GO.assign rfl rfl ?_; refine GO.nil ?_; refine kthen_n ?_; refine G.seq ?_; refine G.seq ?_; refine G.region ?_; refine GO.move rfl rfl ?_)
    refine GO.call1 rfl rfl (side_k s bk d c S) (Tks.c Tk.h (Tks.c Tk.h Tks.n)) ?_
    rintro _ _ ⟨rfl, rfl⟩
    (refine GO.assign rfl rfl ?_; refine GO.nil ?_; refine kthen_n ?_; refine G.block ?_; refine G.seq ?_; refine G.region ?_; refine GO.move rfl rfl ?_; refine GO.eqi rfl rfl rfl ?_; refine GO.assign rfl rfl ?_; refine GO.nil ?_; refine kthen_n ?_; refine G.condF rfl (by assumption) ?_; refine G.seq ?_; refine G.region ?_; refine GO.move rfl rfl ?_; refine GO.lti rfl rfl rfl ?_; refine GO.move rfl rfl ?_; refine GO.gT rfl rfl (by assumption) ?_; refine GO.move rfl rfl ?_; refine GO.gT rfl rfl (by assumption) ?_; refine GO.lti rfl rfl rfl ?_; refine GO.pickFa rfl rfl (by assumption) rfl ?_; refine GO.move rfl rfl ?_; refine GO.gT rfl rfl (by assumption) ?_; refine GO.move rfl rfl ?_; refine GO.gT rfl rfl (by assumption) ?_; refine GO.move rfl rfl ?_; refine GO.gT rfl rfl (by assumption) ?_; refine GO.gei rfl rfl rfl ?_; refine GO.pickFa rfl rfl (by assumption) rfl ?_; refine GO.move rfl rfl ?_; refine GO.gT rfl rfl (by assumption) ?_; refine GO.move rfl rfl ?_; refine GO.gT rfl rfl (by assumption) ?_; refine GO.move rfl rfl ?_; refine GO.gT rfl rfl (by assumption) ?_; refine GO.gei rfl rfl rfl ?_; refine GO.pickFa rfl rfl (by assumption) rfl ?_; refine GO.assign rfl rfl ?_; refine GO.nil ?_; refine kthen_n ?_; refine G.condT rfl (by assumption) ?_; refine G.seq ?_; refine G.region ?_; refine GO.assign rfl rfl ?_; refine GO.nil ?_; refine kthen_n ?_; refine G.ret ?_; refine kblock_r ?_; refine kthen_r ?_)
    refine KF2.r1 rfl (RV.t rfl) ⟨rfl, rfl⟩ (ImpS.sb ?_)
    ((refine Sb.c Tk.h ?_; refine Sb.c Tk.h ?_); (exact Sb.r))
  have d4 : decide ((s : Int) ≤ j) = false := decide_eq_false h4
  rw [show wrK s i j = 0 by unfold wrK; rw [inM_yes (by omega)]; rfl]
  refine Fn.mk2 Tryd.func60 rfl rfl fun w0 F => ?_
  (refine G.seq ?_; refine G.region ?_; refine GO.assign rfl rfl ?_; refine GO.nil ?_; refine kthen_n ?_; refine G.seq ?_; refine G.seq ?_; refine G.region ?_; refine GO.move rfl rfl ?_)
  refine GO.call1 rfl rfl (side_k s bk d c S) (Tks.c Tk.h (Tks.c Tk.h Tks.n)) ?_
  rintro _ _ ⟨rfl, rfl⟩
  (refine GO.assign rfl rfl ?_; refine GO.nil ?_; refine kthen_n ?_; refine G.block ?_; refine G.seq ?_; refine G.region ?_; refine GO.move rfl rfl ?_; refine GO.eqi rfl rfl rfl ?_; refine GO.assign rfl rfl ?_; refine GO.nil ?_; refine kthen_n ?_; refine G.condF rfl (by assumption) ?_; refine G.seq ?_; refine G.region ?_; refine GO.move rfl rfl ?_; refine GO.lti rfl rfl rfl ?_; refine GO.move rfl rfl ?_; refine GO.gT rfl rfl (by assumption) ?_; refine GO.move rfl rfl ?_; refine GO.gT rfl rfl (by assumption) ?_; refine GO.lti rfl rfl rfl ?_; refine GO.pickFa rfl rfl (by assumption) rfl ?_; refine GO.move rfl rfl ?_; refine GO.gT rfl rfl (by assumption) ?_; refine GO.move rfl rfl ?_; refine GO.gT rfl rfl (by assumption) ?_; refine GO.move rfl rfl ?_; refine GO.gT rfl rfl (by assumption) ?_; refine GO.gei rfl rfl rfl ?_; refine GO.pickFa rfl rfl (by assumption) rfl ?_; refine GO.move rfl rfl ?_; refine GO.gT rfl rfl (by assumption) ?_; refine GO.move rfl rfl ?_; refine GO.gT rfl rfl (by assumption) ?_; refine GO.move rfl rfl ?_; refine GO.gT rfl rfl (by assumption) ?_; refine GO.gei rfl rfl rfl ?_; refine GO.pickFa rfl rfl (by assumption) rfl ?_; refine GO.assign rfl rfl ?_; refine GO.nil ?_; refine kthen_n ?_; refine G.condF rfl (by assumption) ?_; refine G.skip ?_; refine kblock_n ?_; refine kthen_n ?_; refine G.seq ?_; refine G.region ?_; refine GO.assign rfl rfl ?_; refine GO.nil ?_; refine kthen_n ?_; refine G.ret ?_)
  refine KF2.r1 rfl (RV.t rfl) ⟨rfl, rfl⟩ (ImpS.sb ?_)
  ((refine Sb.c Tk.h ?_; refine Sb.c Tk.h ?_); (exact Sb.r))
set_option maxHeartbeats 4000000 in
theorem wrong_knil (i j : Int) : Fn Tryd.prog 60 #[.pointer none, i64 i, i64 j] [] (fun r Q => r = i64 1 ∧ Q = []) := by
  refine Fn.mk2 Tryd.func60 rfl rfl fun w0 F => ?_
  (refine G.seq ?_; refine G.region ?_; refine GO.assign rfl rfl ?_; refine GO.nil ?_; refine kthen_n ?_; refine G.seq ?_; refine G.seq ?_; refine G.region ?_; refine GO.move rfl rfl ?_)
  refine GO.call1 rfl rfl (side_knil) Tks.n ?_
  rintro _ _ ⟨rfl, rfl⟩
  (refine GO.assign rfl rfl ?_; refine GO.nil ?_; refine kthen_n ?_; refine G.block ?_; refine G.seq ?_; refine G.region ?_; refine GO.move rfl rfl ?_; refine GO.eqT rfl rfl rfl rfl ?_; refine GO.assign rfl rfl ?_; refine GO.nil ?_; refine kthen_n ?_; refine G.condT rfl rfl ?_; refine G.seq ?_; refine G.region ?_; refine GO.assign rfl rfl ?_; refine GO.nil ?_; refine kthen_n ?_; refine G.ret ?_; refine kblock_r ?_; refine kthen_r ?_)
  refine KF2.r1 rfl (RV.t rfl) ⟨rfl, rfl⟩ (ImpS.sb ?_)
  (skip; (exact Sb.r))
theorem wrK_t {s : Nat} {i j : Int} (h : inM s i j = true) : wrK s i j = 0 := by unfold wrK; rw [if_pos h]
theorem wrK_f {s : Nat} {i j : Int} (h : inM s i j = false) : wrK s i j = 2 := by unfold wrK; rw [if_neg (by rw [h]; decide)]
set_option maxHeartbeats 4000000 in
theorem has_k (s bk : Nat) (d : KD) (c : Nat) (S T : Nat → Nat → Bool) (hs : 1 ≤ s) (i j : Int) : Fn Tryd.prog 38 #[ptrV bk, i64 i, i64 j] [hdK s bk d c, mat s S d.bs, rowsO s d.bt d.ct d.bst d.cst, rowsF s d.bst d.cst T] (fun r Q => r = getM T s i j ∧ Q = [hdK s bk d c, mat s S d.bs, rowsO s d.bt d.ct d.bst d.cst, rowsF s d.bst d.cst T]) := by
  have hw := wrong_k s bk d c S hs i j
  cases hin : inM s i j with
  | false =>
    rw [wrK_f hin] at hw
    rw [show getM T s i j = .tuple #[.bool false, i64 2] by unfold getM; rw [hin]; rfl]
    refine Fn.mk2 Tryd.func38 rfl rfl fun w0 F => ?_
    (refine G.seq ?_; refine G.region ?_; refine GO.assign rfl rfl ?_; refine GO.assign rfl rfl ?_; refine GO.nil ?_; refine kthen_n ?_; refine G.seq ?_; refine G.region ?_; refine GO.move rfl rfl ?_; refine GO.move rfl rfl ?_; refine GO.move rfl rfl ?_)
    refine GO.call3 rfl rfl rfl rfl (hw) (Tks.c Tk.h (Tks.c Tk.h Tks.n)) ?_
    rintro _ _ ⟨rfl, rfl⟩
    (refine GO.assign rfl rfl ?_; refine GO.nil ?_; refine kthen_n ?_; refine G.seq ?_; refine G.seq ?_; refine G.region ?_; refine GO.move rfl rfl ?_; refine GO.nei rfl rfl rfl ?_; refine GO.nil ?_; refine kthen_n ?_; refine G.condT rfl rfl ?_; refine G.seq ?_; refine G.region ?_; refine GO.move rfl rfl ?_; refine GO.assign rfl rfl ?_; refine GO.assign rfl rfl ?_; refine GO.nil ?_; refine kthen_n ?_; refine G.ret ?_; refine kthen_r ?_)
    refine KF2.r2 rfl (RV.t rfl) (RV.t rfl) ⟨rfl, rfl⟩ (ImpS.sb ?_)
    ((refine Sb.c Tk.h ?_; refine Sb.c Tk.h ?_; refine Sb.c Tk.h ?_; refine Sb.c Tk.h ?_); (exact Sb.r))
  | true =>
    rw [wrK_t hin] at hw
    obtain ⟨m, n, rfl, rfl, hm, hn⟩ := inM_at hin
    rw [getM_at hm hn]
    have r1 : Rd (rowsO s d.bt d.ct d.bst d.cst) ⟨d.bt, 0 + m * 1, none⟩ (rowS s d.bst d.cst m) := by rw [Nat.zero_add, Nat.mul_one]; exact rowsO_rd hm
    have r2 : Rd (rowsF s d.bst d.cst T) ⟨d.bst m, 0 + n * 1, none⟩ (.bool (T m n)) := by rw [Nat.zero_add, Nat.mul_one]; exact rowsF_rd hm hn
    refine Fn.mk2 Tryd.func38 rfl rfl fun w0 F => ?_
    (refine G.seq ?_; refine G.region ?_; refine GO.assign rfl rfl ?_; refine GO.assign rfl rfl ?_; refine GO.nil ?_; refine kthen_n ?_; refine G.seq ?_; refine G.region ?_; refine GO.move rfl rfl ?_; refine GO.move rfl rfl ?_; refine GO.move rfl rfl ?_)
    refine GO.call3 rfl rfl rfl rfl (hw) (Tks.c Tk.h (Tks.c Tk.h Tks.n)) ?_
    rintro _ _ ⟨rfl, rfl⟩
    (refine GO.assign rfl rfl ?_; refine GO.nil ?_; refine kthen_n ?_; refine G.seq ?_; refine G.seq ?_; refine G.region ?_; refine GO.move rfl rfl ?_; refine GO.neF rfl rfl rfl rfl ?_; refine GO.nil ?_; refine kthen_n ?_; refine G.condF rfl rfl ?_; refine G.skip ?_; refine kthen_n ?_; refine G.seq ?_; refine G.region ?_; refine GO.move rfl rfl ?_; refine GO.nilCheck rfl rfl ?_; refine GO.fieldAddr rfl rfl ?_; refine GO.load1 rfl rfl rfl Tk.h rfl ?_; refine GO.move rfl rfl ?_; refine GO.idxS rfl rfl rfl ⟨rfl, by omega⟩ ?_; refine GO.loadQ rfl rfl rfl (Tk.t (Tk.t Tk.h)) (by assumption) ?_; refine GO.move rfl rfl ?_; refine GO.idxS rfl rfl rfl ⟨rfl, by omega⟩ ?_; refine GO.loadQ rfl rfl rfl (Tk.t (Tk.t (Tk.t Tk.h))) (by assumption) ?_; refine GO.assign rfl rfl ?_; refine GO.assign rfl rfl ?_; refine GO.nil ?_; refine kthen_n ?_; refine G.ret ?_)
    refine KF2.r2 rfl (RV.t rfl) (RV.t rfl) ⟨rfl, rfl⟩ (ImpS.sb ?_)
    ((refine Sb.c Tk.h ?_; refine Sb.c Tk.h ?_; refine Sb.c Tk.h ?_; refine Sb.c Tk.h ?_); (exact Sb.r))
end Go.Proofs.YtpfcgfgkmgnaaaaDoor
namespace Go.Proofs.YtpfcgfgkmgnaaaaDoor
open Go
theorem diff_self (T : Nat → Nat → Bool) : cellsX (diffX T T) = [] := by
  have : diffX T T = noX := by funext r c; unfold diffX noX; cases T r c <;> rfl
  rw [this, cells_no]
def layT (T : Nat → Nat → Bool) (k l : List Nat) (a m : Nat) : Nat → Nat → Bool := setC T (prs k l a m)
attribute [local irreducible] G GO GR GT Fn FnV pt init exs pur sat own ImpS mat posL allV orL restX cellsX cellsV cntX natsV befL behL prs setC newC layT addX flipX stepX diffX upd2
set_option maxHeartbeats 32000000 in
set_option maxRecDepth 40000 in
theorem step_k (s bk : Nat) (d : KD) (S T : Nat → Nat → Bool) (hs : s ≤ 1024) (hT : ∀ r c, T r c = true → r < s ∧ c < s) (hc : IsClo S T) (i j : Nat) (hi : i < s) (hj : j < s) (y : Value) (hy1 : y.oneCell' = true) (Acc : List (Nat × Nat) → HP) (l0 : List (Nat × Nat)) (hl0 : l0.length ≤ 1048576)
    (htell : ∀ (l : List (Nat × Nat)) (u v : Nat), l.length ≤ 2097152 → u < s → v < s → FnV Tryd.prog y [.agg #[i64 (u : Nat), i64 (v : Nat)]] [Acc l] (fun _ Q => Q = [Acc (l ++ [(u, v)])])) :
    Fn Tryd.prog 61 #[ptrV bk, i64 (i : Nat), i64 (j : Nat), y] (keepL s bk d S T ++ [Acc l0]) (fun _ Q => Q = keepL s bk d (addX S i j) (stepX T i j) ++ [Acc (l0 ++ cellsX (diffX (stepX T i j) T))]) := by
  have q1 : Rd (rowsO s d.bt d.ct d.bst d.cst) ⟨d.bt, 0 + i * 1, none⟩ (rowS s d.bst d.cst i) := by rw [Nat.zero_add, Nat.mul_one]; exact rowsO_rd hi
  have q2 : Rd (rowsF s d.bst d.cst T) ⟨d.bst i, 0 + j * 1, none⟩ (.bool (T i j)) := by rw [Nat.zero_add, Nat.mul_one]; exact rowsF_rd hi hj
  have q3 : Rd (rowsO s d.bf d.cf d.bsf d.csf) ⟨d.bf, 0 + i * 1, none⟩ (rowS s d.bsf d.csf i) := by rw [Nat.zero_add, Nat.mul_one]; exact rowsO_rd hi
  have q4 : ∀ n, n < s → Rd (rowsF s d.bsf d.csf (flipX T)) ⟨d.bsf i, 0 + n * 1, none⟩ (.bool (T n i)) := fun n hn => by
    rw [Nat.zero_add, Nat.mul_one]
    have h := rowsF_rd (bs := d.bsf) (caps := d.csf) (T := flipX T) hi hn
    rw [show flipX T i n = T n i by unfold flipX; rfl] at h
    exact h
  have q5 : Rd (rowsO s d.bt d.ct d.bst d.cst) ⟨d.bt, 0 + j * 1, none⟩ (rowS s d.bst d.cst j) := by rw [Nat.zero_add, Nat.mul_one]; exact rowsO_rd hj
  have q6 : ∀ n, n < s → Rd (rowsF s d.bst d.cst T) ⟨d.bst j, 0 + n * 1, none⟩ (.bool (T j n)) := fun n hn => by rw [Nat.zero_add, Nat.mul_one]; exact rowsF_rd hj hn
  change Fn _ _ _ [hdK s bk d (cntX T), mat s S d.bs, rowsO s d.bt d.ct d.bst d.cst, rowsF s d.bst d.cst T, rowsO s d.bf d.cf d.bsf d.csf, rowsF s d.bsf d.csf (flipX T), Acc l0] (fun _ Q => Q = [hdK s bk d (cntX (stepX T i j)), mat s (addX S i j) d.bs, rowsO s d.bt d.ct d.bst d.cst, rowsF s d.bst d.cst (stepX T i j), rowsO s d.bf d.cf d.bsf d.csf, rowsF s d.bsf d.csf (flipX (stepX T i j)), Acc (l0 ++ cellsX (diffX (stepX T i j) T))])
  refine Fn.mk2 Tryd.func61 rfl rfl fun w0 F => ?_
  (refine G.seq ?_; refine G.region ?_; refine GO.move rfl rfl ?_; refine GO.nilCheck rfl rfl ?_; refine GO.fieldAddr rfl rfl ?_; refine GO.load1 rfl rfl rfl Tk.h rfl ?_; refine GO.move rfl rfl ?_; refine GO.move rfl rfl ?_)
  refine GO.call3 rfl rfl rfl rfl (set_mat s d.bs S (i : Int) (j : Int) hs) (Tks.c (Tk.t Tk.h) Tks.n) ?_
  rintro _ _ (⟨i', j', e1, e2, _, _, rfl, rfl⟩ | ⟨hno, _, _⟩)
  rotate_left 1
  · rw [inM_nat hi hj] at hno
    cases hno
  obtain rfl : i = i' := by omega
  obtain rfl : j = j' := by omega
  cases hij : T i j with
  | true =>
    rw [step_same hc hij, diff_self, List.append_nil]
    rw [hij] at q2
    (refine GO.nil ?_; refine kthen_n ?_; refine G.seq ?_; refine G.seq ?_; refine G.region ?_; refine GO.move rfl rfl ?_; refine GO.nilCheck rfl rfl ?_; refine GO.fieldAddr rfl rfl ?_; refine GO.load1 rfl rfl rfl (Tk.t Tk.h) rfl ?_; refine GO.move rfl rfl ?_; refine GO.idxS rfl rfl rfl ⟨rfl, by omega⟩ ?_; refine GO.loadQ rfl rfl rfl (Tk.t (Tk.t Tk.h)) (by assumption) ?_; refine GO.move rfl rfl ?_; refine GO.idxS rfl rfl rfl ⟨rfl, by omega⟩ ?_; refine GO.loadQ rfl rfl rfl (Tk.t (Tk.t (Tk.t Tk.h))) (by assumption) ?_; refine GO.nil ?_; refine kthen_n ?_; refine G.condT rfl rfl ?_; refine G.ret ?_; refine kthen_r ?_)
    refine KF2.r0 rfl rfl (ImpS.sb ?_)
    ((refine Sb.c (Tk.t Tk.h) ?_; refine Sb.c Tk.h ?_; refine Sb.c Tk.h ?_; refine Sb.c Tk.h ?_; refine Sb.c Tk.h ?_; refine Sb.c Tk.h ?_; refine Sb.c Tk.h ?_); (exact Sb.r))
  | false =>
    rw [hij] at q2
    have hfin := prs_step hT hi hj
    have hnew := new_step hs hT hi hj
    rw [← hnew, ← hfin]
    have b0 : befL T i 0 = [] := by unfold befL; rfl
    have h0 : behL T j 0 = [] := by unfold behL; rfl
    (refine GO.nil ?_; refine kthen_n ?_; refine G.seq ?_; refine G.seq ?_; refine G.region ?_; refine GO.move rfl rfl ?_; refine GO.nilCheck rfl rfl ?_; refine GO.fieldAddr rfl rfl ?_; refine GO.load1 rfl rfl rfl (Tk.t Tk.h) rfl ?_; refine GO.move rfl rfl ?_; refine GO.idxS rfl rfl rfl ⟨rfl, by omega⟩ ?_; refine GO.loadQ rfl rfl rfl (Tk.t (Tk.t Tk.h)) (by assumption) ?_; refine GO.move rfl rfl ?_; refine GO.idxS rfl rfl rfl ⟨rfl, by omega⟩ ?_; refine GO.loadQ rfl rfl rfl (Tk.t (Tk.t (Tk.t Tk.h))) (by assumption) ?_; refine GO.nil ?_; refine kthen_n ?_; refine G.condF rfl rfl ?_; refine G.skip ?_; refine kthen_n ?_; refine G.seq ?_; refine G.region ?_; refine GO.assign rfl rfl ?_; refine GO.assign rfl rfl ?_; refine GO.nil ?_; refine kthen_n ?_; refine G.seq ?_; refine G.seq ?_; refine G.region ?_; refine GO.move rfl rfl ?_; refine GO.nilCheck rfl rfl ?_; refine GO.fieldAddr rfl rfl ?_; refine GO.load1 rfl rfl rfl (Tk.t Tk.h) rfl ?_; refine GO.lenS rfl rfl ?_; refine GO.move rfl rfl ?_; refine GO.nil ?_; refine kthen_n ?_; refine G.block ?_)
    refine G.ownNil (T := 3) (sz := 1) ?_
    refine G.ownNil (T := 3) (sz := 1) ?_
    refine G.loop3 (fun (n : Nat) (v8 v9 : Value) => [(0, ptrV bk), (1, i64 (i : Nat)), (2, i64 (j : Nat)), (3, y), (8, v8), (9, v9), (36, i64 (s : Nat)), (37, i64 (n : Nat))])
      (fun n v8 v9 => own 3 1 (befL T i n).length v8 (natsV (befL T i n)) :: own 3 1 (behL T j n).length v9 (natsV (behL T j n)) :: hdK s bk d (cntX T) :: mat s (addX S i j) d.bs :: rowsO s d.bt d.ct d.bst d.cst :: rowsF s d.bst d.cst T :: rowsO s d.bf d.cf d.bsf d.csf :: rowsF s d.bsf d.csf (flipX T) :: Acc l0 :: F) (fun n _ _ => n ≤ s) (fun n _ _ => s - n) 0 (.slice none 0 0) (.slice none 0 0) (by omega) ?_ ?_ ?_
    · (refine SubE.c rfl rfl ?_; refine SubE.c rfl rfl ?_; refine SubE.c rfl rfl ?_; refine SubE.c rfl rfl ?_; refine SubE.c rfl rfl ?_; refine SubE.c rfl rfl ?_; refine SubE.c rfl rfl ?_; refine SubE.c rfl rfl ?_; exact SubE.n)
    · rw [b0, h0, show natsV [] = [] by unfold natsV; rfl]
      ((refine Sb.c Tk.h ?_; refine Sb.c Tk.h ?_; refine Sb.c (Tk.t Tk.h) ?_; refine Sb.c Tk.h ?_; refine Sb.c Tk.h ?_; refine Sb.c Tk.h ?_; refine Sb.c Tk.h ?_; refine Sb.c Tk.h ?_; refine Sb.c Tk.h ?_); (exact Sb.r))
    · rintro n v8 v9 hn
      (refine G.seq ?_; refine G.region ?_; refine GO.lti rfl rfl rfl ?_; refine GO.nil ?_; refine kthen_n ?_; refine G.seq ?_)
      refine G.condD rfl (fun hlt => ?_) (fun hge => ?_)
      · have hns : n < s := by omega
        have q4 := q4 n hns
        have q6 := q6 n hns
        have lb := bef_len T i n
        have lh := beh_len T j n
        by_cases hni : n = i
        · have di : decide ((n : Int) = (i : Int)) = true := decide_eq_true (by omega)
          have hx := bef_yes (T := T) (i := i) (n := n) (by rw [decide_eq_true hni]; rfl)
          (refine G.skip ?_; refine kthen_n ?_; refine G.seq ?_; refine G.block ?_; refine G.seq ?_; refine G.region ?_; refine GO.move rfl rfl ?_; refine GO.assign rfl rfl ?_; refine GO.nil ?_; refine kthen_n ?_; refine G.seq ?_; refine G.seq ?_; refine G.region ?_; refine GO.move rfl rfl ?_; refine GO.move rfl rfl ?_; refine GO.eqi rfl rfl rfl ?_; refine GO.move rfl rfl ?_; refine GO.gF rfl rfl rfl (by assumption) ?_; refine GO.gF rfl rfl rfl (by assumption) ?_; refine GO.gF rfl rfl rfl (by assumption) ?_; refine GO.gF rfl rfl rfl (by assumption) ?_; refine GO.gF rfl rfl rfl (by assumption) ?_; refine GO.gF rfl rfl rfl (by assumption) ?_; refine GO.gF rfl rfl rfl (by assumption) ?_; refine GO.gF rfl rfl rfl (by assumption) ?_; refine GO.gF rfl rfl rfl (by assumption) ?_; refine GO.gF rfl rfl rfl (by assumption) ?_; refine GO.pickTa rfl rfl (by assumption) rfl ?_; refine GO.nil ?_; refine kthen_n ?_; refine G.condT rfl rfl ?_; refine G.region ?_; refine GO.move rfl rfl ?_; refine GO.move rfl rfl ?_)
          refine GO.buildSlice1 rfl rfl (by simp; rfl) rfl ⟨by omega, by omega⟩ fun bs => ?_
          refine GO.appendOwn (m := 1) (news := [i64 (n : Nat)]) rfl rfl rfl (Tk.t Tk.h) Tk.h rfl (by simp [Value.oneCell']) ⟨by decide, rfl⟩ Nat.one_pos (by unfold maxLen; omega) (by omega) fun v8' => ?_
          rw [natsV_one, show (befL T i n).length + 1 = (befL T i n ++ [n]).length by rw [List.length_append]; rfl, ← hx]
          (refine GO.assign rfl rfl ?_; refine GO.nil ?_; refine kthen_n ?_; refine G.seq ?_; refine G.region ?_; refine GO.move rfl rfl ?_; refine GO.move rfl rfl ?_; refine GO.eqi rfl rfl rfl ?_; refine GO.move rfl rfl ?_)
          by_cases hnj : n = j
          · have dj : decide ((n : Int) = (j : Int)) = true := decide_eq_true (by omega)
            have hy := beh_yes (T := T) (j := j) (n := n) (by rw [decide_eq_true hnj]; rfl)
            (refine GO.gF rfl rfl rfl (by assumption) ?_; refine GO.gF rfl rfl rfl (by assumption) ?_; refine GO.gF rfl rfl rfl (by assumption) ?_; refine GO.gF rfl rfl rfl (by assumption) ?_; refine GO.gF rfl rfl rfl (by assumption) ?_; refine GO.gF rfl rfl rfl (by assumption) ?_; refine GO.gF rfl rfl rfl (by assumption) ?_; refine GO.gF rfl rfl rfl (by assumption) ?_; refine GO.gF rfl rfl rfl (by assumption) ?_; refine GO.gF rfl rfl rfl (by assumption) ?_; refine GO.pickTa rfl rfl (by assumption) rfl ?_; refine GO.nil ?_; refine kthen_n ?_; refine G.condT rfl rfl ?_; refine G.region ?_; refine GO.move rfl rfl ?_; refine GO.move rfl rfl ?_)
            refine GO.buildSlice1 rfl rfl (by simp; rfl) rfl ⟨by omega, by omega⟩ fun bs => ?_
            refine GO.appendOwn (m := 1) (news := [i64 (n : Nat)]) rfl rfl rfl (Tk.t (Tk.t (Tk.t Tk.h))) Tk.h rfl (by simp [Value.oneCell']) ⟨by decide, rfl⟩ Nat.one_pos (by unfold maxLen; omega) (by omega) fun v9' => ?_
            rw [natsV_one, show (behL T j n).length + 1 = (behL T j n ++ [n]).length by rw [List.length_append]; rfl, ← hy]
            (refine GO.assign rfl rfl ?_; refine GO.nil ?_; refine kblock_n ?_; refine kthen_n ?_; refine G.region ?_; refine GO.addi rfl rfl rfl (by omega) ?_; refine GO.move rfl rfl ?_; refine GO.nil ?_; refine kthen_n ?_)
            refine ⟨n + 1, v8', v9', by omega, by omega, ?_, ?_⟩
            · (refine SubE.c rfl rfl ?_; refine SubE.c rfl rfl ?_; refine SubE.c rfl rfl ?_; refine SubE.c rfl rfl ?_; refine SubE.c rfl rfl ?_; refine SubE.c rfl rfl ?_; refine SubE.c rfl rfl ?_; refine SubE.c rfl rfl ?_; exact SubE.n)
            · ((refine Sb.c (Tk.t (Tk.t Tk.h)) ?_; refine Sb.c Tk.h ?_; refine Sb.c (Tk.t (Tk.t Tk.h)) ?_; refine Sb.c (Tk.t (Tk.t Tk.h)) ?_; refine Sb.c (Tk.t (Tk.t Tk.h)) ?_; refine Sb.c (Tk.t (Tk.t Tk.h)) ?_; refine Sb.c (Tk.t (Tk.t Tk.h)) ?_; refine Sb.c (Tk.t (Tk.t Tk.h)) ?_; refine Sb.c (Tk.t (Tk.t Tk.h)) ?_); (refine Sb.s ?_; refine Sb.s ?_; exact Sb.r))
          have dj : decide ((n : Int) = (j : Int)) = false := decide_eq_false (by omega)
          cases hjn : T j n with
          | true =>
            rw [hjn] at q6
            have hy := beh_yes (T := T) (j := j) (n := n) (by rw [hjn, Bool.or_true])
            (refine GO.gT rfl rfl (by assumption) ?_; refine GO.move rfl rfl ?_; refine GO.gT rfl rfl (by assumption) ?_; refine GO.nilCheck rfl rfl ?_; refine GO.gT rfl rfl (by assumption) ?_; refine GO.fieldAddr rfl rfl ?_; refine GO.gT rfl rfl (by assumption) ?_; refine GO.load1 rfl rfl rfl (Tk.t (Tk.t (Tk.t Tk.h))) rfl ?_; refine GO.gT rfl rfl (by assumption) ?_; refine GO.move rfl rfl ?_; refine GO.gT rfl rfl (by assumption) ?_; refine GO.idxS rfl rfl rfl ⟨rfl, by omega⟩ ?_; refine GO.gT rfl rfl (by assumption) ?_; refine GO.loadQ rfl rfl rfl (Tk.t (Tk.t (Tk.t (Tk.t (Tk.t Tk.h))))) (by assumption) ?_; refine GO.gT rfl rfl (by assumption) ?_; refine GO.move rfl rfl ?_; refine GO.gT rfl rfl (by assumption) ?_; refine GO.idxS rfl rfl rfl ⟨rfl, by omega⟩ ?_; refine GO.gT rfl rfl (by assumption) ?_; refine GO.loadQ rfl rfl rfl (Tk.t (Tk.t (Tk.t (Tk.t (Tk.t (Tk.t Tk.h)))))) (by assumption) ?_; refine GO.pickFa rfl rfl (by assumption) rfl ?_; refine GO.nil ?_; refine kthen_n ?_; refine G.condT rfl rfl ?_; refine G.region ?_; refine GO.move rfl rfl ?_; refine GO.move rfl rfl ?_)
            refine GO.buildSlice1 rfl rfl (by simp; rfl) rfl ⟨by omega, by omega⟩ fun bs => ?_
            refine GO.appendOwn (m := 1) (news := [i64 (n : Nat)]) rfl rfl rfl (Tk.t (Tk.t (Tk.t Tk.h))) Tk.h rfl (by simp [Value.oneCell']) ⟨by decide, rfl⟩ Nat.one_pos (by unfold maxLen; omega) (by omega) fun v9' => ?_
            rw [natsV_one, show (behL T j n).length + 1 = (behL T j n ++ [n]).length by rw [List.length_append]; rfl, ← hy]
            (refine GO.assign rfl rfl ?_; refine GO.nil ?_; refine kblock_n ?_; refine kthen_n ?_; refine G.region ?_; refine GO.addi rfl rfl rfl (by omega) ?_; refine GO.move rfl rfl ?_; refine GO.nil ?_; refine kthen_n ?_)
            refine ⟨n + 1, v8', v9', by omega, by omega, ?_, ?_⟩
            · (refine SubE.c rfl rfl ?_; refine SubE.c rfl rfl ?_; refine SubE.c rfl rfl ?_; refine SubE.c rfl rfl ?_; refine SubE.c rfl rfl ?_; refine SubE.c rfl rfl ?_; refine SubE.c rfl rfl ?_; refine SubE.c rfl rfl ?_; exact SubE.n)
            · ((refine Sb.c (Tk.t (Tk.t Tk.h)) ?_; refine Sb.c Tk.h ?_; refine Sb.c (Tk.t (Tk.t Tk.h)) ?_; refine Sb.c (Tk.t (Tk.t Tk.h)) ?_; refine Sb.c (Tk.t (Tk.t Tk.h)) ?_; refine Sb.c (Tk.t (Tk.t Tk.h)) ?_; refine Sb.c (Tk.t (Tk.t Tk.h)) ?_; refine Sb.c (Tk.t (Tk.t Tk.h)) ?_; refine Sb.c (Tk.t (Tk.t Tk.h)) ?_); (refine Sb.s ?_; refine Sb.s ?_; exact Sb.r))
          | false =>
            rw [hjn] at q6
            have hy := beh_no (T := T) (j := j) (n := n) (by rw [hjn, decide_eq_false hnj]; rfl)
            rw [← hy]
            (refine GO.gT rfl rfl (by assumption) ?_; refine GO.move rfl rfl ?_; refine GO.gT rfl rfl (by assumption) ?_; refine GO.nilCheck rfl rfl ?_; refine GO.gT rfl rfl (by assumption) ?_; refine GO.fieldAddr rfl rfl ?_; refine GO.gT rfl rfl (by assumption) ?_; refine GO.load1 rfl rfl rfl (Tk.t (Tk.t (Tk.t Tk.h))) rfl ?_; refine GO.gT rfl rfl (by assumption) ?_; refine GO.move rfl rfl ?_; refine GO.gT rfl rfl (by assumption) ?_; refine GO.idxS rfl rfl rfl ⟨rfl, by omega⟩ ?_; refine GO.gT rfl rfl (by assumption) ?_; refine GO.loadQ rfl rfl rfl (Tk.t (Tk.t (Tk.t (Tk.t (Tk.t Tk.h))))) (by assumption) ?_; refine GO.gT rfl rfl (by assumption) ?_; refine GO.move rfl rfl ?_; refine GO.gT rfl rfl (by assumption) ?_; refine GO.idxS rfl rfl rfl ⟨rfl, by omega⟩ ?_; refine GO.gT rfl rfl (by assumption) ?_; refine GO.loadQ rfl rfl rfl (Tk.t (Tk.t (Tk.t (Tk.t (Tk.t (Tk.t Tk.h)))))) (by assumption) ?_; refine GO.pickFa rfl rfl (by assumption) rfl ?_; refine GO.nil ?_; refine kthen_n ?_; refine G.condF rfl rfl ?_; refine G.skip ?_; refine kblock_n ?_; refine kthen_n ?_; refine G.region ?_; refine GO.addi rfl rfl rfl (by omega) ?_; refine GO.move rfl rfl ?_; refine GO.nil ?_; refine kthen_n ?_)
            refine ⟨n + 1, v8', v9, by omega, by omega, ?_, ?_⟩
            · (refine SubE.c rfl rfl ?_; refine SubE.c rfl rfl ?_; refine SubE.c rfl rfl ?_; refine SubE.c rfl rfl ?_; refine SubE.c rfl rfl ?_; refine SubE.c rfl rfl ?_; refine SubE.c rfl rfl ?_; refine SubE.c rfl rfl ?_; exact SubE.n)
            · ((refine Sb.c Tk.h ?_; refine Sb.c (Tk.t Tk.h) ?_; refine Sb.c (Tk.t Tk.h) ?_; refine Sb.c (Tk.t Tk.h) ?_; refine Sb.c (Tk.t Tk.h) ?_; refine Sb.c (Tk.t Tk.h) ?_; refine Sb.c (Tk.t Tk.h) ?_; refine Sb.c (Tk.t Tk.h) ?_; refine Sb.c (Tk.t Tk.h) ?_); (refine Sb.s ?_; exact Sb.r))
        have di : decide ((n : Int) = (i : Int)) = false := decide_eq_false (by omega)
        cases hin : T n i with
        | true =>
          rw [hin] at q4
          have hx := bef_yes (T := T) (i := i) (n := n) (by rw [hin, Bool.or_true])
          (refine G.skip ?_; refine kthen_n ?_; refine G.seq ?_; refine G.block ?_; refine G.seq ?_; refine G.region ?_; refine GO.move rfl rfl ?_; refine GO.assign rfl rfl ?_; refine GO.nil ?_; refine kthen_n ?_; refine G.seq ?_; refine G.seq ?_; refine G.region ?_; refine GO.move rfl rfl ?_; refine GO.move rfl rfl ?_; refine GO.eqi rfl rfl rfl ?_; refine GO.move rfl rfl ?_; refine GO.gT rfl rfl (by assumption) ?_; refine GO.move rfl rfl ?_; refine GO.gT rfl rfl (by assumption) ?_; refine GO.nilCheck rfl rfl ?_; refine GO.gT rfl rfl (by assumption) ?_; refine GO.fieldAddr rfl rfl ?_; refine GO.gT rfl rfl (by assumption) ?_; refine GO.load1 rfl rfl rfl (Tk.t (Tk.t Tk.h)) rfl ?_; refine GO.gT rfl rfl (by assumption) ?_; refine GO.move rfl rfl ?_; refine GO.gT rfl rfl (by assumption) ?_; refine GO.idxS rfl rfl rfl ⟨rfl, by omega⟩ ?_; refine GO.gT rfl rfl (by assumption) ?_; refine GO.loadQ rfl rfl rfl (Tk.t (Tk.t (Tk.t (Tk.t (Tk.t (Tk.t Tk.h)))))) (by assumption) ?_; refine GO.gT rfl rfl (by assumption) ?_; refine GO.move rfl rfl ?_; refine GO.gT rfl rfl (by assumption) ?_; refine GO.idxS rfl rfl rfl ⟨rfl, by omega⟩ ?_; refine GO.gT rfl rfl (by assumption) ?_; refine GO.loadQ rfl rfl rfl (Tk.t (Tk.t (Tk.t (Tk.t (Tk.t (Tk.t (Tk.t Tk.h))))))) (by assumption) ?_; refine GO.pickFa rfl rfl (by assumption) rfl ?_; refine GO.nil ?_; refine kthen_n ?_; refine G.condT rfl rfl ?_; refine G.region ?_; refine GO.move rfl rfl ?_; refine GO.move rfl rfl ?_)
          refine GO.buildSlice1 rfl rfl (by simp; rfl) rfl ⟨by omega, by omega⟩ fun bs => ?_
          refine GO.appendOwn (m := 1) (news := [i64 (n : Nat)]) rfl rfl rfl (Tk.t Tk.h) Tk.h rfl (by simp [Value.oneCell']) ⟨by decide, rfl⟩ Nat.one_pos (by unfold maxLen; omega) (by omega) fun v8' => ?_
          rw [natsV_one, show (befL T i n).length + 1 = (befL T i n ++ [n]).length by rw [List.length_append]; rfl, ← hx]
          (refine GO.assign rfl rfl ?_; refine GO.nil ?_; refine kthen_n ?_; refine G.seq ?_; refine G.region ?_; refine GO.move rfl rfl ?_; refine GO.move rfl rfl ?_; refine GO.eqi rfl rfl rfl ?_; refine GO.move rfl rfl ?_)
          by_cases hnj : n = j
          · have dj : decide ((n : Int) = (j : Int)) = true := decide_eq_true (by omega)
            have hy := beh_yes (T := T) (j := j) (n := n) (by rw [decide_eq_true hnj]; rfl)
            (refine GO.gF rfl rfl rfl (by assumption) ?_; refine GO.gF rfl rfl rfl (by assumption) ?_; refine GO.gF rfl rfl rfl (by assumption) ?_; refine GO.gF rfl rfl rfl (by assumption) ?_; refine GO.gF rfl rfl rfl (by assumption) ?_; refine GO.gF rfl rfl rfl (by assumption) ?_; refine GO.gF rfl rfl rfl (by assumption) ?_; refine GO.gF rfl rfl rfl (by assumption) ?_; refine GO.gF rfl rfl rfl (by assumption) ?_; refine GO.gF rfl rfl rfl (by assumption) ?_; refine GO.pickTa rfl rfl (by assumption) rfl ?_; refine GO.nil ?_; refine kthen_n ?_; refine G.condT rfl rfl ?_; refine G.region ?_; refine GO.move rfl rfl ?_; refine GO.move rfl rfl ?_)
            refine GO.buildSlice1 rfl rfl (by simp; rfl) rfl ⟨by omega, by omega⟩ fun bs => ?_
            refine GO.appendOwn (m := 1) (news := [i64 (n : Nat)]) rfl rfl rfl (Tk.t (Tk.t (Tk.t Tk.h))) Tk.h rfl (by simp [Value.oneCell']) ⟨by decide, rfl⟩ Nat.one_pos (by unfold maxLen; omega) (by omega) fun v9' => ?_
            rw [natsV_one, show (behL T j n).length + 1 = (behL T j n ++ [n]).length by rw [List.length_append]; rfl, ← hy]
            (refine GO.assign rfl rfl ?_; refine GO.nil ?_; refine kblock_n ?_; refine kthen_n ?_; refine G.region ?_; refine GO.addi rfl rfl rfl (by omega) ?_; refine GO.move rfl rfl ?_; refine GO.nil ?_; refine kthen_n ?_)
            refine ⟨n + 1, v8', v9', by omega, by omega, ?_, ?_⟩
            · (refine SubE.c rfl rfl ?_; refine SubE.c rfl rfl ?_; refine SubE.c rfl rfl ?_; refine SubE.c rfl rfl ?_; refine SubE.c rfl rfl ?_; refine SubE.c rfl rfl ?_; refine SubE.c rfl rfl ?_; refine SubE.c rfl rfl ?_; exact SubE.n)
            · ((refine Sb.c (Tk.t (Tk.t Tk.h)) ?_; refine Sb.c Tk.h ?_; refine Sb.c (Tk.t (Tk.t Tk.h)) ?_; refine Sb.c (Tk.t (Tk.t Tk.h)) ?_; refine Sb.c (Tk.t (Tk.t Tk.h)) ?_; refine Sb.c (Tk.t (Tk.t Tk.h)) ?_; refine Sb.c (Tk.t (Tk.t Tk.h)) ?_; refine Sb.c (Tk.t (Tk.t Tk.h)) ?_; refine Sb.c (Tk.t (Tk.t Tk.h)) ?_); (refine Sb.s ?_; refine Sb.s ?_; exact Sb.r))
          have dj : decide ((n : Int) = (j : Int)) = false := decide_eq_false (by omega)
          cases hjn : T j n with
          | true =>
            rw [hjn] at q6
            have hy := beh_yes (T := T) (j := j) (n := n) (by rw [hjn, Bool.or_true])
            (refine GO.gT rfl rfl (by assumption) ?_; refine GO.move rfl rfl ?_; refine GO.gT rfl rfl (by assumption) ?_; refine GO.nilCheck rfl rfl ?_; refine GO.gT rfl rfl (by assumption) ?_; refine GO.fieldAddr rfl rfl ?_; refine GO.gT rfl rfl (by assumption) ?_; refine GO.load1 rfl rfl rfl (Tk.t (Tk.t (Tk.t Tk.h))) rfl ?_; refine GO.gT rfl rfl (by assumption) ?_; refine GO.move rfl rfl ?_; refine GO.gT rfl rfl (by assumption) ?_; refine GO.idxS rfl rfl rfl ⟨rfl, by omega⟩ ?_; refine GO.gT rfl rfl (by assumption) ?_; refine GO.loadQ rfl rfl rfl (Tk.t (Tk.t (Tk.t (Tk.t (Tk.t Tk.h))))) (by assumption) ?_; refine GO.gT rfl rfl (by assumption) ?_; refine GO.move rfl rfl ?_; refine GO.gT rfl rfl (by assumption) ?_; refine GO.idxS rfl rfl rfl ⟨rfl, by omega⟩ ?_; refine GO.gT rfl rfl (by assumption) ?_; refine GO.loadQ rfl rfl rfl (Tk.t (Tk.t (Tk.t (Tk.t (Tk.t (Tk.t Tk.h)))))) (by assumption) ?_; refine GO.pickFa rfl rfl (by assumption) rfl ?_; refine GO.nil ?_; refine kthen_n ?_; refine G.condT rfl rfl ?_; refine G.region ?_; refine GO.move rfl rfl ?_; refine GO.move rfl rfl ?_)
            refine GO.buildSlice1 rfl rfl (by simp; rfl) rfl ⟨by omega, by omega⟩ fun bs => ?_
            refine GO.appendOwn (m := 1) (news := [i64 (n : Nat)]) rfl rfl rfl (Tk.t (Tk.t (Tk.t Tk.h))) Tk.h rfl (by simp [Value.oneCell']) ⟨by decide, rfl⟩ Nat.one_pos (by unfold maxLen; omega) (by omega) fun v9' => ?_
            rw [natsV_one, show (behL T j n).length + 1 = (behL T j n ++ [n]).length by rw [List.length_append]; rfl, ← hy]
            (refine GO.assign rfl rfl ?_; refine GO.nil ?_; refine kblock_n ?_; refine kthen_n ?_; refine G.region ?_; refine GO.addi rfl rfl rfl (by omega) ?_; refine GO.move rfl rfl ?_; refine GO.nil ?_; refine kthen_n ?_)
            refine ⟨n + 1, v8', v9', by omega, by omega, ?_, ?_⟩
            · (refine SubE.c rfl rfl ?_; refine SubE.c rfl rfl ?_; refine SubE.c rfl rfl ?_; refine SubE.c rfl rfl ?_; refine SubE.c rfl rfl ?_; refine SubE.c rfl rfl ?_; refine SubE.c rfl rfl ?_; refine SubE.c rfl rfl ?_; exact SubE.n)
            · ((refine Sb.c (Tk.t (Tk.t Tk.h)) ?_; refine Sb.c Tk.h ?_; refine Sb.c (Tk.t (Tk.t Tk.h)) ?_; refine Sb.c (Tk.t (Tk.t Tk.h)) ?_; refine Sb.c (Tk.t (Tk.t Tk.h)) ?_; refine Sb.c (Tk.t (Tk.t Tk.h)) ?_; refine Sb.c (Tk.t (Tk.t Tk.h)) ?_; refine Sb.c (Tk.t (Tk.t Tk.h)) ?_; refine Sb.c (Tk.t (Tk.t Tk.h)) ?_); (refine Sb.s ?_; refine Sb.s ?_; exact Sb.r))
          | false =>
            rw [hjn] at q6
            have hy := beh_no (T := T) (j := j) (n := n) (by rw [hjn, decide_eq_false hnj]; rfl)
            rw [← hy]
            (refine GO.gT rfl rfl (by assumption) ?_; refine GO.move rfl rfl ?_; refine GO.gT rfl rfl (by assumption) ?_; refine GO.nilCheck rfl rfl ?_; refine GO.gT rfl rfl (by assumption) ?_; refine GO.fieldAddr rfl rfl ?_; refine GO.gT rfl rfl (by assumption) ?_; refine GO.load1 rfl rfl rfl (Tk.t (Tk.t (Tk.t Tk.h))) rfl ?_; refine GO.gT rfl rfl (by assumption) ?_; refine GO.move rfl rfl ?_; refine GO.gT rfl rfl (by assumption) ?_; refine GO.idxS rfl rfl rfl ⟨rfl, by omega⟩ ?_; refine GO.gT rfl rfl (by assumption) ?_; refine GO.loadQ rfl rfl rfl (Tk.t (Tk.t (Tk.t (Tk.t (Tk.t Tk.h))))) (by assumption) ?_; refine GO.gT rfl rfl (by assumption) ?_; refine GO.move rfl rfl ?_; refine GO.gT rfl rfl (by assumption) ?_; refine GO.idxS rfl rfl rfl ⟨rfl, by omega⟩ ?_; refine GO.gT rfl rfl (by assumption) ?_; refine GO.loadQ rfl rfl rfl (Tk.t (Tk.t (Tk.t (Tk.t (Tk.t (Tk.t Tk.h)))))) (by assumption) ?_; refine GO.pickFa rfl rfl (by assumption) rfl ?_; refine GO.nil ?_; refine kthen_n ?_; refine G.condF rfl rfl ?_; refine G.skip ?_; refine kblock_n ?_; refine kthen_n ?_; refine G.region ?_; refine GO.addi rfl rfl rfl (by omega) ?_; refine GO.move rfl rfl ?_; refine GO.nil ?_; refine kthen_n ?_)
            refine ⟨n + 1, v8', v9, by omega, by omega, ?_, ?_⟩
            · (refine SubE.c rfl rfl ?_; refine SubE.c rfl rfl ?_; refine SubE.c rfl rfl ?_; refine SubE.c rfl rfl ?_; refine SubE.c rfl rfl ?_; refine SubE.c rfl rfl ?_; refine SubE.c rfl rfl ?_; refine SubE.c rfl rfl ?_; exact SubE.n)
            · ((refine Sb.c Tk.h ?_; refine Sb.c (Tk.t Tk.h) ?_; refine Sb.c (Tk.t Tk.h) ?_; refine Sb.c (Tk.t Tk.h) ?_; refine Sb.c (Tk.t Tk.h) ?_; refine Sb.c (Tk.t Tk.h) ?_; refine Sb.c (Tk.t Tk.h) ?_; refine Sb.c (Tk.t Tk.h) ?_; refine Sb.c (Tk.t Tk.h) ?_); (refine Sb.s ?_; exact Sb.r))
        | false =>
          rw [hin] at q4
          have hx := bef_no (T := T) (i := i) (n := n) (by rw [hin, decide_eq_false hni]; rfl)
          rw [← hx]
          (refine G.skip ?_; refine kthen_n ?_; refine G.seq ?_; refine G.block ?_; refine G.seq ?_; refine G.region ?_; refine GO.move rfl rfl ?_; refine GO.assign rfl rfl ?_; refine GO.nil ?_; refine kthen_n ?_; refine G.seq ?_; refine G.seq ?_; refine G.region ?_; refine GO.move rfl rfl ?_; refine GO.move rfl rfl ?_; refine GO.eqi rfl rfl rfl ?_; refine GO.move rfl rfl ?_; refine GO.gT rfl rfl (by assumption) ?_; refine GO.move rfl rfl ?_; refine GO.gT rfl rfl (by assumption) ?_; refine GO.nilCheck rfl rfl ?_; refine GO.gT rfl rfl (by assumption) ?_; refine GO.fieldAddr rfl rfl ?_; refine GO.gT rfl rfl (by assumption) ?_; refine GO.load1 rfl rfl rfl (Tk.t (Tk.t Tk.h)) rfl ?_; refine GO.gT rfl rfl (by assumption) ?_; refine GO.move rfl rfl ?_; refine GO.gT rfl rfl (by assumption) ?_; refine GO.idxS rfl rfl rfl ⟨rfl, by omega⟩ ?_; refine GO.gT rfl rfl (by assumption) ?_; refine GO.loadQ rfl rfl rfl (Tk.t (Tk.t (Tk.t (Tk.t (Tk.t (Tk.t Tk.h)))))) (by assumption) ?_; refine GO.gT rfl rfl (by assumption) ?_; refine GO.move rfl rfl ?_; refine GO.gT rfl rfl (by assumption) ?_; refine GO.idxS rfl rfl rfl ⟨rfl, by omega⟩ ?_; refine GO.gT rfl rfl (by assumption) ?_; refine GO.loadQ rfl rfl rfl (Tk.t (Tk.t (Tk.t (Tk.t (Tk.t (Tk.t (Tk.t Tk.h))))))) (by assumption) ?_; refine GO.pickFa rfl rfl (by assumption) rfl ?_; refine GO.nil ?_; refine kthen_n ?_; refine G.condF rfl rfl ?_; refine G.skip ?_; refine kthen_n ?_; refine G.seq ?_; refine G.region ?_; refine GO.move rfl rfl ?_; refine GO.move rfl rfl ?_; refine GO.eqi rfl rfl rfl ?_; refine GO.move rfl rfl ?_)
          by_cases hnj : n = j
          · have dj : decide ((n : Int) = (j : Int)) = true := decide_eq_true (by omega)
            have hy := beh_yes (T := T) (j := j) (n := n) (by rw [decide_eq_true hnj]; rfl)
            (refine GO.gF rfl rfl rfl (by assumption) ?_; refine GO.gF rfl rfl rfl (by assumption) ?_; refine GO.gF rfl rfl rfl (by assumption) ?_; refine GO.gF rfl rfl rfl (by assumption) ?_; refine GO.gF rfl rfl rfl (by assumption) ?_; refine GO.gF rfl rfl rfl (by assumption) ?_; refine GO.gF rfl rfl rfl (by assumption) ?_; refine GO.gF rfl rfl rfl (by assumption) ?_; refine GO.gF rfl rfl rfl (by assumption) ?_; refine GO.gF rfl rfl rfl (by assumption) ?_; refine GO.pickTa rfl rfl (by assumption) rfl ?_; refine GO.nil ?_; refine kthen_n ?_; refine G.condT rfl rfl ?_; refine G.region ?_; refine GO.move rfl rfl ?_; refine GO.move rfl rfl ?_)
            refine GO.buildSlice1 rfl rfl (by simp; rfl) rfl ⟨by omega, by omega⟩ fun bs => ?_
            refine GO.appendOwn (m := 1) (news := [i64 (n : Nat)]) rfl rfl rfl (Tk.t (Tk.t Tk.h)) Tk.h rfl (by simp [Value.oneCell']) ⟨by decide, rfl⟩ Nat.one_pos (by unfold maxLen; omega) (by omega) fun v9' => ?_
            rw [natsV_one, show (behL T j n).length + 1 = (behL T j n ++ [n]).length by rw [List.length_append]; rfl, ← hy]
            (refine GO.assign rfl rfl ?_; refine GO.nil ?_; refine kblock_n ?_; refine kthen_n ?_; refine G.region ?_; refine GO.addi rfl rfl rfl (by omega) ?_; refine GO.move rfl rfl ?_; refine GO.nil ?_; refine kthen_n ?_)
            refine ⟨n + 1, v8, v9', by omega, by omega, ?_, ?_⟩
            · (refine SubE.c rfl rfl ?_; refine SubE.c rfl rfl ?_; refine SubE.c rfl rfl ?_; refine SubE.c rfl rfl ?_; refine SubE.c rfl rfl ?_; refine SubE.c rfl rfl ?_; refine SubE.c rfl rfl ?_; refine SubE.c rfl rfl ?_; exact SubE.n)
            · ((refine Sb.c (Tk.t (Tk.t Tk.h)) ?_; refine Sb.c Tk.h ?_; refine Sb.c (Tk.t Tk.h) ?_; refine Sb.c (Tk.t Tk.h) ?_; refine Sb.c (Tk.t Tk.h) ?_; refine Sb.c (Tk.t Tk.h) ?_; refine Sb.c (Tk.t Tk.h) ?_; refine Sb.c (Tk.t Tk.h) ?_; refine Sb.c (Tk.t Tk.h) ?_); (refine Sb.s ?_; exact Sb.r))
          have dj : decide ((n : Int) = (j : Int)) = false := decide_eq_false (by omega)
          cases hjn : T j n with
          | true =>
            rw [hjn] at q6
            have hy := beh_yes (T := T) (j := j) (n := n) (by rw [hjn, Bool.or_true])
            (refine GO.gT rfl rfl (by assumption) ?_; refine GO.move rfl rfl ?_; refine GO.gT rfl rfl (by assumption) ?_; refine GO.nilCheck rfl rfl ?_; refine GO.gT rfl rfl (by assumption) ?_; refine GO.fieldAddr rfl rfl ?_; refine GO.gT rfl rfl (by assumption) ?_; refine GO.load1 rfl rfl rfl (Tk.t (Tk.t Tk.h)) rfl ?_; refine GO.gT rfl rfl (by assumption) ?_; refine GO.move rfl rfl ?_; refine GO.gT rfl rfl (by assumption) ?_; refine GO.idxS rfl rfl rfl ⟨rfl, by omega⟩ ?_; refine GO.gT rfl rfl (by assumption) ?_; refine GO.loadQ rfl rfl rfl (Tk.t (Tk.t (Tk.t (Tk.t Tk.h)))) (by assumption) ?_; refine GO.gT rfl rfl (by assumption) ?_; refine GO.move rfl rfl ?_; refine GO.gT rfl rfl (by assumption) ?_; refine GO.idxS rfl rfl rfl ⟨rfl, by omega⟩ ?_; refine GO.gT rfl rfl (by assumption) ?_; refine GO.loadQ rfl rfl rfl (Tk.t (Tk.t (Tk.t (Tk.t (Tk.t Tk.h))))) (by assumption) ?_; refine GO.pickFa rfl rfl (by assumption) rfl ?_; refine GO.nil ?_; refine kthen_n ?_; refine G.condT rfl rfl ?_; refine G.region ?_; refine GO.move rfl rfl ?_; refine GO.move rfl rfl ?_)
            refine GO.buildSlice1 rfl rfl (by simp; rfl) rfl ⟨by omega, by omega⟩ fun bs => ?_
            refine GO.appendOwn (m := 1) (news := [i64 (n : Nat)]) rfl rfl rfl (Tk.t (Tk.t Tk.h)) Tk.h rfl (by simp [Value.oneCell']) ⟨by decide, rfl⟩ Nat.one_pos (by unfold maxLen; omega) (by omega) fun v9' => ?_
            rw [natsV_one, show (behL T j n).length + 1 = (behL T j n ++ [n]).length by rw [List.length_append]; rfl, ← hy]
            (refine GO.assign rfl rfl ?_; refine GO.nil ?_; refine kblock_n ?_; refine kthen_n ?_; refine G.region ?_; refine GO.addi rfl rfl rfl (by omega) ?_; refine GO.move rfl rfl ?_; refine GO.nil ?_; refine kthen_n ?_)
            refine ⟨n + 1, v8, v9', by omega, by omega, ?_, ?_⟩
            · (refine SubE.c rfl rfl ?_; refine SubE.c rfl rfl ?_; refine SubE.c rfl rfl ?_; refine SubE.c rfl rfl ?_; refine SubE.c rfl rfl ?_; refine SubE.c rfl rfl ?_; refine SubE.c rfl rfl ?_; refine SubE.c rfl rfl ?_; exact SubE.n)
            · ((refine Sb.c (Tk.t (Tk.t Tk.h)) ?_; refine Sb.c Tk.h ?_; refine Sb.c (Tk.t Tk.h) ?_; refine Sb.c (Tk.t Tk.h) ?_; refine Sb.c (Tk.t Tk.h) ?_; refine Sb.c (Tk.t Tk.h) ?_; refine Sb.c (Tk.t Tk.h) ?_; refine Sb.c (Tk.t Tk.h) ?_; refine Sb.c (Tk.t Tk.h) ?_); (refine Sb.s ?_; exact Sb.r))
          | false =>
            rw [hjn] at q6
            have hy := beh_no (T := T) (j := j) (n := n) (by rw [hjn, decide_eq_false hnj]; rfl)
            rw [← hy]
            (refine GO.gT rfl rfl (by assumption) ?_; refine GO.move rfl rfl ?_; refine GO.gT rfl rfl (by assumption) ?_; refine GO.nilCheck rfl rfl ?_; refine GO.gT rfl rfl (by assumption) ?_; refine GO.fieldAddr rfl rfl ?_; refine GO.gT rfl rfl (by assumption) ?_; refine GO.load1 rfl rfl rfl (Tk.t (Tk.t Tk.h)) rfl ?_; refine GO.gT rfl rfl (by assumption) ?_; refine GO.move rfl rfl ?_; refine GO.gT rfl rfl (by assumption) ?_; refine GO.idxS rfl rfl rfl ⟨rfl, by omega⟩ ?_; refine GO.gT rfl rfl (by assumption) ?_; refine GO.loadQ rfl rfl rfl (Tk.t (Tk.t (Tk.t (Tk.t Tk.h)))) (by assumption) ?_; refine GO.gT rfl rfl (by assumption) ?_; refine GO.move rfl rfl ?_; refine GO.gT rfl rfl (by assumption) ?_; refine GO.idxS rfl rfl rfl ⟨rfl, by omega⟩ ?_; refine GO.gT rfl rfl (by assumption) ?_; refine GO.loadQ rfl rfl rfl (Tk.t (Tk.t (Tk.t (Tk.t (Tk.t Tk.h))))) (by assumption) ?_; refine GO.pickFa rfl rfl (by assumption) rfl ?_; refine GO.nil ?_; refine kthen_n ?_; refine G.condF rfl rfl ?_; refine G.skip ?_; refine kblock_n ?_; refine kthen_n ?_; refine G.region ?_; refine GO.addi rfl rfl rfl (by omega) ?_; refine GO.move rfl rfl ?_; refine GO.nil ?_; refine kthen_n ?_)
            refine ⟨n + 1, v8, v9, by omega, by omega, ?_, ?_⟩
            · (refine SubE.c rfl rfl ?_; refine SubE.c rfl rfl ?_; refine SubE.c rfl rfl ?_; refine SubE.c rfl rfl ?_; refine SubE.c rfl rfl ?_; refine SubE.c rfl rfl ?_; refine SubE.c rfl rfl ?_; refine SubE.c rfl rfl ?_; exact SubE.n)
            · ((refine Sb.c Tk.h ?_; refine Sb.c Tk.h ?_; refine Sb.c Tk.h ?_; refine Sb.c Tk.h ?_; refine Sb.c Tk.h ?_; refine Sb.c Tk.h ?_; refine Sb.c Tk.h ?_; refine Sb.c Tk.h ?_; refine Sb.c Tk.h ?_); (exact Sb.r))
      · obtain rfl : n = s := by omega
        have mb := fun a u (h : (befL T i n)[a]? = some u) => (bef_mem.1 (List.mem_of_getElem? h)).1
        have mh := fun a u (h : (behL T j n)[a]? = some u) => (beh_mem.1 (List.mem_of_getElem? h)).1
        have ub := up_nodup (bef_up T i n)
        have uh := up_nodup (beh_up T j n)
        have lb := bef_len T i n
        have lh := beh_len T j n
        generalize befL T i n = L1 at *
        generalize behL T j n = L2 at *
        have n0 : newC T (prs L1 L2 0 0) = [] := by rw [prs_zero0]; unfold newC; rfl
        have t0 : layT T L1 L2 0 0 = T := by unfold layT; rw [prs_zero0]; exact setC_nil T
        have tf : setC T (prs L1 L2 L1.length 0) = layT T L1 L2 L1.length 0 := by unfold layT; rfl
        have te := fun a u (h : L1[a]? = some u) => prs_end (l := L2) h
        have ts := fun a m u v (h : L1[a]? = some u) (g : L2[m]? = some v) => prs_succ h g
        have tn := fun a m u v (h : L1[a]? = some u) (g : L2[m]? = some v) => prs_not ub uh h g
        rw [tf]
        clear hfin hnew ub uh q1 q2 q3 q4 q5 q6
        refine G.ownRd Tk.h fun z1 hz1 => ?_
        refine G.ownRd (Tk.t Tk.h) fun z2 hz2 => ?_
        obtain ⟨a1, c1, rfl, _, hr1⟩ := hz1
        obtain ⟨a2, c2, rfl, _, hr2⟩ := hz2
        (refine G.exit ?_; refine kthen_x ?_; refine kthen_x ?_; refine kblock_x ?_; refine kthen_n ?_; refine G.seq ?_; refine G.region ?_; refine GO.move rfl rfl ?_; refine GO.lenS rfl rfl ?_; refine GO.move rfl rfl ?_; refine GO.nil ?_; refine kthen_n ?_; refine G.block ?_)
        refine G.loop (fun a : Nat => [(0, ptrV bk), (3, y), (9, .slice a2 L2.length c2), (79, .slice a1 L1.length c1), (80, i64 (L1.length : Nat)), (81, i64 (a : Nat))])
          (fun a => hdK n bk d (cntX (layT T L1 L2 a 0)) :: mat n (addX S i j) d.bs :: rowsO n d.bt d.ct d.bst d.cst :: rowsF n d.bst d.cst (layT T L1 L2 a 0) :: rowsO n d.bf d.cf d.bsf d.csf :: rowsF n d.bsf d.csf (flipX (layT T L1 L2 a 0)) :: Acc (l0 ++ newC T (prs L1 L2 a 0)) :: z1 :: z2 :: F) (fun a => a ≤ L1.length) (fun a => L1.length - a) 0 (by omega) ?_ ?_ ?_
        · (refine SubE.c rfl rfl ?_; refine SubE.c rfl rfl ?_; refine SubE.c rfl rfl ?_; refine SubE.c rfl rfl ?_; refine SubE.c rfl rfl ?_; refine SubE.c rfl rfl ?_; exact SubE.n)
        · rw [n0, t0, List.append_nil]
          ((refine Sb.c (Tk.t (Tk.t Tk.h)) ?_; refine Sb.c (Tk.t (Tk.t Tk.h)) ?_; refine Sb.c (Tk.t (Tk.t Tk.h)) ?_; refine Sb.c (Tk.t (Tk.t Tk.h)) ?_; refine Sb.c (Tk.t (Tk.t Tk.h)) ?_; refine Sb.c (Tk.t (Tk.t Tk.h)) ?_; refine Sb.c (Tk.t (Tk.t Tk.h)) ?_; refine Sb.c (Tk.t Tk.h) ?_; refine Sb.c Tk.h ?_); (exact Sb.r))
        · rintro a ha
          (refine G.seq ?_; refine G.region ?_; refine GO.lti rfl rfl rfl ?_; refine GO.nil ?_; refine kthen_n ?_; refine G.seq ?_)
          refine G.condD rfl (fun hlt => ?_) (fun hge => ?_)
          · have hal : a < L1.length := by omega
            obtain ⟨u, hu⟩ : ∃ u, L1[a]? = some u := ⟨_, List.getElem?_eq_getElem hal⟩
            have hus := mb a u hu
            have te := te a u hu
            have ts := fun m v => ts a m u v hu
            have tn := fun m v => tn a m u v hu
            obtain ⟨o1, p1, rfl, hs1⟩ := hr1 (by omega)
            have r1 : Rd z1 ⟨o1, p1 + a * 1, none⟩ (i64 (u : Nat)) := by rw [Nat.mul_one]; exact hs1 _ _ (natsV_get hu)
            have g1 : Rd (rowsO n d.bt d.ct d.bst d.cst) ⟨d.bt, 0 + u * 1, none⟩ (rowS n d.bst d.cst u) := by rw [Nat.zero_add, Nat.mul_one]; exact rowsO_rd hus
            (refine G.skip ?_; refine kthen_n ?_; refine G.seq ?_; refine G.block ?_; refine G.seq ?_; refine G.region ?_; refine GO.idxS rfl rfl rfl ⟨rfl, by omega⟩ ?_; refine GO.loadQ rfl rfl rfl (Tk.t (Tk.t (Tk.t (Tk.t (Tk.t (Tk.t (Tk.t Tk.h))))))) (by assumption) ?_; refine GO.assign rfl rfl ?_; refine GO.nil ?_; refine kthen_n ?_; refine G.seq ?_; refine G.region ?_; refine GO.move rfl rfl ?_; refine GO.lenS rfl rfl ?_; refine GO.move rfl rfl ?_; refine GO.nil ?_; refine kthen_n ?_; refine G.block ?_)
            refine G.loop (fun m : Nat => [(0, ptrV bk), (3, y), (9, .slice a2 L2.length c2), (12, i64 (u : Nat)), (79, .slice (some ⟨o1, p1, none⟩) L1.length c1), (80, i64 (L1.length : Nat)), (81, i64 (a : Nat)), (85, .slice a2 L2.length c2), (86, i64 (L2.length : Nat)), (87, i64 (m : Nat))])
              (fun m => hdK n bk d (cntX (layT T L1 L2 a m)) :: mat n (addX S i j) d.bs :: rowsO n d.bt d.ct d.bst d.cst :: rowsF n d.bst d.cst (layT T L1 L2 a m) :: rowsO n d.bf d.cf d.bsf d.csf :: rowsF n d.bsf d.csf (flipX (layT T L1 L2 a m)) :: Acc (l0 ++ newC T (prs L1 L2 a m)) :: z1 :: z2 :: F) (fun m => m ≤ L2.length) (fun m => L2.length - m) 0 (by omega) ?_ ?_ ?_
            · (refine SubE.c rfl rfl ?_; refine SubE.c rfl rfl ?_; refine SubE.c rfl rfl ?_; refine SubE.c rfl rfl ?_; refine SubE.c rfl rfl ?_; refine SubE.c rfl rfl ?_; refine SubE.c rfl rfl ?_; refine SubE.c rfl rfl ?_; refine SubE.c rfl rfl ?_; refine SubE.c rfl rfl ?_; exact SubE.n)
            · ((refine Sb.c Tk.h ?_; refine Sb.c Tk.h ?_; refine Sb.c Tk.h ?_; refine Sb.c Tk.h ?_; refine Sb.c Tk.h ?_; refine Sb.c Tk.h ?_; refine Sb.c Tk.h ?_; refine Sb.c Tk.h ?_; refine Sb.c Tk.h ?_); (exact Sb.r))
            · rintro m hm
              (refine G.seq ?_; refine G.region ?_; refine GO.lti rfl rfl rfl ?_; refine GO.nil ?_; refine kthen_n ?_; refine G.seq ?_)
              refine G.condD rfl (fun hlt2 => ?_) (fun hge => ?_)
              · have hml : m < L2.length := by omega
                obtain ⟨v, hv⟩ : ∃ v, L2[m]? = some v := ⟨_, List.getElem?_eq_getElem hml⟩
                have hvs := mh m v hv
                have ts := ts m v hv
                have tn := tn m v hv
                have tl : layT T L1 L2 a (m + 1) = addX (layT T L1 L2 a m) u v := by unfold layT; rw [ts, setC_snoc]
                have tk : layT T L1 L2 a m u v = T u v := by unfold layT; exact setC_keep tn
                obtain ⟨o2, p2, rfl, hs2⟩ := hr2 (by omega)
                have r2 : Rd z2 ⟨o2, p2 + m * 1, none⟩ (i64 (v : Nat)) := by rw [Nat.mul_one]; exact hs2 _ _ (natsV_get hv)
                have g2 : Rd (rowsF n d.bst d.cst (layT T L1 L2 a m)) ⟨d.bst u, 0 + v * 1, none⟩ (.bool (T u v)) := by rw [← tk, Nat.zero_add, Nat.mul_one]; exact rowsF_rd hus hvs
                have g3 : Rd (rowsO n d.bf d.cf d.bsf d.csf) ⟨d.bf, 0 + v * 1, none⟩ (rowS n d.bsf d.csf v) := by rw [Nat.zero_add, Nat.mul_one]; exact rowsO_rd hvs
                cases huv : T u v with
                | true =>
                  rw [huv] at g2
                  have e3 : layT T L1 L2 a (m + 1) = layT T L1 L2 a m := by rw [tl]; exact addX_has (by rw [tk]; exact huv)
                  have e4 : newC T (prs L1 L2 a (m + 1)) = newC T (prs L1 L2 a m) := by rw [ts]; exact newC_no huv
                  (refine G.skip ?_; refine kthen_n ?_; refine G.seq ?_; refine G.block ?_; refine G.seq ?_; refine G.region ?_; refine GO.idxS rfl rfl rfl ⟨rfl, by omega⟩ ?_; refine GO.loadQ rfl rfl rfl (Tk.t (Tk.t (Tk.t (Tk.t (Tk.t (Tk.t (Tk.t (Tk.t Tk.h)))))))) (by assumption) ?_; refine GO.assign rfl rfl ?_; refine GO.nil ?_; refine kthen_n ?_; refine G.seq ?_; refine G.region ?_; refine GO.move rfl rfl ?_; refine GO.nilCheck rfl rfl ?_; refine GO.fieldAddr rfl rfl ?_; refine GO.load1 rfl rfl rfl Tk.h rfl ?_; refine GO.move rfl rfl ?_; refine GO.idxS rfl rfl rfl ⟨rfl, by omega⟩ ?_; refine GO.loadQ rfl rfl rfl (Tk.t (Tk.t Tk.h)) (by assumption) ?_; refine GO.move rfl rfl ?_; refine GO.idxS rfl rfl rfl ⟨rfl, by omega⟩ ?_; refine GO.loadQ rfl rfl rfl (Tk.t (Tk.t (Tk.t Tk.h))) (by assumption) ?_; refine GO.not rfl rfl ?_; refine GO.nil ?_; refine kthen_n ?_; refine G.condF rfl rfl ?_; refine G.skip ?_; refine kblock_n ?_; refine kthen_n ?_; refine G.region ?_; refine GO.addi rfl rfl rfl (by omega) ?_; refine GO.move rfl rfl ?_; refine GO.nil ?_; refine kthen_n ?_)
                  refine ⟨m + 1, by omega, by omega, ?_, ?_⟩
                  · (refine SubE.c rfl rfl ?_; refine SubE.c rfl rfl ?_; refine SubE.c rfl rfl ?_; refine SubE.c rfl rfl ?_; refine SubE.c rfl rfl ?_; refine SubE.c rfl rfl ?_; refine SubE.c rfl rfl ?_; refine SubE.c rfl rfl ?_; refine SubE.c rfl rfl ?_; refine SubE.c rfl rfl ?_; exact SubE.n)
                  · rw [e3, e4]
                    ((refine Sb.c Tk.h ?_; refine Sb.c Tk.h ?_; refine Sb.c Tk.h ?_; refine Sb.c Tk.h ?_; refine Sb.c Tk.h ?_; refine Sb.c Tk.h ?_; refine Sb.c Tk.h ?_; refine Sb.c Tk.h ?_; refine Sb.c Tk.h ?_); (exact Sb.r))
                | false =>
                  rw [huv] at g2
                  have e4 : newC T (prs L1 L2 a (m + 1)) = newC T (prs L1 L2 a m) ++ [(u, v)] := by rw [ts]; exact newC_yes huv
                  have hcm := cnt_max (layT T L1 L2 a m)
                  have e5 : cntX (layT T L1 L2 a (m + 1)) = cntX (layT T L1 L2 a m) + 1 := by rw [tl]; exact cntX_add (by omega) (by omega) (by rw [tk]; exact huv)
                  have hle : (l0 ++ newC T (prs L1 L2 a m)).length ≤ 2097152 := by
                    have g1 := prs_len (l := L2) hal hm
                    have g2 : L1.length * L2.length ≤ 1024 * 1024 := Nat.mul_le_mul (by omega) (by omega)
                    have g3 : (newC T (prs L1 L2 a m)).length ≤ (prs L1 L2 a m).length := newC_len _ _
                    rw [List.length_append]
                    omega
                  have ht := htell (l0 ++ newC T (prs L1 L2 a m)) u v hle hus hvs
                  rw [List.append_assoc, ← e4] at ht
                  have o1e : 0 + v * 1 = v := by omega
                  have o2e : 0 + u * 1 = u := by omega
                  (refine G.skip ?_; refine kthen_n ?_; refine G.seq ?_; refine G.block ?_; refine G.seq ?_; refine G.region ?_; refine GO.idxS rfl rfl rfl ⟨rfl, by omega⟩ ?_; refine GO.loadQ rfl rfl rfl (Tk.t (Tk.t (Tk.t (Tk.t (Tk.t (Tk.t (Tk.t (Tk.t Tk.h)))))))) (by assumption) ?_; refine GO.assign rfl rfl ?_; refine GO.nil ?_; refine kthen_n ?_; refine G.seq ?_; refine G.region ?_; refine GO.move rfl rfl ?_; refine GO.nilCheck rfl rfl ?_; refine GO.fieldAddr rfl rfl ?_; refine GO.load1 rfl rfl rfl Tk.h rfl ?_; refine GO.move rfl rfl ?_; refine GO.idxS rfl rfl rfl ⟨rfl, by omega⟩ ?_; refine GO.loadQ rfl rfl rfl (Tk.t (Tk.t Tk.h)) (by assumption) ?_; refine GO.move rfl rfl ?_; refine GO.idxS rfl rfl rfl ⟨rfl, by omega⟩ ?_; refine GO.loadQ rfl rfl rfl (Tk.t (Tk.t (Tk.t Tk.h))) (by assumption) ?_; refine GO.not rfl rfl ?_; refine GO.nil ?_; refine kthen_n ?_; refine G.condT rfl rfl ?_; refine G.seq ?_)
                  refine G.drawT 20 655360 [hdK n bk d (cntX (layT T L1 L2 a m)), rowsO n d.bt d.ct d.bst d.cst, rowsO n d.bf d.cf d.bsf d.csf] (rowsF n d.bst d.cst (layT T L1 L2 a m) :: rowsF n d.bsf d.csf (flipX (layT T L1 L2 a m)) :: mat n (addX S i j) d.bs :: Acc (l0 ++ newC T (prs L1 L2 a m)) :: z1 :: z2 :: F) (by kernel_rfl) (keys_of rfl) (ImpS.sb (by ((refine Sb.c Tk.h ?_; refine Sb.c (Tk.t Tk.h) ?_; refine Sb.c (Tk.t (Tk.t Tk.h)) ?_; refine Sb.c (Tk.t Tk.h) ?_; refine Sb.c (Tk.t Tk.h) ?_; refine Sb.c Tk.h ?_; refine Sb.c Tk.h ?_; refine Sb.c Tk.h ?_; refine Sb.c Tk.h ?_); (exact Sb.r)))) ?_
                  ((apply GR.step rfl; focus (intro Z; refine GO.move rfl rfl ?_; exact KQ.z)); (apply GR.step rfl; focus (intro Z; refine GO.nilCheck rfl rfl ?_; exact KQ.z)); (apply GR.step rfl; focus (intro Z; refine GO.fieldAddr rfl rfl ?_; exact KQ.z)); (apply GR.step rfl; focus (intro Z; refine GO.load1 rfl rfl rfl Tk.h rfl ?_; exact KQ.z)); (apply GR.step rfl; focus (intro Z; refine GO.move rfl rfl ?_; exact KQ.z)); (apply GR.step rfl; focus (intro Z; refine GO.idxS rfl rfl rfl ⟨rfl, by omega⟩ ?_; exact KQ.z)); (apply GR.step rfl; focus (intro Z; refine GO.loadQ rfl rfl rfl (Tk.t Tk.h) (by assumption) ?_; exact KQ.z)); (apply GR.step rfl; focus (intro Z; refine GO.move rfl rfl ?_; exact KQ.z)); (apply GR.step rfl; focus (intro Z; refine GO.move rfl rfl ?_; exact KQ.z)); (apply GR.step rfl; focus (intro Z; refine GO.nilCheck rfl rfl ?_; exact KQ.z)); (apply GR.step rfl; focus (intro Z; refine GO.fieldAddr rfl rfl ?_; exact KQ.z)); (apply GR.step rfl; focus (intro Z; refine GO.load1 rfl rfl rfl Tk.h rfl ?_; exact KQ.z)); (apply GR.step rfl; focus (intro Z; refine GO.move rfl rfl ?_; exact KQ.z)); (apply GR.step rfl; focus (intro Z; refine GO.idxS rfl rfl rfl ⟨rfl, by omega⟩ ?_; exact KQ.z)); (apply GR.step rfl; focus (intro Z; refine GO.loadQ rfl rfl rfl (Tk.t (Tk.t Tk.h)) (by assumption) ?_; exact KQ.z)); (apply GR.step rfl; focus (intro Z; refine GO.move rfl rfl ?_; exact KQ.z)); (apply GR.step rfl; focus (intro Z; refine GO.idxS rfl rfl rfl ⟨rfl, by omega⟩ ?_; exact KQ.z)); refine GR.skip rfl ?_; (apply GR.step rfl; focus (intro Z; refine GO.idxS rfl rfl rfl ⟨rfl, by omega⟩ ?_; exact KQ.z)); refine GR.skip rfl ?_; refine GR.nil ?_)
                  (repeat refine GT.skip rfl ?_)
                  refine GT.step rfl ?_
                  refine GO.storeF (i := u) (j := v) hus hvs o1e rfl rfl (Tk.t (Tk.t (Tk.t Tk.h))) ?_
                  rw [upd_add, ← tl]
                  refine GO.nil ⟨rfl, .tuple #[], rowsF n d.bst d.cst (layT T L1 L2 a (m + 1)) :: rowsF n d.bsf d.csf (flipX (layT T L1 L2 a m)) :: mat n (addX S i j) d.bs :: Acc (l0 ++ newC T (prs L1 L2 a m)) :: z1 :: z2 :: F, rfl, ImpS.sb (by ((refine Sb.c (Tk.t Tk.h) ?_; refine Sb.c (Tk.t Tk.h) ?_; refine Sb.c (Tk.t Tk.h) ?_; refine Sb.c Tk.h ?_; refine Sb.c Tk.h ?_; refine Sb.c Tk.h ?_; refine Sb.c Tk.h ?_; refine Sb.c Tk.h ?_; refine Sb.c Tk.h ?_); (exact Sb.r))), ?_⟩
                  (repeat refine GT.skip rfl ?_)
                  refine GT.step rfl ?_
                  refine GO.storeF (i := v) (j := u) hvs hus o2e rfl rfl (Tk.t (Tk.t (Tk.t (Tk.t Tk.h)))) ?_
                  rw [upd_flip, ← tl]
                  refine GO.nil ⟨rfl, .tuple #[], rowsF n d.bst d.cst (layT T L1 L2 a (m + 1)) :: rowsF n d.bsf d.csf (flipX (layT T L1 L2 a (m + 1))) :: mat n (addX S i j) d.bs :: Acc (l0 ++ newC T (prs L1 L2 a m)) :: z1 :: z2 :: F, rfl, ImpS.sb (by ((refine Sb.c (Tk.t Tk.h) ?_; refine Sb.c (Tk.t Tk.h) ?_; refine Sb.c (Tk.t Tk.h) ?_; refine Sb.c (Tk.t Tk.h) ?_; refine Sb.c Tk.h ?_; refine Sb.c Tk.h ?_; refine Sb.c Tk.h ?_; refine Sb.c Tk.h ?_; refine Sb.c Tk.h ?_); (exact Sb.r))), ?_⟩
                  (repeat refine GT.skip rfl ?_)
                  refine GT.nil ?_
                  (refine GO.nil ?_; refine kthen_n ?_; refine G.seq ?_; refine G.region ?_; refine GO.move rfl rfl ?_; refine GO.nilCheck rfl rfl ?_; refine GO.fieldAddr rfl rfl ?_; refine GO.load1 rfl rfl rfl Tk.h rfl ?_; refine GO.addi rfl rfl rfl (by omega) ?_; refine GO.nilCheck rfl rfl ?_; refine GO.fieldAddr rfl rfl ?_; refine GO.store1 rfl rfl rfl Tk.h (by simp) ?_; refine GO.nil ?_; refine kthen_n ?_; refine G.region ?_; refine GO.move rfl rfl ?_; refine GO.move rfl rfl ?_; refine GO.move rfl rfl ?_; refine GO.build2 rfl rfl rfl rfl ?_)
                  rw [show ((cntX (layT T L1 L2 a m) : Nat) : Int) + 1 = ((cntX (layT T L1 L2 a (m + 1)) : Nat) : Int) by rw [e5]; rfl]
                  refine GO.callV1 rfl rfl rfl (ht) (Tks.c (Tk.t (Tk.t (Tk.t (Tk.t (Tk.t (Tk.t Tk.h)))))) Tks.n) ?_
                  rintro _ _ rfl
                  (refine GO.nil ?_; refine kblock_n ?_; refine kthen_n ?_; refine G.region ?_; refine GO.addi rfl rfl rfl (by omega) ?_; refine GO.move rfl rfl ?_; refine GO.nil ?_; refine kthen_n ?_)
                  refine ⟨m + 1, by omega, by omega, ?_, ?_⟩
                  · (refine SubE.c rfl rfl ?_; refine SubE.c rfl rfl ?_; refine SubE.c rfl rfl ?_; refine SubE.c rfl rfl ?_; refine SubE.c rfl rfl ?_; refine SubE.c rfl rfl ?_; refine SubE.c rfl rfl ?_; refine SubE.c rfl rfl ?_; refine SubE.c rfl rfl ?_; refine SubE.c rfl rfl ?_; exact SubE.n)
                  · ((refine Sb.c (Tk.t Tk.h) ?_; refine Sb.c (Tk.t (Tk.t (Tk.t (Tk.t (Tk.t Tk.h))))) ?_; refine Sb.c (Tk.t Tk.h) ?_; refine Sb.c (Tk.t (Tk.t Tk.h)) ?_; refine Sb.c (Tk.t Tk.h) ?_; refine Sb.c (Tk.t Tk.h) ?_; refine Sb.c Tk.h ?_; refine Sb.c Tk.h ?_; refine Sb.c Tk.h ?_); (exact Sb.r))
              · obtain rfl : m = L2.length := by omega
                have e6 : layT T L1 L2 a L2.length = layT T L1 L2 (a + 1) 0 := by unfold layT; rw [te]
                rw [e6, te]
                (refine G.exit ?_; refine kthen_x ?_; refine kthen_x ?_; refine kblock_x ?_; refine kblock_n ?_; refine kthen_n ?_; refine G.region ?_; refine GO.addi rfl rfl rfl (by omega) ?_; refine GO.move rfl rfl ?_; refine GO.nil ?_; refine kthen_n ?_)
                refine ⟨a + 1, by omega, by omega, ?_, ?_⟩
                · (refine SubE.c rfl rfl ?_; refine SubE.c rfl rfl ?_; refine SubE.c rfl rfl ?_; refine SubE.c rfl rfl ?_; refine SubE.c rfl rfl ?_; refine SubE.c rfl rfl ?_; exact SubE.n)
                · ((refine Sb.c Tk.h ?_; refine Sb.c Tk.h ?_; refine Sb.c Tk.h ?_; refine Sb.c Tk.h ?_; refine Sb.c Tk.h ?_; refine Sb.c Tk.h ?_; refine Sb.c Tk.h ?_; refine Sb.c Tk.h ?_; refine Sb.c Tk.h ?_); (exact Sb.r))
          · obtain rfl : a = L1.length := by omega
            (refine G.exit ?_; refine kthen_x ?_; refine kthen_x ?_; refine kblock_x ?_)
            refine KF2.n0 rfl rfl (ImpS.sb ?_)
            ((refine Sb.c Tk.h ?_; refine Sb.c Tk.h ?_; refine Sb.c Tk.h ?_; refine Sb.c Tk.h ?_; refine Sb.c Tk.h ?_; refine Sb.c Tk.h ?_; refine Sb.c Tk.h ?_); (refine Sb.s ?_; refine Sb.s ?_; exact Sb.r))
end Go.Proofs.YtpfcgfgkmgnaaaaDoor
namespace Go.Proofs.YtpfcgfgkmgnaaaaDoor
open Go
/-- A cell, its numbers taken by m and by the side. -/
def fcell (m side : Nat) (p : Cl) : Nat × Nat := ((p.1 % m % side).toNat, (p.2 % m % side).toNat)
theorem fcell_at {m side : Nat} (hs : 1 ≤ side) (p : Cl) : ((fcell m side p).1 : Int) = p.1 % m % side ∧ ((fcell m side p).2 : Int) = p.2 % m % side ∧ (fcell m side p).1 < side ∧ (fcell m side p).2 < side := by
  have a1 := Int.emod_nonneg (p.1 % m) (show (side : Int) ≠ 0 by omega)
  have a2 := Int.emod_lt_of_pos (p.1 % m) (show (0 : Int) < side by omega)
  have b1 := Int.emod_nonneg (p.2 % m) (show (side : Int) ≠ 0 by omega)
  have b2 := Int.emod_lt_of_pos (p.2 % m) (show (0 : Int) < side by omega)
  unfold fcell
  dsimp only
  generalize p.1 % m % side = x at *
  generalize p.2 % m % side = y at *
  omega
/-- Cells put one by one into a matrix, c at most. -/
def foldC (m c side : Nat) (l : List Cl) : Nat → Nat → Bool := setC noX ((l.take c).map (fcell m side))
theorem setC_in {s : Nat} : ∀ (l : List (Nat × Nat)) (X : Nat → Nat → Bool), (∀ p ∈ l, p.1 < s ∧ p.2 < s) → (∀ r c, X r c = true → r < s ∧ c < s) → ∀ r c, setC X l r c = true → r < s ∧ c < s := by
  intro l X hl hX r c h
  rw [setC_at, Bool.or_eq_true, List.any_eq_true] at h
  rcases h with h | ⟨p, hp, h⟩
  · exact hX r c h
  · simp only [Bool.and_eq_true, decide_eq_true_eq] at h
    rw [h.1, h.2]
    exact hl p hp
theorem foldC_in {m c side : Nat} (hs : 1 ≤ side) (l : List Cl) : ∀ r k, foldC m c side l r k = true → r < side ∧ k < side := setC_in _ _ (fun p hp => by
  obtain ⟨x, _, rfl⟩ := List.mem_map.1 hp
  exact (fcell_at hs x).2.2) (fun r c h => by cases h)
theorem fold_zero (m side : Nat) (l : List Cl) : setC noX ((l.take 0).map (fcell m side)) = noX := rfl
theorem fold_succ {m side k : Nat} {l : List Cl} {p : Cl} (h : l[k]? = some p) : setC noX ((l.take (k + 1)).map (fcell m side)) = addX (setC noX ((l.take k).map (fcell m side))) (fcell m side p).1 (fcell m side p).2 := by
  rw [List.take_add_one, h, List.map_append]
  exact setC_snoc _ _ _
def hSide (n : Int) : Nat := (n % 128 + 1).toNat
theorem hSide_at (n : Int) : ((hSide n : Nat) : Int) = n % 128 + 1 ∧ 1 ≤ hSide n ∧ hSide n ≤ 128 := by unfold hSide; omega
attribute [local irreducible] G GO GR GT Fn FnV pt init exs pur sat own ImpS mat posL allV orL restX cellsX cellsV setC fcell hSide
set_option maxHeartbeats 4000000 in
set_option maxRecDepth 40000 in
theorem hfold_spec (q : HP) (n : Int) (v : Value) (l : List Cl) (hv : SlR q v l.length 2 (cellsV l)) (hl : ¬ 9223372036854775807 < l.length) :
    Fn Tryd.prog 17 #[i64 n, v] [q] (fun r Q => ∃ b, r = ptrV b ∧ Q = [mat (hSide n) (foldC 128 300 (hSide n) l) b, q]) := by
  obtain ⟨a, cap, rfl, _, hrd⟩ := hv
  obtain ⟨hs1, hs2, hs3⟩ := hSide_at n
  unfold foldC
  refine Fn.mk2 Tryd.func17 rfl rfl fun w0 F => ?_
  (refine G.seq ?_; refine G.region ?_; refine GO.assign rfl rfl ?_; refine GO.nil ?_; refine kthen_n ?_; refine G.seq ?_; refine G.region ?_; refine GO.move rfl rfl ?_)
  refine GO.mask rfl 7 rfl rfl ⟨by omega, rfl⟩ ?_
  (refine GO.addi rfl rfl rfl (by omega) ?_; refine GO.assign rfl rfl ?_; refine GO.nil ?_; refine kthen_n ?_; refine G.seq ?_; refine G.region ?_; refine GO.move rfl rfl ?_)
  rw [show n % ((2 ^ 7 : Nat) : Int) + 1 = ((hSide n : Nat) : Int) from hs1.symm]
  generalize hSide n = side at *
  refine GO.call1 rfl rfl (new_spec (side : Int)) Tks.n ?_
  rintro _ _ (⟨n', b, hn, hn1, hn2, rfl, rfl⟩ | ⟨hno, rfl, rfl⟩)
  · obtain rfl : side = n' := by omega
    clear hn
    (refine GO.move rfl rfl ?_; refine GO.extract rfl rfl rfl ?_; refine GO.extract rfl rfl rfl ?_; refine GO.assign rfl rfl ?_; refine GO.assign rfl rfl ?_; refine GO.nil ?_; refine kthen_n ?_; refine G.seq ?_; refine G.seq ?_; refine G.region ?_; refine GO.move rfl rfl ?_; refine GO.eqNilP rfl rfl ?_; refine GO.move rfl rfl ?_; refine GO.gT rfl rfl rfl ?_; refine GO.move rfl rfl ?_; refine GO.gT rfl rfl rfl ?_; refine GO.neF rfl rfl rfl rfl ?_; refine GO.pickF rfl rfl rfl ?_; refine GO.nil ?_; refine kthen_n ?_; refine G.condF rfl rfl ?_; refine G.skip ?_; refine kthen_n ?_; refine G.seq ?_; refine G.seq ?_; refine G.region ?_; refine GO.assign rfl rfl ?_; refine GO.nil ?_; refine kthen_n ?_; refine G.block ?_)
    refine G.loop (fun k : Nat => [(1, .slice a l.length cap), (5, i64 (side : Nat)), (6, ptrV b), (8, i64 k)])
      (fun k => mat side (setC noX ((l.take k).map (fcell 128 side))) b :: q :: F) (fun k => k ≤ l.length ∧ ¬ 300 < k) (fun k => l.length - k) 0 ⟨by omega, by omega⟩ ?_ ?_ ?_
    · (refine SubE.c rfl rfl ?_; refine SubE.c rfl rfl ?_; refine SubE.c rfl rfl ?_; refine SubE.c rfl rfl ?_; exact SubE.n)
    · rw [fold_zero]
      ((refine Sb.c Tk.h ?_; refine Sb.c Tk.h ?_); (exact Sb.r))
    rintro k ⟨hk, hk4⟩
    (refine G.seq ?_; refine G.seq ?_; refine G.region ?_; refine GO.move rfl rfl ?_; refine GO.move rfl rfl ?_; refine GO.lenS rfl rfl ?_; refine GO.lti rfl rfl rfl ?_; refine GO.move rfl rfl ?_)
    by_cases h1 : k < l.length
    · rw [show decide ((k : Int) < (l.length : Int)) = true from decide_eq_true (by omega)]
      have hk2 := h1
      (refine GO.gT rfl rfl rfl ?_; refine GO.move rfl rfl ?_; refine GO.gT rfl rfl rfl ?_; refine GO.lti rfl rfl rfl ?_; refine GO.pickT rfl rfl rfl ?_; refine GO.nil ?_; refine kthen_n ?_)
      by_cases h2 : k < 300
      · rw [show decide ((k : Int) < 300) = true from decide_eq_true (by omega)]
        have hk3 := h2
        obtain ⟨b', o, rfl, hr⟩ := hrd (by omega)
        obtain ⟨p, hp⟩ : ∃ p, l[k]? = some p := ⟨l[k], by simp [hk2]⟩
        obtain ⟨g1, g2⟩ := cellsV_get hp
        have r1 : Rd q ⟨b', o + k * 2, none⟩ (i64 p.1) := hr _ _ g1
        have r2 : Rd q ⟨b', o + k * 2 + 1, none⟩ (i64 p.2) := hr _ _ g2
        (refine G.condT rfl rfl ?_; refine G.skip ?_; refine kthen_n ?_; refine G.seq ?_; refine G.block ?_)
        have hsuc := fold_succ (m := 128) (side := side) hp
        obtain ⟨hi, hj, his, hjs⟩ := fcell_at (m := 128) hs2 p
        generalize (fcell 128 side p).1 = i at *
        generalize (fcell 128 side p).2 = j at *
        refine G.draw 17 (by kernel_rfl) ?_
        ((apply GQ.step; focus (intro Z; refine GO.move rfl rfl ?_; exact KQ.z)); (apply GQ.step; focus (intro Z; refine GO.move rfl rfl ?_; exact KQ.z)); (apply GQ.step; focus (intro Z; refine GO.move rfl rfl ?_; exact KQ.z)); (apply GQ.step; focus (intro Z; refine GO.idxS rfl rfl rfl ⟨rfl, by omega⟩ ?_; exact KQ.z)); (apply GQ.step; focus (intro Z; refine GO.fieldAddr rfl rfl ?_; exact KQ.z)); (apply GQ.step; focus (intro Z; refine GO.loadQ rfl rfl rfl (Tk.t Tk.h) (by assumption) ?_; exact KQ.z)))
        apply GQ.step; focus (intro Z; refine GO.mask rfl 7 rfl rfl ⟨by omega, rfl⟩ ?_; exact KQ.zv (v := i64 (p.1 % ((128 : Nat) : Int))) rfl)
        ((apply GQ.step; focus (intro Z; refine GO.move rfl rfl ?_; exact KQ.z)); (apply GQ.step; focus (intro Z; refine GO.remi rfl rfl rfl (by omega) ?_; exact KQ.z)); (apply GQ.step; focus (intro Z; refine GO.move rfl rfl ?_; exact KQ.z)); (apply GQ.step; focus (intro Z; refine GO.move rfl rfl ?_; exact KQ.z)); (apply GQ.step; focus (intro Z; refine GO.idxS rfl rfl rfl ⟨rfl, by omega⟩ ?_; exact KQ.z)); (apply GQ.step; focus (intro Z; refine GO.fieldAddr rfl rfl ?_; exact KQ.z)); (apply GQ.step; focus (intro Z; refine GO.loadQ rfl rfl rfl (Tk.t Tk.h) (by assumption) ?_; exact KQ.z)))
        rw [← hi]
        skip
        apply GQ.step; focus (intro Z; refine GO.mask rfl 7 rfl rfl ⟨by omega, rfl⟩ ?_; exact KQ.zv (v := i64 (p.2 % ((128 : Nat) : Int))) rfl)
        ((apply GQ.step; focus (intro Z; refine GO.move rfl rfl ?_; exact KQ.z)); (apply GQ.step; focus (intro Z; refine GO.remi rfl rfl rfl (by omega) ?_; exact KQ.z)); refine GQ.nil ?_)
        rw [← hj]
        skip
        refine GO.call3 rfl rfl rfl rfl (set_mat side b (setC noX ((l.take k).map (fcell 128 side))) i j (by omega)) (Tks.c Tk.h Tks.n) ?_
        rintro _ _ (⟨i', j', e1, e2, g1, g2, rfl, rfl⟩ | ⟨hno, rfl, rfl⟩)
        · obtain rfl : i = i' := by omega
          obtain rfl : j = j' := by omega
          (refine GO.nil ?_; refine kblock_n ?_; refine kthen_n ?_; refine G.region ?_; refine GO.move rfl rfl ?_; refine GO.addi rfl rfl rfl (by omega) ?_; refine GO.assign rfl rfl ?_; refine GO.nil ?_; refine kthen_n ?_)
          rw [← hsuc]
          refine ⟨k + 1, ⟨by omega, by omega⟩, by omega, ?_, ?_⟩
          · (refine SubE.c rfl rfl ?_; refine SubE.c rfl rfl ?_; refine SubE.c rfl rfl ?_; refine SubE.c rfl rfl ?_; exact SubE.n)
          · ((refine Sb.c Tk.h ?_; refine Sb.c Tk.h ?_); (exact Sb.r))
        · rw [inM_nat his hjs] at hno
          cases hno
      · rw [show decide ((k : Int) < 300) = false from decide_eq_false (by omega)]
        have hfo : l.take 300 = l.take k := by rw [show k = 300 by omega]
        (refine G.condF rfl rfl ?_; refine G.exit ?_; refine kthen_x ?_; refine kthen_x ?_; refine kblock_x ?_; refine kthen_n ?_; refine G.seq ?_; refine G.region ?_; refine GO.move rfl rfl ?_; refine GO.assign rfl rfl ?_; refine GO.nil ?_; refine kthen_n ?_; refine G.ret ?_)
        refine KF2.r1 rfl (RV.t rfl) ⟨b, rfl, rfl⟩ (ImpS.sb ?_)
        rw [hfo]
        ((refine Sb.c Tk.h ?_; refine Sb.c Tk.h ?_); (exact Sb.r))
    · rw [show decide ((k : Int) < (l.length : Int)) = false from decide_eq_false (by omega)]
      have hfo : l.take 300 = l.take k := by rw [show k = l.length by omega, List.take_length, List.take_of_length_le (by omega)]
      (refine GO.gF rfl rfl rfl rfl ?_; refine GO.gF rfl rfl rfl rfl ?_; refine GO.pickF rfl rfl rfl ?_; refine GO.nil ?_; refine kthen_n ?_; refine G.condF rfl rfl ?_; refine G.exit ?_; refine kthen_x ?_; refine kthen_x ?_; refine kblock_x ?_; refine kthen_n ?_; refine G.seq ?_; refine G.region ?_; refine GO.move rfl rfl ?_; refine GO.assign rfl rfl ?_; refine GO.nil ?_; refine kthen_n ?_; refine G.ret ?_)
      refine KF2.r1 rfl (RV.t rfl) ⟨b, rfl, rfl⟩ (ImpS.sb ?_)
      rw [hfo]
      ((refine Sb.c Tk.h ?_; refine Sb.c Tk.h ?_); (exact Sb.r))
  · exact absurd (by omega) hno
end Go.Proofs.YtpfcgfgkmgnaaaaDoor
namespace Go.Proofs.YtpfcgfgkmgnaaaaDoor
open Go
theorem errL_same (s : Nat) (X Y Z : Nat → Nat → Bool) (hs : 1 ≤ s) : errL [some (s, X), some (s, Y), some (s, Z)] = 0 := by
  have h : ∀ k, k < 3 → sidesL [some (s, X), some (s, Y), some (s, Z)] k = s := fun k hk => by
    match k, hk with
    | 0, _ => rfl
    | 1, _ => rfl
    | 2, _ => rfl
  unfold errL errF
  rw [if_neg, if_neg]
  · rw [Bool.not_eq_true, List.any_eq_false]
    intro k hk
    have h3 := h k (List.mem_range.1 hk)
    have h0 := h 0 (by omega)
    simp only [h3, h0]
    simp
  · rw [Bool.not_eq_true, List.any_eq_false]
    intro k hk
    rw [h k (List.mem_range.1 hk), decide_eq_true_iff]
    omega
theorem into_same (s : Nat) (X : Nat → Nat → Bool) (hs : 1 ≤ s) : intoO (some (s, X)) (some (s, X)) (some (s, X)) = some (s, uniX X (mulX X X)) := by
  unfold intoO
  rw [if_pos (errL_same s X X X hs), mulO_same, joinO_same]
theorem intoB_same (s : Nat) (X : Nat → Nat → Bool) (hs : 1 ≤ s) : intoB (some (s, X)) (some (s, X)) (some (s, X)) = decide (cntX X < cntX (uniX X (mulX X X))) := by
  unfold intoB
  rw [if_pos (errL_same s X X X hs), mulO_same, joinB_same]
theorem wfS {s : Nat} {X : Nat → Nat → Bool} (h1 : 1 ≤ s) (h2 : s ≤ 1024) (hX : ∀ r c, X r c = true → r < s ∧ c < s) : WfM (some (s, X)) := fun t Y e => by
  injection e with e
  injection e with e1 e2
  subst e1 e2
  exact ⟨⟨h1, h2⟩, hX⟩
theorem MatO.get {p : HP} {v : Value} {s : Nat} {X : Nat → Nat → Bool} (h : MatO p v (some (s, X))) : ∃ b, v = ptrV b ∧ p = mat s X b := by
  rcases h with ⟨h, _⟩ | ⟨s', X', b, e, h1, h2⟩
  · cases h
  · injection e with e
    injection e with e1 e2
    subst e1 e2
    exact ⟨b, h1, h2⟩
attribute [local irreducible] G GO GR GT Fn FnV pt init exs pur sat own ImpS mat posL allV orL restX cellsX cellsV cntX uniX
theorem into_mat (q R : HP) (hq : Tab q) (s b : Nat) (X : Nat → Nat → Bool) (h1 : 1 ≤ s) (h2 : s ≤ 1024) (hX : ∀ r c, X r c = true → r < s ∧ c < s) :
    Fn Tryd.prog 52 #[ptrV b, ptrV b, ptrV b] [star [mat s X b, R], q] (fun r Q => r = .tuple #[.bool (decide (cntX X < cntX (uniX X (mulX X X)))), i64 0] ∧ Q = [star [mat s (uniX X (mulX X X)) b, R], q]) := by
  have w := wfS h1 h2 hX
  have h := pIntoO q hq (mat s X b) R (ptrV b) (ptrV b) (ptrV b) _ _ _ (MatO.one s b X) (HasO.left (HasO.one s b X)) (HasO.left (HasO.one s b X)) w w w
  rw [errL_same s X X X h1, into_same s X h1, intoB_same s X h1] at h
  refine h.mono fun r Q => ?_
  rintro ⟨pc, rfl, hp, rfl⟩
  obtain ⟨b', e, rfl⟩ := hp.get
  injection e with e
  injection e with e
  injection e with e
  subst e
  exact ⟨rfl, rfl⟩
set_option maxHeartbeats 8000000 in
theorem clo_spec (q : HP) (hq : Tab q) (s b : Nat) (M : Nat → Nat → Bool) :
    Fn Tryd.prog 18 #[ptrV b] [mat s M b, q] (fun r Q => ∃ b' X, r = .tuple #[ptrV b', i64 0] ∧ IsClo M X ∧ Q = [mat s X b', mat s M b, q]) := by
  refine Fn.mk2 Tryd.func18 rfl rfl fun w0 F => ?_
  refine G.matFact Tk.h fun hsd hin => ?_
  have d0 : decide (((s : Nat) : Int) = 0) = false := decide_eq_false (by omega)
  (refine G.seq ?_; refine G.region ?_; refine GO.assign rfl rfl ?_; refine GO.assign rfl rfl ?_; refine GO.nil ?_; refine kthen_n ?_; refine G.seq ?_; refine G.seq ?_; refine G.region ?_; refine GO.move rfl rfl ?_)
  refine GO.call1 rfl rfl (side_mat s b M) (Tks.c Tk.h Tks.n) ?_
  rintro _ _ ⟨rfl, rfl⟩
  (refine GO.eqi rfl rfl rfl ?_; refine GO.nil ?_; refine kthen_n ?_; refine G.condF rfl (by assumption) ?_; refine G.skip ?_; refine kthen_n ?_; refine G.seq ?_; refine G.region ?_; refine GO.move rfl rfl ?_)
  refine GO.call1 rfl rfl (copy_mat s b M) (Tks.c Tk.h Tks.n) ?_
  rintro _ _ ⟨bc, rfl, rfl⟩
  (refine GO.assign rfl rfl ?_; refine GO.nil ?_; refine kthen_n ?_; refine G.block ?_)
  refine G.loop (fun _ : Nat → Nat → Bool => [(4, ptrV bc)])
    (fun X => mat s X bc :: mat s M b :: q :: F) (fun X => CloI M X ∧ ∀ r c, X r c = true → r < s ∧ c < s) (fun X => 1048576 - cntX X) M ⟨CloI.start M, hin⟩ ?_ ?_ ?_
  · (refine SubE.c rfl rfl ?_; exact SubE.n)
  · ((refine Sb.c Tk.h ?_; refine Sb.c Tk.h ?_; refine Sb.c Tk.h ?_); (exact Sb.r))
  · rintro X ⟨hX, hXin⟩
    have hst := CloI.step hsd.2 hXin hX
    have hen := CloI.end hsd.2 hXin hX
    have hin2 := uni_in hXin (mulX_in hXin hXin)
    have hmx := cnt_max (uniX X (mulX X X))
    have hsub : SubX X (uniX X (mulX X X)) := fun r c h => by unfold uniX; rw [h]; rfl
    have hI := into_mat q (mat s M b) hq s bc X hsd.1 hsd.2 hXin
    generalize uniX X (mulX X X) = Y at hst hen hin2 hmx hI hsub ⊢
    (refine G.block ?_; refine G.seq ?_; refine G.region ?_; refine GO.move rfl rfl ?_; refine GO.move rfl rfl ?_; refine GO.move rfl rfl ?_)
    refine GO.pair (x := mat s X bc) (y := mat s M b) (Tks.c Tk.h (Tks.c Tk.h Tks.n)) ?_
    refine GO.call3 rfl rfl rfl rfl (hI) (Tks.c Tk.h (Tks.c Tk.h Tks.n)) ?_
    rintro _ _ ⟨rfl, rfl⟩
    refine GO.unpair (x := mat s Y bc) (y := mat s M b) Tk.h ?_
    by_cases hlt : cntX X < cntX Y
    · rw [decide_eq_true hlt]
      (refine GO.move rfl rfl ?_; refine GO.extract rfl rfl rfl ?_; refine GO.extract rfl rfl rfl ?_; refine GO.assign rfl rfl ?_; refine GO.assign rfl rfl ?_; refine GO.nil ?_; refine kthen_n ?_; refine G.seq ?_; refine G.region ?_; refine GO.move rfl rfl ?_; refine GO.not rfl rfl ?_; refine GO.nil ?_; refine kthen_n ?_; refine G.condF rfl rfl ?_; refine G.skip ?_; refine kblock_n ?_; refine kthen_n ?_)
      refine ⟨Y, ⟨hst, hin2⟩, by omega, ?_, ?_⟩
      · (refine SubE.c rfl rfl ?_; exact SubE.n)
      · ((refine Sb.c Tk.h ?_; refine Sb.c Tk.h ?_; refine Sb.c Tk.h ?_); (exact Sb.r))
    · rw [decide_eq_false hlt]
      have hYX : Y = X := sub_anti (cntX_full hsd.2 hin2 hsub hlt) hsub
      have hclo := hen hlt
      rw [hYX]
      (refine GO.move rfl rfl ?_; refine GO.extract rfl rfl rfl ?_; refine GO.extract rfl rfl rfl ?_; refine GO.assign rfl rfl ?_; refine GO.assign rfl rfl ?_; refine GO.nil ?_; refine kthen_n ?_; refine G.seq ?_; refine G.region ?_; refine GO.move rfl rfl ?_; refine GO.not rfl rfl ?_; refine GO.nil ?_; refine kthen_n ?_; refine G.condT rfl rfl ?_; refine G.seq ?_; refine G.region ?_; refine GO.move rfl rfl ?_; refine GO.assign rfl rfl ?_; refine GO.assign rfl rfl ?_; refine GO.nil ?_; refine kthen_n ?_; refine G.ret ?_; refine kblock_r ?_; refine kthen_r ?_; refine kblock_r ?_)
      refine KF2.r2 rfl (RV.t rfl) (RV.t rfl) ⟨_, _, rfl, hclo, rfl⟩ (ImpS.sb ?_)
      ((refine Sb.c Tk.h ?_; refine Sb.c Tk.h ?_; refine Sb.c Tk.h ?_); (exact Sb.r))
set_option maxHeartbeats 4000000 in
theorem inside_mat (s a b : Nat) (X Y : Nat → Nat → Bool) : Fn Tryd.prog 20 #[ptrV a, ptrV b] [mat s X a, mat s Y b] (fun r Q => ∃ bb, r = .bool bb ∧ (bb = true ↔ SubX X Y) ∧ Q = [mat s X a, mat s Y b]) := by
  refine Fn.mk2 Tryd.func20 rfl rfl fun w0 F => ?_
  refine G.matFact Tk.h fun hsd hin => ?_
  (refine G.seq ?_; refine G.region ?_; refine GO.assign rfl rfl ?_; refine GO.nil ?_; refine kthen_n ?_; refine G.seq ?_; refine G.region ?_; refine GO.move rfl rfl ?_; refine GO.move rfl rfl ?_)
  refine GO.call2 rfl rfl rfl (less_mat s s a b X Y) (Tks.c Tk.h (Tks.c Tk.h Tks.n)) ?_
  rintro _ _ (⟨_, bd, rfl, rfl⟩ | ⟨h, _, _⟩)
  rotate_left 1
  · exact absurd rfl h
  (refine GO.move rfl rfl ?_; refine GO.extract rfl rfl rfl ?_; refine GO.extract rfl rfl rfl ?_; refine GO.assign rfl rfl ?_; refine GO.assign rfl rfl ?_; refine GO.nil ?_; refine kthen_n ?_; refine G.seq ?_; refine G.region ?_; refine GO.move rfl rfl ?_; refine GO.eqT rfl rfl rfl rfl ?_; refine GO.move rfl rfl ?_; refine GO.gT rfl rfl rfl ?_; refine GO.move rfl rfl ?_; refine GO.gT rfl rfl rfl ?_)
  refine GO.call1 rfl rfl (len_mat s bd (diffX X Y)) (Tks.c Tk.h Tks.n) ?_
  rintro _ _ ⟨rfl, rfl⟩
  (refine GO.gT rfl rfl rfl ?_; refine GO.eqi rfl rfl rfl ?_; refine GO.pickT rfl rfl rfl ?_; refine GO.assign rfl rfl ?_; refine GO.nil ?_; refine kthen_n ?_; refine G.ret ?_)
  refine KF2.r1 rfl (RV.t rfl) ⟨_, rfl, ?_, rfl⟩ (ImpS.sb ?_)
  · rw [decide_eq_true_iff]
    constructor
    · intro h0 r c hx
      cases hy : Y r c with
      | true => rfl
      | false =>
        have hd : diffX X Y r c = true := by unfold diffX; rw [hx, hy]; rfl
        have hl := cellsX_len (diffX X Y)
        have hp := cellsX_pos hsd.2 (fun r c h => hin r c (by unfold diffX at h; rw [Bool.and_eq_true] at h; exact h.1)) hd
        have hz : cellsX (diffX X Y) = [] := List.eq_nil_of_length_eq_zero (by omega)
        rw [hz] at hp
        cases hp
    · intro h
      have hd : diffX X Y = noX := by
        funext r c
        unfold diffX noX
        cases hx : X r c with
        | false => rfl
        | true => rw [h r c hx]; rfl
      rw [hd, cntX_no]; rfl
  · ((refine Sb.c (Tk.t Tk.h) ?_; refine Sb.c (Tk.t Tk.h) ?_); (refine Sb.s ?_; exact Sb.r))
end Go.Proofs.YtpfcgfgkmgnaaaaDoor
namespace Go.Proofs.YtpfcgfgkmgnaaaaDoor
open Go
theorem fam_snoc {T : TypeId} {sz k : Nat} {vs : Nat → Value} {ln : Nat → Nat} {xs : Nat → List Value} {F : List HP} : ImpS (own T sz (ln k) (vs k) (xs k) :: fam T sz k vs ln xs :: F) (fam T sz (k + 1) vs ln xs :: F) := fun l w s => by
  unfold fam at *
  have s1 := sat_perm (List.Perm.swap _ _ _) s
  have s2 := sat_flat.1 s1
  refine sat_flat.2 ?_
  rw [List.range_succ, List.map_append, List.append_assoc]
  exact s2
theorem fam_zero {T : TypeId} {sz : Nat} {vs : Nat → Value} {ln : Nat → Nat} {xs : Nat → List Value} {F : List HP} : ImpS F (fam T sz 0 vs ln xs :: F) := fun l w s => by
  unfold fam
  exact sat_flat.2 s
section
variable {P : Program} {c : Cx} {K : Kont} {L : Env} {H F : List HP} {s : Nat} {T : Nat → Nat → Bool} {v : Value} {vs : Nat → Value} {C : Code}
theorem G.gridIn (hs : 0 < s) (tk : Tks [own 75 1 s v (rowV (fun v : Value => v) vs s), fam 4 1 s vs (fun _ => s) (fun i => boolsV (T i) s)] H F)
    (k : ∀ bo co bs caps, v = .slice (some ⟨bo, 0, none⟩) s co → s ≤ co → G P c C K L (rowsO s bo co bs caps :: rowsF s bs caps T :: F)) : G P c C K L H := by
  rintro a w ⟨h1, h2, ds, h3, h4, h5⟩
  obtain ⟨bo, co, bs, caps, e1, e2, h6⟩ := grid_form hs (sat_perm (List.Perm.append_right _ tk) h5)
  exact k bo co bs caps e1 e2 a w ⟨h1, h2, ds, h3, h4, h6⟩
end
attribute [local irreducible] G GO GR GT Fn FnV pt init exs pur sat own ImpS mat posL allV orL restX cellsX cellsV cntX
set_option maxHeartbeats 8000000 in
theorem grid_spec (s : Nat) (h1 : 1 ≤ s) (h2 : s ≤ 1024) : Fn Tryd.prog 41 #[i64 (s : Nat)] [] (fun r Q => ∃ bo co bs caps, r = .slice (some ⟨bo, 0, none⟩) s co ∧ Q = [rowsO s bo co bs caps, rowsF s bs caps noX]) := by
  refine Fn.mk2 Tryd.func41 rfl rfl fun w0 F => ?_
  (refine G.seq ?_; refine G.region ?_; refine GO.assign rfl rfl ?_; refine GO.nil ?_; refine kthen_n ?_; refine G.seq ?_; refine G.region ?_; refine GO.move rfl rfl ?_)
  refine GO.make1 (n := s) rfl rfl rfl ⟨rfl, rfl⟩ ⟨by omega, by omega⟩ fun bl => ?_
  rw [show List.replicate s (Value.slice none 0 0) = rowV (fun v : Value => v) (fun _ => .slice none 0 0) s from rowV_const (f := fun v : Value => v) (a := .slice none 0 0)]
  (refine GO.assign rfl rfl ?_; refine GO.nil ?_; refine kthen_n ?_; refine G.seq ?_; refine G.seq ?_; refine G.region ?_; refine GO.move rfl rfl ?_; refine GO.lenS rfl rfl ?_; refine GO.move rfl rfl ?_; refine GO.nil ?_; refine kthen_n ?_; refine G.block ?_)
  refine G.impS (H' := fam 4 1 0 (fun _ => .slice none 0 0) (fun _ => s) (fun i => boolsV (noX i) s) :: pt bl (row (rowV (fun v : Value => v) (fun _ => .slice none 0 0) s) 75) :: F) (ImpS.trans (ImpS.sb (by ((refine Sb.c Tk.h ?_); (exact Sb.r)))) fam_zero) ?_
  refine G.loop2 (fun (k : Nat) (_ : Nat → Value) => [(0, i64 (s : Nat)), (3, .slice (some ⟨bl, 0, none⟩) s s), (7, .slice (some ⟨bl, 0, none⟩) s s), (8, i64 (s : Nat)), (9, i64 (k : Nat))])
    (fun k vs => fam 4 1 k vs (fun _ => s) (fun i => boolsV (noX i) s) :: pt bl (row (rowV (fun v : Value => v) vs s) 75) :: F) (fun k _ => k ≤ s) (fun k _ => s - k) 0 (fun _ => .slice none 0 0) (by omega) ?_ ?_ ?_
  · (refine SubE.c rfl rfl ?_; refine SubE.c rfl rfl ?_; refine SubE.c rfl rfl ?_; refine SubE.c rfl rfl ?_; refine SubE.c rfl rfl ?_; exact SubE.n)
  · ((refine Sb.c Tk.h ?_; refine Sb.c Tk.h ?_); (exact Sb.r))
  · rintro k vs hk
    (refine G.seq ?_; refine G.region ?_; refine GO.lti rfl rfl rfl ?_; refine GO.nil ?_; refine kthen_n ?_; refine G.seq ?_)
    refine G.condD rfl (fun hlt => ?_) (fun hge => ?_)
    · have hks : k < s := by omega
      (refine G.skip ?_; refine kthen_n ?_; refine G.seq ?_; refine G.block ?_; refine G.seq ?_; refine G.region ?_; refine GO.move rfl rfl ?_; refine GO.assign rfl rfl ?_; refine GO.nil ?_; refine kthen_n ?_; refine G.region ?_; refine GO.move rfl rfl ?_; refine GO.move rfl rfl ?_; refine GO.move rfl rfl ?_)
      refine GO.make1 (n := s) rfl rfl rfl ⟨rfl, rfl⟩ ⟨by omega, by omega⟩ fun bn => ?_
      rw [show List.replicate s (Value.bool false) = boolsV (noX k) s from rowV_const (f := Value.bool) (a := false)]
      (refine GO.idxS rfl rfl rfl ⟨rfl, by omega⟩ ?_)
      refine GO.store1 rfl rfl rfl (Tk.t (Tk.t Tk.h)) (by rw [rowV_len]; omega) ?_
      rw [rowV_set (f := fun v : Value => v)]
      refine GO.ownIn (n := s) (sz := 1) (T := 4) (xs := boolsV (noX k) s) (Tk.t Tk.h) (by rw [rowV_len, Nat.mul_one]) (by unfold maxLen; omega) ?_
      refine GO.keep (H' := fam 4 1 (k + 1) (upd vs k (.slice (some ⟨bn, 0, none⟩) s s)) (fun _ => s) (fun i => boolsV (noX i) s) :: pt bl (row (rowV (fun v : Value => v) (upd vs k (.slice (some ⟨bn, 0, none⟩) s s)) s) 75) :: F) ?_ ?_
      · refine ImpS.trans ?_ (fam_snoc (T := 4) (sz := 1) (k := k) (vs := upd vs k (.slice (some ⟨bn, 0, none⟩) s s)) (ln := fun _ => s) (xs := fun i => boolsV (noX i) s))
        rw [upd_at, show fam 4 1 k (upd vs k (.slice (some ⟨bn, 0, none⟩) s s)) (fun _ => s) (fun i => boolsV (noX i) s) = fam 4 1 k vs (fun _ => s) (fun i => boolsV (noX i) s) from fam_congr fun i hi => ⟨upd_ne _ _ (by omega), rfl, rfl⟩]
        refine ImpS.sb ?_
        ((refine Sb.c Tk.h ?_; refine Sb.c (Tk.t Tk.h) ?_; refine Sb.c Tk.h ?_); (exact Sb.r))
      (refine GO.nil ?_; refine kblock_n ?_; refine kthen_n ?_; refine G.region ?_; refine GO.addi rfl rfl rfl (by omega) ?_; refine GO.move rfl rfl ?_; refine GO.nil ?_; refine kthen_n ?_)
      refine ⟨k + 1, upd vs k (.slice (some ⟨bn, 0, none⟩) s s), by omega, by omega, ?_, ?_⟩
      · (refine SubE.c rfl rfl ?_; refine SubE.c rfl rfl ?_; refine SubE.c rfl rfl ?_; refine SubE.c rfl rfl ?_; refine SubE.c rfl rfl ?_; exact SubE.n)
      · ((refine Sb.c Tk.h ?_; refine Sb.c Tk.h ?_); (exact Sb.r))
    · obtain rfl : k = s := by omega
      refine G.ownIn (n := k) (sz := 1) (T := 75) (Tk.t Tk.h) (by rw [rowV_len, Nat.mul_one]) (by unfold maxLen; omega) ?_
      refine G.gridIn (s := k) (T := noX) (by omega) (Tks.c Tk.h (Tks.c Tk.h Tks.n)) fun bo co bs caps e1 e2 => ?_
      injection e1 with e1 _ e3
      injection e1 with e1
      injection e1 with e1
      subst e1 e3
      (refine G.exit ?_; refine kthen_x ?_; refine kthen_x ?_; refine kblock_x ?_; refine kthen_n ?_; refine G.seq ?_; refine G.region ?_; refine GO.move rfl rfl ?_; refine GO.assign rfl rfl ?_; refine GO.nil ?_; refine kthen_n ?_; refine G.ret ?_)
      refine KF2.r1 rfl (RV.t rfl) ⟨_, _, bs, caps, rfl, rfl⟩ (ImpS.sb ?_)
      ((refine Sb.c Tk.h ?_; refine Sb.c Tk.h ?_); (exact Sb.r))
theorem built_keep (b : Nat) (v1 v2 : Value) (h1 : v1.oneCell' = true) (h2 : v2.oneCell' = true) (bo1 bo2 s c1 c2 : Nat) (e1 : v1 = .slice (some ⟨bo1, 0, none⟩) s c1) (e2 : v2 = .slice (some ⟨bo2, 0, none⟩) s c2) : Tryd.prog.built 83 [(0, ptrV b), (2, v1), (3, v2)] = some [ptrV b, i64 0, v1, v2].toArray := by
  subst e1 e2
  kernel_rfl
set_option maxHeartbeats 8000000 in
theorem knew_spec (n : Int) : Fn Tryd.prog 10 #[i64 n] [] (fun r Q => (∃ (s bk : Nat) (d : KD), n = s ∧ 1 ≤ s ∧ s ≤ 1024 ∧ r = .tuple #[ptrV bk, i64 0] ∧ Q = keepL s bk d noX noX) ∨ (¬ (1 ≤ n ∧ n ≤ 1024) ∧ r = .tuple #[.pointer none, i64 2] ∧ Q = [])) := by
  refine Fn.mk2 Tryd.func10 rfl rfl fun w0 F => ?_
  (refine G.seq ?_; refine G.region ?_; refine GO.assign rfl rfl ?_; refine GO.assign rfl rfl ?_; refine GO.nil ?_; refine kthen_n ?_; refine G.seq ?_; refine G.region ?_; refine GO.move rfl rfl ?_)
  refine GO.call1 rfl rfl (new_spec n) Tks.n ?_
  rintro _ _ (⟨s, bs, rfl, hn1, hn2, rfl, rfl⟩ | ⟨hno, rfl, rfl⟩)
  · (refine GO.move rfl rfl ?_; refine GO.extract rfl rfl rfl ?_; refine GO.extract rfl rfl rfl ?_; refine GO.assign rfl rfl ?_; refine GO.assign rfl rfl ?_; refine GO.nil ?_; refine kthen_n ?_; refine G.seq ?_; refine G.seq ?_; refine G.region ?_; refine GO.move rfl rfl ?_; refine GO.neF rfl rfl rfl rfl ?_; refine GO.nil ?_; refine kthen_n ?_; refine G.condF rfl rfl ?_; refine G.skip ?_; refine kthen_n ?_; refine G.seq ?_; refine G.region ?_; refine GO.move rfl rfl ?_; refine GO.move rfl rfl ?_)
    refine GO.call1 rfl rfl (grid_spec s (by omega) (by omega)) Tks.n ?_
    rintro _ _ ⟨bt, ct, bst, cst, rfl, rfl⟩
    (refine GO.move rfl rfl ?_)
    refine GO.call1 rfl rfl (grid_spec s (by omega) (by omega)) Tks.n ?_
    rintro _ _ ⟨bf, cf, bsf, csf, rfl, rfl⟩
    refine GO.buildPart3 (built_keep bs _ _ rfl rfl bt bf s ct cf rfl rfl) rfl rfl rfl rfl ?_
    (refine GO.box rfl rfl rfl fun b20 => ?_; refine GO.assign rfl rfl ?_; refine GO.assign rfl rfl ?_; refine GO.nil ?_; refine kthen_n ?_; refine G.ret ?_)
    have e0 : cntX noX = 0 := cntX_no
    refine KF2.r2 rfl (RV.t rfl) (RV.t rfl) (.inl ⟨s, _, ⟨bs, bt, ct, bf, cf, bst, cst, bsf, csf⟩, rfl, by omega, by omega, rfl, rfl⟩) (ImpS.sb ?_)
    unfold keepL hdK
    rw [e0, show flipX noX = noX from rfl]
    ((refine Sb.c Tk.h ?_; refine Sb.c (Tk.t (Tk.t (Tk.t (Tk.t Tk.h)))) ?_; refine Sb.c (Tk.t (Tk.t Tk.h)) ?_; refine Sb.c (Tk.t (Tk.t Tk.h)) ?_; refine Sb.c Tk.h ?_; refine Sb.c Tk.h ?_); (exact Sb.r))
  · (refine GO.move rfl rfl ?_; refine GO.extract rfl rfl rfl ?_; refine GO.extract rfl rfl rfl ?_; refine GO.assign rfl rfl ?_; refine GO.assign rfl rfl ?_; refine GO.nil ?_; refine kthen_n ?_; refine G.seq ?_; refine G.seq ?_; refine G.region ?_; refine GO.move rfl rfl ?_; refine GO.nei rfl rfl rfl ?_; refine GO.nil ?_; refine kthen_n ?_; refine G.condT rfl rfl ?_; refine G.seq ?_; refine G.region ?_; refine GO.move rfl rfl ?_; refine GO.assign rfl rfl ?_; refine GO.assign rfl rfl ?_; refine GO.nil ?_; refine kthen_n ?_; refine G.ret ?_; refine kthen_r ?_)
    refine KF2.r2 rfl (RV.t rfl) (RV.t rfl) (.inr ⟨hno, rfl, rfl⟩) (ImpS.sb ?_)
    (skip; (exact Sb.r))
/-- The cells that were told, as they are kept. -/
def accP (b : Nat) (l : List (Nat × Nat)) : HP := exs fun v : Value => star [pt b (row [v] 26), own 63 2 l.length v (pairsV l)]
set_option maxHeartbeats 4000000 in
theorem tell_add (b : Nat) (l : List (Nat × Nat)) (u v : Nat) (hl : l.length ≤ 2097152) : Fn Tryd.prog 62 #[.agg #[i64 (u : Nat), i64 (v : Nat)], ptrV b] [accP b l] (fun _ Q => Q = [accP b (l ++ [(u, v)])]) := by
  refine Fn.mk2 Tryd.func62 rfl rfl fun w0 F => ?_
  refine G.exs fun x => G.flat ?_
  change G _ _ _ _ _ (pt b (row [x] 26) :: own 63 2 l.length x (pairsV l) :: F)
  (refine G.seq ?_; refine G.region ?_; refine GO.box rfl rfl rfl fun b2 => ?_; refine GO.nil ?_; refine kthen_n ?_; refine G.region ?_; refine GO.load1 rfl rfl rfl (Tk.t Tk.h) rfl ?_; refine GO.loadW rfl rfl rfl Tk.h rfl ?_)
  refine GO.buildSlice1 rfl rfl (by simp; rfl) rfl ⟨by omega, by omega⟩ fun bs => ?_
  refine GO.appendOwn (m := 1) (news := [i64 (u : Nat), i64 (v : Nat)]) rfl rfl rfl (Tk.t (Tk.t (Tk.t Tk.h))) Tk.h rfl (by simp [Value.oneCell']) ⟨by decide, rfl⟩ Nat.one_pos (by unfold maxLen; omega) (by omega) fun v4 => ?_
  refine GO.ownOne Tk.h fun hone4 => ?_
  rw [pairsV_one, show l.length + 1 = (l ++ [(u, v)]).length by rw [List.length_append]; rfl]
  (refine GO.store1 rfl rfl (by assumption) (Tk.t (Tk.t (Tk.t Tk.h))) (by simp) ?_; refine GO.nil ?_)
  refine KF2.n0 rfl rfl (ImpS.exs v4 (ImpS.flat (ImpS.sb ?_)))
  ((refine Sb.c Tk.h ?_; refine Sb.c Tk.h ?_); (refine Sb.s ?_; refine Sb.s ?_; exact Sb.r))
set_option maxHeartbeats 8000000 in
theorem add_k (s bk : Nat) (d : KD) (S T : Nat → Nat → Bool) (hs1 : 1 ≤ s) (hs : s ≤ 1024) (hT : ∀ r c, T r c = true → r < s ∧ c < s) (hc : IsClo S T) (i j : Nat) (hi : i < s) (hj : j < s) :
    Fn Tryd.prog 25 #[ptrV bk, i64 (i : Nat), i64 (j : Nat)] (keepL s bk d S T) (fun r Q => ∃ v, r = .tuple #[v, i64 0] ∧ Q = keepL s bk d (addX S i j) (stepX T i j) ++ [own 63 2 (cellsX (diffX (stepX T i j) T)).length v (pairsV (cellsX (diffX (stepX T i j) T)))]) := by
  have hw := wrong_k s bk d (cntX T) S hs1 (i : Int) (j : Int)
  rw [wrK_t (inM_nat hi hj)] at hw
  have hst : ∀ b : Nat, Fn Tryd.prog 61 #[ptrV bk, i64 (i : Nat), i64 (j : Nat), .func (.func 62) #[] #[ptrV b]] [hdK s bk d (cntX T), mat s S d.bs, rowsO s d.bt d.ct d.bst d.cst, rowsF s d.bst d.cst T, rowsO s d.bf d.cf d.bsf d.csf, rowsF s d.bsf d.csf (flipX T), accP b []] (fun _ Q => Q = [hdK s bk d (cntX (stepX T i j)), mat s (addX S i j) d.bs, rowsO s d.bt d.ct d.bst d.cst, rowsF s d.bst d.cst (stepX T i j), rowsO s d.bf d.cf d.bsf d.csf, rowsF s d.bsf d.csf (flipX (stepX T i j)), accP b (cellsX (diffX (stepX T i j) T))]) := fun b => step_k s bk d S T hs hT hc i j hi hj (.func (.func 62) #[] #[ptrV b]) rfl (accP b) [] (by simp) (fun l u v hl hu hv => FnV.of (args := [.agg #[i64 (u : Nat), i64 (v : Nat)]]) (caps := [ptrV b]) (tell_add b l u v hl))
  change Fn _ _ _ [hdK s bk d (cntX T), mat s S d.bs, rowsO s d.bt d.ct d.bst d.cst, rowsF s d.bst d.cst T, rowsO s d.bf d.cf d.bsf d.csf, rowsF s d.bsf d.csf (flipX T)] _
  refine Fn.mk2 Tryd.func25 rfl rfl fun w0 F => ?_
  (refine G.seq ?_; refine G.region ?_; refine GO.assign rfl rfl ?_; refine GO.assign rfl rfl ?_; refine GO.nil ?_; refine kthen_n ?_; refine G.seq ?_; refine G.region ?_; refine GO.move rfl rfl ?_; refine GO.move rfl rfl ?_; refine GO.move rfl rfl ?_)
  refine GO.call3 rfl rfl rfl rfl (hw) (Tks.c Tk.h (Tks.c Tk.h Tks.n)) ?_
  rintro _ _ ⟨rfl, rfl⟩
  (refine GO.assign rfl rfl ?_; refine GO.nil ?_; refine kthen_n ?_; refine G.seq ?_; refine G.seq ?_; refine G.region ?_; refine GO.move rfl rfl ?_; refine GO.neF rfl rfl rfl rfl ?_; refine GO.nil ?_; refine kthen_n ?_; refine G.condF rfl rfl ?_; refine G.skip ?_; refine kthen_n ?_; refine G.seq ?_; refine G.region ?_; refine GO.alloc rfl fun b9 => ?_; refine GO.nil ?_; refine kthen_n ?_; refine G.seq ?_; refine G.region ?_; refine GO.move rfl rfl ?_; refine GO.move rfl rfl ?_; refine GO.move rfl rfl ?_; refine GO.makeFunc1 rfl rfl ?_)
  refine GO.ownNil (T := 63) (sz := 2) ?_
  refine GO.keep (H' := accP b9 [] :: hdK s bk d (cntX T) :: mat s S d.bs :: rowsO s d.bt d.ct d.bst d.cst :: rowsF s d.bst d.cst T :: rowsO s d.bf d.cf d.bsf d.csf :: rowsF s d.bsf d.csf (flipX T) :: F) (ImpS.exs (.slice none 0 0) (ImpS.flat (by rw [show pairsV [] = [] by unfold pairsV cellsV; rfl]; exact ImpS.sb (by ((refine Sb.c (Tk.t Tk.h) ?_; refine Sb.c Tk.h ?_; refine Sb.c Tk.h ?_; refine Sb.c Tk.h ?_; refine Sb.c Tk.h ?_; refine Sb.c Tk.h ?_; refine Sb.c Tk.h ?_; refine Sb.c Tk.h ?_); (exact Sb.r)))))) ?_
  refine GO.call4 rfl rfl rfl rfl rfl (hst b9) (Tks.c (Tk.t Tk.h) (Tks.c (Tk.t Tk.h) (Tks.c (Tk.t Tk.h) (Tks.c (Tk.t Tk.h) (Tks.c (Tk.t Tk.h) (Tks.c (Tk.t Tk.h) (Tks.c Tk.h Tks.n))))))) ?_
  rintro _ _ rfl
  generalize stepX T i j = T2
  refine GO.keep (H' := accP b9 (cellsX (diffX T2 T)) :: hdK s bk d (cntX T2) :: mat s (addX S i j) d.bs :: rowsO s d.bt d.ct d.bst d.cst :: rowsF s d.bst d.cst T2 :: rowsO s d.bf d.cf d.bsf d.csf :: rowsF s d.bsf d.csf (flipX T2) :: F) (ImpS.sb (by ((refine Sb.c (Tk.t (Tk.t (Tk.t (Tk.t (Tk.t (Tk.t Tk.h)))))) ?_; refine Sb.c Tk.h ?_; refine Sb.c Tk.h ?_; refine Sb.c Tk.h ?_; refine Sb.c Tk.h ?_; refine Sb.c Tk.h ?_; refine Sb.c Tk.h ?_); (exact Sb.r)))) ?_
  generalize cellsX (diffX T2 T) = l1
  refine GO.exs fun x => GO.flat ?_
  change GO _ _ _ _ _ _ (pt b9 (row [x] 26) :: own 63 2 l1.length x (pairsV l1) :: _)
  (refine GO.nil ?_; refine kthen_n ?_; refine G.seq ?_; refine G.region ?_; refine GO.load1 rfl rfl rfl Tk.h rfl ?_; refine GO.assign rfl rfl ?_; refine GO.assign rfl rfl ?_; refine GO.nil ?_; refine kthen_n ?_; refine G.ret ?_)
  refine KF2.r2 rfl (RV.t rfl) (RV.t rfl) ⟨_, rfl, rfl⟩ (ImpS.sb ?_)
  ((refine Sb.c (Tk.t (Tk.t Tk.h)) ?_; refine Sb.c (Tk.t (Tk.t Tk.h)) ?_; refine Sb.c (Tk.t (Tk.t Tk.h)) ?_; refine Sb.c (Tk.t (Tk.t Tk.h)) ?_; refine Sb.c (Tk.t (Tk.t Tk.h)) ?_; refine Sb.c (Tk.t (Tk.t Tk.h)) ?_; refine Sb.c (Tk.t Tk.h) ?_); (refine Sb.s ?_; exact Sb.r))
end Go.Proofs.YtpfcgfgkmgnaaaaDoor
namespace Go.Proofs.YtpfcgfgkmgnaaaaDoor
open Go
theorem one_iff (i j r c : Nat) : stepX noX i j r c = true ↔ r = i ∧ c = j := by
  rw [step_iff]
  unfold noX
  simp
def hT1 : Nat → Nat → Bool := stepX noX 0 1
def hT2 : Nat → Nat → Bool := stepX hT1 1 2
theorem hT1_iff (r c : Nat) : hT1 r c = true ↔ r = 0 ∧ c = 1 := one_iff 0 1 r c
theorem hT2_iff (r c : Nat) : hT2 r c = true ↔ (r = 0 ∧ c = 1) ∨ (r = 0 ∧ c = 2) ∨ (r = 1 ∧ c = 2) := by
  unfold hT2
  rw [step_iff, hT1_iff, hT1_iff, hT1_iff]
  omega
theorem hT1_in : ∀ r c, hT1 r c = true → r < 3 ∧ c < 3 := fun r c h => by rw [hT1_iff] at h; omega
theorem hT2_in : ∀ r c, hT2 r c = true → r < 3 ∧ c < 3 := fun r c h => by rw [hT2_iff] at h; omega
theorem hT1_cells : cellsX (diffX hT1 noX) = [(0, 1)] := by
  refine strict_unique (R := fun a b : Nat × Nat => ltC ((a.1 : Int), (a.2 : Int)) ((b.1 : Int), (b.2 : Int)) = true) (fun _ _ h => ltC_asymm h) (cells_pairs _) (List.pairwise_singleton _ _) fun p => ?_
  have hin : ∀ r c, diffX hT1 noX r c = true → r < 3 ∧ c < 3 := fun r c h => by
    unfold diffX at h; rw [Bool.and_eq_true] at h; exact hT1_in r c h.1
  rw [cellsX_iff (by decide) hin, List.mem_singleton]
  unfold diffX noX
  rw [Bool.not_false, Bool.and_true, hT1_iff]
  constructor
  · intro h; exact Prod.ext h.1 h.2
  · rintro rfl; exact ⟨rfl, rfl⟩
theorem hT2_cells : cellsX (diffX hT2 hT1) = [(0, 2), (1, 2)] := by
  refine strict_unique (R := fun a b : Nat × Nat => ltC ((a.1 : Int), (a.2 : Int)) ((b.1 : Int), (b.2 : Int)) = true) (fun _ _ h => ltC_asymm h) (cells_pairs _) ?_ fun p => ?_
  · refine List.Pairwise.cons (fun b hb => ?_) (List.pairwise_singleton _ _)
    obtain rfl := List.mem_singleton.1 hb
    decide
  have hin : ∀ r c, diffX hT2 hT1 r c = true → r < 3 ∧ c < 3 := fun r c h => by
    unfold diffX at h; rw [Bool.and_eq_true] at h; exact hT2_in r c h.1
  rw [cellsX_iff (by decide) hin]
  unfold diffX
  rw [Bool.and_eq_true, hT2_iff, Bool.not_eq_true', Bool.eq_false_iff, ne_eq, hT1_iff]
  obtain ⟨r, c⟩ := p
  simp only [List.mem_cons, List.not_mem_nil, or_false, Prod.mk.injEq]
  omega
theorem hT2_cnt : cntX hT2 = 3 := by
  have e : hT2 = addX (addX (addX noX 0 1) 0 2) 1 2 := by
    funext r c
    rw [Bool.eq_iff_iff, hT2_iff]
    unfold addX noX
    simp only [Bool.or_eq_true, Bool.and_eq_true, decide_eq_true_eq, Bool.false_or]
    omega
  have h1 : addX (addX noX 0 1) 0 2 1 2 = false := rfl
  have h2 : addX noX 0 1 0 2 = false := rfl
  rw [e, cntX_add (by decide) (by decide) h1, cntX_add (by decide) (by decide) h2, cntX_add (by decide) (by decide) rfl, cntX_no]
attribute [local irreducible] G GO GR GT Fn FnV pt init exs pur sat own ImpS mat posL allV orL restX cellsX cellsV cntX stepX hT1 hT2 addX
set_option maxHeartbeats 4000000 in
theorem add_no (s bk : Nat) (d : KD) (c : Nat) (S : Nat → Nat → Bool) (hs : 1 ≤ s) (i j : Int) (h : inM s i j = false) : Fn Tryd.prog 25 #[ptrV bk, i64 i, i64 j] [hdK s bk d c, mat s S d.bs] (fun r Q => r = .tuple #[.slice none 0 0, i64 2] ∧ Q = [hdK s bk d c, mat s S d.bs]) := by
  have hw := wrong_k s bk d c S hs i j
  rw [wrK_f h] at hw
  refine Fn.mk2 Tryd.func25 rfl rfl fun w0 F => ?_
  (refine G.seq ?_; refine G.region ?_; refine GO.assign rfl rfl ?_; refine GO.assign rfl rfl ?_; refine GO.nil ?_; refine kthen_n ?_; refine G.seq ?_; refine G.region ?_; refine GO.move rfl rfl ?_; refine GO.move rfl rfl ?_; refine GO.move rfl rfl ?_)
  refine GO.call3 rfl rfl rfl rfl (hw) (Tks.c Tk.h (Tks.c Tk.h Tks.n)) ?_
  rintro _ _ ⟨rfl, rfl⟩
  (refine GO.assign rfl rfl ?_; refine GO.nil ?_; refine kthen_n ?_; refine G.seq ?_; refine G.seq ?_; refine G.region ?_; refine GO.move rfl rfl ?_; refine GO.nei rfl rfl rfl ?_; refine GO.nil ?_; refine kthen_n ?_; refine G.condT rfl rfl ?_; refine G.seq ?_; refine G.region ?_; refine GO.move rfl rfl ?_; refine GO.assign rfl rfl ?_; refine GO.assign rfl rfl ?_; refine GO.nil ?_; refine kthen_n ?_; refine G.ret ?_; refine kthen_r ?_)
  refine KF2.r2 rfl (RV.t rfl) (RV.t rfl) ⟨rfl, rfl⟩ (ImpS.sb ?_)
  ((refine Sb.c Tk.h ?_; refine Sb.c Tk.h ?_); (exact Sb.r))
set_option maxHeartbeats 8000000 in
theorem hawake_spec (q : HP) : Fn Tryd.prog 8 #[] [q] (fun r Q => r = .bool true ∧ Q = [q]) := by
  have c1 : IsClo (addX noX 0 1) hT1 := by unfold hT1; exact clo_no.add 0 1
  have a1 := fun bk d => add_k 3 bk d noX noX (by omega) (by omega) (fun r c h => by cases h) clo_no 0 1 (by omega) (by omega)
  have a2 := fun bk d => add_k 3 bk d (addX noX 0 1) hT1 (by omega) (by omega) hT1_in c1 1 2 (by omega) (by omega)
  have e1 : stepX noX 0 1 = hT1 := by unfold hT1; rfl
  have e2 : stepX hT1 1 2 = hT2 := by unfold hT2; rfl
  rw [e1, hT1_cells] at a1
  rw [e2, hT2_cells] at a2
  have hn := hT2_cnt
  have h02 : hT2 0 2 = true := (hT2_iff 0 2).2 (by omega)
  refine Fn.mk2 Tryd.func8 rfl rfl fun w0 F => ?_
  (refine G.seq ?_; refine G.region ?_; refine GO.assign rfl rfl ?_; refine GO.nil ?_; refine kthen_n ?_; refine G.seq ?_; refine G.region ?_)
  refine GO.call1 rfl rfl (knew_spec 3) Tks.n ?_
  rintro _ _ (⟨s, bk, d, hs, _, _, rfl, rfl⟩ | ⟨hno, _, _⟩)
  rotate_left 1
  · exact absurd (by omega) hno
  obtain rfl : s = 3 := by omega
  change GO _ _ _ _ _ _ (hdK 3 bk d (cntX noX) :: mat 3 noX d.bs :: rowsO 3 d.bt d.ct d.bst d.cst :: rowsF 3 d.bst d.cst noX :: rowsO 3 d.bf d.cf d.bsf d.csf :: rowsF 3 d.bsf d.csf (flipX noX) :: _)
  (refine GO.move rfl rfl ?_; refine GO.extract rfl rfl rfl ?_; refine GO.extract rfl rfl rfl ?_; refine GO.assign rfl rfl ?_; refine GO.assign rfl rfl ?_; refine GO.nil ?_; refine kthen_n ?_; refine G.seq ?_; refine G.seq ?_; refine G.region ?_; refine GO.move rfl rfl ?_; refine GO.eqNilP rfl rfl ?_; refine GO.move rfl rfl ?_; refine GO.gT rfl rfl rfl ?_; refine GO.move rfl rfl ?_; refine GO.gT rfl rfl rfl ?_; refine GO.neF rfl rfl rfl rfl ?_; refine GO.pickF rfl rfl rfl ?_; refine GO.nil ?_; refine kthen_n ?_; refine G.condF rfl rfl ?_; refine G.skip ?_; refine kthen_n ?_; refine G.seq ?_; refine G.region ?_; refine GO.move rfl rfl ?_)
  have a1 := a1 bk d
  have a2 := a2 bk d
  change Fn _ _ _ [hdK 3 bk d (cntX noX), mat 3 noX d.bs, rowsO 3 d.bt d.ct d.bst d.cst, rowsF 3 d.bst d.cst noX, rowsO 3 d.bf d.cf d.bsf d.csf, rowsF 3 d.bsf d.csf (flipX noX)] (fun r Q => ∃ v, _ ∧ Q = [hdK 3 bk d (cntX hT1), mat 3 (addX noX 0 1) d.bs, rowsO 3 d.bt d.ct d.bst d.cst, rowsF 3 d.bst d.cst hT1, rowsO 3 d.bf d.cf d.bsf d.csf, rowsF 3 d.bsf d.csf (flipX hT1), own 63 2 1 v (pairsV [(0, 1)])]) at a1
  change Fn _ _ _ [hdK 3 bk d (cntX hT1), mat 3 (addX noX 0 1) d.bs, rowsO 3 d.bt d.ct d.bst d.cst, rowsF 3 d.bst d.cst hT1, rowsO 3 d.bf d.cf d.bsf d.csf, rowsF 3 d.bsf d.csf (flipX hT1)] (fun r Q => ∃ v, _ ∧ Q = [hdK 3 bk d (cntX hT2), mat 3 (addX (addX noX 0 1) 1 2) d.bs, rowsO 3 d.bt d.ct d.bst d.cst, rowsF 3 d.bst d.cst hT2, rowsO 3 d.bf d.cf d.bsf d.csf, rowsF 3 d.bsf d.csf (flipX hT2), own 63 2 2 v (pairsV [(0, 2), (1, 2)])]) at a2
  refine GO.call3 rfl rfl rfl rfl (a1) (Tks.c Tk.h (Tks.c Tk.h (Tks.c Tk.h (Tks.c Tk.h (Tks.c Tk.h (Tks.c Tk.h Tks.n)))))) ?_
  rintro _ _ ⟨v1, rfl, rfl⟩
  refine GO.ownForm (by decide) (Tk.t (Tk.t (Tk.t (Tk.t (Tk.t (Tk.t Tk.h)))))) fun bo1 cap1 g1 _ _ _ => ?_
  subst g1
  (refine GO.move rfl rfl ?_; refine GO.extract rfl rfl rfl ?_; refine GO.extract rfl rfl rfl ?_; refine GO.assign rfl rfl ?_; refine GO.assign rfl rfl ?_; refine GO.nil ?_; refine kthen_n ?_; refine G.seq ?_; refine G.region ?_; refine GO.move rfl rfl ?_)
  refine GO.call3 rfl rfl rfl rfl (a2) (Tks.c Tk.h (Tks.c Tk.h (Tks.c Tk.h (Tks.c Tk.h (Tks.c Tk.h (Tks.c Tk.h Tks.n)))))) ?_
  rintro _ _ ⟨v2, rfl, rfl⟩
  refine GO.ownForm (by decide) (Tk.t (Tk.t (Tk.t (Tk.t (Tk.t (Tk.t Tk.h)))))) fun bo2 cap2 g2 _ _ _ => ?_
  subst g2
  rw [hn]
  (refine GO.move rfl rfl ?_; refine GO.extract rfl rfl rfl ?_; refine GO.extract rfl rfl rfl ?_; refine GO.assign rfl rfl ?_; refine GO.assign rfl rfl ?_; refine GO.nil ?_; refine kthen_n ?_; refine G.seq ?_; refine G.region ?_; refine GO.move rfl rfl ?_)
  refine GO.call3 rfl rfl rfl rfl (add_no 3 bk d 3 (addX (addX noX 0 1) 1 2) (by omega) 0 3 (by decide)) (Tks.c Tk.h (Tks.c Tk.h Tks.n)) ?_
  rintro _ _ ⟨rfl, rfl⟩
  (refine GO.move rfl rfl ?_; refine GO.extract rfl rfl rfl ?_; refine GO.extract rfl rfl rfl ?_; refine GO.assign rfl rfl ?_; refine GO.assign rfl rfl ?_; refine GO.nil ?_; refine kthen_n ?_; refine G.seq ?_; refine G.region ?_; refine GO.move rfl rfl ?_)
  refine GO.call3 rfl rfl rfl rfl (has_k 3 bk d 3 (addX (addX noX 0 1) 1 2) hT2 (by omega) 0 2) (Tks.c Tk.h (Tks.c Tk.h (Tks.c Tk.h (Tks.c Tk.h Tks.n)))) ?_
  rintro _ _ ⟨rfl, rfl⟩
  rw [show getM hT2 3 0 2 = .tuple #[.bool true, i64 0] by rw [show getM hT2 3 0 2 = .tuple #[.bool (hT2 0 2), i64 0] from rfl, h02]]
  have rd0 : Rd (own 63 2 2 (.slice (some ⟨bo2, 0, none⟩) 2 cap2) (pairsV [(0, 2), (1, 2)])) ⟨bo2, 0 + 0 * 2, none⟩ (i64 ((0 : Nat) : Int)) := Rd.own (by unfold pairsV cellsV castL; rfl)
  have rd1 : Rd (own 63 2 2 (.slice (some ⟨bo2, 0, none⟩) 2 cap2) (pairsV [(0, 2), (1, 2)])) ⟨bo2, 0 + 0 * 2 + 1, none⟩ (i64 ((2 : Nat) : Int)) := Rd.own (by unfold pairsV cellsV castL; rfl)
  have hceq := EqR.celC (d := 9998) ((0 : Int), (2 : Int)) ((0 : Int), (2 : Int))
  rw [decide_eq_true rfl] at hceq
  (refine GO.move rfl rfl ?_; refine GO.extract rfl rfl rfl ?_; refine GO.extract rfl rfl rfl ?_; refine GO.assign rfl rfl ?_; refine GO.assign rfl rfl ?_; refine GO.nil ?_; refine kthen_n ?_; refine G.seq ?_; refine G.region ?_; refine GO.move rfl rfl ?_; refine GO.eqT rfl rfl rfl rfl ?_; refine GO.move rfl rfl ?_; refine GO.gT rfl rfl rfl ?_; refine GO.move rfl rfl ?_; refine GO.gT rfl rfl rfl ?_; refine GO.eqT rfl rfl rfl rfl ?_; refine GO.pickT rfl rfl rfl ?_; refine GO.move rfl rfl ?_; refine GO.gT rfl rfl rfl ?_; refine GO.move rfl rfl ?_; refine GO.gT rfl rfl rfl ?_; refine GO.eqT rfl rfl rfl rfl ?_; refine GO.pickT rfl rfl rfl ?_; refine GO.move rfl rfl ?_; refine GO.gT rfl rfl rfl ?_; refine GO.move rfl rfl ?_; refine GO.gT rfl rfl rfl ?_; refine GO.eqT rfl rfl rfl rfl ?_; refine GO.pickT rfl rfl rfl ?_; refine GO.move rfl rfl ?_; refine GO.gT rfl rfl rfl ?_; refine GO.move rfl rfl ?_; refine GO.pickT rfl rfl rfl ?_; refine GO.move rfl rfl ?_; refine GO.gT rfl rfl rfl ?_; refine GO.move rfl rfl ?_; refine GO.gT rfl rfl rfl ?_; refine GO.lenS rfl rfl ?_; refine GO.gT rfl rfl rfl ?_; refine GO.eqT rfl rfl rfl rfl ?_; refine GO.pickT rfl rfl rfl ?_; refine GO.move rfl rfl ?_; refine GO.gT rfl rfl rfl ?_; refine GO.move rfl rfl ?_; refine GO.gT rfl rfl rfl ?_; refine GO.lenS rfl rfl ?_; refine GO.gT rfl rfl rfl ?_; refine GO.eqT rfl rfl rfl rfl ?_; refine GO.pickT rfl rfl rfl ?_; refine GO.move rfl rfl ?_; refine GO.gT rfl rfl rfl ?_; refine GO.move rfl rfl ?_; refine GO.gT rfl rfl rfl ?_)
  refine GO.idxS (j := 0) rfl rfl rfl ⟨rfl, by decide⟩ ?_
  (refine GO.gT rfl rfl rfl ?_; refine GO.load2 rfl rfl rfl (Tk.t (Tk.t (Tk.t (Tk.t (Tk.t (Tk.t Tk.h)))))) (by assumption) (by assumption) ?_; refine GO.gT rfl rfl rfl ?_; refine GO.build2 rfl rfl rfl rfl ?_; refine GO.gT rfl rfl rfl ?_)
  refine GO.eqlA hceq rfl rfl rfl ?_
  (refine GO.pickT rfl rfl rfl ?_; refine GO.move rfl rfl ?_; refine GO.gT rfl rfl rfl ?_; refine GO.move rfl rfl ?_; refine GO.gT rfl rfl rfl ?_)
  refine GO.call1 rfl rfl (len_k 3 bk d 3) (Tks.c Tk.h Tks.n) ?_
  rintro _ _ ⟨rfl, rfl⟩
  (refine GO.gT rfl rfl rfl ?_; refine GO.eqT rfl rfl rfl rfl ?_; refine GO.pickT rfl rfl rfl ?_; refine GO.assign rfl rfl ?_; refine GO.nil ?_; refine kthen_n ?_; refine G.ret ?_)
  refine KF2.r1 rfl (RV.t rfl) ⟨rfl, rfl⟩ (ImpS.sb ?_)
  ((refine Sb.c (Tk.t (Tk.t (Tk.t (Tk.t (Tk.t (Tk.t (Tk.t (Tk.t Tk.h)))))))) ?_); (refine Sb.s ?_; refine Sb.s ?_; refine Sb.s ?_; refine Sb.s ?_; refine Sb.s ?_; refine Sb.s ?_; refine Sb.s ?_; refine Sb.s ?_; exact Sb.r))
end Go.Proofs.YtpfcgfgkmgnaaaaDoor
namespace Go.Proofs.YtpfcgfgkmgnaaaaDoor
open Go
/-! ## Methods bound to a receiver -/
def FnB (P : Program) (v : Value) (args : List Value) (Pre : List HP) (R : Value → List HP → Prop) : Prop :=
  ∃ fn first, v = .func fn first #[] ∧ ∀ F w, sat (Pre ++ F) w → ∃ nx, (invoke (.fn fn #[]) (first ++ args.toArray)).run P w = .ok nx w ∧ NxOk P nx w (Ret w F R)
theorem FnB.of {P : Program} {f : FuncId} [hc : Cal P f] {v0 : Value} {args : List Value} {Pre : List HP} {R : Value → List HP → Prop} (h : Fn P f (v0 :: args).toArray Pre R) : FnB P (.func (.func f) #[v0] #[]) args Pre R :=
  ⟨_, _, rfl, fun F w s => ⟨.enter f (v0 :: args).toArray, by simp [invoke, hc.out], h F w s⟩⟩
section
variable {P : Program} {c : Cx} {A : Array Oper} {rest : List Oper} {K : Kont} {L : Env} {H F : List HP} {t : TypeId} {p : String} {e : Array Edge} {d : Nat}
theorem GO.makeBound {f : Go.Fn} {x1 : Operand} {v1 : Value} (hN : Nat.blt d c.N = true) (h1 : evl L x1 = some v1)
    (k : GO P c A rest K ((d, .func f #[v1] #[]) :: L) H) : GO P c A (⟨some d, .makeFunc f #[x1] #[], t, p, e, none⟩ :: rest) K L H :=
  GO.val hN rfl (fun a w Y h _ => by
    simp [execOp, h.eval h1, Instr.makeFunc, Result.andThen]) k
theorem GO.callB1 {x x1 : Operand} {v0 v1 : Value} {ats : Array TypeId} {Pre : List HP} {R : Value → List HP → Prop} (hN : Nat.blt d c.N = true)
    (hx : evl L x = some v0) (h1 : evl L x1 = some v1) (spec : FnB P v0 [v1] Pre R) (tk : Tks Pre H F)
    (k : ∀ v Q, R v Q → GO P c A rest K ((d, v) :: L) (Q ++ F)) : GO P c A (⟨some d, .call ⟨.value x, #[x1], ats⟩, t, p, e, none⟩ :: rest) K L H := by
  rintro a w ⟨g1, h2, D, h3, h4, h5⟩
  obtain ⟨fn, first, rfl, spec⟩ := spec
  have s1 : sat (Pre ++ (F ++ (c.X ++ D.map dblk))) w := by
    rw [← List.append_assoc]; exact sat_perm (List.Perm.append_right _ tk) h5
  obtain ⟨nx, hrun, hnx⟩ := spec _ w s1
  have hargs : (#[x1] : Array Operand).map a.eval = [v1].toArray := by simp [g1.eval h1]
  have hex : (execOp a.eval ⟨some d, .call ⟨.value x, #[x1], ats⟩, t, p, e, none⟩).run P w = .ok nx w := by
    have he := g1.eval hx
    simp only [execOp, resolve, hargs, he, Deferred.ofValue, Sem.run_bind, Sem.run_pure, Result.andThen_ok, hrun]
  simp only [opsWp, Region.wanted, if_true]
  rw [semAt_nd _ _ _ rfl, hex]
  have fin : ∀ en w', Ret w (F ++ (c.X ++ D.map dblk)) R en w' → ∃ v, en = .returned v ∧ opsWp (fen c.r) P A (Post c K) rest (a.put (some d) v) w' := by
    rintro en w' ⟨v, Q, rfl, hs, hR, hq⟩
    refine ⟨v, rfl, k v Q hR _ w' ⟨g1.put hN, h2.trans hs, D, ?_, h4, ?_⟩⟩
    · simpa [Act.put] using h3
    · rw [List.append_assoc]; exact hq
  cases nx with
  | enter f xs =>
    refine ⟨fun h => by simp [fen, Fence.wide] at h, calls_round ?_⟩
    refine CallsIn.mono hnx fun en w' hr => ?_
    obtain ⟨v, rfl, h⟩ := fin en w' hr
    exact h
  | round l f t x y =>
    refine ⟨fun h => by simp [fen, Fence.wide] at h, rounds_round ?_⟩
    refine RoundIn.mono hnx fun en w' hr => ?_
    obtain ⟨v, rfl, h⟩ := fin en w' hr
    exact h
  | _ => exact hnx.elim
end
/-! ## The rows that are met -/
def cntA (A : Nat → Bool) (s : Nat) : Nat := (List.range s).countP A
theorem cntA_le (A : Nat → Bool) (s : Nat) : cntA A s ≤ s := by
  have := List.countP_le_length (p := A) (l := List.range s)
  rw [List.length_range] at this
  exact this
theorem cntA_upd {A : Nat → Bool} {s j : Nat} (hj : j < s) (h : A j = false) : cntA (upd A j true) s = cntA A s + 1 := by
  have := countP_upd (f := upd A j true) (g := A) (i := j) (upd_at A j true) h (fun k hk => upd_ne A true hk) (List.range s) List.nodup_range (List.mem_range.2 hj)
  unfold cntA
  omega
theorem rowX_memS {s : Nat} {M : Nat → Nat → Bool} (hs : s ≤ 1024) (hM : ∀ r c, M r c = true → r < s ∧ c < s) {j k : Nat} : k ∈ rowX M j ↔ M j k = true := by
  unfold rowX
  rw [List.mem_filter, List.mem_range]
  exact ⟨fun h => h.2, fun h => ⟨by have := (hM _ _ h).2; omega, h⟩⟩
theorem rowX_lens {s : Nat} {M : Nat → Nat → Bool} (hs : s ≤ 1024) (hM : ∀ r c, M r c = true → r < s ∧ c < s) (j : Nat) : (rowX M j).length ≤ s := by
  have e : rowX M j = (List.range s).filter fun c => M j c := by
    refine strict_unique (R := fun a b : Nat => a < b) (fun _ _ h => by omega) (by unfold rowX; exact List.Pairwise.filter _ List.pairwise_lt_range) (List.Pairwise.filter _ List.pairwise_lt_range) fun k => ?_
    rw [rowX_memS hs hM, List.mem_filter, List.mem_range]
    exact ⟨fun h => ⟨(hM _ _ h).2, h⟩, fun h => h.2⟩
  rw [e]
  have := List.length_filter_le (fun c => M j c) (List.range s)
  rw [List.length_range] at this
  exact this
/-- What holds while rows are met, from row i on. -/
structure MetI (s : Nat) (M : Nat → Nat → Bool) (i : Nat) (A : Nat → Bool) (W : List Nat) : Prop where
  work : ∀ j ∈ W, PathX M i j
  met : ∀ j, A j = true → PathX M i j
  first : ∀ j, M i j = true → A j = true ∨ j ∈ W
  next : ∀ k j, A k = true → M k j = true → A j = true ∨ j ∈ W
  len : W.length ≤ (cntA A s + 1) * s
theorem MetI.lt {s : Nat} {M : Nat → Nat → Bool} {i : Nat} {A : Nat → Bool} {W : List Nat} (h : MetI s M i A W) (hM : ∀ r c, M r c = true → r < s ∧ c < s) : ∀ j, (A j = true ∨ j ∈ W) → j < s := fun j hj => by
  have hp : PathX M i j := hj.elim (h.met j) (h.work j)
  clear hj h
  induction hp with
  | one a => exact (hM _ _ a).2
  | more _ _ ih => exact ih
theorem MetI.start {s : Nat} {M : Nat → Nat → Bool} (hs : s ≤ 1024) (hM : ∀ r c, M r c = true → r < s ∧ c < s) (i : Nat) : MetI s M i (fun _ => false) (rowX M i) where
  work := fun j hj => .one ((rowX_memS hs hM).1 hj)
  met := fun j hj => by cases hj
  first := fun j hj => .inr ((rowX_memS hs hM).2 hj)
  next := fun k j hk => by cases hk
  len := by
    have := rowX_lens hs hM i
    rw [Nat.add_mul, Nat.one_mul]; omega
theorem MetI.old {s : Nat} {M : Nat → Nat → Bool} {i : Nat} {A : Nat → Bool} {W : List Nat} {j : Nat} (h : MetI s M i A (W ++ [j])) (hj : A j = true) : MetI s M i A W where
  work := fun k hk => h.work k (List.mem_append_left _ hk)
  met := h.met
  first := fun k hk => by
    rcases h.first k hk with g | g
    · exact .inl g
    · rcases List.mem_append.1 g with g | g
      · exact .inr g
      · rw [List.mem_singleton.1 g]; exact .inl hj
  next := fun r k hr hk => by
    rcases h.next r k hr hk with g | g
    · exact .inl g
    · rcases List.mem_append.1 g with g | g
      · exact .inr g
      · rw [List.mem_singleton.1 g]; exact .inl hj
  len := by have := h.len; rw [List.length_append] at this; omega
theorem MetI.new {s : Nat} {M : Nat → Nat → Bool} (hs : s ≤ 1024) (hM : ∀ r c, M r c = true → r < s ∧ c < s) {i : Nat} {A : Nat → Bool} {W : List Nat} {j : Nat} (h : MetI s M i A (W ++ [j])) (hj : A j = false) : MetI s M i (upd A j true) (W ++ rowX M j) := by
  have hpj := h.work j (List.mem_append_right _ (List.mem_singleton.2 rfl))
  have hjs := h.lt hM j (.inr (List.mem_append_right _ (List.mem_singleton.2 rfl)))
  have hup : ∀ k, A k = true → upd A j true k = true := fun k hk => by unfold upd; split <;> simp_all
  have hat : upd A j true j = true := upd_at A j true
  have fix : ∀ k, (A k = true ∨ k ∈ W ++ [j]) → (upd A j true k = true ∨ k ∈ W ++ rowX M j) := fun k hk => by
    rcases hk with g | g
    · exact .inl (hup k g)
    · rcases List.mem_append.1 g with g | g
      · exact .inr (List.mem_append_left _ g)
      · rw [List.mem_singleton.1 g]; exact .inl hat
  refine ⟨fun k hk => ?_, fun k hk => ?_, fun k hk => fix k (h.first k hk), fun r k hr hk => ?_, ?_⟩
  · rcases List.mem_append.1 hk with g | g
    · exact h.work k (List.mem_append_left _ g)
    · exact hpj.trans (.one ((rowX_memS hs hM).1 g))
  · by_cases e : k = j
    · rw [e]; exact hpj
    · rw [upd_ne A true e] at hk; exact h.met k hk
  · by_cases e : r = j
    · rw [e] at hk; exact .inr (List.mem_append_right _ ((rowX_memS hs hM).2 hk))
    · rw [upd_ne A true e] at hr; exact fix k (h.next r k hr hk)
  · have h1 := h.len
    have h2 := rowX_lens hs hM j
    rw [cntA_upd hjs hj]
    rw [List.length_append] at h1 ⊢
    rw [Nat.add_mul _ 1 s, Nat.one_mul]
    have : [j].length = 1 := rfl
    omega
theorem MetI.end {s : Nat} {M X : Nat → Nat → Bool} {i : Nat} {A : Nat → Bool} (h : MetI s M i A []) (hX : IsClo M X) : A = X i := by
  funext j
  rw [Bool.eq_iff_iff, hX.path]
  refine ⟨h.met j, fun hp => ?_⟩
  have key : ∀ r k, PathX M r k → (r = i ∨ A r = true) → A k = true := fun r k hp => by
    induction hp with
    | one a =>
      rintro (rfl | g)
      · exact (h.first _ a).elim id (fun x => by cases x)
      · exact (h.next _ _ g a).elim id (fun x => by cases x)
    | more a _ ih =>
      rintro (rfl | g)
      · exact ih (.inr ((h.first _ a).elim id (fun x => by cases x)))
      · exact ih (.inr ((h.next _ _ g a).elim id (fun x => by cases x)))
  exact key i j hp (.inl rfl)
theorem natsW_take (l : List Nat) (k : Nat) : (natsV (l ++ [k])).take (l.length * 1) = natsV l := by simp [natsV]
theorem natsW_app (l m : List Nat) : natsV l ++ natsV m = natsV (l ++ m) := by simp [natsV]
theorem natsW_one (l : List Nat) : ∀ u ∈ natsV l, u.oneCell' = true := fun u hu => by
  unfold natsV at hu
  obtain ⟨c, _, rfl⟩ := List.mem_map.1 hu
  rfl
attribute [local irreducible] G GO GR GT Fn FnV FnB pt init exs pur sat own ImpS mat posL allV orL restX cellsX cellsV natsV rowX onL cntA
set_option maxHeartbeats 16000000 in
set_option maxRecDepth 40000 in
theorem from_spec (q : HP) (hq : Tab q) (s b : Nat) (M X : Nat → Nat → Bool) (hX : IsClo M X) (i : Nat) (hi : i < s) :
    Fn Tryd.prog 32 #[ptrV b, i64 (i : Nat)] [mat s M b, q] (fun r Q => ∃ v, r = .tuple #[v, i64 0] ∧ Q = [own 3 1 (onL (X i) s).length v (natsV (onL (X i) s)), mat s M b, q]) := by
  have hrow := fun (j : Nat) (hj : j < s) => show Fn Tryd.prog 37 [ptrV b, i64 (j : Nat)].toArray [mat s M b, q] (fun r Q => ∃ v, r = .tuple #[v, i64 0] ∧ Q = [own 3 1 (rowX M j).length v (natsV (rowX M j)), mat s M b, q]) from (mrow_mat q hq s b M (j : Nat)).mono fun r Q hh => by
    rcases hh with ⟨m, e, _, v, rfl, rfl⟩ | ⟨hno, _, _⟩
    · obtain rfl : j = m := by omega
      exact ⟨v, rfl, rfl⟩
    · exact absurd ⟨by omega, by omega⟩ hno
  have hB := fun j hj => FnB.of (hrow j hj)
  have d1 : decide (((i : Nat) : Int) < 0) = false := decide_eq_false (by omega)
  have d2 : decide (((s : Nat) : Int) ≤ ((i : Nat) : Int)) = false := decide_eq_false (by omega)
  refine Fn.mk2 Tryd.func32 rfl rfl fun w0 F => ?_
  refine G.matFact Tk.h fun hsd hin => ?_
  have d0 : decide (((s : Nat) : Int) = 0) = false := decide_eq_false (by omega)
  have hst := MetI.start hsd.2 hin i
  (refine G.seq ?_; refine G.region ?_; refine GO.assign rfl rfl ?_; refine GO.assign rfl rfl ?_; refine GO.nil ?_; refine kthen_n ?_)
  refine G.scope ?_
  (refine G.seq ?_; refine G.seq ?_; refine G.region ?_; refine GO.move rfl rfl ?_)
  refine GO.call1 rfl rfl (side_mat s b M) (Tks.c Tk.h Tks.n) ?_
  rintro _ _ ⟨rfl, rfl⟩
  (refine GO.eqi rfl rfl rfl ?_; refine GO.nil ?_; refine kthen_n ?_; refine G.condF rfl (by assumption) ?_; refine G.skip ?_; refine kthen_n ?_; refine G.seq ?_; refine G.seq ?_; refine G.region ?_; refine GO.move rfl rfl ?_; refine GO.lti rfl rfl rfl ?_; refine GO.move rfl rfl ?_; refine GO.gT rfl rfl rfl ?_; refine GO.move rfl rfl ?_; refine GO.gT rfl rfl rfl ?_; refine GO.move rfl rfl ?_; refine GO.gT rfl rfl rfl ?_)
  refine GO.call1 rfl rfl (side_mat s b M) (Tks.c Tk.h Tks.n) ?_
  rintro _ _ ⟨rfl, rfl⟩
  (refine GO.gT rfl rfl rfl ?_; refine GO.gei rfl rfl rfl ?_; refine GO.pickF rfl rfl rfl ?_; refine GO.nil ?_; refine kthen_n ?_; refine G.condF rfl (by assumption) ?_; refine G.skip ?_; refine kthen_n ?_; refine G.seq ?_; refine G.region ?_; refine GO.move rfl rfl ?_)
  refine GO.makeBound rfl rfl ?_
  (refine GO.assign rfl rfl ?_; refine GO.nil ?_; refine kthen_n ?_; refine G.seq ?_; refine G.region ?_; refine GO.move rfl rfl ?_)
  refine GO.call1 rfl rfl (side_mat s b M) (Tks.c Tk.h Tks.n) ?_
  rintro _ _ ⟨rfl, rfl⟩
  skip
  refine GO.make1 (n := s) rfl rfl rfl ⟨rfl, rfl⟩ ⟨by omega, by omega⟩ fun bM => ?_
  rw [show List.replicate s (Value.bool false) = rowV (fun x : Bool => Value.bool x) (fun _ => false) s from rowV_const (f := fun x : Bool => Value.bool x) (a := false)]
  (refine GO.assign rfl rfl ?_; refine GO.nil ?_; refine kthen_n ?_; refine G.seq ?_; refine G.region ?_; refine GO.move rfl rfl ?_; refine GO.move rfl rfl ?_)
  refine GO.callB1 rfl rfl rfl (hB i hi) (Tks.c (Tk.t Tk.h) (Tks.c (Tk.t Tk.h) Tks.n)) ?_
  rintro _ _ ⟨vW, rfl, rfl⟩
  (refine GO.move rfl rfl ?_; refine GO.extract rfl rfl rfl ?_; refine GO.extract rfl rfl rfl ?_; refine GO.assign rfl rfl ?_; refine GO.assign rfl rfl ?_; refine GO.nil ?_; refine kthen_n ?_; refine G.seq ?_)
  refine G.label ?_
  (refine kthen_n ?_; refine G.seq ?_; refine G.block ?_)
  refine G.loop3 (fun (A : Nat → Bool) (W : List Nat) (v : Value) => [(0, ptrV b), (6, .func (.func 37) #[ptrV b] #[]), (7, .slice (some ⟨bM, 0, none⟩) s s), (8, v)])
    (fun A W v => own 3 1 W.length v (natsV W) :: onR bM A s :: mat s M b :: q :: F) (fun A W _ => MetI s M i A W) (fun A W _ => (s - cntA A s) * (s + 1) + W.length) (fun _ => false) (rowX M i) vW hst ?_ ?_ ?_
  · (refine SubE.c rfl rfl ?_; refine SubE.c rfl rfl ?_; refine SubE.c rfl rfl ?_; refine SubE.c rfl rfl ?_; exact SubE.n)
  · ((refine Sb.c Tk.h ?_; refine Sb.c (Tk.t (Tk.t Tk.h)) ?_; refine Sb.c Tk.h ?_; refine Sb.c Tk.h ?_); (exact Sb.r))
  · rintro A W v hI
    have hlW := hI.len
    have hcA := cntA_le A s
    have hle : (cntA A s + 1) * s ≤ 1025 * 1024 := Nat.mul_le_mul (by omega) hsd.2
    have hbW : W.length ≤ 1050624 := by omega
    clear hlW hle
    (refine G.seq ?_; refine G.seq ?_; refine G.region ?_; refine GO.move rfl rfl ?_; refine GO.lenOwn rfl rfl Tk.h ?_; refine GO.gti rfl rfl rfl ?_; refine GO.nil ?_; refine kthen_n ?_)
    refine G.condD rfl (fun hlt => ?_) (fun hge => ?_)
    · have hne : W ≠ [] := fun h => by rw [h] at hlt; exact absurd hlt (by show ¬ (0 : Int) < ((0 : Nat) : Int); omega)
      obtain ⟨W', j, rfl⟩ : ∃ W' j, W = W' ++ [j] := ⟨W.dropLast, W.getLast hne, (List.dropLast_concat_getLast hne).symm⟩
      have hln : (W' ++ [j]).length = W'.length + 1 := by rw [List.length_append]; rfl
      have hjs := hI.lt hin j (.inr (List.mem_append_right _ (List.mem_singleton.2 rfl)))
      have hget : (W' ++ [j])[W'.length]? = some j := by rw [List.getElem?_append_right (Nat.le_refl _), Nat.sub_self]; rfl
      refine G.ownForm (n' := (W' ++ [j]).length) (by omega) Tk.h fun bw cw e1 _ _ _ => ?_
      subst e1
      have rW : Rd (own 3 1 (W' ++ [j]).length (.slice (some ⟨bw, 0, none⟩) (W' ++ [j]).length cw) (natsV (W' ++ [j]))) ⟨bw, 0 + W'.length * 1, none⟩ (i64 (j : Nat)) := by rw [Nat.zero_add, Nat.mul_one]; exact Rd.own (natsV_get hget)
      (refine G.skip ?_; refine kthen_n ?_; refine G.block ?_; refine G.seq ?_; refine G.region ?_; refine GO.move rfl rfl ?_; refine GO.move rfl rfl ?_; refine GO.lenS rfl rfl ?_; refine GO.subi rfl rfl rfl (by omega) ?_)
      rw [show (((W' ++ [j]).length : Nat) : Int) - 1 = ((W'.length : Nat) : Int) by omega]
      (refine GO.idxS rfl rfl rfl ⟨rfl, by omega⟩ ?_; refine GO.loadQ rfl rfl rfl Tk.h (by assumption) ?_; refine GO.assign rfl rfl ?_; refine GO.nil ?_; refine kthen_n ?_; refine G.seq ?_; refine G.region ?_; refine GO.move rfl rfl ?_; refine GO.move rfl rfl ?_; refine GO.lenS rfl rfl ?_; refine GO.subi rfl rfl rfl (by omega) ?_)
      rw [show (((W' ++ [j]).length : Nat) : Int) - 1 = ((W'.length : Nat) : Int) by omega]
      refine GO.cutOwn (h := W'.length) rfl rfl rfl ⟨rfl, by omega⟩ Tk.h fun vC => ?_
      rw [natsW_take]
      cases hA : A j with
      | true =>
        (refine GO.assign rfl rfl ?_; refine GO.nil ?_; refine kthen_n ?_; refine G.seq ?_; refine G.seq ?_; refine G.region ?_; refine GO.move rfl rfl ?_; refine GO.move rfl rfl ?_; refine GO.idxS rfl rfl rfl ⟨rfl, by omega⟩ ?_; refine GO.load1 rfl rfl rfl (Tk.t Tk.h) (rowV_get1 (by assumption)) ?_; refine GO.nil ?_; refine kthen_n ?_; refine G.condT rfl (by assumption) ?_; refine G.exit ?_; refine kthen_x ?_; refine kblock_x ?_; refine kthen_n ?_)
        refine ⟨A, W', vC, hI.old hA, by omega, ?_, ?_⟩
        · (refine SubE.c rfl rfl ?_; refine SubE.c rfl rfl ?_; refine SubE.c rfl rfl ?_; refine SubE.c rfl rfl ?_; exact SubE.n)
        · ((refine Sb.c Tk.h ?_; refine Sb.c Tk.h ?_; refine Sb.c Tk.h ?_; refine Sb.c Tk.h ?_); (exact Sb.r))
      | false =>
        have hnew := hI.new hsd.2 hin hA
        have hc1 := cntA_upd hjs hA
        have hc2 := cntA_le (upd A j true) s
        have hrl := rowX_lens hsd.2 hin j
        (refine GO.assign rfl rfl ?_; refine GO.nil ?_; refine kthen_n ?_; refine G.seq ?_; refine G.seq ?_; refine G.region ?_; refine GO.move rfl rfl ?_; refine GO.move rfl rfl ?_; refine GO.idxS rfl rfl rfl ⟨rfl, by omega⟩ ?_; refine GO.load1 rfl rfl rfl (Tk.t Tk.h) (rowV_get1 (by assumption)) ?_; refine GO.nil ?_; refine kthen_n ?_; refine G.condF rfl (by assumption) ?_; refine G.skip ?_; refine kthen_n ?_; refine G.seq ?_; refine G.region ?_; refine GO.move rfl rfl ?_; refine GO.move rfl rfl ?_; refine GO.idxS rfl rfl rfl ⟨rfl, by omega⟩ ?_)
        refine GO.store1 rfl rfl rfl (Tk.t Tk.h) (by rw [rowV_len]; omega) ?_
        rw [rowV_set (f := fun x : Bool => Value.bool x)]
        (refine GO.nil ?_; refine kthen_n ?_; refine G.seq ?_; refine G.region ?_; refine GO.move rfl rfl ?_; refine GO.move rfl rfl ?_)
        refine GO.callB1 rfl rfl rfl (hB j hjs) (Tks.c (Tk.t (Tk.t Tk.h)) (Tks.c (Tk.t (Tk.t Tk.h)) Tks.n)) ?_
        rintro _ _ ⟨vR, rfl, rfl⟩
        refine GO.ownRd Tk.h fun z hz => ?_
        (refine GO.move rfl rfl ?_; refine GO.extract rfl rfl rfl ?_; refine GO.extract rfl rfl rfl ?_; refine GO.assign rfl rfl ?_; refine GO.assign rfl rfl ?_; refine GO.nil ?_; refine kthen_n ?_; refine G.region ?_; refine GO.move rfl rfl ?_; refine GO.move rfl rfl ?_)
        refine GO.appendFrom (m := (rowX M j).length) (news := natsV (rowX M j)) rfl rfl rfl (Tk.t (Tk.t (Tk.t (Tk.t Tk.h)))) Tk.h hz (natsW_one _) ⟨by decide, rfl⟩ (by unfold maxLen; omega) (by omega) fun v4 => ?_
        rw [natsW_app, show W'.length + (rowX M j).length = (W' ++ rowX M j).length by rw [List.length_append]]
        (refine GO.assign rfl rfl ?_; refine GO.nil ?_; refine kblock_n ?_; refine kthen_n ?_)
        refine ⟨upd A j true, W' ++ rowX M j, v4, hnew, ?_, ?_, ?_⟩
        · rw [hc1, hln, List.length_append]
          obtain ⟨k, hk⟩ : ∃ k, s - cntA A s = k + 1 := ⟨s - cntA A s - 1, by omega⟩
          rw [show s - (cntA A s + 1) = k by omega, hk, Nat.add_mul k 1 (s + 1), Nat.one_mul]
          omega
        · (refine SubE.c rfl rfl ?_; refine SubE.c rfl rfl ?_; refine SubE.c rfl rfl ?_; refine SubE.c rfl rfl ?_; exact SubE.n)
        · ((refine Sb.c Tk.h ?_; refine Sb.c (Tk.t (Tk.t (Tk.t Tk.h))) ?_; refine Sb.c (Tk.t Tk.h) ?_; refine Sb.c (Tk.t Tk.h) ?_); (refine Sb.s ?_; exact Sb.r))
    · have hW : W = [] := List.eq_nil_of_length_eq_zero (by omega)
      subst hW
      have hAX := hI.end hX
      subst hAX
      (refine G.exit ?_; refine kthen_x ?_; refine kthen_x ?_; refine kblock_x ?_; refine kthen_n ?_; refine G.seq ?_; refine G.region ?_; refine GO.assign rfl rfl ?_; refine GO.nil ?_; refine kthen_n ?_; refine G.seq ?_; refine G.seq ?_; refine G.region ?_; refine GO.move rfl rfl ?_; refine GO.lenS rfl rfl ?_; refine GO.move rfl rfl ?_; refine GO.nil ?_; refine kthen_n ?_; refine G.block ?_)
      refine G.ownNil (T := 3) (sz := 1) ?_
      have ho0 : onL (X i) 0 = [] := by unfold onL; rfl
      skip
      refine G.loop2 (fun (j : Nat) (v : Value) => [(7, .slice (some ⟨bM, 0, none⟩) s s), (13, v), (68, .slice (some ⟨bM, 0, none⟩) s s), (69, i64 (s : Nat)), (70, i64 (j : Nat))])
        (fun j v => own 3 1 (onL (X i) j).length v (natsV (onL (X i) j)) :: onR bM (X i) s :: mat s M b :: q :: F) (fun j _ => j ≤ s) (fun j _ => s - j) 0 (.slice none 0 0) (by omega) ?_ ?_ ?_
      · (refine SubE.c rfl rfl ?_; refine SubE.c rfl rfl ?_; refine SubE.c rfl rfl ?_; refine SubE.c rfl rfl ?_; refine SubE.c rfl rfl ?_; exact SubE.n)
      · rw [ho0, show natsV [] = [] by unfold natsV; rfl]
        ((refine Sb.c Tk.h ?_; refine Sb.c (Tk.t Tk.h) ?_; refine Sb.c (Tk.t Tk.h) ?_; refine Sb.c (Tk.t Tk.h) ?_); (refine Sb.s ?_; exact Sb.r))
      · rintro j v2 hj
        (refine G.seq ?_; refine G.region ?_; refine GO.lti rfl rfl rfl ?_; refine GO.nil ?_; refine kthen_n ?_; refine G.seq ?_)
        refine G.condD rfl (fun hlt => ?_) (fun hge => ?_)
        · have hjs : j < s := by omega
          have hll := onL_len (X i) j
          cases hA : X i j with
          | true =>
            have hy := onL_t hA
            (refine G.skip ?_; refine kthen_n ?_; refine G.seq ?_; refine G.block ?_; refine G.seq ?_; refine G.region ?_; refine GO.move rfl rfl ?_; refine GO.idxS rfl rfl rfl ⟨rfl, by omega⟩ ?_; refine GO.load1 rfl rfl rfl (Tk.t Tk.h) (rowV_get1 (by assumption)) ?_; refine GO.assign rfl rfl ?_; refine GO.assign rfl rfl ?_; refine GO.nil ?_; refine kthen_n ?_; refine G.seq ?_; refine G.region ?_; refine GO.move rfl rfl ?_; refine GO.nil ?_; refine kthen_n ?_; refine G.condT rfl (by assumption) ?_; refine G.region ?_; refine GO.move rfl rfl ?_; refine GO.move rfl rfl ?_)
            refine GO.buildSlice1 rfl rfl (by simp; rfl) rfl ⟨by omega, by omega⟩ fun bs => ?_
            refine GO.appendOwn (m := 1) (news := [i64 (j : Nat)]) rfl rfl rfl (Tk.t Tk.h) Tk.h rfl (by simp [Value.oneCell']) ⟨by decide, rfl⟩ Nat.one_pos (by unfold maxLen; omega) (by omega) fun v4 => ?_
            rw [natsV_one, show (onL (X i) j).length + 1 = (onL (X i) j ++ [j]).length by rw [List.length_append]; rfl, ← hy]
            (refine GO.assign rfl rfl ?_; refine GO.nil ?_; refine kblock_n ?_; refine kthen_n ?_; refine G.region ?_; refine GO.addi rfl rfl rfl (by omega) ?_; refine GO.move rfl rfl ?_; refine GO.nil ?_; refine kthen_n ?_)
            refine ⟨j + 1, v4, by omega, by omega, ?_, ?_⟩
            · (refine SubE.c rfl rfl ?_; refine SubE.c rfl rfl ?_; refine SubE.c rfl rfl ?_; refine SubE.c rfl rfl ?_; refine SubE.c rfl rfl ?_; exact SubE.n)
            · ((refine Sb.c Tk.h ?_; refine Sb.c (Tk.t Tk.h) ?_; refine Sb.c (Tk.t Tk.h) ?_; refine Sb.c (Tk.t Tk.h) ?_); (refine Sb.s ?_; exact Sb.r))
          | false =>
            have hy := onL_f hA
            (refine G.skip ?_; refine kthen_n ?_; refine G.seq ?_; refine G.block ?_; refine G.seq ?_; refine G.region ?_; refine GO.move rfl rfl ?_; refine GO.idxS rfl rfl rfl ⟨rfl, by omega⟩ ?_; refine GO.load1 rfl rfl rfl (Tk.t Tk.h) (rowV_get1 (by assumption)) ?_; refine GO.assign rfl rfl ?_; refine GO.assign rfl rfl ?_; refine GO.nil ?_; refine kthen_n ?_; refine G.seq ?_; refine G.region ?_; refine GO.move rfl rfl ?_; refine GO.nil ?_; refine kthen_n ?_; refine G.condF rfl (by assumption) ?_; refine G.skip ?_; refine kblock_n ?_; refine kthen_n ?_; refine G.region ?_; refine GO.addi rfl rfl rfl (by omega) ?_; refine GO.move rfl rfl ?_; refine GO.nil ?_; refine kthen_n ?_)
            refine ⟨j + 1, v2, by omega, by omega, ?_, ?_⟩
            · (refine SubE.c rfl rfl ?_; refine SubE.c rfl rfl ?_; refine SubE.c rfl rfl ?_; refine SubE.c rfl rfl ?_; refine SubE.c rfl rfl ?_; exact SubE.n)
            · rw [hy]
              ((refine Sb.c Tk.h ?_; refine Sb.c Tk.h ?_; refine Sb.c Tk.h ?_; refine Sb.c Tk.h ?_); (exact Sb.r))
        · obtain rfl : j = s := by omega
          (refine G.exit ?_; refine kthen_x ?_; refine kthen_x ?_; refine kblock_x ?_; refine kthen_n ?_; refine G.seq ?_; refine G.region ?_; refine GO.move rfl rfl ?_; refine GO.assign rfl rfl ?_; refine GO.assign rfl rfl ?_; refine GO.nil ?_; refine kthen_n ?_; refine G.ret ?_)
          refine kscope_r (KF2.r2 rfl (RV.t rfl) (RV.t rfl) ⟨_, rfl, rfl⟩ (ImpS.sb ?_))
          ((refine Sb.c Tk.h ?_; refine Sb.c (Tk.t Tk.h) ?_; refine Sb.c (Tk.t Tk.h) ?_); (refine Sb.s ?_; exact Sb.r))
end Go.Proofs.YtpfcgfgkmgnaaaaDoor
namespace Go.Proofs.YtpfcgfgkmgnaaaaDoor
open Go
theorem walk_zero {M : Nat → Nat → Bool} {s u j : Nat} : walkX M s u 0 j = true ↔ j = u := by
  show decide (j = u) = true ↔ _
  rw [decide_eq_true_iff]
theorem walk_succ {M : Nat → Nat → Bool} {s u k j : Nat} : walkX M s u (k + 1) j = true ↔ ∃ i, i < s ∧ walkX M s u k i = true ∧ M i j = true := by
  show stepN M (walkX M s u k) s j = true ↔ _
  exact stepN_iff
theorem walk_pre {M : Nat → Nat → Bool} {s r k : Nat} (hM : ∀ r c, M r c = true → r < s ∧ c < s) (h : M r k = true) : ∀ (n c : Nat), walkX M s k n c = true → walkX M s r (n + 1) c = true
  | 0, c, hw => by
    rw [walk_zero] at hw
    subst hw
    exact walk_succ.2 ⟨r, (hM _ _ h).1, walk_zero.2 rfl, h⟩
  | n + 1, c, hw => by
    obtain ⟨i, hi, h1, h2⟩ := walk_succ.1 hw
    exact walk_succ.2 ⟨i, hi, walk_pre hM h n i h1, h2⟩
theorem path_walk {M : Nat → Nat → Bool} {s : Nat} (hM : ∀ r c, M r c = true → r < s ∧ c < s) {r c : Nat} (h : PathX M r c) : ∃ k, walkX M s r (k + 1) c = true := by
  induction h with
  | one a => exact ⟨0, walk_succ.2 ⟨_, (hM _ _ a).1, walk_zero.2 rfl, a⟩⟩
  | more a _ ih =>
    obtain ⟨k, hk⟩ := ih
    exact ⟨k + 1, walk_pre hM a (k + 1) _ hk⟩
theorem walk_path {M : Nat → Nat → Bool} {s u : Nat} : ∀ (k j : Nat), walkX M s u (k + 1) j = true → PathX M u j
  | 0, j, h => by
    obtain ⟨i, _, h1, h2⟩ := walk_succ.1 h
    rw [walk_zero] at h1
    subst h1
    exact .one h2
  | k + 1, j, h => by
    obtain ⟨i, _, h1, h2⟩ := walk_succ.1 h
    exact (walk_path k i h1).trans (.one h2)
/-- Which rows a walk of 1 to k steps leads to. -/
def uptW (M : Nat → Nat → Bool) (s u k : Nat) : Nat → Bool := fun j => (List.range k).any fun t => walkX M s u (t + 1) j
theorem uptW_iff {M : Nat → Nat → Bool} {s u k j : Nat} : uptW M s u k j = true ↔ ∃ t, t < k ∧ walkX M s u (t + 1) j = true := by
  unfold uptW
  rw [List.any_eq_true]
  exact ⟨fun ⟨t, h1, h2⟩ => ⟨t, List.mem_range.1 h1, h2⟩, fun ⟨t, h1, h2⟩ => ⟨t, List.mem_range.2 h1, h2⟩⟩
def StabW (M : Nat → Nat → Bool) (s u k : Nat) : Prop := ∀ j, walkX M s u (k + 1) j = true → uptW M s u k j = true
theorem StabW.succ {M : Nat → Nat → Bool} {s u k : Nat} (h : StabW M s u k) : StabW M s u (k + 1) := fun j hj => by
  obtain ⟨i, hi, h1, h2⟩ := walk_succ.1 hj
  obtain ⟨t, ht, h3⟩ := uptW_iff.1 (h i h1)
  exact uptW_iff.2 ⟨t + 1, by omega, walk_succ.2 ⟨i, hi, h3, h2⟩⟩
theorem StabW.all {M : Nat → Nat → Bool} {s u k : Nat} (h : StabW M s u k) : ∀ m, StabW M s u (k + m)
  | 0 => h
  | m + 1 => (StabW.all h m).succ
theorem StabW.sub {M : Nat → Nat → Bool} {s u k : Nat} (h : StabW M s u k) : ∀ m j, uptW M s u (k + m) j = true → uptW M s u k j = true
  | 0, _, hj => hj
  | m + 1, j, hj => by
    obtain ⟨t, ht, h1⟩ := uptW_iff.1 hj
    by_cases e : t < k + m
    · exact StabW.sub h m j (uptW_iff.2 ⟨t, e, h1⟩)
    · obtain rfl : t = k + m := by omega
      exact StabW.sub h m j (h.all m j h1)
theorem walk_in {M : Nat → Nat → Bool} {s u : Nat} (hM : ∀ r c, M r c = true → r < s ∧ c < s) {k j : Nat} (h : walkX M s u (k + 1) j = true) : j < s := by
  obtain ⟨i, _, _, h2⟩ := walk_succ.1 h
  exact (hM _ _ h2).2
theorem stab_ex {M : Nat → Nat → Bool} {s u : Nat} (hM : ∀ r c, M r c = true → r < s ∧ c < s) : ∃ k, k ≤ s ∧ StabW M s u k := by
  refine Classical.byContradiction fun hno => ?_
  have hall : ∀ k, k ≤ s → ∃ j, walkX M s u (k + 1) j = true ∧ uptW M s u k j = false := fun k hk => by
    refine Classical.byContradiction fun hn => hno ⟨k, hk, fun j hj => ?_⟩
    cases hu : uptW M s u k j with
    | true => rfl
    | false => exact absurd ⟨j, hj, hu⟩ hn
  have key : ∀ k, k ≤ s + 1 → k ≤ cntA (uptW M s u k) s := by
    intro k
    induction k with
    | zero => intro _; exact Nat.zero_le _
    | succ k ih =>
      intro hk
      obtain ⟨j, h1, h2⟩ := hall k (by omega)
      have hjs := walk_in hM h1
      have h3 := cntA_upd hjs h2
      have h4 : cntA (upd (uptW M s u k) j true) s ≤ cntA (uptW M s u (k + 1)) s := by
        unfold cntA
        refine List.countP_mono_left fun x _ hx => ?_
        by_cases e : x = j
        · rw [e]; exact uptW_iff.2 ⟨k, by omega, h1⟩
        · rw [upd_ne _ true e] at hx
          obtain ⟨t, ht, h5⟩ := uptW_iff.1 hx
          exact uptW_iff.2 ⟨t, by omega, h5⟩
      have := ih (by omega)
      omega
  have h1 := key (s + 1) (Nat.le_refl _)
  have h2 := cntA_le (uptW M s u (s + 1)) s
  omega
theorem walks_all {M X : Nat → Nat → Bool} {s u : Nat} (hM : ∀ r c, M r c = true → r < s ∧ c < s) (hX : IsClo M X) : uptW M s u s = X u := by
  funext j
  rw [Bool.eq_iff_iff, hX.path]
  constructor
  · intro h
    obtain ⟨t, _, h1⟩ := uptW_iff.1 h
    exact walk_path t j h1
  · intro h
    obtain ⟨k, hk⟩ := path_walk hM h
    obtain ⟨n, hn, hst⟩ := stab_ex (u := u) hM
    have h1 : uptW M s u (n + (k + 1)) j = true := uptW_iff.2 ⟨k, by omega, hk⟩
    obtain ⟨t, ht, h2⟩ := uptW_iff.1 (hst.sub (k + 1) j h1)
    exact uptW_iff.2 ⟨t, by omega, h2⟩
theorem onL_at {A : Nat → Bool} {j : Nat} (h : A j = true) : ∀ s, j < s → (onL A s)[(onL A j).length]? = some j := by
  intro s
  induction s with
  | zero => intro h; omega
  | succ s ih =>
    intro hj
    by_cases e : j = s
    · subst e
      rw [onL_t h, List.getElem?_append_right (Nat.le_refl _), Nat.sub_self]; rfl
    · have h1 := ih (by omega)
      have h2 := (List.getElem?_eq_some_iff.1 h1).1
      cases hs : A s with
      | true => rw [onL_t hs, List.getElem?_append_left h2]; exact h1
      | false => rw [onL_f hs]; exact h1
theorem row_on {s : Nat} {X : Nat → Nat → Bool} (hs : s ≤ 1024) (hX : ∀ r c, X r c = true → r < s ∧ c < s) (i : Nat) : rowX X i = onL (X i) s := by
  refine strict_unique (R := fun a b : Nat => a < b) (fun _ _ h => by omega) (by unfold rowX; exact List.Pairwise.filter _ List.pairwise_lt_range) (by unfold onL; exact List.Pairwise.filter _ List.pairwise_lt_range) fun k => ?_
  rw [rowX_memS hs hX, onL_mem]
  exact ⟨fun h => ⟨(hX _ _ h).2, h⟩, fun h => h.2⟩
end Go.Proofs.YtpfcgfgkmgnaaaaDoor
namespace Go.Proofs.YtpfcgfgkmgnaaaaDoor
open Go
/-- Each row's columns, as they can be read. -/
def NextR (Z : HP) (v : Value) (s : Nat) (C : Nat → Nat → Bool) : Prop := ∃ (bl : Nat) (vs : Nat → Value), v = .slice (some ⟨bl, 0, none⟩) s s ∧ ∀ i, i < s → Rd Z ⟨bl, i, none⟩ (vs i) ∧ Sl Z (vs i) (rowX C i).length 1 (natsV (rowX C i))
theorem next_form {s bl : Nat} {vs : Nat → Value} {C : Nat → Nat → Bool} {l : List HP} {w : World}
    (h : sat (pt bl (row (rowV (fun v : Value => v) vs s) 67) :: fam 3 1 s vs (fun i => (rowX C i).length) (fun i => natsV (rowX C i)) :: l) w) :
    NextR (star [pt bl (row (rowV (fun v : Value => v) vs s) 67), fam 3 1 s vs (fun i => (rowX C i).length) (fun i => natsV (rowX C i))]) (.slice (some ⟨bl, 0, none⟩) s s) s C := by
  refine ⟨bl, vs, rfl, fun i hi => ⟨Sup.left _ _ _ _ (Rd.row (rowV_get (f := fun v : Value => v) (o := vs) hi)), ?_⟩⟩
  have h2 := fam_out (T := 3) (sz := 1) (N := s) (vs := vs) (ln := fun i => (rowX C i).length) (xs := fun i => natsV (rowX C i)) (F := []) hi Tk.h l w (sat_right (l := [pt bl (row (rowV (fun v : Value => v) vs s) 67)]) (l' := fam 3 1 s vs (fun i => (rowX C i).length) (fun i => natsV (rowX C i)) :: l) h)
  obtain ⟨a, cap, e, h3, h4⟩ := own_sl h2
  refine ⟨a, cap, e, h3, fun hp => ?_⟩
  obtain ⟨b, o, e2, hr⟩ := h4 hp
  exact ⟨b, o, e2, fun j u hj => Sup.right _ _ _ _ (fam_rd hi (hr j u hj))⟩
attribute [local irreducible] G GO GR GT Fn FnV pt init exs pur sat own ImpS mat posL allV orL restX cellsX cellsV natsV rowX colsK
set_option maxHeartbeats 16000000 in
theorem next_spec (z : HP) (ra : Value) (s : Nat) (C : Nat → Nat → Bool) (hra : RefO z ra (some (s, C))) (h1 : 1 ≤ s) (h2 : s ≤ 1024) (hC : ∀ r c, C r c = true → r < s ∧ c < s) :
    Fn Tryd.prog 68 #[ra] [z] (fun r Q => ∃ Z, NextR Z r s C ∧ Q = [Z, z]) := by
  have key : Fn Tryd.prog 68 #[ra] [z] (fun r Q => ∃ bl vs, r = .slice (some ⟨bl, 0, none⟩) s s ∧ Q = [pt bl (row (rowV (fun v : Value => v) vs s) 67), fam 3 1 s vs (fun i => (rowX C i).length) (fun i => natsV (rowX C i)), z]) := by
    have hend := fun i (hi : i < s) => colsK_end h2 hC hi
    have hcl : (cellsX C).length ≤ 1048576 := by rw [cellsX_len]; have := cnt_max C; omega
    obtain ⟨va, rfl, honea, aa, capa, rfl, hcapa, hrda⟩ := hra
    change Fn _ _ #[refV s (.slice aa (castL (cellsX C)).length capa)] _ _
    change 0 < (castL (cellsX C)).length → ∃ b o, aa = some ⟨b, o, none⟩ ∧ ∀ j u, (cellsV (castL (cellsX C)))[j]? = some u → Rd z ⟨b, o + j, none⟩ u at hrda
    rw [castL_len] at hrda ⊢
    refine Fn.mk2 Tryd.func68 rfl rfl fun w0 F => ?_
    (refine G.seq ?_; refine G.region ?_; refine GO.box rfl rfl rfl fun b1 => ?_; refine GO.assign rfl rfl ?_; refine GO.nil ?_; refine kthen_n ?_; refine G.seq ?_; refine G.region ?_; refine GO.fieldAddr rfl rfl ?_; refine GO.load1 rfl rfl rfl Tk.h rfl ?_)
    refine GO.make1 (n := s) rfl rfl rfl ⟨rfl, rfl⟩ ⟨by omega, by omega⟩ fun bl => ?_
    rw [show List.replicate s (Value.slice none 0 0) = rowV (fun v : Value => v) (fun _ => .slice none 0 0) s from rowV_const (f := fun v : Value => v) (a := .slice none 0 0)]
    refine GO.famNil (T := 3) (sz := 1) (N := s) ?_
    (refine GO.assign rfl rfl ?_; refine GO.nil ?_; refine kthen_n ?_; refine G.seq ?_; refine G.seq ?_; refine G.region ?_; refine GO.assign rfl rfl ?_; refine GO.nil ?_; refine kthen_n ?_; refine G.block ?_)
    have e1 : (fun i => (colsK C 0 i).length) = fun _ => 0 := by funext i; rw [colsK_nil]; rfl
    have e2 : (fun i => natsV (colsK C 0 i)) = fun _ => [] := by funext i; rw [colsK_nil]; unfold natsV; rfl
    refine G.loop2 (fun (k : Nat) (_ : Nat → Value) => [(1, ptrV b1), (3, .slice (some ⟨bl, 0, none⟩) s s), (4, i64 (k : Nat))])
      (fun k vs => pt bl (row (rowV (fun v : Value => v) vs s) 67) :: fam 3 1 s vs (fun i => (colsK C k i).length) (fun i => natsV (colsK C k i)) :: pt b1 (row [i64 (s : Nat), .slice aa (cellsX C).length capa] 28) :: z :: F) (fun k _ => k ≤ (cellsX C).length) (fun k _ => (cellsX C).length - k) 0 (fun _ => .slice none 0 0) (by omega) ?_ ?_ ?_
    · (refine SubE.c rfl rfl ?_; refine SubE.c rfl rfl ?_; refine SubE.c rfl rfl ?_; exact SubE.n)
    · rw [e1, e2]
      ((refine Sb.c (Tk.t Tk.h) ?_; refine Sb.c Tk.h ?_; refine Sb.c Tk.h ?_; refine Sb.c Tk.h ?_); (exact Sb.r))
    · rintro k vs hk
      (refine G.seq ?_; refine G.seq ?_; refine G.region ?_; refine GO.move rfl rfl ?_; refine GO.fieldAddr rfl rfl ?_; refine GO.load1 rfl rfl rfl (Tk.t (Tk.t Tk.h)) rfl ?_; refine GO.lenS rfl rfl ?_; refine GO.lti rfl rfl rfl ?_; refine GO.nil ?_; refine kthen_n ?_)
      refine G.condD rfl (fun hlt => ?_) (fun hge => ?_)
      · have hkl : k < (cellsX C).length := by omega
        obtain ⟨p, hp⟩ : ∃ p, (cellsX C)[k]? = some p := ⟨_, List.getElem?_eq_getElem hkl⟩
        obtain ⟨hr, hc⟩ := hC _ _ (cellsX_true (List.mem_of_getElem? hp))
        have hpc : (castL (cellsX C))[k]? = some ((p.1 : Int), (p.2 : Int)) := by unfold castL; rw [List.getElem?_map, hp]; rfl
        obtain ⟨bo, oo, rfl, hrd⟩ := hrda (by omega)
        have r1 : Rd z ⟨bo, oo + k * 2, none⟩ (i64 ((p.1 : Nat) : Int)) := hrd _ _ (cellsV_get hpc).1
        have r2 : Rd z ⟨bo, oo + k * 2 + 1, none⟩ (i64 ((p.2 : Nat) : Int)) := hrd _ _ (cellsV_get hpc).2
        obtain ⟨r, c⟩ := p
        dsimp only at hr hc r1 r2
        have hat := colsK_at hp
        have hne := fun j (h : j ≠ r) => colsK_ne hp h
        have hrl := colsK_len C k r
        refine G.famOut hr (Tk.t Tk.h) ?_
        (refine G.skip ?_; refine kthen_n ?_; refine G.seq ?_; refine G.block ?_; refine G.seq ?_; refine G.region ?_; refine GO.fieldAddr rfl rfl ?_; refine GO.load1 rfl rfl rfl (Tk.t (Tk.t (Tk.t Tk.h))) rfl ?_; refine GO.move rfl rfl ?_; refine GO.idxS rfl rfl rfl ⟨rfl, by omega⟩ ?_; refine GO.fieldAddr rfl rfl ?_; refine GO.loadQ rfl rfl rfl (Tk.t (Tk.t (Tk.t (Tk.t Tk.h)))) (by assumption) ?_; refine GO.assign rfl rfl ?_; refine GO.nil ?_; refine kthen_n ?_)
        refine G.drawT 15 12288 [pt b1 (row [i64 (s : Nat), .slice (some ⟨bo, oo, none⟩) (cellsX C).length capa] 28), z, pt bl (row (rowV (fun v : Value => v) vs s) 67)] (own 3 1 (colsK C k r).length (vs r) (natsV (colsK C k r)) :: famW 3 1 s vs (fun i => (colsK C k i).length) (fun i => natsV (colsK C k i)) r :: F) (by kernel_rfl) (keys_of rfl) (ImpS.sb (by ((refine Sb.c (Tk.t (Tk.t (Tk.t Tk.h))) ?_; refine Sb.c (Tk.t (Tk.t (Tk.t Tk.h))) ?_; refine Sb.c (Tk.t (Tk.t Tk.h)) ?_; refine Sb.c Tk.h ?_; refine Sb.c Tk.h ?_); (exact Sb.r)))) ?_
        ((apply GR.step rfl; focus (intro Z; refine GO.move rfl rfl ?_; exact KQ.z)); (apply GR.step rfl; focus (intro Z; refine GO.move rfl rfl ?_; exact KQ.z)); (apply GR.step rfl; focus (intro Z; refine GO.move rfl rfl ?_; exact KQ.z)); (apply GR.step rfl; focus (intro Z; refine GO.move rfl rfl ?_; exact KQ.z)); (apply GR.step rfl; focus (intro Z; refine GO.idxS rfl rfl rfl ⟨rfl, by omega⟩ ?_; exact KQ.z)); (apply GR.step rfl; focus (intro Z; refine GO.load1 rfl rfl rfl (Tk.t (Tk.t Tk.h)) (rowV_get1 (by assumption)) ?_; exact KQ.z)); (apply GR.step rfl; focus (intro Z; refine GO.fieldAddr rfl rfl ?_; exact KQ.z)); (apply GR.step rfl; focus (intro Z; refine GO.load1 rfl rfl rfl Tk.h rfl ?_; exact KQ.z)); (apply GR.step rfl; focus (intro Z; refine GO.move rfl rfl ?_; exact KQ.z)); (apply GR.step rfl; focus (intro Z; refine GO.idxS rfl rfl rfl ⟨rfl, by omega⟩ ?_; exact KQ.z)); (apply GR.step rfl; focus (intro Z; refine GO.fieldAddr rfl rfl ?_; exact KQ.z)); (apply GR.step rfl; focus (intro Z; refine GO.loadQ rfl rfl rfl (Tk.t Tk.h) (by assumption) ?_; exact KQ.z)); refine GR.skip rfl ?_; refine GR.skip rfl ?_; (apply GR.step rfl; focus (intro Z; refine GO.idxS rfl rfl rfl ⟨rfl, by omega⟩ ?_; exact KQ.z)); refine GR.nil ?_)
        (repeat refine GT.skip rfl ?_)
        refine GT.step rfl ?_
        refine GO.buildSlice1 rfl rfl (by simp; rfl) rfl ⟨by omega, by omega⟩ fun b55 => ?_
        rw [show putParts [i64 ((c : Nat) : Int)] = [i64 ((c : Nat) : Int)] by simp [putParts, Value.cells]]
        refine GO.nil ⟨rfl, _, pt b55 (row [i64 (c : Nat)] 3) :: own 3 1 (colsK C k r).length (vs r) (natsV (colsK C k r)) :: famW 3 1 s vs (fun i => (colsK C k i).length) (fun i => natsV (colsK C k i)) r :: F, rfl, ImpS.sb (by ((refine Sb.c (Tk.t Tk.h) ?_; refine Sb.c (Tk.t Tk.h) ?_; refine Sb.c (Tk.t Tk.h) ?_; refine Sb.c Tk.h ?_; refine Sb.c Tk.h ?_; refine Sb.c Tk.h ?_); (exact Sb.r))), ?_⟩
        refine GT.step rfl ?_
        refine GO.appendOwn (m := 1) (news := [i64 (c : Nat)]) rfl rfl rfl (Tk.t (Tk.t (Tk.t (Tk.t Tk.h)))) (Tk.t (Tk.t (Tk.t Tk.h))) rfl (by simp [Value.oneCell']) ⟨by decide, rfl⟩ Nat.one_pos (by unfold maxLen; omega) (by omega) fun v4 => ?_
        refine GO.ownOne Tk.h fun hone => ?_
        refine GO.nil ⟨rfl, _, own 3 1 ((colsK C k r).length + 1) v4 (natsV (colsK C k r) ++ [i64 (c : Nat)]) :: famW 3 1 s vs (fun i => (colsK C k i).length) (fun i => natsV (colsK C k i)) r :: F, rfl, ImpS.sb (by ((refine Sb.c (Tk.t Tk.h) ?_; refine Sb.c (Tk.t Tk.h) ?_; refine Sb.c (Tk.t Tk.h) ?_; refine Sb.c Tk.h ?_; refine Sb.c (Tk.t Tk.h) ?_); (refine Sb.s ?_; exact Sb.r))), ?_⟩
        (repeat refine GT.skip rfl ?_)
        refine GT.nil ?_
        refine GO.store1 rfl rfl hone (Tk.t (Tk.t Tk.h)) (by rw [rowV_len]; omega) ?_
        rw [rowV_set (f := fun v : Value => v)]
        refine GO.keep (H' := fam 3 1 s (upd vs r v4) (fun i => (colsK C (k + 1) i).length) (fun i => natsV (colsK C (k + 1) i)) :: pt bl (row (rowV (fun v : Value => v) (upd vs r v4) s) 67) :: pt b1 (row [i64 (s : Nat), .slice (some ⟨bo, oo, none⟩) (cellsX C).length capa] 28) :: z :: F) ?_ ?_
        · refine fam_in (vs := vs) (ln := fun i => (colsK C k i).length) (xs := fun i => natsV (colsK C k i)) (vs' := upd vs r v4) (ln' := fun i => (colsK C (k + 1) i).length) (xs' := fun i => natsV (colsK C (k + 1) i)) (T := 3) (sz := 1) (N := s) (i := r) hr (fun j hj => ⟨upd_ne _ _ hj, by rw [hne j hj], by rw [hne j hj]⟩) ?_
          rw [upd_at, hat, List.length_append, ← natsV_one]
          refine ImpS.sb ?_
          ((refine Sb.c (Tk.t (Tk.t (Tk.t Tk.h))) ?_; refine Sb.c (Tk.t (Tk.t (Tk.t Tk.h))) ?_; refine Sb.c Tk.h ?_; refine Sb.c Tk.h ?_; refine Sb.c Tk.h ?_); (exact Sb.r))
        (refine GO.nil ?_; refine kblock_n ?_; refine kthen_n ?_; refine G.region ?_; refine GO.move rfl rfl ?_; refine GO.addi rfl rfl rfl (by omega) ?_; refine GO.assign rfl rfl ?_; refine GO.nil ?_; refine kthen_n ?_)
        refine ⟨k + 1, upd vs r v4, by omega, by omega, ?_, ?_⟩
        · (refine SubE.c rfl rfl ?_; refine SubE.c rfl rfl ?_; refine SubE.c rfl rfl ?_; exact SubE.n)
        · ((refine Sb.c (Tk.t Tk.h) ?_; refine Sb.c Tk.h ?_; refine Sb.c Tk.h ?_; refine Sb.c Tk.h ?_); (exact Sb.r))
      · obtain rfl : k = (cellsX C).length := by omega
        have e3 : fam 3 1 s vs (fun i => (colsK C (cellsX C).length i).length) (fun i => natsV (colsK C (cellsX C).length i)) = fam 3 1 s vs (fun i => (rowX C i).length) (fun i => natsV (rowX C i)) := fam_congr fun i hi => ⟨rfl, by rw [hend i hi], by rw [hend i hi]⟩
        rw [e3]
        (refine G.exit ?_; refine kthen_x ?_; refine kthen_x ?_; refine kblock_x ?_; refine kthen_n ?_; refine G.seq ?_; refine G.region ?_; refine GO.move rfl rfl ?_; refine GO.assign rfl rfl ?_; refine GO.nil ?_; refine kthen_n ?_; refine G.ret ?_)
        refine KF2.r1 rfl (RV.t rfl) ⟨_, vs, rfl, rfl⟩ (ImpS.sb ?_)
        ((refine Sb.c Tk.h ?_; refine Sb.c Tk.h ?_; refine Sb.c (Tk.t Tk.h) ?_); (refine Sb.s ?_; exact Sb.r))
  unfold Fn at *
  intro F w hw
  refine (key F w hw).mono ?_
  rintro e w' ⟨v, Q, e1, e2, ⟨bl, vs, rfl, rfl⟩, hd⟩
  exact ⟨_, [star _, z], e1, e2, ⟨_, next_form hd, rfl⟩, sat_flat.2 hd⟩
end Go.Proofs.YtpfcgfgkmgnaaaaDoor
namespace Go.Proofs.YtpfcgfgkmgnaaaaDoor
open Go
/-- What holds between two rows that are taken up. -/
structure RchI (s : Nat) (M : Nat → Nat → Bool) (i : Nat) (A : Nat → Bool) (W : List Nat) : Prop where
  met : ∀ j, A j = true → PathX M i j
  work : ∀ j ∈ W, j = i ∨ A j = true
  next : ∀ k, (k = i ∨ A k = true) → k ∈ W ∨ ∀ j, M k j = true → A j = true
  len : W.length ≤ cntA A s + 1
/-- What holds while row k's columns are gone through, n of them behind. -/
structure RchJ (s : Nat) (M : Nat → Nat → Bool) (i k n B : Nat) (A : Nat → Bool) (W : List Nat) : Prop where
  met : ∀ j, A j = true → PathX M i j
  work : ∀ j ∈ W, j = i ∨ A j = true
  next : ∀ x, (x = i ∨ A x = true) → x ∈ W ∨ x = k ∨ ∀ j, M x j = true → A j = true
  root : k = i ∨ A k = true
  part : ∀ j ∈ (rowX M k).take n, A j = true
  len : W.length ≤ cntA A s
  mu : 2 * (s - cntA A s) + W.length ≤ B
theorem RchI.start (s : Nat) (M : Nat → Nat → Bool) (i : Nat) : RchI s M i (fun _ => false) [i] where
  met := fun j h => by cases h
  work := fun j h => .inl (List.mem_singleton.1 h)
  next := fun k h => by
    rcases h with rfl | h
    · exact .inl (List.mem_singleton.2 rfl)
    · cases h
  len := by show 1 ≤ _; omega
theorem RchI.lt {s : Nat} {M : Nat → Nat → Bool} {i : Nat} {A : Nat → Bool} {W : List Nat} (h : RchI s M i A W) (hM : ∀ r c, M r c = true → r < s ∧ c < s) (hi : i < s) : ∀ j ∈ W, j < s := fun j hj => by
  rcases h.work j hj with rfl | h2
  · exact hi
  · have hp := h.met j h2
    clear hj h h2
    induction hp with
    | one a => exact (hM _ _ a).2
    | more a _ ih => exact ih (hM _ _ a).2
theorem RchI.pop {s : Nat} {M : Nat → Nat → Bool} {i k : Nat} {A : Nat → Bool} {W : List Nat} (h : RchI s M i A (W ++ [k])) : RchJ s M i k 0 (2 * (s - cntA A s) + W.length) A W where
  met := h.met
  work := fun j hj => h.work j (List.mem_append_left _ hj)
  next := fun x hx => by
    rcases h.next x hx with g | g
    · rcases List.mem_append.1 g with g | g
      · exact .inl g
      · exact .inr (.inl (List.mem_singleton.1 g))
    · exact .inr (.inr g)
  root := h.work k (List.mem_append_right _ (List.mem_singleton.2 rfl))
  part := fun j hj => by rw [List.take_zero] at hj; cases hj
  len := by have := h.len; rw [List.length_append] at this; have e : [k].length = 1 := rfl; omega
  mu := Nat.le_refl _
theorem RchJ.old {s : Nat} {M : Nat → Nat → Bool} {i k n B j : Nat} {A : Nat → Bool} {W : List Nat} (h : RchJ s M i k n B A W) (hj : (rowX M k)[n]? = some j) (hA : A j = true) : RchJ s M i k (n + 1) B A W :=
  have hp : ∀ x ∈ (rowX M k).take (n + 1), A x = true := fun x hx => by
    rw [List.take_add_one, hj] at hx
    rcases List.mem_append.1 hx with g | g
    · exact h.part x g
    · rw [show x = j from by simpa using g]; exact hA
  ⟨h.met, h.work, h.next, h.root, hp, h.len, h.mu⟩
theorem RchJ.new {s : Nat} {M : Nat → Nat → Bool} (hs : s ≤ 1024) (hM : ∀ r c, M r c = true → r < s ∧ c < s) {i k n B j : Nat} {A : Nat → Bool} {W : List Nat} (h : RchJ s M i k n B A W) (hj : (rowX M k)[n]? = some j) (hA : A j = false) : RchJ s M i k (n + 1) B (upd A j true) (W ++ [j]) := by
  have hkj := (rowX_memS hs hM).1 (List.mem_of_getElem? hj)
  have hjs := (hM _ _ hkj).2
  have hup : ∀ x, A x = true → upd A j true x = true := fun x hx => by unfold upd; split <;> simp_all
  have hat : upd A j true j = true := upd_at A j true
  have hc := cntA_upd hjs hA
  have hc2 := cntA_le (upd A j true) s
  have e1 : [j].length = 1 := rfl
  refine ⟨fun x hx => ?_, fun x hx => ?_, fun x hx => ?_, ?_, fun x hx => ?_, ?_, ?_⟩
  · by_cases e : x = j
    · rw [e]
      rcases h.root with rfl | g
      · exact .one hkj
      · exact (h.met k g).trans (.one hkj)
    · rw [upd_ne A true e] at hx; exact h.met x hx
  · rcases List.mem_append.1 hx with g | g
    · exact (h.work x g).imp id (hup x)
    · rw [List.mem_singleton.1 g]; exact .inr hat
  · by_cases e : x = j
    · rw [e]; exact .inl (List.mem_append_right _ (List.mem_singleton.2 rfl))
    · have hx2 : x = i ∨ A x = true := hx.imp id (fun g => by rw [upd_ne A true e] at g; exact g)
      rcases h.next x hx2 with g | g | g
      · exact .inl (List.mem_append_left _ g)
      · exact .inr (.inl g)
      · exact .inr (.inr fun y hy => hup y (g y hy))
  · exact h.root.imp id (hup k)
  · rw [List.take_add_one, hj] at hx
    rcases List.mem_append.1 hx with g | g
    · exact hup x (h.part x g)
    · rw [show x = j from by simpa using g]; exact hat
  · have := h.len
    rw [hc, List.length_append]; omega
  · have := h.mu
    rw [hc, List.length_append]; omega
theorem RchJ.end {s : Nat} {M : Nat → Nat → Bool} (hs : s ≤ 1024) (hM : ∀ r c, M r c = true → r < s ∧ c < s) {i k B : Nat} {A : Nat → Bool} {W : List Nat} (h : RchJ s M i k (rowX M k).length B A W) : RchI s M i A W where
  met := h.met
  work := h.work
  next := fun x hx => by
    rcases h.next x hx with g | rfl | g
    · exact .inl g
    · exact .inr fun j hj => h.part j (by rw [List.take_length]; exact (rowX_memS hs hM).2 hj)
    · exact .inr g
  len := by have := h.len; omega
theorem RchI.end {s : Nat} {M X : Nat → Nat → Bool} {i : Nat} {A : Nat → Bool} (h : RchI s M i A []) (hX : IsClo M X) : A = X i := by
  funext j
  rw [Bool.eq_iff_iff, hX.path]
  refine ⟨h.met j, fun hp => ?_⟩
  have key : ∀ r k, PathX M r k → (r = i ∨ A r = true) → A k = true := fun r k hp => by
    induction hp with
    | one a => exact fun g => (h.next _ g).elim (fun x => by cases x) (fun f => f _ a)
    | more a _ ih => exact fun g => ih (.inr ((h.next _ g).elim (fun x => by cases x) (fun f => f _ a)))
  exact key i j hp (.inl rfl)
attribute [local irreducible] G GO GR GT Fn FnV pt init exs pur sat own ImpS mat posL allV orL restX cellsX cellsV natsV rowX cntA
set_option maxHeartbeats 16000000 in
theorem reached_spec (Z : HP) (v : Value) (s : Nat) (M X : Nat → Nat → Bool) (hZ : NextR Z v s M) (h1 : 1 ≤ s) (h2 : s ≤ 1024) (hM : ∀ r c, M r c = true → r < s ∧ c < s) (hX : IsClo M X) (i : Nat) (hi : i < s) :
    Fn Tryd.prog 67 #[v, i64 (i : Nat)] [Z] (fun r Q => ∃ bM, r = .slice (some ⟨bM, 0, none⟩) s s ∧ Q = [onR bM (X i) s, Z]) := by
  obtain ⟨bl, vs, rfl, hZ⟩ := hZ
  refine Fn.mk2 Tryd.func67 rfl rfl fun w0 F => ?_
  (refine G.seq ?_; refine G.region ?_; refine GO.assign rfl rfl ?_; refine GO.nil ?_; refine kthen_n ?_; refine G.seq ?_; refine G.region ?_; refine GO.move rfl rfl ?_; refine GO.lenS rfl rfl ?_)
  refine GO.make1 (n := s) rfl rfl rfl ⟨rfl, rfl⟩ ⟨by omega, by omega⟩ fun bM => ?_
  rw [show List.replicate s (Value.bool false) = rowV (fun x : Bool => Value.bool x) (fun _ => false) s from rowV_const (f := fun x : Bool => Value.bool x) (a := false)]
  refine GO.ownNil (T := 3) (sz := 1) ?_
  (refine GO.assign rfl rfl ?_; refine GO.nil ?_; refine kthen_n ?_; refine G.seq ?_; refine G.region ?_; refine GO.assign rfl rfl ?_; refine GO.nil ?_; refine kthen_n ?_; refine G.seq ?_; refine G.region ?_; refine GO.move rfl rfl ?_; refine GO.move rfl rfl ?_)
  refine GO.buildSlice1 rfl rfl (by simp; rfl) rfl ⟨by omega, by omega⟩ fun bs => ?_
  refine GO.appendOwn (m := 1) (news := [i64 (i : Nat)]) rfl rfl rfl (Tk.t Tk.h) Tk.h rfl (by simp [Value.oneCell']) ⟨by decide, rfl⟩ Nat.one_pos (by unfold maxLen; omega) (by omega) fun v0 => ?_
  rw [show ([] : List Value) ++ [i64 (i : Nat)] = natsV [i] by unfold natsV; rfl]
  (refine GO.assign rfl rfl ?_; refine GO.nil ?_; refine kthen_n ?_; refine G.seq ?_; refine G.block ?_)
  refine G.loop3 (fun (A : Nat → Bool) (W : List Nat) (v : Value) => [(0, .slice (some ⟨bl, 0, none⟩) s s), (5, .slice (some ⟨bM, 0, none⟩) s s), (6, v)])
    (fun A W v => own 3 1 W.length v (natsV W) :: onR bM A s :: Z :: F) (fun A W _ => RchI s M i A W) (fun A W _ => 2 * (s - cntA A s) + W.length) (fun _ => false) [i] v0 (RchI.start s M i) ?_ ?_ ?_
  · (refine SubE.c rfl rfl ?_; refine SubE.c rfl rfl ?_; refine SubE.c rfl rfl ?_; exact SubE.n)
  · ((refine Sb.c Tk.h ?_; refine Sb.c (Tk.t Tk.h) ?_; refine Sb.c (Tk.t Tk.h) ?_); (refine Sb.s ?_; exact Sb.r))
  · rintro A W v hI
    have hlW := hI.len
    have hcA := cntA_le A s
    (refine G.seq ?_; refine G.seq ?_; refine G.region ?_; refine GO.move rfl rfl ?_; refine GO.lenOwn rfl rfl Tk.h ?_; refine GO.gti rfl rfl rfl ?_; refine GO.nil ?_; refine kthen_n ?_)
    refine G.condD rfl (fun hlt => ?_) (fun hge => ?_)
    · have hne : W ≠ [] := fun h => by rw [h] at hlt; exact absurd hlt (by show ¬ (0 : Int) < ((0 : Nat) : Int); omega)
      obtain ⟨W', k, rfl⟩ : ∃ W' k, W = W' ++ [k] := ⟨W.dropLast, W.getLast hne, (List.dropLast_concat_getLast hne).symm⟩
      have hln : (W' ++ [k]).length = W'.length + 1 := by rw [List.length_append]; rfl
      have hks := hI.lt hM hi k (List.mem_append_right _ (List.mem_singleton.2 rfl))
      have hget : (W' ++ [k])[W'.length]? = some k := by rw [List.getElem?_append_right (Nat.le_refl _), Nat.sub_self]; rfl
      have hJ0 := hI.pop
      refine G.ownForm (n' := (W' ++ [k]).length) (by omega) Tk.h fun bw cw e1 _ _ _ => ?_
      subst e1
      have rW : Rd (own 3 1 (W' ++ [k]).length (.slice (some ⟨bw, 0, none⟩) (W' ++ [k]).length cw) (natsV (W' ++ [k]))) ⟨bw, 0 + W'.length * 1, none⟩ (i64 (k : Nat)) := by rw [Nat.zero_add, Nat.mul_one]; exact Rd.own (natsV_get hget)
      obtain ⟨hZr, hZs⟩ := hZ k hks
      obtain ⟨ak, ck, ek, _, hrk⟩ := hZs
      have rk : Rd Z ⟨bl, 0 + k * 1, none⟩ (.slice ak (rowX M k).length ck) := by rw [Nat.zero_add, Nat.mul_one, ← ek]; exact hZr
      have hrl := rowX_lens h2 hM k
      (refine G.skip ?_; refine kthen_n ?_; refine G.block ?_; refine G.seq ?_; refine G.region ?_; refine GO.move rfl rfl ?_; refine GO.move rfl rfl ?_; refine GO.lenS rfl rfl ?_; refine GO.subi rfl rfl rfl (by omega) ?_)
      rw [show (((W' ++ [k]).length : Nat) : Int) - 1 = ((W'.length : Nat) : Int) by omega]
      (refine GO.idxS rfl rfl rfl ⟨rfl, by omega⟩ ?_; refine GO.loadQ rfl rfl rfl Tk.h (by assumption) ?_; refine GO.assign rfl rfl ?_; refine GO.nil ?_; refine kthen_n ?_; refine G.seq ?_; refine G.region ?_; refine GO.move rfl rfl ?_; refine GO.move rfl rfl ?_; refine GO.lenS rfl rfl ?_; refine GO.subi rfl rfl rfl (by omega) ?_)
      rw [show (((W' ++ [k]).length : Nat) : Int) - 1 = ((W'.length : Nat) : Int) by omega]
      refine GO.cutOwn (h := W'.length) rfl rfl rfl ⟨rfl, by omega⟩ Tk.h fun vC => ?_
      rw [natsW_take]
      (refine GO.assign rfl rfl ?_; refine GO.nil ?_; refine kthen_n ?_; refine G.seq ?_; refine G.region ?_; refine GO.assign rfl rfl ?_; refine GO.nil ?_; refine kthen_n ?_; refine G.block ?_)
      generalize hB : 2 * (s - cntA A s) + W'.length = B at hJ0
      refine G.loop4 (fun (n : Nat) (A : Nat → Bool) (W : List Nat) (v : Value) => [(0, .slice (some ⟨bl, 0, none⟩) s s), (5, .slice (some ⟨bM, 0, none⟩) s s), (6, v), (7, i64 (k : Nat)), (8, i64 (n : Nat))])
        (fun n A W v => own 3 1 W.length v (natsV W) :: onR bM A s :: Z :: F) (fun n A W _ => n ≤ (rowX M k).length ∧ RchJ s M i k n B A W) (fun n _ _ _ => (rowX M k).length - n) 0 A W' vC ⟨by omega, hJ0⟩ ?_ ?_ ?_
      · (refine SubE.c rfl rfl ?_; refine SubE.c rfl rfl ?_; refine SubE.c rfl rfl ?_; refine SubE.c rfl rfl ?_; refine SubE.c rfl rfl ?_; exact SubE.n)
      · ((refine Sb.c Tk.h ?_; refine Sb.c Tk.h ?_; refine Sb.c Tk.h ?_); (exact Sb.r))
      · rintro n A2 W2 v2 ⟨hn, hJ⟩
        have hl2 := hJ.len
        have hc2 := cntA_le A2 s
        (refine G.seq ?_; refine G.seq ?_; refine G.region ?_; refine GO.move rfl rfl ?_; refine GO.move rfl rfl ?_; refine GO.move rfl rfl ?_; refine GO.idxS rfl rfl rfl ⟨rfl, by omega⟩ ?_; refine GO.loadQ rfl rfl rfl (Tk.t (Tk.t Tk.h)) (by assumption) ?_; refine GO.lenS rfl rfl ?_; refine GO.lti rfl rfl rfl ?_; refine GO.nil ?_; refine kthen_n ?_)
        refine G.condD rfl (fun hlt2 => ?_) (fun hge => ?_)
        · have hnl : n < (rowX M k).length := by omega
          obtain ⟨j, hj⟩ : ∃ j, (rowX M k)[n]? = some j := ⟨_, List.getElem?_eq_getElem hnl⟩
          have hjs := (hM _ _ ((rowX_memS h2 hM).1 (List.mem_of_getElem? hj))).2
          obtain ⟨bo, oo, rfl, hrk2⟩ := hrk (by omega)
          have rj : Rd Z ⟨bo, oo + n * 1, none⟩ (i64 (j : Nat)) := by rw [Nat.mul_one]; exact hrk2 _ _ (natsV_get hj)
          cases hA : A2 j with
          | true =>
            have hnew := hJ.old hj hA
            have hnA : (!A2 j) = false := by rw [hA]; rfl
            (refine G.skip ?_; refine kthen_n ?_; refine G.seq ?_; refine G.block ?_; refine G.seq ?_; refine G.region ?_; refine GO.move rfl rfl ?_; refine GO.move rfl rfl ?_; refine GO.idxS rfl rfl rfl ⟨rfl, by omega⟩ ?_; refine GO.loadQ rfl rfl rfl (Tk.t (Tk.t Tk.h)) (by assumption) ?_; refine GO.move rfl rfl ?_; refine GO.idxS rfl rfl rfl ⟨rfl, by omega⟩ ?_; refine GO.loadQ rfl rfl rfl (Tk.t (Tk.t Tk.h)) (by assumption) ?_; refine GO.assign rfl rfl ?_; refine GO.nil ?_; refine kthen_n ?_; refine G.seq ?_; refine G.region ?_; refine GO.move rfl rfl ?_; refine GO.move rfl rfl ?_; refine GO.idxS rfl rfl rfl ⟨rfl, by omega⟩ ?_; refine GO.load1 rfl rfl rfl (Tk.t Tk.h) (rowV_get1 (by assumption)) ?_; refine GO.not rfl rfl ?_; refine GO.nil ?_; refine kthen_n ?_; refine G.condF rfl (by assumption) ?_; refine G.skip ?_; refine kblock_n ?_; refine kthen_n ?_; refine G.region ?_; refine GO.move rfl rfl ?_; refine GO.addi rfl rfl rfl (by omega) ?_; refine GO.assign rfl rfl ?_; refine GO.nil ?_; refine kthen_n ?_)
            refine ⟨n + 1, A2, W2, v2, ⟨by omega, hnew⟩, by omega, ?_, ?_⟩
            · (refine SubE.c rfl rfl ?_; refine SubE.c rfl rfl ?_; refine SubE.c rfl rfl ?_; refine SubE.c rfl rfl ?_; refine SubE.c rfl rfl ?_; exact SubE.n)
            · ((refine Sb.c Tk.h ?_; refine Sb.c Tk.h ?_; refine Sb.c Tk.h ?_); (exact Sb.r))
          | false =>
            have hnew := hJ.new h2 hM hj hA
            have hnA : (!A2 j) = true := by rw [hA]; rfl
            (refine G.skip ?_; refine kthen_n ?_; refine G.seq ?_; refine G.block ?_; refine G.seq ?_; refine G.region ?_; refine GO.move rfl rfl ?_; refine GO.move rfl rfl ?_; refine GO.idxS rfl rfl rfl ⟨rfl, by omega⟩ ?_; refine GO.loadQ rfl rfl rfl (Tk.t (Tk.t Tk.h)) (by assumption) ?_; refine GO.move rfl rfl ?_; refine GO.idxS rfl rfl rfl ⟨rfl, by omega⟩ ?_; refine GO.loadQ rfl rfl rfl (Tk.t (Tk.t Tk.h)) (by assumption) ?_; refine GO.assign rfl rfl ?_; refine GO.nil ?_; refine kthen_n ?_; refine G.seq ?_; refine G.region ?_; refine GO.move rfl rfl ?_; refine GO.move rfl rfl ?_; refine GO.idxS rfl rfl rfl ⟨rfl, by omega⟩ ?_; refine GO.load1 rfl rfl rfl (Tk.t Tk.h) (rowV_get1 (by assumption)) ?_; refine GO.not rfl rfl ?_; refine GO.nil ?_; refine kthen_n ?_; refine G.condT rfl (by assumption) ?_; refine G.seq ?_; refine G.region ?_; refine GO.move rfl rfl ?_; refine GO.move rfl rfl ?_; refine GO.idxS rfl rfl rfl ⟨rfl, by omega⟩ ?_)
            refine GO.store1 rfl rfl rfl (Tk.t Tk.h) (by rw [rowV_len]; omega) ?_
            rw [rowV_set (f := fun x : Bool => Value.bool x)]
            (refine GO.nil ?_; refine kthen_n ?_; refine G.region ?_; refine GO.move rfl rfl ?_; refine GO.move rfl rfl ?_)
            refine GO.buildSlice1 rfl rfl (by simp; rfl) rfl ⟨by omega, by omega⟩ fun bs => ?_
            refine GO.appendOwn (m := 1) (news := [i64 (j : Nat)]) rfl rfl rfl (Tk.t (Tk.t Tk.h)) Tk.h rfl (by simp [Value.oneCell']) ⟨by decide, rfl⟩ Nat.one_pos (by unfold maxLen; omega) (by omega) fun v4 => ?_
            rw [natsV_one, show W2.length + 1 = (W2 ++ [j]).length by rw [List.length_append]; rfl]
            (refine GO.assign rfl rfl ?_; refine GO.nil ?_; refine kblock_n ?_; refine kthen_n ?_; refine G.region ?_; refine GO.move rfl rfl ?_; refine GO.addi rfl rfl rfl (by omega) ?_; refine GO.assign rfl rfl ?_; refine GO.nil ?_; refine kthen_n ?_)
            refine ⟨n + 1, upd A2 j true, W2 ++ [j], v4, ⟨by omega, hnew⟩, by omega, ?_, ?_⟩
            · (refine SubE.c rfl rfl ?_; refine SubE.c rfl rfl ?_; refine SubE.c rfl rfl ?_; refine SubE.c rfl rfl ?_; refine SubE.c rfl rfl ?_; exact SubE.n)
            · ((refine Sb.c Tk.h ?_; refine Sb.c (Tk.t Tk.h) ?_; refine Sb.c (Tk.t Tk.h) ?_); (refine Sb.s ?_; exact Sb.r))
        · obtain rfl : n = (rowX M k).length := by omega
          have hmu := hJ.mu
          (refine G.exit ?_; refine kthen_x ?_; refine kthen_x ?_; refine kblock_x ?_; refine kblock_n ?_; refine kthen_n ?_)
          refine ⟨A2, W2, v2, hJ.end h2 hM, by omega, ?_, ?_⟩
          · (refine SubE.c rfl rfl ?_; refine SubE.c rfl rfl ?_; refine SubE.c rfl rfl ?_; exact SubE.n)
          · ((refine Sb.c Tk.h ?_; refine Sb.c Tk.h ?_; refine Sb.c Tk.h ?_); (exact Sb.r))
    · have hW : W = [] := List.eq_nil_of_length_eq_zero (by omega)
      subst hW
      have hAX := hI.end hX
      subst hAX
      (refine G.exit ?_; refine kthen_x ?_; refine kthen_x ?_; refine kblock_x ?_; refine kthen_n ?_; refine G.seq ?_; refine G.region ?_; refine GO.move rfl rfl ?_; refine GO.assign rfl rfl ?_; refine GO.nil ?_; refine kthen_n ?_; refine G.ret ?_)
      refine KF2.r1 rfl (RV.t rfl) ⟨_, rfl, rfl⟩ (ImpS.sb ?_)
      ((refine Sb.c (Tk.t Tk.h) ?_; refine Sb.c (Tk.t Tk.h) ?_); (refine Sb.s ?_; exact Sb.r))
end Go.Proofs.YtpfcgfgkmgnaaaaDoor
namespace Go.Proofs.YtpfcgfgkmgnaaaaDoor
open Go
theorem clo_ex2 (M : Nat → Nat → Bool) : ∃ X, IsClo M X := by
  refine ⟨fun r c => @decide (PathX M r c) (Classical.propDecidable _), fun r c h => @decide_eq_true _ (Classical.propDecidable _) (.one h), fun r k c h1 h2 => @decide_eq_true _ (Classical.propDecidable _) ((@of_decide_eq_true _ (Classical.propDecidable _) h1).trans (@of_decide_eq_true _ (Classical.propDecidable _) h2)), fun Y hY hT r c h => ?_⟩
  have hp := @of_decide_eq_true _ (Classical.propDecidable _) h
  clear h
  induction hp with
  | one a => exact hY _ _ a
  | more a _ ih => exact hT _ _ _ (hY _ _ a) ih
theorem clo_none {s : Nat} {M X : Nat → Nat → Bool} (hs : s ≤ 1024) (hM : ∀ r c, M r c = true → r < s ∧ c < s) (hX : IsClo M X) {i : Nat} (h : (rowX M i).length = 0) : lines X (i + 1) = lines X i := by
  have he : rowX X i = [] := by
    rw [List.eq_nil_iff_forall_not_mem]
    intro j hj
    have hX2 := hX.in hM
    have hp := (hX.path i j).1 ((rowX_memS hs hX2).1 hj)
    have hn := List.eq_nil_of_length_eq_zero h
    cases hp with
    | one a => have := (rowX_memS hs hM).2 a; rw [hn] at this; cases this
    | more a _ => have := (rowX_memS hs hM).2 a; rw [hn] at this; cases this
  rw [lines_succ, he]
  exact List.append_nil _
attribute [local irreducible] G GO GR GT Fn FnV pt init exs pur sat own ImpS mat posL allV orL restX cellsX cellsV natsV rowX lines NextR onL
set_option maxHeartbeats 16000000 in
theorem close_core (z : HP) (ra : Value) (s : Nat) (C X : Nat → Nat → Bool) (hra : RefO z ra (some (s, C))) (h1 : 1 ≤ s) (h2 : s ≤ 1024) (hC : ∀ r c, C r c = true → r < s ∧ c < s) (hX : IsClo C X) :
    Fn Tryd.prog 49 #[ra] [z] (fun r Q => ∃ v, r = refV (s : Nat) v ∧ Q = [own 63 2 (castL (cellsX X)).length v (cellsV (castL (cellsX X))), z]) := by
  have iX := hX.in hC
  have hall := lines_all h2 iX
  have hl0 : lines X 0 = [] := by unfold lines; rfl
  have hnx := next_spec z ra s C hra h1 h2 hC
  have hno := fun i (h : (rowX C i).length = 0) => clo_none h2 hC hX h
  rw [← hall, castL_len]
  obtain ⟨va, rfl, honea, _⟩ := hra
  change Fn _ _ #[refV s va] _ _ at hnx
  change Fn _ _ #[refV s va] _ _
  refine Fn.mk2 Tryd.func49 rfl rfl fun w0 F => ?_
  (refine G.seq ?_; refine G.region ?_; refine GO.box rfl rfl rfl fun b1 => ?_; refine GO.alloc rfl fun b2 => ?_; refine GO.nil ?_; refine kthen_n ?_; refine G.seq ?_; refine G.region ?_; refine GO.fieldAddr rfl rfl ?_; refine GO.load1 rfl rfl rfl (Tk.t Tk.h) rfl ?_)
  refine GO.buildPart1 (built_ref (s : Nat)) rfl rfl ?_
  (refine GO.alloc rfl fun b3 => ?_; refine GO.storeW rfl rfl Tk.h ⟨rfl, rfl⟩ (by simp [Value.oneCell']) ?_; refine GO.nil ?_; refine kthen_n ?_; refine G.seq ?_; refine G.region ?_; refine GO.loadW rfl rfl rfl (Tk.t (Tk.t Tk.h)) rfl ?_)
  refine GO.call1 rfl rfl (hnx) (Tks.c (Tk.t (Tk.t (Tk.t Tk.h))) Tks.n) ?_
  rintro _ _ ⟨Z, hZ, rfl⟩
  have hrch := fun i hi => reached_spec Z _ s C X hZ h1 h2 hC hX i hi
  unfold NextR at hZ
  obtain ⟨bl, vs, rfl, hZ⟩ := hZ
  (refine GO.assign rfl rfl ?_; refine GO.nil ?_; refine kthen_n ?_; refine G.seq ?_; refine G.seq ?_; refine G.region ?_; refine GO.assign rfl rfl ?_; refine GO.nil ?_; refine kthen_n ?_; refine G.block ?_)
  refine G.ownNil (T := 63) (sz := 2) ?_
  refine G.loop2 (fun (i : Nat) (v : Value) => [(1, ptrV b1), (2, ptrV b2), (3, ptrV b3), (4, .slice (some ⟨bl, 0, none⟩) s s), (5, i64 (i : Nat))])
    (fun i v => pt b3 (row [i64 (s : Nat), v] 28) :: own 63 2 (lines X i).length v (pairsV (lines X i)) :: pt b1 (row [i64 (s : Nat), va] 28) :: pt b2 (row [i64 0, .slice none 0 0] 28) :: Z :: z :: F) (fun i v => i ≤ s ∧ v.oneCell' = true) (fun i _ => s - i) 0 (.slice none 0 0) ⟨by omega, rfl⟩ ?_ ?_ ?_
  · (refine SubE.c rfl rfl ?_; refine SubE.c rfl rfl ?_; refine SubE.c rfl rfl ?_; refine SubE.c rfl rfl ?_; refine SubE.c rfl rfl ?_; exact SubE.n)
  · rw [hl0, show pairsV [] = [] by unfold pairsV cellsV; rfl]
    ((refine Sb.c (Tk.t (Tk.t (Tk.t Tk.h))) ?_; refine Sb.c Tk.h ?_; refine Sb.c (Tk.t (Tk.t (Tk.t Tk.h))) ?_; refine Sb.c (Tk.t (Tk.t Tk.h)) ?_; refine Sb.c Tk.h ?_; refine Sb.c Tk.h ?_); (exact Sb.r))
  · rintro i v ⟨hi, hone⟩
    (refine G.seq ?_; refine G.seq ?_; refine G.region ?_; refine GO.move rfl rfl ?_; refine GO.fieldAddr rfl rfl ?_; refine GO.load1 rfl rfl rfl (Tk.t (Tk.t Tk.h)) rfl ?_; refine GO.lti rfl rfl rfl ?_; refine GO.nil ?_; refine kthen_n ?_)
    refine G.condD rfl (fun hlt => ?_) (fun hge => ?_)
    · have his : i < s := by omega
      obtain ⟨hZr, hZs⟩ := hZ i his
      obtain ⟨ak, ck, ek, _, hrk⟩ := hZs
      have rk : Rd Z ⟨bl, 0 + i * 1, none⟩ (.slice ak (rowX C i).length ck) := by rw [Nat.zero_add, Nat.mul_one, ← ek]; exact hZr
      by_cases h0 : (rowX C i).length = 0
      · have d0 : decide ((((rowX C i).length : Nat) : Int) = 0) = true := decide_eq_true (by omega)
        have hn := hno i h0
        (refine G.skip ?_; refine kthen_n ?_; refine G.seq ?_; refine G.block ?_; refine G.seq ?_; refine G.seq ?_; refine G.region ?_; refine GO.move rfl rfl ?_; refine GO.move rfl rfl ?_; refine GO.idxS rfl rfl rfl ⟨rfl, by omega⟩ ?_; refine GO.loadQ rfl rfl rfl (Tk.t (Tk.t (Tk.t (Tk.t Tk.h)))) (by assumption) ?_; refine GO.lenS rfl rfl ?_; refine GO.eqi rfl rfl rfl ?_; refine GO.nil ?_; refine kthen_n ?_; refine G.condT rfl (by assumption) ?_; refine G.exit ?_; refine kthen_x ?_; refine kblock_x ?_; refine kthen_n ?_; refine G.region ?_; refine GO.move rfl rfl ?_; refine GO.addi rfl rfl rfl (by omega) ?_; refine GO.assign rfl rfl ?_; refine GO.nil ?_; refine kthen_n ?_)
        refine ⟨i + 1, v, ⟨by omega, hone⟩, by omega, ?_, ?_⟩
        · (refine SubE.c rfl rfl ?_; refine SubE.c rfl rfl ?_; refine SubE.c rfl rfl ?_; refine SubE.c rfl rfl ?_; refine SubE.c rfl rfl ?_; exact SubE.n)
        · rw [hn]
          ((refine Sb.c Tk.h ?_; refine Sb.c Tk.h ?_; refine Sb.c Tk.h ?_; refine Sb.c Tk.h ?_; refine Sb.c Tk.h ?_; refine Sb.c Tk.h ?_); (exact Sb.r))
      · have d0 : decide ((((rowX C i).length : Nat) : Int) = 0) = false := decide_eq_false (by omega)
        have ht0 := toldX_zero X i
        have hte := toldX_end h2 iX i
        (refine G.skip ?_; refine kthen_n ?_; refine G.seq ?_; refine G.block ?_; refine G.seq ?_; refine G.seq ?_; refine G.region ?_; refine GO.move rfl rfl ?_; refine GO.move rfl rfl ?_; refine GO.idxS rfl rfl rfl ⟨rfl, by omega⟩ ?_; refine GO.loadQ rfl rfl rfl (Tk.t (Tk.t (Tk.t (Tk.t Tk.h)))) (by assumption) ?_; refine GO.lenS rfl rfl ?_; refine GO.eqi rfl rfl rfl ?_; refine GO.nil ?_; refine kthen_n ?_; refine G.condF rfl (by assumption) ?_; refine G.skip ?_; refine kthen_n ?_; refine G.seq ?_; refine G.region ?_; refine GO.move rfl rfl ?_; refine GO.move rfl rfl ?_)
        refine GO.call2 rfl rfl rfl (hrch i his) (Tks.c (Tk.t (Tk.t (Tk.t (Tk.t Tk.h)))) Tks.n) ?_
        rintro _ _ ⟨bM, rfl, rfl⟩
        (refine GO.assign rfl rfl ?_; refine GO.nil ?_; refine kthen_n ?_; refine G.seq ?_; refine G.region ?_; refine GO.assign rfl rfl ?_; refine GO.nil ?_; refine kthen_n ?_; refine G.block ?_)
        refine G.loop2 (fun (j : Nat) (v : Value) => [(1, ptrV b1), (2, ptrV b2), (3, ptrV b3), (4, .slice (some ⟨bl, 0, none⟩) s s), (5, i64 (i : Nat)), (6, .slice (some ⟨bM, 0, none⟩) s s), (7, i64 (j : Nat))])
          (fun j v => pt b3 (row [i64 (s : Nat), v] 28) :: own 63 2 (toldX X i j).length v (pairsV (toldX X i j)) :: onR bM (X i) s :: pt b1 (row [i64 (s : Nat), va] 28) :: pt b2 (row [i64 0, .slice none 0 0] 28) :: Z :: z :: F) (fun j v => j ≤ s ∧ v.oneCell' = true) (fun j _ => s - j) 0 v ⟨by omega, hone⟩ ?_ ?_ ?_
        · (refine SubE.c rfl rfl ?_; refine SubE.c rfl rfl ?_; refine SubE.c rfl rfl ?_; refine SubE.c rfl rfl ?_; refine SubE.c rfl rfl ?_; refine SubE.c rfl rfl ?_; refine SubE.c rfl rfl ?_; exact SubE.n)
        · rw [ht0]
          ((refine Sb.c (Tk.t (Tk.t Tk.h)) ?_; refine Sb.c (Tk.t (Tk.t Tk.h)) ?_; refine Sb.c Tk.h ?_; refine Sb.c (Tk.t Tk.h) ?_; refine Sb.c (Tk.t Tk.h) ?_; refine Sb.c Tk.h ?_; refine Sb.c Tk.h ?_); (exact Sb.r))
        · rintro j v ⟨hj, hone⟩
          have hln := toldX_len X (i := i) (j := j) (by omega) (by omega)
          (refine G.seq ?_; refine G.seq ?_; refine G.region ?_; refine GO.move rfl rfl ?_; refine GO.fieldAddr rfl rfl ?_; refine GO.load1 rfl rfl rfl (Tk.t (Tk.t (Tk.t Tk.h))) rfl ?_; refine GO.lti rfl rfl rfl ?_; refine GO.nil ?_; refine kthen_n ?_)
          refine G.condD rfl (fun hltj => ?_) (fun hgej => ?_)
          · have hjs : j < s := by omega
            cases hA : X i j with
            | false =>
              have hno := toldX_no hA
              (refine G.skip ?_; refine kthen_n ?_; refine G.seq ?_; refine G.block ?_; refine G.seq ?_; refine G.region ?_; refine GO.move rfl rfl ?_; refine GO.move rfl rfl ?_; refine GO.idxS rfl rfl rfl ⟨rfl, by omega⟩ ?_; refine GO.load1 rfl rfl rfl (Tk.t (Tk.t Tk.h)) (rowV_get1 (by assumption)) ?_; refine GO.nil ?_; refine kthen_n ?_; refine G.condF rfl (by assumption) ?_; refine G.skip ?_; refine kblock_n ?_; refine kthen_n ?_; refine G.region ?_; refine GO.move rfl rfl ?_; refine GO.addi rfl rfl rfl (by omega) ?_; refine GO.assign rfl rfl ?_; refine GO.nil ?_; refine kthen_n ?_)
              refine ⟨j + 1, v, ⟨by omega, hone⟩, by omega, ?_, ?_⟩
              · (refine SubE.c rfl rfl ?_; refine SubE.c rfl rfl ?_; refine SubE.c rfl rfl ?_; refine SubE.c rfl rfl ?_; refine SubE.c rfl rfl ?_; refine SubE.c rfl rfl ?_; refine SubE.c rfl rfl ?_; exact SubE.n)
              · rw [hno]
                ((refine Sb.c Tk.h ?_; refine Sb.c Tk.h ?_; refine Sb.c Tk.h ?_; refine Sb.c Tk.h ?_; refine Sb.c Tk.h ?_; refine Sb.c Tk.h ?_; refine Sb.c Tk.h ?_); (exact Sb.r))
            | true =>
              have hyes := toldX_yes hA
              (refine G.skip ?_; refine kthen_n ?_; refine G.seq ?_; refine G.block ?_; refine G.seq ?_; refine G.region ?_; refine GO.move rfl rfl ?_; refine GO.move rfl rfl ?_; refine GO.idxS rfl rfl rfl ⟨rfl, by omega⟩ ?_; refine GO.load1 rfl rfl rfl (Tk.t (Tk.t Tk.h)) (rowV_get1 (by assumption)) ?_; refine GO.nil ?_; refine kthen_n ?_; refine G.condT rfl (by assumption) ?_; refine G.region ?_; refine GO.fieldAddr rfl rfl ?_; refine GO.load1 rfl rfl rfl Tk.h rfl ?_; refine GO.move rfl rfl ?_; refine GO.move rfl rfl ?_; refine GO.build2 rfl rfl rfl rfl ?_)
              refine GO.buildSlice1 rfl rfl (by simp; rfl) rfl ⟨by omega, by omega⟩ fun bs => ?_
              refine GO.appendOwn (m := 1) (news := [i64 (i : Nat), i64 (j : Nat)]) rfl rfl rfl (Tk.t (Tk.t Tk.h)) Tk.h rfl (by simp [Value.oneCell']) ⟨by decide, rfl⟩ Nat.one_pos (by unfold maxLen; omega) (by omega) fun v4 => ?_
              refine GO.ownOne Tk.h fun hone4 => ?_
              rw [pairsV_one, show (toldX X i j).length + 1 = (toldX X i j ++ [(i, j)]).length by rw [List.length_append]; rfl, ← hyes]
              (refine GO.fieldAddr rfl rfl ?_; refine GO.store1 rfl rfl (by assumption) (Tk.t (Tk.t Tk.h)) (by simp) ?_; refine GO.nil ?_; refine kblock_n ?_; refine kthen_n ?_; refine G.region ?_; refine GO.move rfl rfl ?_; refine GO.addi rfl rfl rfl (by omega) ?_; refine GO.assign rfl rfl ?_; refine GO.nil ?_; refine kthen_n ?_)
              refine ⟨j + 1, v4, ⟨by omega, hone4⟩, by omega, ?_, ?_⟩
              · (refine SubE.c rfl rfl ?_; refine SubE.c rfl rfl ?_; refine SubE.c rfl rfl ?_; refine SubE.c rfl rfl ?_; refine SubE.c rfl rfl ?_; refine SubE.c rfl rfl ?_; refine SubE.c rfl rfl ?_; exact SubE.n)
              · ((refine Sb.c Tk.h ?_; refine Sb.c Tk.h ?_; refine Sb.c (Tk.t Tk.h) ?_; refine Sb.c (Tk.t Tk.h) ?_; refine Sb.c (Tk.t Tk.h) ?_; refine Sb.c (Tk.t Tk.h) ?_; refine Sb.c (Tk.t Tk.h) ?_); (refine Sb.s ?_; exact Sb.r))
          · obtain rfl : j = s := by omega
            rw [hte]
            (refine G.exit ?_; refine kthen_x ?_; refine kthen_x ?_; refine kblock_x ?_; refine kblock_n ?_; refine kthen_n ?_; refine G.region ?_; refine GO.move rfl rfl ?_; refine GO.addi rfl rfl rfl (by omega) ?_; refine GO.assign rfl rfl ?_; refine GO.nil ?_; refine kthen_n ?_)
            refine ⟨i + 1, v, ⟨by omega, hone⟩, by omega, ?_, ?_⟩
            · (refine SubE.c rfl rfl ?_; refine SubE.c rfl rfl ?_; refine SubE.c rfl rfl ?_; refine SubE.c rfl rfl ?_; refine SubE.c rfl rfl ?_; exact SubE.n)
            · ((refine Sb.c Tk.h ?_; refine Sb.c Tk.h ?_; refine Sb.c (Tk.t Tk.h) ?_; refine Sb.c (Tk.t Tk.h) ?_; refine Sb.c (Tk.t Tk.h) ?_; refine Sb.c (Tk.t Tk.h) ?_); (refine Sb.s ?_; exact Sb.r))
    · obtain rfl : i = s := by omega
      (refine G.exit ?_; refine kthen_x ?_; refine kthen_x ?_; refine kblock_x ?_; refine kthen_n ?_; refine G.seq ?_; refine G.region ?_; refine GO.loadW rfl rfl rfl Tk.h rfl ?_; refine GO.storeW rfl rfl (Tk.t (Tk.t (Tk.t Tk.h))) ⟨rfl, rfl⟩ (by simp [Value.oneCell']; assumption) ?_; refine GO.nil ?_; refine kthen_n ?_; refine G.ret ?_)
      refine KF2.r1 rfl (RV.cW (n := 2) rfl rfl (by (exact Tk.h)) rfl) ⟨v, rfl, rfl⟩ (ImpS.sb ?_)
      ((refine Sb.c (Tk.t (Tk.t Tk.h)) ?_; refine Sb.c (Tk.t (Tk.t (Tk.t (Tk.t Tk.h)))) ?_); (refine Sb.s ?_; refine Sb.s ?_; refine Sb.s ?_; refine Sb.s ?_; exact Sb.r))
theorem close_spec (z : HP) (ra : Value) (s : Nat) (C X : Nat → Nat → Bool) (hra : RefO z ra (some (s, C))) (h1 : 1 ≤ s) (h2 : s ≤ 1024) (hC : ∀ r c, C r c = true → r < s ∧ c < s) (hX : IsClo C X) :
    Fn Tryd.prog 49 #[ra] [z] (fun r Q => ∃ v p, r = refV (s : Nat) v ∧ v.oneCell' = true ∧ RefO p (refV (s : Nat) v) (some (s, X)) ∧ Q = [p, z]) := by
  have h := close_core z ra s C X hra h1 h2 hC hX
  unfold Fn at *
  intro F w hw
  refine (h F w hw).mono ?_
  rintro e w' ⟨v, Q, e1, e2, ⟨u, rfl, rfl⟩, d⟩
  have d1 := own_one d
  have d2 := own_slC d
  exact ⟨_, _, e1, e2, ⟨u, _, rfl, d1, RefO.own d1 d2, rfl⟩, d⟩
set_option maxHeartbeats 8000000 in
theorem rClosure_some (z : HP) (ra : Value) (s : Nat) (C X : Nat → Nat → Bool) (hra : RefO z ra (some (s, C))) (h1 : 1 ≤ s) (h2 : s ≤ 1024) (hC : ∀ r c, C r c = true → r < s ∧ c < s) (hX : IsClo C X) :
    Fn Tryd.prog 34 #[ra] [z] (fun r Q => ∃ rv p, r = .tuple #[rv, i64 0] ∧ RefO p rv (some (s, X)) ∧ Q = [p, z]) := by
  have hcl := close_spec z ra s C X hra h1 h2 hC hX
  obtain ⟨va, rfl, honea, _⟩ := hra
  change Fn _ _ #[refV s va] _ _ at hcl
  change Fn _ _ #[refV s va] _ _
  have d0 : decide (((s : Nat) : Int) = 0) = false := decide_eq_false (by omega)
  refine Fn.mk2 Tryd.func34 rfl rfl fun w0 F => ?_
  (refine G.seq ?_; refine G.region ?_; refine GO.box rfl rfl rfl fun b1 => ?_; refine GO.alloc rfl fun b2 => ?_; refine GO.assign rfl rfl ?_; refine GO.nil ?_; refine kthen_n ?_; refine G.seq ?_; refine G.seq ?_; refine G.region ?_; refine GO.fieldAddr rfl rfl ?_; refine GO.load1 rfl rfl rfl (Tk.t Tk.h) rfl ?_; refine GO.eqi rfl rfl rfl ?_; refine GO.nil ?_; refine kthen_n ?_; refine G.condF rfl (by assumption) ?_; refine G.skip ?_; refine kthen_n ?_; refine G.seq ?_; refine G.region ?_; refine GO.loadW rfl rfl rfl (Tk.t Tk.h) rfl ?_)
  refine GO.call1 rfl rfl (hcl) (Tks.c (Tk.t (Tk.t Tk.h)) Tks.n) ?_
  rintro _ _ ⟨v, p, rfl, hone, hp, rfl⟩
  (refine GO.storeW rfl rfl (Tk.t (Tk.t Tk.h)) ⟨rfl, rfl⟩ (by simp [Value.oneCell']; assumption) ?_; refine GO.assign rfl rfl ?_; refine GO.nil ?_; refine kthen_n ?_; refine G.ret ?_)
  refine KF2.r2 rfl (RV.cW (n := 2) rfl rfl (by (exact Tk.h)) rfl) (RV.t rfl) ⟨_, _, rfl, hp, rfl⟩ (ImpS.sb ?_)
  ((refine Sb.c (Tk.t Tk.h) ?_; refine Sb.c (Tk.t Tk.h) ?_); (refine Sb.s ?_; refine Sb.s ?_; exact Sb.r))
set_option maxHeartbeats 8000000 in
theorem rClosure_none (z : HP) (ra : Value) (hra : RefO z ra none) :
    Fn Tryd.prog 34 #[ra] [z] (fun r Q => ∃ rv p, r = .tuple #[rv, i64 1] ∧ RefO p rv none ∧ Q = [p, z]) := by
  obtain ⟨va, rfl, honea, _⟩ := hra
  change Fn _ _ #[refV (0 : Nat) va] _ _
  have d0 : decide (((0 : Nat) : Int) = 0) = true := by decide
  refine Fn.mk2 Tryd.func34 rfl rfl fun w0 F => ?_
  (refine G.seq ?_; refine G.region ?_; refine GO.box rfl rfl rfl fun b1 => ?_; refine GO.alloc rfl fun b2 => ?_; refine GO.assign rfl rfl ?_; refine GO.nil ?_; refine kthen_n ?_; refine G.seq ?_; refine G.seq ?_; refine G.region ?_; refine GO.fieldAddr rfl rfl ?_; refine GO.load1 rfl rfl rfl (Tk.t Tk.h) rfl ?_; refine GO.eqT rfl rfl rfl rfl ?_; refine GO.nil ?_; refine kthen_n ?_; refine G.condT rfl rfl ?_; refine G.seq ?_; refine G.region ?_; refine GO.build0 rfl ?_; refine GO.storeW rfl rfl Tk.h ⟨rfl, rfl⟩ (by simp [Value.oneCell']) ?_; refine GO.assign rfl rfl ?_; refine GO.nil ?_; refine kthen_n ?_; refine G.ret ?_; refine kthen_r ?_)
  refine KF2.r2 rfl (RV.cW (n := 2) rfl rfl (by (exact Tk.h)) rfl) (RV.t rfl) ⟨_, star [], rfl, RefO.nil _, rfl⟩ (ImpS.flat (k := []) (M := z :: F) (ImpS.sb ?_))
  ((refine Sb.c (Tk.t (Tk.t Tk.h)) ?_); (refine Sb.s ?_; refine Sb.s ?_; exact Sb.r))
end Go.Proofs.YtpfcgfgkmgnaaaaDoor
namespace Go.Proofs.YtpfcgfgkmgnaaaaDoor
open Go
def wrR (s : Nat) (i : Int) : Int := if s = 0 then 1 else if 0 ≤ i ∧ i < s then 0 else 2
def frL (o : OptM) (X : Nat → Nat → Bool) (i : Int) : List Nat := if wrR (sideO o) i = 0 then onL (X i.toNat) (sideO o) else []
def cloO (o : OptM) (X : Nat → Nat → Bool) : OptM := match o with | some (s, _) => some (s, X) | none => none
def CloR (o : OptM) (X : Nat → Nat → Bool) : Prop := ∀ s C, o = some (s, C) → IsClo C X
theorem wrR_zero {s : Nat} {i : Int} (h : wrR s i = 0) : s ≠ 0 ∧ ∃ m : Nat, i = m ∧ m < s := by
  unfold wrR at h
  split at h
  · cases h
  · split at h
    · rename_i h0 h1
      obtain ⟨m, rfl⟩ := Int.eq_ofNat_of_zero_le h1.1
      exact ⟨h0, m, rfl, by omega⟩
    · cases h
theorem nats_nil : natsV [] = [] := rfl
theorem mat_some {p : HP} {v : Value} {o : OptM} (h : MatO p v o) (ho : sideO o ≠ 0) : ∃ b, v = ptrV b ∧ p = mat (sideO o) (setO o) b := by
  rcases h with ⟨rfl, _⟩ | ⟨s, X, b, rfl, rfl, rfl⟩
  · exact absurd rfl ho
  · exact ⟨b, rfl, rfl⟩
theorem WfM.none_of {o : OptM} (w : WfM o) (h : sideO o = 0) : o = none := by
  match o, w, h with
  | none, _, _ => rfl
  | some (s, X), w, h => have := (w s X rfl).1; change s = 0 at h; omega
theorem some_ofS {o : OptM} (h : sideO o ≠ 0) : o = some (sideO o, setO o) := by
  match o, h with
  | none, h => exact absurd rfl h
  | some (s, X), _ => rfl
attribute [local irreducible] G GO GR GT Fn FnV pt init exs pur sat own ImpS mat posL allV orL restX cellsX cellsV natsV rowX lines NextR onL
set_option maxHeartbeats 4000000 in
theorem refWrong_spec (s : Nat) (i : Int) (v : Value) (hv : v.oneCell' = true) : Fn Tryd.prog 48 #[refV s v, i64 i, i64 0] [] (fun r Q => r = i64 (wrR s i) ∧ Q = []) := by
  by_cases h0 : s = 0
  · have d0 : decide (((s : Nat) : Int) = 0) = true := decide_eq_true (by omega)
    rw [show wrR s i = 1 from if_pos h0]
    refine Fn.mk2 Tryd.func48 rfl rfl fun w0 F => ?_
    (refine G.seq ?_; refine G.region ?_; refine GO.box rfl rfl rfl fun b3 => ?_; refine GO.assign rfl rfl ?_; refine GO.nil ?_; refine kthen_n ?_; refine G.seq ?_; refine G.seq ?_; refine G.region ?_; refine GO.fieldAddr rfl rfl ?_; refine GO.load1 rfl rfl rfl Tk.h rfl ?_; refine GO.eqi rfl rfl rfl ?_; refine GO.nil ?_; refine kthen_n ?_; refine G.condT rfl (by assumption) ?_; refine G.seq ?_; refine G.region ?_; refine GO.assign rfl rfl ?_; refine GO.nil ?_; refine kthen_n ?_; refine G.ret ?_; refine kthen_r ?_)
    refine KF2.r1 rfl (RV.t rfl) ⟨rfl, rfl⟩ (ImpS.sb ?_)
    (skip; (refine Sb.s ?_; exact Sb.r))
  have d0 : decide (((s : Nat) : Int) = 0) = false := decide_eq_false (by omega)
  have hi0 : inS s 0 = true := by unfold inS; rw [decide_eq_true (by omega), decide_eq_true (by omega)]; rfl
  by_cases h1 : 0 ≤ i ∧ i < s
  · have hi : inS s i = true := by unfold inS; rw [decide_eq_true h1.1, decide_eq_true h1.2]; rfl
    rw [show wrR s i = 0 by unfold wrR; rw [if_neg h0, if_pos h1]]
    have s1 := refIn_spec s i v hv
    have s2 := refIn_spec s 0 v hv
    rw [hi] at s1
    rw [hi0] at s2
    refine Fn.mk2 Tryd.func48 rfl rfl fun w0 F => ?_
    (refine G.seq ?_; refine G.region ?_; refine GO.box rfl rfl rfl fun b3 => ?_; refine GO.assign rfl rfl ?_; refine GO.nil ?_; refine kthen_n ?_; refine G.seq ?_; refine G.seq ?_; refine G.region ?_; refine GO.fieldAddr rfl rfl ?_; refine GO.load1 rfl rfl rfl Tk.h rfl ?_; refine GO.eqi rfl rfl rfl ?_; refine GO.nil ?_; refine kthen_n ?_; refine G.condF rfl (by assumption) ?_; refine G.skip ?_; refine kthen_n ?_; refine G.seq ?_; refine G.seq ?_; refine G.region ?_; refine GO.loadW rfl rfl rfl Tk.h rfl ?_; refine GO.move rfl rfl ?_)
    refine GO.call2 rfl rfl rfl (s1) Tks.n ?_
    rintro _ _ ⟨rfl, rfl⟩
    (refine GO.not rfl rfl ?_; refine GO.move rfl rfl ?_; refine GO.gT rfl rfl rfl ?_; refine GO.loadW rfl rfl rfl Tk.h rfl ?_; refine GO.gT rfl rfl rfl ?_; refine GO.move rfl rfl ?_; refine GO.gT rfl rfl rfl ?_)
    refine GO.call2 rfl rfl rfl (s2) Tks.n ?_
    rintro _ _ ⟨rfl, rfl⟩
    (refine GO.gT rfl rfl rfl ?_; refine GO.not rfl rfl ?_; refine GO.pickF rfl rfl rfl ?_; refine GO.nil ?_; refine kthen_n ?_; refine G.condF rfl rfl ?_; refine G.skip ?_; refine kthen_n ?_; refine G.seq ?_; refine G.region ?_; refine GO.assign rfl rfl ?_; refine GO.nil ?_; refine kthen_n ?_; refine G.ret ?_)
    refine KF2.r1 rfl (RV.t rfl) ⟨rfl, rfl⟩ (ImpS.sb ?_)
    (skip; (refine Sb.s ?_; exact Sb.r))
  · have hi : inS s i = false := by
      unfold inS
      rw [Bool.and_eq_false_iff, decide_eq_false_iff_not, decide_eq_false_iff_not]
      omega
    rw [show wrR s i = 2 by unfold wrR; rw [if_neg h0, if_neg h1]]
    have s1 := refIn_spec s i v hv
    rw [hi] at s1
    refine Fn.mk2 Tryd.func48 rfl rfl fun w0 F => ?_
    (refine G.seq ?_; refine G.region ?_; refine GO.box rfl rfl rfl fun b3 => ?_; refine GO.assign rfl rfl ?_; refine GO.nil ?_; refine kthen_n ?_; refine G.seq ?_; refine G.seq ?_; refine G.region ?_; refine GO.fieldAddr rfl rfl ?_; refine GO.load1 rfl rfl rfl Tk.h rfl ?_; refine GO.eqi rfl rfl rfl ?_; refine GO.nil ?_; refine kthen_n ?_; refine G.condF rfl (by assumption) ?_; refine G.skip ?_; refine kthen_n ?_; refine G.seq ?_; refine G.seq ?_; refine G.region ?_; refine GO.loadW rfl rfl rfl Tk.h rfl ?_; refine GO.move rfl rfl ?_)
    refine GO.call2 rfl rfl rfl (s1) Tks.n ?_
    rintro _ _ ⟨rfl, rfl⟩
    (refine GO.not rfl rfl ?_; refine GO.move rfl rfl ?_; refine GO.gF rfl rfl rfl rfl ?_; refine GO.gF rfl rfl rfl rfl ?_; refine GO.gF rfl rfl rfl rfl ?_; refine GO.gF rfl rfl rfl rfl ?_; refine GO.pickT rfl rfl rfl ?_; refine GO.nil ?_; refine kthen_n ?_; refine G.condT rfl rfl ?_; refine G.seq ?_; refine G.region ?_; refine GO.assign rfl rfl ?_; refine GO.nil ?_; refine kthen_n ?_; refine G.ret ?_; refine kthen_r ?_)
    refine KF2.r1 rfl (RV.t rfl) ⟨rfl, rfl⟩ (ImpS.sb ?_)
    (skip; (refine Sb.s ?_; exact Sb.r))
set_option maxHeartbeats 8000000 in
theorem rFromO (z : HP) (ra : Value) (o : OptM) (hra : RefO z ra o) (wo : WfM o) (X : Nat → Nat → Bool) (hX : CloR o X) (i : Int) :
    Fn Tryd.prog 33 #[ra, i64 i] [z] (fun r Q => ∃ v, r = .tuple #[v, i64 (wrR (sideO o) i)] ∧ Q = [own 3 1 (frL o X i).length v (natsV (frL o X i)), z]) := by
  by_cases h : wrR (sideO o) i = 0
  · have hL : frL o X i = onL (X i.toNat) (sideO o) := if_pos h
    obtain ⟨hs, m, rfl, hm⟩ := wrR_zero h
    rw [hL, h, Int.toNat_natCast]
    have hso := some_ofS hs
    have hb := wo _ _ hso
    have hcl := hX _ _ hso
    have hnx := next_spec z ra (sideO o) (setO o) (by rw [← hso]; exact hra) hb.1.1 hb.1.2 hb.2
    obtain ⟨va, rfl, honea⟩ := hra.slR
    have hwr := refWrong_spec (sideO o) (m : Nat) va honea
    rw [h] at hwr
    clear hra hso hX wo hL h
    generalize sideO o = s at *
    generalize setO o = C at *
    refine Fn.mk2 Tryd.func33 rfl rfl fun w0 F => ?_
    (refine G.seq ?_; refine G.region ?_; refine GO.box rfl rfl rfl fun b2 => ?_; refine GO.assign rfl rfl ?_; refine GO.assign rfl rfl ?_; refine GO.nil ?_; refine kthen_n ?_; refine G.seq ?_; refine G.region ?_; refine GO.loadW rfl rfl rfl Tk.h rfl ?_; refine GO.move rfl rfl ?_)
    refine GO.call3 rfl rfl rfl rfl (hwr) Tks.n ?_
    rintro _ _ ⟨rfl, rfl⟩
    (refine GO.assign rfl rfl ?_; refine GO.nil ?_; refine kthen_n ?_; refine G.seq ?_; refine G.seq ?_; refine G.region ?_; refine GO.move rfl rfl ?_; refine GO.neF rfl rfl rfl rfl ?_; refine GO.nil ?_; refine kthen_n ?_; refine G.condF rfl rfl ?_; refine G.skip ?_; refine kthen_n ?_; refine G.seq ?_; refine G.region ?_; refine GO.loadW rfl rfl rfl Tk.h rfl ?_)
    refine GO.call1 rfl rfl (hnx) (Tks.c (Tk.t Tk.h) Tks.n) ?_
    rintro v17 _ ⟨Z, hZ, rfl⟩
    have hrc := reached_spec Z v17 s C X hZ hb.1.1 hb.1.2 hb.2 hcl m hm
    (refine GO.move rfl rfl ?_)
    refine GO.call2 rfl rfl rfl (hrc) (Tks.c Tk.h Tks.n) ?_
    rintro _ _ ⟨bM, rfl, rfl⟩
    (refine GO.assign rfl rfl ?_; refine GO.nil ?_; refine kthen_n ?_; refine G.seq ?_; refine G.region ?_; refine GO.assign rfl rfl ?_; refine GO.nil ?_; refine kthen_n ?_; refine G.seq ?_; refine G.seq ?_; refine G.region ?_; refine GO.assign rfl rfl ?_; refine GO.nil ?_; refine kthen_n ?_; refine G.block ?_)
    refine G.ownNil (T := 3) (sz := 1) ?_
    have ho0 : onL (X m) 0 = [] := by unfold onL; rfl
    have hs2 := hb.1.2
    refine G.loop2 (fun (j : Nat) (v : Value) => [(2, ptrV b2), (7, .slice (some ⟨bM, 0, none⟩) s s), (8, v), (9, i64 (j : Nat))])
      (fun j v => own 3 1 (onL (X m) j).length v (natsV (onL (X m) j)) :: onR bM (X m) s :: pt b2 (row [i64 (s : Nat), va] 28) :: z :: F) (fun j _ => j ≤ s) (fun j _ => s - j) 0 (.slice none 0 0) (by omega) ?_ ?_ ?_
    · (refine SubE.c rfl rfl ?_; refine SubE.c rfl rfl ?_; refine SubE.c rfl rfl ?_; refine SubE.c rfl rfl ?_; exact SubE.n)
    · rw [ho0, nats_nil]
      ((refine Sb.c Tk.h ?_; refine Sb.c Tk.h ?_; refine Sb.c (Tk.t (Tk.t Tk.h)) ?_; refine Sb.c (Tk.t Tk.h) ?_); (refine Sb.s ?_; exact Sb.r))
    · rintro j v2 hj
      (refine G.seq ?_; refine G.seq ?_; refine G.region ?_; refine GO.move rfl rfl ?_; refine GO.fieldAddr rfl rfl ?_; refine GO.load1 rfl rfl rfl (Tk.t (Tk.t Tk.h)) rfl ?_; refine GO.lti rfl rfl rfl ?_; refine GO.nil ?_; refine kthen_n ?_)
      refine G.condD rfl (fun hlt => ?_) (fun hge => ?_)
      · have hjs : j < s := by omega
        have hll := onL_len (X m) j
        cases hA : X m j with
        | true =>
          have hy := onL_t hA
          (refine G.skip ?_; refine kthen_n ?_; refine G.seq ?_; refine G.block ?_; refine G.seq ?_; refine G.region ?_; refine GO.move rfl rfl ?_; refine GO.move rfl rfl ?_; refine GO.idxS rfl rfl rfl ⟨rfl, by omega⟩ ?_; refine GO.load1 rfl rfl rfl (Tk.t Tk.h) (rowV_get1 (by assumption)) ?_; refine GO.nil ?_; refine kthen_n ?_; refine G.condT rfl (by assumption) ?_; refine G.region ?_; refine GO.move rfl rfl ?_; refine GO.move rfl rfl ?_)
          refine GO.buildSlice1 rfl rfl (by simp; rfl) rfl ⟨by omega, by omega⟩ fun bs => ?_
          refine GO.appendOwn (m := 1) (news := [i64 (j : Nat)]) rfl rfl rfl (Tk.t Tk.h) Tk.h rfl (by simp [Value.oneCell']) ⟨by decide, rfl⟩ Nat.one_pos (by unfold maxLen; omega) (by omega) fun v4 => ?_
          rw [natsV_one, show (onL (X m) j).length + 1 = (onL (X m) j ++ [j]).length by rw [List.length_append]; rfl, ← hy]
          (refine GO.assign rfl rfl ?_; refine GO.nil ?_; refine kblock_n ?_; refine kthen_n ?_; refine G.region ?_; refine GO.move rfl rfl ?_; refine GO.addi rfl rfl rfl (by omega) ?_; refine GO.assign rfl rfl ?_; refine GO.nil ?_; refine kthen_n ?_)
          refine ⟨j + 1, v4, by omega, by omega, ?_, ?_⟩
          · (refine SubE.c rfl rfl ?_; refine SubE.c rfl rfl ?_; refine SubE.c rfl rfl ?_; refine SubE.c rfl rfl ?_; exact SubE.n)
          · ((refine Sb.c Tk.h ?_; refine Sb.c (Tk.t Tk.h) ?_; refine Sb.c (Tk.t Tk.h) ?_; refine Sb.c (Tk.t Tk.h) ?_); (refine Sb.s ?_; exact Sb.r))
        | false =>
          have hy := onL_f hA
          (refine G.skip ?_; refine kthen_n ?_; refine G.seq ?_; refine G.block ?_; refine G.seq ?_; refine G.region ?_; refine GO.move rfl rfl ?_; refine GO.move rfl rfl ?_; refine GO.idxS rfl rfl rfl ⟨rfl, by omega⟩ ?_; refine GO.load1 rfl rfl rfl (Tk.t Tk.h) (rowV_get1 (by assumption)) ?_; refine GO.nil ?_; refine kthen_n ?_; refine G.condF rfl (by assumption) ?_; refine G.skip ?_; refine kblock_n ?_; refine kthen_n ?_; refine G.region ?_; refine GO.move rfl rfl ?_; refine GO.addi rfl rfl rfl (by omega) ?_; refine GO.assign rfl rfl ?_; refine GO.nil ?_; refine kthen_n ?_)
          refine ⟨j + 1, v2, by omega, by omega, ?_, ?_⟩
          · (refine SubE.c rfl rfl ?_; refine SubE.c rfl rfl ?_; refine SubE.c rfl rfl ?_; refine SubE.c rfl rfl ?_; exact SubE.n)
          · rw [hy]
            ((refine Sb.c Tk.h ?_; refine Sb.c Tk.h ?_; refine Sb.c Tk.h ?_; refine Sb.c Tk.h ?_); (exact Sb.r))
      · obtain rfl : j = s := by omega
        (refine G.exit ?_; refine kthen_x ?_; refine kthen_x ?_; refine kblock_x ?_; refine kthen_n ?_; refine G.seq ?_; refine G.region ?_; refine GO.move rfl rfl ?_; refine GO.assign rfl rfl ?_; refine GO.assign rfl rfl ?_; refine GO.nil ?_; refine kthen_n ?_; refine G.ret ?_)
        refine KF2.r2 rfl (RV.t rfl) (RV.t rfl) ⟨_, rfl, rfl⟩ (ImpS.sb ?_)
        ((refine Sb.c Tk.h ?_; refine Sb.c (Tk.t (Tk.t Tk.h)) ?_); (refine Sb.s ?_; refine Sb.s ?_; exact Sb.r))
  · have hL : frL o X i = [] := if_neg h
    rw [hL, nats_nil]
    obtain ⟨va, rfl, honea⟩ := hra.slR
    have hwr := refWrong_spec (sideO o) i va honea
    have d0 : decide (wrR (sideO o) i ≠ 0) = true := decide_eq_true h
    generalize wrR (sideO o) i = e at hwr d0 ⊢
    refine Fn.mk2 Tryd.func33 rfl rfl fun w0 F => ?_
    (refine G.seq ?_; refine G.region ?_; refine GO.box rfl rfl rfl fun b2 => ?_; refine GO.assign rfl rfl ?_; refine GO.assign rfl rfl ?_; refine GO.nil ?_; refine kthen_n ?_; refine G.seq ?_; refine G.region ?_; refine GO.loadW rfl rfl rfl Tk.h rfl ?_; refine GO.move rfl rfl ?_)
    refine GO.call3 rfl rfl rfl rfl (hwr) Tks.n ?_
    rintro _ _ ⟨rfl, rfl⟩
    (refine GO.assign rfl rfl ?_; refine GO.nil ?_; refine kthen_n ?_; refine G.seq ?_; refine G.seq ?_; refine G.region ?_; refine GO.move rfl rfl ?_; refine GO.nei rfl rfl rfl ?_; refine GO.nil ?_; refine kthen_n ?_; refine G.condT rfl (by assumption) ?_; refine G.seq ?_; refine G.region ?_; refine GO.move rfl rfl ?_; refine GO.assign rfl rfl ?_; refine GO.assign rfl rfl ?_; refine GO.nil ?_; refine kthen_n ?_; refine G.ret ?_; refine kthen_r ?_)
    refine KF2.r2 rfl (RV.t rfl) (RV.t rfl) ⟨_, rfl, rfl⟩ (ImpS.trans (ImpS.sb (M := z :: F) (by ((refine Sb.c (Tk.t Tk.h) ?_); (refine Sb.s ?_; exact Sb.r)))) ImpS.nilOwn)
set_option maxHeartbeats 8000000 in
theorem pFromO (q : HP) (hq : Tab q) (p : HP) (v : Value) (o : OptM) (ho : MatO p v o) (wo : WfM o) (X : Nat → Nat → Bool) (hX : CloR o X) (i : Int) :
    Fn Tryd.prog 32 #[v, i64 i] [p, q] (fun r Q => ∃ v', r = .tuple #[v', i64 (wrR (sideO o) i)] ∧ Q = [own 3 1 (frL o X i).length v' (natsV (frL o X i)), p, q]) := by
  by_cases h : wrR (sideO o) i = 0
  · have hL : frL o X i = onL (X i.toNat) (sideO o) := if_pos h
    obtain ⟨hs, m, rfl, hm⟩ := wrR_zero h
    rw [hL, h, Int.toNat_natCast]
    obtain ⟨b, rfl, rfl⟩ := mat_some ho hs
    exact from_spec q hq (sideO o) b (setO o) X (hX _ _ (some_ofS hs)) m hm
  · have hL : frL o X i = [] := if_neg h
    rw [hL, nats_nil]
    have hsd := ho.has.side
    obtain ⟨c, rfl⟩ := ho.has.ptr
    by_cases h0 : sideO o = 0
    · rw [show wrR (sideO o) i = 1 from if_pos h0]
      have d0 : decide (((sideO o : Nat) : Int) = 0) = true := decide_eq_true (by omega)
      refine Fn.mk2 Tryd.func32 rfl rfl fun w0 F => ?_
      (refine G.seq ?_; refine G.region ?_; refine GO.assign rfl rfl ?_; refine GO.assign rfl rfl ?_; refine GO.nil ?_; refine kthen_n ?_)
      refine G.scope ?_
      (refine G.seq ?_; refine G.seq ?_; refine G.region ?_; refine GO.move rfl rfl ?_)
      refine GO.call1 rfl rfl (hsd) (Tks.c Tk.h Tks.n) ?_
      rintro _ _ ⟨rfl, rfl⟩
      (refine GO.eqi rfl rfl rfl ?_; refine GO.nil ?_; refine kthen_n ?_; refine G.condT rfl (by assumption) ?_; refine G.seq ?_; refine G.region ?_; refine GO.assign rfl rfl ?_; refine GO.assign rfl rfl ?_; refine GO.nil ?_; refine kthen_n ?_; refine G.ret ?_; refine kthen_r ?_)
      refine kscope_r (KF2.r2 rfl (RV.t rfl) (RV.t rfl) ⟨_, rfl, rfl⟩ (ImpS.trans (ImpS.sb (M := p :: q :: F) (by ((refine Sb.c Tk.h ?_; refine Sb.c Tk.h ?_); (exact Sb.r)))) ImpS.nilOwn))
    have d0 : decide (((sideO o : Nat) : Int) = 0) = false := decide_eq_false (by omega)
    have hno : ¬ (0 ≤ i ∧ i < sideO o) := fun h2 => h (by unfold wrR; rw [if_neg h0, if_pos h2])
    rw [show wrR (sideO o) i = 2 by unfold wrR; rw [if_neg h0, if_neg hno]]
    by_cases h1 : i < 0
    · have d1 : decide (i < 0) = true := decide_eq_true h1
      refine Fn.mk2 Tryd.func32 rfl rfl fun w0 F => ?_
      (refine G.seq ?_; refine G.region ?_; refine GO.assign rfl rfl ?_; refine GO.assign rfl rfl ?_; refine GO.nil ?_; refine kthen_n ?_)
      refine G.scope ?_
      (refine G.seq ?_; refine G.seq ?_; refine G.region ?_; refine GO.move rfl rfl ?_)
      refine GO.call1 rfl rfl (hsd) (Tks.c Tk.h Tks.n) ?_
      rintro _ _ ⟨rfl, rfl⟩
      (refine GO.eqi rfl rfl rfl ?_; refine GO.nil ?_; refine kthen_n ?_; refine G.condF rfl (by assumption) ?_; refine G.skip ?_; refine kthen_n ?_; refine G.seq ?_; refine G.seq ?_; refine G.region ?_; refine GO.move rfl rfl ?_; refine GO.lti rfl rfl rfl ?_; refine GO.move rfl rfl ?_; refine GO.gF rfl rfl rfl (by assumption) ?_; refine GO.gF rfl rfl rfl (by assumption) ?_; refine GO.gF rfl rfl rfl (by assumption) ?_; refine GO.gF rfl rfl rfl (by assumption) ?_; refine GO.pickTa rfl rfl (by assumption) rfl ?_; refine GO.nil ?_; refine kthen_n ?_; refine G.condT rfl rfl ?_; refine G.seq ?_; refine G.region ?_; refine GO.assign rfl rfl ?_; refine GO.assign rfl rfl ?_; refine GO.nil ?_; refine kthen_n ?_; refine G.ret ?_; refine kthen_r ?_)
      refine kscope_r (KF2.r2 rfl (RV.t rfl) (RV.t rfl) ⟨_, rfl, rfl⟩ (ImpS.trans (ImpS.sb (M := p :: q :: F) (by ((refine Sb.c Tk.h ?_; refine Sb.c Tk.h ?_); (exact Sb.r)))) ImpS.nilOwn))
    have d1 : decide (i < 0) = false := decide_eq_false h1
    have d2 : decide (((sideO o : Nat) : Int) ≤ i) = true := decide_eq_true (by omega)
    refine Fn.mk2 Tryd.func32 rfl rfl fun w0 F => ?_
    (refine G.seq ?_; refine G.region ?_; refine GO.assign rfl rfl ?_; refine GO.assign rfl rfl ?_; refine GO.nil ?_; refine kthen_n ?_)
    refine G.scope ?_
    (refine G.seq ?_; refine G.seq ?_; refine G.region ?_; refine GO.move rfl rfl ?_)
    refine GO.call1 rfl rfl (hsd) (Tks.c Tk.h Tks.n) ?_
    rintro _ _ ⟨rfl, rfl⟩
    (refine GO.eqi rfl rfl rfl ?_; refine GO.nil ?_; refine kthen_n ?_; refine G.condF rfl (by assumption) ?_; refine G.skip ?_; refine kthen_n ?_; refine G.seq ?_; refine G.seq ?_; refine G.region ?_; refine GO.move rfl rfl ?_; refine GO.lti rfl rfl rfl ?_; refine GO.move rfl rfl ?_; refine GO.gT rfl rfl (by assumption) ?_; refine GO.move rfl rfl ?_; refine GO.gT rfl rfl (by assumption) ?_; refine GO.move rfl rfl ?_; refine GO.gT rfl rfl (by assumption) ?_)
    refine GO.call1 rfl rfl (hsd) (Tks.c Tk.h Tks.n) ?_
    rintro _ _ ⟨rfl, rfl⟩
    (refine GO.gT rfl rfl (by assumption) ?_; refine GO.gei rfl rfl rfl ?_; refine GO.pickFa rfl rfl (by assumption) rfl ?_; refine GO.nil ?_; refine kthen_n ?_; refine G.condT rfl (by assumption) ?_; refine G.seq ?_; refine G.region ?_; refine GO.assign rfl rfl ?_; refine GO.assign rfl rfl ?_; refine GO.nil ?_; refine kthen_n ?_; refine G.ret ?_; refine kthen_r ?_)
    refine kscope_r (KF2.r2 rfl (RV.t rfl) (RV.t rfl) ⟨_, rfl, rfl⟩ (ImpS.trans (ImpS.sb (M := p :: q :: F) (by ((refine Sb.c Tk.h ?_; refine Sb.c Tk.h ?_); (exact Sb.r)))) ImpS.nilOwn))
def cloE (o : OptM) : Int := if sideO o = 0 then 1 else 0
set_option maxHeartbeats 8000000 in
theorem pCloO (q : HP) (hq : Tab q) (p : HP) (v : Value) (o : OptM) (ho : MatO p v o) (wo : WfM o) (X : Nat → Nat → Bool) (hX : CloR o X) :
    Fn Tryd.prog 18 #[v] [p, q] (fun r Q => ∃ v' p', r = .tuple #[v', i64 (cloE o)] ∧ MatO p' v' (cloO o X) ∧ Q = [p', p, q]) := by
  by_cases h0 : sideO o = 0
  · rw [show cloE o = 1 from if_pos h0]
    have hsd := ho.has.side
    obtain ⟨c, rfl⟩ := ho.has.ptr
    have hon := wo.none_of h0
    have d0 : decide (((sideO o : Nat) : Int) = 0) = true := decide_eq_true (by omega)
    refine Fn.mk2 Tryd.func18 rfl rfl fun w0 F => ?_
    (refine G.seq ?_; refine G.region ?_; refine GO.assign rfl rfl ?_; refine GO.assign rfl rfl ?_; refine GO.nil ?_; refine kthen_n ?_; refine G.seq ?_; refine G.seq ?_; refine G.region ?_; refine GO.move rfl rfl ?_)
    refine GO.call1 rfl rfl (hsd) (Tks.c Tk.h Tks.n) ?_
    rintro _ _ ⟨rfl, rfl⟩
    (refine GO.eqi rfl rfl rfl ?_; refine GO.nil ?_; refine kthen_n ?_; refine G.condT rfl (by assumption) ?_; refine G.seq ?_; refine G.region ?_; refine GO.assign rfl rfl ?_; refine GO.assign rfl rfl ?_; refine GO.nil ?_; refine kthen_n ?_; refine G.ret ?_; refine kthen_r ?_)
    refine KF2.r2 rfl (RV.t rfl) (RV.t rfl) ⟨_, star [], rfl, by rw [hon]; exact MatO.nil _, rfl⟩ (ImpS.flat (k := []) (M := p :: q :: F) (ImpS.sb ?_))
    ((refine Sb.c Tk.h ?_; refine Sb.c Tk.h ?_); (exact Sb.r))
  · rw [show cloE o = 0 from if_neg h0]
    have hso := some_ofS h0
    obtain ⟨b, rfl, rfl⟩ := mat_some ho h0
    refine (clo_spec q hq (sideO o) b (setO o)).mono fun r Q => ?_
    rintro ⟨b', X2, rfl, hX2, rfl⟩
    have := hX2.uniq (hX _ _ hso)
    subst this
    refine ⟨_, _, rfl, ?_, rfl⟩
    have e : cloO o X2 = some (sideO o, X2) := by rw [hso]; rfl
    rw [e]
    exact MatO.one _ _ _
theorem rCloO (z : HP) (ra : Value) (o : OptM) (hra : RefO z ra o) (wo : WfM o) (X : Nat → Nat → Bool) (hX : CloR o X) :
    Fn Tryd.prog 34 #[ra] [z] (fun r Q => ∃ rv p, r = .tuple #[rv, i64 (cloE o)] ∧ RefO p rv (cloO o X) ∧ Q = [p, z]) := by
  by_cases h0 : sideO o = 0
  · rw [show cloE o = 1 from if_pos h0]
    have hon := wo.none_of h0
    subst hon
    exact rClosure_none z ra hra
  · rw [show cloE o = 0 from if_neg h0]
    have hso := some_ofS h0
    have hb := wo _ _ hso
    have e : cloO o X = some (sideO o, X) := by rw [hso]; rfl
    rw [e]
    exact rClosure_some z ra (sideO o) (setO o) X (by rw [← hso]; exact hra) hb.1.1 hb.1.2 hb.2 (hX _ _ hso)
theorem WfM.clo {o : OptM} (wo : WfM o) {X : Nat → Nat → Bool} (hX : CloR o X) : WfM (cloO o X) := by
  match o, wo, hX with
  | none, _, _ => exact WfM.no
  | some (s, C), wo, hX =>
    intro t Y e
    injection e with e
    injection e with e1 e2
    subst e1 e2
    exact ⟨(wo s C rfl).1, (hX s C rfl).in (wo s C rfl).2⟩
theorem cloR_ex (o : OptM) : ∃ X, CloR o X := by
  match o with
  | none => exact ⟨noX, fun s C e => by cases e⟩
  | some (s, C) =>
    obtain ⟨X, hX⟩ := clo_ex2 C
    refine ⟨X, fun s' C' e => ?_⟩
    injection e with e
    injection e with _ e2
    rw [← e2]; exact hX
end Go.Proofs.YtpfcgfgkmgnaaaaDoor
namespace Go.Proofs.YtpfcgfgkmgnaaaaDoor
open Go
theorem WfM.sideH {o : OptM} (h : WfM o) : sideO o ≤ 1024 := by
  match o, h with
  | none, _ => exact Nat.zero_le _
  | some (s, X), h => exact (h _ _ rfl).1.2
attribute [local irreducible] G GO GR GT Fn FnV pt init exs pur sat own ImpS mat posL allV orL restX cellsX cellsV natsV rowX lines NextR onL frL
set_option maxHeartbeats 16000000 in
set_option maxRecDepth 40000 in
theorem hclosure_law (q : HP) (hq : Tab q) (v1 : Value) (g1 : Int × List Cl) (h1 : GridR q v1 g1) (i : Int) :
    Fn Tryd.prog 6 #[v1, i64 i] [q] (fun r Q => r = .bool true ∧ Q = [q]) := by
  obtain ⟨u1, rfl, hu1⟩ := h1
  obtain ⟨s1, l1⟩ := g1
  dsimp only at hu1 ⊢
  obtain ⟨a1, c1, rfl, hu1b⟩ := id hu1
  refine Fn.mk2 Tryd.func6 rfl rfl fun w0 F => ?_
  by_cases f1 : 300 < l1.length
  · (refine G.seq ?_; refine G.region ?_; refine GO.box rfl rfl rfl fun b2 => ?_; refine GO.assign rfl rfl ?_; refine GO.nil ?_; refine kthen_n ?_; refine G.seq ?_; refine G.seq ?_; refine G.region ?_; refine GO.fieldAddr rfl rfl ?_; refine GO.load1 rfl rfl rfl Tk.h rfl ?_; refine GO.lenS rfl rfl ?_; refine GO.gti rfl rfl rfl ?_; refine GO.nil ?_; refine kthen_n ?_)
    rw [show decide ((300 : Int) < (l1.length : Int)) = true from decide_eq_true (by omega)]
    (refine G.condT rfl rfl ?_; refine G.seq ?_; refine G.region ?_)
    refine GO.call0 rfl (hawake_spec q) (Tks.c (Tk.t Tk.h) Tks.n) ?_
    rintro _ _ ⟨rfl, rfl⟩
    (refine GO.assign rfl rfl ?_; refine GO.nil ?_; refine kthen_n ?_; refine G.ret ?_; refine kthen_r ?_)
    refine KF2.r1 rfl (RV.t rfl) ⟨rfl, rfl⟩ (ImpS.sb ?_)
    ((refine Sb.c Tk.h ?_); (refine Sb.s ?_; exact Sb.r))
  (refine G.seq ?_; refine G.region ?_; refine GO.box rfl rfl rfl fun b2 => ?_; refine GO.assign rfl rfl ?_; refine GO.nil ?_; refine kthen_n ?_; refine G.seq ?_; refine G.seq ?_; refine G.region ?_; refine GO.fieldAddr rfl rfl ?_; refine GO.load1 rfl rfl rfl Tk.h rfl ?_; refine GO.lenS rfl rfl ?_; refine GO.gti rfl rfl rfl ?_; refine GO.nil ?_; refine kthen_n ?_)
  rw [show decide ((300 : Int) < (l1.length : Int)) = false from decide_eq_false (by omega)]
  (refine G.condF rfl rfl ?_; refine G.skip ?_; refine kthen_n ?_; refine G.seq ?_; refine G.region ?_; refine GO.loadW rfl rfl rfl Tk.h rfl ?_)
  refine GO.call1 rfl rfl (made_specG s1 q _ l1 hu1 (by omega)) (Tks.c (Tk.t Tk.h) Tks.n) ?_
  rintro _ _ ⟨m1, x1, p1, z1, rfl, hx1, hp1, hz1, rfl⟩
  have w1 := gridO_wf s1 l1
  generalize gridO s1 l1 = o1 at hp1 hz1 w1 ⊢
  obtain ⟨X, hX⟩ := cloR_ex o1
  (refine GO.move rfl rfl ?_; refine GO.extract rfl rfl rfl ?_; refine GO.extract rfl rfl rfl ?_; refine GO.alloc rfl fun b6 => ?_; refine GO.assign rfl rfl ?_; refine GO.storeW rfl rfl Tk.h ⟨rfl, rfl⟩ (by simp [Value.oneCell']; assumption) ?_; refine GO.nil ?_; refine kthen_n ?_; refine G.seq ?_; refine G.region ?_; refine GO.move rfl rfl ?_; refine GO.move rfl rfl ?_)
  refine GO.call2 rfl rfl rfl (pFromO q hq p1 m1 o1 hp1 w1 X hX i) (Tks.c (Tk.t Tk.h) (Tks.c (Tk.t (Tk.t Tk.h)) Tks.n)) ?_
  rintro _ _ ⟨v7, rfl, rfl⟩
  (refine GO.move rfl rfl ?_; refine GO.extract rfl rfl rfl ?_; refine GO.extract rfl rfl rfl ?_; refine GO.assign rfl rfl ?_; refine GO.assign rfl rfl ?_; refine GO.nil ?_; refine kthen_n ?_; refine G.seq ?_; refine G.region ?_; refine GO.loadW rfl rfl rfl (Tk.t (Tk.t (Tk.t Tk.h))) rfl ?_; refine GO.move rfl rfl ?_)
  refine GO.call2 rfl rfl rfl (rFromO z1 _ o1 hz1 w1 X hX i) (Tks.c (Tk.t (Tk.t (Tk.t (Tk.t Tk.h)))) Tks.n) ?_
  rintro _ _ ⟨v9, rfl, rfl⟩
  have hll : (frL o1 X i).length ≤ 1024 := by
    unfold frL
    split
    · have := onL_len (X i.toNat) (sideO o1)
      have := w1.sideH
      omega
    · exact Nat.zero_le _
  generalize hL : frL o1 X i = L at hll ⊢
  generalize wrR (sideO o1) i = e
  have de : decide (e ≠ e) = false := decide_eq_false (fun h => h rfl)
  have dl : decide (((L.length : Nat) : Int) ≠ ((L.length : Nat) : Int)) = false := decide_eq_false (fun h => h rfl)
  refine GO.keep (H' := own 3 1 L.length v7 (natsV L) :: own 3 1 L.length v9 (natsV L) :: p1 :: z1 :: q :: pt b6 (row [i64 (sideO o1 : Nat), x1] 28) :: F) (ImpS.sb (by ((refine Sb.c (Tk.t (Tk.t Tk.h)) ?_; refine Sb.c Tk.h ?_; refine Sb.c (Tk.t Tk.h) ?_; refine Sb.c Tk.h ?_; refine Sb.c Tk.h ?_; refine Sb.c Tk.h ?_); (refine Sb.s ?_; exact Sb.r)))) ?_
  refine GO.ownRd Tk.h fun y1 hy1 => ?_
  refine GO.ownRd (Tk.t Tk.h) fun y2 hy2 => ?_
  obtain ⟨a7, c7, rfl, _, hr7⟩ := hy1
  obtain ⟨a9, c9, rfl, _, hr9⟩ := hy2
  (refine GO.move rfl rfl ?_; refine GO.extract rfl rfl rfl ?_; refine GO.extract rfl rfl rfl ?_; refine GO.assign rfl rfl ?_; refine GO.assign rfl rfl ?_; refine GO.nil ?_; refine kthen_n ?_; refine G.seq ?_; refine G.seq ?_; refine G.region ?_; refine GO.move rfl rfl ?_; refine GO.move rfl rfl ?_; refine GO.neF rfl rfl rfl rfl ?_; refine GO.move rfl rfl ?_; refine GO.gT rfl rfl rfl ?_; refine GO.move rfl rfl ?_; refine GO.gT rfl rfl rfl ?_; refine GO.lenS rfl rfl ?_; refine GO.gT rfl rfl rfl ?_; refine GO.move rfl rfl ?_; refine GO.gT rfl rfl rfl ?_; refine GO.lenS rfl rfl ?_; refine GO.gT rfl rfl rfl ?_; refine GO.neF rfl rfl rfl rfl ?_; refine GO.pickF rfl rfl rfl ?_; refine GO.nil ?_; refine kthen_n ?_; refine G.condF rfl rfl ?_; refine G.skip ?_; refine kthen_n ?_; refine G.seq ?_; refine G.seq ?_; refine G.region ?_; refine GO.assign rfl rfl ?_; refine GO.nil ?_; refine kthen_n ?_; refine G.block ?_)
  refine G.loop (fun k : Nat => [(5, m1), (6, ptrV b6), (7, .slice a7 L.length c7), (9, .slice a9 L.length c9), (11, i64 (k : Nat))])
    (fun _ => y1 :: y2 :: p1 :: z1 :: q :: pt b6 (row [i64 (sideO o1 : Nat), x1] 28) :: F) (fun k => k ≤ L.length) (fun k => L.length - k) 0 (by omega) ?_ ?_ ?_
  · (refine SubE.c rfl rfl ?_; refine SubE.c rfl rfl ?_; refine SubE.c rfl rfl ?_; refine SubE.c rfl rfl ?_; refine SubE.c rfl rfl ?_; exact SubE.n)
  · ((refine Sb.c (Tk.t Tk.h) ?_; refine Sb.c Tk.h ?_; refine Sb.c Tk.h ?_; refine Sb.c Tk.h ?_; refine Sb.c Tk.h ?_; refine Sb.c Tk.h ?_); (exact Sb.r))
  · rintro k hk
    (refine G.seq ?_; refine G.seq ?_; refine G.region ?_; refine GO.move rfl rfl ?_; refine GO.move rfl rfl ?_; refine GO.lenS rfl rfl ?_; refine GO.lti rfl rfl rfl ?_; refine GO.nil ?_; refine kthen_n ?_)
    refine G.condD rfl (fun hlt => ?_) (fun hge => ?_)
    · have hkl : k < L.length := by omega
      obtain ⟨j, hj⟩ : ∃ j, L[k]? = some j := ⟨_, List.getElem?_eq_getElem hkl⟩
      obtain ⟨b7', o7, rfl, hs7⟩ := hr7 (by omega)
      obtain ⟨b9', o9, rfl, hs9⟩ := hr9 (by omega)
      have r7 : Rd y1 ⟨b7', o7 + k * 1, none⟩ (i64 (j : Nat)) := by rw [Nat.mul_one]; exact hs7 _ _ (natsV_get hj)
      have r9 : Rd y2 ⟨b9', o9 + k * 1, none⟩ (i64 (j : Nat)) := by rw [Nat.mul_one]; exact hs9 _ _ (natsV_get hj)
      have dj : decide (((j : Nat) : Int) ≠ ((j : Nat) : Int)) = false := decide_eq_false (fun h => h rfl)
      (refine G.skip ?_; refine kthen_n ?_; refine G.seq ?_; refine G.block ?_; refine G.seq ?_)
      refine G.draw 9 (by kernel_rfl) ?_
      ((apply GQ.step; focus (intro Z; refine GO.move rfl rfl ?_; exact KQ.z)); (apply GQ.step; focus (intro Z; refine GO.move rfl rfl ?_; exact KQ.z)); (apply GQ.step; focus (intro Z; refine GO.idxS rfl rfl rfl ⟨rfl, by omega⟩ ?_; exact KQ.z)); (apply GQ.step; focus (intro Z; refine GO.loadQ rfl rfl rfl Tk.h (by assumption) ?_; exact KQ.z)); (apply GQ.step; focus (intro Z; refine GO.move rfl rfl ?_; exact KQ.z)); (apply GQ.step; focus (intro Z; refine GO.move rfl rfl ?_; exact KQ.z)); (apply GQ.step; focus (intro Z; refine GO.idxS rfl rfl rfl ⟨rfl, by omega⟩ ?_; exact KQ.z)); (apply GQ.step; focus (intro Z; refine GO.loadQ rfl rfl rfl (Tk.t Tk.h) (by assumption) ?_; exact KQ.z)); (apply GQ.step; focus (intro Z; refine GO.neF rfl rfl rfl rfl ?_; exact KQ.z)); refine GQ.nil ?_)
      (refine GO.nil ?_; refine kthen_n ?_; refine G.condF rfl rfl ?_; refine G.skip ?_; refine kblock_n ?_; refine kthen_n ?_; refine G.region ?_; refine GO.move rfl rfl ?_; refine GO.addi rfl rfl rfl (by omega) ?_; refine GO.assign rfl rfl ?_; refine GO.nil ?_; refine kthen_n ?_)
      refine ⟨k + 1, by omega, by omega, ?_, ?_⟩
      · (refine SubE.c rfl rfl ?_; refine SubE.c rfl rfl ?_; refine SubE.c rfl rfl ?_; refine SubE.c rfl rfl ?_; refine SubE.c rfl rfl ?_; exact SubE.n)
      · ((refine Sb.c Tk.h ?_; refine Sb.c Tk.h ?_; refine Sb.c Tk.h ?_; refine Sb.c Tk.h ?_; refine Sb.c Tk.h ?_; refine Sb.c Tk.h ?_); (exact Sb.r))
    · (refine G.exit ?_; refine kthen_x ?_; refine kthen_x ?_; refine kblock_x ?_; refine kthen_n ?_; refine G.seq ?_; refine G.region ?_; refine GO.move rfl rfl ?_)
      refine GO.call1 rfl rfl (pCloO q hq p1 m1 o1 hp1 w1 X hX) (Tks.c (Tk.t (Tk.t Tk.h)) (Tks.c (Tk.t (Tk.t (Tk.t Tk.h))) Tks.n)) ?_
      rintro _ _ ⟨m3, p3, rfl, hp3, rfl⟩
      (refine GO.move rfl rfl ?_; refine GO.extract rfl rfl rfl ?_; refine GO.extract rfl rfl rfl ?_; refine GO.assign rfl rfl ?_; refine GO.assign rfl rfl ?_; refine GO.nil ?_; refine kthen_n ?_; refine G.seq ?_; refine G.region ?_; refine GO.loadW rfl rfl rfl (Tk.t (Tk.t (Tk.t (Tk.t (Tk.t (Tk.t Tk.h)))))) rfl ?_)
      refine GO.call1 rfl rfl (rCloO z1 _ o1 hz1 w1 X hX) (Tks.c (Tk.t (Tk.t (Tk.t (Tk.t (Tk.t Tk.h))))) Tks.n) ?_
      rintro _ _ ⟨_, z3, rfl, hz3, rfl⟩
      have w3 := w1.clo hX
      generalize cloO o1 X = o3 at hp3 hz3 w3
      generalize cloE o1 = e3
      have d3 : decide (e3 = e3) = true := decide_eq_true rfl
      obtain ⟨x3, rfl, hx3⟩ := hz3.slR
      (refine GO.move rfl rfl ?_; refine GO.extract rfl rfl rfl ?_; refine GO.extract rfl rfl rfl ?_; refine GO.alloc rfl fun b13 => ?_; refine GO.storeW rfl rfl Tk.h ⟨rfl, rfl⟩ (by simp [Value.oneCell']; assumption) ?_; refine GO.assign rfl rfl ?_; refine GO.nil ?_; refine kthen_n ?_; refine G.seq ?_; refine G.region ?_; refine GO.move rfl rfl ?_; refine GO.move rfl rfl ?_; refine GO.eqT rfl rfl rfl rfl ?_; refine GO.move rfl rfl ?_; refine GO.gT rfl rfl rfl ?_; refine GO.move rfl rfl ?_; refine GO.gT rfl rfl rfl ?_; refine GO.loadW rfl rfl rfl Tk.h rfl ?_; refine GO.gT rfl rfl rfl ?_)
      refine GO.keep (H' := p3 :: z3 :: q :: p1 :: z1 :: pt b6 (row [i64 (sideO o1 : Nat), x1] 28) :: F) (ImpS.sb (by ((refine Sb.c (Tk.t (Tk.t (Tk.t Tk.h))) ?_; refine Sb.c (Tk.t Tk.h) ?_; refine Sb.c (Tk.t (Tk.t (Tk.t Tk.h))) ?_; refine Sb.c (Tk.t (Tk.t Tk.h)) ?_; refine Sb.c (Tk.t Tk.h) ?_; refine Sb.c (Tk.t (Tk.t (Tk.t Tk.h))) ?_); (refine Sb.s ?_; refine Sb.s ?_; refine Sb.s ?_; exact Sb.r)))) ?_
      refine GO.call2 rfl rfl rfl (osame_spec p3 z3 q hq m3 _ o3 hp3.has hz3 w3.wf (cells_fit o3)) (Tks.c Tk.h (Tks.c Tk.h (Tks.c Tk.h Tks.n))) ?_
      rintro _ _ ⟨rfl, rfl⟩
      (refine GO.pickT rfl rfl rfl ?_; refine GO.move rfl rfl ?_; refine GO.gT rfl rfl rfl ?_; refine GO.move rfl rfl ?_; refine GO.gT rfl rfl rfl ?_; refine GO.loadW rfl rfl rfl (Tk.t (Tk.t (Tk.t (Tk.t (Tk.t Tk.h))))) rfl ?_; refine GO.gT rfl rfl rfl ?_)
      refine GO.call2 rfl rfl rfl (osame_spec p1 z1 q hq m1 _ o1 hp1.has hz1 w1.wf (cells_fit o1)) (Tks.c (Tk.t (Tk.t (Tk.t Tk.h))) (Tks.c (Tk.t (Tk.t (Tk.t Tk.h))) (Tks.c (Tk.t (Tk.t Tk.h)) Tks.n))) ?_
      rintro _ _ ⟨rfl, rfl⟩
      (refine GO.pickT rfl rfl rfl ?_; refine GO.move rfl rfl ?_; refine GO.gT rfl rfl rfl ?_)
      refine GO.call0 rfl (hawake_spec q) (Tks.c (Tk.t (Tk.t Tk.h)) Tks.n) ?_
      rintro _ _ ⟨rfl, rfl⟩
      (refine GO.pickT rfl rfl rfl ?_; refine GO.assign rfl rfl ?_; refine GO.nil ?_; refine kthen_n ?_; refine G.ret ?_)
      refine KF2.r1 rfl (RV.t rfl) ⟨rfl, rfl⟩ (ImpS.sb ?_)
      ((refine Sb.c Tk.h ?_); (refine Sb.s ?_; refine Sb.s ?_; refine Sb.s ?_; refine Sb.s ?_; refine Sb.s ?_; exact Sb.r))
end Go.Proofs.YtpfcgfgkmgnaaaaDoor
namespace Go.Proofs.YtpfcgfgkmgnaaaaDoor
open Go Go.ChangeShapes Go.WideShapes Go.ChangeAt Go.RowKit Go.Deep
theorem two_of {α : Type} {l : List α} (h : l.length = 2) : ∃ x y, l = [x, y] := by
  cases l with
  | nil => cases h
  | cons x l => cases l with
    | nil => cases h
    | cons y l => cases l with
      | nil => exact ⟨x, y, rfl⟩
      | cons z l => simp at h
theorem wf_le {n : Int} (h : (Lit.int .i64 n).wf = true) : ¬ 9223372036854775807 < n := by
  unfold Lit.wf at h
  rw [Bool.and_eq_true] at h
  have h2 := of_decide_eq_true h.2
  rw [show IntKind.i64.max = 9223372036854775807 by rfl] at h2
  omega
section
variable {H : Type} {enc : TypeId × Value → H} {w : World} {base : Nat} {spare : Nat → Bool} {held : Bool}
theorem open_cellsC {fuel : Nat} {v : Value} {x : DataW H × List MemPlace} (h : DataW.trod enc Tryd.prog w base spare held fuel 26 [v] = some x) :
    ∃ cs : List (Int × Int), SlC (init w) v cs := by
  obtain ⟨cs, ⟨a, cap, rfl, h1, h2⟩, _⟩ := open_cells h
  refine ⟨cs, a, cap, rfl, ?_, h2⟩
  rcases open_slice_fields Tryd.underlying26 Tryd.underlying63 (by kernel_rfl) (by kernel_rfl) h with ⟨hc, _⟩ | ⟨a', len, cap', m, D, Pl, hc, _, hl, _⟩
  · simp only [List.cons.injEq, and_true] at hc
    injection hc with _ e1 e2
    omega
  · simp only [List.cons.injEq, and_true] at hc
    injection hc with _ e1 e2
    omega
theorem open_grid {fuel : Nat} {cs : Array Value} {x : DataW H × List MemPlace} (h : DataW.trod enc Tryd.prog w base spare held fuel 32 (Value.agg cs).cells.toList = some x) :
    ∃ g : Int × List Cl, GridR (init w) (.agg cs) g := by
  have hC : Tryd.prog.cellsOf 32 = 2 := by kernel_rfl
  have hC3 : Tryd.prog.cellsOf 3 = 1 := by kernel_rfl
  have hCp : Tryd.prog.cellsOf 26 = 1 := by kernel_rfl
  obtain ⟨ys, n, _, rfl, hl, hyl, hf⟩ := DataW.trod_struct Tryd.underlying32 h
  have hcs : (Value.agg cs).cells = cs := rfl
  rw [hcs] at hl hf
  rw [hC] at hl
  obtain ⟨c0, c1, e⟩ := two_of hl
  obtain rfl : cs = [c0, c1].toArray := by rw [← e]
  have f0 := hf 0 { name := "Side", type := 3, offset := 0, embedded := false, tag := "", pkgPath := "", byteOffset := 0 } rfl
  have f1 := hf 1 { name := "Cells", type := 26, offset := 1, embedded := false, tag := "", pkgPath := "", byteOffset := 8 } rfl
  dsimp only at f0 f1
  rw [hC3] at f0
  rw [hCp] at f1
  have y0 : ∃ y, ys[0]? = some y := ⟨ys[0]'(by rw [hyl]; decide), List.getElem?_eq_getElem _⟩
  have y1 : ∃ y, ys[1]? = some y := ⟨ys[1]'(by rw [hyl]; decide), List.getElem?_eq_getElem _⟩
  obtain ⟨y0, g0⟩ := y0
  obtain ⟨y1, g1⟩ := y1
  rw [g0] at f0
  rw [g1] at f1
  obtain ⟨k, hk, _⟩ := DataW.trod_int Tryd.underlying3 f0
  have hk : c0 = i64 k := by simpa using hk
  subst hk
  obtain ⟨ps, h1⟩ := open_cellsC f1
  exact ⟨(k, ps), c1, rfl, h1⟩
end
end Go.Proofs.YtpfcgfgkmgnaaaaDoor
