/-
  The law ReachPlays, part 3.
-/
import Derived.Test.YtpfcgfgkmgnaaaaDoorM2
import Derived.Test.YtpfcgfgkmgnaaaaDoorM1
namespace Go.Proofs.YtpfcgfgkmgnaaaaDoor
open Go
def SubX (X Y : Nat → Nat → Bool) : Prop := ∀ r c, X r c = true → Y r c = true
def TrX (X : Nat → Nat → Bool) : Prop := ∀ r k c, X r k = true → X k c = true → X r c = true
/-- X is the closure of M. -/
def IsClo (M X : Nat → Nat → Bool) : Prop := SubX M X ∧ TrX X ∧ ∀ Y, SubX M Y → TrX Y → SubX X Y
theorem sub_anti {X Y : Nat → Nat → Bool} (h : SubX X Y) (k : SubX Y X) : X = Y := by
  funext r c
  rw [Bool.eq_iff_iff]
  exact ⟨h r c, k r c⟩
theorem IsClo.in {s : Nat} {M X : Nat → Nat → Bool} (h : IsClo M X) (hM : ∀ r c, M r c = true → r < s ∧ c < s) : ∀ r c, X r c = true → r < s ∧ c < s := fun r c hx => by
  have h2 := h.2.2 (fun r c => decide (r < s ∧ c < s)) (fun r c h => decide_eq_true (hM r c h)) (fun r k c h1 h2 => decide_eq_true ⟨(of_decide_eq_true h1).1, (of_decide_eq_true h2).2⟩) r c hx
  exact of_decide_eq_true h2
theorem IsClo.self {X : Nat → Nat → Bool} (h : TrX X) : IsClo X X := ⟨fun _ _ h => h, h, fun _ h _ => h⟩
theorem mul_sub {s : Nat} {X Y : Nat → Nat → Bool} (hs : s ≤ 1024) (hX : ∀ r c, X r c = true → r < s ∧ c < s) : SubX (mulX X X) Y ↔ ∀ r k c, X r k = true → X k c = true → Y r c = true := by
  constructor
  · intro h r k c h1 h2
    exact h r c (mulX_iff.2 ⟨k, by have := (hX r k h1).2; omega, h1, h2⟩)
  · intro h r c hm
    obtain ⟨k, _, h1, h2⟩ := mulX_iff.1 hm
    exact h r k c h1 h2
theorem cntX_full {s : Nat} {X Y : Nat → Nat → Bool} (hs : s ≤ 1024) (hY : ∀ r c, Y r c = true → r < s ∧ c < s) (h : SubX X Y) (hc : ¬ cntX X < cntX Y) : SubX Y X := by
  have h1 := cnt_sub h
  have h2 : cntX (diffX Y X) = 0 := by omega
  intro r c hy
  cases hx : X r c with
  | true => rfl
  | false =>
    have h3 : diffX Y X r c = true := by unfold diffX; rw [hy, hx]; rfl
    have h4 := cellsX_len (diffX Y X)
    rw [h2] at h4
    have h5 := cellsX_pos hs (fun r c h => hY r c (by unfold diffX at h; rw [Bool.and_eq_true] at h; exact h.1)) h3
    rw [List.eq_nil_of_length_eq_zero h4] at h5
    cases h5
/-- What holds while a closure is made by squares. -/
def CloI (M X : Nat → Nat → Bool) : Prop := SubX M X ∧ ∀ Y, SubX M Y → TrX Y → SubX X Y
theorem CloI.step {s : Nat} {M X : Nat → Nat → Bool} (hs : s ≤ 1024) (hX : ∀ r c, X r c = true → r < s ∧ c < s) (h : CloI M X) : CloI M (uniX X (mulX X X)) := by
  refine ⟨fun r c hm => by unfold uniX; rw [h.1 r c hm]; rfl, fun Y h1 h2 r c hu => ?_⟩
  have h3 := h.2 Y h1 h2
  unfold uniX at hu
  rw [Bool.or_eq_true] at hu
  rcases hu with hu | hu
  · exact h3 r c hu
  · obtain ⟨k, _, a, b⟩ := mulX_iff.1 hu
    exact h2 r k c (h3 _ _ a) (h3 _ _ b)
theorem CloI.end {s : Nat} {M X : Nat → Nat → Bool} (hs : s ≤ 1024) (hX : ∀ r c, X r c = true → r < s ∧ c < s) (h : CloI M X) (hc : ¬ cntX X < cntX (uniX X (mulX X X))) : IsClo M X := by
  have hU := uni_in hX (mulX_in hX hX)
  have h1 := cntX_full hs hU (fun r c h => by unfold uniX; rw [h]; rfl) hc
  refine ⟨h.1, (mul_sub hs hX).1 (fun r c h => h1 r c (by unfold uniX; rw [h, Bool.or_true])), h.2⟩
/-- A step more. -/
def stepX (T : Nat → Nat → Bool) (i j : Nat) : Nat → Nat → Bool := fun u v => T u v || ((decide (u = i) || T u i) && (decide (v = j) || T j v))
theorem step_iff {T : Nat → Nat → Bool} {i j u v : Nat} : stepX T i j u v = true ↔ T u v = true ∨ ((u = i ∨ T u i = true) ∧ (v = j ∨ T j v = true)) := by
  unfold stepX
  simp only [Bool.or_eq_true, Bool.and_eq_true, decide_eq_true_eq]
theorem IsClo.add {S T : Nat → Nat → Bool} (h : IsClo S T) (i j : Nat) : IsClo (addX S i j) (stepX T i j) := by
  obtain ⟨h1, h2, h3⟩ := h
  refine ⟨fun r c hs => ?_, fun r k c a b => ?_, fun Y hY hT r c hx => ?_⟩
  · rw [step_iff]
    unfold addX at hs
    simp only [Bool.or_eq_true, Bool.and_eq_true, decide_eq_true_eq] at hs
    rcases hs with hs | ⟨rfl, rfl⟩
    · exact .inl (h1 _ _ hs)
    · exact .inr ⟨.inl rfl, .inl rfl⟩
  · rw [step_iff] at a b ⊢
    rcases a with a | ⟨a1, a2⟩
    · rcases b with b | ⟨b1, b2⟩
      · exact .inl (h2 _ _ _ a b)
      · refine .inr ⟨.inr ?_, b2⟩
        rcases b1 with rfl | b1
        · exact a
        · exact h2 _ _ _ a b1
    · rcases b with b | ⟨b1, b2⟩
      · refine .inr ⟨a1, .inr ?_⟩
        rcases a2 with rfl | a2
        · exact b
        · exact h2 _ _ _ a2 b
      · exact .inr ⟨a1, b2⟩
  · have hS : SubX S Y := fun r c h => hY r c (by unfold addX; rw [h]; rfl)
    have hij : Y i j = true := hY i j (by unfold addX; simp)
    have hTY := h3 Y hS hT
    rw [step_iff] at hx
    rcases hx with hx | ⟨a, b⟩
    · exact hTY _ _ hx
    · have h4 : Y r j = true := by
        rcases a with rfl | a
        · exact hij
        · exact hT _ _ _ (hTY _ _ a) hij
      rcases b with rfl | b
      · exact h4
      · exact hT _ _ _ h4 (hTY _ _ b)
theorem step_same {S T : Nat → Nat → Bool} (h : IsClo S T) {i j : Nat} (hij : T i j = true) : stepX T i j = T := by
  refine sub_anti (fun u v hx => ?_) (fun u v hx => step_iff.2 (.inl hx))
  rw [step_iff] at hx
  rcases hx with hx | ⟨a, b⟩
  · exact hx
  · have h1 : T u j = true := by
      rcases a with rfl | a
      · exact hij
      · exact h.2.1 _ _ _ a hij
    rcases b with rfl | b
    · exact h1
    · exact h.2.1 _ _ _ h1 b
theorem clo_no : IsClo noX noX := IsClo.self (fun r k c h => by cases h)
/-- A way of one step or more. -/
inductive PathX (M : Nat → Nat → Bool) : Nat → Nat → Prop
  | one {r c : Nat} : M r c = true → PathX M r c
  | more {r k c : Nat} : M r k = true → PathX M k c → PathX M r c
theorem PathX.trans {M : Nat → Nat → Bool} {r k c : Nat} (h : PathX M r k) (g : PathX M k c) : PathX M r c := by
  induction h with
  | one a => exact .more a g
  | more a _ ih => exact .more a (ih g)
theorem IsClo.path {M X : Nat → Nat → Bool} (h : IsClo M X) (r c : Nat) : X r c = true ↔ PathX M r c := by
  constructor
  · intro hx
    have h1 := h.2.2 (fun r c => @decide (PathX M r c) (Classical.propDecidable _)) (fun r c hm => by
      exact @decide_eq_true _ (Classical.propDecidable _) (PathX.one hm)) (fun r k c a b => by
      exact @decide_eq_true _ (Classical.propDecidable _) ((@of_decide_eq_true _ (Classical.propDecidable _) a).trans (@of_decide_eq_true _ (Classical.propDecidable _) b))) r c hx
    exact @of_decide_eq_true _ (Classical.propDecidable _) h1
  · intro hp
    induction hp with
    | one a => exact h.1 _ _ a
    | more a _ ih => exact h.2.1 _ _ _ (h.1 _ _ a) ih
end Go.Proofs.YtpfcgfgkmgnaaaaDoor
namespace Go.Proofs.YtpfcgfgkmgnaaaaDoor
open Go
/-- Cells more. -/
def setC (X : Nat → Nat → Bool) (l : List (Nat × Nat)) : Nat → Nat → Bool := l.foldl (fun X p => addX X p.1 p.2) X
theorem setC_app (X : Nat → Nat → Bool) (l m : List (Nat × Nat)) : setC X (l ++ m) = setC (setC X l) m := by unfold setC; rw [List.foldl_append]
theorem setC_at (r c : Nat) : ∀ (l : List (Nat × Nat)) (X : Nat → Nat → Bool), setC X l r c = (X r c || l.any fun p => decide (r = p.1) && decide (c = p.2))
  | [], X => by simp [setC]
  | p :: l, X => by
    show setC (addX X p.1 p.2) l r c = _
    rw [setC_at r c l, List.any_cons, ← Bool.or_assoc]
    rfl
theorem cellsX_iff {s : Nat} {X : Nat → Nat → Bool} (hs : s ≤ 1024) (hx : ∀ r c, X r c = true → r < s ∧ c < s) (p : Nat × Nat) : p ∈ cellsX X ↔ X p.1 p.2 = true := ⟨cellsX_true, fun h => cellsX_pos hs hx h⟩
end Go.Proofs.YtpfcgfgkmgnaaaaDoor
namespace Go.Proofs.YtpfcgfgkmgnaaaaDoor
open Go
theorem setC_nil (X : Nat → Nat → Bool) : setC X [] = X := rfl
theorem setC_snoc (X : Nat → Nat → Bool) (l : List (Nat × Nat)) (p : Nat × Nat) : setC X (l ++ [p]) = addX (setC X l) p.1 p.2 := by rw [setC_app]; rfl
end Go.Proofs.YtpfcgfgkmgnaaaaDoor
namespace Go.Proofs.YtpfcgfgkmgnaaaaDoor
open Go
abbrev rowS (s : Nat) (bs caps : Nat → Nat) (i : Nat) : Value := .slice (some ⟨bs i, 0, none⟩) s (caps i)
/-- s rows of s truths: the i-th row lies in block bs i. The rows' slices, and the rows. -/
def rowsO (s bo co : Nat) (bs caps : Nat → Nat) : HP := own 75 1 s (.slice (some ⟨bo, 0, none⟩) s co) (rowV (fun v : Value => v) (rowS s bs caps) s)
def rowsF (s : Nat) (bs caps : Nat → Nat) (T : Nat → Nat → Bool) : HP := fam 4 1 s (rowS s bs caps) (fun _ => s) (fun i => boolsV (T i) s)
def upd2 (T : Nat → Nat → Bool) (i j : Nat) (b : Bool) : Nat → Nat → Bool := fun r c => if r = i ∧ c = j then b else T r c
theorem upd2_ne (T : Nat → Nat → Bool) {i j r : Nat} (b : Bool) (h : r ≠ i) : upd2 T i j b r = T r := by
  funext c
  unfold upd2
  rw [if_neg (fun e => h e.1)]
theorem upd2_at (T : Nat → Nat → Bool) (i j : Nat) (b : Bool) : upd2 T i j b i = upd (T i) j b := by
  funext c
  unfold upd2 upd
  by_cases h : c = j <;> simp [h]
attribute [local irreducible] own
theorem fam_rd {T : TypeId} {sz N : Nat} {vs : Nat → Value} {ln : Nat → Nat} {xs : Nat → List Value} {i : Nat} (hi : i < N) {a : Addr} {v : Value} (h : Rd (own T sz (ln i) (vs i) (xs i)) a v) : Rd (fam T sz N vs ln xs) a v := fun l w s => by
  have s1 := fam_out (T := T) (sz := sz) (N := N) (vs := vs) (ln := ln) (xs := xs) (H := [fam T sz N vs ln xs]) (F := []) hi Tk.h l w s
  exact h _ w s1
theorem rowsO_rd {s bo co : Nat} {bs caps : Nat → Nat} {i : Nat} (hi : i < s) : Rd (rowsO s bo co bs caps) ⟨bo, i, none⟩ (rowS s bs caps i) :=
  Rd.own (rowV_get (f := fun v : Value => v) (o := rowS s bs caps) hi)
theorem rowsF_rd {s : Nat} {bs caps : Nat → Nat} {T : Nat → Nat → Bool} {i j : Nat} (hi : i < s) (hj : j < s) : Rd (rowsF s bs caps T) ⟨bs i, j, none⟩ (.bool (T i j)) :=
  fam_rd hi (Rd.own (rowV_get (f := Value.bool) (o := T i) hj))
theorem rowsF_sl {s : Nat} {bs caps : Nat → Nat} {T : Nat → Nat → Bool} {i : Nat} (hi : i < s) : Sl (rowsF s bs caps T) (rowS s bs caps i) s 1 (boolsV (T i) s) := by
  refine ⟨_, _, rfl, by rw [rowV_len, Nat.mul_one], fun _ => ⟨_, _, rfl, fun j u hj => ?_⟩⟩
  have hjs := (List.getElem?_eq_some_iff.1 hj).1
  rw [rowV_len] at hjs
  rw [rowV_get hjs] at hj
  injection hj with hj
  subst hj
  rw [Nat.zero_add]
  exact rowsF_rd hi hjs
theorem fam_congr {T : TypeId} {sz N : Nat} {vs vs' : Nat → Value} {ln ln' : Nat → Nat} {xs xs' : Nat → List Value} (h : ∀ i, i < N → vs i = vs' i ∧ ln i = ln' i ∧ xs i = xs' i) : fam T sz N vs ln xs = fam T sz N vs' ln' xs' := by
  unfold fam
  congr 1
  refine List.map_congr_left fun i hi => ?_
  obtain ⟨h1, h2, h3⟩ := h i (List.mem_range.1 hi)
  rw [h1, h2, h3]
theorem grid_form {s : Nat} (hs : 0 < s) {v : Value} {vs : Nat → Value} {T : Nat → Nat → Bool} {l : List HP} {w : World}
    (h : sat (own 75 1 s v (rowV (fun v : Value => v) vs s) :: fam 4 1 s vs (fun _ => s) (fun i => boolsV (T i) s) :: l) w) :
    ∃ bo co bs caps, v = .slice (some ⟨bo, 0, none⟩) s co ∧ s ≤ co ∧ sat (rowsO s bo co bs caps :: rowsF s bs caps T :: l) w := by
  obtain ⟨bo, co, rfl, hc, _, _⟩ := own_form hs h
  have hf : ∀ i : Nat, ∃ p : Nat × Nat, i < s → vs i = .slice (some ⟨p.1, 0, none⟩) s p.2 := fun i => by
    by_cases hi : i < s
    · have h2 := fam_out (T := 4) (sz := 1) (N := s) (vs := vs) (ln := fun _ => s) (xs := fun i => boolsV (T i) s) (F := []) hi Tk.h l w (sat_right (l := [own 75 1 s (.slice (some ⟨bo, 0, none⟩) s co) (rowV (fun v : Value => v) vs s)]) (l' := fam 4 1 s vs (fun _ => s) (fun i => boolsV (T i) s) :: l) h)
      obtain ⟨b, cap, e, _⟩ := own_form hs h2
      exact ⟨(b, cap), fun _ => e⟩
    · exact ⟨(0, 0), fun h => absurd h hi⟩
  obtain ⟨g, hg⟩ := Classical.axiomOfChoice hf
  refine ⟨bo, co, fun i => (g i).1, fun i => (g i).2, rfl, hc, ?_⟩
  have e1 : rowV (fun v : Value => v) vs s = rowV (fun v : Value => v) (rowS s (fun i => (g i).1) (fun i => (g i).2)) s := by
    unfold rowV
    refine List.map_congr_left fun i hi => hg i (List.mem_range.1 hi)
  have e2 : fam 4 1 s vs (fun _ => s) (fun i => boolsV (T i) s) = fam 4 1 s (rowS s (fun i => (g i).1) (fun i => (g i).2)) (fun _ => s) (fun i => boolsV (T i) s) := fam_congr fun i hi => ⟨hg i hi, rfl, rfl⟩
  rw [e1, e2] at h
  exact h
section
variable {P : Program} {c : Cx} {A : Array Oper} {rest : List Oper} {K : Kont} {L : Env} {H F : List HP} {s : Nat} {T : Nat → Nat → Bool} {v : Value} {vs : Nat → Value}
theorem rowsF_back {bs caps : Nat → Nat} {i j : Nat} {b : Bool} (hi : i < s) (hj : j < s) :
    ImpS (own 4 1 s (rowS s bs caps i) ((boolsV (T i) s).take j ++ [.bool b] ++ (boolsV (T i) s).drop (j + 1)) :: famW 4 1 s (rowS s bs caps) (fun _ => s) (fun i => boolsV (T i) s) i :: F)
      (rowsF s bs caps (upd2 T i j b) :: F) := by
  have e : (boolsV (T i) s).take j ++ [.bool b] ++ (boolsV (T i) s).drop (j + 1) = boolsV (upd2 T i j b i) s := by
    rw [upd2_at, List.append_assoc, List.singleton_append, show (boolsV (T i) s).take j ++ Value.bool b :: (boolsV (T i) s).drop (j + 1) = (boolsV (T i) s).set j (.bool b) by rw [List.set_eq_take_append_cons_drop, if_pos (by rw [rowV_len]; exact hj)]]
    have := rowV_set (f := Value.bool) (o := T i) (n := s) (j := j) (b := b)
    rw [Nat.zero_add, Nat.mul_one] at this
    exact this
  rw [e]
  exact fam_in (T := 4) (sz := 1) (N := s) (i := i) (vs := rowS s bs caps) (vs' := rowS s bs caps) (ln := fun _ => s) (ln' := fun _ => s) (xs := fun i => boolsV (T i) s) (xs' := fun r => boolsV (upd2 T i j b r) s) hi (fun r hr => ⟨rfl, rfl, by rw [upd2_ne T b hr]⟩) ImpS.refl
theorem GO.storeF {ty : TypeId} {t : TypeId} {p : String} {e : Array Edge} {x y : Operand} {i j o : Nat} {bs caps : Nat → Nat} {b : Bool} [hz : SZ P ty 1] (hi : i < s) (hj : j < s) (ho : o = j) (hx : evl L x = some (.pointer (some ⟨bs i, o, none⟩))) (hy : evl L y = some (.bool b))
    (tk : Tk (rowsF s bs caps T) H F) (k : GO P c A rest K L (rowsF s bs caps (upd2 T i j b) :: F)) : GO P c A (⟨none, .store ty x y, t, p, e, none⟩ :: rest) K L H := by
  subst ho
  exact GO.famOut (T := 4) (sz := 1) (N := s) (i := i) (vs := rowS s bs caps) (ln := fun _ => s) (xs := fun i => boolsV (T i) s) hi tk (GO.storeOwn (w0 := 1) (vs := [.bool b]) hx hy rfl rfl Tk.h (by rw [rowV_len]; omega) (by simp [Value.oneCell']) (GO.imp (H' := rowsF s bs caps (upd2 T i o b) :: F) (fun l w s => rowsF_back (F := F) hi hj l w s) k))
end
attribute [irreducible] rowsO rowsF
end Go.Proofs.YtpfcgfgkmgnaaaaDoor
namespace Go.Proofs.YtpfcgfgkmgnaaaaDoor
open Go
/-- The first a of k with all of l, and the next one with the first m of l. -/
def prs (k l : List Nat) (a m : Nat) : List (Nat × Nat) := ((k.take a).flatMap fun u => l.map fun v => (u, v)) ++ (match k[a]? with | some u => (l.take m).map fun v => (u, v) | none => [])
theorem prs_zero0 (k l : List Nat) : prs k l 0 0 = [] := by
  unfold prs
  cases k[0]? <;> rfl
theorem prs_zero (k l : List Nat) (a : Nat) : prs k l a 0 = (k.take a).flatMap fun u => l.map fun v => (u, v) := by
  unfold prs
  cases k[a]? with
  | none => exact List.append_nil _
  | some u => exact List.append_nil _
theorem prs_succ {k l : List Nat} {a m u v : Nat} (hu : k[a]? = some u) (hv : l[m]? = some v) : prs k l a (m + 1) = prs k l a m ++ [(u, v)] := by
  unfold prs
  rw [hu]
  show _ ++ (l.take (m + 1)).map _ = _ ++ (l.take m).map _ ++ _
  rw [List.take_add_one, hv, List.map_append, List.append_assoc]; rfl
theorem prs_end {k l : List Nat} {a u : Nat} (hu : k[a]? = some u) : prs k l a l.length = prs k l (a + 1) 0 := by
  rw [prs_zero]
  unfold prs
  rw [hu, List.take_add_one, hu, List.flatMap_append]
  show _ ++ (l.take l.length).map _ = _
  rw [List.take_length]
  show _ = _ ++ (l.map (fun v => (u, v)) ++ [])
  rw [List.append_nil]
theorem prs_mem {k l : List Nat} {a m : Nat} {p : Nat × Nat} (h : p ∈ prs k l a m) : p.1 ∈ k ∧ p.2 ∈ l := by
  unfold prs at h
  rcases List.mem_append.1 h with h | h
  · obtain ⟨u, hu, h⟩ := List.mem_flatMap.1 h
    obtain ⟨v, hv, rfl⟩ := List.mem_map.1 h
    exact ⟨List.mem_of_mem_take hu, hv⟩
  · cases hk : k[a]? with
    | none => rw [hk] at h; cases h
    | some u =>
      rw [hk] at h
      obtain ⟨v, hv, rfl⟩ := List.mem_map.1 h
      exact ⟨List.mem_of_getElem? hk, List.mem_of_mem_take hv⟩
theorem prs_not {k l : List Nat} (hk : k.Nodup) (hl : l.Nodup) {a m u v : Nat} (hu : k[a]? = some u) (hv : l[m]? = some v) : (u, v) ∉ prs k l a m := by
  intro h
  unfold prs at h
  have key : ∀ {q : List Nat} {n x : Nat}, q.Nodup → q[n]? = some x → x ∈ q.take n → False := by
    intro q n x hq hx hm
    obtain ⟨t, ht⟩ := List.getElem?_of_mem hm
    have h1 := (List.getElem?_eq_some_iff.1 ht).1
    rw [List.length_take] at h1
    rw [List.getElem?_take_of_lt (by omega)] at ht
    have h2 : t < q.length := by omega
    have := (List.getElem?_inj h2 hq).1 (ht.trans hx.symm)
    omega
  rcases List.mem_append.1 h with h | h
  · obtain ⟨x, hx, h⟩ := List.mem_flatMap.1 h
    obtain ⟨y, hy, e⟩ := List.mem_map.1 h
    injection e with e1 e2
    subst e1
    exact key hk hu hx
  · rw [hu] at h
    obtain ⟨y, hy, e⟩ := List.mem_map.1 h
    injection e with e1 e2
    subst e2
    exact key hl hv hy
theorem prs_len {k l : List Nat} {a m : Nat} (ha : a < k.length) (hm : m ≤ l.length) : (prs k l a m).length ≤ k.length * l.length := by
  have h1 : (prs k l a m).length = a * l.length + m := by
    unfold prs
    rw [List.length_append, List.length_flatMap, List.getElem?_eq_getElem ha]
    simp only [List.length_map]
    rw [List.map_const', List.sum_replicate_nat, List.length_take, List.length_take, Nat.min_eq_left (by omega), Nat.min_eq_left hm]
  rw [h1]
  have h := Nat.mul_le_mul_right l.length (show a + 1 ≤ k.length from ha)
  rw [Nat.add_mul, Nat.one_mul] at h
  omega
theorem setC_keep {T : Nat → Nat → Bool} {l : List (Nat × Nat)} {u v : Nat} (h : (u, v) ∉ l) : setC T l u v = T u v := by
  rw [setC_at]
  have : (l.any fun p => decide (u = p.1) && decide (v = p.2)) = false := by
    rw [List.any_eq_false]
    intro p hp
    simp only [Bool.and_eq_true, decide_eq_true_eq]
    rintro ⟨rfl, rfl⟩
    exact h hp
  rw [this, Bool.or_false]
/-- Of some cells those that are new. -/
def newC (T : Nat → Nat → Bool) (l : List (Nat × Nat)) : List (Nat × Nat) := l.filter fun p => !T p.1 p.2
theorem newC_len (T : Nat → Nat → Bool) (l : List (Nat × Nat)) : (newC T l).length ≤ l.length := List.length_filter_le _ _
theorem newC_yes {T : Nat → Nat → Bool} {l : List (Nat × Nat)} {p : Nat × Nat} (h : T p.1 p.2 = false) : newC T (l ++ [p]) = newC T l ++ [p] := by
  unfold newC; rw [List.filter_append]; simp [h]
theorem newC_no {T : Nat → Nat → Bool} {l : List (Nat × Nat)} {p : Nat × Nat} (h : T p.1 p.2 = true) : newC T (l ++ [p]) = newC T l := by
  unfold newC; rw [List.filter_append]; simp [h]
/-- The rows ahead of a step, the ones behind it. -/
def befL (T : Nat → Nat → Bool) (i n : Nat) : List Nat := (List.range n).filter fun u => decide (u = i) || T u i
def behL (T : Nat → Nat → Bool) (j n : Nat) : List Nat := (List.range n).filter fun v => decide (v = j) || T j v
theorem bef_yes {T : Nat → Nat → Bool} {i n : Nat} (h : (decide (n = i) || T n i) = true) : befL T i (n + 1) = befL T i n ++ [n] := by
  unfold befL; rw [List.range_succ, List.filter_append]; simp [h]
theorem bef_no {T : Nat → Nat → Bool} {i n : Nat} (h : (decide (n = i) || T n i) = false) : befL T i (n + 1) = befL T i n := by
  unfold befL; rw [List.range_succ, List.filter_append]; simp [h]
theorem beh_yes {T : Nat → Nat → Bool} {j n : Nat} (h : (decide (n = j) || T j n) = true) : behL T j (n + 1) = behL T j n ++ [n] := by
  unfold behL; rw [List.range_succ, List.filter_append]; simp [h]
theorem beh_no {T : Nat → Nat → Bool} {j n : Nat} (h : (decide (n = j) || T j n) = false) : behL T j (n + 1) = behL T j n := by
  unfold behL; rw [List.range_succ, List.filter_append]; simp [h]
theorem bef_len (T : Nat → Nat → Bool) (i n : Nat) : (befL T i n).length ≤ n := by
  have := List.length_filter_le (fun u => decide (u = i) || T u i) (List.range n)
  rw [List.length_range] at this
  exact this
theorem beh_len (T : Nat → Nat → Bool) (j n : Nat) : (behL T j n).length ≤ n := by
  have := List.length_filter_le (fun v => decide (v = j) || T j v) (List.range n)
  rw [List.length_range] at this
  exact this
theorem bef_mem {T : Nat → Nat → Bool} {i n u : Nat} : u ∈ befL T i n ↔ u < n ∧ (u = i ∨ T u i = true) := by
  unfold befL; rw [List.mem_filter, List.mem_range, Bool.or_eq_true, decide_eq_true_iff]
theorem beh_mem {T : Nat → Nat → Bool} {j n v : Nat} : v ∈ behL T j n ↔ v < n ∧ (v = j ∨ T j v = true) := by
  unfold behL; rw [List.mem_filter, List.mem_range, Bool.or_eq_true, decide_eq_true_iff]
theorem bef_up (T : Nat → Nat → Bool) (i n : Nat) : (befL T i n).Pairwise (· < ·) := List.Pairwise.filter _ List.pairwise_lt_range
theorem beh_up (T : Nat → Nat → Bool) (j n : Nat) : (behL T j n).Pairwise (· < ·) := List.Pairwise.filter _ List.pairwise_lt_range
theorem up_nodup {l : List Nat} (h : l.Pairwise (· < ·)) : l.Nodup := h.imp (fun h => by omega)
theorem prs_step {s : Nat} {T : Nat → Nat → Bool} (hT : ∀ r c, T r c = true → r < s ∧ c < s) {i j : Nat} (hi : i < s) (hj : j < s) : setC T (prs (befL T i s) (behL T j s) (befL T i s).length 0) = stepX T i j := by
  refine sub_anti (fun u v h => ?_) (fun u v h => ?_)
  · rw [setC_at, Bool.or_eq_true, List.any_eq_true] at h
    rw [step_iff]
    rcases h with h | ⟨p, hp, h⟩
    · exact .inl h
    · simp only [Bool.and_eq_true, decide_eq_true_eq] at h
      obtain ⟨rfl, rfl⟩ := h
      have h2 := prs_mem hp
      exact .inr ⟨(bef_mem.1 h2.1).2, (beh_mem.1 h2.2).2⟩
  · rw [step_iff] at h
    rw [setC_at, Bool.or_eq_true, List.any_eq_true]
    rcases h with h | ⟨a, b⟩
    · exact .inl h
    · refine .inr ⟨(u, v), ?_, by simp⟩
      rw [prs_zero, List.take_length]
      have hu : u < s := by exact a.elim (fun e => e ▸ hi) (fun h => (hT _ _ h).1)
      have hv : v < s := by exact b.elim (fun e => e ▸ hj) (fun h => (hT _ _ h).2)
      exact List.mem_flatMap.2 ⟨u, bef_mem.2 ⟨hu, a⟩, List.mem_map.2 ⟨v, beh_mem.2 ⟨hv, b⟩, rfl⟩⟩
theorem prs_up {k l : List Nat} (hk : k.Pairwise (· < ·)) (hl : l.Pairwise (· < ·)) : (prs k l k.length 0).Pairwise fun a b => ltC ((a.1 : Int), (a.2 : Int)) ((b.1 : Int), (b.2 : Int)) = true := by
  rw [prs_zero, List.take_length]
  induction k with
  | nil => exact List.Pairwise.nil
  | cons u k ih =>
    rw [List.flatMap_cons]
    refine List.pairwise_append.2 ⟨?_, ih (List.Pairwise.of_cons hk), ?_⟩
    · refine List.pairwise_map.2 (hl.imp fun {a b} h => ?_)
      rw [ltC_iff]
      dsimp only
      omega
    · intro a ha b hb
      obtain ⟨v, hv, rfl⟩ := List.mem_map.1 ha
      obtain ⟨x, hx, hb⟩ := List.mem_flatMap.1 hb
      obtain ⟨y, hy, rfl⟩ := List.mem_map.1 hb
      have := List.rel_of_pairwise_cons hk hx
      rw [ltC_iff]
      dsimp only
      omega
theorem cells_pairs (X : Nat → Nat → Bool) : (cellsX X).Pairwise fun a b => ltC ((a.1 : Int), (a.2 : Int)) ((b.1 : Int), (b.2 : Int)) = true := by
  have h := cells_up X
  unfold Up castL at h
  exact List.pairwise_map.1 h
theorem new_step {s : Nat} {T : Nat → Nat → Bool} (hs : s ≤ 1024) (hT : ∀ r c, T r c = true → r < s ∧ c < s) {i j : Nat} (hi : i < s) (hj : j < s) : newC T (prs (befL T i s) (behL T j s) (befL T i s).length 0) = cellsX (diffX (stepX T i j) T) := by
  refine strict_unique (R := fun a b : Nat × Nat => ltC ((a.1 : Int), (a.2 : Int)) ((b.1 : Int), (b.2 : Int)) = true) (fun _ _ h => ltC_asymm h) (List.Pairwise.filter _ (prs_up (bef_up T i s) (beh_up T j s))) (cells_pairs _) fun p => ?_
  have hin : ∀ r c, diffX (stepX T i j) T r c = true → r < s ∧ c < s := fun r c h => by
    unfold diffX at h
    rw [Bool.and_eq_true, step_iff] at h
    rcases h.1 with h | ⟨a, b⟩
    · exact hT _ _ h
    · refine ⟨?_, ?_⟩
      · exact a.elim (fun e => e ▸ hi) (fun h => (hT _ _ h).1)
      · exact b.elim (fun e => e ▸ hj) (fun h => (hT _ _ h).2)
  rw [cellsX_iff hs hin]
  unfold newC
  rw [List.mem_filter, ← prs_step hT hi hj]
  unfold diffX
  rw [setC_at]
  cases hp : T p.1 p.2 with
  | true => simp [hp]
  | false =>
    simp only [Bool.not_false, and_true, Bool.false_or, Bool.and_true, List.any_eq_true, Bool.and_eq_true, decide_eq_true_eq]
    constructor
    · intro h; exact ⟨p, h, rfl, rfl⟩
    · rintro ⟨x, hx, h1, h2⟩
      have : p = x := Prod.ext h1 h2
      rw [this]; exact hx
theorem step_in {s : Nat} {T : Nat → Nat → Bool} (hT : ∀ r c, T r c = true → r < s ∧ c < s) {i j : Nat} (hi : i < s) (hj : j < s) : ∀ r c, stepX T i j r c = true → r < s ∧ c < s := fun r c h => by
  rw [step_iff] at h
  rcases h with h | ⟨a, b⟩
  · exact hT _ _ h
  · refine ⟨?_, ?_⟩
    · rcases a with rfl | a
      · exact hi
      · exact (hT _ _ a).1
    · rcases b with rfl | b
      · exact hj
      · exact (hT _ _ b).2
theorem upd_add (T : Nat → Nat → Bool) (u v : Nat) : upd2 T u v true = addX T u v := by
  funext r c
  unfold upd2 addX
  by_cases h : r = u ∧ c = v
  · rw [if_pos h, h.1, h.2]; simp
  · rw [if_neg h]
    have : (decide (r = u) && decide (c = v)) = false := by
      rw [Bool.eq_false_iff]
      intro h2
      simp only [Bool.and_eq_true, decide_eq_true_eq] at h2
      exact h h2
    rw [this, Bool.or_false]
theorem upd_flip (T : Nat → Nat → Bool) (u v : Nat) : upd2 (flipX T) v u true = flipX (addX T u v) := by
  rw [upd_add]
  funext r c
  show (T c r || (decide (r = v) && decide (c = u))) = (T c r || (decide (c = u) && decide (r = v)))
  rw [Bool.and_comm]
end Go.Proofs.YtpfcgfgkmgnaaaaDoor
namespace Go.Proofs.YtpfcgfgkmgnaaaaDoor
open Go
/-- Where a keeper's parts lie. -/
structure KD where
  bs : Nat
  bt : Nat
  ct : Nat
  bf : Nat
  cf : Nat
  bst : Nat → Nat
  cst : Nat → Nat
  bsf : Nat → Nat
  csf : Nat → Nat
abbrev hdK (s bk : Nat) (d : KD) (c : Nat) : HP := pt bk (row [ptrV d.bs, i64 (c : Nat), .slice (some ⟨d.bt, 0, none⟩) s d.ct, .slice (some ⟨d.bf, 0, none⟩) s d.cf] 83)
/-- A keeper: its head; its steps; what is reached from each row; from where each row is reached. -/
abbrev keepL (s bk : Nat) (d : KD) (S T : Nat → Nat → Bool) : List HP := [hdK s bk d (cntX T), mat s S d.bs, rowsO s d.bt d.ct d.bst d.cst, rowsF s d.bst d.cst T, rowsO s d.bf d.cf d.bsf d.csf, rowsF s d.bsf d.csf (flipX T)]
theorem inM_no {s : Nat} {i j : Int} (h : ¬ (0 ≤ i ∧ 0 ≤ j ∧ i < s ∧ j < s)) : inM s i j = false := by
  rw [Bool.eq_false_iff]
  intro h2
  obtain ⟨m, n, rfl, rfl, h3, h4⟩ := inM_at h2
  omega
theorem inM_yes {s : Nat} {i j : Int} (h : 0 ≤ i ∧ 0 ≤ j ∧ i < s ∧ j < s) : inM s i j = true := by
  obtain ⟨m, rfl⟩ := Int.eq_ofNat_of_zero_le h.1
  obtain ⟨n, rfl⟩ := Int.eq_ofNat_of_zero_le h.2.1
  exact inM_nat (by omega) (by omega)
def wrK (s : Nat) (i j : Int) : Int := if inM s i j then 0 else 2
attribute [local irreducible] G GO GR GT Fn FnV pt init exs pur sat own ImpS mat posL allV orL restX cellsX cellsV cntX
set_option maxHeartbeats 4000000 in
theorem is_k (bk bs : Nat) (u1 u2 u3 : Value) : Fn Tryd.prog 43 #[ptrV bk] [pt bk (row [ptrV bs, u1, u2, u3] 83)] (fun r Q => r = .bool true ∧ Q = [pt bk (row [ptrV bs, u1, u2, u3] 83)]) := by
  refine Fn.mk2 Tryd.func43 rfl rfl fun w0 F => ?_
  (refine G.seq ?_; refine G.region ?_; refine GO.assign rfl rfl ?_; refine GO.nil ?_; refine kthen_n ?_; refine G.seq ?_; refine G.region ?_; refine GO.move rfl rfl ?_; refine GO.neqNilP rfl rfl ?_; refine GO.move rfl rfl ?_; refine GO.gT rfl rfl rfl ?_; refine GO.move rfl rfl ?_; refine GO.gT rfl rfl rfl ?_; refine GO.nilCheck rfl rfl ?_; refine GO.gT rfl rfl rfl ?_; refine GO.fieldAddr rfl rfl ?_; refine GO.gT rfl rfl rfl ?_; refine GO.load1 rfl rfl rfl Tk.h rfl ?_; refine GO.gT rfl rfl rfl ?_; refine GO.neqNilP rfl rfl ?_; refine GO.pickT rfl rfl rfl ?_; refine GO.assign rfl rfl ?_; refine GO.nil ?_; refine kthen_n ?_; refine G.ret ?_)
  refine KF2.r1 rfl (RV.t rfl) ⟨rfl, rfl⟩ (ImpS.sb ?_)
  ((refine Sb.c Tk.h ?_); (exact Sb.r))
theorem isH (s bk : Nat) (d : KD) (c : Nat) : Fn Tryd.prog 43 #[ptrV bk] [hdK s bk d c] (fun r Q => r = .bool true ∧ Q = [hdK s bk d c]) := is_k bk d.bs _ _ _
set_option maxHeartbeats 4000000 in
theorem is_knil : Fn Tryd.prog 43 #[.pointer none] [] (fun r Q => r = .bool false ∧ Q = []) := by
  refine Fn.mk2 Tryd.func43 rfl rfl fun w0 F => ?_
  (refine G.seq ?_; refine G.region ?_; refine GO.assign rfl rfl ?_; refine GO.nil ?_; refine kthen_n ?_; refine G.seq ?_; refine G.region ?_; refine GO.move rfl rfl ?_; refine GO.neqNilP rfl rfl ?_; refine GO.move rfl rfl ?_; refine GO.gF rfl rfl rfl rfl ?_; refine GO.gF rfl rfl rfl rfl ?_; refine GO.gF rfl rfl rfl rfl ?_; refine GO.gF rfl rfl rfl rfl ?_; refine GO.gF rfl rfl rfl rfl ?_; refine GO.pickF rfl rfl rfl ?_; refine GO.assign rfl rfl ?_; refine GO.nil ?_; refine kthen_n ?_; refine G.ret ?_)
  refine KF2.r1 rfl (RV.t rfl) ⟨rfl, rfl⟩ (ImpS.sb ?_)
  (skip; (exact Sb.r))
set_option maxHeartbeats 4000000 in
theorem side_k (s bk : Nat) (d : KD) (c : Nat) (S : Nat → Nat → Bool) : Fn Tryd.prog 51 #[ptrV bk] [hdK s bk d c, mat s S d.bs] (fun r Q => r = i64 (s : Nat) ∧ Q = [hdK s bk d c, mat s S d.bs]) := by
  refine Fn.mk2 Tryd.func51 rfl rfl fun w0 F => ?_
  (refine G.seq ?_; refine G.region ?_; refine GO.assign rfl rfl ?_; refine GO.nil ?_; refine kthen_n ?_; refine G.seq ?_; refine G.seq ?_; refine G.region ?_; refine GO.move rfl rfl ?_)
  refine GO.call1 rfl rfl (isH s bk d c) (Tks.c Tk.h Tks.n) ?_
  rintro _ _ ⟨rfl, rfl⟩
  (refine GO.not rfl rfl ?_; refine GO.nil ?_; refine kthen_n ?_; refine G.condF rfl rfl ?_; refine G.skip ?_; refine kthen_n ?_; refine G.seq ?_; refine G.region ?_; refine GO.move rfl rfl ?_; refine GO.nilCheck rfl rfl ?_; refine GO.fieldAddr rfl rfl ?_; refine GO.load1 rfl rfl rfl Tk.h rfl ?_)
  refine GO.call1 rfl rfl (side_mat s d.bs S) (Tks.c (Tk.t Tk.h) Tks.n) ?_
  rintro _ _ ⟨rfl, rfl⟩
  (refine GO.assign rfl rfl ?_; refine GO.nil ?_; refine kthen_n ?_; refine G.ret ?_)
  refine KF2.r1 rfl (RV.t rfl) ⟨rfl, rfl⟩ (ImpS.sb ?_)
  ((refine Sb.c (Tk.t Tk.h) ?_; refine Sb.c Tk.h ?_); (exact Sb.r))
set_option maxHeartbeats 4000000 in
theorem side_knil : Fn Tryd.prog 51 #[.pointer none] [] (fun r Q => r = i64 0 ∧ Q = []) := by
  refine Fn.mk2 Tryd.func51 rfl rfl fun w0 F => ?_
  (refine G.seq ?_; refine G.region ?_; refine GO.assign rfl rfl ?_; refine GO.nil ?_; refine kthen_n ?_; refine G.seq ?_; refine G.seq ?_; refine G.region ?_; refine GO.move rfl rfl ?_)
  refine GO.call1 rfl rfl (is_knil) Tks.n ?_
  rintro _ _ ⟨rfl, rfl⟩
  (refine GO.not rfl rfl ?_; refine GO.nil ?_; refine kthen_n ?_; refine G.condT rfl rfl ?_; refine G.seq ?_; refine G.region ?_; refine GO.assign rfl rfl ?_; refine GO.nil ?_; refine kthen_n ?_; refine G.ret ?_; refine kthen_r ?_)
  refine KF2.r1 rfl (RV.t rfl) ⟨rfl, rfl⟩ (ImpS.sb ?_)
  (skip; (exact Sb.r))
set_option maxHeartbeats 4000000 in
theorem len_k (s bk : Nat) (d : KD) (c : Nat) : Fn Tryd.prog 31 #[ptrV bk] [hdK s bk d c] (fun r Q => r = i64 (c : Nat) ∧ Q = [hdK s bk d c]) := by
  refine Fn.mk2 Tryd.func31 rfl rfl fun w0 F => ?_
  (refine G.seq ?_; refine G.region ?_; refine GO.assign rfl rfl ?_; refine GO.nil ?_; refine kthen_n ?_; refine G.seq ?_; refine G.seq ?_; refine G.region ?_; refine GO.move rfl rfl ?_)
  refine GO.call1 rfl rfl (isH s bk d c) (Tks.c Tk.h Tks.n) ?_
  rintro _ _ ⟨rfl, rfl⟩
  (refine GO.not rfl rfl ?_; refine GO.nil ?_; refine kthen_n ?_; refine G.condF rfl rfl ?_; refine G.skip ?_; refine kthen_n ?_; refine G.seq ?_; refine G.region ?_; refine GO.move rfl rfl ?_; refine GO.nilCheck rfl rfl ?_; refine GO.fieldAddr rfl rfl ?_; refine GO.load1 rfl rfl rfl Tk.h rfl ?_; refine GO.assign rfl rfl ?_; refine GO.nil ?_; refine kthen_n ?_; refine G.ret ?_)
  refine KF2.r1 rfl (RV.t rfl) ⟨rfl, rfl⟩ (ImpS.sb ?_)
  ((refine Sb.c Tk.h ?_); (exact Sb.r))
set_option maxHeartbeats 4000000 in
theorem len_knil : Fn Tryd.prog 31 #[.pointer none] [] (fun r Q => r = i64 0 ∧ Q = []) := by
  refine Fn.mk2 Tryd.func31 rfl rfl fun w0 F => ?_
  (refine G.seq ?_; refine G.region ?_; refine GO.assign rfl rfl ?_; refine GO.nil ?_; refine kthen_n ?_; refine G.seq ?_; refine G.seq ?_; refine G.region ?_; refine GO.move rfl rfl ?_)
  refine GO.call1 rfl rfl (is_knil) Tks.n ?_
  rintro _ _ ⟨rfl, rfl⟩
  (refine GO.not rfl rfl ?_; refine GO.nil ?_; refine kthen_n ?_; refine G.condT rfl rfl ?_; refine G.seq ?_; refine G.region ?_; refine GO.assign rfl rfl ?_; refine GO.nil ?_; refine kthen_n ?_; refine G.ret ?_; refine kthen_r ?_)
  refine KF2.r1 rfl (RV.t rfl) ⟨rfl, rfl⟩ (ImpS.sb ?_)
  (skip; (exact Sb.r))
set_option maxHeartbeats 4000000 in
theorem wrong_k (s bk : Nat) (d : KD) (c : Nat) (S : Nat → Nat → Bool) (hs : 1 ≤ s) (i j : Int) : Fn Tryd.prog 60 #[ptrV bk, i64 i, i64 j] [hdK s bk d c, mat s S d.bs] (fun r Q => r = i64 (wrK s i j) ∧ Q = [hdK s bk d c, mat s S d.bs]) := by
  have d0 : decide (((s : Nat) : Int) = 0) = false := decide_eq_false (by omega)
  by_cases h1 : i < 0
  · have d1 : decide (i < 0) = true := decide_eq_true h1
    rw [show wrK s i j = 2 by unfold wrK; rw [inM_no (by omega)]; rfl]
    refine Fn.mk2 Tryd.func60 rfl rfl fun w0 F => ?_
    (refine G.seq ?_; refine G.region ?_; refine GO.assign rfl rfl ?_; refine GO.nil ?_; refine kthen_n ?_; refine G.seq ?_; refine G.seq ?_; refine G.region ?_; refine GO.move rfl rfl ?_)
    refine GO.call1 rfl rfl (side_k s bk d c S) (Tks.c Tk.h (Tks.c Tk.h Tks.n)) ?_
    rintro _ _ ⟨rfl, rfl⟩
    (refine GO.assign rfl rfl ?_; refine GO.nil ?_; refine kthen_n ?_; refine G.block ?_; refine G.seq ?_; refine G.region ?_; refine GO.move rfl rfl ?_; refine GO.eqi rfl rfl rfl ?_; refine GO.assign rfl rfl ?_; refine GO.nil ?_; refine kthen_n ?_; refine G.condF rfl (by assumption) ?_; refine G.seq ?_; refine G.region ?_; refine GO.move rfl rfl ?_; refine GO.lti rfl rfl rfl ?_; refine GO.move rfl rfl ?_; refine GO.gF rfl rfl rfl (by assumption) ?_; refine GO.gF rfl rfl rfl (by assumption) ?_; refine GO.pickTa rfl rfl (by assumption) rfl ?_; refine GO.move rfl rfl ?_; refine GO.gF rfl rfl rfl rfl ?_; refine GO.gF rfl rfl rfl rfl ?_; refine GO.gF rfl rfl rfl rfl ?_; refine GO.pickT rfl rfl rfl ?_; refine GO.move rfl rfl ?_; refine GO.gF rfl rfl rfl rfl ?_; refine GO.gF rfl rfl rfl rfl ?_; refine GO.gF rfl rfl rfl rfl ?_; refine GO.pickT rfl rfl rfl ?_; refine GO.assign rfl rfl ?_; refine GO.nil ?_; refine kthen_n ?_; refine G.condT rfl rfl ?_; refine G.seq ?_; refine G.region ?_; refine GO.assign rfl rfl ?_; refine GO.nil ?_; refine kthen_n ?_; refine G.ret ?_; refine kblock_r ?_; refine kthen_r ?_)
    refine KF2.r1 rfl (RV.t rfl) ⟨rfl, rfl⟩ (ImpS.sb ?_)
    ((refine Sb.c Tk.h ?_; refine Sb.c Tk.h ?_); (exact Sb.r))
  have d1 : decide (i < 0) = false := decide_eq_false h1
  by_cases h2 : j < 0
  · have d2 : decide (j < 0) = true := decide_eq_true h2
    rw [show wrK s i j = 2 by unfold wrK; rw [inM_no (by omega)]; rfl]
    refine Fn.mk2 Tryd.func60 rfl rfl fun w0 F => ?_
    (refine G.seq ?_; refine G.region ?_; refine GO.assign rfl rfl ?_; refine GO.nil ?_; refine kthen_n ?_; refine G.seq ?_; refine G.seq ?_; refine G.region ?_; refine GO.move rfl rfl ?_)
    refine GO.call1 rfl rfl (side_k s bk d c S) (Tks.c Tk.h (Tks.c Tk.h Tks.n)) ?_
    rintro _ _ ⟨rfl, rfl⟩
    (refine GO.assign rfl rfl ?_; refine GO.nil ?_; refine kthen_n ?_; refine G.block ?_; refine G.seq ?_; refine G.region ?_; refine GO.move rfl rfl ?_; refine GO.eqi rfl rfl rfl ?_; refine GO.assign rfl rfl ?_; refine GO.nil ?_; refine kthen_n ?_; refine G.condF rfl (by assumption) ?_; refine G.seq ?_; refine G.region ?_; refine GO.move rfl rfl ?_; refine GO.lti rfl rfl rfl ?_; refine GO.move rfl rfl ?_; refine GO.gT rfl rfl (by assumption) ?_; refine GO.move rfl rfl ?_; refine GO.gT rfl rfl (by assumption) ?_; refine GO.lti rfl rfl rfl ?_; refine GO.pickFa rfl rfl (by assumption) rfl ?_; refine GO.move rfl rfl ?_; refine GO.gF rfl rfl rfl (by assumption) ?_; refine GO.gF rfl rfl rfl (by assumption) ?_; refine GO.gF rfl rfl rfl (by assumption) ?_; refine GO.pickTa rfl rfl (by assumption) rfl ?_; refine GO.move rfl rfl ?_; refine GO.gF rfl rfl rfl rfl ?_; refine GO.gF rfl rfl rfl rfl ?_; refine GO.gF rfl rfl rfl rfl ?_; refine GO.pickT rfl rfl rfl ?_; refine GO.assign rfl rfl ?_; refine GO.nil ?_; refine kthen_n ?_; refine G.condT rfl rfl ?_; refine G.seq ?_; refine G.region ?_; refine GO.assign rfl rfl ?_; refine GO.nil ?_; refine kthen_n ?_; refine G.ret ?_; refine kblock_r ?_; refine kthen_r ?_)
    refine KF2.r1 rfl (RV.t rfl) ⟨rfl, rfl⟩ (ImpS.sb ?_)
    ((refine Sb.c Tk.h ?_; refine Sb.c Tk.h ?_); (exact Sb.r))
  have d2 : decide (j < 0) = false := decide_eq_false h2
  by_cases h3 : (s : Int) ≤ i
  · have d3 : decide ((s : Int) ≤ i) = true := decide_eq_true h3
    rw [show wrK s i j = 2 by unfold wrK; rw [inM_no (by omega)]; rfl]
    refine Fn.mk2 Tryd.func60 rfl rfl fun w0 F => ?_
    (refine G.seq ?_; refine G.region ?_; refine GO.assign rfl rfl ?_; refine GO.nil ?_; refine kthen_n ?_; refine G.seq ?_; refine G.seq ?_; refine G.region ?_; refine GO.move rfl rfl ?_)
    refine GO.call1 rfl rfl (side_k s bk d c S) (Tks.c Tk.h (Tks.c Tk.h Tks.n)) ?_
    rintro _ _ ⟨rfl, rfl⟩
    (refine GO.assign rfl rfl ?_; refine GO.nil ?_; refine kthen_n ?_; refine G.block ?_; refine G.seq ?_; refine G.region ?_; refine GO.move rfl rfl ?_; refine GO.eqi rfl rfl rfl ?_; refine GO.assign rfl rfl ?_; refine GO.nil ?_; refine kthen_n ?_; refine G.condF rfl (by assumption) ?_; refine G.seq ?_; refine G.region ?_; refine GO.move rfl rfl ?_; refine GO.lti rfl rfl rfl ?_; refine GO.move rfl rfl ?_; refine GO.gT rfl rfl (by assumption) ?_; refine GO.move rfl rfl ?_; refine GO.gT rfl rfl (by assumption) ?_; refine GO.lti rfl rfl rfl ?_; refine GO.pickFa rfl rfl (by assumption) rfl ?_; refine GO.move rfl rfl ?_; refine GO.gT rfl rfl (by assumption) ?_; refine GO.move rfl rfl ?_; refine GO.gT rfl rfl (by assumption) ?_; refine GO.move rfl rfl ?_; refine GO.gT rfl rfl (by assumption) ?_; refine GO.gei rfl rfl rfl ?_; refine GO.pickFa rfl rfl (by assumption) rfl ?_; refine GO.move rfl rfl ?_; refine GO.gF rfl rfl rfl (by assumption) ?_; refine GO.gF rfl rfl rfl (by assumption) ?_; refine GO.gF rfl rfl rfl (by assumption) ?_; refine GO.pickTa rfl rfl (by assumption) rfl ?_; refine GO.assign rfl rfl ?_; refine GO.nil ?_; refine kthen_n ?_; refine G.condT rfl rfl ?_; refine G.seq ?_; refine G.region ?_; refine GO.assign rfl rfl ?_; refine GO.nil ?_; refine kthen_n ?_; refine G.ret ?_; refine kblock_r ?_; refine kthen_r ?_)
    refine KF2.r1 rfl (RV.t rfl) ⟨rfl, rfl⟩ (ImpS.sb ?_)
    ((refine Sb.c Tk.h ?_; refine Sb.c Tk.h ?_); (exact Sb.r))
  have d3 : decide ((s : Int) ≤ i) = false := decide_eq_false h3
  by_cases h4 : (s : Int) ≤ j
  · have d4 : decide ((s : Int) ≤ j) = true := decide_eq_true h4
    rw [show wrK s i j = 2 by unfold wrK; rw [inM_no (by omega)]; rfl]
    refine Fn.mk2 Tryd.func60 rfl rfl fun w0 F => ?_
    (refine G.seq ?_; refine G.region ?_; refine GO.assign rfl rfl ?_; refine GO.nil ?_; refine kthen_n ?_; refine G.seq ?_; refine G.seq ?_; refine G.region ?_; refine GO.move rfl rfl ?_)
    refine GO.call1 rfl rfl (side_k s bk d c S) (Tks.c Tk.h (Tks.c Tk.h Tks.n)) ?_
    rintro _ _ ⟨rfl, rfl⟩
    (refine GO.assign rfl rfl ?_; refine GO.nil ?_; refine kthen_n ?_; refine G.block ?_; refine G.seq ?_; refine G.region ?_; refine GO.move rfl rfl ?_; refine GO.eqi rfl rfl rfl ?_; refine GO.assign rfl rfl ?_; refine GO.nil ?_; refine kthen_n ?_; refine G.condF rfl (by assumption) ?_; refine G.seq ?_; refine G.region ?_; refine GO.move rfl rfl ?_; refine GO.lti rfl rfl rfl ?_; refine GO.move rfl rfl ?_; refine GO.gT rfl rfl (by assumption) ?_; refine GO.move rfl rfl ?_; refine GO.gT rfl rfl (by assumption) ?_; refine GO.lti rfl rfl rfl ?_; refine GO.pickFa rfl rfl (by assumption) rfl ?_; refine GO.move rfl rfl ?_; refine GO.gT rfl rfl (by assumption) ?_; refine GO.move rfl rfl ?_; refine GO.gT rfl rfl (by assumption) ?_; refine GO.move rfl rfl ?_; refine GO.gT rfl rfl (by assumption) ?_; refine GO.gei rfl rfl rfl ?_; refine GO.pickFa rfl rfl (by assumption) rfl ?_; refine GO.move rfl rfl ?_; refine GO.gT rfl rfl (by assumption) ?_; refine GO.move rfl rfl ?_; refine GO.gT rfl rfl (by assumption) ?_; refine GO.move rfl rfl ?_; refine GO.gT rfl rfl (by assumption) ?_; refine GO.gei rfl rfl rfl ?_; refine GO.pickFa rfl rfl (by assumption) rfl ?_; refine GO.assign rfl rfl ?_; refine GO.nil ?_; refine kthen_n ?_; refine G.condT rfl (by assumption) ?_; refine G.seq ?_; refine G.region ?_; refine GO.assign rfl rfl ?_; refine GO.nil ?_; refine kthen_n ?_; refine G.ret ?_; refine kblock_r ?_; refine kthen_r ?_)
    refine KF2.r1 rfl (RV.t rfl) ⟨rfl, rfl⟩ (ImpS.sb ?_)
    ((refine Sb.c Tk.h ?_; refine Sb.c Tk.h ?_); (exact Sb.r))
  have d4 : decide ((s : Int) ≤ j) = false := decide_eq_false h4
  rw [show wrK s i j = 0 by unfold wrK; rw [inM_yes (by omega)]; rfl]
  refine Fn.mk2 Tryd.func60 rfl rfl fun w0 F => ?_
  (refine G.seq ?_; refine G.region ?_; refine GO.assign rfl rfl ?_; refine GO.nil ?_; refine kthen_n ?_; refine G.seq ?_; refine G.seq ?_; refine G.region ?_; refine GO.move rfl rfl ?_)
  refine GO.call1 rfl rfl (side_k s bk d c S) (Tks.c Tk.h (Tks.c Tk.h Tks.n)) ?_
  rintro _ _ ⟨rfl, rfl⟩
  (refine GO.assign rfl rfl ?_; refine GO.nil ?_; refine kthen_n ?_; refine G.block ?_; refine G.seq ?_; refine G.region ?_; refine GO.move rfl rfl ?_; refine GO.eqi rfl rfl rfl ?_; refine GO.assign rfl rfl ?_; refine GO.nil ?_; refine kthen_n ?_; refine G.condF rfl (by assumption) ?_; refine G.seq ?_; refine G.region ?_; refine GO.move rfl rfl ?_; refine GO.lti rfl rfl rfl ?_; refine GO.move rfl rfl ?_; refine GO.gT rfl rfl (by assumption) ?_; refine GO.move rfl rfl ?_; refine GO.gT rfl rfl (by assumption) ?_; refine GO.lti rfl rfl rfl ?_; refine GO.pickFa rfl rfl (by assumption) rfl ?_; refine GO.move rfl rfl ?_; refine GO.gT rfl rfl (by assumption) ?_; refine GO.move rfl rfl ?_; refine GO.gT rfl rfl (by assumption) ?_; refine GO.move rfl rfl ?_; refine GO.gT rfl rfl (by assumption) ?_; refine GO.gei rfl rfl rfl ?_; refine GO.pickFa rfl rfl (by assumption) rfl ?_; refine GO.move rfl rfl ?_; refine GO.gT rfl rfl (by assumption) ?_; refine GO.move rfl rfl ?_; refine GO.gT rfl rfl (by assumption) ?_; refine GO.move rfl rfl ?_; refine GO.gT rfl rfl (by assumption) ?_; refine GO.gei rfl rfl rfl ?_; refine GO.pickFa rfl rfl (by assumption) rfl ?_; refine GO.assign rfl rfl ?_; refine GO.nil ?_; refine kthen_n ?_; refine G.condF rfl (by assumption) ?_; refine G.skip ?_; refine kblock_n ?_; refine kthen_n ?_; refine G.seq ?_; refine G.region ?_; refine GO.assign rfl rfl ?_; refine GO.nil ?_; refine kthen_n ?_; refine G.ret ?_)
  refine KF2.r1 rfl (RV.t rfl) ⟨rfl, rfl⟩ (ImpS.sb ?_)
  ((refine Sb.c Tk.h ?_; refine Sb.c Tk.h ?_); (exact Sb.r))
set_option maxHeartbeats 4000000 in
theorem wrong_knil (i j : Int) : Fn Tryd.prog 60 #[.pointer none, i64 i, i64 j] [] (fun r Q => r = i64 1 ∧ Q = []) := by
  refine Fn.mk2 Tryd.func60 rfl rfl fun w0 F => ?_
  (refine G.seq ?_; refine G.region ?_; refine GO.assign rfl rfl ?_; refine GO.nil ?_; refine kthen_n ?_; refine G.seq ?_; refine G.seq ?_; refine G.region ?_; refine GO.move rfl rfl ?_)
  refine GO.call1 rfl rfl (side_knil) Tks.n ?_
  rintro _ _ ⟨rfl, rfl⟩
  (refine GO.assign rfl rfl ?_; refine GO.nil ?_; refine kthen_n ?_; refine G.block ?_; refine G.seq ?_; refine G.region ?_; refine GO.move rfl rfl ?_; refine GO.eqT rfl rfl rfl rfl ?_; refine GO.assign rfl rfl ?_; refine GO.nil ?_; refine kthen_n ?_; refine G.condT rfl rfl ?_; refine G.seq ?_; refine G.region ?_; refine GO.assign rfl rfl ?_; refine GO.nil ?_; refine kthen_n ?_; refine G.ret ?_; refine kblock_r ?_; refine kthen_r ?_)
  refine KF2.r1 rfl (RV.t rfl) ⟨rfl, rfl⟩ (ImpS.sb ?_)
  (skip; (exact Sb.r))
theorem wrK_t {s : Nat} {i j : Int} (h : inM s i j = true) : wrK s i j = 0 := by unfold wrK; rw [if_pos h]
theorem wrK_f {s : Nat} {i j : Int} (h : inM s i j = false) : wrK s i j = 2 := by unfold wrK; rw [if_neg (by rw [h]; decide)]
set_option maxHeartbeats 4000000 in
theorem has_k (s bk : Nat) (d : KD) (c : Nat) (S T : Nat → Nat → Bool) (hs : 1 ≤ s) (i j : Int) : Fn Tryd.prog 38 #[ptrV bk, i64 i, i64 j] [hdK s bk d c, mat s S d.bs, rowsO s d.bt d.ct d.bst d.cst, rowsF s d.bst d.cst T] (fun r Q => r = getM T s i j ∧ Q = [hdK s bk d c, mat s S d.bs, rowsO s d.bt d.ct d.bst d.cst, rowsF s d.bst d.cst T]) := by
  have hw := wrong_k s bk d c S hs i j
  cases hin : inM s i j with
  | false =>
    rw [wrK_f hin] at hw
    rw [show getM T s i j = .tuple #[.bool false, i64 2] by unfold getM; rw [hin]; rfl]
    refine Fn.mk2 Tryd.func38 rfl rfl fun w0 F => ?_
    (refine G.seq ?_; refine G.region ?_; refine GO.assign rfl rfl ?_; refine GO.assign rfl rfl ?_; refine GO.nil ?_; refine kthen_n ?_; refine G.seq ?_; refine G.region ?_; refine GO.move rfl rfl ?_; refine GO.move rfl rfl ?_; refine GO.move rfl rfl ?_)
    refine GO.call3 rfl rfl rfl rfl (hw) (Tks.c Tk.h (Tks.c Tk.h Tks.n)) ?_
    rintro _ _ ⟨rfl, rfl⟩
    (refine GO.assign rfl rfl ?_; refine GO.nil ?_; refine kthen_n ?_; refine G.seq ?_; refine G.seq ?_; refine G.region ?_; refine GO.move rfl rfl ?_; refine GO.nei rfl rfl rfl ?_; refine GO.nil ?_; refine kthen_n ?_; refine G.condT rfl rfl ?_; refine G.seq ?_; refine G.region ?_; refine GO.move rfl rfl ?_; refine GO.assign rfl rfl ?_; refine GO.assign rfl rfl ?_; refine GO.nil ?_; refine kthen_n ?_; refine G.ret ?_; refine kthen_r ?_)
    refine KF2.r2 rfl (RV.t rfl) (RV.t rfl) ⟨rfl, rfl⟩ (ImpS.sb ?_)
    ((refine Sb.c Tk.h ?_; refine Sb.c Tk.h ?_; refine Sb.c Tk.h ?_; refine Sb.c Tk.h ?_); (exact Sb.r))
  | true =>
    rw [wrK_t hin] at hw
    obtain ⟨m, n, rfl, rfl, hm, hn⟩ := inM_at hin
    rw [getM_at hm hn]
    have r1 : Rd (rowsO s d.bt d.ct d.bst d.cst) ⟨d.bt, 0 + m * 1, none⟩ (rowS s d.bst d.cst m) := by rw [Nat.zero_add, Nat.mul_one]; exact rowsO_rd hm
    have r2 : Rd (rowsF s d.bst d.cst T) ⟨d.bst m, 0 + n * 1, none⟩ (.bool (T m n)) := by rw [Nat.zero_add, Nat.mul_one]; exact rowsF_rd hm hn
    refine Fn.mk2 Tryd.func38 rfl rfl fun w0 F => ?_
    (refine G.seq ?_; refine G.region ?_; refine GO.assign rfl rfl ?_; refine GO.assign rfl rfl ?_; refine GO.nil ?_; refine kthen_n ?_; refine G.seq ?_; refine G.region ?_; refine GO.move rfl rfl ?_; refine GO.move rfl rfl ?_; refine GO.move rfl rfl ?_)
    refine GO.call3 rfl rfl rfl rfl (hw) (Tks.c Tk.h (Tks.c Tk.h Tks.n)) ?_
    rintro _ _ ⟨rfl, rfl⟩
    (refine GO.assign rfl rfl ?_; refine GO.nil ?_; refine kthen_n ?_; refine G.seq ?_; refine G.seq ?_; refine G.region ?_; refine GO.move rfl rfl ?_; refine GO.neF rfl rfl rfl rfl ?_; refine GO.nil ?_; refine kthen_n ?_; refine G.condF rfl rfl ?_; refine G.skip ?_; refine kthen_n ?_; refine G.seq ?_; refine G.region ?_; refine GO.move rfl rfl ?_; refine GO.nilCheck rfl rfl ?_; refine GO.fieldAddr rfl rfl ?_; refine GO.load1 rfl rfl rfl Tk.h rfl ?_; refine GO.move rfl rfl ?_; refine GO.idxS rfl rfl rfl ⟨rfl, by omega⟩ ?_; refine GO.loadQ rfl rfl rfl (Tk.t (Tk.t Tk.h)) (by assumption) ?_; refine GO.move rfl rfl ?_; refine GO.idxS rfl rfl rfl ⟨rfl, by omega⟩ ?_; refine GO.loadQ rfl rfl rfl (Tk.t (Tk.t (Tk.t Tk.h))) (by assumption) ?_; refine GO.assign rfl rfl ?_; refine GO.assign rfl rfl ?_; refine GO.nil ?_; refine kthen_n ?_; refine G.ret ?_)
    refine KF2.r2 rfl (RV.t rfl) (RV.t rfl) ⟨rfl, rfl⟩ (ImpS.sb ?_)
    ((refine Sb.c Tk.h ?_; refine Sb.c Tk.h ?_; refine Sb.c Tk.h ?_; refine Sb.c Tk.h ?_); (exact Sb.r))
end Go.Proofs.YtpfcgfgkmgnaaaaDoor
namespace Go.Proofs.YtpfcgfgkmgnaaaaDoor
open Go
theorem diff_self (T : Nat → Nat → Bool) : cellsX (diffX T T) = [] := by
  have : diffX T T = noX := by funext r c; unfold diffX noX; cases T r c <;> rfl
  rw [this, cells_no]
def layT (T : Nat → Nat → Bool) (k l : List Nat) (a m : Nat) : Nat → Nat → Bool := setC T (prs k l a m)
attribute [local irreducible] G GO GR GT Fn FnV pt init exs pur sat own ImpS mat posL allV orL restX cellsX cellsV cntX natsV befL behL prs setC newC layT addX flipX stepX diffX upd2
set_option maxHeartbeats 32000000 in
set_option maxRecDepth 40000 in
theorem step_k (s bk : Nat) (d : KD) (S T : Nat → Nat → Bool) (hs : s ≤ 1024) (hT : ∀ r c, T r c = true → r < s ∧ c < s) (hc : IsClo S T) (i j : Nat) (hi : i < s) (hj : j < s) (y : Value) (hy1 : y.oneCell' = true) (Acc : List (Nat × Nat) → HP) (l0 : List (Nat × Nat)) (hl0 : l0.length ≤ 1048576)
    (htell : ∀ (l : List (Nat × Nat)) (u v : Nat), l.length ≤ 2097152 → u < s → v < s → FnV Tryd.prog y [.agg #[i64 (u : Nat), i64 (v : Nat)]] [Acc l] (fun _ Q => Q = [Acc (l ++ [(u, v)])])) :
    Fn Tryd.prog 61 #[ptrV bk, i64 (i : Nat), i64 (j : Nat), y] (keepL s bk d S T ++ [Acc l0]) (fun _ Q => Q = keepL s bk d (addX S i j) (stepX T i j) ++ [Acc (l0 ++ cellsX (diffX (stepX T i j) T))]) := by
  have q1 : Rd (rowsO s d.bt d.ct d.bst d.cst) ⟨d.bt, 0 + i * 1, none⟩ (rowS s d.bst d.cst i) := by rw [Nat.zero_add, Nat.mul_one]; exact rowsO_rd hi
  have q2 : Rd (rowsF s d.bst d.cst T) ⟨d.bst i, 0 + j * 1, none⟩ (.bool (T i j)) := by rw [Nat.zero_add, Nat.mul_one]; exact rowsF_rd hi hj
  have q3 : Rd (rowsO s d.bf d.cf d.bsf d.csf) ⟨d.bf, 0 + i * 1, none⟩ (rowS s d.bsf d.csf i) := by rw [Nat.zero_add, Nat.mul_one]; exact rowsO_rd hi
  have q4 : ∀ n, n < s → Rd (rowsF s d.bsf d.csf (flipX T)) ⟨d.bsf i, 0 + n * 1, none⟩ (.bool (T n i)) := fun n hn => by
    rw [Nat.zero_add, Nat.mul_one]
    have h := rowsF_rd (bs := d.bsf) (caps := d.csf) (T := flipX T) hi hn
    rw [show flipX T i n = T n i by unfold flipX; rfl] at h
    exact h
  have q5 : Rd (rowsO s d.bt d.ct d.bst d.cst) ⟨d.bt, 0 + j * 1, none⟩ (rowS s d.bst d.cst j) := by rw [Nat.zero_add, Nat.mul_one]; exact rowsO_rd hj
  have q6 : ∀ n, n < s → Rd (rowsF s d.bst d.cst T) ⟨d.bst j, 0 + n * 1, none⟩ (.bool (T j n)) := fun n hn => by rw [Nat.zero_add, Nat.mul_one]; exact rowsF_rd hj hn
  change Fn _ _ _ [hdK s bk d (cntX T), mat s S d.bs, rowsO s d.bt d.ct d.bst d.cst, rowsF s d.bst d.cst T, rowsO s d.bf d.cf d.bsf d.csf, rowsF s d.bsf d.csf (flipX T), Acc l0] (fun _ Q => Q = [hdK s bk d (cntX (stepX T i j)), mat s (addX S i j) d.bs, rowsO s d.bt d.ct d.bst d.cst, rowsF s d.bst d.cst (stepX T i j), rowsO s d.bf d.cf d.bsf d.csf, rowsF s d.bsf d.csf (flipX (stepX T i j)), Acc (l0 ++ cellsX (diffX (stepX T i j) T))])
  refine Fn.mk2 Tryd.func61 rfl rfl fun w0 F => ?_
  (refine G.seq ?_; refine G.region ?_; refine GO.move rfl rfl ?_; refine GO.nilCheck rfl rfl ?_; refine GO.fieldAddr rfl rfl ?_; refine GO.load1 rfl rfl rfl Tk.h rfl ?_; refine GO.move rfl rfl ?_; refine GO.move rfl rfl ?_)
  refine GO.call3 rfl rfl rfl rfl (set_mat s d.bs S (i : Int) (j : Int) hs) (Tks.c (Tk.t Tk.h) Tks.n) ?_
  rintro _ _ (⟨i', j', e1, e2, _, _, rfl, rfl⟩ | ⟨hno, _, _⟩)
  rotate_left 1
  · rw [inM_nat hi hj] at hno
    cases hno
  obtain rfl : i = i' := by omega
  obtain rfl : j = j' := by omega
  cases hij : T i j with
  | true =>
    rw [step_same hc hij, diff_self, List.append_nil]
    rw [hij] at q2
    (refine GO.nil ?_; refine kthen_n ?_; refine G.seq ?_; refine G.seq ?_; refine G.region ?_; refine GO.move rfl rfl ?_; refine GO.nilCheck rfl rfl ?_; refine GO.fieldAddr rfl rfl ?_; refine GO.load1 rfl rfl rfl (Tk.t Tk.h) rfl ?_; refine GO.move rfl rfl ?_; refine GO.idxS rfl rfl rfl ⟨rfl, by omega⟩ ?_; refine GO.loadQ rfl rfl rfl (Tk.t (Tk.t Tk.h)) (by assumption) ?_; refine GO.move rfl rfl ?_; refine GO.idxS rfl rfl rfl ⟨rfl, by omega⟩ ?_; refine GO.loadQ rfl rfl rfl (Tk.t (Tk.t (Tk.t Tk.h))) (by assumption) ?_; refine GO.nil ?_; refine kthen_n ?_; refine G.condT rfl rfl ?_; refine G.ret ?_; refine kthen_r ?_)
    refine KF2.r0 rfl rfl (ImpS.sb ?_)
    ((refine Sb.c (Tk.t Tk.h) ?_; refine Sb.c Tk.h ?_; refine Sb.c Tk.h ?_; refine Sb.c Tk.h ?_; refine Sb.c Tk.h ?_; refine Sb.c Tk.h ?_; refine Sb.c Tk.h ?_); (exact Sb.r))
  | false =>
    rw [hij] at q2
    have hfin := prs_step hT hi hj
    have hnew := new_step hs hT hi hj
    rw [← hnew, ← hfin]
    have b0 : befL T i 0 = [] := by unfold befL; rfl
    have h0 : behL T j 0 = [] := by unfold behL; rfl
    (refine GO.nil ?_; refine kthen_n ?_; refine G.seq ?_; refine G.seq ?_; refine G.region ?_; refine GO.move rfl rfl ?_; refine GO.nilCheck rfl rfl ?_; refine GO.fieldAddr rfl rfl ?_; refine GO.load1 rfl rfl rfl (Tk.t Tk.h) rfl ?_; refine GO.move rfl rfl ?_; refine GO.idxS rfl rfl rfl ⟨rfl, by omega⟩ ?_; refine GO.loadQ rfl rfl rfl (Tk.t (Tk.t Tk.h)) (by assumption) ?_; refine GO.move rfl rfl ?_; refine GO.idxS rfl rfl rfl ⟨rfl, by omega⟩ ?_; refine GO.loadQ rfl rfl rfl (Tk.t (Tk.t (Tk.t Tk.h))) (by assumption) ?_; refine GO.nil ?_; refine kthen_n ?_; refine G.condF rfl rfl ?_; refine G.skip ?_; refine kthen_n ?_; refine G.seq ?_; refine G.region ?_; refine GO.assign rfl rfl ?_; refine GO.assign rfl rfl ?_; refine GO.nil ?_; refine kthen_n ?_; refine G.seq ?_; refine G.seq ?_; refine G.region ?_; refine GO.move rfl rfl ?_; refine GO.nilCheck rfl rfl ?_; refine GO.fieldAddr rfl rfl ?_; refine GO.load1 rfl rfl rfl (Tk.t Tk.h) rfl ?_; refine GO.lenS rfl rfl ?_; refine GO.move rfl rfl ?_; refine GO.nil ?_; refine kthen_n ?_; refine G.block ?_)
    refine G.ownNil (T := 3) (sz := 1) ?_
    refine G.ownNil (T := 3) (sz := 1) ?_
    refine G.loop3 (fun (n : Nat) (v8 v9 : Value) => [(0, ptrV bk), (1, i64 (i : Nat)), (2, i64 (j : Nat)), (3, y), (8, v8), (9, v9), (36, i64 (s : Nat)), (37, i64 (n : Nat))])
      (fun n v8 v9 => own 3 1 (befL T i n).length v8 (natsV (befL T i n)) :: own 3 1 (behL T j n).length v9 (natsV (behL T j n)) :: hdK s bk d (cntX T) :: mat s (addX S i j) d.bs :: rowsO s d.bt d.ct d.bst d.cst :: rowsF s d.bst d.cst T :: rowsO s d.bf d.cf d.bsf d.csf :: rowsF s d.bsf d.csf (flipX T) :: Acc l0 :: F) (fun n _ _ => n ≤ s) (fun n _ _ => s - n) 0 (.slice none 0 0) (.slice none 0 0) (by omega) ?_ ?_ ?_
    · (refine SubE.c rfl rfl ?_; refine SubE.c rfl rfl ?_; refine SubE.c rfl rfl ?_; refine SubE.c rfl rfl ?_; refine SubE.c rfl rfl ?_; refine SubE.c rfl rfl ?_; refine SubE.c rfl rfl ?_; refine SubE.c rfl rfl ?_; exact SubE.n)
    · rw [b0, h0, show natsV [] = [] by unfold natsV; rfl]
      ((refine Sb.c Tk.h ?_; refine Sb.c Tk.h ?_; refine Sb.c (Tk.t Tk.h) ?_; refine Sb.c Tk.h ?_; refine Sb.c Tk.h ?_; refine Sb.c Tk.h ?_; refine Sb.c Tk.h ?_; refine Sb.c Tk.h ?_; refine Sb.c Tk.h ?_); (exact Sb.r))
    · rintro n v8 v9 hn
      (refine G.seq ?_; refine G.region ?_; refine GO.lti rfl rfl rfl ?_; refine GO.nil ?_; refine kthen_n ?_; refine G.seq ?_)
      refine G.condD rfl (fun hlt => ?_) (fun hge => ?_)
      · have hns : n < s := by omega
        have q4 := q4 n hns
        have q6 := q6 n hns
        have lb := bef_len T i n
        have lh := beh_len T j n
        by_cases hni : n = i
        · have di : decide ((n : Int) = (i : Int)) = true := decide_eq_true (by omega)
          have hx := bef_yes (T := T) (i := i) (n := n) (by rw [decide_eq_true hni]; rfl)
          (refine G.skip ?_; refine kthen_n ?_; refine G.seq ?_; refine G.block ?_; refine G.seq ?_; refine G.region ?_; refine GO.move rfl rfl ?_; refine GO.assign rfl rfl ?_; refine GO.nil ?_; refine kthen_n ?_; refine G.seq ?_; refine G.seq ?_; refine G.region ?_; refine GO.move rfl rfl ?_; refine GO.move rfl rfl ?_; refine GO.eqi rfl rfl rfl ?_; refine GO.move rfl rfl ?_; refine GO.gF rfl rfl rfl (by assumption) ?_; refine GO.gF rfl rfl rfl (by assumption) ?_; refine GO.gF rfl rfl rfl (by assumption) ?_; refine GO.gF rfl rfl rfl (by assumption) ?_; refine GO.gF rfl rfl rfl (by assumption) ?_; refine GO.gF rfl rfl rfl (by assumption) ?_; refine GO.gF rfl rfl rfl (by assumption) ?_; refine GO.gF rfl rfl rfl (by assumption) ?_; refine GO.gF rfl rfl rfl (by assumption) ?_; refine GO.gF rfl rfl rfl (by assumption) ?_; refine GO.pickTa rfl rfl (by assumption) rfl ?_; refine GO.nil ?_; refine kthen_n ?_; refine G.condT rfl rfl ?_; refine G.region ?_; refine GO.move rfl rfl ?_; refine GO.move rfl rfl ?_)
          refine GO.buildSlice1 rfl rfl (by simp; rfl) rfl ⟨by omega, by omega⟩ fun bs => ?_
          refine GO.appendOwn (m := 1) (news := [i64 (n : Nat)]) rfl rfl rfl (Tk.t Tk.h) Tk.h rfl (by simp [Value.oneCell']) ⟨by decide, rfl⟩ Nat.one_pos (by unfold maxLen; omega) (by omega) fun v8' => ?_
          rw [natsV_one, show (befL T i n).length + 1 = (befL T i n ++ [n]).length by rw [List.length_append]; rfl, ← hx]
          (refine GO.assign rfl rfl ?_; refine GO.nil ?_; refine kthen_n ?_; refine G.seq ?_; refine G.region ?_; refine GO.move rfl rfl ?_; refine GO.move rfl rfl ?_; refine GO.eqi rfl rfl rfl ?_; refine GO.move rfl rfl ?_)
          by_cases hnj : n = j
          · have dj : decide ((n : Int) = (j : Int)) = true := decide_eq_true (by omega)
            have hy := beh_yes (T := T) (j := j) (n := n) (by rw [decide_eq_true hnj]; rfl)
            (refine GO.gF rfl rfl rfl (by assumption) ?_; refine GO.gF rfl rfl rfl (by assumption) ?_; refine GO.gF rfl rfl rfl (by assumption) ?_; refine GO.gF rfl rfl rfl (by assumption) ?_; refine GO.gF rfl rfl rfl (by assumption) ?_; refine GO.gF rfl rfl rfl (by assumption) ?_; refine GO.gF rfl rfl rfl (by assumption) ?_; refine GO.gF rfl rfl rfl (by assumption) ?_; refine GO.gF rfl rfl rfl (by assumption) ?_; refine GO.gF rfl rfl rfl (by assumption) ?_; refine GO.pickTa rfl rfl (by assumption) rfl ?_; refine GO.nil ?_; refine kthen_n ?_; refine G.condT rfl rfl ?_; refine G.region ?_; refine GO.move rfl rfl ?_; refine GO.move rfl rfl ?_)
            refine GO.buildSlice1 rfl rfl (by simp; rfl) rfl ⟨by omega, by omega⟩ fun bs => ?_
            refine GO.appendOwn (m := 1) (news := [i64 (n : Nat)]) rfl rfl rfl (Tk.t (Tk.t (Tk.t Tk.h))) Tk.h rfl (by simp [Value.oneCell']) ⟨by decide, rfl⟩ Nat.one_pos (by unfold maxLen; omega) (by omega) fun v9' => ?_
            rw [natsV_one, show (behL T j n).length + 1 = (behL T j n ++ [n]).length by rw [List.length_append]; rfl, ← hy]
            (refine GO.assign rfl rfl ?_; refine GO.nil ?_; refine kblock_n ?_; refine kthen_n ?_; refine G.region ?_; refine GO.addi rfl rfl rfl (by omega) ?_; refine GO.move rfl rfl ?_; refine GO.nil ?_; refine kthen_n ?_)
            refine ⟨n + 1, v8', v9', by omega, by omega, ?_, ?_⟩
            · (refine SubE.c rfl rfl ?_; refine SubE.c rfl rfl ?_; refine SubE.c rfl rfl ?_; refine SubE.c rfl rfl ?_; refine SubE.c rfl rfl ?_; refine SubE.c rfl rfl ?_; refine SubE.c rfl rfl ?_; refine SubE.c rfl rfl ?_; exact SubE.n)
            · ((refine Sb.c (Tk.t (Tk.t Tk.h)) ?_; refine Sb.c Tk.h ?_; refine Sb.c (Tk.t (Tk.t Tk.h)) ?_; refine Sb.c (Tk.t (Tk.t Tk.h)) ?_; refine Sb.c (Tk.t (Tk.t Tk.h)) ?_; refine Sb.c (Tk.t (Tk.t Tk.h)) ?_; refine Sb.c (Tk.t (Tk.t Tk.h)) ?_; refine Sb.c (Tk.t (Tk.t Tk.h)) ?_; refine Sb.c (Tk.t (Tk.t Tk.h)) ?_); (refine Sb.s ?_; refine Sb.s ?_; exact Sb.r))
          have dj : decide ((n : Int) = (j : Int)) = false := decide_eq_false (by omega)
          cases hjn : T j n with
          | true =>
            rw [hjn] at q6
            have hy := beh_yes (T := T) (j := j) (n := n) (by rw [hjn, Bool.or_true])
            (refine GO.gT rfl rfl (by assumption) ?_; refine GO.move rfl rfl ?_; refine GO.gT rfl rfl (by assumption) ?_; refine GO.nilCheck rfl rfl ?_; refine GO.gT rfl rfl (by assumption) ?_; refine GO.fieldAddr rfl rfl ?_; refine GO.gT rfl rfl (by assumption) ?_; refine GO.load1 rfl rfl rfl (Tk.t (Tk.t (Tk.t Tk.h))) rfl ?_; refine GO.gT rfl rfl (by assumption) ?_; refine GO.move rfl rfl ?_; refine GO.gT rfl rfl (by assumption) ?_; refine GO.idxS rfl rfl rfl ⟨rfl, by omega⟩ ?_; refine GO.gT rfl rfl (by assumption) ?_; refine GO.loadQ rfl rfl rfl (Tk.t (Tk.t (Tk.t (Tk.t (Tk.t Tk.h))))) (by assumption) ?_; refine GO.gT rfl rfl (by assumption) ?_; refine GO.move rfl rfl ?_; refine GO.gT rfl rfl (by assumption) ?_; refine GO.idxS rfl rfl rfl ⟨rfl, by omega⟩ ?_; refine GO.gT rfl rfl (by assumption) ?_; refine GO.loadQ rfl rfl rfl (Tk.t (Tk.t (Tk.t (Tk.t (Tk.t (Tk.t Tk.h)))))) (by assumption) ?_; refine GO.pickFa rfl rfl (by assumption) rfl ?_; refine GO.nil ?_; refine kthen_n ?_; refine G.condT rfl rfl ?_; refine G.region ?_; refine GO.move rfl rfl ?_; refine GO.move rfl rfl ?_)
            refine GO.buildSlice1 rfl rfl (by simp; rfl) rfl ⟨by omega, by omega⟩ fun bs => ?_
            refine GO.appendOwn (m := 1) (news := [i64 (n : Nat)]) rfl rfl rfl (Tk.t (Tk.t (Tk.t Tk.h))) Tk.h rfl (by simp [Value.oneCell']) ⟨by decide, rfl⟩ Nat.one_pos (by unfold maxLen; omega) (by omega) fun v9' => ?_
            rw [natsV_one, show (behL T j n).length + 1 = (behL T j n ++ [n]).length by rw [List.length_append]; rfl, ← hy]
            (refine GO.assign rfl rfl ?_; refine GO.nil ?_; refine kblock_n ?_; refine kthen_n ?_; refine G.region ?_; refine GO.addi rfl rfl rfl (by omega) ?_; refine GO.move rfl rfl ?_; refine GO.nil ?_; refine kthen_n ?_)
            refine ⟨n + 1, v8', v9', by omega, by omega, ?_, ?_⟩
            · (refine SubE.c rfl rfl ?_; refine SubE.c rfl rfl ?_; refine SubE.c rfl rfl ?_; refine SubE.c rfl rfl ?_; refine SubE.c rfl rfl ?_; refine SubE.c rfl rfl ?_; refine SubE.c rfl rfl ?_; refine SubE.c rfl rfl ?_; exact SubE.n)
            · ((refine Sb.c (Tk.t (Tk.t Tk.h)) ?_; refine Sb.c Tk.h ?_; refine Sb.c (Tk.t (Tk.t Tk.h)) ?_; refine Sb.c (Tk.t (Tk.t Tk.h)) ?_; refine Sb.c (Tk.t (Tk.t Tk.h)) ?_; refine Sb.c (Tk.t (Tk.t Tk.h)) ?_; refine Sb.c (Tk.t (Tk.t Tk.h)) ?_; refine Sb.c (Tk.t (Tk.t Tk.h)) ?_; refine Sb.c (Tk.t (Tk.t Tk.h)) ?_); (refine Sb.s ?_; refine Sb.s ?_; exact Sb.r))
          | false =>
            rw [hjn] at q6
            have hy := beh_no (T := T) (j := j) (n := n) (by rw [hjn, decide_eq_false hnj]; rfl)
            rw [← hy]
            (refine GO.gT rfl rfl (by assumption) ?_; refine GO.move rfl rfl ?_; refine GO.gT rfl rfl (by assumption) ?_; refine GO.nilCheck rfl rfl ?_; refine GO.gT rfl rfl (by assumption) ?_; refine GO.fieldAddr rfl rfl ?_; refine GO.gT rfl rfl (by assumption) ?_; refine GO.load1 rfl rfl rfl (Tk.t (Tk.t (Tk.t Tk.h))) rfl ?_; refine GO.gT rfl rfl (by assumption) ?_; refine GO.move rfl rfl ?_; refine GO.gT rfl rfl (by assumption) ?_; refine GO.idxS rfl rfl rfl ⟨rfl, by omega⟩ ?_; refine GO.gT rfl rfl (by assumption) ?_; refine GO.loadQ rfl rfl rfl (Tk.t (Tk.t (Tk.t (Tk.t (Tk.t Tk.h))))) (by assumption) ?_; refine GO.gT rfl rfl (by assumption) ?_; refine GO.move rfl rfl ?_; refine GO.gT rfl rfl (by assumption) ?_; refine GO.idxS rfl rfl rfl ⟨rfl, by omega⟩ ?_; refine GO.gT rfl rfl (by assumption) ?_; refine GO.loadQ rfl rfl rfl (Tk.t (Tk.t (Tk.t (Tk.t (Tk.t (Tk.t Tk.h)))))) (by assumption) ?_; refine GO.pickFa rfl rfl (by assumption) rfl ?_; refine GO.nil ?_; refine kthen_n ?_; refine G.condF rfl rfl ?_; refine G.skip ?_; refine kblock_n ?_; refine kthen_n ?_; refine G.region ?_; refine GO.addi rfl rfl rfl (by omega) ?_; refine GO.move rfl rfl ?_; refine GO.nil ?_; refine kthen_n ?_)
            refine ⟨n + 1, v8', v9, by omega, by omega, ?_, ?_⟩
            · (refine SubE.c rfl rfl ?_; refine SubE.c rfl rfl ?_; refine SubE.c rfl rfl ?_; refine SubE.c rfl rfl ?_; refine SubE.c rfl rfl ?_; refine SubE.c rfl rfl ?_; refine SubE.c rfl rfl ?_; refine SubE.c rfl rfl ?_; exact SubE.n)
            · ((refine Sb.c Tk.h ?_; refine Sb.c (Tk.t Tk.h) ?_; refine Sb.c (Tk.t Tk.h) ?_; refine Sb.c (Tk.t Tk.h) ?_; refine Sb.c (Tk.t Tk.h) ?_; refine Sb.c (Tk.t Tk.h) ?_; refine Sb.c (Tk.t Tk.h) ?_; refine Sb.c (Tk.t Tk.h) ?_; refine Sb.c (Tk.t Tk.h) ?_); (refine Sb.s ?_; exact Sb.r))
        have di : decide ((n : Int) = (i : Int)) = false := decide_eq_false (by omega)
        cases hin : T n i with
        | true =>
          rw [hin] at q4
          have hx := bef_yes (T := T) (i := i) (n := n) (by rw [hin, Bool.or_true])
          (refine G.skip ?_; refine kthen_n ?_; refine G.seq ?_; refine G.block ?_; refine G.seq ?_; refine G.region ?_; refine GO.move rfl rfl ?_; refine GO.assign rfl rfl ?_; refine GO.nil ?_; refine kthen_n ?_; refine G.seq ?_; refine G.seq ?_; refine G.region ?_; refine GO.move rfl rfl ?_; refine GO.move rfl rfl ?_; refine GO.eqi rfl rfl rfl ?_; refine GO.move rfl rfl ?_; refine GO.gT rfl rfl (by assumption) ?_; refine GO.move rfl rfl ?_; refine GO.gT rfl rfl (by assumption) ?_; refine GO.nilCheck rfl rfl ?_; refine GO.gT rfl rfl (by assumption) ?_; refine GO.fieldAddr rfl rfl ?_; refine GO.gT rfl rfl (by assumption) ?_; refine GO.load1 rfl rfl rfl (Tk.t (Tk.t Tk.h)) rfl ?_; refine GO.gT rfl rfl (by assumption) ?_; refine GO.move rfl rfl ?_; refine GO.gT rfl rfl (by assumption) ?_; refine GO.idxS rfl rfl rfl ⟨rfl, by omega⟩ ?_; refine GO.gT rfl rfl (by assumption) ?_; refine GO.loadQ rfl rfl rfl (Tk.t (Tk.t (Tk.t (Tk.t (Tk.t (Tk.t Tk.h)))))) (by assumption) ?_; refine GO.gT rfl rfl (by assumption) ?_; refine GO.move rfl rfl ?_; refine GO.gT rfl rfl (by assumption) ?_; refine GO.idxS rfl rfl rfl ⟨rfl, by omega⟩ ?_; refine GO.gT rfl rfl (by assumption) ?_; refine GO.loadQ rfl rfl rfl (Tk.t (Tk.t (Tk.t (Tk.t (Tk.t (Tk.t (Tk.t Tk.h))))))) (by assumption) ?_; refine GO.pickFa rfl rfl (by assumption) rfl ?_; refine GO.nil ?_; refine kthen_n ?_; refine G.condT rfl rfl ?_; refine G.region ?_; refine GO.move rfl rfl ?_; refine GO.move rfl rfl ?_)
          refine GO.buildSlice1 rfl rfl (by simp; rfl) rfl ⟨by omega, by omega⟩ fun bs => ?_
          refine GO.appendOwn (m := 1) (news := [i64 (n : Nat)]) rfl rfl rfl (Tk.t Tk.h) Tk.h rfl (by simp [Value.oneCell']) ⟨by decide, rfl⟩ Nat.one_pos (by unfold maxLen; omega) (by omega) fun v8' => ?_
          rw [natsV_one, show (befL T i n).length + 1 = (befL T i n ++ [n]).length by rw [List.length_append]; rfl, ← hx]
          (refine GO.assign rfl rfl ?_; refine GO.nil ?_; refine kthen_n ?_; refine G.seq ?_; refine G.region ?_; refine GO.move rfl rfl ?_; refine GO.move rfl rfl ?_; refine GO.eqi rfl rfl rfl ?_; refine GO.move rfl rfl ?_)
          by_cases hnj : n = j
          · have dj : decide ((n : Int) = (j : Int)) = true := decide_eq_true (by omega)
            have hy := beh_yes (T := T) (j := j) (n := n) (by rw [decide_eq_true hnj]; rfl)
            (refine GO.gF rfl rfl rfl (by assumption) ?_; refine GO.gF rfl rfl rfl (by assumption) ?_; refine GO.gF rfl rfl rfl (by assumption) ?_; refine GO.gF rfl rfl rfl (by assumption) ?_; refine GO.gF rfl rfl rfl (by assumption) ?_; refine GO.gF rfl rfl rfl (by assumption) ?_; refine GO.gF rfl rfl rfl (by assumption) ?_; refine GO.gF rfl rfl rfl (by assumption) ?_; refine GO.gF rfl rfl rfl (by assumption) ?_; refine GO.gF rfl rfl rfl (by assumption) ?_; refine GO.pickTa rfl rfl (by assumption) rfl ?_; refine GO.nil ?_; refine kthen_n ?_; refine G.condT rfl rfl ?_; refine G.region ?_; refine GO.move rfl rfl ?_; refine GO.move rfl rfl ?_)
            refine GO.buildSlice1 rfl rfl (by simp; rfl) rfl ⟨by omega, by omega⟩ fun bs => ?_
            refine GO.appendOwn (m := 1) (news := [i64 (n : Nat)]) rfl rfl rfl (Tk.t (Tk.t (Tk.t Tk.h))) Tk.h rfl (by simp [Value.oneCell']) ⟨by decide, rfl⟩ Nat.one_pos (by unfold maxLen; omega) (by omega) fun v9' => ?_
            rw [natsV_one, show (behL T j n).length + 1 = (behL T j n ++ [n]).length by rw [List.length_append]; rfl, ← hy]
            (refine GO.assign rfl rfl ?_; refine GO.nil ?_; refine kblock_n ?_; refine kthen_n ?_; refine G.region ?_; refine GO.addi rfl rfl rfl (by omega) ?_; refine GO.move rfl rfl ?_; refine GO.nil ?_; refine kthen_n ?_)
            refine ⟨n + 1, v8', v9', by omega, by omega, ?_, ?_⟩
            · (refine SubE.c rfl rfl ?_; refine SubE.c rfl rfl ?_; refine SubE.c rfl rfl ?_; refine SubE.c rfl rfl ?_; refine SubE.c rfl rfl ?_; refine SubE.c rfl rfl ?_; refine SubE.c rfl rfl ?_; refine SubE.c rfl rfl ?_; exact SubE.n)
            · ((refine Sb.c (Tk.t (Tk.t Tk.h)) ?_; refine Sb.c Tk.h ?_; refine Sb.c (Tk.t (Tk.t Tk.h)) ?_; refine Sb.c (Tk.t (Tk.t Tk.h)) ?_; refine Sb.c (Tk.t (Tk.t Tk.h)) ?_; refine Sb.c (Tk.t (Tk.t Tk.h)) ?_; refine Sb.c (Tk.t (Tk.t Tk.h)) ?_; refine Sb.c (Tk.t (Tk.t Tk.h)) ?_; refine Sb.c (Tk.t (Tk.t Tk.h)) ?_); (refine Sb.s ?_; refine Sb.s ?_; exact Sb.r))
          have dj : decide ((n : Int) = (j : Int)) = false := decide_eq_false (by omega)
          cases hjn : T j n with
          | true =>
            rw [hjn] at q6
            have hy := beh_yes (T := T) (j := j) (n := n) (by rw [hjn, Bool.or_true])
            (refine GO.gT rfl rfl (by assumption) ?_; refine GO.move rfl rfl ?_; refine GO.gT rfl rfl (by assumption) ?_; refine GO.nilCheck rfl rfl ?_; refine GO.gT rfl rfl (by assumption) ?_; refine GO.fieldAddr rfl rfl ?_; refine GO.gT rfl rfl (by assumption) ?_; refine GO.load1 rfl rfl rfl (Tk.t (Tk.t (Tk.t Tk.h))) rfl ?_; refine GO.gT rfl rfl (by assumption) ?_; refine GO.move rfl rfl ?_; refine GO.gT rfl rfl (by assumption) ?_; refine GO.idxS rfl rfl rfl ⟨rfl, by omega⟩ ?_; refine GO.gT rfl rfl (by assumption) ?_; refine GO.loadQ rfl rfl rfl (Tk.t (Tk.t (Tk.t (Tk.t (Tk.t Tk.h))))) (by assumption) ?_; refine GO.gT rfl rfl (by assumption) ?_; refine GO.move rfl rfl ?_; refine GO.gT rfl rfl (by assumption) ?_; refine GO.idxS rfl rfl rfl ⟨rfl, by omega⟩ ?_; refine GO.gT rfl rfl (by assumption) ?_; refine GO.loadQ rfl rfl rfl (Tk.t (Tk.t (Tk.t (Tk.t (Tk.t (Tk.t Tk.h)))))) (by assumption) ?_; refine GO.pickFa rfl rfl (by assumption) rfl ?_; refine GO.nil ?_; refine kthen_n ?_; refine G.condT rfl rfl ?_; refine G.region ?_; refine GO.move rfl rfl ?_; refine GO.move rfl rfl ?_)
            refine GO.buildSlice1 rfl rfl (by simp; rfl) rfl ⟨by omega, by omega⟩ fun bs => ?_
            refine GO.appendOwn (m := 1) (news := [i64 (n : Nat)]) rfl rfl rfl (Tk.t (Tk.t (Tk.t Tk.h))) Tk.h rfl (by simp [Value.oneCell']) ⟨by decide, rfl⟩ Nat.one_pos (by unfold maxLen; omega) (by omega) fun v9' => ?_
            rw [natsV_one, show (behL T j n).length + 1 = (behL T j n ++ [n]).length by rw [List.length_append]; rfl, ← hy]
            (refine GO.assign rfl rfl ?_; refine GO.nil ?_; refine kblock_n ?_; refine kthen_n ?_; refine G.region ?_; refine GO.addi rfl rfl rfl (by omega) ?_; refine GO.move rfl rfl ?_; refine GO.nil ?_; refine kthen_n ?_)
            refine ⟨n + 1, v8', v9', by omega, by omega, ?_, ?_⟩
            · (refine SubE.c rfl rfl ?_; refine SubE.c rfl rfl ?_; refine SubE.c rfl rfl ?_; refine SubE.c rfl rfl ?_; refine SubE.c rfl rfl ?_; refine SubE.c rfl rfl ?_; refine SubE.c rfl rfl ?_; refine SubE.c rfl rfl ?_; exact SubE.n)
            · ((refine Sb.c (Tk.t (Tk.t Tk.h)) ?_; refine Sb.c Tk.h ?_; refine Sb.c (Tk.t (Tk.t Tk.h)) ?_; refine Sb.c (Tk.t (Tk.t Tk.h)) ?_; refine Sb.c (Tk.t (Tk.t Tk.h)) ?_; refine Sb.c (Tk.t (Tk.t Tk.h)) ?_; refine Sb.c (Tk.t (Tk.t Tk.h)) ?_; refine Sb.c (Tk.t (Tk.t Tk.h)) ?_; refine Sb.c (Tk.t (Tk.t Tk.h)) ?_); (refine Sb.s ?_; refine Sb.s ?_; exact Sb.r))
          | false =>
            rw [hjn] at q6
            have hy := beh_no (T := T) (j := j) (n := n) (by rw [hjn, decide_eq_false hnj]; rfl)
            rw [← hy]
            (refine GO.gT rfl rfl (by assumption) ?_; refine GO.move rfl rfl ?_; refine GO.gT rfl rfl (by assumption) ?_; refine GO.nilCheck rfl rfl ?_; refine GO.gT rfl rfl (by assumption) ?_; refine GO.fieldAddr rfl rfl ?_; refine GO.gT rfl rfl (by assumption) ?_; refine GO.load1 rfl rfl rfl (Tk.t (Tk.t (Tk.t Tk.h))) rfl ?_; refine GO.gT rfl rfl (by assumption) ?_; refine GO.move rfl rfl ?_; refine GO.gT rfl rfl (by assumption) ?_; refine GO.idxS rfl rfl rfl ⟨rfl, by omega⟩ ?_; refine GO.gT rfl rfl (by assumption) ?_; refine GO.loadQ rfl rfl rfl (Tk.t (Tk.t (Tk.t (Tk.t (Tk.t Tk.h))))) (by assumption) ?_; refine GO.gT rfl rfl (by assumption) ?_; refine GO.move rfl rfl ?_; refine GO.gT rfl rfl (by assumption) ?_; refine GO.idxS rfl rfl rfl ⟨rfl, by omega⟩ ?_; refine GO.gT rfl rfl (by assumption) ?_; refine GO.loadQ rfl rfl rfl (Tk.t (Tk.t (Tk.t (Tk.t (Tk.t (Tk.t Tk.h)))))) (by assumption) ?_; refine GO.pickFa rfl rfl (by assumption) rfl ?_; refine GO.nil ?_; refine kthen_n ?_; refine G.condF rfl rfl ?_; refine G.skip ?_; refine kblock_n ?_; refine kthen_n ?_; refine G.region ?_; refine GO.addi rfl rfl rfl (by omega) ?_; refine GO.move rfl rfl ?_; refine GO.nil ?_; refine kthen_n ?_)
            refine ⟨n + 1, v8', v9, by omega, by omega, ?_, ?_⟩
            · (refine SubE.c rfl rfl ?_; refine SubE.c rfl rfl ?_; refine SubE.c rfl rfl ?_; refine SubE.c rfl rfl ?_; refine SubE.c rfl rfl ?_; refine SubE.c rfl rfl ?_; refine SubE.c rfl rfl ?_; refine SubE.c rfl rfl ?_; exact SubE.n)
            · ((refine Sb.c Tk.h ?_; refine Sb.c (Tk.t Tk.h) ?_; refine Sb.c (Tk.t Tk.h) ?_; refine Sb.c (Tk.t Tk.h) ?_; refine Sb.c (Tk.t Tk.h) ?_; refine Sb.c (Tk.t Tk.h) ?_; refine Sb.c (Tk.t Tk.h) ?_; refine Sb.c (Tk.t Tk.h) ?_; refine Sb.c (Tk.t Tk.h) ?_); (refine Sb.s ?_; exact Sb.r))
        | false =>
          rw [hin] at q4
          have hx := bef_no (T := T) (i := i) (n := n) (by rw [hin, decide_eq_false hni]; rfl)
          rw [← hx]
          (refine G.skip ?_; refine kthen_n ?_; refine G.seq ?_; refine G.block ?_; refine G.seq ?_; refine G.region ?_; refine GO.move rfl rfl ?_; refine GO.assign rfl rfl ?_; refine GO.nil ?_; refine kthen_n ?_; refine G.seq ?_; refine G.seq ?_; refine G.region ?_; refine GO.move rfl rfl ?_; refine GO.move rfl rfl ?_; refine GO.eqi rfl rfl rfl ?_; refine GO.move rfl rfl ?_; refine GO.gT rfl rfl (by assumption) ?_; refine GO.move rfl rfl ?_; refine GO.gT rfl rfl (by assumption) ?_; refine GO.nilCheck rfl rfl ?_; refine GO.gT rfl rfl (by assumption) ?_; refine GO.fieldAddr rfl rfl ?_; refine GO.gT rfl rfl (by assumption) ?_; refine GO.load1 rfl rfl rfl (Tk.t (Tk.t Tk.h)) rfl ?_; refine GO.gT rfl rfl (by assumption) ?_; refine GO.move rfl rfl ?_; refine GO.gT rfl rfl (by assumption) ?_; refine GO.idxS rfl rfl rfl ⟨rfl, by omega⟩ ?_; refine GO.gT rfl rfl (by assumption) ?_; refine GO.loadQ rfl rfl rfl (Tk.t (Tk.t (Tk.t (Tk.t (Tk.t (Tk.t Tk.h)))))) (by assumption) ?_; refine GO.gT rfl rfl (by assumption) ?_; refine GO.move rfl rfl ?_; refine GO.gT rfl rfl (by assumption) ?_; refine GO.idxS rfl rfl rfl ⟨rfl, by omega⟩ ?_; refine GO.gT rfl rfl (by assumption) ?_; refine GO.loadQ rfl rfl rfl (Tk.t (Tk.t (Tk.t (Tk.t (Tk.t (Tk.t (Tk.t Tk.h))))))) (by assumption) ?_; refine GO.pickFa rfl rfl (by assumption) rfl ?_; refine GO.nil ?_; refine kthen_n ?_; refine G.condF rfl rfl ?_; refine G.skip ?_; refine kthen_n ?_; refine G.seq ?_; refine G.region ?_; refine GO.move rfl rfl ?_; refine GO.move rfl rfl ?_; refine GO.eqi rfl rfl rfl ?_; refine GO.move rfl rfl ?_)
          by_cases hnj : n = j
          · have dj : decide ((n : Int) = (j : Int)) = true := decide_eq_true (by omega)
            have hy := beh_yes (T := T) (j := j) (n := n) (by rw [decide_eq_true hnj]; rfl)
            (refine GO.gF rfl rfl rfl (by assumption) ?_; refine GO.gF rfl rfl rfl (by assumption) ?_; refine GO.gF rfl rfl rfl (by assumption) ?_; refine GO.gF rfl rfl rfl (by assumption) ?_; refine GO.gF rfl rfl rfl (by assumption) ?_; refine GO.gF rfl rfl rfl (by assumption) ?_; refine GO.gF rfl rfl rfl (by assumption) ?_; refine GO.gF rfl rfl rfl (by assumption) ?_; refine GO.gF rfl rfl rfl (by assumption) ?_; refine GO.gF rfl rfl rfl (by assumption) ?_; refine GO.pickTa rfl rfl (by assumption) rfl ?_; refine GO.nil ?_; refine kthen_n ?_; refine G.condT rfl rfl ?_; refine G.region ?_; refine GO.move rfl rfl ?_; refine GO.move rfl rfl ?_)
            refine GO.buildSlice1 rfl rfl (by simp; rfl) rfl ⟨by omega, by omega⟩ fun bs => ?_
            refine GO.appendOwn (m := 1) (news := [i64 (n : Nat)]) rfl rfl rfl (Tk.t (Tk.t Tk.h)) Tk.h rfl (by simp [Value.oneCell']) ⟨by decide, rfl⟩ Nat.one_pos (by unfold maxLen; omega) (by omega) fun v9' => ?_
            rw [natsV_one, show (behL T j n).length + 1 = (behL T j n ++ [n]).length by rw [List.length_append]; rfl, ← hy]
            (refine GO.assign rfl rfl ?_; refine GO.nil ?_; refine kblock_n ?_; refine kthen_n ?_; refine G.region ?_; refine GO.addi rfl rfl rfl (by omega) ?_; refine GO.move rfl rfl ?_; refine GO.nil ?_; refine kthen_n ?_)
            refine ⟨n + 1, v8, v9', by omega, by omega, ?_, ?_⟩
            · (refine SubE.c rfl rfl ?_; refine SubE.c rfl rfl ?_; refine SubE.c rfl rfl ?_; refine SubE.c rfl rfl ?_; refine SubE.c rfl rfl ?_; refine SubE.c rfl rfl ?_; refine SubE.c rfl rfl ?_; refine SubE.c rfl rfl ?_; exact SubE.n)
            · ((refine Sb.c (Tk.t (Tk.t Tk.h)) ?_; refine Sb.c Tk.h ?_; refine Sb.c (Tk.t Tk.h) ?_; refine Sb.c (Tk.t Tk.h) ?_; refine Sb.c (Tk.t Tk.h) ?_; refine Sb.c (Tk.t Tk.h) ?_; refine Sb.c (Tk.t Tk.h) ?_; refine Sb.c (Tk.t Tk.h) ?_; refine Sb.c (Tk.t Tk.h) ?_); (refine Sb.s ?_; exact Sb.r))
          have dj : decide ((n : Int) = (j : Int)) = false := decide_eq_false (by omega)
          cases hjn : T j n with
          | true =>
            rw [hjn] at q6
            have hy := beh_yes (T := T) (j := j) (n := n) (by rw [hjn, Bool.or_true])
            (refine GO.gT rfl rfl (by assumption) ?_; refine GO.move rfl rfl ?_; refine GO.gT rfl rfl (by assumption) ?_; refine GO.nilCheck rfl rfl ?_; refine GO.gT rfl rfl (by assumption) ?_; refine GO.fieldAddr rfl rfl ?_; refine GO.gT rfl rfl (by assumption) ?_; refine GO.load1 rfl rfl rfl (Tk.t (Tk.t Tk.h)) rfl ?_; refine GO.gT rfl rfl (by assumption) ?_; refine GO.move rfl rfl ?_; refine GO.gT rfl rfl (by assumption) ?_; refine GO.idxS rfl rfl rfl ⟨rfl, by omega⟩ ?_; refine GO.gT rfl rfl (by assumption) ?_; refine GO.loadQ rfl rfl rfl (Tk.t (Tk.t (Tk.t (Tk.t Tk.h)))) (by assumption) ?_; refine GO.gT rfl rfl (by assumption) ?_; refine GO.move rfl rfl ?_; refine GO.gT rfl rfl (by assumption) ?_; refine GO.idxS rfl rfl rfl ⟨rfl, by omega⟩ ?_; refine GO.gT rfl rfl (by assumption) ?_; refine GO.loadQ rfl rfl rfl (Tk.t (Tk.t (Tk.t (Tk.t (Tk.t Tk.h))))) (by assumption) ?_; refine GO.pickFa rfl rfl (by assumption) rfl ?_; refine GO.nil ?_; refine kthen_n ?_; refine G.condT rfl rfl ?_; refine G.region ?_; refine GO.move rfl rfl ?_; refine GO.move rfl rfl ?_)
            refine GO.buildSlice1 rfl rfl (by simp; rfl) rfl ⟨by omega, by omega⟩ fun bs => ?_
            refine GO.appendOwn (m := 1) (news := [i64 (n : Nat)]) rfl rfl rfl (Tk.t (Tk.t Tk.h)) Tk.h rfl (by simp [Value.oneCell']) ⟨by decide, rfl⟩ Nat.one_pos (by unfold maxLen; omega) (by omega) fun v9' => ?_
            rw [natsV_one, show (behL T j n).length + 1 = (behL T j n ++ [n]).length by rw [List.length_append]; rfl, ← hy]
            (refine GO.assign rfl rfl ?_; refine GO.nil ?_; refine kblock_n ?_; refine kthen_n ?_; refine G.region ?_; refine GO.addi rfl rfl rfl (by omega) ?_; refine GO.move rfl rfl ?_; refine GO.nil ?_; refine kthen_n ?_)
            refine ⟨n + 1, v8, v9', by omega, by omega, ?_, ?_⟩
            · (refine SubE.c rfl rfl ?_; refine SubE.c rfl rfl ?_; refine SubE.c rfl rfl ?_; refine SubE.c rfl rfl ?_; refine SubE.c rfl rfl ?_; refine SubE.c rfl rfl ?_; refine SubE.c rfl rfl ?_; refine SubE.c rfl rfl ?_; exact SubE.n)
            · ((refine Sb.c (Tk.t (Tk.t Tk.h)) ?_; refine Sb.c Tk.h ?_; refine Sb.c (Tk.t Tk.h) ?_; refine Sb.c (Tk.t Tk.h) ?_; refine Sb.c (Tk.t Tk.h) ?_; refine Sb.c (Tk.t Tk.h) ?_; refine Sb.c (Tk.t Tk.h) ?_; refine Sb.c (Tk.t Tk.h) ?_; refine Sb.c (Tk.t Tk.h) ?_); (refine Sb.s ?_; exact Sb.r))
          | false =>
            rw [hjn] at q6
            have hy := beh_no (T := T) (j := j) (n := n) (by rw [hjn, decide_eq_false hnj]; rfl)
            rw [← hy]
            (refine GO.gT rfl rfl (by assumption) ?_; refine GO.move rfl rfl ?_; refine GO.gT rfl rfl (by assumption) ?_; refine GO.nilCheck rfl rfl ?_; refine GO.gT rfl rfl (by assumption) ?_; refine GO.fieldAddr rfl rfl ?_; refine GO.gT rfl rfl (by assumption) ?_; refine GO.load1 rfl rfl rfl (Tk.t (Tk.t Tk.h)) rfl ?_; refine GO.gT rfl rfl (by assumption) ?_; refine GO.move rfl rfl ?_; refine GO.gT rfl rfl (by assumption) ?_; refine GO.idxS rfl rfl rfl ⟨rfl, by omega⟩ ?_; refine GO.gT rfl rfl (by assumption) ?_; refine GO.loadQ rfl rfl rfl (Tk.t (Tk.t (Tk.t (Tk.t Tk.h)))) (by assumption) ?_; refine GO.gT rfl rfl (by assumption) ?_; refine GO.move rfl rfl ?_; refine GO.gT rfl rfl (by assumption) ?_; refine GO.idxS rfl rfl rfl ⟨rfl, by omega⟩ ?_; refine GO.gT rfl rfl (by assumption) ?_; refine GO.loadQ rfl rfl rfl (Tk.t (Tk.t (Tk.t (Tk.t (Tk.t Tk.h))))) (by assumption) ?_; refine GO.pickFa rfl rfl (by assumption) rfl ?_; refine GO.nil ?_; refine kthen_n ?_; refine G.condF rfl rfl ?_; refine G.skip ?_; refine kblock_n ?_; refine kthen_n ?_; refine G.region ?_; refine GO.addi rfl rfl rfl (by omega) ?_; refine GO.move rfl rfl ?_; refine GO.nil ?_; refine kthen_n ?_)
            refine ⟨n + 1, v8, v9, by omega, by omega, ?_, ?_⟩
            · (refine SubE.c rfl rfl ?_; refine SubE.c rfl rfl ?_; refine SubE.c rfl rfl ?_; refine SubE.c rfl rfl ?_; refine SubE.c rfl rfl ?_; refine SubE.c rfl rfl ?_; refine SubE.c rfl rfl ?_; refine SubE.c rfl rfl ?_; exact SubE.n)
            · ((refine Sb.c Tk.h ?_; refine Sb.c Tk.h ?_; refine Sb.c Tk.h ?_; refine Sb.c Tk.h ?_; refine Sb.c Tk.h ?_; refine Sb.c Tk.h ?_; refine Sb.c Tk.h ?_; refine Sb.c Tk.h ?_; refine Sb.c Tk.h ?_); (exact Sb.r))
      · obtain rfl : n = s := by omega
        have mb := fun a u (h : (befL T i n)[a]? = some u) => (bef_mem.1 (List.mem_of_getElem? h)).1
        have mh := fun a u (h : (behL T j n)[a]? = some u) => (beh_mem.1 (List.mem_of_getElem? h)).1
        have ub := up_nodup (bef_up T i n)
        have uh := up_nodup (beh_up T j n)
        have lb := bef_len T i n
        have lh := beh_len T j n
        generalize befL T i n = L1 at *
        generalize behL T j n = L2 at *
        have n0 : newC T (prs L1 L2 0 0) = [] := by rw [prs_zero0]; unfold newC; rfl
        have t0 : layT T L1 L2 0 0 = T := by unfold layT; rw [prs_zero0]; exact setC_nil T
        have tf : setC T (prs L1 L2 L1.length 0) = layT T L1 L2 L1.length 0 := by unfold layT; rfl
        have te := fun a u (h : L1[a]? = some u) => prs_end (l := L2) h
        have ts := fun a m u v (h : L1[a]? = some u) (g : L2[m]? = some v) => prs_succ h g
        have tn := fun a m u v (h : L1[a]? = some u) (g : L2[m]? = some v) => prs_not ub uh h g
        rw [tf]
        clear hfin hnew ub uh q1 q2 q3 q4 q5 q6
        refine G.ownRd Tk.h fun z1 hz1 => ?_
        refine G.ownRd (Tk.t Tk.h) fun z2 hz2 => ?_
        obtain ⟨a1, c1, rfl, _, hr1⟩ := hz1
        obtain ⟨a2, c2, rfl, _, hr2⟩ := hz2
        (refine G.exit ?_; refine kthen_x ?_; refine kthen_x ?_; refine kblock_x ?_; refine kthen_n ?_; refine G.seq ?_; refine G.region ?_; refine GO.move rfl rfl ?_; refine GO.lenS rfl rfl ?_; refine GO.move rfl rfl ?_; refine GO.nil ?_; refine kthen_n ?_; refine G.block ?_)
        refine G.loop (fun a : Nat => [(0, ptrV bk), (3, y), (9, .slice a2 L2.length c2), (79, .slice a1 L1.length c1), (80, i64 (L1.length : Nat)), (81, i64 (a : Nat))])
          (fun a => hdK n bk d (cntX (layT T L1 L2 a 0)) :: mat n (addX S i j) d.bs :: rowsO n d.bt d.ct d.bst d.cst :: rowsF n d.bst d.cst (layT T L1 L2 a 0) :: rowsO n d.bf d.cf d.bsf d.csf :: rowsF n d.bsf d.csf (flipX (layT T L1 L2 a 0)) :: Acc (l0 ++ newC T (prs L1 L2 a 0)) :: z1 :: z2 :: F) (fun a => a ≤ L1.length) (fun a => L1.length - a) 0 (by omega) ?_ ?_ ?_
        · (refine SubE.c rfl rfl ?_; refine SubE.c rfl rfl ?_; refine SubE.c rfl rfl ?_; refine SubE.c rfl rfl ?_; refine SubE.c rfl rfl ?_; refine SubE.c rfl rfl ?_; exact SubE.n)
        · rw [n0, t0, List.append_nil]
          ((refine Sb.c (Tk.t (Tk.t Tk.h)) ?_; refine Sb.c (Tk.t (Tk.t Tk.h)) ?_; refine Sb.c (Tk.t (Tk.t Tk.h)) ?_; refine Sb.c (Tk.t (Tk.t Tk.h)) ?_; refine Sb.c (Tk.t (Tk.t Tk.h)) ?_; refine Sb.c (Tk.t (Tk.t Tk.h)) ?_; refine Sb.c (Tk.t (Tk.t Tk.h)) ?_; refine Sb.c (Tk.t Tk.h) ?_; refine Sb.c Tk.h ?_); (exact Sb.r))
        · rintro a ha
          (refine G.seq ?_; refine G.region ?_; refine GO.lti rfl rfl rfl ?_; refine GO.nil ?_; refine kthen_n ?_; refine G.seq ?_)
          refine G.condD rfl (fun hlt => ?_) (fun hge => ?_)
          · have hal : a < L1.length := by omega
            obtain ⟨u, hu⟩ : ∃ u, L1[a]? = some u := ⟨_, List.getElem?_eq_getElem hal⟩
            have hus := mb a u hu
            have te := te a u hu
            have ts := fun m v => ts a m u v hu
            have tn := fun m v => tn a m u v hu
            obtain ⟨o1, p1, rfl, hs1⟩ := hr1 (by omega)
            have r1 : Rd z1 ⟨o1, p1 + a * 1, none⟩ (i64 (u : Nat)) := by rw [Nat.mul_one]; exact hs1 _ _ (natsV_get hu)
            have g1 : Rd (rowsO n d.bt d.ct d.bst d.cst) ⟨d.bt, 0 + u * 1, none⟩ (rowS n d.bst d.cst u) := by rw [Nat.zero_add, Nat.mul_one]; exact rowsO_rd hus
            (refine G.skip ?_; refine kthen_n ?_; refine G.seq ?_; refine G.block ?_; refine G.seq ?_; refine G.region ?_; refine GO.idxS rfl rfl rfl ⟨rfl, by omega⟩ ?_; refine GO.loadQ rfl rfl rfl (Tk.t (Tk.t (Tk.t (Tk.t (Tk.t (Tk.t (Tk.t Tk.h))))))) (by assumption) ?_; refine GO.assign rfl rfl ?_; refine GO.nil ?_; refine kthen_n ?_; refine G.seq ?_; refine G.region ?_; refine GO.move rfl rfl ?_; refine GO.lenS rfl rfl ?_; refine GO.move rfl rfl ?_; refine GO.nil ?_; refine kthen_n ?_; refine G.block ?_)
            refine G.loop (fun m : Nat => [(0, ptrV bk), (3, y), (9, .slice a2 L2.length c2), (12, i64 (u : Nat)), (79, .slice (some ⟨o1, p1, none⟩) L1.length c1), (80, i64 (L1.length : Nat)), (81, i64 (a : Nat)), (85, .slice a2 L2.length c2), (86, i64 (L2.length : Nat)), (87, i64 (m : Nat))])
              (fun m => hdK n bk d (cntX (layT T L1 L2 a m)) :: mat n (addX S i j) d.bs :: rowsO n d.bt d.ct d.bst d.cst :: rowsF n d.bst d.cst (layT T L1 L2 a m) :: rowsO n d.bf d.cf d.bsf d.csf :: rowsF n d.bsf d.csf (flipX (layT T L1 L2 a m)) :: Acc (l0 ++ newC T (prs L1 L2 a m)) :: z1 :: z2 :: F) (fun m => m ≤ L2.length) (fun m => L2.length - m) 0 (by omega) ?_ ?_ ?_
            · (refine SubE.c rfl rfl ?_; refine SubE.c rfl rfl ?_; refine SubE.c rfl rfl ?_; refine SubE.c rfl rfl ?_; refine SubE.c rfl rfl ?_; refine SubE.c rfl rfl ?_; refine SubE.c rfl rfl ?_; refine SubE.c rfl rfl ?_; refine SubE.c rfl rfl ?_; refine SubE.c rfl rfl ?_; exact SubE.n)
            · ((refine Sb.c Tk.h ?_; refine Sb.c Tk.h ?_; refine Sb.c Tk.h ?_; refine Sb.c Tk.h ?_; refine Sb.c Tk.h ?_; refine Sb.c Tk.h ?_; refine Sb.c Tk.h ?_; refine Sb.c Tk.h ?_; refine Sb.c Tk.h ?_); (exact Sb.r))
            · rintro m hm
              (refine G.seq ?_; refine G.region ?_; refine GO.lti rfl rfl rfl ?_; refine GO.nil ?_; refine kthen_n ?_; refine G.seq ?_)
              refine G.condD rfl (fun hlt2 => ?_) (fun hge => ?_)
              · have hml : m < L2.length := by omega
                obtain ⟨v, hv⟩ : ∃ v, L2[m]? = some v := ⟨_, List.getElem?_eq_getElem hml⟩
                have hvs := mh m v hv
                have ts := ts m v hv
                have tn := tn m v hv
                have tl : layT T L1 L2 a (m + 1) = addX (layT T L1 L2 a m) u v := by unfold layT; rw [ts, setC_snoc]
                have tk : layT T L1 L2 a m u v = T u v := by unfold layT; exact setC_keep tn
                obtain ⟨o2, p2, rfl, hs2⟩ := hr2 (by omega)
                have r2 : Rd z2 ⟨o2, p2 + m * 1, none⟩ (i64 (v : Nat)) := by rw [Nat.mul_one]; exact hs2 _ _ (natsV_get hv)
                have g2 : Rd (rowsF n d.bst d.cst (layT T L1 L2 a m)) ⟨d.bst u, 0 + v * 1, none⟩ (.bool (T u v)) := by rw [← tk, Nat.zero_add, Nat.mul_one]; exact rowsF_rd hus hvs
                have g3 : Rd (rowsO n d.bf d.cf d.bsf d.csf) ⟨d.bf, 0 + v * 1, none⟩ (rowS n d.bsf d.csf v) := by rw [Nat.zero_add, Nat.mul_one]; exact rowsO_rd hvs
                cases huv : T u v with
                | true =>
                  rw [huv] at g2
                  have e3 : layT T L1 L2 a (m + 1) = layT T L1 L2 a m := by rw [tl]; exact addX_has (by rw [tk]; exact huv)
                  have e4 : newC T (prs L1 L2 a (m + 1)) = newC T (prs L1 L2 a m) := by rw [ts]; exact newC_no huv
                  (refine G.skip ?_; refine kthen_n ?_; refine G.seq ?_; refine G.block ?_; refine G.seq ?_; refine G.region ?_; refine GO.idxS rfl rfl rfl ⟨rfl, by omega⟩ ?_; refine GO.loadQ rfl rfl rfl (Tk.t (Tk.t (Tk.t (Tk.t (Tk.t (Tk.t (Tk.t (Tk.t Tk.h)))))))) (by assumption) ?_; refine GO.assign rfl rfl ?_; refine GO.nil ?_; refine kthen_n ?_; refine G.seq ?_; refine G.region ?_; refine GO.move rfl rfl ?_; refine GO.nilCheck rfl rfl ?_; refine GO.fieldAddr rfl rfl ?_; refine GO.load1 rfl rfl rfl Tk.h rfl ?_; refine GO.move rfl rfl ?_; refine GO.idxS rfl rfl rfl ⟨rfl, by omega⟩ ?_; refine GO.loadQ rfl rfl rfl (Tk.t (Tk.t Tk.h)) (by assumption) ?_; refine GO.move rfl rfl ?_; refine GO.idxS rfl rfl rfl ⟨rfl, by omega⟩ ?_; refine GO.loadQ rfl rfl rfl (Tk.t (Tk.t (Tk.t Tk.h))) (by assumption) ?_; refine GO.not rfl rfl ?_; refine GO.nil ?_; refine kthen_n ?_; refine G.condF rfl rfl ?_; refine G.skip ?_; refine kblock_n ?_; refine kthen_n ?_; refine G.region ?_; refine GO.addi rfl rfl rfl (by omega) ?_; refine GO.move rfl rfl ?_; refine GO.nil ?_; refine kthen_n ?_)
                  refine ⟨m + 1, by omega, by omega, ?_, ?_⟩
                  · (refine SubE.c rfl rfl ?_; refine SubE.c rfl rfl ?_; refine SubE.c rfl rfl ?_; refine SubE.c rfl rfl ?_; refine SubE.c rfl rfl ?_; refine SubE.c rfl rfl ?_; refine SubE.c rfl rfl ?_; refine SubE.c rfl rfl ?_; refine SubE.c rfl rfl ?_; refine SubE.c rfl rfl ?_; exact SubE.n)
                  · rw [e3, e4]
                    ((refine Sb.c Tk.h ?_; refine Sb.c Tk.h ?_; refine Sb.c Tk.h ?_; refine Sb.c Tk.h ?_; refine Sb.c Tk.h ?_; refine Sb.c Tk.h ?_; refine Sb.c Tk.h ?_; refine Sb.c Tk.h ?_; refine Sb.c Tk.h ?_); (exact Sb.r))
                | false =>
                  rw [huv] at g2
                  have e4 : newC T (prs L1 L2 a (m + 1)) = newC T (prs L1 L2 a m) ++ [(u, v)] := by rw [ts]; exact newC_yes huv
                  have hcm := cnt_max (layT T L1 L2 a m)
                  have e5 : cntX (layT T L1 L2 a (m + 1)) = cntX (layT T L1 L2 a m) + 1 := by rw [tl]; exact cntX_add (by omega) (by omega) (by rw [tk]; exact huv)
                  have hle : (l0 ++ newC T (prs L1 L2 a m)).length ≤ 2097152 := by
                    have g1 := prs_len (l := L2) hal hm
                    have g2 : L1.length * L2.length ≤ 1024 * 1024 := Nat.mul_le_mul (by omega) (by omega)
                    have g3 : (newC T (prs L1 L2 a m)).length ≤ (prs L1 L2 a m).length := newC_len _ _
                    rw [List.length_append]
                    omega
                  have ht := htell (l0 ++ newC T (prs L1 L2 a m)) u v hle hus hvs
                  rw [List.append_assoc, ← e4] at ht
                  have o1e : 0 + v * 1 = v := by omega
                  have o2e : 0 + u * 1 = u := by omega
                  (refine G.skip ?_; refine kthen_n ?_; refine G.seq ?_; refine G.block ?_; refine G.seq ?_; refine G.region ?_; refine GO.idxS rfl rfl rfl ⟨rfl, by omega⟩ ?_; refine GO.loadQ rfl rfl rfl (Tk.t (Tk.t (Tk.t (Tk.t (Tk.t (Tk.t (Tk.t (Tk.t Tk.h)))))))) (by assumption) ?_; refine GO.assign rfl rfl ?_; refine GO.nil ?_; refine kthen_n ?_; refine G.seq ?_; refine G.region ?_; refine GO.move rfl rfl ?_; refine GO.nilCheck rfl rfl ?_; refine GO.fieldAddr rfl rfl ?_; refine GO.load1 rfl rfl rfl Tk.h rfl ?_; refine GO.move rfl rfl ?_; refine GO.idxS rfl rfl rfl ⟨rfl, by omega⟩ ?_; refine GO.loadQ rfl rfl rfl (Tk.t (Tk.t Tk.h)) (by assumption) ?_; refine GO.move rfl rfl ?_; refine GO.idxS rfl rfl rfl ⟨rfl, by omega⟩ ?_; refine GO.loadQ rfl rfl rfl (Tk.t (Tk.t (Tk.t Tk.h))) (by assumption) ?_; refine GO.not rfl rfl ?_; refine GO.nil ?_; refine kthen_n ?_; refine G.condT rfl rfl ?_; refine G.seq ?_)
                  refine G.drawT 20 655360 [hdK n bk d (cntX (layT T L1 L2 a m)), rowsO n d.bt d.ct d.bst d.cst, rowsO n d.bf d.cf d.bsf d.csf] (rowsF n d.bst d.cst (layT T L1 L2 a m) :: rowsF n d.bsf d.csf (flipX (layT T L1 L2 a m)) :: mat n (addX S i j) d.bs :: Acc (l0 ++ newC T (prs L1 L2 a m)) :: z1 :: z2 :: F) (by kernel_rfl) (keys_of rfl) (ImpS.sb (by ((refine Sb.c Tk.h ?_; refine Sb.c (Tk.t Tk.h) ?_; refine Sb.c (Tk.t (Tk.t Tk.h)) ?_; refine Sb.c (Tk.t Tk.h) ?_; refine Sb.c (Tk.t Tk.h) ?_; refine Sb.c Tk.h ?_; refine Sb.c Tk.h ?_; refine Sb.c Tk.h ?_; refine Sb.c Tk.h ?_); (exact Sb.r)))) ?_
                  ((apply GR.step rfl; focus (intro Z; refine GO.move rfl rfl ?_; exact KQ.z)); (apply GR.step rfl; focus (intro Z; refine GO.nilCheck rfl rfl ?_; exact KQ.z)); (apply GR.step rfl; focus (intro Z; refine GO.fieldAddr rfl rfl ?_; exact KQ.z)); (apply GR.step rfl; focus (intro Z; refine GO.load1 rfl rfl rfl Tk.h rfl ?_; exact KQ.z)); (apply GR.step rfl; focus (intro Z; refine GO.move rfl rfl ?_; exact KQ.z)); (apply GR.step rfl; focus (intro Z; refine GO.idxS rfl rfl rfl ⟨rfl, by omega⟩ ?_; exact KQ.z)); (apply GR.step rfl; focus (intro Z; refine GO.loadQ rfl rfl rfl (Tk.t Tk.h) (by assumption) ?_; exact KQ.z)); (apply GR.step rfl; focus (intro Z; refine GO.move rfl rfl ?_; exact KQ.z)); (apply GR.step rfl; focus (intro Z; refine GO.move rfl rfl ?_; exact KQ.z)); (apply GR.step rfl; focus (intro Z; refine GO.nilCheck rfl rfl ?_; exact KQ.z)); (apply GR.step rfl; focus (intro Z; refine GO.fieldAddr rfl rfl ?_; exact KQ.z)); (apply GR.step rfl; focus (intro Z; refine GO.load1 rfl rfl rfl Tk.h rfl ?_; exact KQ.z)); (apply GR.step rfl; focus (intro Z; refine GO.move rfl rfl ?_; exact KQ.z)); (apply GR.step rfl; focus (intro Z; refine GO.idxS rfl rfl rfl ⟨rfl, by omega⟩ ?_; exact KQ.z)); (apply GR.step rfl; focus (intro Z; refine GO.loadQ rfl rfl rfl (Tk.t (Tk.t Tk.h)) (by assumption) ?_; exact KQ.z)); (apply GR.step rfl; focus (intro Z; refine GO.move rfl rfl ?_; exact KQ.z)); (apply GR.step rfl; focus (intro Z; refine GO.idxS rfl rfl rfl ⟨rfl, by omega⟩ ?_; exact KQ.z)); refine GR.skip rfl ?_; (apply GR.step rfl; focus (intro Z; refine GO.idxS rfl rfl rfl ⟨rfl, by omega⟩ ?_; exact KQ.z)); refine GR.skip rfl ?_; refine GR.nil ?_)
                  (repeat refine GT.skip rfl ?_)
                  refine GT.step rfl ?_
                  refine GO.storeF (i := u) (j := v) hus hvs o1e rfl rfl (Tk.t (Tk.t (Tk.t Tk.h))) ?_
                  rw [upd_add, ← tl]
                  refine GO.nil ⟨rfl, .tuple #[], rowsF n d.bst d.cst (layT T L1 L2 a (m + 1)) :: rowsF n d.bsf d.csf (flipX (layT T L1 L2 a m)) :: mat n (addX S i j) d.bs :: Acc (l0 ++ newC T (prs L1 L2 a m)) :: z1 :: z2 :: F, rfl, ImpS.sb (by ((refine Sb.c (Tk.t Tk.h) ?_; refine Sb.c (Tk.t Tk.h) ?_; refine Sb.c (Tk.t Tk.h) ?_; refine Sb.c Tk.h ?_; refine Sb.c Tk.h ?_; refine Sb.c Tk.h ?_; refine Sb.c Tk.h ?_; refine Sb.c Tk.h ?_; refine Sb.c Tk.h ?_); (exact Sb.r))), ?_⟩
                  (repeat refine GT.skip rfl ?_)
                  refine GT.step rfl ?_
                  refine GO.storeF (i := v) (j := u) hvs hus o2e rfl rfl (Tk.t (Tk.t (Tk.t (Tk.t Tk.h)))) ?_
                  rw [upd_flip, ← tl]
                  refine GO.nil ⟨rfl, .tuple #[], rowsF n d.bst d.cst (layT T L1 L2 a (m + 1)) :: rowsF n d.bsf d.csf (flipX (layT T L1 L2 a (m + 1))) :: mat n (addX S i j) d.bs :: Acc (l0 ++ newC T (prs L1 L2 a m)) :: z1 :: z2 :: F, rfl, ImpS.sb (by ((refine Sb.c (Tk.t Tk.h) ?_; refine Sb.c (Tk.t Tk.h) ?_; refine Sb.c (Tk.t Tk.h) ?_; refine Sb.c (Tk.t Tk.h) ?_; refine Sb.c Tk.h ?_; refine Sb.c Tk.h ?_; refine Sb.c Tk.h ?_; refine Sb.c Tk.h ?_; refine Sb.c Tk.h ?_); (exact Sb.r))), ?_⟩
                  (repeat refine GT.skip rfl ?_)
                  refine GT.nil ?_
                  (refine GO.nil ?_; refine kthen_n ?_; refine G.seq ?_; refine G.region ?_; refine GO.move rfl rfl ?_; refine GO.nilCheck rfl rfl ?_; refine GO.fieldAddr rfl rfl ?_; refine GO.load1 rfl rfl rfl Tk.h rfl ?_; refine GO.addi rfl rfl rfl (by omega) ?_; refine GO.nilCheck rfl rfl ?_; refine GO.fieldAddr rfl rfl ?_; refine GO.store1 rfl rfl rfl Tk.h (by simp) ?_; refine GO.nil ?_; refine kthen_n ?_; refine G.region ?_; refine GO.move rfl rfl ?_; refine GO.move rfl rfl ?_; refine GO.move rfl rfl ?_; refine GO.build2 rfl rfl rfl rfl ?_)
                  rw [show ((cntX (layT T L1 L2 a m) : Nat) : Int) + 1 = ((cntX (layT T L1 L2 a (m + 1)) : Nat) : Int) by rw [e5]; rfl]
                  refine GO.callV1 rfl rfl rfl (ht) (Tks.c (Tk.t (Tk.t (Tk.t (Tk.t (Tk.t (Tk.t Tk.h)))))) Tks.n) ?_
                  rintro _ _ rfl
                  (refine GO.nil ?_; refine kblock_n ?_; refine kthen_n ?_; refine G.region ?_; refine GO.addi rfl rfl rfl (by omega) ?_; refine GO.move rfl rfl ?_; refine GO.nil ?_; refine kthen_n ?_)
                  refine ⟨m + 1, by omega, by omega, ?_, ?_⟩
                  · (refine SubE.c rfl rfl ?_; refine SubE.c rfl rfl ?_; refine SubE.c rfl rfl ?_; refine SubE.c rfl rfl ?_; refine SubE.c rfl rfl ?_; refine SubE.c rfl rfl ?_; refine SubE.c rfl rfl ?_; refine SubE.c rfl rfl ?_; refine SubE.c rfl rfl ?_; refine SubE.c rfl rfl ?_; exact SubE.n)
                  · ((refine Sb.c (Tk.t Tk.h) ?_; refine Sb.c (Tk.t (Tk.t (Tk.t (Tk.t (Tk.t Tk.h))))) ?_; refine Sb.c (Tk.t Tk.h) ?_; refine Sb.c (Tk.t (Tk.t Tk.h)) ?_; refine Sb.c (Tk.t Tk.h) ?_; refine Sb.c (Tk.t Tk.h) ?_; refine Sb.c Tk.h ?_; refine Sb.c Tk.h ?_; refine Sb.c Tk.h ?_); (exact Sb.r))
              · obtain rfl : m = L2.length := by omega
                have e6 : layT T L1 L2 a L2.length = layT T L1 L2 (a + 1) 0 := by unfold layT; rw [te]
                rw [e6, te]
                (refine G.exit ?_; refine kthen_x ?_; refine kthen_x ?_; refine kblock_x ?_; refine kblock_n ?_; refine kthen_n ?_; refine G.region ?_; refine GO.addi rfl rfl rfl (by omega) ?_; refine GO.move rfl rfl ?_; refine GO.nil ?_; refine kthen_n ?_)
                refine ⟨a + 1, by omega, by omega, ?_, ?_⟩
                · (refine SubE.c rfl rfl ?_; refine SubE.c rfl rfl ?_; refine SubE.c rfl rfl ?_; refine SubE.c rfl rfl ?_; refine SubE.c rfl rfl ?_; refine SubE.c rfl rfl ?_; exact SubE.n)
                · ((refine Sb.c Tk.h ?_; refine Sb.c Tk.h ?_; refine Sb.c Tk.h ?_; refine Sb.c Tk.h ?_; refine Sb.c Tk.h ?_; refine Sb.c Tk.h ?_; refine Sb.c Tk.h ?_; refine Sb.c Tk.h ?_; refine Sb.c Tk.h ?_); (exact Sb.r))
          · obtain rfl : a = L1.length := by omega
            (refine G.exit ?_; refine kthen_x ?_; refine kthen_x ?_; refine kblock_x ?_)
            refine KF2.n0 rfl rfl (ImpS.sb ?_)
            ((refine Sb.c Tk.h ?_; refine Sb.c Tk.h ?_; refine Sb.c Tk.h ?_; refine Sb.c Tk.h ?_; refine Sb.c Tk.h ?_; refine Sb.c Tk.h ?_; refine Sb.c Tk.h ?_); (refine Sb.s ?_; refine Sb.s ?_; exact Sb.r))
end Go.Proofs.YtpfcgfgkmgnaaaaDoor
namespace Go.Proofs.YtpfcgfgkmgnaaaaDoor
open Go
theorem fam_snoc {T : TypeId} {sz k : Nat} {vs : Nat → Value} {ln : Nat → Nat} {xs : Nat → List Value} {F : List HP} : ImpS (own T sz (ln k) (vs k) (xs k) :: fam T sz k vs ln xs :: F) (fam T sz (k + 1) vs ln xs :: F) := fun l w s => by
  unfold fam at *
  have s1 := sat_perm (List.Perm.swap _ _ _) s
  have s2 := sat_flat.1 s1
  refine sat_flat.2 ?_
  rw [List.range_succ, List.map_append, List.append_assoc]
  exact s2
theorem fam_zero {T : TypeId} {sz : Nat} {vs : Nat → Value} {ln : Nat → Nat} {xs : Nat → List Value} {F : List HP} : ImpS F (fam T sz 0 vs ln xs :: F) := fun l w s => by
  unfold fam
  exact sat_flat.2 s
section
variable {P : Program} {c : Cx} {K : Kont} {L : Env} {H F : List HP} {s : Nat} {T : Nat → Nat → Bool} {v : Value} {vs : Nat → Value} {C : Code}
theorem G.gridIn (hs : 0 < s) (tk : Tks [own 75 1 s v (rowV (fun v : Value => v) vs s), fam 4 1 s vs (fun _ => s) (fun i => boolsV (T i) s)] H F)
    (k : ∀ bo co bs caps, v = .slice (some ⟨bo, 0, none⟩) s co → s ≤ co → G P c C K L (rowsO s bo co bs caps :: rowsF s bs caps T :: F)) : G P c C K L H := by
  rintro a w ⟨h1, h2, ds, h3, h4, h5⟩
  obtain ⟨bo, co, bs, caps, e1, e2, h6⟩ := grid_form hs (sat_perm (List.Perm.append_right _ tk) h5)
  exact k bo co bs caps e1 e2 a w ⟨h1, h2, ds, h3, h4, h6⟩
end
attribute [local irreducible] G GO GR GT Fn FnV pt init exs pur sat own ImpS mat posL allV orL restX cellsX cellsV cntX
set_option maxHeartbeats 8000000 in
theorem grid_spec (s : Nat) (h1 : 1 ≤ s) (h2 : s ≤ 1024) : Fn Tryd.prog 41 #[i64 (s : Nat)] [] (fun r Q => ∃ bo co bs caps, r = .slice (some ⟨bo, 0, none⟩) s co ∧ Q = [rowsO s bo co bs caps, rowsF s bs caps noX]) := by
  refine Fn.mk2 Tryd.func41 rfl rfl fun w0 F => ?_
  (refine G.seq ?_; refine G.region ?_; refine GO.assign rfl rfl ?_; refine GO.nil ?_; refine kthen_n ?_; refine G.seq ?_; refine G.region ?_; refine GO.move rfl rfl ?_)
  refine GO.make1 (n := s) rfl rfl rfl ⟨rfl, rfl⟩ ⟨by omega, by omega⟩ fun bl => ?_
  rw [show List.replicate s (Value.slice none 0 0) = rowV (fun v : Value => v) (fun _ => .slice none 0 0) s from rowV_const (f := fun v : Value => v) (a := .slice none 0 0)]
  (refine GO.assign rfl rfl ?_; refine GO.nil ?_; refine kthen_n ?_; refine G.seq ?_; refine G.seq ?_; refine G.region ?_; refine GO.move rfl rfl ?_; refine GO.lenS rfl rfl ?_; refine GO.move rfl rfl ?_; refine GO.nil ?_; refine kthen_n ?_; refine G.block ?_)
  refine G.impS (H' := fam 4 1 0 (fun _ => .slice none 0 0) (fun _ => s) (fun i => boolsV (noX i) s) :: pt bl (row (rowV (fun v : Value => v) (fun _ => .slice none 0 0) s) 75) :: F) (ImpS.trans (ImpS.sb (by ((refine Sb.c Tk.h ?_); (exact Sb.r)))) fam_zero) ?_
  refine G.loop2 (fun (k : Nat) (_ : Nat → Value) => [(0, i64 (s : Nat)), (3, .slice (some ⟨bl, 0, none⟩) s s), (7, .slice (some ⟨bl, 0, none⟩) s s), (8, i64 (s : Nat)), (9, i64 (k : Nat))])
    (fun k vs => fam 4 1 k vs (fun _ => s) (fun i => boolsV (noX i) s) :: pt bl (row (rowV (fun v : Value => v) vs s) 75) :: F) (fun k _ => k ≤ s) (fun k _ => s - k) 0 (fun _ => .slice none 0 0) (by omega) ?_ ?_ ?_
  · (refine SubE.c rfl rfl ?_; refine SubE.c rfl rfl ?_; refine SubE.c rfl rfl ?_; refine SubE.c rfl rfl ?_; refine SubE.c rfl rfl ?_; exact SubE.n)
  · ((refine Sb.c Tk.h ?_; refine Sb.c Tk.h ?_); (exact Sb.r))
  · rintro k vs hk
    (refine G.seq ?_; refine G.region ?_; refine GO.lti rfl rfl rfl ?_; refine GO.nil ?_; refine kthen_n ?_; refine G.seq ?_)
    refine G.condD rfl (fun hlt => ?_) (fun hge => ?_)
    · have hks : k < s := by omega
      (refine G.skip ?_; refine kthen_n ?_; refine G.seq ?_; refine G.block ?_; refine G.seq ?_; refine G.region ?_; refine GO.move rfl rfl ?_; refine GO.assign rfl rfl ?_; refine GO.nil ?_; refine kthen_n ?_; refine G.region ?_; refine GO.move rfl rfl ?_; refine GO.move rfl rfl ?_; refine GO.move rfl rfl ?_)
      refine GO.make1 (n := s) rfl rfl rfl ⟨rfl, rfl⟩ ⟨by omega, by omega⟩ fun bn => ?_
      rw [show List.replicate s (Value.bool false) = boolsV (noX k) s from rowV_const (f := Value.bool) (a := false)]
      (refine GO.idxS rfl rfl rfl ⟨rfl, by omega⟩ ?_)
      refine GO.store1 rfl rfl rfl (Tk.t (Tk.t Tk.h)) (by rw [rowV_len]; omega) ?_
      rw [rowV_set (f := fun v : Value => v)]
      refine GO.ownIn (n := s) (sz := 1) (T := 4) (xs := boolsV (noX k) s) (Tk.t Tk.h) (by rw [rowV_len, Nat.mul_one]) (by unfold maxLen; omega) ?_
      refine GO.keep (H' := fam 4 1 (k + 1) (upd vs k (.slice (some ⟨bn, 0, none⟩) s s)) (fun _ => s) (fun i => boolsV (noX i) s) :: pt bl (row (rowV (fun v : Value => v) (upd vs k (.slice (some ⟨bn, 0, none⟩) s s)) s) 75) :: F) ?_ ?_
      · refine ImpS.trans ?_ (fam_snoc (T := 4) (sz := 1) (k := k) (vs := upd vs k (.slice (some ⟨bn, 0, none⟩) s s)) (ln := fun _ => s) (xs := fun i => boolsV (noX i) s))
        rw [upd_at, show fam 4 1 k (upd vs k (.slice (some ⟨bn, 0, none⟩) s s)) (fun _ => s) (fun i => boolsV (noX i) s) = fam 4 1 k vs (fun _ => s) (fun i => boolsV (noX i) s) from fam_congr fun i hi => ⟨upd_ne _ _ (by omega), rfl, rfl⟩]
        refine ImpS.sb ?_
        ((refine Sb.c Tk.h ?_; refine Sb.c (Tk.t Tk.h) ?_; refine Sb.c Tk.h ?_); (exact Sb.r))
      (refine GO.nil ?_; refine kblock_n ?_; refine kthen_n ?_; refine G.region ?_; refine GO.addi rfl rfl rfl (by omega) ?_; refine GO.move rfl rfl ?_; refine GO.nil ?_; refine kthen_n ?_)
      refine ⟨k + 1, upd vs k (.slice (some ⟨bn, 0, none⟩) s s), by omega, by omega, ?_, ?_⟩
      · (refine SubE.c rfl rfl ?_; refine SubE.c rfl rfl ?_; refine SubE.c rfl rfl ?_; refine SubE.c rfl rfl ?_; refine SubE.c rfl rfl ?_; exact SubE.n)
      · ((refine Sb.c Tk.h ?_; refine Sb.c Tk.h ?_); (exact Sb.r))
    · obtain rfl : k = s := by omega
      refine G.ownIn (n := k) (sz := 1) (T := 75) (Tk.t Tk.h) (by rw [rowV_len, Nat.mul_one]) (by unfold maxLen; omega) ?_
      refine G.gridIn (s := k) (T := noX) (by omega) (Tks.c Tk.h (Tks.c Tk.h Tks.n)) fun bo co bs caps e1 e2 => ?_
      injection e1 with e1 _ e3
      injection e1 with e1
      injection e1 with e1
      subst e1 e3
      (refine G.exit ?_; refine kthen_x ?_; refine kthen_x ?_; refine kblock_x ?_; refine kthen_n ?_; refine G.seq ?_; refine G.region ?_; refine GO.move rfl rfl ?_; refine GO.assign rfl rfl ?_; refine GO.nil ?_; refine kthen_n ?_; refine G.ret ?_)
      refine KF2.r1 rfl (RV.t rfl) ⟨_, _, bs, caps, rfl, rfl⟩ (ImpS.sb ?_)
      ((refine Sb.c Tk.h ?_; refine Sb.c Tk.h ?_); (exact Sb.r))
theorem built_keep (b : Nat) (v1 v2 : Value) (h1 : v1.oneCell' = true) (h2 : v2.oneCell' = true) (bo1 bo2 s c1 c2 : Nat) (e1 : v1 = .slice (some ⟨bo1, 0, none⟩) s c1) (e2 : v2 = .slice (some ⟨bo2, 0, none⟩) s c2) : Tryd.prog.built 83 [(0, ptrV b), (2, v1), (3, v2)] = some [ptrV b, i64 0, v1, v2].toArray := by
  subst e1 e2
  kernel_rfl
set_option maxHeartbeats 8000000 in
theorem knew_spec (n : Int) : Fn Tryd.prog 10 #[i64 n] [] (fun r Q => (∃ (s bk : Nat) (d : KD), n = s ∧ 1 ≤ s ∧ s ≤ 1024 ∧ r = .tuple #[ptrV bk, i64 0] ∧ Q = keepL s bk d noX noX) ∨ (¬ (1 ≤ n ∧ n ≤ 1024) ∧ r = .tuple #[.pointer none, i64 2] ∧ Q = [])) := by
  refine Fn.mk2 Tryd.func10 rfl rfl fun w0 F => ?_
  (refine G.seq ?_; refine G.region ?_; refine GO.assign rfl rfl ?_; refine GO.assign rfl rfl ?_; refine GO.nil ?_; refine kthen_n ?_; refine G.seq ?_; refine G.region ?_; refine GO.move rfl rfl ?_)
  refine GO.call1 rfl rfl (new_spec n) Tks.n ?_
  rintro _ _ (⟨s, bs, rfl, hn1, hn2, rfl, rfl⟩ | ⟨hno, rfl, rfl⟩)
  · (refine GO.move rfl rfl ?_; refine GO.extract rfl rfl rfl ?_; refine GO.extract rfl rfl rfl ?_; refine GO.assign rfl rfl ?_; refine GO.assign rfl rfl ?_; refine GO.nil ?_; refine kthen_n ?_; refine G.seq ?_; refine G.seq ?_; refine G.region ?_; refine GO.move rfl rfl ?_; refine GO.neF rfl rfl rfl rfl ?_; refine GO.nil ?_; refine kthen_n ?_; refine G.condF rfl rfl ?_; refine G.skip ?_; refine kthen_n ?_; refine G.seq ?_; refine G.region ?_; refine GO.move rfl rfl ?_; refine GO.move rfl rfl ?_)
    refine GO.call1 rfl rfl (grid_spec s (by omega) (by omega)) Tks.n ?_
    rintro _ _ ⟨bt, ct, bst, cst, rfl, rfl⟩
    (refine GO.move rfl rfl ?_)
    refine GO.call1 rfl rfl (grid_spec s (by omega) (by omega)) Tks.n ?_
    rintro _ _ ⟨bf, cf, bsf, csf, rfl, rfl⟩
    refine GO.buildPart3 (built_keep bs _ _ rfl rfl bt bf s ct cf rfl rfl) rfl rfl rfl rfl ?_
    (refine GO.box rfl rfl rfl fun b20 => ?_; refine GO.assign rfl rfl ?_; refine GO.assign rfl rfl ?_; refine GO.nil ?_; refine kthen_n ?_; refine G.ret ?_)
    have e0 : cntX noX = 0 := cntX_no
    refine KF2.r2 rfl (RV.t rfl) (RV.t rfl) (.inl ⟨s, _, ⟨bs, bt, ct, bf, cf, bst, cst, bsf, csf⟩, rfl, by omega, by omega, rfl, rfl⟩) (ImpS.sb ?_)
    unfold keepL hdK
    rw [e0, show flipX noX = noX from rfl]
    ((refine Sb.c Tk.h ?_; refine Sb.c (Tk.t (Tk.t (Tk.t (Tk.t Tk.h)))) ?_; refine Sb.c (Tk.t (Tk.t Tk.h)) ?_; refine Sb.c (Tk.t (Tk.t Tk.h)) ?_; refine Sb.c Tk.h ?_; refine Sb.c Tk.h ?_); (exact Sb.r))
  · (refine GO.move rfl rfl ?_; refine GO.extract rfl rfl rfl ?_; refine GO.extract rfl rfl rfl ?_; refine GO.assign rfl rfl ?_; refine GO.assign rfl rfl ?_; refine GO.nil ?_; refine kthen_n ?_; refine G.seq ?_; refine G.seq ?_; refine G.region ?_; refine GO.move rfl rfl ?_; refine GO.nei rfl rfl rfl ?_; refine GO.nil ?_; refine kthen_n ?_; refine G.condT rfl rfl ?_; refine G.seq ?_; refine G.region ?_; refine GO.move rfl rfl ?_; refine GO.assign rfl rfl ?_; refine GO.assign rfl rfl ?_; refine GO.nil ?_; refine kthen_n ?_; refine G.ret ?_; refine kthen_r ?_)
    refine KF2.r2 rfl (RV.t rfl) (RV.t rfl) (.inr ⟨hno, rfl, rfl⟩) (ImpS.sb ?_)
    (skip; (exact Sb.r))
/-- The cells that were told, as they are kept. -/
def accP (b : Nat) (l : List (Nat × Nat)) : HP := exs fun v : Value => star [pt b (row [v] 26), own 63 2 l.length v (pairsV l)]
set_option maxHeartbeats 4000000 in
theorem tell_add (b : Nat) (l : List (Nat × Nat)) (u v : Nat) (hl : l.length ≤ 2097152) : Fn Tryd.prog 62 #[.agg #[i64 (u : Nat), i64 (v : Nat)], ptrV b] [accP b l] (fun _ Q => Q = [accP b (l ++ [(u, v)])]) := by
  refine Fn.mk2 Tryd.func62 rfl rfl fun w0 F => ?_
  refine G.exs fun x => G.flat ?_
  change G _ _ _ _ _ (pt b (row [x] 26) :: own 63 2 l.length x (pairsV l) :: F)
  (refine G.seq ?_; refine G.region ?_; refine GO.box rfl rfl rfl fun b2 => ?_; refine GO.nil ?_; refine kthen_n ?_; refine G.region ?_; refine GO.load1 rfl rfl rfl (Tk.t Tk.h) rfl ?_; refine GO.loadW rfl rfl rfl Tk.h rfl ?_)
  refine GO.buildSlice1 rfl rfl (by simp; rfl) rfl ⟨by omega, by omega⟩ fun bs => ?_
  refine GO.appendOwn (m := 1) (news := [i64 (u : Nat), i64 (v : Nat)]) rfl rfl rfl (Tk.t (Tk.t (Tk.t Tk.h))) Tk.h rfl (by simp [Value.oneCell']) ⟨by decide, rfl⟩ Nat.one_pos (by unfold maxLen; omega) (by omega) fun v4 => ?_
  refine GO.ownOne Tk.h fun hone4 => ?_
  rw [pairsV_one, show l.length + 1 = (l ++ [(u, v)]).length by rw [List.length_append]; rfl]
  (refine GO.store1 rfl rfl (by assumption) (Tk.t (Tk.t (Tk.t Tk.h))) (by simp) ?_; refine GO.nil ?_)
  refine KF2.n0 rfl rfl (ImpS.exs v4 (ImpS.flat (ImpS.sb ?_)))
  ((refine Sb.c Tk.h ?_; refine Sb.c Tk.h ?_); (refine Sb.s ?_; refine Sb.s ?_; exact Sb.r))
set_option maxHeartbeats 8000000 in
theorem add_k (s bk : Nat) (d : KD) (S T : Nat → Nat → Bool) (hs1 : 1 ≤ s) (hs : s ≤ 1024) (hT : ∀ r c, T r c = true → r < s ∧ c < s) (hc : IsClo S T) (i j : Nat) (hi : i < s) (hj : j < s) :
    Fn Tryd.prog 25 #[ptrV bk, i64 (i : Nat), i64 (j : Nat)] (keepL s bk d S T) (fun r Q => ∃ v, r = .tuple #[v, i64 0] ∧ Q = keepL s bk d (addX S i j) (stepX T i j) ++ [own 63 2 (cellsX (diffX (stepX T i j) T)).length v (pairsV (cellsX (diffX (stepX T i j) T)))]) := by
  have hw := wrong_k s bk d (cntX T) S hs1 (i : Int) (j : Int)
  rw [wrK_t (inM_nat hi hj)] at hw
  have hst : ∀ b : Nat, Fn Tryd.prog 61 #[ptrV bk, i64 (i : Nat), i64 (j : Nat), .func (.func 62) #[] #[ptrV b]] [hdK s bk d (cntX T), mat s S d.bs, rowsO s d.bt d.ct d.bst d.cst, rowsF s d.bst d.cst T, rowsO s d.bf d.cf d.bsf d.csf, rowsF s d.bsf d.csf (flipX T), accP b []] (fun _ Q => Q = [hdK s bk d (cntX (stepX T i j)), mat s (addX S i j) d.bs, rowsO s d.bt d.ct d.bst d.cst, rowsF s d.bst d.cst (stepX T i j), rowsO s d.bf d.cf d.bsf d.csf, rowsF s d.bsf d.csf (flipX (stepX T i j)), accP b (cellsX (diffX (stepX T i j) T))]) := fun b => step_k s bk d S T hs hT hc i j hi hj (.func (.func 62) #[] #[ptrV b]) rfl (accP b) [] (by simp) (fun l u v hl hu hv => FnV.of (args := [.agg #[i64 (u : Nat), i64 (v : Nat)]]) (caps := [ptrV b]) (tell_add b l u v hl))
  change Fn _ _ _ [hdK s bk d (cntX T), mat s S d.bs, rowsO s d.bt d.ct d.bst d.cst, rowsF s d.bst d.cst T, rowsO s d.bf d.cf d.bsf d.csf, rowsF s d.bsf d.csf (flipX T)] _
  refine Fn.mk2 Tryd.func25 rfl rfl fun w0 F => ?_
  (refine G.seq ?_; refine G.region ?_; refine GO.assign rfl rfl ?_; refine GO.assign rfl rfl ?_; refine GO.nil ?_; refine kthen_n ?_; refine G.seq ?_; refine G.region ?_; refine GO.move rfl rfl ?_; refine GO.move rfl rfl ?_; refine GO.move rfl rfl ?_)
  refine GO.call3 rfl rfl rfl rfl (hw) (Tks.c Tk.h (Tks.c Tk.h Tks.n)) ?_
  rintro _ _ ⟨rfl, rfl⟩
  (refine GO.assign rfl rfl ?_; refine GO.nil ?_; refine kthen_n ?_; refine G.seq ?_; refine G.seq ?_; refine G.region ?_; refine GO.move rfl rfl ?_; refine GO.neF rfl rfl rfl rfl ?_; refine GO.nil ?_; refine kthen_n ?_; refine G.condF rfl rfl ?_; refine G.skip ?_; refine kthen_n ?_; refine G.seq ?_; refine G.region ?_; refine GO.alloc rfl fun b9 => ?_; refine GO.nil ?_; refine kthen_n ?_; refine G.seq ?_; refine G.region ?_; refine GO.move rfl rfl ?_; refine GO.move rfl rfl ?_; refine GO.move rfl rfl ?_; refine GO.makeFunc1 rfl rfl ?_)
  refine GO.ownNil (T := 63) (sz := 2) ?_
  refine GO.keep (H' := accP b9 [] :: hdK s bk d (cntX T) :: mat s S d.bs :: rowsO s d.bt d.ct d.bst d.cst :: rowsF s d.bst d.cst T :: rowsO s d.bf d.cf d.bsf d.csf :: rowsF s d.bsf d.csf (flipX T) :: F) (ImpS.exs (.slice none 0 0) (ImpS.flat (by rw [show pairsV [] = [] by unfold pairsV cellsV; rfl]; exact ImpS.sb (by ((refine Sb.c (Tk.t Tk.h) ?_; refine Sb.c Tk.h ?_; refine Sb.c Tk.h ?_; refine Sb.c Tk.h ?_; refine Sb.c Tk.h ?_; refine Sb.c Tk.h ?_; refine Sb.c Tk.h ?_; refine Sb.c Tk.h ?_); (exact Sb.r)))))) ?_
  refine GO.call4 rfl rfl rfl rfl rfl (hst b9) (Tks.c (Tk.t Tk.h) (Tks.c (Tk.t Tk.h) (Tks.c (Tk.t Tk.h) (Tks.c (Tk.t Tk.h) (Tks.c (Tk.t Tk.h) (Tks.c (Tk.t Tk.h) (Tks.c Tk.h Tks.n))))))) ?_
  rintro _ _ rfl
  generalize stepX T i j = T2
  refine GO.keep (H' := accP b9 (cellsX (diffX T2 T)) :: hdK s bk d (cntX T2) :: mat s (addX S i j) d.bs :: rowsO s d.bt d.ct d.bst d.cst :: rowsF s d.bst d.cst T2 :: rowsO s d.bf d.cf d.bsf d.csf :: rowsF s d.bsf d.csf (flipX T2) :: F) (ImpS.sb (by ((refine Sb.c (Tk.t (Tk.t (Tk.t (Tk.t (Tk.t (Tk.t Tk.h)))))) ?_; refine Sb.c Tk.h ?_; refine Sb.c Tk.h ?_; refine Sb.c Tk.h ?_; refine Sb.c Tk.h ?_; refine Sb.c Tk.h ?_; refine Sb.c Tk.h ?_); (exact Sb.r)))) ?_
  generalize cellsX (diffX T2 T) = l1
  refine GO.exs fun x => GO.flat ?_
  change GO _ _ _ _ _ _ (pt b9 (row [x] 26) :: own 63 2 l1.length x (pairsV l1) :: _)
  (refine GO.nil ?_; refine kthen_n ?_; refine G.seq ?_; refine G.region ?_; refine GO.load1 rfl rfl rfl Tk.h rfl ?_; refine GO.assign rfl rfl ?_; refine GO.assign rfl rfl ?_; refine GO.nil ?_; refine kthen_n ?_; refine G.ret ?_)
  refine KF2.r2 rfl (RV.t rfl) (RV.t rfl) ⟨_, rfl, rfl⟩ (ImpS.sb ?_)
  ((refine Sb.c (Tk.t (Tk.t Tk.h)) ?_; refine Sb.c (Tk.t (Tk.t Tk.h)) ?_; refine Sb.c (Tk.t (Tk.t Tk.h)) ?_; refine Sb.c (Tk.t (Tk.t Tk.h)) ?_; refine Sb.c (Tk.t (Tk.t Tk.h)) ?_; refine Sb.c (Tk.t (Tk.t Tk.h)) ?_; refine Sb.c (Tk.t Tk.h) ?_); (refine Sb.s ?_; exact Sb.r))
end Go.Proofs.YtpfcgfgkmgnaaaaDoor
namespace Go.Proofs.YtpfcgfgkmgnaaaaDoor
open Go
theorem one_iff (i j r c : Nat) : stepX noX i j r c = true ↔ r = i ∧ c = j := by
  rw [step_iff]
  unfold noX
  simp
def hT1 : Nat → Nat → Bool := stepX noX 0 1
def hT2 : Nat → Nat → Bool := stepX hT1 1 2
theorem hT1_iff (r c : Nat) : hT1 r c = true ↔ r = 0 ∧ c = 1 := one_iff 0 1 r c
theorem hT2_iff (r c : Nat) : hT2 r c = true ↔ (r = 0 ∧ c = 1) ∨ (r = 0 ∧ c = 2) ∨ (r = 1 ∧ c = 2) := by
  unfold hT2
  rw [step_iff, hT1_iff, hT1_iff, hT1_iff]
  omega
theorem hT1_in : ∀ r c, hT1 r c = true → r < 3 ∧ c < 3 := fun r c h => by rw [hT1_iff] at h; omega
theorem hT2_in : ∀ r c, hT2 r c = true → r < 3 ∧ c < 3 := fun r c h => by rw [hT2_iff] at h; omega
theorem hT1_cells : cellsX (diffX hT1 noX) = [(0, 1)] := by
  refine strict_unique (R := fun a b : Nat × Nat => ltC ((a.1 : Int), (a.2 : Int)) ((b.1 : Int), (b.2 : Int)) = true) (fun _ _ h => ltC_asymm h) (cells_pairs _) (List.pairwise_singleton _ _) fun p => ?_
  have hin : ∀ r c, diffX hT1 noX r c = true → r < 3 ∧ c < 3 := fun r c h => by
    unfold diffX at h; rw [Bool.and_eq_true] at h; exact hT1_in r c h.1
  rw [cellsX_iff (by decide) hin, List.mem_singleton]
  unfold diffX noX
  rw [Bool.not_false, Bool.and_true, hT1_iff]
  constructor
  · intro h; exact Prod.ext h.1 h.2
  · rintro rfl; exact ⟨rfl, rfl⟩
theorem hT2_cells : cellsX (diffX hT2 hT1) = [(0, 2), (1, 2)] := by
  refine strict_unique (R := fun a b : Nat × Nat => ltC ((a.1 : Int), (a.2 : Int)) ((b.1 : Int), (b.2 : Int)) = true) (fun _ _ h => ltC_asymm h) (cells_pairs _) ?_ fun p => ?_
  · refine List.Pairwise.cons (fun b hb => ?_) (List.pairwise_singleton _ _)
    obtain rfl := List.mem_singleton.1 hb
    decide
  have hin : ∀ r c, diffX hT2 hT1 r c = true → r < 3 ∧ c < 3 := fun r c h => by
    unfold diffX at h; rw [Bool.and_eq_true] at h; exact hT2_in r c h.1
  rw [cellsX_iff (by decide) hin]
  unfold diffX
  rw [Bool.and_eq_true, hT2_iff, Bool.not_eq_true', Bool.eq_false_iff, ne_eq, hT1_iff]
  obtain ⟨r, c⟩ := p
  simp only [List.mem_cons, List.not_mem_nil, or_false, Prod.mk.injEq]
  omega
theorem hT2_cnt : cntX hT2 = 3 := by
  have e : hT2 = addX (addX (addX noX 0 1) 0 2) 1 2 := by
    funext r c
    rw [Bool.eq_iff_iff, hT2_iff]
    unfold addX noX
    simp only [Bool.or_eq_true, Bool.and_eq_true, decide_eq_true_eq, Bool.false_or]
    omega
  have h1 : addX (addX noX 0 1) 0 2 1 2 = false := rfl
  have h2 : addX noX 0 1 0 2 = false := rfl
  rw [e, cntX_add (by decide) (by decide) h1, cntX_add (by decide) (by decide) h2, cntX_add (by decide) (by decide) rfl, cntX_no]
attribute [local irreducible] G GO GR GT Fn FnV pt init exs pur sat own ImpS mat posL allV orL restX cellsX cellsV cntX stepX hT1 hT2 addX
set_option maxHeartbeats 4000000 in
theorem add_no (s bk : Nat) (d : KD) (c : Nat) (S : Nat → Nat → Bool) (hs : 1 ≤ s) (i j : Int) (h : inM s i j = false) : Fn Tryd.prog 25 #[ptrV bk, i64 i, i64 j] [hdK s bk d c, mat s S d.bs] (fun r Q => r = .tuple #[.slice none 0 0, i64 2] ∧ Q = [hdK s bk d c, mat s S d.bs]) := by
  have hw := wrong_k s bk d c S hs i j
  rw [wrK_f h] at hw
  refine Fn.mk2 Tryd.func25 rfl rfl fun w0 F => ?_
  (refine G.seq ?_; refine G.region ?_; refine GO.assign rfl rfl ?_; refine GO.assign rfl rfl ?_; refine GO.nil ?_; refine kthen_n ?_; refine G.seq ?_; refine G.region ?_; refine GO.move rfl rfl ?_; refine GO.move rfl rfl ?_; refine GO.move rfl rfl ?_)
  refine GO.call3 rfl rfl rfl rfl (hw) (Tks.c Tk.h (Tks.c Tk.h Tks.n)) ?_
  rintro _ _ ⟨rfl, rfl⟩
  (refine GO.assign rfl rfl ?_; refine GO.nil ?_; refine kthen_n ?_; refine G.seq ?_; refine G.seq ?_; refine G.region ?_; refine GO.move rfl rfl ?_; refine GO.nei rfl rfl rfl ?_; refine GO.nil ?_; refine kthen_n ?_; refine G.condT rfl rfl ?_; refine G.seq ?_; refine G.region ?_; refine GO.move rfl rfl ?_; refine GO.assign rfl rfl ?_; refine GO.assign rfl rfl ?_; refine GO.nil ?_; refine kthen_n ?_; refine G.ret ?_; refine kthen_r ?_)
  refine KF2.r2 rfl (RV.t rfl) (RV.t rfl) ⟨rfl, rfl⟩ (ImpS.sb ?_)
  ((refine Sb.c Tk.h ?_; refine Sb.c Tk.h ?_); (exact Sb.r))
set_option maxHeartbeats 8000000 in
theorem hawake_spec (q : HP) : Fn Tryd.prog 8 #[] [q] (fun r Q => r = .bool true ∧ Q = [q]) := by
  have c1 : IsClo (addX noX 0 1) hT1 := by unfold hT1; exact clo_no.add 0 1
  have a1 := fun bk d => add_k 3 bk d noX noX (by omega) (by omega) (fun r c h => by cases h) clo_no 0 1 (by omega) (by omega)
  have a2 := fun bk d => add_k 3 bk d (addX noX 0 1) hT1 (by omega) (by omega) hT1_in c1 1 2 (by omega) (by omega)
  have e1 : stepX noX 0 1 = hT1 := by unfold hT1; rfl
  have e2 : stepX hT1 1 2 = hT2 := by unfold hT2; rfl
  rw [e1, hT1_cells] at a1
  rw [e2, hT2_cells] at a2
  have hn := hT2_cnt
  have h02 : hT2 0 2 = true := (hT2_iff 0 2).2 (by omega)
  refine Fn.mk2 Tryd.func8 rfl rfl fun w0 F => ?_
  (refine G.seq ?_; refine G.region ?_; refine GO.assign rfl rfl ?_; refine GO.nil ?_; refine kthen_n ?_; refine G.seq ?_; refine G.region ?_)
  refine GO.call1 rfl rfl (knew_spec 3) Tks.n ?_
  rintro _ _ (⟨s, bk, d, hs, _, _, rfl, rfl⟩ | ⟨hno, _, _⟩)
  rotate_left 1
  · exact absurd (by omega) hno
  obtain rfl : s = 3 := by omega
  change GO _ _ _ _ _ _ (hdK 3 bk d (cntX noX) :: mat 3 noX d.bs :: rowsO 3 d.bt d.ct d.bst d.cst :: rowsF 3 d.bst d.cst noX :: rowsO 3 d.bf d.cf d.bsf d.csf :: rowsF 3 d.bsf d.csf (flipX noX) :: _)
  (refine GO.move rfl rfl ?_; refine GO.extract rfl rfl rfl ?_; refine GO.extract rfl rfl rfl ?_; refine GO.assign rfl rfl ?_; refine GO.assign rfl rfl ?_; refine GO.nil ?_; refine kthen_n ?_; refine G.seq ?_; refine G.seq ?_; refine G.region ?_; refine GO.move rfl rfl ?_; refine GO.eqNilP rfl rfl ?_; refine GO.move rfl rfl ?_; refine GO.gT rfl rfl rfl ?_; refine GO.move rfl rfl ?_; refine GO.gT rfl rfl rfl ?_; refine GO.neF rfl rfl rfl rfl ?_; refine GO.pickF rfl rfl rfl ?_; refine GO.nil ?_; refine kthen_n ?_; refine G.condF rfl rfl ?_; refine G.skip ?_; refine kthen_n ?_; refine G.seq ?_; refine G.region ?_; refine GO.move rfl rfl ?_)
  have a1 := a1 bk d
  have a2 := a2 bk d
  change Fn _ _ _ [hdK 3 bk d (cntX noX), mat 3 noX d.bs, rowsO 3 d.bt d.ct d.bst d.cst, rowsF 3 d.bst d.cst noX, rowsO 3 d.bf d.cf d.bsf d.csf, rowsF 3 d.bsf d.csf (flipX noX)] (fun r Q => ∃ v, _ ∧ Q = [hdK 3 bk d (cntX hT1), mat 3 (addX noX 0 1) d.bs, rowsO 3 d.bt d.ct d.bst d.cst, rowsF 3 d.bst d.cst hT1, rowsO 3 d.bf d.cf d.bsf d.csf, rowsF 3 d.bsf d.csf (flipX hT1), own 63 2 1 v (pairsV [(0, 1)])]) at a1
  change Fn _ _ _ [hdK 3 bk d (cntX hT1), mat 3 (addX noX 0 1) d.bs, rowsO 3 d.bt d.ct d.bst d.cst, rowsF 3 d.bst d.cst hT1, rowsO 3 d.bf d.cf d.bsf d.csf, rowsF 3 d.bsf d.csf (flipX hT1)] (fun r Q => ∃ v, _ ∧ Q = [hdK 3 bk d (cntX hT2), mat 3 (addX (addX noX 0 1) 1 2) d.bs, rowsO 3 d.bt d.ct d.bst d.cst, rowsF 3 d.bst d.cst hT2, rowsO 3 d.bf d.cf d.bsf d.csf, rowsF 3 d.bsf d.csf (flipX hT2), own 63 2 2 v (pairsV [(0, 2), (1, 2)])]) at a2
  refine GO.call3 rfl rfl rfl rfl (a1) (Tks.c Tk.h (Tks.c Tk.h (Tks.c Tk.h (Tks.c Tk.h (Tks.c Tk.h (Tks.c Tk.h Tks.n)))))) ?_
  rintro _ _ ⟨v1, rfl, rfl⟩
  refine GO.ownForm (by decide) (Tk.t (Tk.t (Tk.t (Tk.t (Tk.t (Tk.t Tk.h)))))) fun bo1 cap1 g1 _ _ _ => ?_
  subst g1
  (refine GO.move rfl rfl ?_; refine GO.extract rfl rfl rfl ?_; refine GO.extract rfl rfl rfl ?_; refine GO.assign rfl rfl ?_; refine GO.assign rfl rfl ?_; refine GO.nil ?_; refine kthen_n ?_; refine G.seq ?_; refine G.region ?_; refine GO.move rfl rfl ?_)
  refine GO.call3 rfl rfl rfl rfl (a2) (Tks.c Tk.h (Tks.c Tk.h (Tks.c Tk.h (Tks.c Tk.h (Tks.c Tk.h (Tks.c Tk.h Tks.n)))))) ?_
  rintro _ _ ⟨v2, rfl, rfl⟩
  refine GO.ownForm (by decide) (Tk.t (Tk.t (Tk.t (Tk.t (Tk.t (Tk.t Tk.h)))))) fun bo2 cap2 g2 _ _ _ => ?_
  subst g2
  rw [hn]
  (refine GO.move rfl rfl ?_; refine GO.extract rfl rfl rfl ?_; refine GO.extract rfl rfl rfl ?_; refine GO.assign rfl rfl ?_; refine GO.assign rfl rfl ?_; refine GO.nil ?_; refine kthen_n ?_; refine G.seq ?_; refine G.region ?_; refine GO.move rfl rfl ?_)
  refine GO.call3 rfl rfl rfl rfl (add_no 3 bk d 3 (addX (addX noX 0 1) 1 2) (by omega) 0 3 (by decide)) (Tks.c Tk.h (Tks.c Tk.h Tks.n)) ?_
  rintro _ _ ⟨rfl, rfl⟩
  (refine GO.move rfl rfl ?_; refine GO.extract rfl rfl rfl ?_; refine GO.extract rfl rfl rfl ?_; refine GO.assign rfl rfl ?_; refine GO.assign rfl rfl ?_; refine GO.nil ?_; refine kthen_n ?_; refine G.seq ?_; refine G.region ?_; refine GO.move rfl rfl ?_)
  refine GO.call3 rfl rfl rfl rfl (has_k 3 bk d 3 (addX (addX noX 0 1) 1 2) hT2 (by omega) 0 2) (Tks.c Tk.h (Tks.c Tk.h (Tks.c Tk.h (Tks.c Tk.h Tks.n)))) ?_
  rintro _ _ ⟨rfl, rfl⟩
  rw [show getM hT2 3 0 2 = .tuple #[.bool true, i64 0] by rw [show getM hT2 3 0 2 = .tuple #[.bool (hT2 0 2), i64 0] from rfl, h02]]
  have rd0 : Rd (own 63 2 2 (.slice (some ⟨bo2, 0, none⟩) 2 cap2) (pairsV [(0, 2), (1, 2)])) ⟨bo2, 0 + 0 * 2, none⟩ (i64 ((0 : Nat) : Int)) := Rd.own (by unfold pairsV cellsV castL; rfl)
  have rd1 : Rd (own 63 2 2 (.slice (some ⟨bo2, 0, none⟩) 2 cap2) (pairsV [(0, 2), (1, 2)])) ⟨bo2, 0 + 0 * 2 + 1, none⟩ (i64 ((2 : Nat) : Int)) := Rd.own (by unfold pairsV cellsV castL; rfl)
  have hceq := EqR.celC (d := 9998) ((0 : Int), (2 : Int)) ((0 : Int), (2 : Int))
  rw [decide_eq_true rfl] at hceq
  (refine GO.move rfl rfl ?_; refine GO.extract rfl rfl rfl ?_; refine GO.extract rfl rfl rfl ?_; refine GO.assign rfl rfl ?_; refine GO.assign rfl rfl ?_; refine GO.nil ?_; refine kthen_n ?_; refine G.seq ?_; refine G.region ?_; refine GO.move rfl rfl ?_; refine GO.eqT rfl rfl rfl rfl ?_; refine GO.move rfl rfl ?_; refine GO.gT rfl rfl rfl ?_; refine GO.move rfl rfl ?_; refine GO.gT rfl rfl rfl ?_; refine GO.eqT rfl rfl rfl rfl ?_; refine GO.pickT rfl rfl rfl ?_; refine GO.move rfl rfl ?_; refine GO.gT rfl rfl rfl ?_; refine GO.move rfl rfl ?_; refine GO.gT rfl rfl rfl ?_; refine GO.eqT rfl rfl rfl rfl ?_; refine GO.pickT rfl rfl rfl ?_; refine GO.move rfl rfl ?_; refine GO.gT rfl rfl rfl ?_; refine GO.move rfl rfl ?_; refine GO.gT rfl rfl rfl ?_; refine GO.eqT rfl rfl rfl rfl ?_; refine GO.pickT rfl rfl rfl ?_; refine GO.move rfl rfl ?_; refine GO.gT rfl rfl rfl ?_; refine GO.move rfl rfl ?_; refine GO.pickT rfl rfl rfl ?_; refine GO.move rfl rfl ?_; refine GO.gT rfl rfl rfl ?_; refine GO.move rfl rfl ?_; refine GO.gT rfl rfl rfl ?_; refine GO.lenS rfl rfl ?_; refine GO.gT rfl rfl rfl ?_; refine GO.eqT rfl rfl rfl rfl ?_; refine GO.pickT rfl rfl rfl ?_; refine GO.move rfl rfl ?_; refine GO.gT rfl rfl rfl ?_; refine GO.move rfl rfl ?_; refine GO.gT rfl rfl rfl ?_; refine GO.lenS rfl rfl ?_; refine GO.gT rfl rfl rfl ?_; refine GO.eqT rfl rfl rfl rfl ?_; refine GO.pickT rfl rfl rfl ?_; refine GO.move rfl rfl ?_; refine GO.gT rfl rfl rfl ?_; refine GO.move rfl rfl ?_; refine GO.gT rfl rfl rfl ?_)
  refine GO.idxS (j := 0) rfl rfl rfl ⟨rfl, by decide⟩ ?_
  (refine GO.gT rfl rfl rfl ?_; refine GO.load2 rfl rfl rfl (Tk.t (Tk.t (Tk.t (Tk.t (Tk.t (Tk.t Tk.h)))))) (by assumption) (by assumption) ?_; refine GO.gT rfl rfl rfl ?_; refine GO.build2 rfl rfl rfl rfl ?_; refine GO.gT rfl rfl rfl ?_)
  refine GO.eqlA hceq rfl rfl rfl ?_
  (refine GO.pickT rfl rfl rfl ?_; refine GO.move rfl rfl ?_; refine GO.gT rfl rfl rfl ?_; refine GO.move rfl rfl ?_; refine GO.gT rfl rfl rfl ?_)
  refine GO.call1 rfl rfl (len_k 3 bk d 3) (Tks.c Tk.h Tks.n) ?_
  rintro _ _ ⟨rfl, rfl⟩
  (refine GO.gT rfl rfl rfl ?_; refine GO.eqT rfl rfl rfl rfl ?_; refine GO.pickT rfl rfl rfl ?_; refine GO.assign rfl rfl ?_; refine GO.nil ?_; refine kthen_n ?_; refine G.ret ?_)
  refine KF2.r1 rfl (RV.t rfl) ⟨rfl, rfl⟩ (ImpS.sb ?_)
  ((refine Sb.c (Tk.t (Tk.t (Tk.t (Tk.t (Tk.t (Tk.t (Tk.t (Tk.t Tk.h)))))))) ?_); (refine Sb.s ?_; refine Sb.s ?_; refine Sb.s ?_; refine Sb.s ?_; refine Sb.s ?_; refine Sb.s ?_; refine Sb.s ?_; refine Sb.s ?_; exact Sb.r))
end Go.Proofs.YtpfcgfgkmgnaaaaDoor
namespace Go.Proofs.YtpfcgfgkmgnaaaaDoor
open Go
/-- The cells of the rows ahead of i, and of row i ahead of j. -/
def uptX (T : Nat → Nat → Bool) (i j : Nat) : Nat → Nat → Bool := fun r c => T r c && (decide (r < i) || (decide (r = i) && decide (c < j)))
theorem upt_iff {T : Nat → Nat → Bool} {i j r c : Nat} : uptX T i j r c = true ↔ T r c = true ∧ (r < i ∨ (r = i ∧ c < j)) := by
  unfold uptX
  simp only [Bool.and_eq_true, Bool.or_eq_true, decide_eq_true_eq]
theorem upt_zero (T : Nat → Nat → Bool) : uptX T 0 0 = noX := sub_anti (fun r c h => by rw [upt_iff] at h; omega) (fun r c h => by cases h)
theorem upt_yes {T : Nat → Nat → Bool} {i j : Nat} (h : T i j = true) : uptX T i (j + 1) = addX (uptX T i j) i j := by
  refine sub_anti (fun r c g => ?_) (fun r c g => ?_)
  · rw [upt_iff] at g
    unfold addX
    rw [Bool.or_eq_true, upt_iff, Bool.and_eq_true, decide_eq_true_iff, decide_eq_true_iff]
    by_cases e : r = i ∧ c = j
    · exact .inr e
    · exact .inl ⟨g.1, by omega⟩
  · unfold addX at g
    rw [Bool.or_eq_true, upt_iff, Bool.and_eq_true, decide_eq_true_iff, decide_eq_true_iff] at g
    rw [upt_iff]
    rcases g with g | ⟨rfl, rfl⟩
    · exact ⟨g.1, by omega⟩
    · exact ⟨h, by omega⟩
theorem upt_no {T : Nat → Nat → Bool} {i j : Nat} (h : T i j = false) : uptX T i (j + 1) = uptX T i j := by
  refine sub_anti (fun r c g => ?_) (fun r c g => ?_)
  · rw [upt_iff] at g ⊢
    refine ⟨g.1, ?_⟩
    rcases g.2 with g2 | ⟨rfl, g2⟩
    · exact .inl g2
    · by_cases e : c = j
      · subst e; rw [h] at g; cases g.1
      · exact .inr ⟨rfl, by omega⟩
  · rw [upt_iff] at g ⊢
    exact ⟨g.1, by omega⟩
theorem upt_end {s : Nat} {T : Nat → Nat → Bool} (hT : ∀ r c, T r c = true → r < s ∧ c < s) (i : Nat) : uptX T i s = uptX T (i + 1) 0 := by
  refine sub_anti (fun r c g => ?_) (fun r c g => ?_)
  · rw [upt_iff] at g ⊢
    exact ⟨g.1, by omega⟩
  · rw [upt_iff] at g ⊢
    have := hT r c g.1
    exact ⟨g.1, by omega⟩
theorem upt_all {s : Nat} {T : Nat → Nat → Bool} (hT : ∀ r c, T r c = true → r < s ∧ c < s) : uptX T s 0 = T := sub_anti (fun r c g => (upt_iff.1 g).1) (fun r c g => upt_iff.2 ⟨g, .inl (hT r c g).1⟩)
/-- Steps one by one. -/
def foldT (T : Nat → Nat → Bool) (l : List (Nat × Nat)) : Nat → Nat → Bool := l.foldl (fun T p => stepX T p.1 p.2) T
theorem foldT_snoc (T : Nat → Nat → Bool) (l : List (Nat × Nat)) (p : Nat × Nat) : foldT T (l ++ [p]) = stepX (foldT T l) p.1 p.2 := by unfold foldT; rw [List.foldl_append]; rfl
theorem foldT_in {s : Nat} : ∀ (l : List (Nat × Nat)) (T : Nat → Nat → Bool), (∀ p ∈ l, p.1 < s ∧ p.2 < s) → (∀ r c, T r c = true → r < s ∧ c < s) → ∀ r c, foldT T l r c = true → r < s ∧ c < s
  | [], _, _, hT => hT
  | p :: l, T, hl, hT => foldT_in l (stepX T p.1 p.2) (fun x hx => hl x (List.mem_cons_of_mem _ hx)) (step_in hT (hl p List.mem_cons_self).1 (hl p List.mem_cons_self).2)
theorem foldT_clo : ∀ (l : List (Nat × Nat)) (S T : Nat → Nat → Bool), IsClo S T → IsClo (setC S l) (foldT T l)
  | [], _, _, h => h
  | p :: l, S, T, h => foldT_clo l (addX S p.1 p.2) (stepX T p.1 p.2) (h.add p.1 p.2)
theorem step_ge (T : Nat → Nat → Bool) (i j : Nat) : SubX T (stepX T i j) := fun u v h => step_iff.2 (.inl h)
theorem foldT_ge : ∀ (l : List (Nat × Nat)) (T : Nat → Nat → Bool), SubX T (foldT T l)
  | [], _ => fun _ _ h => h
  | p :: l, T => fun r c h => foldT_ge l (stepX T p.1 p.2) r c (step_ge T p.1 p.2 r c h)
theorem setC_cells {s : Nat} {S M : Nat → Nat → Bool} (hs : s ≤ 1024) (hM : ∀ r c, M r c = true → r < s ∧ c < s) : setC S (cellsX M) = uniX S M := by
  refine sub_anti (fun r c h => ?_) (fun r c h => ?_)
  · rw [setC_at, Bool.or_eq_true, List.any_eq_true] at h
    unfold uniX
    rw [Bool.or_eq_true]
    rcases h with h | ⟨p, hp, h⟩
    · exact .inl h
    · simp only [Bool.and_eq_true, decide_eq_true_eq] at h
      rw [h.1, h.2]
      exact .inr (cellsX_true hp)
  · unfold uniX at h
    rw [Bool.or_eq_true] at h
    rw [setC_at, Bool.or_eq_true, List.any_eq_true]
    rcases h with h | h
    · exact .inl h
    · exact .inr ⟨(r, c), cellsX_pos hs hM h, by simp⟩
theorem diff_step {s : Nat} {T U V : Nat → Nat → Bool} (hs : s ≤ 1024) (hV : ∀ r c, V r c = true → r < s ∧ c < s) (h1 : SubX T U) (h2 : SubX U V) : setC (diffX U T) (cellsX (diffX V U)) = diffX V T := by
  have hin : ∀ r c, diffX V U r c = true → r < s ∧ c < s := fun r c h => by unfold diffX at h; rw [Bool.and_eq_true] at h; exact hV r c h.1
  rw [setC_cells hs hin]
  funext r c
  have a := h1 r c
  have b := h2 r c
  unfold uniX diffX
  cases hT : T r c <;> cases hU : U r c <;> cases hV2 : V r c <;> simp_all
attribute [local irreducible] G GO GR GT Fn FnV pt init exs pur sat own ImpS mat posL allV orL restX cellsX cellsV cntX stepX addX uptX setC foldT diffX flipX
set_option maxHeartbeats 4000000 in
theorem steps_k (s bk : Nat) (d : KD) (c : Nat) (S : Nat → Nat → Bool) : Fn Tryd.prog 30 #[ptrV bk] [hdK s bk d c, mat s S d.bs] (fun r Q => ∃ b', r = ptrV b' ∧ Q = [mat s S b', hdK s bk d c, mat s S d.bs]) := by
  refine Fn.mk2 Tryd.func30 rfl rfl fun w0 F => ?_
  (refine G.seq ?_; refine G.region ?_; refine GO.assign rfl rfl ?_; refine GO.nil ?_; refine kthen_n ?_; refine G.seq ?_; refine G.seq ?_; refine G.region ?_; refine GO.move rfl rfl ?_)
  refine GO.call1 rfl rfl (isH s bk d c) (Tks.c Tk.h Tks.n) ?_
  rintro _ _ ⟨rfl, rfl⟩
  (refine GO.not rfl rfl ?_; refine GO.nil ?_; refine kthen_n ?_; refine G.condF rfl rfl ?_; refine G.skip ?_; refine kthen_n ?_; refine G.seq ?_; refine G.region ?_; refine GO.move rfl rfl ?_; refine GO.nilCheck rfl rfl ?_; refine GO.fieldAddr rfl rfl ?_; refine GO.load1 rfl rfl rfl Tk.h rfl ?_)
  refine GO.call1 rfl rfl (copy_mat s d.bs S) (Tks.c (Tk.t Tk.h) Tks.n) ?_
  rintro _ _ ⟨b', rfl, rfl⟩
  (refine GO.assign rfl rfl ?_; refine GO.nil ?_; refine kthen_n ?_; refine G.ret ?_)
  refine KF2.r1 rfl (RV.t rfl) ⟨_, rfl, rfl⟩ (ImpS.sb ?_)
  ((refine Sb.c Tk.h ?_; refine Sb.c (Tk.t Tk.h) ?_; refine Sb.c Tk.h ?_); (exact Sb.r))
set_option maxHeartbeats 8000000 in
theorem matrix_k (s bk : Nat) (d : KD) (c : Nat) (S T : Nat → Nat → Bool) (hs1 : 1 ≤ s) (hs : s ≤ 1024) (hT : ∀ r c, T r c = true → r < s ∧ c < s) : Fn Tryd.prog 29 #[ptrV bk] [hdK s bk d c, mat s S d.bs, rowsO s d.bt d.ct d.bst d.cst, rowsF s d.bst d.cst T]
    (fun r Q => ∃ b', r = ptrV b' ∧ Q = [mat s T b', hdK s bk d c, mat s S d.bs, rowsO s d.bt d.ct d.bst d.cst, rowsF s d.bst d.cst T]) := by
  have hz := upt_zero T
  have hend := upt_end hT
  have hall := upt_all hT
  refine Fn.mk2 Tryd.func29 rfl rfl fun w0 F => ?_
  (refine G.seq ?_; refine G.region ?_; refine GO.assign rfl rfl ?_; refine GO.nil ?_; refine kthen_n ?_; refine G.seq ?_; refine G.seq ?_; refine G.region ?_; refine GO.move rfl rfl ?_)
  refine GO.call1 rfl rfl (isH s bk d c) (Tks.c Tk.h Tks.n) ?_
  rintro _ _ ⟨rfl, rfl⟩
  (refine GO.not rfl rfl ?_; refine GO.nil ?_; refine kthen_n ?_; refine G.condF rfl rfl ?_; refine G.skip ?_; refine kthen_n ?_; refine G.seq ?_; refine G.region ?_; refine GO.move rfl rfl ?_)
  refine GO.call1 rfl rfl (side_k s bk d c S) (Tks.c Tk.h (Tks.c Tk.h Tks.n)) ?_
  rintro _ _ ⟨rfl, rfl⟩
  skip
  refine GO.call1 rfl rfl (new_spec ((s : Nat) : Int)) Tks.n ?_
  rintro _ _ (⟨n', bm, hn, hn1, hn2, rfl, rfl⟩ | ⟨hno, _, _⟩)
  rotate_left 1
  · exact absurd ⟨by omega, by omega⟩ hno
  obtain rfl : s = n' := by omega
  clear hn hn1 hn2
  (refine GO.move rfl rfl ?_; refine GO.extract rfl rfl rfl ?_; refine GO.extract rfl rfl rfl ?_; refine GO.assign rfl rfl ?_; refine GO.assign rfl rfl ?_; refine GO.nil ?_; refine kthen_n ?_; refine G.seq ?_; refine G.seq ?_; refine G.region ?_; refine GO.move rfl rfl ?_; refine GO.nilCheck rfl rfl ?_; refine GO.fieldAddr rfl rfl ?_; refine GO.load1 rfl rfl rfl (Tk.t Tk.h) rfl ?_; refine GO.lenS rfl rfl ?_; refine GO.move rfl rfl ?_; refine GO.nil ?_; refine kthen_n ?_; refine G.block ?_)
  refine G.loop (fun i : Nat => [(3, ptrV bm), (21, .slice (some ⟨d.bt, 0, none⟩) s d.ct), (22, i64 (s : Nat)), (23, i64 (i : Nat))])
    (fun i => mat s (uptX T i 0) bm :: hdK s bk d c :: mat s S d.bs :: rowsO s d.bt d.ct d.bst d.cst :: rowsF s d.bst d.cst T :: F) (fun i => i ≤ s) (fun i => s - i) 0 (by omega) ?_ ?_ ?_
  · (refine SubE.c rfl rfl ?_; refine SubE.c rfl rfl ?_; refine SubE.c rfl rfl ?_; refine SubE.c rfl rfl ?_; exact SubE.n)
  · rw [hz]
    ((refine Sb.c Tk.h ?_; refine Sb.c Tk.h ?_; refine Sb.c Tk.h ?_; refine Sb.c Tk.h ?_; refine Sb.c Tk.h ?_); (exact Sb.r))
  · rintro i hi
    (refine G.seq ?_; refine G.region ?_; refine GO.lti rfl rfl rfl ?_; refine GO.nil ?_; refine kthen_n ?_; refine G.seq ?_)
    refine G.condD rfl (fun hlt => ?_) (fun hge => ?_)
    · have his : i < s := by omega
      have r1 : Rd (rowsO s d.bt d.ct d.bst d.cst) ⟨d.bt, 0 + i * 1, none⟩ (rowS s d.bst d.cst i) := by rw [Nat.zero_add, Nat.mul_one]; exact rowsO_rd his
      (refine G.skip ?_; refine kthen_n ?_; refine G.seq ?_; refine G.block ?_; refine G.seq ?_; refine G.region ?_; refine GO.move rfl rfl ?_; refine GO.idxS rfl rfl rfl ⟨rfl, by omega⟩ ?_; refine GO.loadQ rfl rfl rfl (Tk.t (Tk.t (Tk.t Tk.h))) (by assumption) ?_; refine GO.assign rfl rfl ?_; refine GO.assign rfl rfl ?_; refine GO.nil ?_; refine kthen_n ?_; refine G.seq ?_; refine G.region ?_; refine GO.move rfl rfl ?_; refine GO.lenS rfl rfl ?_; refine GO.move rfl rfl ?_; refine GO.nil ?_; refine kthen_n ?_; refine G.block ?_)
      refine G.loop (fun j : Nat => [(3, ptrV bm), (5, i64 (i : Nat)), (21, .slice (some ⟨d.bt, 0, none⟩) s d.ct), (22, i64 (s : Nat)), (23, i64 (i : Nat)), (28, rowS s d.bst d.cst i), (29, i64 (s : Nat)), (30, i64 (j : Nat))])
        (fun j => mat s (uptX T i j) bm :: hdK s bk d c :: mat s S d.bs :: rowsO s d.bt d.ct d.bst d.cst :: rowsF s d.bst d.cst T :: F) (fun j => j ≤ s) (fun j => s - j) 0 (by omega) ?_ ?_ ?_
      · (refine SubE.c rfl rfl ?_; refine SubE.c rfl rfl ?_; refine SubE.c rfl rfl ?_; refine SubE.c rfl rfl ?_; refine SubE.c rfl rfl ?_; refine SubE.c rfl rfl ?_; refine SubE.c rfl rfl ?_; refine SubE.c rfl rfl ?_; exact SubE.n)
      · ((refine Sb.c Tk.h ?_; refine Sb.c Tk.h ?_; refine Sb.c Tk.h ?_; refine Sb.c Tk.h ?_; refine Sb.c Tk.h ?_); (exact Sb.r))
      · rintro j hj
        (refine G.seq ?_; refine G.region ?_; refine GO.lti rfl rfl rfl ?_; refine GO.nil ?_; refine kthen_n ?_; refine G.seq ?_)
        refine G.condD rfl (fun hlt2 => ?_) (fun hge => ?_)
        · have hjs : j < s := by omega
          have r2 : Rd (rowsF s d.bst d.cst T) ⟨d.bst i, 0 + j * 1, none⟩ (.bool (T i j)) := by rw [Nat.zero_add, Nat.mul_one]; exact rowsF_rd his hjs
          cases hij : T i j with
          | true =>
            rw [hij] at r2
            have hy := upt_yes hij
            (refine G.skip ?_; refine kthen_n ?_; refine G.seq ?_; refine G.block ?_; refine G.seq ?_; refine G.region ?_; refine GO.move rfl rfl ?_; refine GO.idxS rfl rfl rfl ⟨rfl, by omega⟩ ?_; refine GO.loadQ rfl rfl rfl (Tk.t (Tk.t (Tk.t (Tk.t Tk.h)))) (by assumption) ?_; refine GO.assign rfl rfl ?_; refine GO.assign rfl rfl ?_; refine GO.nil ?_; refine kthen_n ?_; refine G.seq ?_; refine G.region ?_; refine GO.move rfl rfl ?_; refine GO.nil ?_; refine kthen_n ?_; refine G.condT rfl rfl ?_; refine G.region ?_; refine GO.move rfl rfl ?_; refine GO.move rfl rfl ?_; refine GO.move rfl rfl ?_)
            refine GO.call3 rfl rfl rfl rfl (set_mat s bm (uptX T i j) (i : Int) (j : Int) hs) (Tks.c Tk.h Tks.n) ?_
            rintro _ _ (⟨i', j', e1, e2, _, _, rfl, rfl⟩ | ⟨hno, _, _⟩)
            rotate_left 1
            · rw [inM_nat his hjs] at hno
              cases hno
            obtain rfl : i = i' := by omega
            obtain rfl : j = j' := by omega
            rw [← hy]
            (refine GO.nil ?_; refine kblock_n ?_; refine kthen_n ?_; refine G.region ?_; refine GO.addi rfl rfl rfl (by omega) ?_; refine GO.move rfl rfl ?_; refine GO.nil ?_; refine kthen_n ?_)
            refine ⟨j + 1, by omega, by omega, ?_, ?_⟩
            · (refine SubE.c rfl rfl ?_; refine SubE.c rfl rfl ?_; refine SubE.c rfl rfl ?_; refine SubE.c rfl rfl ?_; refine SubE.c rfl rfl ?_; refine SubE.c rfl rfl ?_; refine SubE.c rfl rfl ?_; refine SubE.c rfl rfl ?_; exact SubE.n)
            · ((refine Sb.c Tk.h ?_; refine Sb.c Tk.h ?_; refine Sb.c Tk.h ?_; refine Sb.c Tk.h ?_; refine Sb.c Tk.h ?_); (exact Sb.r))
          | false =>
            rw [hij] at r2
            have hy := upt_no hij
            (refine G.skip ?_; refine kthen_n ?_; refine G.seq ?_; refine G.block ?_; refine G.seq ?_; refine G.region ?_; refine GO.move rfl rfl ?_; refine GO.idxS rfl rfl rfl ⟨rfl, by omega⟩ ?_; refine GO.loadQ rfl rfl rfl (Tk.t (Tk.t (Tk.t (Tk.t Tk.h)))) (by assumption) ?_; refine GO.assign rfl rfl ?_; refine GO.assign rfl rfl ?_; refine GO.nil ?_; refine kthen_n ?_; refine G.seq ?_; refine G.region ?_; refine GO.move rfl rfl ?_; refine GO.nil ?_; refine kthen_n ?_; refine G.condF rfl rfl ?_; refine G.skip ?_; refine kblock_n ?_; refine kthen_n ?_; refine G.region ?_; refine GO.addi rfl rfl rfl (by omega) ?_; refine GO.move rfl rfl ?_; refine GO.nil ?_; refine kthen_n ?_)
            refine ⟨j + 1, by omega, by omega, ?_, ?_⟩
            · (refine SubE.c rfl rfl ?_; refine SubE.c rfl rfl ?_; refine SubE.c rfl rfl ?_; refine SubE.c rfl rfl ?_; refine SubE.c rfl rfl ?_; refine SubE.c rfl rfl ?_; refine SubE.c rfl rfl ?_; refine SubE.c rfl rfl ?_; exact SubE.n)
            · rw [hy]
              ((refine Sb.c Tk.h ?_; refine Sb.c Tk.h ?_; refine Sb.c Tk.h ?_; refine Sb.c Tk.h ?_; refine Sb.c Tk.h ?_); (exact Sb.r))
        · obtain rfl : j = s := by omega
          rw [hend i]
          (refine G.exit ?_; refine kthen_x ?_; refine kthen_x ?_; refine kblock_x ?_; refine kblock_n ?_; refine kthen_n ?_; refine G.region ?_; refine GO.addi rfl rfl rfl (by omega) ?_; refine GO.move rfl rfl ?_; refine GO.nil ?_; refine kthen_n ?_)
          refine ⟨i + 1, by omega, by omega, ?_, ?_⟩
          · (refine SubE.c rfl rfl ?_; refine SubE.c rfl rfl ?_; refine SubE.c rfl rfl ?_; refine SubE.c rfl rfl ?_; exact SubE.n)
          · ((refine Sb.c Tk.h ?_; refine Sb.c Tk.h ?_; refine Sb.c Tk.h ?_; refine Sb.c Tk.h ?_; refine Sb.c Tk.h ?_); (exact Sb.r))
    · obtain rfl : i = s := by omega
      rw [hall]
      (refine G.exit ?_; refine kthen_x ?_; refine kthen_x ?_; refine kblock_x ?_; refine kthen_n ?_; refine G.seq ?_; refine G.region ?_; refine GO.move rfl rfl ?_; refine GO.assign rfl rfl ?_; refine GO.nil ?_; refine kthen_n ?_; refine G.ret ?_)
      refine KF2.r1 rfl (RV.t rfl) ⟨_, rfl, rfl⟩ (ImpS.sb ?_)
      ((refine Sb.c Tk.h ?_; refine Sb.c Tk.h ?_; refine Sb.c Tk.h ?_; refine Sb.c Tk.h ?_; refine Sb.c Tk.h ?_); (exact Sb.r))
abbrev accJ (s bo b6 : Nat) (X : Nat → Nat → Bool) : HP := star [mat s X bo, pt b6 (row [ptrV bo] 35)]
set_option maxHeartbeats 4000000 in
theorem tell_join (s bo b6 : Nat) (X : Nat → Nat → Bool) (hs : s ≤ 1024) (u v : Nat) (hu : u < s) (hv : v < s) : Fn Tryd.prog 66 #[.agg #[i64 (u : Nat), i64 (v : Nat)], ptrV b6] [accJ s bo b6 X] (fun _ Q => Q = [accJ s bo b6 (addX X u v)]) := by
  refine Fn.mk2 Tryd.func66 rfl rfl fun w0 F => ?_
  refine G.flat ?_
  change G _ _ _ _ _ (mat s X bo :: pt b6 (row [ptrV bo] 35) :: F)
  (refine G.seq ?_; refine G.region ?_; refine GO.box rfl rfl rfl fun b2 => ?_; refine GO.nil ?_; refine kthen_n ?_; refine G.region ?_; refine GO.load1 rfl rfl rfl (Tk.t (Tk.t Tk.h)) rfl ?_; refine GO.fieldAddr rfl rfl ?_; refine GO.load1 rfl rfl rfl Tk.h rfl ?_; refine GO.fieldAddr rfl rfl ?_; refine GO.load1 rfl rfl rfl Tk.h rfl ?_)
  refine GO.call3 rfl rfl rfl rfl (set_mat s bo X (u : Int) (v : Int) hs) (Tks.c (Tk.t Tk.h) Tks.n) ?_
  rintro _ _ (⟨i', j', e1, e2, _, _, rfl, rfl⟩ | ⟨hno, _, _⟩)
  rotate_left 1
  · rw [inM_nat hu hv] at hno
    cases hno
  obtain rfl : u = i' := by omega
  obtain rfl : v = j' := by omega
  (refine GO.nil ?_)
  refine KF2.n0 rfl rfl (ImpS.flat (ImpS.sb ?_))
  ((refine Sb.c Tk.h ?_; refine Sb.c (Tk.t Tk.h) ?_); (refine Sb.s ?_; exact Sb.r))
abbrev keepJ (s bk : Nat) (d : KD) (S T : Nat → Nat → Bool) (F : List HP) : List HP := hdK s bk d (cntX T) :: mat s S d.bs :: rowsO s d.bt d.ct d.bst d.cst :: rowsF s d.bst d.cst T :: rowsO s d.bf d.cf d.bsf d.csf :: rowsF s d.bsf d.csf (flipX T) :: F
set_option maxHeartbeats 16000000 in
theorem join_k (q : HP) (hq : Tab q) (s bk bm : Nat) (d : KD) (S T M : Nat → Nat → Bool) (hs1 : 1 ≤ s) (hs : s ≤ 1024) (hT : ∀ r c, T r c = true → r < s ∧ c < s) (hc : IsClo S T) (hM : ∀ r c, M r c = true → r < s ∧ c < s) :
    Fn Tryd.prog 27 #[ptrV bk, ptrV bm] (keepJ s bk d S T [mat s M bm, q]) (fun r Q => ∃ bo, r = .tuple #[ptrV bo, i64 0] ∧ Q = mat s (diffX (foldT T (cellsX M)) T) bo :: keepJ s bk d (uniX S M) (foldT T (cellsX M)) [mat s M bm, q]) := by
  have d0 : decide (((s : Nat) : Int) = 0) = false := decide_eq_false (by omega)
  have dn : decide (((s : Nat) : Int) ≠ ((s : Nat) : Int)) = false := decide_eq_false (fun h => h rfl)
  have hS := setC_cells (S := S) hs hM
  rw [← hS]
  have hmem := fun (k : Nat) (p : Nat × Nat) (h : (cellsX M)[k]? = some p) => hM _ _ (cellsX_true (List.mem_of_getElem? h))
  have htk : ∀ k, ∀ p ∈ (cellsX M).take k, p.1 < s ∧ p.2 < s := fun k p hp => hM _ _ (cellsX_true (List.mem_of_mem_take hp))
  have hin := fun k => foldT_in ((cellsX M).take k) T (htk k) hT
  have hcl := fun k => foldT_clo ((cellsX M).take k) S T hc
  have hge := fun k => foldT_ge ((cellsX M).take k) T
  have hsT := fun k p (h : (cellsX M)[k]? = some p) => show foldT T ((cellsX M).take (k + 1)) = stepX (foldT T ((cellsX M).take k)) p.1 p.2 by rw [List.take_add_one, h]; exact foldT_snoc _ _ _
  have hsS := fun k p (h : (cellsX M)[k]? = some p) => show setC S ((cellsX M).take (k + 1)) = addX (setC S ((cellsX M).take k)) p.1 p.2 by rw [List.take_add_one, h]; exact setC_snoc _ _ _
  have hT0 : foldT T ((cellsX M).take 0) = T := by unfold foldT; rfl
  have hS0 : setC S ((cellsX M).take 0) = S := setC_nil S
  have hTe : foldT T (cellsX M) = foldT T ((cellsX M).take (cellsX M).length) := by rw [List.take_length]
  have hSe : setC S (cellsX M) = setC S ((cellsX M).take (cellsX M).length) := by rw [List.take_length]
  rw [hTe, hSe]
  generalize hTT : (fun k => foldT T ((cellsX M).take k)) = TT at *
  generalize hSS : (fun k => setC S ((cellsX M).take k)) = SS at *
  have eT : ∀ k, foldT T ((cellsX M).take k) = TT k := fun k => by rw [← hTT]
  have eS : ∀ k, setC S ((cellsX M).take k) = SS k := fun k => by rw [← hSS]
  simp only [eT, eS] at hin hcl hge hsT hsS hT0 hS0 ⊢
  clear hTT hSS eT eS hTe hSe hS
  have hdf : diffX T T = noX := by funext r c; unfold diffX noX; cases T r c <;> rfl
  refine Fn.mk2 Tryd.func27 rfl rfl fun w0 F => ?_
  change G _ _ _ _ _ (keepJ s bk d S T (mat s M bm :: q :: F))
  (refine G.seq ?_; refine G.region ?_; refine GO.box rfl rfl rfl fun b2 => ?_; refine GO.assign rfl rfl ?_; refine GO.assign rfl rfl ?_; refine GO.nil ?_; refine kthen_n ?_; refine G.seq ?_; refine G.block ?_; refine G.seq ?_; refine G.region ?_; refine GO.load1 rfl rfl rfl Tk.h rfl ?_)
  refine GO.call1 rfl rfl (isH s bk d (cntX T)) (Tks.c (Tk.t Tk.h) Tks.n) ?_
  rintro _ _ ⟨rfl, rfl⟩
  (refine GO.not rfl rfl ?_; refine GO.move rfl rfl ?_; refine GO.gT rfl rfl rfl ?_; refine GO.move rfl rfl ?_; refine GO.gT rfl rfl rfl ?_)
  refine GO.call1 rfl rfl (side_mat s bm M) (Tks.c (Tk.t (Tk.t (Tk.t (Tk.t (Tk.t (Tk.t (Tk.t Tk.h))))))) Tks.n) ?_
  rintro _ _ ⟨rfl, rfl⟩
  (refine GO.gT rfl rfl rfl ?_; refine GO.eqi rfl rfl rfl ?_; refine GO.pickF rfl rfl rfl ?_; refine GO.assign rfl rfl ?_; refine GO.nil ?_; refine kthen_n ?_; refine G.condF rfl (by assumption) ?_; refine G.seq ?_)
  refine G.draw 5 (by kernel_rfl) ?_
  ((apply GQ.step; focus (intro Z; refine GO.move rfl rfl ?_; exact KQ.z)))
  apply GQ.step; focus (intro Z; refine GO.call1 rfl rfl (side_mat s bm M) (Tks.c Tk.h Tks.n) ?_; rintro _ _ ⟨rfl, rfl⟩; refine GO.nil (KQ.s ?_); ((refine Sb.c Tk.h ?_; refine Sb.c Tk.h ?_; refine Sb.c Tk.h ?_; refine Sb.c Tk.h ?_; refine Sb.c Tk.h ?_; refine Sb.c Tk.h ?_; refine Sb.c Tk.h ?_; refine Sb.c Tk.h ?_; refine Sb.c Tk.h ?_); (exact Sb.r)))
  ((apply GQ.step; focus (intro Z; refine GO.load1 rfl rfl rfl (Tk.t (Tk.t Tk.h)) rfl ?_; exact KQ.z)))
  apply GQ.step; focus (intro Z; refine GO.call1 rfl rfl (side_k s bk d (cntX T) S) (Tks.c (Tk.t Tk.h) (Tks.c (Tk.t (Tk.t Tk.h)) Tks.n)) ?_; rintro _ _ ⟨rfl, rfl⟩; refine GO.nil (KQ.s ?_); ((refine Sb.c (Tk.t (Tk.t Tk.h)) ?_; refine Sb.c Tk.h ?_; refine Sb.c (Tk.t Tk.h) ?_; refine Sb.c Tk.h ?_; refine Sb.c Tk.h ?_; refine Sb.c Tk.h ?_; refine Sb.c Tk.h ?_; refine Sb.c Tk.h ?_; refine Sb.c Tk.h ?_); (exact Sb.r)))
  ((apply GQ.step; focus (intro Z; refine GO.neF rfl rfl rfl rfl ?_; exact KQ.z)); refine GQ.nil ?_)
  (refine GO.assign rfl rfl ?_; refine GO.nil ?_; refine kthen_n ?_; refine G.condF rfl rfl ?_; refine G.skip ?_; refine kblock_n ?_; refine kthen_n ?_; refine G.seq ?_; refine G.region ?_; refine GO.load1 rfl rfl rfl (Tk.t (Tk.t Tk.h)) rfl ?_)
  refine GO.call1 rfl rfl (side_k s bk d (cntX T) S) (Tks.c (Tk.t Tk.h) (Tks.c (Tk.t (Tk.t Tk.h)) Tks.n)) ?_
  rintro _ _ ⟨rfl, rfl⟩
  skip
  refine GO.call1 rfl rfl (new_spec ((s : Nat) : Int)) Tks.n ?_
  rintro _ _ (⟨n', bo, hn, hn1, hn2, rfl, rfl⟩ | ⟨hno, _, _⟩)
  rotate_left 1
  · exact absurd ⟨by omega, by omega⟩ hno
  obtain rfl : s = n' := by omega
  clear hn hn1 hn2
  (refine GO.move rfl rfl ?_; refine GO.extract rfl rfl rfl ?_; refine GO.extract rfl rfl rfl ?_; refine GO.alloc rfl fun b6 => ?_; refine GO.store1 rfl rfl rfl Tk.h (by decide) ?_; refine GO.assign rfl rfl ?_; refine GO.nil ?_; refine kthen_n ?_; refine G.seq ?_; refine G.seq ?_; refine G.region ?_; refine GO.move rfl rfl ?_)
  refine GO.call1 rfl rfl (mcells_mat s bm M) (Tks.c (Tk.t (Tk.t (Tk.t (Tk.t Tk.h)))) Tks.n) ?_
  rintro _ _ ⟨bI, vI, rfl, rfl⟩
  (refine GO.nil ?_; refine kthen_n ?_; refine G.block ?_)
  refine G.rangeF (F := mat s M bm :: F) (psl := [33, 34]) (v := .func (.func 96) #[] #[.pointer (some ⟨bI, 0, none⟩)]) (xs := (cellsX M).map celV) (Sh := [q]) (Gm := [bkM M bI vI])
    (fun k => keepJ s bk d (SS k) (TT k) [mat s (diffX (TT k) T) bo, pt b6 (row [ptrV bo] 35), pt b2 (row [ptrV bk] 24)])
    (fun _ _ => [pur False]) (fun _ h => by cases h) rfl (fun u hu => by obtain ⟨p, _, rfl⟩ := List.mem_map.1 hu; rfl) rfl (mcells_seq q hq M bI vI) ?_ (fun lp Lr Lb w1 F1 k uu huu => ?_) ?_ ?_
  · rw [hT0, hS0, hdf]
    (refine Tks.c (Tk.t (Tk.t (Tk.t (Tk.t Tk.h)))) ?_; refine Tks.c (Tk.t (Tk.t (Tk.t (Tk.t Tk.h)))) ?_; refine Tks.c (Tk.t (Tk.t (Tk.t (Tk.t (Tk.t Tk.h))))) ?_; refine Tks.c (Tk.t (Tk.t (Tk.t (Tk.t (Tk.t Tk.h))))) ?_; refine Tks.c (Tk.t (Tk.t (Tk.t (Tk.t (Tk.t Tk.h))))) ?_; refine Tks.c (Tk.t (Tk.t (Tk.t (Tk.t (Tk.t Tk.h))))) ?_; refine Tks.c (Tk.t (Tk.t (Tk.t Tk.h))) ?_; refine Tks.c (Tk.t (Tk.t Tk.h)) ?_; refine Tks.c (Tk.t (Tk.t Tk.h)) ?_; refine Tks.c (Tk.t (Tk.t Tk.h)) ?_; exact Tks.n)
  · obtain ⟨p, hp, rfl⟩ : ∃ p, (cellsX M)[k]? = some p ∧ uu = celV p := by
      rw [List.getElem?_map] at huu
      cases hc : (cellsX M)[k]? with
      | none => simp [hc] at huu
      | some p => simp [hc] at huu; exact ⟨p, rfl, huu.symm⟩
    have hpM := hmem k p hp
    have hsT := hsT k p hp
    have hsS := hsS k p hp
    have hds := diff_step (T := T) (U := TT k) (V := TT (k + 1)) hs (hin (k + 1)) (hge k) (by rw [hsT]; exact step_ge _ _ _)
    obtain ⟨i, j⟩ := p
    dsimp only at hpM hsT hsS
    have hst : Fn Tryd.prog 61 #[ptrV bk, i64 (i : Nat), i64 (j : Nat), .func (.func 66) #[] #[ptrV b6]] (keepJ s bk d (SS k) (TT k) [accJ s bo b6 (setC (diffX (TT k) T) [])]) (fun _ Q => Q = keepJ s bk d (addX (SS k) i j) (stepX (TT k) i j) [accJ s bo b6 (setC (diffX (TT k) T) (cellsX (diffX (stepX (TT k) i j) (TT k))))]) :=
      step_k s bk d (SS k) (TT k) hs (hin k) (hcl k) i j hpM.1 hpM.2 (.func (.func 66) #[] #[ptrV b6]) rfl (fun l => accJ s bo b6 (setC (diffX (TT k) T) l)) [] (by simp) (fun l u v _ hu hv => by
        rw [setC_snoc]
        exact FnV.of (args := [.agg #[i64 (u : Nat), i64 (v : Nat)]]) (caps := [ptrV b6]) (tell_join s bo b6 (setC (diffX (TT k) T) l) hs u v hu hv))
    rw [← hsT, ← hsS, hds, setC_nil] at hst
    change G _ _ _ _ ((34, i64 (j : Nat)) :: (33, i64 (i : Nat)) :: _) (keepJ s bk d (SS k) (TT k) (mat s (diffX (TT k) T) bo :: pt b6 (row [ptrV bo] 35) :: pt b2 (row [ptrV bk] 24) :: q :: F1))
    (refine G.seq ?_; refine G.region ?_; refine GO.assign rfl rfl ?_; refine GO.nil ?_; refine kthen_n ?_; refine G.region ?_; refine GO.assign rfl rfl ?_; refine GO.nil ?_)
    refine kA_n ?_
    (refine G.block ?_; refine G.region ?_; refine GO.load1 rfl rfl rfl (Tk.t (Tk.t (Tk.t (Tk.t (Tk.t (Tk.t (Tk.t (Tk.t Tk.h)))))))) rfl ?_; refine GO.move rfl rfl ?_; refine GO.move rfl rfl ?_; refine GO.makeFunc1 rfl rfl ?_)
    refine GO.pair (x := mat s (diffX (TT k) T) bo) (y := pt b6 (row [ptrV bo] 35)) (Tks.c (Tk.t (Tk.t (Tk.t (Tk.t (Tk.t (Tk.t Tk.h)))))) (Tks.c (Tk.t (Tk.t (Tk.t (Tk.t (Tk.t (Tk.t Tk.h)))))) Tks.n)) ?_
    refine GO.call4 rfl rfl rfl rfl rfl (hst) (Tks.c (Tk.t Tk.h) (Tks.c (Tk.t Tk.h) (Tks.c (Tk.t Tk.h) (Tks.c (Tk.t Tk.h) (Tks.c (Tk.t Tk.h) (Tks.c (Tk.t Tk.h) (Tks.c Tk.h Tks.n))))))) ?_
    rintro _ _ rfl
    refine GO.unpair (x := mat s (diffX (TT (k + 1)) T) bo) (y := pt b6 (row [ptrV bo] 35)) (Tk.t (Tk.t (Tk.t (Tk.t (Tk.t (Tk.t Tk.h)))))) ?_
    (refine GO.nil ?_; refine kblock_n ?_)
    refine kB_n (ImpS.sb ?_)
    ((refine Sb.c (Tk.t (Tk.t Tk.h)) ?_; refine Sb.c (Tk.t (Tk.t Tk.h)) ?_; refine Sb.c (Tk.t (Tk.t Tk.h)) ?_; refine Sb.c (Tk.t (Tk.t Tk.h)) ?_; refine Sb.c (Tk.t (Tk.t Tk.h)) ?_; refine Sb.c (Tk.t (Tk.t Tk.h)) ?_; refine Sb.c Tk.h ?_; refine Sb.c Tk.h ?_; refine Sb.c Tk.h ?_; refine Sb.c Tk.h ?_); (exact Sb.r))
  · rw [List.length_map]
    change G _ _ _ _ _ (keepJ s bk d (SS (cellsX M).length) (TT (cellsX M).length) (mat s (diffX (TT (cellsX M).length) T) bo :: pt b6 (row [ptrV bo] 35) :: pt b2 (row [ptrV bk] 24) :: q :: bkM M bI vI :: mat s M bm :: F))
    (refine G.seq ?_; refine G.region ?_; refine GO.load1 rfl rfl rfl (Tk.t (Tk.t (Tk.t (Tk.t (Tk.t (Tk.t (Tk.t Tk.h))))))) rfl ?_; refine GO.assign rfl rfl ?_; refine GO.assign rfl rfl ?_; refine GO.nil ?_; refine kthen_n ?_; refine G.ret ?_)
    refine KF2.r2 rfl (RV.t rfl) (RV.t rfl) ⟨_, rfl, rfl⟩ (ImpS.sb ?_)
    ((refine Sb.c (Tk.t (Tk.t (Tk.t (Tk.t (Tk.t (Tk.t Tk.h)))))) ?_; refine Sb.c Tk.h ?_; refine Sb.c Tk.h ?_; refine Sb.c Tk.h ?_; refine Sb.c Tk.h ?_; refine Sb.c Tk.h ?_; refine Sb.c Tk.h ?_; refine Sb.c (Tk.t (Tk.t (Tk.t (Tk.t Tk.h)))) ?_; refine Sb.c (Tk.t (Tk.t Tk.h)) ?_); (refine Sb.s ?_; refine Sb.s ?_; refine Sb.s ?_; exact Sb.r))
  · intro i jc hi
    exact G.pur fun h => h.elim
theorem join_clo {s : Nat} {S T M : Nat → Nat → Bool} (hs : s ≤ 1024) (hc : IsClo S T) (hM : ∀ r c, M r c = true → r < s ∧ c < s) : IsClo (uniX S M) (foldT T (cellsX M)) := by
  rw [← setC_cells hs hM]
  exact foldT_clo (cellsX M) S T hc
end Go.Proofs.YtpfcgfgkmgnaaaaDoor
namespace Go.Proofs.YtpfcgfgkmgnaaaaDoor
open Go
theorem rowV_push (vs : Nat → Value) (i : Nat) (r : Value) : rowV (fun v : Value => v) vs i ++ [r] = rowV (fun v : Value => v) (upd vs i r) (i + 1) := by
  unfold rowV
  rw [List.range_succ, List.map_append, List.map_singleton, upd_at]
  congr 1
  exact List.map_congr_left fun k hk => (upd_ne _ _ (by have := List.mem_range.1 hk; omega)).symm
theorem built_kcopy (b c : Nat) : Tryd.prog.built 83 [(0, ptrV b), (1, i64 (c : Nat))] = some [ptrV b, i64 (c : Nat), .slice none 0 0, .slice none 0 0].toArray := by kernel_rfl
section
variable {P : Program} {c : Cx} {A : Array Oper} {rest : List Oper} {K : Kont} {L : Env} {H : List HP} {t ty : TypeId} {p : String} {e : Array Edge} {d : Nat}
theorem GO.buildPart2 {i1 i2 : Nat} {x1 x2 : Operand} {v1 v2 : Value} {l : List Value} (hb : P.built ty [(i1, v1), (i2, v2)] = some l.toArray) (hN : Nat.blt d c.N = true) (h1 : evl L x1 = some v1) (h2 : evl L x2 = some v2)
    (k : GO P c A rest K ((d, .agg l.toArray) :: L) H) : GO P c A (⟨some d, .build ty #[(i1, x1), (i2, x2)], t, p, e, none⟩ :: rest) K L H :=
  GO.buildPart (ps := [(i1, x1), (i2, x2)]) hb hN ⟨rfl, h1, rfl, h2, trivial⟩ k
end
attribute [local irreducible] G GO GR GT Fn FnV pt init exs pur sat own ImpS mat posL allV orL restX cellsX cellsV cntX
set_option maxHeartbeats 4000000 in
theorem cloneB_spec (R : HP) (s b cap : Nat) (o : Nat → Bool) (hq : Sl R (.slice (some ⟨b, 0, none⟩) s cap) s 1 (boolsV o s)) (hs : s ≤ 1024) : Fn Tryd.prog 45 #[.slice (some ⟨b, 0, none⟩) s cap] [R] (fun r Q => Q = [own 4 1 s r (boolsV o s), R]) := by
  refine Fn.mk2 Tryd.func45 rfl rfl fun w0 F => ?_
  (refine G.seq ?_; refine G.region ?_; refine GO.assign rfl rfl ?_; refine GO.nil ?_; refine kthen_n ?_; refine G.seq ?_; refine G.seq ?_; refine G.region ?_; refine GO.move rfl rfl ?_; refine GO.eqNilS rfl rfl ?_; refine GO.nil ?_; refine kthen_n ?_; refine G.condF rfl rfl ?_; refine G.skip ?_; refine kthen_n ?_; refine G.seq ?_; refine G.region ?_)
  refine GO.buildSlice0 rfl fun v5 => ?_
  (refine GO.move rfl rfl ?_)
  refine GO.appendFrom (m := s) (q := R) rfl rfl rfl Tk.h Tk.h hq (rowV_one (fun _ => rfl)) ⟨by decide, rfl⟩ (by unfold maxLen; omega) (by omega) fun v7 => ?_
  rw [List.nil_append, Nat.zero_add s]
  (refine GO.assign rfl rfl ?_; refine GO.nil ?_; refine kthen_n ?_; refine G.ret ?_)
  refine KF2.r1 rfl (RV.t rfl) rfl (ImpS.sb ?_)
  ((refine Sb.c Tk.h ?_; refine Sb.c Tk.h ?_); (exact Sb.r))
set_option maxHeartbeats 4000000 in
theorem kcopy_nil : Fn Tryd.prog 14 #[.pointer none] [] (fun r Q => r = .pointer none ∧ Q = []) := by
  refine Fn.mk2 Tryd.func14 rfl rfl fun w0 F => ?_
  (refine G.seq ?_; refine G.region ?_; refine GO.assign rfl rfl ?_; refine GO.nil ?_; refine kthen_n ?_; refine G.seq ?_; refine G.seq ?_; refine G.region ?_; refine GO.move rfl rfl ?_)
  refine GO.call1 rfl rfl (is_knil) Tks.n ?_
  rintro _ _ ⟨rfl, rfl⟩
  (refine GO.not rfl rfl ?_; refine GO.nil ?_; refine kthen_n ?_; refine G.condT rfl rfl ?_; refine G.seq ?_; refine G.region ?_; refine GO.assign rfl rfl ?_; refine GO.nil ?_; refine kthen_n ?_; refine G.ret ?_; refine kthen_r ?_)
  refine KF2.r1 rfl (RV.t rfl) ⟨rfl, rfl⟩ (ImpS.sb ?_)
  (skip; (exact Sb.r))
set_option maxHeartbeats 16000000 in
theorem kcopy_k (s bk : Nat) (d : KD) (S T : Nat → Nat → Bool) (hs1 : 1 ≤ s) (hs : s ≤ 1024) : Fn Tryd.prog 14 #[ptrV bk] (keepL s bk d S T) (fun r Q => ∃ b' d', r = ptrV b' ∧ Q = keepL s b' d' S T ++ keepL s bk d S T) := by
  generalize hc : cntX T = c
  rw [show keepL s bk d S T = [hdK s bk d c, mat s S d.bs, rowsO s d.bt d.ct d.bst d.cst, rowsF s d.bst d.cst T, rowsO s d.bf d.cf d.bsf d.csf, rowsF s d.bsf d.csf (flipX T)] by rw [← hc]]
  generalize hU : flipX T = U
  refine Fn.mk2 Tryd.func14 rfl rfl fun w0 F => ?_
  (refine G.seq ?_; refine G.region ?_; refine GO.assign rfl rfl ?_; refine GO.nil ?_; refine kthen_n ?_; refine G.seq ?_; refine G.seq ?_; refine G.region ?_; refine GO.move rfl rfl ?_)
  refine GO.call1 rfl rfl (isH s bk d c) (Tks.c Tk.h Tks.n) ?_
  rintro _ _ ⟨rfl, rfl⟩
  (refine GO.not rfl rfl ?_; refine GO.nil ?_; refine kthen_n ?_; refine G.condF rfl rfl ?_; refine G.skip ?_; refine kthen_n ?_; refine G.seq ?_)
  refine G.drawT 12 3600 [hdK s bk d c] (mat s S d.bs :: rowsO s d.bt d.ct d.bst d.cst :: rowsF s d.bst d.cst T :: rowsO s d.bf d.cf d.bsf d.csf :: rowsF s d.bsf d.csf U :: F) (by kernel_rfl) (keys_of rfl) (ImpS.sb (by ((refine Sb.c Tk.h ?_; refine Sb.c Tk.h ?_; refine Sb.c Tk.h ?_; refine Sb.c Tk.h ?_; refine Sb.c Tk.h ?_; refine Sb.c Tk.h ?_); (exact Sb.r)))) ?_
  ((apply GR.step rfl; focus (intro Z; refine GO.move rfl rfl ?_; exact KQ.z)); (apply GR.step rfl; focus (intro Z; refine GO.nilCheck rfl rfl ?_; exact KQ.z)); (apply GR.step rfl; focus (intro Z; refine GO.fieldAddr rfl rfl ?_; exact KQ.z)); (apply GR.step rfl; focus (intro Z; refine GO.load1 rfl rfl rfl Tk.h rfl ?_; exact KQ.z)); refine GR.skip rfl ?_; (apply GR.step rfl; focus (intro Z; refine GO.move rfl rfl ?_; exact KQ.z)); (apply GR.step rfl; focus (intro Z; refine GO.nilCheck rfl rfl ?_; exact KQ.z)); (apply GR.step rfl; focus (intro Z; refine GO.fieldAddr rfl rfl ?_; exact KQ.z)); (apply GR.step rfl; focus (intro Z; refine GO.load1 rfl rfl rfl Tk.h rfl ?_; exact KQ.z)); refine GR.skip rfl ?_; refine GR.skip rfl ?_; refine GR.skip rfl ?_; refine GR.nil ?_)
  (repeat refine GT.skip rfl ?_)
  refine GT.step rfl ?_
  refine GO.call1 rfl rfl (copy_mat s d.bs S) (Tks.c (Tk.t Tk.h) Tks.n) ?_
  rintro _ _ ⟨b', rfl, rfl⟩
  refine GO.nil ⟨rfl, _, mat s S b' :: mat s S d.bs :: rowsO s d.bt d.ct d.bst d.cst :: rowsF s d.bst d.cst T :: rowsO s d.bf d.cf d.bsf d.csf :: rowsF s d.bsf d.csf U :: F, rfl, ImpS.sb (by ((refine Sb.c (Tk.t (Tk.t Tk.h)) ?_; refine Sb.c Tk.h ?_; refine Sb.c Tk.h ?_; refine Sb.c Tk.h ?_; refine Sb.c Tk.h ?_; refine Sb.c Tk.h ?_; refine Sb.c Tk.h ?_); (exact Sb.r))), ?_⟩
  (repeat refine GT.skip rfl ?_)
  refine GT.step rfl ?_
  refine GO.buildPart2 (built_kcopy b' c) rfl rfl rfl ?_
  refine GO.nil ⟨rfl, _, _, rfl, ImpS.refl, ?_⟩
  (repeat refine GT.skip rfl ?_)
  refine GT.step rfl ?_
  refine GO.box rfl rfl rfl fun b18 => ?_
  refine GO.nil ⟨rfl, _, pt b18 (row [ptrV b', i64 (c : Nat), .slice none 0 0, .slice none 0 0] 83) :: mat s S b' :: mat s S d.bs :: rowsO s d.bt d.ct d.bst d.cst :: rowsF s d.bst d.cst T :: rowsO s d.bf d.cf d.bsf d.csf :: rowsF s d.bsf d.csf U :: F, rfl, ImpS.sb (by ((refine Sb.c (Tk.t Tk.h) ?_; refine Sb.c Tk.h ?_; refine Sb.c Tk.h ?_; refine Sb.c Tk.h ?_; refine Sb.c Tk.h ?_; refine Sb.c Tk.h ?_; refine Sb.c Tk.h ?_; refine Sb.c Tk.h ?_); (exact Sb.r))), ?_⟩
  (repeat refine GT.skip rfl ?_)
  refine GT.step rfl ?_
  refine GO.assign rfl rfl ?_
  refine GO.nil ⟨rfl, _, _, rfl, ImpS.refl, ?_⟩
  refine GT.nil ?_
  (refine GO.nil ?_; refine kthen_n ?_; refine G.seq ?_; refine G.seq ?_; refine G.region ?_; refine GO.move rfl rfl ?_; refine GO.nilCheck rfl rfl ?_; refine GO.fieldAddr rfl rfl ?_; refine GO.load1 rfl rfl rfl Tk.h rfl ?_; refine GO.lenS rfl rfl ?_; refine GO.move rfl rfl ?_; refine GO.nil ?_; refine kthen_n ?_; refine G.block ?_)
  refine G.ownNil (T := 75) (sz := 1) ?_
  refine G.ownNil (T := 75) (sz := 1) ?_
  refine G.impS (H' := fam 4 1 0 (fun _ => .slice none 0 0) (fun _ => s) (fun r => boolsV (T r) s) :: fam 4 1 0 (fun _ => .slice none 0 0) (fun _ => s) (fun r => boolsV (U r) s) :: own 75 1 0 (.slice none 0 0) [] :: own 75 1 0 (.slice none 0 0) [] :: pt b18 (row [ptrV b', i64 (c : Nat), .slice none 0 0, .slice none 0 0] 83) :: mat s S b' :: hdK s bk d c :: mat s S d.bs :: rowsO s d.bt d.ct d.bst d.cst :: rowsF s d.bst d.cst T :: rowsO s d.bf d.cf d.bsf d.csf :: rowsF s d.bsf d.csf U :: F) (ImpS.trans (ImpS.sb (M := own 75 1 0 (.slice none 0 0) [] :: own 75 1 0 (.slice none 0 0) [] :: pt b18 (row [ptrV b', i64 (c : Nat), .slice none 0 0, .slice none 0 0] 83) :: mat s S b' :: hdK s bk d c :: mat s S d.bs :: rowsO s d.bt d.ct d.bst d.cst :: rowsF s d.bst d.cst T :: rowsO s d.bf d.cf d.bsf d.csf :: rowsF s d.bsf d.csf U :: F) (by ((refine Sb.c Tk.h ?_; refine Sb.c Tk.h ?_; refine Sb.c (Tk.t Tk.h) ?_; refine Sb.c (Tk.t Tk.h) ?_; refine Sb.c Tk.h ?_; refine Sb.c Tk.h ?_; refine Sb.c Tk.h ?_; refine Sb.c Tk.h ?_; refine Sb.c Tk.h ?_; refine Sb.c Tk.h ?_); (exact Sb.r)))) (ImpS.trans fam_zero fam_zero)) ?_
  refine G.loop3 (fun (i : Nat) (p q : Value × (Nat → Value)) => [(0, ptrV bk), (3, ptrV b18), (23, i64 (s : Nat)), (24, i64 (i : Nat))])
    (fun i p q => fam 4 1 i p.2 (fun _ => s) (fun r => boolsV (T r) s) :: fam 4 1 i q.2 (fun _ => s) (fun r => boolsV (U r) s) :: own 75 1 i p.1 (rowV (fun v : Value => v) p.2 i) :: own 75 1 i q.1 (rowV (fun v : Value => v) q.2 i) :: pt b18 (row [ptrV b', i64 (c : Nat), p.1, q.1] 83) :: mat s S b' :: hdK s bk d c :: mat s S d.bs :: rowsO s d.bt d.ct d.bst d.cst :: rowsF s d.bst d.cst T :: rowsO s d.bf d.cf d.bsf d.csf :: rowsF s d.bsf d.csf U :: F) (fun i p q => i ≤ s ∧ p.1.oneCell' = true ∧ q.1.oneCell' = true) (fun i _ _ => s - i) 0 (.slice none 0 0, fun _ => .slice none 0 0) (.slice none 0 0, fun _ => .slice none 0 0) ⟨by omega, rfl, rfl⟩ ?_ ?_ ?_
  · (refine SubE.c rfl rfl ?_; refine SubE.c rfl rfl ?_; refine SubE.c rfl rfl ?_; refine SubE.c rfl rfl ?_; exact SubE.n)
  · dsimp only [rowV, List.range_zero, List.map_nil]
    ((refine Sb.c Tk.h ?_; refine Sb.c Tk.h ?_; refine Sb.c Tk.h ?_; refine Sb.c Tk.h ?_; refine Sb.c Tk.h ?_; refine Sb.c Tk.h ?_; refine Sb.c Tk.h ?_; refine Sb.c Tk.h ?_; refine Sb.c Tk.h ?_; refine Sb.c Tk.h ?_; refine Sb.c Tk.h ?_; refine Sb.c Tk.h ?_); (exact Sb.r))
  rintro i ⟨vt, vs⟩ ⟨vf, us⟩ ⟨hi, hone1, hone2⟩
  dsimp only at hone1 hone2 ⊢
  (refine G.seq ?_; refine G.region ?_; refine GO.lti rfl rfl rfl ?_; refine GO.nil ?_; refine kthen_n ?_; refine G.seq ?_)
  refine G.condD rfl (fun hlt => ?_) (fun hge => ?_)
  · have his : i < s := by omega
    have r1 : Rd (rowsO s d.bt d.ct d.bst d.cst) ⟨d.bt, 0 + i * 1, none⟩ (rowS s d.bst d.cst i) := by rw [Nat.zero_add, Nat.mul_one]; exact rowsO_rd his
    have r2 : Rd (rowsO s d.bf d.cf d.bsf d.csf) ⟨d.bf, 0 + i * 1, none⟩ (rowS s d.bsf d.csf i) := by rw [Nat.zero_add, Nat.mul_one]; exact rowsO_rd his
    have hcl1 := cloneB_spec (rowsF s d.bst d.cst T) s (d.bst i) (d.cst i) (T i) (rowsF_sl his) hs
    have hcl2 := cloneB_spec (rowsF s d.bsf d.csf U) s (d.bsf i) (d.csf i) (U i) (rowsF_sl his) hs
    (refine G.skip ?_; refine kthen_n ?_; refine G.seq ?_; refine G.block ?_; refine G.seq ?_; refine G.region ?_; refine GO.move rfl rfl ?_; refine GO.assign rfl rfl ?_; refine GO.nil ?_; refine kthen_n ?_; refine G.seq ?_)
    refine G.drawT 17 28672 [pt b18 (row [ptrV b', i64 (c : Nat), vt, vf] 83), hdK s bk d c, rowsO s d.bt d.ct d.bst d.cst] (fam 4 1 i vs (fun _ => s) (fun r => boolsV (T r) s) :: own 75 1 i vt (rowV (fun v : Value => v) vs i) :: fam 4 1 i us (fun _ => s) (fun r => boolsV (U r) s) :: own 75 1 i vf (rowV (fun v : Value => v) us i) :: mat s S b' :: mat s S d.bs :: rowsF s d.bst d.cst T :: rowsO s d.bf d.cf d.bsf d.csf :: rowsF s d.bsf d.csf U :: F) (by kernel_rfl) (keys_of rfl) (ImpS.sb (by ((refine Sb.c (Tk.t (Tk.t (Tk.t (Tk.t Tk.h)))) ?_; refine Sb.c (Tk.t (Tk.t (Tk.t (Tk.t (Tk.t Tk.h))))) ?_; refine Sb.c (Tk.t (Tk.t (Tk.t (Tk.t (Tk.t (Tk.t Tk.h)))))) ?_; refine Sb.c Tk.h ?_; refine Sb.c (Tk.t Tk.h) ?_; refine Sb.c Tk.h ?_; refine Sb.c Tk.h ?_; refine Sb.c Tk.h ?_; refine Sb.c Tk.h ?_; refine Sb.c Tk.h ?_; refine Sb.c Tk.h ?_; refine Sb.c Tk.h ?_); (exact Sb.r)))) ?_
    ((apply GR.step rfl; focus (intro Z; refine GO.move rfl rfl ?_; exact KQ.z)); (apply GR.step rfl; focus (intro Z; refine GO.move rfl rfl ?_; exact KQ.z)); (apply GR.step rfl; focus (intro Z; refine GO.nilCheck rfl rfl ?_; exact KQ.z)); (apply GR.step rfl; focus (intro Z; refine GO.fieldAddr rfl rfl ?_; exact KQ.z)); (apply GR.step rfl; focus (intro Z; refine GO.load1 rfl rfl rfl Tk.h rfl ?_; exact KQ.z)); (apply GR.step rfl; focus (intro Z; refine GO.move rfl rfl ?_; exact KQ.z)); (apply GR.step rfl; focus (intro Z; refine GO.nilCheck rfl rfl ?_; exact KQ.z)); (apply GR.step rfl; focus (intro Z; refine GO.fieldAddr rfl rfl ?_; exact KQ.z)); (apply GR.step rfl; focus (intro Z; refine GO.load1 rfl rfl rfl (Tk.t Tk.h) rfl ?_; exact KQ.z)); (apply GR.step rfl; focus (intro Z; refine GO.move rfl rfl ?_; exact KQ.z)); (apply GR.step rfl; focus (intro Z; refine GO.idxS rfl rfl rfl ⟨rfl, by omega⟩ ?_; exact KQ.z)); (apply GR.step rfl; focus (intro Z; refine GO.loadQ rfl rfl rfl (Tk.t (Tk.t Tk.h)) (by assumption) ?_; exact KQ.z)); refine GR.skip rfl ?_; refine GR.skip rfl ?_; refine GR.skip rfl ?_; (apply GR.step rfl; focus (intro Z; refine GO.nilCheck rfl rfl ?_; exact KQ.z)); (apply GR.step rfl; focus (intro Z; refine GO.fieldAddr rfl rfl ?_; exact KQ.z)); refine GR.nil ?_)
    (repeat refine GT.skip rfl ?_)
    refine GT.step rfl ?_
    refine GO.call1 rfl rfl (hcl1) (Tks.c (Tk.t (Tk.t (Tk.t (Tk.t (Tk.t (Tk.t (Tk.t (Tk.t (Tk.t Tk.h))))))))) Tks.n) ?_
    rintro r39 _ rfl
    refine GO.ownV Tk.h fun a1 c1 e1 => ?_
    subst e1
    refine GO.nil ⟨rfl, _, own 4 1 s (.slice a1 s c1) (boolsV (T i) s) :: fam 4 1 i vs (fun _ => s) (fun r => boolsV (T r) s) :: own 75 1 i vt (rowV (fun v : Value => v) vs i) :: fam 4 1 i us (fun _ => s) (fun r => boolsV (U r) s) :: own 75 1 i vf (rowV (fun v : Value => v) us i) :: mat s S b' :: mat s S d.bs :: rowsF s d.bst d.cst T :: rowsO s d.bf d.cf d.bsf d.csf :: rowsF s d.bsf d.csf U :: F, rfl, ImpS.sb (by ((refine Sb.c (Tk.t (Tk.t Tk.h)) ?_; refine Sb.c (Tk.t (Tk.t Tk.h)) ?_; refine Sb.c (Tk.t (Tk.t Tk.h)) ?_; refine Sb.c Tk.h ?_; refine Sb.c (Tk.t Tk.h) ?_; refine Sb.c (Tk.t Tk.h) ?_; refine Sb.c (Tk.t Tk.h) ?_; refine Sb.c (Tk.t Tk.h) ?_; refine Sb.c (Tk.t Tk.h) ?_; refine Sb.c (Tk.t Tk.h) ?_; refine Sb.c Tk.h ?_; refine Sb.c Tk.h ?_; refine Sb.c Tk.h ?_); (exact Sb.r))), ?_⟩
    (repeat refine GT.skip rfl ?_)
    refine GT.step rfl ?_
    refine GO.buildSlice1 rfl rfl (by simp; rfl) rfl ⟨by omega, by omega⟩ fun b55 => ?_
    rw [show putParts [Value.slice a1 s c1] = [Value.slice a1 s c1] by simp [putParts, Value.cells]]
    refine GO.nil ⟨rfl, _, pt b55 (row [.slice a1 s c1] 75) :: own 4 1 s (.slice a1 s c1) (boolsV (T i) s) :: fam 4 1 i vs (fun _ => s) (fun r => boolsV (T r) s) :: own 75 1 i vt (rowV (fun v : Value => v) vs i) :: fam 4 1 i us (fun _ => s) (fun r => boolsV (U r) s) :: own 75 1 i vf (rowV (fun v : Value => v) us i) :: mat s S b' :: mat s S d.bs :: rowsF s d.bst d.cst T :: rowsO s d.bf d.cf d.bsf d.csf :: rowsF s d.bsf d.csf U :: F, rfl, ImpS.sb (by ((refine Sb.c (Tk.t Tk.h) ?_; refine Sb.c (Tk.t Tk.h) ?_; refine Sb.c (Tk.t Tk.h) ?_; refine Sb.c Tk.h ?_; refine Sb.c Tk.h ?_; refine Sb.c Tk.h ?_; refine Sb.c Tk.h ?_; refine Sb.c Tk.h ?_; refine Sb.c Tk.h ?_; refine Sb.c Tk.h ?_; refine Sb.c Tk.h ?_; refine Sb.c Tk.h ?_; refine Sb.c Tk.h ?_; refine Sb.c Tk.h ?_); (exact Sb.r))), ?_⟩
    (repeat refine GT.skip rfl ?_)
    refine GT.step rfl ?_
    refine GO.appendOwn (m := 1) (news := [.slice a1 s c1]) rfl rfl rfl (Tk.t (Tk.t (Tk.t (Tk.t (Tk.t (Tk.t Tk.h)))))) (Tk.t (Tk.t (Tk.t Tk.h))) rfl (by simp [Value.oneCell']) ⟨by decide, rfl⟩ Nat.one_pos (by unfold maxLen; omega) (by omega) fun vt4 => ?_
    rw [rowV_push]
    refine GO.ownOne Tk.h fun hone3 => ?_
    refine GO.nil ⟨rfl, _, own 75 1 (i + 1) vt4 (rowV (fun v : Value => v) (upd vs i (.slice a1 s c1)) (i + 1)) :: own 4 1 s (.slice a1 s c1) (boolsV (T i) s) :: fam 4 1 i vs (fun _ => s) (fun r => boolsV (T r) s) :: fam 4 1 i us (fun _ => s) (fun r => boolsV (U r) s) :: own 75 1 i vf (rowV (fun v : Value => v) us i) :: mat s S b' :: mat s S d.bs :: rowsF s d.bst d.cst T :: rowsO s d.bf d.cf d.bsf d.csf :: rowsF s d.bsf d.csf U :: F, rfl, ImpS.sb (by ((refine Sb.c (Tk.t Tk.h) ?_; refine Sb.c (Tk.t Tk.h) ?_; refine Sb.c (Tk.t Tk.h) ?_; refine Sb.c Tk.h ?_; refine Sb.c (Tk.t Tk.h) ?_; refine Sb.c (Tk.t Tk.h) ?_; refine Sb.c (Tk.t Tk.h) ?_; refine Sb.c (Tk.t Tk.h) ?_; refine Sb.c (Tk.t Tk.h) ?_; refine Sb.c (Tk.t Tk.h) ?_; refine Sb.c (Tk.t Tk.h) ?_; refine Sb.c (Tk.t Tk.h) ?_; refine Sb.c (Tk.t Tk.h) ?_); (refine Sb.s ?_; exact Sb.r))), ?_⟩
    (repeat refine GT.skip rfl ?_)
    refine GT.nil ?_
    refine GO.store1 rfl rfl hone3 Tk.h (by simp) ?_
    refine GO.keep (H' := fam 4 1 (i + 1) (upd vs i (.slice a1 s c1)) (fun _ => s) (fun r => boolsV (T r) s) :: own 75 1 (i + 1) vt4 (rowV (fun v : Value => v) (upd vs i (.slice a1 s c1)) (i + 1)) :: pt b18 (row [ptrV b', i64 (c : Nat), vt4, vf] 83) :: hdK s bk d c :: rowsO s d.bt d.ct d.bst d.cst :: fam 4 1 i us (fun _ => s) (fun r => boolsV (U r) s) :: own 75 1 i vf (rowV (fun v : Value => v) us i) :: mat s S b' :: mat s S d.bs :: rowsF s d.bst d.cst T :: rowsO s d.bf d.cf d.bsf d.csf :: rowsF s d.bsf d.csf U :: F) ?_ ?_
    · refine ImpS.trans ?_ (fam_snoc (T := 4) (sz := 1) (k := i) (vs := upd vs i (.slice a1 s c1)) (ln := fun _ => s) (xs := fun r => boolsV (T r) s))
      rw [upd_at, show fam 4 1 i (upd vs i (.slice a1 s c1)) (fun _ => s) (fun r => boolsV (T r) s) = fam 4 1 i vs (fun _ => s) (fun r => boolsV (T r) s) from fam_congr fun k hk => ⟨upd_ne _ _ (by omega), rfl, rfl⟩]
      refine ImpS.sb ?_
      ((refine Sb.c (Tk.t (Tk.t (Tk.t (Tk.t Tk.h)))) ?_; refine Sb.c (Tk.t (Tk.t (Tk.t (Tk.t Tk.h)))) ?_; refine Sb.c (Tk.t (Tk.t (Tk.t Tk.h))) ?_; refine Sb.c Tk.h ?_; refine Sb.c Tk.h ?_; refine Sb.c Tk.h ?_; refine Sb.c Tk.h ?_; refine Sb.c Tk.h ?_; refine Sb.c Tk.h ?_; refine Sb.c Tk.h ?_; refine Sb.c Tk.h ?_; refine Sb.c Tk.h ?_; refine Sb.c Tk.h ?_); (exact Sb.r))
    (refine GO.nil ?_; refine kthen_n ?_)
    refine G.drawT 17 28672 [pt b18 (row [ptrV b', i64 (c : Nat), vt4, vf] 83), hdK s bk d c, rowsO s d.bf d.cf d.bsf d.csf] (fam 4 1 i us (fun _ => s) (fun r => boolsV (U r) s) :: own 75 1 i vf (rowV (fun v : Value => v) us i) :: fam 4 1 (i + 1) (upd vs i (.slice a1 s c1)) (fun _ => s) (fun r => boolsV (T r) s) :: own 75 1 (i + 1) vt4 (rowV (fun v : Value => v) (upd vs i (.slice a1 s c1)) (i + 1)) :: mat s S b' :: mat s S d.bs :: rowsO s d.bt d.ct d.bst d.cst :: rowsF s d.bst d.cst T :: rowsF s d.bsf d.csf U :: F) (by kernel_rfl) (keys_of rfl) (ImpS.sb (by ((refine Sb.c (Tk.t (Tk.t Tk.h)) ?_; refine Sb.c (Tk.t (Tk.t Tk.h)) ?_; refine Sb.c (Tk.t (Tk.t (Tk.t (Tk.t (Tk.t (Tk.t (Tk.t (Tk.t Tk.h)))))))) ?_; refine Sb.c (Tk.t (Tk.t (Tk.t Tk.h))) ?_; refine Sb.c (Tk.t (Tk.t (Tk.t Tk.h))) ?_; refine Sb.c Tk.h ?_; refine Sb.c Tk.h ?_; refine Sb.c (Tk.t Tk.h) ?_; refine Sb.c (Tk.t Tk.h) ?_; refine Sb.c Tk.h ?_; refine Sb.c Tk.h ?_; refine Sb.c Tk.h ?_); (exact Sb.r)))) ?_
    ((apply GR.step rfl; focus (intro Z; refine GO.move rfl rfl ?_; exact KQ.z)); (apply GR.step rfl; focus (intro Z; refine GO.move rfl rfl ?_; exact KQ.z)); (apply GR.step rfl; focus (intro Z; refine GO.nilCheck rfl rfl ?_; exact KQ.z)); (apply GR.step rfl; focus (intro Z; refine GO.fieldAddr rfl rfl ?_; exact KQ.z)); (apply GR.step rfl; focus (intro Z; refine GO.load1 rfl rfl rfl Tk.h rfl ?_; exact KQ.z)); (apply GR.step rfl; focus (intro Z; refine GO.move rfl rfl ?_; exact KQ.z)); (apply GR.step rfl; focus (intro Z; refine GO.nilCheck rfl rfl ?_; exact KQ.z)); (apply GR.step rfl; focus (intro Z; refine GO.fieldAddr rfl rfl ?_; exact KQ.z)); (apply GR.step rfl; focus (intro Z; refine GO.load1 rfl rfl rfl (Tk.t Tk.h) rfl ?_; exact KQ.z)); (apply GR.step rfl; focus (intro Z; refine GO.move rfl rfl ?_; exact KQ.z)); (apply GR.step rfl; focus (intro Z; refine GO.idxS rfl rfl rfl ⟨rfl, by omega⟩ ?_; exact KQ.z)); (apply GR.step rfl; focus (intro Z; refine GO.loadQ rfl rfl rfl (Tk.t (Tk.t Tk.h)) (by assumption) ?_; exact KQ.z)); refine GR.skip rfl ?_; refine GR.skip rfl ?_; refine GR.skip rfl ?_; (apply GR.step rfl; focus (intro Z; refine GO.nilCheck rfl rfl ?_; exact KQ.z)); (apply GR.step rfl; focus (intro Z; refine GO.fieldAddr rfl rfl ?_; exact KQ.z)); refine GR.nil ?_)
    (repeat refine GT.skip rfl ?_)
    refine GT.step rfl ?_
    refine GO.call1 rfl rfl (hcl2) (Tks.c (Tk.t (Tk.t (Tk.t (Tk.t (Tk.t (Tk.t (Tk.t (Tk.t (Tk.t (Tk.t (Tk.t Tk.h))))))))))) Tks.n) ?_
    rintro r39 _ rfl
    refine GO.ownV Tk.h fun a2 c2 e2 => ?_
    subst e2
    refine GO.nil ⟨rfl, _, own 4 1 s (.slice a2 s c2) (boolsV (U i) s) :: fam 4 1 i us (fun _ => s) (fun r => boolsV (U r) s) :: own 75 1 i vf (rowV (fun v : Value => v) us i) :: fam 4 1 (i + 1) (upd vs i (.slice a1 s c1)) (fun _ => s) (fun r => boolsV (T r) s) :: own 75 1 (i + 1) vt4 (rowV (fun v : Value => v) (upd vs i (.slice a1 s c1)) (i + 1)) :: mat s S b' :: mat s S d.bs :: rowsO s d.bt d.ct d.bst d.cst :: rowsF s d.bst d.cst T :: rowsF s d.bsf d.csf U :: F, rfl, ImpS.sb (by ((refine Sb.c (Tk.t (Tk.t Tk.h)) ?_; refine Sb.c (Tk.t (Tk.t Tk.h)) ?_; refine Sb.c (Tk.t (Tk.t Tk.h)) ?_; refine Sb.c Tk.h ?_; refine Sb.c (Tk.t Tk.h) ?_; refine Sb.c (Tk.t Tk.h) ?_; refine Sb.c (Tk.t Tk.h) ?_; refine Sb.c (Tk.t Tk.h) ?_; refine Sb.c (Tk.t Tk.h) ?_; refine Sb.c (Tk.t Tk.h) ?_; refine Sb.c (Tk.t Tk.h) ?_; refine Sb.c (Tk.t Tk.h) ?_; refine Sb.c Tk.h ?_); (exact Sb.r))), ?_⟩
    (repeat refine GT.skip rfl ?_)
    refine GT.step rfl ?_
    refine GO.buildSlice1 rfl rfl (by simp; rfl) rfl ⟨by omega, by omega⟩ fun b55 => ?_
    rw [show putParts [Value.slice a2 s c2] = [Value.slice a2 s c2] by simp [putParts, Value.cells]]
    refine GO.nil ⟨rfl, _, pt b55 (row [.slice a2 s c2] 75) :: own 4 1 s (.slice a2 s c2) (boolsV (U i) s) :: fam 4 1 i us (fun _ => s) (fun r => boolsV (U r) s) :: own 75 1 i vf (rowV (fun v : Value => v) us i) :: fam 4 1 (i + 1) (upd vs i (.slice a1 s c1)) (fun _ => s) (fun r => boolsV (T r) s) :: own 75 1 (i + 1) vt4 (rowV (fun v : Value => v) (upd vs i (.slice a1 s c1)) (i + 1)) :: mat s S b' :: mat s S d.bs :: rowsO s d.bt d.ct d.bst d.cst :: rowsF s d.bst d.cst T :: rowsF s d.bsf d.csf U :: F, rfl, ImpS.sb (by ((refine Sb.c (Tk.t Tk.h) ?_; refine Sb.c (Tk.t Tk.h) ?_; refine Sb.c (Tk.t Tk.h) ?_; refine Sb.c Tk.h ?_; refine Sb.c Tk.h ?_; refine Sb.c Tk.h ?_; refine Sb.c Tk.h ?_; refine Sb.c Tk.h ?_; refine Sb.c Tk.h ?_; refine Sb.c Tk.h ?_; refine Sb.c Tk.h ?_; refine Sb.c Tk.h ?_; refine Sb.c Tk.h ?_; refine Sb.c Tk.h ?_); (exact Sb.r))), ?_⟩
    (repeat refine GT.skip rfl ?_)
    refine GT.step rfl ?_
    refine GO.appendOwn (m := 1) (news := [.slice a2 s c2]) rfl rfl rfl (Tk.t (Tk.t (Tk.t (Tk.t (Tk.t (Tk.t Tk.h)))))) (Tk.t (Tk.t (Tk.t Tk.h))) rfl (by simp [Value.oneCell']) ⟨by decide, rfl⟩ Nat.one_pos (by unfold maxLen; omega) (by omega) fun vf4 => ?_
    rw [rowV_push]
    refine GO.ownOne Tk.h fun hone4 => ?_
    refine GO.nil ⟨rfl, _, own 75 1 (i + 1) vf4 (rowV (fun v : Value => v) (upd us i (.slice a2 s c2)) (i + 1)) :: own 4 1 s (.slice a2 s c2) (boolsV (U i) s) :: fam 4 1 i us (fun _ => s) (fun r => boolsV (U r) s) :: fam 4 1 (i + 1) (upd vs i (.slice a1 s c1)) (fun _ => s) (fun r => boolsV (T r) s) :: own 75 1 (i + 1) vt4 (rowV (fun v : Value => v) (upd vs i (.slice a1 s c1)) (i + 1)) :: mat s S b' :: mat s S d.bs :: rowsO s d.bt d.ct d.bst d.cst :: rowsF s d.bst d.cst T :: rowsF s d.bsf d.csf U :: F, rfl, ImpS.sb (by ((refine Sb.c (Tk.t Tk.h) ?_; refine Sb.c (Tk.t Tk.h) ?_; refine Sb.c (Tk.t Tk.h) ?_; refine Sb.c Tk.h ?_; refine Sb.c (Tk.t Tk.h) ?_; refine Sb.c (Tk.t Tk.h) ?_; refine Sb.c (Tk.t Tk.h) ?_; refine Sb.c (Tk.t Tk.h) ?_; refine Sb.c (Tk.t Tk.h) ?_; refine Sb.c (Tk.t Tk.h) ?_; refine Sb.c (Tk.t Tk.h) ?_; refine Sb.c (Tk.t Tk.h) ?_; refine Sb.c (Tk.t Tk.h) ?_); (refine Sb.s ?_; exact Sb.r))), ?_⟩
    (repeat refine GT.skip rfl ?_)
    refine GT.nil ?_
    refine GO.store1 rfl rfl hone4 Tk.h (by simp) ?_
    refine GO.keep (H' := fam 4 1 (i + 1) (upd us i (.slice a2 s c2)) (fun _ => s) (fun r => boolsV (U r) s) :: own 75 1 (i + 1) vf4 (rowV (fun v : Value => v) (upd us i (.slice a2 s c2)) (i + 1)) :: pt b18 (row [ptrV b', i64 (c : Nat), vt4, vf4] 83) :: hdK s bk d c :: rowsO s d.bf d.cf d.bsf d.csf :: fam 4 1 (i + 1) (upd vs i (.slice a1 s c1)) (fun _ => s) (fun r => boolsV (T r) s) :: own 75 1 (i + 1) vt4 (rowV (fun v : Value => v) (upd vs i (.slice a1 s c1)) (i + 1)) :: mat s S b' :: mat s S d.bs :: rowsO s d.bt d.ct d.bst d.cst :: rowsF s d.bst d.cst T :: rowsF s d.bsf d.csf U :: F) ?_ ?_
    · refine ImpS.trans ?_ (fam_snoc (T := 4) (sz := 1) (k := i) (vs := upd us i (.slice a2 s c2)) (ln := fun _ => s) (xs := fun r => boolsV (U r) s))
      rw [upd_at, show fam 4 1 i (upd us i (.slice a2 s c2)) (fun _ => s) (fun r => boolsV (U r) s) = fam 4 1 i us (fun _ => s) (fun r => boolsV (U r) s) from fam_congr fun k hk => ⟨upd_ne _ _ (by omega), rfl, rfl⟩]
      refine ImpS.sb ?_
      ((refine Sb.c (Tk.t (Tk.t (Tk.t (Tk.t Tk.h)))) ?_; refine Sb.c (Tk.t (Tk.t (Tk.t (Tk.t Tk.h)))) ?_; refine Sb.c (Tk.t (Tk.t (Tk.t Tk.h))) ?_; refine Sb.c Tk.h ?_; refine Sb.c Tk.h ?_; refine Sb.c Tk.h ?_; refine Sb.c Tk.h ?_; refine Sb.c Tk.h ?_; refine Sb.c Tk.h ?_; refine Sb.c Tk.h ?_; refine Sb.c Tk.h ?_; refine Sb.c Tk.h ?_; refine Sb.c Tk.h ?_); (exact Sb.r))
    (refine GO.nil ?_; refine kblock_n ?_; refine kthen_n ?_; refine G.region ?_; refine GO.addi rfl rfl rfl (by omega) ?_; refine GO.move rfl rfl ?_; refine GO.nil ?_; refine kthen_n ?_)
    skip
    refine ⟨i + 1, (vt4, upd vs i (.slice a1 s c1)), (vf4, upd us i (.slice a2 s c2)), ⟨by omega, hone3, hone4⟩, by omega, ?_, ?_⟩
    · (refine SubE.c rfl rfl ?_; refine SubE.c rfl rfl ?_; refine SubE.c rfl rfl ?_; refine SubE.c rfl rfl ?_; exact SubE.n)
    · dsimp only
      ((refine Sb.c (Tk.t (Tk.t (Tk.t (Tk.t (Tk.t Tk.h))))) ?_; refine Sb.c Tk.h ?_; refine Sb.c (Tk.t (Tk.t (Tk.t (Tk.t Tk.h)))) ?_; refine Sb.c Tk.h ?_; refine Sb.c Tk.h ?_; refine Sb.c (Tk.t (Tk.t Tk.h)) ?_; refine Sb.c Tk.h ?_; refine Sb.c (Tk.t Tk.h) ?_; refine Sb.c (Tk.t Tk.h) ?_; refine Sb.c (Tk.t Tk.h) ?_; refine Sb.c Tk.h ?_; refine Sb.c Tk.h ?_); (exact Sb.r))
  · obtain rfl : i = s := by omega
    refine G.gridIn (s := i) (T := T) (by omega) (Tks.c (Tk.t (Tk.t Tk.h)) (Tks.c Tk.h Tks.n)) fun bt ct bst cst e1 e2 => ?_
    refine G.gridIn (s := i) (T := U) (by omega) (Tks.c (Tk.t (Tk.t (Tk.t Tk.h))) (Tks.c (Tk.t (Tk.t Tk.h)) Tks.n)) fun bf cf bsf csf e3 e4 => ?_
    subst e1 e3
    (refine G.exit ?_; refine kthen_x ?_; refine kthen_x ?_; refine kblock_x ?_; refine kthen_n ?_; refine G.seq ?_; refine G.region ?_; refine GO.move rfl rfl ?_; refine GO.assign rfl rfl ?_; refine GO.nil ?_; refine kthen_n ?_; refine G.ret ?_)
    refine KF2.r1 rfl (RV.t rfl) ⟨b18, ⟨b', bt, ct, bf, cf, bst, cst, bsf, csf⟩, rfl, rfl⟩ (ImpS.sb ?_)
    unfold keepL hdK
    rw [hc, hU]
    simp only [List.cons_append, List.nil_append]
    ((refine Sb.c (Tk.t (Tk.t (Tk.t (Tk.t Tk.h)))) ?_; refine Sb.c (Tk.t (Tk.t (Tk.t (Tk.t Tk.h)))) ?_; refine Sb.c (Tk.t (Tk.t Tk.h)) ?_; refine Sb.c (Tk.t (Tk.t Tk.h)) ?_; refine Sb.c Tk.h ?_; refine Sb.c Tk.h ?_; refine Sb.c Tk.h ?_; refine Sb.c Tk.h ?_; refine Sb.c Tk.h ?_; refine Sb.c Tk.h ?_; refine Sb.c Tk.h ?_; refine Sb.c Tk.h ?_); (exact Sb.r))
end Go.Proofs.YtpfcgfgkmgnaaaaDoor
namespace Go.Proofs.YtpfcgfgkmgnaaaaDoor
open Go
theorem uniF (M : Nat → Nat → Bool) : uniX noX M = M := by
  funext r c
  unfold uniX noX
  rw [Bool.false_or]
theorem cloF : IsClo noX noX := IsClo.self fun r k c h _ => by cases h
theorem of_clo {s : Nat} {M : Nat → Nat → Bool} (hs : s ≤ 1024) (hM : ∀ r c, M r c = true → r < s ∧ c < s) : IsClo M (foldT noX (cellsX M)) := by
  have h := join_clo hs cloF hM
  rwa [uniF] at h
attribute [local irreducible] G GO GR GT Fn FnV pt init exs pur sat own ImpS mat posL allV orL restX cellsX cellsV cntX foldT
set_option maxHeartbeats 8000000 in
theorem kof_some (q : HP) (hq : Tab q) (s bm : Nat) (M : Nat → Nat → Bool) (hs1 : 1 ≤ s) (hs : s ≤ 1024) (hM : ∀ r c, M r c = true → r < s ∧ c < s) :
    Fn Tryd.prog 12 #[ptrV bm] [mat s M bm, q] (fun r Q => ∃ bk d, r = .tuple #[ptrV bk, i64 0] ∧ Q = keepJ s bk d M (foldT noX (cellsX M)) [mat s M bm, q]) := by
  have d0 : decide (((s : Nat) : Int) = 0) = false := decide_eq_false (by omega)
  have hsd := side_mat s bm M
  have hjk := fun bk d => join_k q hq s bk bm d noX noX M hs1 hs (fun r c h => by cases h) cloF hM
  rw [uniF] at hjk
  generalize foldT noX (cellsX M) = X at *
  generalize diffX X noX = Y at *
  refine Fn.mk2 Tryd.func12 rfl rfl fun w0 F => ?_
  (refine G.seq ?_; refine G.region ?_; refine GO.assign rfl rfl ?_; refine GO.assign rfl rfl ?_; refine GO.nil ?_; refine kthen_n ?_; refine G.seq ?_; refine G.seq ?_; refine G.region ?_; refine GO.move rfl rfl ?_)
  refine GO.call1 rfl rfl (hsd) (Tks.c Tk.h Tks.n) ?_
  rintro _ _ ⟨rfl, rfl⟩
  (refine GO.eqi rfl rfl rfl ?_; refine GO.nil ?_; refine kthen_n ?_; refine G.condF rfl (by assumption) ?_; refine G.skip ?_; refine kthen_n ?_; refine G.seq ?_; refine G.region ?_; refine GO.move rfl rfl ?_)
  refine GO.call1 rfl rfl (hsd) (Tks.c Tk.h Tks.n) ?_
  rintro _ _ ⟨rfl, rfl⟩
  skip
  refine GO.call1 rfl rfl (knew_spec s) Tks.n ?_
  rintro _ _ (⟨s2, bk, d, hs2, h1, h2, rfl, rfl⟩ | ⟨hno, rfl, rfl⟩)
  · obtain rfl : s = s2 := by omega
    unfold keepL
    dsimp only [List.cons_append, List.nil_append]
    (refine GO.move rfl rfl ?_; refine GO.extract rfl rfl rfl ?_; refine GO.extract rfl rfl rfl ?_; refine GO.assign rfl rfl ?_; refine GO.assign rfl rfl ?_; refine GO.nil ?_; refine kthen_n ?_; refine G.seq ?_; refine G.seq ?_; refine G.region ?_; refine GO.move rfl rfl ?_; refine GO.neF rfl rfl rfl rfl ?_; refine GO.nil ?_; refine kthen_n ?_; refine G.condF rfl rfl ?_; refine G.skip ?_; refine kthen_n ?_; refine G.seq ?_; refine G.region ?_; refine GO.move rfl rfl ?_; refine GO.move rfl rfl ?_)
    refine GO.call2 rfl rfl rfl (hjk bk d) (Tks.c Tk.h (Tks.c Tk.h (Tks.c Tk.h (Tks.c Tk.h (Tks.c Tk.h (Tks.c Tk.h (Tks.c Tk.h (Tks.c Tk.h Tks.n)))))))) ?_
    rintro _ _ ⟨bo, rfl, rfl⟩
    (refine GO.nil ?_; refine kthen_n ?_; refine G.seq ?_; refine G.region ?_; refine GO.move rfl rfl ?_; refine GO.assign rfl rfl ?_; refine GO.assign rfl rfl ?_; refine GO.nil ?_; refine kthen_n ?_; refine G.ret ?_)
    refine KF2.r2 rfl (RV.t rfl) (RV.t rfl) ⟨bk, d, rfl, rfl⟩ (ImpS.sb ?_)
    ((refine Sb.c (Tk.t Tk.h) ?_; refine Sb.c (Tk.t Tk.h) ?_; refine Sb.c (Tk.t Tk.h) ?_; refine Sb.c (Tk.t Tk.h) ?_; refine Sb.c (Tk.t Tk.h) ?_; refine Sb.c (Tk.t Tk.h) ?_; refine Sb.c (Tk.t Tk.h) ?_; refine Sb.c (Tk.t Tk.h) ?_); (refine Sb.s ?_; exact Sb.r))
  · exact absurd ⟨by omega, by omega⟩ hno
theorem kof_nil : Fn Tryd.prog 12 #[.pointer none] [] (fun r Q => r = .tuple #[.pointer none, i64 1] ∧ Q = []) := by
  refine Fn.mk2 Tryd.func12 rfl rfl fun w0 F => ?_
  (refine G.seq ?_; refine G.region ?_; refine GO.assign rfl rfl ?_; refine GO.assign rfl rfl ?_; refine GO.nil ?_; refine kthen_n ?_; refine G.seq ?_; refine G.seq ?_; refine G.region ?_; refine GO.move rfl rfl ?_)
  refine GO.call1 rfl rfl (side_nil) Tks.n ?_
  rintro _ _ ⟨rfl, rfl⟩
  (refine GO.eqT rfl rfl rfl rfl ?_; refine GO.nil ?_; refine kthen_n ?_; refine G.condT rfl rfl ?_; refine G.seq ?_; refine G.region ?_; refine GO.assign rfl rfl ?_; refine GO.assign rfl rfl ?_; refine GO.nil ?_; refine kthen_n ?_; refine G.ret ?_; refine kthen_r ?_)
  refine KF2.r2 rfl (RV.t rfl) (RV.t rfl) ⟨rfl, rfl⟩ (ImpS.sb ?_)
  (skip; (exact Sb.r))
end Go.Proofs.YtpfcgfgkmgnaaaaDoor
namespace Go.Proofs.YtpfcgfgkmgnaaaaDoor
open Go
/-! ## Methods bound to a receiver -/
section
variable {P : Program} {c : Cx} {A : Array Oper} {rest : List Oper} {K : Kont} {L : Env} {H F : List HP} {t : TypeId} {p : String} {e : Array Edge} {d : Nat}
end
/-! ## The rows that are met -/
def cntA (A : Nat → Bool) (s : Nat) : Nat := (List.range s).countP A
theorem cntA_le (A : Nat → Bool) (s : Nat) : cntA A s ≤ s := by
  have := List.countP_le_length (p := A) (l := List.range s)
  rw [List.length_range] at this
  exact this
theorem cntA_upd {A : Nat → Bool} {s j : Nat} (hj : j < s) (h : A j = false) : cntA (upd A j true) s = cntA A s + 1 := by
  have := countP_upd (f := upd A j true) (g := A) (i := j) (upd_at A j true) h (fun k hk => upd_ne A true hk) (List.range s) List.nodup_range (List.mem_range.2 hj)
  unfold cntA
  omega
theorem rowX_memS {s : Nat} {M : Nat → Nat → Bool} (hs : s ≤ 1024) (hM : ∀ r c, M r c = true → r < s ∧ c < s) {j k : Nat} : k ∈ rowX M j ↔ M j k = true := by
  unfold rowX
  rw [List.mem_filter, List.mem_range]
  exact ⟨fun h => h.2, fun h => ⟨by have := (hM _ _ h).2; omega, h⟩⟩
theorem rowX_lens {s : Nat} {M : Nat → Nat → Bool} (hs : s ≤ 1024) (hM : ∀ r c, M r c = true → r < s ∧ c < s) (j : Nat) : (rowX M j).length ≤ s := by
  have e : rowX M j = (List.range s).filter fun c => M j c := by
    refine strict_unique (R := fun a b : Nat => a < b) (fun _ _ h => by omega) (by unfold rowX; exact List.Pairwise.filter _ List.pairwise_lt_range) (List.Pairwise.filter _ List.pairwise_lt_range) fun k => ?_
    rw [rowX_memS hs hM, List.mem_filter, List.mem_range]
    exact ⟨fun h => ⟨(hM _ _ h).2, h⟩, fun h => h.2⟩
  rw [e]
  have := List.length_filter_le (fun c => M j c) (List.range s)
  rw [List.length_range] at this
  exact this
/-- What holds while rows are met, from row i on. -/
structure MetI (s : Nat) (M : Nat → Nat → Bool) (i : Nat) (A : Nat → Bool) (W : List Nat) : Prop where
  work : ∀ j ∈ W, PathX M i j
  met : ∀ j, A j = true → PathX M i j
  first : ∀ j, M i j = true → A j = true ∨ j ∈ W
  next : ∀ k j, A k = true → M k j = true → A j = true ∨ j ∈ W
  len : W.length ≤ (cntA A s + 1) * s
theorem MetI.lt {s : Nat} {M : Nat → Nat → Bool} {i : Nat} {A : Nat → Bool} {W : List Nat} (h : MetI s M i A W) (hM : ∀ r c, M r c = true → r < s ∧ c < s) : ∀ j, (A j = true ∨ j ∈ W) → j < s := fun j hj => by
  have hp : PathX M i j := hj.elim (h.met j) (h.work j)
  clear hj h
  induction hp with
  | one a => exact (hM _ _ a).2
  | more _ _ ih => exact ih
theorem MetI.old {s : Nat} {M : Nat → Nat → Bool} {i : Nat} {A : Nat → Bool} {W : List Nat} {j : Nat} (h : MetI s M i A (W ++ [j])) (hj : A j = true) : MetI s M i A W where
  work := fun k hk => h.work k (List.mem_append_left _ hk)
  met := h.met
  first := fun k hk => by
    rcases h.first k hk with g | g
    · exact .inl g
    · rcases List.mem_append.1 g with g | g
      · exact .inr g
      · rw [List.mem_singleton.1 g]; exact .inl hj
  next := fun r k hr hk => by
    rcases h.next r k hr hk with g | g
    · exact .inl g
    · rcases List.mem_append.1 g with g | g
      · exact .inr g
      · rw [List.mem_singleton.1 g]; exact .inl hj
  len := by have := h.len; rw [List.length_append] at this; omega
theorem MetI.new {s : Nat} {M : Nat → Nat → Bool} (hs : s ≤ 1024) (hM : ∀ r c, M r c = true → r < s ∧ c < s) {i : Nat} {A : Nat → Bool} {W : List Nat} {j : Nat} (h : MetI s M i A (W ++ [j])) (hj : A j = false) : MetI s M i (upd A j true) (W ++ rowX M j) := by
  have hpj := h.work j (List.mem_append_right _ (List.mem_singleton.2 rfl))
  have hjs := h.lt hM j (.inr (List.mem_append_right _ (List.mem_singleton.2 rfl)))
  have hup : ∀ k, A k = true → upd A j true k = true := fun k hk => by unfold upd; split <;> simp_all
  have hat : upd A j true j = true := upd_at A j true
  have fix : ∀ k, (A k = true ∨ k ∈ W ++ [j]) → (upd A j true k = true ∨ k ∈ W ++ rowX M j) := fun k hk => by
    rcases hk with g | g
    · exact .inl (hup k g)
    · rcases List.mem_append.1 g with g | g
      · exact .inr (List.mem_append_left _ g)
      · rw [List.mem_singleton.1 g]; exact .inl hat
  refine ⟨fun k hk => ?_, fun k hk => ?_, fun k hk => fix k (h.first k hk), fun r k hr hk => ?_, ?_⟩
  · rcases List.mem_append.1 hk with g | g
    · exact h.work k (List.mem_append_left _ g)
    · exact hpj.trans (.one ((rowX_memS hs hM).1 g))
  · by_cases e : k = j
    · rw [e]; exact hpj
    · rw [upd_ne A true e] at hk; exact h.met k hk
  · by_cases e : r = j
    · rw [e] at hk; exact .inr (List.mem_append_right _ ((rowX_memS hs hM).2 hk))
    · rw [upd_ne A true e] at hr; exact fix k (h.next r k hr hk)
  · have h1 := h.len
    have h2 := rowX_lens hs hM j
    rw [cntA_upd hjs hj]
    rw [List.length_append] at h1 ⊢
    rw [Nat.add_mul _ 1 s, Nat.one_mul]
    have : [j].length = 1 := rfl
    omega
theorem MetI.end {s : Nat} {M X : Nat → Nat → Bool} {i : Nat} {A : Nat → Bool} (h : MetI s M i A []) (hX : IsClo M X) : A = X i := by
  funext j
  rw [Bool.eq_iff_iff, hX.path]
  refine ⟨h.met j, fun hp => ?_⟩
  have key : ∀ r k, PathX M r k → (r = i ∨ A r = true) → A k = true := fun r k hp => by
    induction hp with
    | one a =>
      rintro (rfl | g)
      · exact (h.first _ a).elim id (fun x => by cases x)
      · exact (h.next _ _ g a).elim id (fun x => by cases x)
    | more a _ ih =>
      rintro (rfl | g)
      · exact ih (.inr ((h.first _ a).elim id (fun x => by cases x)))
      · exact ih (.inr ((h.next _ _ g a).elim id (fun x => by cases x)))
  exact key i j hp (.inl rfl)
theorem natsW_take (l : List Nat) (k : Nat) : (natsV (l ++ [k])).take (l.length * 1) = natsV l := by simp [natsV]
attribute [local irreducible] G GO GR GT Fn FnV pt init exs pur sat own ImpS mat posL allV orL restX cellsX cellsV natsV rowX cntA
end Go.Proofs.YtpfcgfgkmgnaaaaDoor
namespace Go.Proofs.YtpfcgfgkmgnaaaaDoor
open Go
theorem walk_succ {M : Nat → Nat → Bool} {s u k j : Nat} : walkX M s u (k + 1) j = true ↔ ∃ i, i < s ∧ walkX M s u k i = true ∧ M i j = true := by
  show stepN M (walkX M s u k) s j = true ↔ _
  exact stepN_iff
/-- Which rows a walk of 1 to k steps leads to. -/
def uptW (M : Nat → Nat → Bool) (s u k : Nat) : Nat → Bool := fun j => (List.range k).any fun t => walkX M s u (t + 1) j
theorem uptW_iff {M : Nat → Nat → Bool} {s u k j : Nat} : uptW M s u k j = true ↔ ∃ t, t < k ∧ walkX M s u (t + 1) j = true := by
  unfold uptW
  rw [List.any_eq_true]
  exact ⟨fun ⟨t, h1, h2⟩ => ⟨t, List.mem_range.1 h1, h2⟩, fun ⟨t, h1, h2⟩ => ⟨t, List.mem_range.2 h1, h2⟩⟩
def StabW (M : Nat → Nat → Bool) (s u k : Nat) : Prop := ∀ j, walkX M s u (k + 1) j = true → uptW M s u k j = true
theorem StabW.succ {M : Nat → Nat → Bool} {s u k : Nat} (h : StabW M s u k) : StabW M s u (k + 1) := fun j hj => by
  obtain ⟨i, hi, h1, h2⟩ := walk_succ.1 hj
  obtain ⟨t, ht, h3⟩ := uptW_iff.1 (h i h1)
  exact uptW_iff.2 ⟨t + 1, by omega, walk_succ.2 ⟨i, hi, h3, h2⟩⟩
theorem StabW.all {M : Nat → Nat → Bool} {s u k : Nat} (h : StabW M s u k) : ∀ m, StabW M s u (k + m)
  | 0 => h
  | m + 1 => (StabW.all h m).succ
theorem StabW.sub {M : Nat → Nat → Bool} {s u k : Nat} (h : StabW M s u k) : ∀ m j, uptW M s u (k + m) j = true → uptW M s u k j = true
  | 0, _, hj => hj
  | m + 1, j, hj => by
    obtain ⟨t, ht, h1⟩ := uptW_iff.1 hj
    by_cases e : t < k + m
    · exact StabW.sub h m j (uptW_iff.2 ⟨t, e, h1⟩)
    · obtain rfl : t = k + m := by omega
      exact StabW.sub h m j (h.all m j h1)
end Go.Proofs.YtpfcgfgkmgnaaaaDoor
namespace Go.Proofs.YtpfcgfgkmgnaaaaDoor
open Go
/-- Each row's columns, as they can be read. -/
def NextR (Z : HP) (v : Value) (s : Nat) (C : Nat → Nat → Bool) : Prop := ∃ (bl : Nat) (vs : Nat → Value), v = .slice (some ⟨bl, 0, none⟩) s s ∧ ∀ i, i < s → Rd Z ⟨bl, i, none⟩ (vs i) ∧ Sl Z (vs i) (rowX C i).length 1 (natsV (rowX C i))
theorem next_form {s bl : Nat} {vs : Nat → Value} {C : Nat → Nat → Bool} {l : List HP} {w : World}
    (h : sat (pt bl (row (rowV (fun v : Value => v) vs s) 67) :: fam 3 1 s vs (fun i => (rowX C i).length) (fun i => natsV (rowX C i)) :: l) w) :
    NextR (star [pt bl (row (rowV (fun v : Value => v) vs s) 67), fam 3 1 s vs (fun i => (rowX C i).length) (fun i => natsV (rowX C i))]) (.slice (some ⟨bl, 0, none⟩) s s) s C := by
  refine ⟨bl, vs, rfl, fun i hi => ⟨Sup.left _ _ _ _ (Rd.row (rowV_get (f := fun v : Value => v) (o := vs) hi)), ?_⟩⟩
  have h2 := fam_out (T := 3) (sz := 1) (N := s) (vs := vs) (ln := fun i => (rowX C i).length) (xs := fun i => natsV (rowX C i)) (F := []) hi Tk.h l w (sat_right (l := [pt bl (row (rowV (fun v : Value => v) vs s) 67)]) (l' := fam 3 1 s vs (fun i => (rowX C i).length) (fun i => natsV (rowX C i)) :: l) h)
  obtain ⟨a, cap, e, h3, h4⟩ := own_sl h2
  refine ⟨a, cap, e, h3, fun hp => ?_⟩
  obtain ⟨b, o, e2, hr⟩ := h4 hp
  exact ⟨b, o, e2, fun j u hj => Sup.right _ _ _ _ (fam_rd hi (hr j u hj))⟩
attribute [local irreducible] G GO GR GT Fn FnV pt init exs pur sat own ImpS mat posL allV orL restX cellsX cellsV natsV rowX colsK
set_option maxHeartbeats 16000000 in
theorem next_spec (z : HP) (ra : Value) (s : Nat) (C : Nat → Nat → Bool) (hra : RefO z ra (some (s, C))) (h1 : 1 ≤ s) (h2 : s ≤ 1024) (hC : ∀ r c, C r c = true → r < s ∧ c < s) :
    Fn Tryd.prog 68 #[ra] [z] (fun r Q => ∃ Z, NextR Z r s C ∧ Q = [Z, z]) := by
  have key : Fn Tryd.prog 68 #[ra] [z] (fun r Q => ∃ bl vs, r = .slice (some ⟨bl, 0, none⟩) s s ∧ Q = [pt bl (row (rowV (fun v : Value => v) vs s) 67), fam 3 1 s vs (fun i => (rowX C i).length) (fun i => natsV (rowX C i)), z]) := by
    have hend := fun i (hi : i < s) => colsK_end h2 hC hi
    have hcl : (cellsX C).length ≤ 1048576 := by rw [cellsX_len]; have := cnt_max C; omega
    obtain ⟨va, rfl, honea, aa, capa, rfl, hcapa, hrda⟩ := hra
    change Fn _ _ #[refV s (.slice aa (castL (cellsX C)).length capa)] _ _
    change 0 < (castL (cellsX C)).length → ∃ b o, aa = some ⟨b, o, none⟩ ∧ ∀ j u, (cellsV (castL (cellsX C)))[j]? = some u → Rd z ⟨b, o + j, none⟩ u at hrda
    rw [castL_len] at hrda ⊢
    refine Fn.mk2 Tryd.func68 rfl rfl fun w0 F => ?_
    (refine G.seq ?_; refine G.region ?_; refine GO.box rfl rfl rfl fun b1 => ?_; refine GO.assign rfl rfl ?_; refine GO.nil ?_; refine kthen_n ?_; refine G.seq ?_; refine G.region ?_; refine GO.fieldAddr rfl rfl ?_; refine GO.load1 rfl rfl rfl Tk.h rfl ?_)
    refine GO.make1 (n := s) rfl rfl rfl ⟨rfl, rfl⟩ ⟨by omega, by omega⟩ fun bl => ?_
    rw [show List.replicate s (Value.slice none 0 0) = rowV (fun v : Value => v) (fun _ => .slice none 0 0) s from rowV_const (f := fun v : Value => v) (a := .slice none 0 0)]
    refine GO.famNil (T := 3) (sz := 1) (N := s) ?_
    (refine GO.assign rfl rfl ?_; refine GO.nil ?_; refine kthen_n ?_; refine G.seq ?_; refine G.seq ?_; refine G.region ?_; refine GO.assign rfl rfl ?_; refine GO.nil ?_; refine kthen_n ?_; refine G.block ?_)
    have e1 : (fun i => (colsK C 0 i).length) = fun _ => 0 := by funext i; rw [colsK_nil]; rfl
    have e2 : (fun i => natsV (colsK C 0 i)) = fun _ => [] := by funext i; rw [colsK_nil]; unfold natsV; rfl
    refine G.loop2 (fun (k : Nat) (_ : Nat → Value) => [(1, ptrV b1), (3, .slice (some ⟨bl, 0, none⟩) s s), (4, i64 (k : Nat))])
      (fun k vs => pt bl (row (rowV (fun v : Value => v) vs s) 67) :: fam 3 1 s vs (fun i => (colsK C k i).length) (fun i => natsV (colsK C k i)) :: pt b1 (row [i64 (s : Nat), .slice aa (cellsX C).length capa] 28) :: z :: F) (fun k _ => k ≤ (cellsX C).length) (fun k _ => (cellsX C).length - k) 0 (fun _ => .slice none 0 0) (by omega) ?_ ?_ ?_
    · (refine SubE.c rfl rfl ?_; refine SubE.c rfl rfl ?_; refine SubE.c rfl rfl ?_; exact SubE.n)
    · rw [e1, e2]
      ((refine Sb.c (Tk.t Tk.h) ?_; refine Sb.c Tk.h ?_; refine Sb.c Tk.h ?_; refine Sb.c Tk.h ?_); (exact Sb.r))
    · rintro k vs hk
      (refine G.seq ?_; refine G.seq ?_; refine G.region ?_; refine GO.move rfl rfl ?_; refine GO.fieldAddr rfl rfl ?_; refine GO.load1 rfl rfl rfl (Tk.t (Tk.t Tk.h)) rfl ?_; refine GO.lenS rfl rfl ?_; refine GO.lti rfl rfl rfl ?_; refine GO.nil ?_; refine kthen_n ?_)
      refine G.condD rfl (fun hlt => ?_) (fun hge => ?_)
      · have hkl : k < (cellsX C).length := by omega
        obtain ⟨p, hp⟩ : ∃ p, (cellsX C)[k]? = some p := ⟨_, List.getElem?_eq_getElem hkl⟩
        obtain ⟨hr, hc⟩ := hC _ _ (cellsX_true (List.mem_of_getElem? hp))
        have hpc : (castL (cellsX C))[k]? = some ((p.1 : Int), (p.2 : Int)) := by unfold castL; rw [List.getElem?_map, hp]; rfl
        obtain ⟨bo, oo, rfl, hrd⟩ := hrda (by omega)
        have r1 : Rd z ⟨bo, oo + k * 2, none⟩ (i64 ((p.1 : Nat) : Int)) := hrd _ _ (cellsV_get hpc).1
        have r2 : Rd z ⟨bo, oo + k * 2 + 1, none⟩ (i64 ((p.2 : Nat) : Int)) := hrd _ _ (cellsV_get hpc).2
        obtain ⟨r, c⟩ := p
        dsimp only at hr hc r1 r2
        have hat := colsK_at hp
        have hne := fun j (h : j ≠ r) => colsK_ne hp h
        have hrl := colsK_len C k r
        refine G.famOut hr (Tk.t Tk.h) ?_
        (refine G.skip ?_; refine kthen_n ?_; refine G.seq ?_; refine G.block ?_; refine G.seq ?_; refine G.region ?_; refine GO.fieldAddr rfl rfl ?_; refine GO.load1 rfl rfl rfl (Tk.t (Tk.t (Tk.t Tk.h))) rfl ?_; refine GO.move rfl rfl ?_; refine GO.idxS rfl rfl rfl ⟨rfl, by omega⟩ ?_; refine GO.fieldAddr rfl rfl ?_; refine GO.loadQ rfl rfl rfl (Tk.t (Tk.t (Tk.t (Tk.t Tk.h)))) (by assumption) ?_; refine GO.assign rfl rfl ?_; refine GO.nil ?_; refine kthen_n ?_)
        refine G.drawT 15 12288 [pt b1 (row [i64 (s : Nat), .slice (some ⟨bo, oo, none⟩) (cellsX C).length capa] 28), z, pt bl (row (rowV (fun v : Value => v) vs s) 67)] (own 3 1 (colsK C k r).length (vs r) (natsV (colsK C k r)) :: famW 3 1 s vs (fun i => (colsK C k i).length) (fun i => natsV (colsK C k i)) r :: F) (by kernel_rfl) (keys_of rfl) (ImpS.sb (by ((refine Sb.c (Tk.t (Tk.t (Tk.t Tk.h))) ?_; refine Sb.c (Tk.t (Tk.t (Tk.t Tk.h))) ?_; refine Sb.c (Tk.t (Tk.t Tk.h)) ?_; refine Sb.c Tk.h ?_; refine Sb.c Tk.h ?_); (exact Sb.r)))) ?_
        ((apply GR.step rfl; focus (intro Z; refine GO.move rfl rfl ?_; exact KQ.z)); (apply GR.step rfl; focus (intro Z; refine GO.move rfl rfl ?_; exact KQ.z)); (apply GR.step rfl; focus (intro Z; refine GO.move rfl rfl ?_; exact KQ.z)); (apply GR.step rfl; focus (intro Z; refine GO.move rfl rfl ?_; exact KQ.z)); (apply GR.step rfl; focus (intro Z; refine GO.idxS rfl rfl rfl ⟨rfl, by omega⟩ ?_; exact KQ.z)); (apply GR.step rfl; focus (intro Z; refine GO.load1 rfl rfl rfl (Tk.t (Tk.t Tk.h)) (rowV_get1 (by assumption)) ?_; exact KQ.z)); (apply GR.step rfl; focus (intro Z; refine GO.fieldAddr rfl rfl ?_; exact KQ.z)); (apply GR.step rfl; focus (intro Z; refine GO.load1 rfl rfl rfl Tk.h rfl ?_; exact KQ.z)); (apply GR.step rfl; focus (intro Z; refine GO.move rfl rfl ?_; exact KQ.z)); (apply GR.step rfl; focus (intro Z; refine GO.idxS rfl rfl rfl ⟨rfl, by omega⟩ ?_; exact KQ.z)); (apply GR.step rfl; focus (intro Z; refine GO.fieldAddr rfl rfl ?_; exact KQ.z)); (apply GR.step rfl; focus (intro Z; refine GO.loadQ rfl rfl rfl (Tk.t Tk.h) (by assumption) ?_; exact KQ.z)); refine GR.skip rfl ?_; refine GR.skip rfl ?_; (apply GR.step rfl; focus (intro Z; refine GO.idxS rfl rfl rfl ⟨rfl, by omega⟩ ?_; exact KQ.z)); refine GR.nil ?_)
        (repeat refine GT.skip rfl ?_)
        refine GT.step rfl ?_
        refine GO.buildSlice1 rfl rfl (by simp; rfl) rfl ⟨by omega, by omega⟩ fun b55 => ?_
        rw [show putParts [i64 ((c : Nat) : Int)] = [i64 ((c : Nat) : Int)] by simp [putParts, Value.cells]]
        refine GO.nil ⟨rfl, _, pt b55 (row [i64 (c : Nat)] 3) :: own 3 1 (colsK C k r).length (vs r) (natsV (colsK C k r)) :: famW 3 1 s vs (fun i => (colsK C k i).length) (fun i => natsV (colsK C k i)) r :: F, rfl, ImpS.sb (by ((refine Sb.c (Tk.t Tk.h) ?_; refine Sb.c (Tk.t Tk.h) ?_; refine Sb.c (Tk.t Tk.h) ?_; refine Sb.c Tk.h ?_; refine Sb.c Tk.h ?_; refine Sb.c Tk.h ?_); (exact Sb.r))), ?_⟩
        refine GT.step rfl ?_
        refine GO.appendOwn (m := 1) (news := [i64 (c : Nat)]) rfl rfl rfl (Tk.t (Tk.t (Tk.t (Tk.t Tk.h)))) (Tk.t (Tk.t (Tk.t Tk.h))) rfl (by simp [Value.oneCell']) ⟨by decide, rfl⟩ Nat.one_pos (by unfold maxLen; omega) (by omega) fun v4 => ?_
        refine GO.ownOne Tk.h fun hone => ?_
        refine GO.nil ⟨rfl, _, own 3 1 ((colsK C k r).length + 1) v4 (natsV (colsK C k r) ++ [i64 (c : Nat)]) :: famW 3 1 s vs (fun i => (colsK C k i).length) (fun i => natsV (colsK C k i)) r :: F, rfl, ImpS.sb (by ((refine Sb.c (Tk.t Tk.h) ?_; refine Sb.c (Tk.t Tk.h) ?_; refine Sb.c (Tk.t Tk.h) ?_; refine Sb.c Tk.h ?_; refine Sb.c (Tk.t Tk.h) ?_); (refine Sb.s ?_; exact Sb.r))), ?_⟩
        (repeat refine GT.skip rfl ?_)
        refine GT.nil ?_
        refine GO.store1 rfl rfl hone (Tk.t (Tk.t Tk.h)) (by rw [rowV_len]; omega) ?_
        rw [rowV_set (f := fun v : Value => v)]
        refine GO.keep (H' := fam 3 1 s (upd vs r v4) (fun i => (colsK C (k + 1) i).length) (fun i => natsV (colsK C (k + 1) i)) :: pt bl (row (rowV (fun v : Value => v) (upd vs r v4) s) 67) :: pt b1 (row [i64 (s : Nat), .slice (some ⟨bo, oo, none⟩) (cellsX C).length capa] 28) :: z :: F) ?_ ?_
        · refine fam_in (vs := vs) (ln := fun i => (colsK C k i).length) (xs := fun i => natsV (colsK C k i)) (vs' := upd vs r v4) (ln' := fun i => (colsK C (k + 1) i).length) (xs' := fun i => natsV (colsK C (k + 1) i)) (T := 3) (sz := 1) (N := s) (i := r) hr (fun j hj => ⟨upd_ne _ _ hj, by rw [hne j hj], by rw [hne j hj]⟩) ?_
          rw [upd_at, hat, List.length_append, ← natsV_one]
          refine ImpS.sb ?_
          ((refine Sb.c (Tk.t (Tk.t (Tk.t Tk.h))) ?_; refine Sb.c (Tk.t (Tk.t (Tk.t Tk.h))) ?_; refine Sb.c Tk.h ?_; refine Sb.c Tk.h ?_; refine Sb.c Tk.h ?_); (exact Sb.r))
        (refine GO.nil ?_; refine kblock_n ?_; refine kthen_n ?_; refine G.region ?_; refine GO.move rfl rfl ?_; refine GO.addi rfl rfl rfl (by omega) ?_; refine GO.assign rfl rfl ?_; refine GO.nil ?_; refine kthen_n ?_)
        refine ⟨k + 1, upd vs r v4, by omega, by omega, ?_, ?_⟩
        · (refine SubE.c rfl rfl ?_; refine SubE.c rfl rfl ?_; refine SubE.c rfl rfl ?_; exact SubE.n)
        · ((refine Sb.c (Tk.t Tk.h) ?_; refine Sb.c Tk.h ?_; refine Sb.c Tk.h ?_; refine Sb.c Tk.h ?_); (exact Sb.r))
      · obtain rfl : k = (cellsX C).length := by omega
        have e3 : fam 3 1 s vs (fun i => (colsK C (cellsX C).length i).length) (fun i => natsV (colsK C (cellsX C).length i)) = fam 3 1 s vs (fun i => (rowX C i).length) (fun i => natsV (rowX C i)) := fam_congr fun i hi => ⟨rfl, by rw [hend i hi], by rw [hend i hi]⟩
        rw [e3]
        (refine G.exit ?_; refine kthen_x ?_; refine kthen_x ?_; refine kblock_x ?_; refine kthen_n ?_; refine G.seq ?_; refine G.region ?_; refine GO.move rfl rfl ?_; refine GO.assign rfl rfl ?_; refine GO.nil ?_; refine kthen_n ?_; refine G.ret ?_)
        refine KF2.r1 rfl (RV.t rfl) ⟨_, vs, rfl, rfl⟩ (ImpS.sb ?_)
        ((refine Sb.c Tk.h ?_; refine Sb.c Tk.h ?_; refine Sb.c (Tk.t Tk.h) ?_); (refine Sb.s ?_; exact Sb.r))
  unfold Fn at *
  intro F w hw
  refine (key F w hw).mono ?_
  rintro e w' ⟨v, Q, e1, e2, ⟨bl, vs, rfl, rfl⟩, hd⟩
  exact ⟨_, [star _, z], e1, e2, ⟨_, next_form hd, rfl⟩, sat_flat.2 hd⟩
end Go.Proofs.YtpfcgfgkmgnaaaaDoor
namespace Go.Proofs.YtpfcgfgkmgnaaaaDoor
open Go
/-- What holds between two rows that are taken up. -/
structure RchI (s : Nat) (M : Nat → Nat → Bool) (i : Nat) (A : Nat → Bool) (W : List Nat) : Prop where
  met : ∀ j, A j = true → PathX M i j
  work : ∀ j ∈ W, j = i ∨ A j = true
  next : ∀ k, (k = i ∨ A k = true) → k ∈ W ∨ ∀ j, M k j = true → A j = true
  len : W.length ≤ cntA A s + 1
/-- What holds while row k's columns are gone through, n of them behind. -/
structure RchJ (s : Nat) (M : Nat → Nat → Bool) (i k n B : Nat) (A : Nat → Bool) (W : List Nat) : Prop where
  met : ∀ j, A j = true → PathX M i j
  work : ∀ j ∈ W, j = i ∨ A j = true
  next : ∀ x, (x = i ∨ A x = true) → x ∈ W ∨ x = k ∨ ∀ j, M x j = true → A j = true
  root : k = i ∨ A k = true
  part : ∀ j ∈ (rowX M k).take n, A j = true
  len : W.length ≤ cntA A s
  mu : 2 * (s - cntA A s) + W.length ≤ B
theorem RchI.start (s : Nat) (M : Nat → Nat → Bool) (i : Nat) : RchI s M i (fun _ => false) [i] where
  met := fun j h => by cases h
  work := fun j h => .inl (List.mem_singleton.1 h)
  next := fun k h => by
    rcases h with rfl | h
    · exact .inl (List.mem_singleton.2 rfl)
    · cases h
  len := by show 1 ≤ _; omega
theorem RchI.lt {s : Nat} {M : Nat → Nat → Bool} {i : Nat} {A : Nat → Bool} {W : List Nat} (h : RchI s M i A W) (hM : ∀ r c, M r c = true → r < s ∧ c < s) (hi : i < s) : ∀ j ∈ W, j < s := fun j hj => by
  rcases h.work j hj with rfl | h2
  · exact hi
  · have hp := h.met j h2
    clear hj h h2
    induction hp with
    | one a => exact (hM _ _ a).2
    | more a _ ih => exact ih (hM _ _ a).2
theorem RchI.pop {s : Nat} {M : Nat → Nat → Bool} {i k : Nat} {A : Nat → Bool} {W : List Nat} (h : RchI s M i A (W ++ [k])) : RchJ s M i k 0 (2 * (s - cntA A s) + W.length) A W where
  met := h.met
  work := fun j hj => h.work j (List.mem_append_left _ hj)
  next := fun x hx => by
    rcases h.next x hx with g | g
    · rcases List.mem_append.1 g with g | g
      · exact .inl g
      · exact .inr (.inl (List.mem_singleton.1 g))
    · exact .inr (.inr g)
  root := h.work k (List.mem_append_right _ (List.mem_singleton.2 rfl))
  part := fun j hj => by rw [List.take_zero] at hj; cases hj
  len := by have := h.len; rw [List.length_append] at this; have e : [k].length = 1 := rfl; omega
  mu := Nat.le_refl _
theorem RchJ.old {s : Nat} {M : Nat → Nat → Bool} {i k n B j : Nat} {A : Nat → Bool} {W : List Nat} (h : RchJ s M i k n B A W) (hj : (rowX M k)[n]? = some j) (hA : A j = true) : RchJ s M i k (n + 1) B A W :=
  have hp : ∀ x ∈ (rowX M k).take (n + 1), A x = true := fun x hx => by
    rw [List.take_add_one, hj] at hx
    rcases List.mem_append.1 hx with g | g
    · exact h.part x g
    · rw [show x = j from by simpa using g]; exact hA
  ⟨h.met, h.work, h.next, h.root, hp, h.len, h.mu⟩
theorem RchJ.new {s : Nat} {M : Nat → Nat → Bool} (hs : s ≤ 1024) (hM : ∀ r c, M r c = true → r < s ∧ c < s) {i k n B j : Nat} {A : Nat → Bool} {W : List Nat} (h : RchJ s M i k n B A W) (hj : (rowX M k)[n]? = some j) (hA : A j = false) : RchJ s M i k (n + 1) B (upd A j true) (W ++ [j]) := by
  have hkj := (rowX_memS hs hM).1 (List.mem_of_getElem? hj)
  have hjs := (hM _ _ hkj).2
  have hup : ∀ x, A x = true → upd A j true x = true := fun x hx => by unfold upd; split <;> simp_all
  have hat : upd A j true j = true := upd_at A j true
  have hc := cntA_upd hjs hA
  have hc2 := cntA_le (upd A j true) s
  have e1 : [j].length = 1 := rfl
  refine ⟨fun x hx => ?_, fun x hx => ?_, fun x hx => ?_, ?_, fun x hx => ?_, ?_, ?_⟩
  · by_cases e : x = j
    · rw [e]
      rcases h.root with rfl | g
      · exact .one hkj
      · exact (h.met k g).trans (.one hkj)
    · rw [upd_ne A true e] at hx; exact h.met x hx
  · rcases List.mem_append.1 hx with g | g
    · exact (h.work x g).imp id (hup x)
    · rw [List.mem_singleton.1 g]; exact .inr hat
  · by_cases e : x = j
    · rw [e]; exact .inl (List.mem_append_right _ (List.mem_singleton.2 rfl))
    · have hx2 : x = i ∨ A x = true := hx.imp id (fun g => by rw [upd_ne A true e] at g; exact g)
      rcases h.next x hx2 with g | g | g
      · exact .inl (List.mem_append_left _ g)
      · exact .inr (.inl g)
      · exact .inr (.inr fun y hy => hup y (g y hy))
  · exact h.root.imp id (hup k)
  · rw [List.take_add_one, hj] at hx
    rcases List.mem_append.1 hx with g | g
    · exact hup x (h.part x g)
    · rw [show x = j from by simpa using g]; exact hat
  · have := h.len
    rw [hc, List.length_append]; omega
  · have := h.mu
    rw [hc, List.length_append]; omega
theorem RchJ.end {s : Nat} {M : Nat → Nat → Bool} (hs : s ≤ 1024) (hM : ∀ r c, M r c = true → r < s ∧ c < s) {i k B : Nat} {A : Nat → Bool} {W : List Nat} (h : RchJ s M i k (rowX M k).length B A W) : RchI s M i A W where
  met := h.met
  work := h.work
  next := fun x hx => by
    rcases h.next x hx with g | rfl | g
    · exact .inl g
    · exact .inr fun j hj => h.part j (by rw [List.take_length]; exact (rowX_memS hs hM).2 hj)
    · exact .inr g
  len := by have := h.len; omega
theorem RchI.end {s : Nat} {M X : Nat → Nat → Bool} {i : Nat} {A : Nat → Bool} (h : RchI s M i A []) (hX : IsClo M X) : A = X i := by
  funext j
  rw [Bool.eq_iff_iff, hX.path]
  refine ⟨h.met j, fun hp => ?_⟩
  have key : ∀ r k, PathX M r k → (r = i ∨ A r = true) → A k = true := fun r k hp => by
    induction hp with
    | one a => exact fun g => (h.next _ g).elim (fun x => by cases x) (fun f => f _ a)
    | more a _ ih => exact fun g => ih (.inr ((h.next _ g).elim (fun x => by cases x) (fun f => f _ a)))
  exact key i j hp (.inl rfl)
attribute [local irreducible] G GO GR GT Fn FnV pt init exs pur sat own ImpS mat posL allV orL restX cellsX cellsV natsV rowX cntA
set_option maxHeartbeats 16000000 in
theorem reached_spec (Z : HP) (v : Value) (s : Nat) (M X : Nat → Nat → Bool) (hZ : NextR Z v s M) (h1 : 1 ≤ s) (h2 : s ≤ 1024) (hM : ∀ r c, M r c = true → r < s ∧ c < s) (hX : IsClo M X) (i : Nat) (hi : i < s) :
    Fn Tryd.prog 67 #[v, i64 (i : Nat)] [Z] (fun r Q => ∃ bM, r = .slice (some ⟨bM, 0, none⟩) s s ∧ Q = [onR bM (X i) s, Z]) := by
  obtain ⟨bl, vs, rfl, hZ⟩ := hZ
  refine Fn.mk2 Tryd.func67 rfl rfl fun w0 F => ?_
  (refine G.seq ?_; refine G.region ?_; refine GO.assign rfl rfl ?_; refine GO.nil ?_; refine kthen_n ?_; refine G.seq ?_; refine G.region ?_; refine GO.move rfl rfl ?_; refine GO.lenS rfl rfl ?_)
  refine GO.make1 (n := s) rfl rfl rfl ⟨rfl, rfl⟩ ⟨by omega, by omega⟩ fun bM => ?_
  rw [show List.replicate s (Value.bool false) = rowV (fun x : Bool => Value.bool x) (fun _ => false) s from rowV_const (f := fun x : Bool => Value.bool x) (a := false)]
  refine GO.ownNil (T := 3) (sz := 1) ?_
  (refine GO.assign rfl rfl ?_; refine GO.nil ?_; refine kthen_n ?_; refine G.seq ?_; refine G.region ?_; refine GO.assign rfl rfl ?_; refine GO.nil ?_; refine kthen_n ?_; refine G.seq ?_; refine G.region ?_; refine GO.move rfl rfl ?_; refine GO.move rfl rfl ?_)
  refine GO.buildSlice1 rfl rfl (by simp; rfl) rfl ⟨by omega, by omega⟩ fun bs => ?_
  refine GO.appendOwn (m := 1) (news := [i64 (i : Nat)]) rfl rfl rfl (Tk.t Tk.h) Tk.h rfl (by simp [Value.oneCell']) ⟨by decide, rfl⟩ Nat.one_pos (by unfold maxLen; omega) (by omega) fun v0 => ?_
  rw [show ([] : List Value) ++ [i64 (i : Nat)] = natsV [i] by unfold natsV; rfl]
  (refine GO.assign rfl rfl ?_; refine GO.nil ?_; refine kthen_n ?_; refine G.seq ?_; refine G.block ?_)
  refine G.loop3 (fun (A : Nat → Bool) (W : List Nat) (v : Value) => [(0, .slice (some ⟨bl, 0, none⟩) s s), (5, .slice (some ⟨bM, 0, none⟩) s s), (6, v)])
    (fun A W v => own 3 1 W.length v (natsV W) :: onR bM A s :: Z :: F) (fun A W _ => RchI s M i A W) (fun A W _ => 2 * (s - cntA A s) + W.length) (fun _ => false) [i] v0 (RchI.start s M i) ?_ ?_ ?_
  · (refine SubE.c rfl rfl ?_; refine SubE.c rfl rfl ?_; refine SubE.c rfl rfl ?_; exact SubE.n)
  · ((refine Sb.c Tk.h ?_; refine Sb.c (Tk.t Tk.h) ?_; refine Sb.c (Tk.t Tk.h) ?_); (refine Sb.s ?_; exact Sb.r))
  · rintro A W v hI
    have hlW := hI.len
    have hcA := cntA_le A s
    (refine G.seq ?_; refine G.seq ?_; refine G.region ?_; refine GO.move rfl rfl ?_; refine GO.lenOwn rfl rfl Tk.h ?_; refine GO.gti rfl rfl rfl ?_; refine GO.nil ?_; refine kthen_n ?_)
    refine G.condD rfl (fun hlt => ?_) (fun hge => ?_)
    · have hne : W ≠ [] := fun h => by rw [h] at hlt; exact absurd hlt (by show ¬ (0 : Int) < ((0 : Nat) : Int); omega)
      obtain ⟨W', k, rfl⟩ : ∃ W' k, W = W' ++ [k] := ⟨W.dropLast, W.getLast hne, (List.dropLast_concat_getLast hne).symm⟩
      have hln : (W' ++ [k]).length = W'.length + 1 := by rw [List.length_append]; rfl
      have hks := hI.lt hM hi k (List.mem_append_right _ (List.mem_singleton.2 rfl))
      have hget : (W' ++ [k])[W'.length]? = some k := by rw [List.getElem?_append_right (Nat.le_refl _), Nat.sub_self]; rfl
      have hJ0 := hI.pop
      refine G.ownForm (n' := (W' ++ [k]).length) (by omega) Tk.h fun bw cw e1 _ _ _ => ?_
      subst e1
      have rW : Rd (own 3 1 (W' ++ [k]).length (.slice (some ⟨bw, 0, none⟩) (W' ++ [k]).length cw) (natsV (W' ++ [k]))) ⟨bw, 0 + W'.length * 1, none⟩ (i64 (k : Nat)) := by rw [Nat.zero_add, Nat.mul_one]; exact Rd.own (natsV_get hget)
      obtain ⟨hZr, hZs⟩ := hZ k hks
      obtain ⟨ak, ck, ek, _, hrk⟩ := hZs
      have rk : Rd Z ⟨bl, 0 + k * 1, none⟩ (.slice ak (rowX M k).length ck) := by rw [Nat.zero_add, Nat.mul_one, ← ek]; exact hZr
      have hrl := rowX_lens h2 hM k
      (refine G.skip ?_; refine kthen_n ?_; refine G.block ?_; refine G.seq ?_; refine G.region ?_; refine GO.move rfl rfl ?_; refine GO.move rfl rfl ?_; refine GO.lenS rfl rfl ?_; refine GO.subi rfl rfl rfl (by omega) ?_)
      rw [show (((W' ++ [k]).length : Nat) : Int) - 1 = ((W'.length : Nat) : Int) by omega]
      (refine GO.idxS rfl rfl rfl ⟨rfl, by omega⟩ ?_; refine GO.loadQ rfl rfl rfl Tk.h (by assumption) ?_; refine GO.assign rfl rfl ?_; refine GO.nil ?_; refine kthen_n ?_; refine G.seq ?_; refine G.region ?_; refine GO.move rfl rfl ?_; refine GO.move rfl rfl ?_; refine GO.lenS rfl rfl ?_; refine GO.subi rfl rfl rfl (by omega) ?_)
      rw [show (((W' ++ [k]).length : Nat) : Int) - 1 = ((W'.length : Nat) : Int) by omega]
      refine GO.cutOwn (h := W'.length) rfl rfl rfl ⟨rfl, by omega⟩ Tk.h fun vC => ?_
      rw [natsW_take]
      (refine GO.assign rfl rfl ?_; refine GO.nil ?_; refine kthen_n ?_; refine G.seq ?_; refine G.region ?_; refine GO.assign rfl rfl ?_; refine GO.nil ?_; refine kthen_n ?_; refine G.block ?_)
      generalize hB : 2 * (s - cntA A s) + W'.length = B at hJ0
      refine G.loop4 (fun (n : Nat) (A : Nat → Bool) (W : List Nat) (v : Value) => [(0, .slice (some ⟨bl, 0, none⟩) s s), (5, .slice (some ⟨bM, 0, none⟩) s s), (6, v), (7, i64 (k : Nat)), (8, i64 (n : Nat))])
        (fun n A W v => own 3 1 W.length v (natsV W) :: onR bM A s :: Z :: F) (fun n A W _ => n ≤ (rowX M k).length ∧ RchJ s M i k n B A W) (fun n _ _ _ => (rowX M k).length - n) 0 A W' vC ⟨by omega, hJ0⟩ ?_ ?_ ?_
      · (refine SubE.c rfl rfl ?_; refine SubE.c rfl rfl ?_; refine SubE.c rfl rfl ?_; refine SubE.c rfl rfl ?_; refine SubE.c rfl rfl ?_; exact SubE.n)
      · ((refine Sb.c Tk.h ?_; refine Sb.c Tk.h ?_; refine Sb.c Tk.h ?_); (exact Sb.r))
      · rintro n A2 W2 v2 ⟨hn, hJ⟩
        have hl2 := hJ.len
        have hc2 := cntA_le A2 s
        (refine G.seq ?_; refine G.seq ?_; refine G.region ?_; refine GO.move rfl rfl ?_; refine GO.move rfl rfl ?_; refine GO.move rfl rfl ?_; refine GO.idxS rfl rfl rfl ⟨rfl, by omega⟩ ?_; refine GO.loadQ rfl rfl rfl (Tk.t (Tk.t Tk.h)) (by assumption) ?_; refine GO.lenS rfl rfl ?_; refine GO.lti rfl rfl rfl ?_; refine GO.nil ?_; refine kthen_n ?_)
        refine G.condD rfl (fun hlt2 => ?_) (fun hge => ?_)
        · have hnl : n < (rowX M k).length := by omega
          obtain ⟨j, hj⟩ : ∃ j, (rowX M k)[n]? = some j := ⟨_, List.getElem?_eq_getElem hnl⟩
          have hjs := (hM _ _ ((rowX_memS h2 hM).1 (List.mem_of_getElem? hj))).2
          obtain ⟨bo, oo, rfl, hrk2⟩ := hrk (by omega)
          have rj : Rd Z ⟨bo, oo + n * 1, none⟩ (i64 (j : Nat)) := by rw [Nat.mul_one]; exact hrk2 _ _ (natsV_get hj)
          cases hA : A2 j with
          | true =>
            have hnew := hJ.old hj hA
            have hnA : (!A2 j) = false := by rw [hA]; rfl
            (refine G.skip ?_; refine kthen_n ?_; refine G.seq ?_; refine G.block ?_; refine G.seq ?_; refine G.region ?_; refine GO.move rfl rfl ?_; refine GO.move rfl rfl ?_; refine GO.idxS rfl rfl rfl ⟨rfl, by omega⟩ ?_; refine GO.loadQ rfl rfl rfl (Tk.t (Tk.t Tk.h)) (by assumption) ?_; refine GO.move rfl rfl ?_; refine GO.idxS rfl rfl rfl ⟨rfl, by omega⟩ ?_; refine GO.loadQ rfl rfl rfl (Tk.t (Tk.t Tk.h)) (by assumption) ?_; refine GO.assign rfl rfl ?_; refine GO.nil ?_; refine kthen_n ?_; refine G.seq ?_; refine G.region ?_; refine GO.move rfl rfl ?_; refine GO.move rfl rfl ?_; refine GO.idxS rfl rfl rfl ⟨rfl, by omega⟩ ?_; refine GO.load1 rfl rfl rfl (Tk.t Tk.h) (rowV_get1 (by assumption)) ?_; refine GO.not rfl rfl ?_; refine GO.nil ?_; refine kthen_n ?_; refine G.condF rfl (by assumption) ?_; refine G.skip ?_; refine kblock_n ?_; refine kthen_n ?_; refine G.region ?_; refine GO.move rfl rfl ?_; refine GO.addi rfl rfl rfl (by omega) ?_; refine GO.assign rfl rfl ?_; refine GO.nil ?_; refine kthen_n ?_)
            refine ⟨n + 1, A2, W2, v2, ⟨by omega, hnew⟩, by omega, ?_, ?_⟩
            · (refine SubE.c rfl rfl ?_; refine SubE.c rfl rfl ?_; refine SubE.c rfl rfl ?_; refine SubE.c rfl rfl ?_; refine SubE.c rfl rfl ?_; exact SubE.n)
            · ((refine Sb.c Tk.h ?_; refine Sb.c Tk.h ?_; refine Sb.c Tk.h ?_); (exact Sb.r))
          | false =>
            have hnew := hJ.new h2 hM hj hA
            have hnA : (!A2 j) = true := by rw [hA]; rfl
            (refine G.skip ?_; refine kthen_n ?_; refine G.seq ?_; refine G.block ?_; refine G.seq ?_; refine G.region ?_; refine GO.move rfl rfl ?_; refine GO.move rfl rfl ?_; refine GO.idxS rfl rfl rfl ⟨rfl, by omega⟩ ?_; refine GO.loadQ rfl rfl rfl (Tk.t (Tk.t Tk.h)) (by assumption) ?_; refine GO.move rfl rfl ?_; refine GO.idxS rfl rfl rfl ⟨rfl, by omega⟩ ?_; refine GO.loadQ rfl rfl rfl (Tk.t (Tk.t Tk.h)) (by assumption) ?_; refine GO.assign rfl rfl ?_; refine GO.nil ?_; refine kthen_n ?_; refine G.seq ?_; refine G.region ?_; refine GO.move rfl rfl ?_; refine GO.move rfl rfl ?_; refine GO.idxS rfl rfl rfl ⟨rfl, by omega⟩ ?_; refine GO.load1 rfl rfl rfl (Tk.t Tk.h) (rowV_get1 (by assumption)) ?_; refine GO.not rfl rfl ?_; refine GO.nil ?_; refine kthen_n ?_; refine G.condT rfl (by assumption) ?_; refine G.seq ?_; refine G.region ?_; refine GO.move rfl rfl ?_; refine GO.move rfl rfl ?_; refine GO.idxS rfl rfl rfl ⟨rfl, by omega⟩ ?_)
            refine GO.store1 rfl rfl rfl (Tk.t Tk.h) (by rw [rowV_len]; omega) ?_
            rw [rowV_set (f := fun x : Bool => Value.bool x)]
            (refine GO.nil ?_; refine kthen_n ?_; refine G.region ?_; refine GO.move rfl rfl ?_; refine GO.move rfl rfl ?_)
            refine GO.buildSlice1 rfl rfl (by simp; rfl) rfl ⟨by omega, by omega⟩ fun bs => ?_
            refine GO.appendOwn (m := 1) (news := [i64 (j : Nat)]) rfl rfl rfl (Tk.t (Tk.t Tk.h)) Tk.h rfl (by simp [Value.oneCell']) ⟨by decide, rfl⟩ Nat.one_pos (by unfold maxLen; omega) (by omega) fun v4 => ?_
            rw [natsV_one, show W2.length + 1 = (W2 ++ [j]).length by rw [List.length_append]; rfl]
            (refine GO.assign rfl rfl ?_; refine GO.nil ?_; refine kblock_n ?_; refine kthen_n ?_; refine G.region ?_; refine GO.move rfl rfl ?_; refine GO.addi rfl rfl rfl (by omega) ?_; refine GO.assign rfl rfl ?_; refine GO.nil ?_; refine kthen_n ?_)
            refine ⟨n + 1, upd A2 j true, W2 ++ [j], v4, ⟨by omega, hnew⟩, by omega, ?_, ?_⟩
            · (refine SubE.c rfl rfl ?_; refine SubE.c rfl rfl ?_; refine SubE.c rfl rfl ?_; refine SubE.c rfl rfl ?_; refine SubE.c rfl rfl ?_; exact SubE.n)
            · ((refine Sb.c Tk.h ?_; refine Sb.c (Tk.t Tk.h) ?_; refine Sb.c (Tk.t Tk.h) ?_); (refine Sb.s ?_; exact Sb.r))
        · obtain rfl : n = (rowX M k).length := by omega
          have hmu := hJ.mu
          (refine G.exit ?_; refine kthen_x ?_; refine kthen_x ?_; refine kblock_x ?_; refine kblock_n ?_; refine kthen_n ?_)
          refine ⟨A2, W2, v2, hJ.end h2 hM, by omega, ?_, ?_⟩
          · (refine SubE.c rfl rfl ?_; refine SubE.c rfl rfl ?_; refine SubE.c rfl rfl ?_; exact SubE.n)
          · ((refine Sb.c Tk.h ?_; refine Sb.c Tk.h ?_; refine Sb.c Tk.h ?_); (exact Sb.r))
    · have hW : W = [] := List.eq_nil_of_length_eq_zero (by omega)
      subst hW
      have hAX := hI.end hX
      subst hAX
      (refine G.exit ?_; refine kthen_x ?_; refine kthen_x ?_; refine kblock_x ?_; refine kthen_n ?_; refine G.seq ?_; refine G.region ?_; refine GO.move rfl rfl ?_; refine GO.assign rfl rfl ?_; refine GO.nil ?_; refine kthen_n ?_; refine G.ret ?_)
      refine KF2.r1 rfl (RV.t rfl) ⟨_, rfl, rfl⟩ (ImpS.sb ?_)
      ((refine Sb.c (Tk.t Tk.h) ?_; refine Sb.c (Tk.t Tk.h) ?_); (refine Sb.s ?_; exact Sb.r))
end Go.Proofs.YtpfcgfgkmgnaaaaDoor
